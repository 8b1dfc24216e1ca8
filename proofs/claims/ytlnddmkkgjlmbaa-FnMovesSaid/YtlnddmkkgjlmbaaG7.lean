/- Parts of this claim's walks and of its plain proof. No conditions of their own. -/
import Derived.Test.YtlnddmkkgjlmbaaG4
namespace Go.Proofs.Ytlnddmkkgjlmbaa.Joi
open Classical Go.Proofs.Ytlnddmkkgjlmbaa.Kl Go.Proofs.YtlnddmkkgjlmbaaW.PrintWords
theorem Ma {α:Type} (q:α->Bool) (z:α) (l:List α):l.countP q=((List.range l.length).filter fun i=>q (l.getD i z)).length:=by
 induction l with
 |nil=>rfl
 |cons a l ih=>
  rw[List.length_cons,List.range_succ_eq_map,List.filter_cons,List.countP_cons,ih,List.filter_map]
  have e:((fun i=>q ((a::l).getD i z))∘Nat.succ)=fun i=>q (l.getD i z):=by funext i;rfl
  have e0:(a::l).getD 0 z=a:=rfl
  rw[e,e0]
  by_cases h:q a=true
  ·rw[if_pos h,if_pos h,List.length_cons,List.length_map]
  ·rw[if_neg h,if_neg h,List.length_map];omega
def xF (g:List (List Int)) (c:Nat):Int:=g.flatten.getD c 0
theorem DF (g:List (List Int)) (p:Nat):(g.take p).flatten.length=fst g p:=by unfold fst;rw[List.length_flatten]
theorem Sp {g:List (List Int)} {p i:Nat} (h:Dy g p i):xF g (LP g p i)=Fx g p i:=by
 obtain⟨hp,hi⟩:=h
 have e:g=g.take p++(row g p)::g.drop (p+1):=by
  have h1:row g p=g[p]:=by simp[row,List.getD_eq_getElem?_getD,hp]
  rw[h1,<-List.drop_eq_getElem_cons hp,List.take_append_drop]
 have e2:g.flatten=(g.take p).flatten++(row g p++(g.drop (p+1)).flatten):=by
  conv=>lhs;rw[e]
  rw[List.flatten_append,List.flatten_cons]
 unfold xF LP
 rw[e2,List.getD_eq_getElem?_getD,List.getElem?_append_right (by rw[DF];omega),DF,show fst g p+i-fst g p=i by omega,List.getElem?_append_left hi,List.getElem?_eq_getElem hi]
 unfold Fx
 rw[Go.Proofs.Ytlnddmkkgjlmbaa.Com.CR hi]
 rfl
theorem QP {g:List (List Int)} {c:Nat} (h:c<Ee g): ∃p i,Dy g p i/\c=LP g p i:=QI g.length (Nat.le_refl _) c h
def Ov (g:List (List Int)):Prop:= ∀y:Nat,g.flatten.countP (fun x=>x.natAbs==y)<=2
theorem Pb (g:List (List Int)):g.flatten.length=Ee g:=by unfold Ee fst;rw[List.length_flatten,List.take_length]
set_option linter.unusedSectionVars false
section
variable {g : List (List Int)} (hc : Kt g) (hz : NZ g) (h2 : Ov g)
include hc hz h2
def QW (g:List (List Int)) (ys:List Nat):Prop:=ys.Nodup/\∀y,y∈ys↔g.flatten.countP (fun x=>x.natAbs==y)=1
def HN (g:List (List Int)) (ys:List Nat):Prop:=ys.Nodup/\∀y,y∈ys↔∃p i,Dy g p i/\(Fx g p i).natAbs=y
def TH (g:List (List Int)) (t:Nat->Bool):Prop:= ∀p i q j,Dy g p i->Dy g q j->(p≠q\/i≠j)->(Fx g p i).natAbs=(Fx g q j).natAbs->(decide (0<Fx g p i) != t p)≠(decide (0<Fx g q j) != t q)
end
end Go.Proofs.Ytlnddmkkgjlmbaa.Joi
namespace Go.Proofs.Ytlnddmkkgjlmbaa.Joi
open Go.Proofs.Ytlnddmkkgjlmbaa.Kl Go.Proofs.YtlnddmkkgjlmbaaW.PrintWords
set_option linter.unusedVariables false
set_option linter.unusedSimpArgs false
set_option linter.unusedSectionVars false
theorem Qc {α:Type} {P:α->Prop} {a:α} {l:List α}:(∃x,x∈a::l/\P x)↔P a\/∃x,x∈l/\P x:=by
 constructor
 ·rintro⟨x,hx,k⟩
  rcases List.mem_cons.1 hx with rfl|hx
  ·exact .inl k
  ·exact .inr ⟨x,hx,k⟩
 ·rintro(k|⟨x,hx,k⟩)
  ·exact⟨a,List.mem_cons_self,k⟩
  ·exact⟨x,List.mem_cons_of_mem _ hx,k⟩
def pr:List Int->List (Int×Int)
 |x::y::t=>(x,y)::pr (y::t)
 |_=>[]
theorem OA (s:List Int) (y:Int) (t:List Int):pr (s++y::t)=pr (s++[y])++pr (y::t):=by
 induction s with
 |nil=>rfl
 |cons a s ih=>
  cases s with
  |nil=>rfl
  |cons b s=>
   show(a,b)::pr (b::s++y::t)=((a,b)::pr (b::s++[y]))++pr (y::t)
   rw[ih]
   rfl
theorem SP (l:List Int) (p:Int×Int):p∈pr l↔∃i,i+1<l.length/\p=(l.getD i 0,l.getD (i+1) 0):=by
 induction l with
 |nil=>exact⟨fun h=>(List.not_mem_nil h).elim,fun⟨i,h,_⟩=>by simp at h⟩
 |cons a t ih=>
  cases t with
  |nil=>exact⟨fun h=>(List.not_mem_nil h).elim,fun⟨i,h,_⟩=>by simp at h⟩
  |cons b t=>
   show p∈(a,b)::pr (b::t)↔_
   rw[List.mem_cons,ih]
   constructor
   ·rintro(rfl|⟨i,h,rfl⟩)
    ·exact⟨0,by simp,rfl⟩
    ·exact⟨i+1,by simpa using h,rfl⟩
   ·rintro⟨i,h,rfl⟩
    cases i with
    |zero=>exact .inl rfl
    |succ i=>exact .inr ⟨i,by simpa using h,rfl⟩
def cp:List Int->List (Int×Int)
 |[]=>[]
 |a::t=>pr (a::t++[a])
theorem Jf (a b:List Int) (p:Int×Int):p∈cp (a++b)↔p∈cp (b++a):=by
 cases a with
 |nil=>simp
 |cons x s=>
  cases b with
  |nil=>simp
  |cons y t=>
   have e1:cp (x::s++y::t)=pr (x::s++[y])++pr (y::(t++[x])):=by
    show pr (x::(s++y::t)++[x])=_
    rw[<-OA]
    congr 1
    simp
   have e2:cp (y::t++x::s)=pr (y::t++[x])++pr (x::(s++[y])):=by
    show pr (y::(t++x::s)++[y])=_
    rw[<-OA]
    congr 1
    simp
   rw[e1,e2,List.mem_append,List.mem_append]
   exact Or.comm
def iv (w:List Int):List Int:=(w.map fun x=> -x).reverse
theorem KA (a:Int) (t:List Int):iv (a::t)=iv t++[-a]:=by simp[iv]
theorem Vy (a b:List Int):iv (a++b)=iv b++iv a:=by simp[iv]
theorem Qg (a:List Int):iv (iv a)=a:=by
 unfold iv
 rw[List.map_reverse,List.reverse_reverse,List.map_map]
 exact(List.map_congr_left fun x _=>by simp).trans (List.map_id a)
theorem OE {w:List Int} {x:Int}:x∈iv w↔ -x∈w:=by
 unfold iv
 rw[List.mem_reverse,List.mem_map]
 constructor
 ·rintro⟨y,hy,rfl⟩;simpa using hy
 ·exact fun h=>⟨-x,h,by simp⟩
theorem Xx (l:List Int): ∀p,p∈pr l->(-p.2,-p.1)∈pr (iv l):=by
 induction l with
 |nil=>exact fun p h=>(List.not_mem_nil h).elim
 |cons a t ih=>
  cases t with
  |nil=>exact fun p h=>(List.not_mem_nil h).elim
  |cons b t=>
   intro p h
   have e:iv (a::b::t)=iv t++ -b::[-a]:=by rw[KA,KA];simp
   rw[e,OA,List.mem_append]
   rcases List.mem_cons.1 h with rfl|h
   ·exact .inr (by simp[pr])
   ·refine .inl ?_
    have:=ih p h
    rwa[KA]at this
theorem Xj (w:List Int): ∀p,p∈cp w->(-p.2,-p.1)∈cp (iv w):=by
 intro p h
 cases w with
 |nil=>exact(List.not_mem_nil h).elim
 |cons a t=>
  have h1:=Xx _ p h
  rw[KA,Jf]
  show _∈pr (-a::iv t++[-a])
  have e:iv (a::t++[a])= -a::iv t++[-a]:=by rw[Vy,KA];simp[iv]
  rwa[e]at h1
theorem Nk {w:List Int} {p:Int×Int} (h:p∈cp w):p.1∈w/\p.2∈w:=by
 cases w with
 |nil=>exact(List.not_mem_nil h).elim
 |cons a t=>
  obtain⟨i,hi,rfl⟩:=(SP _ _).1 h
  have hl:(a::t++[a]).length=t.length+2:=by simp
  have hm: ∀j,j<(a::t++[a]).length->(a::t++[a]).getD j 0∈a::t:=fun j hj=>by
   rw[List.getD_eq_getElem?_getD,List.getElem?_eq_getElem hj,Option.getD_some]
   have:=List.getElem_mem hj
   rcases List.mem_append.1 this with h|h
   ·exact h
   ·rw[List.mem_singleton.1 h];exact List.mem_cons_self
  exact⟨hm i (by omega),hm (i+1) hi⟩
theorem Sf (w:List Int) (p:Int×Int):p∈cp w↔∃i,i<w.length/\p=(w.getD i 0,w.getD ((i+1) % w.length) 0):=by
 cases w with
 |nil=>exact⟨fun h=>(List.not_mem_nil h).elim,fun⟨i,h,_⟩=>by simp at h⟩
 |cons a t=>
  show p∈pr (a::t++[a])↔_
  rw[SP]
  have hl:(a::t++[a]).length=(a::t).length+1:=by simp
  have e1: ∀i,i<(a::t).length->(a::t++[a]).getD i 0=(a::t).getD i 0:=fun i hi=>by
   rw[List.getD_eq_getElem?_getD,List.getElem?_append_left hi,<-List.getD_eq_getElem?_getD]
  have e2: ∀i,i<(a::t).length->(a::t++[a]).getD (i+1) 0=(a::t).getD ((i+1) % (a::t).length) 0:=fun i hi=>by
   by_cases h:i+1<(a::t).length
   ·rw[e1 _ h,Nat.mod_eq_of_lt h]
   ·have h1:i+1=(a::t).length:=by omega
    rw[h1,Nat.mod_self,List.getD_eq_getElem?_getD,List.getElem?_append_right (Nat.le_refl _),Nat.sub_self]
    rfl
  constructor
  ·rintro⟨i,hi,rfl⟩
   exact⟨i,by omega,by rw[e1 i (by omega),e2 i (by omega)]⟩
  ·rintro⟨i,hi,rfl⟩
   exact⟨i,by omega,by rw[e1 i (by omega),e2 i (by omega)]⟩
def FJ (x:Int):Nat:=2*x.natAbs+if x<0 then 1 else 0
def Gf (x:Int):Nat:=2*x.natAbs+if 0<x then 1 else 0
theorem Iq {x:Int} (h:x≠0):FJ (-x)=Gf x:=by
 unfold FJ Gf
 rw[Int.natAbs_neg]
 split<;>split<;>omega
theorem Ka {x:Int} (h:x≠0):Gf (-x)=FJ x:=by
 unfold FJ Gf
 rw[Int.natAbs_neg]
 split<;>split<;>omega
def Sx (g:List (List Int)) (e f:Nat):Prop:= ∃w∈g,∃p∈cp w,e=Gf p.1/\f=FJ p.2
theorem Hb {g:List (List Int)} {w:List Int}:w∈g↔∃p,p<g.length/\row g p=w:=by
 constructor
 ·intro h
  obtain⟨p,hp,rfl⟩:=List.getElem_of_mem h
  exact⟨p,hp,by unfold row;rw[List.getD_eq_getElem?_getD,List.getElem?_eq_getElem hp,Option.getD_some]⟩
 ·rintro⟨p,hp,rfl⟩
  unfold row
  rw[List.getD_eq_getElem?_getD,List.getElem?_eq_getElem hp,Option.getD_some]
  exact List.getElem_mem hp
theorem Ft {g:List (List Int)} {p i:Nat} (h:Dy g p i):Fx g p i=(row g p).getD i 0:=by
 unfold Fx
 rw[Go.Proofs.Ytlnddmkkgjlmbaa.Com.CR h.2,List.getD_eq_getElem?_getD,List.getElem?_eq_getElem h.2,Option.getD_some]
theorem Vh (g:List (List Int)) (e f:Nat):Sl g e f↔Sx g e f:=by
 constructor
 ·rintro⟨p,i,hs,rfl,rfl⟩
  refine⟨row g p,Hb.2 ⟨p,hs.1,rfl⟩,_,(Sf _ _).2 ⟨i,hs.2,rfl⟩,?_,?_⟩
  ·unfold Hx Gf;rw[Ft hs]
  ·unfold Hu FJ;rw[Ft (Ex hs)]
 ·rintro⟨w,hw,q,hq,rfl,rfl⟩
  obtain⟨p,hp,rfl⟩:=Hb.1 hw
  obtain⟨i,hi,rfl⟩:=(Sf _ _).1 hq
  have hs:Dy g p i:=⟨hp,hi⟩
  refine⟨p,i,hs,?_,?_⟩
  ·unfold Hx Gf;rw[Ft hs]
  ·unfold Hu FJ;rw[Ft (Ex hs)]
theorem GQ {S S':Nat->Nat->Prop} (f:Nat->Nat) (h: ∀a b,S a b->EG S' (f a) (f b)) {a b:Nat} (e:EG S a b):EG S' (f a) (f b):=by
 induction e with
 |base h1=>exact h _ _ h1
 |refl a=>exact .refl _
 |symm _ ih=>exact .symm ih
 |trans _ _ i1 i2=>exact .trans i1 i2
theorem Wk {S:Nat->Nat->Prop} (P:Nat->Prop) (h: ∀a b,S a b->(P a↔P b)) {a b:Nat} (e:EG S a b):P a↔P b:=by
 induction e with
 |base h1=>exact h _ _ h1
 |refl a=>exact Iff.rfl
 |symm _ ih=>exact ih.symm
 |trans _ _ i1 i2=>exact i1.trans i2
theorem WI (g:List (List Int)) (e f:Nat):EG (Sl g) e f↔EG (Sx g) e f:=Ed (fun a b h=> .base ((Vh g a b).1 h)) (fun a b h=> .base ((Vh g a b).2 h)) e f
def IN (g:List (List Int)) (y:Nat):Prop:= ∃w∈g,∃x∈w,x.natAbs=y
def Nz (g:List (List Int)):Prop:= ∀w∈g,w≠[]/\∀x∈w,x≠0
theorem Gm (g:List (List Int)) (y:Nat):(∃p i,Dy g p i/\(Fx g p i).natAbs=y)↔IN g y:=by
 constructor
 ·rintro⟨p,i,hs,rfl⟩
  refine⟨row g p,Hb.2 ⟨p,hs.1,rfl⟩,_,?_,rfl⟩
  rw[Ft hs,List.getD_eq_getElem?_getD,List.getElem?_eq_getElem hs.2,Option.getD_some]
  exact List.getElem_mem hs.2
 ·rintro⟨w,hw,x,hx,rfl⟩
  obtain⟨p,hp,rfl⟩:=Hb.1 hw
  obtain⟨i,hi,rfl⟩:=List.getElem_of_mem hx
  have hs:Dy g p i:=⟨hp,hi⟩
  exact⟨p,i,hs,by rw[Ft hs,List.getD_eq_getElem?_getD,List.getElem?_eq_getElem hi,Option.getD_some]⟩
theorem Nz.nz {g:List (List Int)} (h:Nz g):NZ g:=by
 intro p i hs
 refine(h _ (Hb.2 ⟨p,hs.1,rfl⟩)).2 _ ?_
 rw[Ft hs,List.getD_eq_getElem?_getD,List.getElem?_eq_getElem hs.2,Option.getD_some]
 exact List.getElem_mem hs.2
def FR (es:List Nat):List Nat:=es.flatMap fun y=>[2*y,2*y+1]
theorem Fg {es:List Nat} {e:Nat}:e∈FR es↔∃y∈es,∃k,k<2/\e=2*y+k:=by
 unfold FR
 rw[List.mem_flatMap]
 constructor
 ·rintro⟨y,hy,h⟩
  simp only[List.mem_cons,List.not_mem_nil,or_false]at h
  rcases h with rfl|rfl
  ·exact⟨y,hy,0,by omega,rfl⟩
  ·exact⟨y,hy,1,by omega,rfl⟩
 ·rintro⟨y,hy,k,hk,rfl⟩
  refine⟨y,hy,?_⟩
  simp only[List.mem_cons,List.not_mem_nil,or_false]
  omega
theorem Is {g:List (List Int)} (hz:Nz g) {es:List Nat} (he:HN g es):Eh g=K (EG (Sx g)) (FR es):=by
 rw[<-La hz.nz (FR es) (fun e=>?_)]
 ·exact Ds _ _ (Bz _) (Bz _) _ _ (fun _=>Iff.rfl) (fun a b _ _=>WI g a b)
 ·rw[Fg]
  constructor
  ·rintro⟨y,hy,k,hk,rfl⟩
   obtain⟨p,i,hs,rfl⟩:=(he.2 y).1 hy
   exact⟨_,p,i,k,hs,hk,rfl,rfl⟩
  ·rintro⟨d,p,i,k,hs,hk,rfl,rfl⟩
   exact⟨_,(he.2 _).2 ⟨p,i,hs,rfl⟩,k,hk,rfl⟩
def Tl (g:List (List Int)) (fs:List Nat) (y z:Nat):Prop:=y∈fs/\z∈fs/\∃k l,k<2/\l<2/\EG (Sx g) (2*y+k) (2*z+l)
theorem He (g:List (List Int)) {fs:List Nat} (hn:fs.Nodup):Lj g fs=K (EG (Tl g fs)) fs:=by
 have hget: ∀a,a<fs.length->fs.getD a 0=fs.getD a 0/\fs.getD a 0∈fs:=fun a ha=>⟨rfl,by
  rw[List.getD_eq_getElem?_getD,List.getElem?_eq_getElem ha,Option.getD_some];exact List.getElem_mem ha⟩
 have hidx: ∀a,a<fs.length->fs.idxOf (fs.getD a 0)=a:=fun a ha=>by
  rw[List.getD_eq_getElem?_getD,List.getElem?_eq_getElem ha,Option.getD_some]
  exact hn.idxOf_getElem a ha
 have hback: ∀y,y∈fs->fs.getD (fs.idxOf y) 0=y:=fun y hy=>by
  have:=List.idxOf_lt_length_of_mem hy
  rw[List.getD_eq_getElem?_getD,List.getElem?_eq_getElem this,Option.getD_some,List.getElem_idxOf]
 unfold Lj
 refine Nl _ _ (Bz _) (Bz _) _ _ (fun a y=>fs.getD a 0=y) (fun a ha=>⟨_,(hget a (List.mem_range.1 ha)).2,rfl⟩) (fun y hy=>⟨fs.idxOf y,List.mem_range.2 (List.idxOf_lt_length_of_mem hy),hback y hy⟩) ?_
 rintro a y c z ha hc hy hz rfl rfl
 constructor
 ·intro h
  have:=GQ (S':=UD g fs) (fun y=>fs.idxOf y) (fun y z ⟨h1,h2,k,l,hk,hl,h3⟩=> .base ⟨List.idxOf_lt_length_of_mem h1,List.idxOf_lt_length_of_mem h2,k,l,hk,hl,by rw[hback y h1,hback z h2];exact(WI g _ _).2 h3⟩) h
  rwa[hidx a (List.mem_range.1 ha),hidx c (List.mem_range.1 hc)]at this
 ·intro h
  exact GQ (S':=Tl g fs) (fun a=>fs.getD a 0) (fun a c ⟨h1,h2,k,l,hk,hl,h3⟩=> .base ⟨(hget a h1).2,(hget c h2).2,k,l,hk,hl,(WI g _ _).1 h3⟩) h
def Rw (g:List (List Int)) (y z:Nat):Prop:= ∃w∈g,(∃x∈w,x.natAbs=y)/\∃x∈w,x.natAbs=z
theorem Gu {g:List (List Int)} (hz:Nz g) {es:List Nat} (he:HN g es):Hd g=K (EG (Rw g)) es:=by
 have hG: ∀p,p<g.length->row g p∈g:=fun p hp=>Hb.2 ⟨p,hp,rfl⟩
 have:=Vc (fun p y=>p<g.length/\∃x∈row g p,x.natAbs=y) (List.range g.length) es (fun p hp=>by
  have hp:=List.mem_range.1 hp
  obtain⟨x,hx⟩:=List.exists_mem_of_ne_nil _ (hz _ (hG p hp)).1
  exact⟨x.natAbs,(he.2 _).2 ((Gm g _).2 ⟨_,hG p hp,x,hx,rfl⟩),hp,x,hx,rfl⟩) (fun y hy=>by
  obtain⟨w,hw,x,hx,e⟩:=(Gm g _).1 ((he.2 y).1 hy)
  obtain⟨p,hp,rfl⟩:=Hb.1 hw
  exact⟨p,List.mem_range.2 hp,hp,x,hx,e⟩)
 unfold Hd
 rw[Ds (EG (Sh g)) (EG fun a b=> ∃e,(a<g.length/\∃x∈row g a,x.natAbs=e)/\(b<g.length/\∃x∈row g b,x.natAbs=e)) (Bz _) (Bz _) _ (List.range g.length) (fun _=>Iff.rfl) (fun a b _ _=>Ed (fun a b h=>by
  obtain⟨h1,h2,x,hx,y,hy,e⟩:=h
  exact .base ⟨_,⟨h1,x,hx,e⟩,⟨h2,y,hy,rfl⟩⟩) (fun a b h=>by
  obtain⟨e,⟨h1,x,hx,e1⟩,⟨h2,y,hy,e2⟩⟩:=h
  exact .base ⟨h1,h2,x,hx,y,hy,e1.trans e2.symm⟩) a b),this]
 exact Ds _ _ (Bz _) (Bz _) _ es (fun _=>Iff.rfl) (fun a b _ _=>Ed (fun a b h=>by
  obtain⟨p,⟨h1,k1⟩,⟨_,k2⟩⟩:=h
  exact .base ⟨_,hG p h1,k1,k2⟩) (fun a b h=>by
  obtain⟨w,hw,k1,k2⟩:=h
  obtain⟨p,hp,rfl⟩:=Hb.1 hw
  exact .base ⟨p,⟨hp,k1⟩,⟨hp,k2⟩⟩) a b)
def Fj (b:Bool) (x:Int):Int:=if b=true then-x else x
theorem GW (b:Bool) (x:Int):(Fj b x).natAbs=x.natAbs:=by unfold Fj;split<;>omega
theorem PI {b c:Bool} {x y:Int} (hx:x≠0) (hy:y≠0):Fj b x=Fj c y↔x.natAbs=y.natAbs/\(decide (0<x) != b)=(decide (0<y) != c):=by
 unfold Fj
 by_cases h1:0<x<;>by_cases h2:0<y<;>cases b<;>cases c<;>simp[h1,h2]<;>omega
def MT (P:List (Bool×List Int)):List Int:=P.flatMap fun p=>p.2.map (Fj p.1)
def Tw (g:List (List Int)):Prop:= ∃P:List (Bool×List Int),P.map (fun p=>p.2)=g/\(MT P).Nodup
theorem NF (P:List (Bool×List Int)):(MT P).Nodup↔(∀p∈P,(p.2.map (Fj p.1)).Nodup)/\P.Pairwise fun p q=> ∀x∈p.2,∀y∈q.2,Fj p.1 x≠Fj q.1 y:=by
 unfold MT List.Nodup
 rw[List.flatMap_def,List.pairwise_flatten,List.pairwise_map]
 constructor
 ·rintro⟨h1,h2⟩
  refine⟨fun p hp=>h1 _ (List.mem_map.2 ⟨p,hp,rfl⟩),h2.imp fun h x hx y hy=>h _ (List.mem_map.2 ⟨x,hx,rfl⟩) _ (List.mem_map.2 ⟨y,hy,rfl⟩)⟩
 ·rintro⟨h1,h2⟩
  refine⟨fun l hl=>?_,h2.imp fun h x hx y hy=>?_⟩
  ·obtain⟨p,hp,rfl⟩:=List.mem_map.1 hl
   exact h1 p hp
  ·obtain⟨a,ha,rfl⟩:=List.mem_map.1 hx
   obtain⟨b,hb,rfl⟩:=List.mem_map.1 hy
   exact h a ha b hb
theorem Kw {g:List (List Int)} (hz:Nz g):(∃t,TH g t)↔Tw g:=by
 have hnz:=hz.nz
 have rowget: ∀p (hp:p<g.length),row g p=g[p]:=fun p hp=>by unfold row;rw[List.getD_eq_getElem?_getD,List.getElem?_eq_getElem hp,Option.getD_some]
 have lget: ∀p i (hp:p<g.length) (hi:i<g[p].length),Dy g p i/\Fx g p i=g[p][i]:=fun p i hp hi=>by
  have hs:Dy g p i:=⟨hp,by rw[rowget p hp];exact hi⟩
  refine⟨hs,?_⟩
  rw[Ft hs,List.getD_eq_getElem?_getD,rowget p hp,List.getElem?_eq_getElem hi,Option.getD_some]
 constructor
 ·rintro⟨t,ht⟩
  refine⟨(List.range g.length).map fun p=>(t p,row g p),?_,(NF _).2 ⟨?_,?_⟩⟩
  ·rw[List.map_map]
   refine List.ext_getElem (by simp) fun i h1 h2=>?_
   simp only[List.getElem_map,List.getElem_range,Function.comp]
   exact rowget i h2
  ·intro q hq
   obtain⟨p,hp,rfl⟩:=List.mem_map.1 hq
   have hp:=List.mem_range.1 hp
   unfold List.Nodup
   rw[List.pairwise_iff_getElem]
   intro i j hi hj hij e
   rw[List.length_map]at hi hj
   simp only[List.getElem_map]at e
   rw[rowget p hp]at hi hj
   obtain⟨s1,e1⟩:=lget p i hp hi
   obtain⟨s2,e2⟩:=lget p j hp hj
   have e3:(row g p)[i]'(by rw[rowget p hp];exact hi)=Fx g p i:=by rw[e1];congr 1;exact rowget p hp
   have e4:(row g p)[j]'(by rw[rowget p hp];exact hj)=Fx g p j:=by rw[e2];congr 1;exact rowget p hp
   rw[e3,e4,PI (hnz p i s1) (hnz p j s2)]at e
   exact ht p i p j s1 s2 (.inr (by omega)) e.1 e.2
  ·rw[List.pairwise_map]
   refine List.pairwise_lt_range.imp_of_mem fun{p q} hp hq hpq x hx y hy e=>?_
   have hp:=List.mem_range.1 hp
   have hq:=List.mem_range.1 hq
   dsimp only at hx hy e
   rw[rowget p hp]at hx
   rw[rowget q hq]at hy
   obtain⟨i,hi,rfl⟩:=List.getElem_of_mem hx
   obtain⟨j,hj,rfl⟩:=List.getElem_of_mem hy
   obtain⟨s1,e1⟩:=lget p i hp hi
   obtain⟨s2,e2⟩:=lget q j hq hj
   rw[<-e1,<-e2,PI (hnz p i s1) (hnz q j s2)]at e
   exact ht p i q j s1 s2 (.inl (by omega)) e.1 e.2
 ·rintro⟨P,rfl,hP⟩
  obtain⟨h1,h2⟩:=(NF _).1 hP
  rw[List.pairwise_iff_getElem]at h2
  refine⟨fun p=>(P.getD p (false,[])).1,fun p i q j hs ht hne he e=>?_⟩
  have hp:p<P.length:=by simpa using hs.1
  have hq:q<P.length:=by simpa using ht.1
  have k1: ∀p (hp:p<P.length),P.getD p (false,[])=P[p]:=fun p hp=>by rw[List.getD_eq_getElem?_getD,List.getElem?_eq_getElem hp,Option.getD_some]
  dsimp only at e
  rw[k1 p hp,k1 q hq]at e
  have hsE:=(PI (b:=P[p].1) (c:=P[q].1) (hnz p i hs) (hnz q j ht)).2 ⟨he,e⟩
  have hr: ∀p i (hs:Dy (P.map fun p=>p.2) p i) (hp:p<P.length),∃hi:i<P[p].2.length,Fx (P.map fun p=>p.2) p i=P[p].2[i]:=fun p i hs hp=>by
   have e5:row (P.map fun p=>p.2) p=P[p].2:=by rw[rowget p hs.1];simp
   have hi:=hs.2
   rw[e5]at hi
   refine⟨hi,?_⟩
   rw[Ft hs,List.getD_eq_getElem?_getD,e5,List.getElem?_eq_getElem hi,Option.getD_some]
  obtain⟨hi,ei⟩:=hr p i hs hp
  obtain⟨hj,ej⟩:=hr q j ht hq
  rw[ei,ej]at hsE
  rcases Nat.lt_trichotomy p q with hlt|rfl|hlt
  ·exact h2 p q hp hq hlt _ (List.getElem_mem hi) _ (List.getElem_mem hj) hsE
  ·have h3:=h1 P[p] (List.getElem_mem hp)
   unfold List.Nodup at h3
   rw[List.pairwise_iff_getElem]at h3
   have hne:i≠j:=hne.resolve_left fun k=>k rfl
   rcases Nat.lt_or_gt_of_ne hne with hlt|hlt
   ·exact h3 i j (by simpa using hi) (by simpa using hj) hlt (by simpa using hsE)
   ·exact h3 j i (by simpa using hj) (by simpa using hi) hlt (by simpa using hsE.symm)
  ·exact h2 q p hq hp hlt _ (List.getElem_mem hj) _ (List.getElem_mem hi) hsE.symm
theorem Sv {g h:List (List Int)} (hp:g.Perm h): ∀P:List (Bool×List Int),P.map (fun p=>p.2)=g->∃P',P'.map (fun p=>p.2)=h/\P.Perm P':=by
 induction hp with
 |nil=>exact fun P h=>⟨P,h,List.Perm.refl _⟩
 |cons a _ ih=>
  intro P h
  cases P with
  |nil=>cases h
  |cons p P=>
   obtain⟨h1,h2⟩:=List.cons.inj h
   obtain⟨P',h3,h4⟩:=ih P h2
   exact⟨p::P',by show p.2::P'.map (fun p=>p.2)=_;rw[h3];exact congrArg (· ::_) h1,h4.cons p⟩
 |swap a b t=>
  intro P h
  match P,h with
  |p::q::P,h=>
   obtain⟨h1,h2⟩:=List.cons.inj h
   obtain⟨h3,h4⟩:=List.cons.inj h2
   exact⟨q::p::P,by show q.2::p.2::P.map (fun p=>p.2)=_;rw[h4];have h1:p.2=_:=h1;have h3:q.2=_:=h3;rw[h1,h3],List.Perm.swap _ _ _⟩
 |trans _ _ i1 i2=>
  intro P h
  obtain⟨P',h1,h2⟩:=i1 P h
  obtain⟨P'',h3,h4⟩:=i2 P' h1
  exact⟨P'',h3,h2.trans h4⟩
theorem QV {g h:List (List Int)} (hp:g.Perm h) (k:Tw g):Tw h:=by
 obtain⟨P,h1,h2⟩:=k
 obtain⟨P',h3,h4⟩:=Sv hp P h1
 exact⟨P',h3,(h4.flatMap_right _).nodup h2⟩
theorem Fm (w:List Int) (r:List (List Int)):Tw (w::r)↔∃(b:Bool) (P:List (Bool×List Int)),P.map (fun p=>p.2)=r/\(w.map (Fj b)++MT P).Nodup:=by
 constructor
 ·rintro⟨P,h1,h2⟩
  cases P with
  |nil=>cases h1
  |cons p P=>
   obtain⟨e1,e2⟩:=List.cons.inj h1
   refine⟨p.1,P,e2,?_⟩
   rw[<-e1]
   exact h2
 ·rintro⟨b,P,h1,h2⟩
  exact⟨(b,w)::P,by rw[List.map_cons,h1],h2⟩
structure CJ (g h:List (List Int)):Prop where
 chi: ∀es es',HN g es->HN h es'->Eh g+g.length+es'.length=Eh h+h.length+es.length
 bord: ∀fs fs',QW g fs->QW h fs'->Lj g fs=Lj h fs'
 parts:Hd g=Hd h
 two:(∃t,TH g t)↔∃t,TH h t
theorem LY (l:List Nat): ∃N,∀y∈l,y<N:=by
 induction l with
 |nil=>exact⟨0,fun y h=>(List.not_mem_nil h).elim⟩
 |cons a t ih=>
  obtain⟨N,h⟩:=ih
  refine⟨N+a+1,fun y hy=>?_⟩
  rcases List.mem_cons.1 hy with rfl|hy
  ·omega
  ·have:=h y hy;omega
theorem Mo (P:Nat->Prop) (N:Nat) (h: ∀y,P y->y<N): ∃l:List Nat,l.Nodup/\∀y,y∈l↔P y:=by
 classical
 refine⟨(List.range N).filter fun y=>decide (P y),List.Pairwise.filter _ List.nodup_range,fun y=>?_⟩
 rw[List.mem_filter,List.mem_range,decide_eq_true_eq]
 exact⟨fun k=>k.2,fun k=>⟨h y k,k⟩⟩
theorem IB (g:List (List Int)): ∃es,HN g es:=by
 obtain⟨N,hN⟩:=LY (g.flatten.map Int.natAbs)
 obtain⟨es,h1,h2⟩:=Mo (fun y=> ∃p i,Dy g p i/\(Fx g p i).natAbs=y) N (fun y hy=>by
  obtain⟨w,hw,x,hx,e⟩:=(Gm g y).1 hy
  exact hN y (List.mem_map.2 ⟨x,List.mem_flatten.2 ⟨w,hw,hx⟩,e⟩))
 exact⟨es,h1,h2⟩
theorem Sm (g:List (List Int)): ∃fs,QW g fs:=by
 obtain⟨N,hN⟩:=LY (g.flatten.map Int.natAbs)
 obtain⟨es,h1,h2⟩:=Mo (fun y=>g.flatten.countP (fun x=>x.natAbs==y)=1) N (fun y hy=>by
  have:0<g.flatten.countP (fun x=>x.natAbs==y):=by omega
  obtain⟨x,hx,e⟩:=List.countP_pos_iff.1 this
  exact hN y (List.mem_map.2 ⟨x,hx,by simpa using e⟩))
 exact⟨es,h1,h2⟩
theorem CJ.refl {g:List (List Int)} (hz:Nz g):CJ g g:=by
 refine⟨fun es es' h h'=>?_,fun fs fs' h h'=>?_,rfl,Iff.rfl⟩
 ·have h1:=h.1.length_le_of_subset (l₂:=es') fun y hy=>(h'.2 y).2 ((h.2 y).1 hy)
  have h2:=h'.1.length_le_of_subset (l₂:=es) fun y hy=>(h.2 y).2 ((h'.2 y).1 hy)
  omega
 ·have hm: ∀y,y∈fs↔y∈fs':=fun y=>(h.2 y).trans (h'.2 y).symm
  rw[He g h.1,He g h'.1]
  exact Ds _ _ (Bz _) (Bz _) _ _ hm fun a b _ _=>Ed (fun a b ⟨k1,k2,k3⟩=> .base ⟨(hm a).1 k1,(hm b).1 k2,k3⟩) (fun a b ⟨k1,k2,k3⟩=> .base ⟨(hm a).2 k1,(hm b).2 k2,k3⟩) a b
theorem CJ.symm {g h:List (List Int)} (k:CJ g h):CJ h g:=
 ⟨fun es es' h1 h2=>(k.chi es' es h2 h1).symm,fun fs fs' h1 h2=>(k.bord fs' fs h2 h1).symm,k.parts.symm,k.two.symm⟩
theorem CJ.trans {f g h:List (List Int)} (k:CJ f g) (m:CJ g h):CJ f h:=by
 obtain⟨es2,he2⟩:=IB g
 obtain⟨fs2,hf2⟩:=Sm g
 refine⟨fun es es' h1 h2=>?_,fun fs fs' h1 h2=>(k.bord fs fs2 h1 hf2).trans (m.bord fs2 fs' hf2 h2),k.parts.trans m.parts,k.two.trans m.two⟩
 have a1:=k.chi es es2 h1 he2
 have a2:=m.chi es2 es' he2 h2
 omega
theorem JA {l l':List Nat} (h:l.Nodup) (h':l'.Nodup) (hm: ∀y,y∈l↔y∈l'):l.length=l'.length:=by
 have h1:=h.length_le_of_subset (l₂:=l') fun y hy=>(hm y).1 hy
 have h2:=h'.length_le_of_subset (l₂:=l) fun y hy=>(hm y).2 hy
 omega
theorem Nw (g:List (List Int)) (y:Nat):Rw g y y↔IN g y:=⟨fun⟨w,hw,h,_⟩=>⟨w,hw,h⟩,fun⟨w,hw,h⟩=>⟨w,hw,h,h⟩⟩
theorem Cd {g:List (List Int)} {es:List Nat} (h:HN g es) (y:Nat):y∈es↔IN g y:=(h.2 y).trans (Gm g y)
theorem Nx {g h:List (List Int)} (hg:Nz g) (hh:Nz h) (hlen:g.length=h.length) (hE: ∀e f,Sx g e f->EG (Sx h) e f) (hE': ∀e f,Sx h e f->EG (Sx g) e f)
 (hc: ∀y:Nat,g.flatten.countP (fun x=>x.natAbs==y)=h.flatten.countP (fun x=>x.natAbs==y)) (hR: ∀y z,Rw g y z↔Rw h y z) (hT:Tw g↔Tw h):CJ g h:=by
 have hS: ∀a b,EG (Sx g) a b↔EG (Sx h) a b:=Ed hE hE'
 refine⟨fun es es' h1 h2=>?_,fun fs fs' h1 h2=>?_,?_,?_⟩
 ·have hm: ∀y,y∈es↔y∈es':=fun y=>by rw[Cd h1,Cd h2,<-Nw,<-Nw,hR]
  have e1:=JA h1.1 h2.1 hm
  have e2:Eh g=Eh h:=by
   rw[Is hg h1,Is hh h2]
   exact Ds _ _ (Bz _) (Bz _) _ _ (fun e=>by
    rw[Fg,Fg]
    exact⟨fun⟨y,hy,k⟩=>⟨y,(hm y).1 hy,k⟩,fun⟨y,hy,k⟩=>⟨y,(hm y).2 hy,k⟩⟩) fun a b _ _=>hS a b
  omega
 ·have hm: ∀y,y∈fs↔y∈fs':=fun y=>by rw[h1.2,h2.2,hc]
  rw[He g h1.1,He h h2.1]
  exact Ds _ _ (Bz _) (Bz _) _ _ hm fun a b _ _=>Ed (fun a b ⟨k1,k2,k,l,hk,hl,k3⟩=> .base ⟨(hm a).1 k1,(hm b).1 k2,k,l,hk,hl,(hS _ _).1 k3⟩) (fun a b ⟨k1,k2,k,l,hk,hl,k3⟩=> .base ⟨(hm a).2 k1,(hm b).2 k2,k,l,hk,hl,(hS _ _).2 k3⟩) a b
 ·obtain⟨es,h1⟩:=IB g
  have h2:HN h es:=⟨h1.1,fun y=>by rw[Cd h1,Gm,<-Nw,<-Nw,hR]⟩
  rw[Gu hg h1,Gu hh h2]
  exact Ds _ _ (Bz _) (Bz _) _ _ (fun _=>Iff.rfl) fun a b _ _=>Ed (fun a b k=> .base ((hR a b).1 k)) (fun a b k=> .base ((hR a b).2 k)) a b
 ·rw[Kw hg,Kw hh,hT]
theorem Ef {g h:List (List Int)} (hg:Nz g) (hp:g.Perm h):CJ g h:=by
 have hm: ∀w,w∈g↔w∈h:=fun w=>hp.mem_iff
 refine Nx hg (fun w hw=>hg w ((hm w).2 hw)) hp.length_eq (fun e f ⟨w,hw,k⟩=> .base ⟨w,(hm w).1 hw,k⟩) (fun e f ⟨w,hw,k⟩=> .base ⟨w,(hm w).2 hw,k⟩) (fun y=>hp.flatten.countP_eq _) (fun y z=>⟨fun⟨w,hw,k⟩=>⟨w,(hm w).1 hw,k⟩,fun⟨w,hw,k⟩=>⟨w,(hm w).2 hw,k⟩⟩) ⟨QV hp,QV hp.symm⟩
theorem DN {w:List Int} {r:List (List Int)}:Nz (w::r)↔(w≠[]/\∀x∈w,x≠0)/\Nz r:=by
 unfold Nz
 rw[List.forall_mem_cons]
theorem Cx (w:List Int) (r:List (List Int)) (e f:Nat):Sx (w::r) e f↔(∃p∈cp w,e=Gf p.1/\f=FJ p.2)\/Sx r e f:=by
 unfold Sx
 rw[Qc]
theorem Dr (w:List Int) (r:List (List Int)) (y z:Nat):Rw (w::r) y z↔((∃x∈w,x.natAbs=y)/\∃x∈w,x.natAbs=z)\/Rw r y z:=by
 unfold Rw
 rw[Qc]
theorem GB (a b:List Int) (r:List (List Int)) (hz:Nz ((a++b)::r)):CJ ((a++b)::r) ((b++a)::r):=by
 have hm: ∀x,x∈a++b↔x∈b++a:=fun x=>by rw[List.mem_append,List.mem_append];exact Or.comm
 obtain⟨⟨h1,h2⟩,h3⟩:=DN.1 hz
 have hz':Nz ((b++a)::r):=DN.2 ⟨⟨fun e=>h1 (by simp at e⊢;exact⟨e.2,e.1⟩),fun x hx=>h2 x ((hm x).2 hx)⟩,h3⟩
 refine Nx hz hz' rfl (fun e f k=>?_) (fun e f k=>?_) (fun y=>?_) (fun y z=>?_) ?_
 ·rw[Cx]at k
  refine .base ((Cx _ _ _ _).2 (k.imp (fun⟨p,hp,k⟩=>⟨p,(Jf a b p).1 hp,k⟩) id))
 ·rw[Cx]at k
  refine .base ((Cx _ _ _ _).2 (k.imp (fun⟨p,hp,k⟩=>⟨p,(Jf b a p).1 hp,k⟩) id))
 ·rw[List.flatten_cons,List.flatten_cons,List.countP_append,List.countP_append,List.countP_append,List.countP_append]
  omega
 ·rw[Dr,Dr]
  simp only[hm]
 ·rw[Fm,Fm]
  have hq: ∀(b1:Bool) (P:List (Bool×List Int)),(((a++b).map (Fj b1))++MT P).Perm (((b++a).map (Fj b1))++MT P):=fun b1 P=>(List.perm_append_comm.map _).append_right _
  exact⟨fun⟨b1,P,k1,k2⟩=>⟨b1,P,k1,(hq b1 P).nodup k2⟩,fun⟨b1,P,k1,k2⟩=>⟨b1,P,k1,(hq b1 P).symm.nodup k2⟩⟩
theorem TP (w:List Int) (r:List (List Int)) (hz: ∀x∈w,x≠0) (e f:Nat) (k:Sx (w::r) e f):EG (Sx (iv w::r)) e f:=by
 rw[Cx]at k
 rcases k with⟨p,hp,rfl,rfl⟩|k
 ·refine .symm (.base ((Cx _ _ _ _).2 (.inl ⟨_,Xj w p hp,?_,?_⟩)))
  ·exact(Ka (hz _ (Nk hp).2)).symm
  ·exact(Iq (hz _ (Nk hp).1)).symm
 ·exact .base ((Cx _ _ _ _).2 (.inr k))
theorem TK (w:List Int) (r:List (List Int)) (h:Tw (w::r)):Tw (iv w::r):=by
 rw[Fm]at h⊢
 obtain⟨b,P,h1,h2⟩:=h
 refine⟨!b,P,h1,?_⟩
 have e:(iv w).map (Fj (!b))=(w.map (Fj b)).reverse:=by
  unfold iv
  rw[List.map_reverse,List.map_map]
  congr 1
  refine List.map_congr_left fun x _=>?_
  cases b<;>simp[Fj]
 rw[e]
 exact((List.reverse_perm _).symm.append_right _).nodup h2
theorem Ky (w:List Int) (r:List (List Int)) (hz:Nz (w::r)):CJ (w::r) (iv w::r):=by
 obtain⟨⟨h1,h2⟩,h3⟩:=DN.1 hz
 have h2': ∀x∈iv w,x≠0:=fun x hx=>by have:=h2 _ (OE.1 hx);omega
 have hne:iv w≠[]:=fun e=>h1 (by have:=congrArg iv e;rwa[Qg]at this)
 have hab: ∀y:Nat,(∃x∈w,x.natAbs=y)↔∃x∈iv w,x.natAbs=y:=fun y=>by
  constructor
  ·rintro⟨x,hx,e⟩
   exact⟨-x,OE.2 (by simpa using hx),by rw[Int.natAbs_neg];exact e⟩
  ·rintro⟨x,hx,e⟩
   exact⟨-x,OE.1 hx,by rw[Int.natAbs_neg];exact e⟩
 refine Nx hz (DN.2 ⟨⟨hne,h2'⟩,h3⟩) rfl (fun e f k=>TP w r h2 e f k) (fun e f k=>?_) (fun y=>?_) (fun y z=>?_) ⟨TK w r,fun k=>?_⟩
 ·have:=TP (iv w) r h2' e f k
  rwa[Qg]at this
 ·rw[List.flatten_cons,List.flatten_cons,List.countP_append,List.countP_append]
  congr 1
  unfold iv
  rw[List.countP_reverse,List.countP_map]
  congr 1
  funext x
  simp
 ·rw[Dr,Dr,hab,hab]
 ·have:=TK (iv w) r k
  rwa[Qg]at this
structure Gt (φ:Int->Int):Prop where
 neg: ∀x,φ (-x)= -φ x
 inv: ∀x,φ (φ x)=x
theorem Gt.zero {φ:Int->Int} (h:Gt φ):φ 0=0:=by have:=h.neg 0;simp at this;omega
theorem Gt.nz {φ:Int->Int} (h:Gt φ) {x:Int} (hx:x≠0):φ x≠0:=fun e=>hx (by have:=h.inv x;rw[e,h.zero]at this;omega)
theorem Gt.abs {φ:Int->Int} (h:Gt φ) (x:Int):(φ x).natAbs=(φ (x.natAbs:Int)).natAbs:=by
 rcases Int.natAbs_eq x with e|e
 ·rw[<-e]
 ·conv=>lhs;rw[e,h.neg,Int.natAbs_neg]
theorem Gt.inj {φ:Int->Int} (h:Gt φ) {x y:Int} (e:φ x=φ y):x=y:=by rw[<-h.inv x,e,h.inv]
def dec (e:Nat):Int:=if e % 2=0 then((e/2:Nat):Int)else-((e/2:Nat):Int)
theorem Ti (x:Int) (hx:x≠0):dec (FJ x)=x:=by
 unfold dec FJ
 by_cases h:x<0
 ·rw[if_pos h,if_neg (by omega)];omega
 ·rw[if_neg h,if_pos (by omega)];omega
theorem Sy (e:Nat) (he:2<=e):FJ (dec e)=e/\dec e≠0/\(dec e).natAbs=e/2:=by
 unfold dec FJ
 by_cases h:e % 2=0
 ·rw[if_pos h,if_neg (by omega)];omega
 ·rw[if_neg h,if_pos (by omega)];omega
def FE (φ:Int->Int) (e:Nat):Nat:=FJ (φ (dec e))
def Fc (φ:Int->Int) (y:Nat):Nat:=(φ (y:Int)).natAbs
theorem Qi {φ:Int->Int} {x:Int} (hx:x≠0):FE φ (FJ x)=FJ (φ x):=by unfold FE;rw[Ti x hx]
theorem VV {φ:Int->Int} (h:Gt φ) {x:Int} (hx:x≠0):FE φ (Gf x)=Gf (φ x):=by
 rw[<-Iq hx,Qi (by omega),h.neg,Iq (h.nz hx)]
theorem Lb {φ:Int->Int} (h:Gt φ) {e:Nat} (he:2<=e):FE φ (FE φ e)=e:=by
 obtain⟨h1,h2,_⟩:=Sy e he
 unfold FE
 rw[Ti _ (h.nz h2),h.inv,h1]
theorem GZ {φ:Int->Int} (h:Gt φ) {e:Nat} (he:2<=e):FE φ e/2=Fc φ (e/2):=by
 obtain⟨h1,h2,h3⟩:=Sy e he
 unfold FE Fc
 have:FJ (φ (dec e))/2=(φ (dec e)).natAbs:=by unfold FJ;split<;>omega
 rw[this,h.abs,h3]
theorem Et {φ:Int->Int} (h:Gt φ) (y:Nat):Fc φ (Fc φ y)=y:=by
 unfold Fc
 rw[<-h.abs,h.inv]
 omega
theorem Wf (φ:Int->Int) (l:List Int):pr (l.map φ)=(pr l).map fun p=>(φ p.1,φ p.2):=by
 induction l with
 |nil=>rfl
 |cons a t ih=>
  cases t with
  |nil=>rfl
  |cons b t=>
   show(φ a,φ b)::pr ((b::t).map φ)=_
   rw[ih]
   rfl
theorem WA (φ:Int->Int) (w:List Int):cp (w.map φ)=(cp w).map fun p=>(φ p.1,φ p.2):=by
 cases w with
 |nil=>rfl
 |cons a t=>
  show pr (φ a::t.map φ++[φ a])=_
  have:(φ a::t.map φ++[φ a])=(a::t++[a]).map φ:=by simp
  rw[this,Wf]
  rfl
theorem Sd {φ:Int->Int} (h:Gt φ) {g:List (List Int)} (hz:Nz g) (e f:Nat) (k:Sx g e f):Sx (g.map fun w=>w.map φ) (FE φ e) (FE φ f):=by
 obtain⟨w,hw,p,hp,rfl,rfl⟩:=k
 have hm:=Nk hp
 refine⟨w.map φ,List.mem_map.2 ⟨w,hw,rfl⟩,(φ p.1,φ p.2),?_,VV h ((hz w hw).2 _ hm.1),Qi ((hz w hw).2 _ hm.2)⟩
 rw[WA]
 exact List.mem_map.2 ⟨p,hp,rfl⟩
theorem Nh {φ:Int->Int} (h:Gt φ) {g:List (List Int)} {y:Nat} (k:IN g y):IN (g.map fun w=>w.map φ) (Fc φ y):=by
 obtain⟨w,hw,x,hx,rfl⟩:=k
 exact⟨_,List.mem_map.2 ⟨w,hw,rfl⟩,_,List.mem_map.2 ⟨x,hx,rfl⟩,h.abs x⟩
theorem SQ {φ:Int->Int} (h:Gt φ) {g:List (List Int)} {y z:Nat} (k:Rw g y z):Rw (g.map fun w=>w.map φ) (Fc φ y) (Fc φ z):=by
 obtain⟨w,hw,⟨x,hx,rfl⟩,⟨x',hx',rfl⟩⟩:=k
 exact⟨_,List.mem_map.2 ⟨w,hw,rfl⟩,⟨_,List.mem_map.2 ⟨x,hx,rfl⟩,h.abs x⟩,⟨_,List.mem_map.2 ⟨x',hx',rfl⟩,h.abs x'⟩⟩
theorem TA {φ:Int->Int} (h:Gt φ) (g:List (List Int)):(g.map fun w=>w.map φ).map (fun w=>w.map φ)=g:=by
 rw[List.map_map]
 refine(List.map_congr_left fun w _=>?_).trans (List.map_id g)
 show(w.map φ).map φ=w
 rw[List.map_map]
 exact(List.map_congr_left fun x _=>h.inv x).trans (List.map_id w)
theorem XH {φ:Int->Int} (h:Gt φ) {g:List (List Int)} (hz:Nz g):Nz (g.map fun w=>w.map φ):=by
 intro w hw
 obtain⟨v,hv,rfl⟩:=List.mem_map.1 hw
 obtain⟨h1,h2⟩:=hz v hv
 refine⟨fun e=>h1 (List.map_eq_nil_iff.1 e),fun x hx=>?_⟩
 obtain⟨y,hy,rfl⟩:=List.mem_map.1 hx
 exact h.nz (h2 y hy)
theorem Sr {φ:Int->Int} (h:Gt φ) {g:List (List Int)} (k:Tw g):Tw (g.map fun w=>w.map φ):=by
 obtain⟨P,rfl,h2⟩:=k
 refine⟨P.map fun p=>(p.1,p.2.map φ),by rw[List.map_map,List.map_map];rfl,?_⟩
 have e:MT (P.map fun p=>(p.1,p.2.map φ))=(MT P).map φ:=by
  unfold MT
  rw[List.map_flatMap,List.flatMap_map]
  congr 1
  funext p
  rw[List.map_map,List.map_map]
  refine List.map_congr_left fun x _=>?_
  show Fj p.1 (φ x)=φ (Fj p.1 x)
  unfold Fj
  split
  ·exact(h.neg x).symm
  ·rfl
 rw[e]
 unfold List.Nodup at h2⊢
 rw[List.pairwise_map]
 exact h2.imp fun hab e=>hab (h.inj e)
theorem NM {φ:Int->Int} (h:Gt φ) (g:List (List Int)) (y:Nat):(g.map fun w=>w.map φ).flatten.countP (fun x=>x.natAbs==Fc φ y)=g.flatten.countP (fun x=>x.natAbs==y):=by
 have e:(g.map fun w=>w.map φ).flatten=g.flatten.map φ:=by rw[List.map_flatten]
 rw[e,List.countP_map]
 refine List.countP_congr fun x _=>?_
 simp only[Function.comp,beq_iff_eq]
 rw[h.abs]
 show Fc φ x.natAbs=Fc φ y↔_
 constructor
 ·intro k
  have:=congrArg (Fc φ) k
  rwa[Et h,Et h]at this
 ·intro k;rw[k]
theorem Ou {φ:Int->Int} (h:Gt φ) {g:List (List Int)} (hz:Nz g):CJ g (g.map fun w=>w.map φ):=by
 have hz':=XH h hz
 have hb:=TA h g
 have hlet: ∀y,IN g y->y≠0:=fun y ⟨w,hw,x,hx,e⟩=>by have:=(hz w hw).2 x hx;omega
 have hlet': ∀y,IN (g.map fun w=>w.map φ) y->IN g (Fc φ y):=fun y k=>by have:=Nh h k;rwa[hb]at this
 have hE: ∀a c,EG (Sx g) a c->EG (Sx (g.map fun w=>w.map φ)) (FE φ a) (FE φ c):=fun a c k=>GQ (FE φ) (fun a b k=> .base (Sd h hz a b k)) k
 have hE': ∀a c,EG (Sx (g.map fun w=>w.map φ)) a c->EG (Sx g) (FE φ a) (FE φ c):=fun a c k=>by
  have:=GQ (FE φ) (fun a b k=> .base (Sd h hz' a b k)) k
  rwa[hb]at this
 have hiff: ∀a c,2<=a->2<=c->(EG (Sx (g.map fun w=>w.map φ)) (FE φ a) (FE φ c)↔EG (Sx g) a c):=fun a c ha hc=>⟨fun k=>by
  have:=hE' _ _ k
  rwa[Lb h ha,Lb h hc]at this,hE a c⟩
 refine⟨fun es es' h1 h2=>?_,fun fs fs' h1 h2=>?_,?_,?_⟩
 ·have hm1: ∀y,y∈es->Fc φ y∈es':=fun y hy=>(Cd h2 _).2 (Nh h ((Cd h1 y).1 hy))
  have hm2: ∀y,y∈es'->Fc φ y∈es:=fun y hy=>(Cd h1 _).2 (hlet' y ((Cd h2 y).1 hy))
  have hge: ∀e,e∈FR es->2<=e:=fun e he=>by
   obtain⟨y,hy,k,hk,rfl⟩:=Fg.1 he
   have:=hlet y ((Cd h1 y).1 hy)
   omega
  have hge': ∀e,e∈FR es'->2<=e:=fun e he=>by
   obtain⟨y,hy,k,hk,rfl⟩:=Fg.1 he
   have:=hlet _ (hlet' y ((Cd h2 y).1 hy))
   have:y≠0:=fun e=>this (by subst e;unfold Fc;show(φ 0).natAbs=0;rw[h.zero];rfl)
   omega
  have hhalf: ∀e (l:List Nat),e∈FR l↔e/2∈l:=fun e l=>by
   rw[Fg]
   constructor
   ·rintro⟨y,hy,k,hk,rfl⟩
    rwa[show(2*y+k)/2=y by omega]
   ·exact fun hy=>⟨e/2,hy,e % 2,by omega,by omega⟩
  have hlen:es.length=es'.length:=by
   have e1:(es.map (Fc φ)).length=es'.length:=JA (by
    have:=h1.1
    unfold List.Nodup at this⊢
    rw[List.pairwise_map]
    exact this.imp fun hab e=>hab (by have:=congrArg (Fc φ) e;rwa[Et h,Et h]at this)) h2.1 fun y=>by
     rw[List.mem_map]
     exact⟨fun⟨z,hz,e⟩=>e▸hm1 z hz,fun hy=>⟨_,hm2 y hy,Et h y⟩⟩
   rwa[List.length_map]at e1
  have hv:Eh g=Eh (g.map fun w=>w.map φ):=by
   rw[Is hz h1,Is hz' h2]
   refine Nl _ _ (Bz _) (Bz _) _ _ (fun a b=>b=FE φ a) (fun a ha=>⟨_,?_,rfl⟩) (fun b hb=>⟨FE φ b,?_,(Lb h (hge' b hb)).symm⟩) ?_
   ·rw[hhalf,GZ h (hge a ha)]
    exact hm1 _ ((hhalf a es).1 ha)
   ·rw[hhalf,GZ h (hge' b hb)]
    exact hm2 _ ((hhalf b es').1 hb)
   ·rintro a b c d ha hc _ _ rfl rfl
    exact hiff a c (hge a ha) (hge c hc)
  rw[List.length_map]
  omega
 ·have hm1: ∀y,y∈fs->Fc φ y∈fs':=fun y hy=>(h2.2 _).2 (by rw[NM h];exact(h1.2 y).1 hy)
  have hm2: ∀y,y∈fs'->Fc φ y∈fs:=fun y hy=>(h1.2 _).2 (by rw[<-NM h,Et h];exact(h2.2 y).1 hy)
  have hpos: ∀y,y∈fs->y≠0:=fun y hy=>by
   have h3:=(h1.2 y).1 hy
   have:0<g.flatten.countP (fun x=>x.natAbs==y):=by omega
   obtain⟨x,hx,e⟩:=List.countP_pos_iff.1 this
   obtain⟨w,hw,hxw⟩:=List.mem_flatten.1 hx
   exact hlet y ⟨w,hw,x,hxw,by simpa using e⟩
  have hT: ∀y z,Tl g fs y z->Tl (g.map fun w=>w.map φ) fs' (Fc φ y) (Fc φ z):=fun y z ⟨k1,k2,k,l,hk,hl,k3⟩=>by
   have e1:=hpos y k1
   have e2:=hpos z k2
   have e3:=hE _ _ k3
   have e4:=GZ h (e:=2*y+k) (by omega)
   have e5:=GZ h (e:=2*z+l) (by omega)
   rw[show(2*y+k)/2=y by omega]at e4
   rw[show(2*z+l)/2=z by omega]at e5
   refine⟨hm1 y k1,hm1 z k2,FE φ (2*y+k) % 2,FE φ (2*z+l) % 2,by omega,by omega,?_⟩
   rw[<-e4,<-e5,show 2*(FE φ (2*y+k)/2)+FE φ (2*y+k) % 2=FE φ (2*y+k) by omega,show 2*(FE φ (2*z+l)/2)+FE φ (2*z+l) % 2=FE φ (2*z+l) by omega]
   exact e3
  have hpos': ∀y,y∈fs'->y≠0:=fun y hy e=>by
   have:=hpos _ (hm2 y hy)
   subst e
   refine this ?_
   unfold Fc
   show(φ 0).natAbs=0
   rw[h.zero];rfl
  have hT': ∀y z,Tl (g.map fun w=>w.map φ) fs' y z->Tl g fs (Fc φ y) (Fc φ z):=fun y z ⟨k1,k2,k,l,hk,hl,k3⟩=>by
   have e1:=hpos' y k1
   have e2:=hpos' z k2
   have e3:=hE' _ _ k3
   have e4:=GZ h (e:=2*y+k) (by omega)
   have e5:=GZ h (e:=2*z+l) (by omega)
   rw[show(2*y+k)/2=y by omega]at e4
   rw[show(2*z+l)/2=z by omega]at e5
   refine⟨hm2 y k1,hm2 z k2,FE φ (2*y+k) % 2,FE φ (2*z+l) % 2,by omega,by omega,?_⟩
   rw[<-e4,<-e5,show 2*(FE φ (2*y+k)/2)+FE φ (2*y+k) % 2=FE φ (2*y+k) by omega,show 2*(FE φ (2*z+l)/2)+FE φ (2*z+l) % 2=FE φ (2*z+l) by omega]
   exact e3
  rw[He g h1.1,He _ h2.1]
  refine Nl _ _ (Bz _) (Bz _) _ _ (fun a b=>b=Fc φ a) (fun a ha=>⟨_,hm1 a ha,rfl⟩) (fun b hb=>⟨_,hm2 b hb,(Et h b).symm⟩) ?_
  rintro a b c d ha hc _ _ rfl rfl
  constructor
  ·intro k
   have:=GQ (Fc φ) (fun a b k=> .base (hT' a b k)) k
   rwa[Et h,Et h]at this
  ·exact fun k=>GQ (Fc φ) (fun a b k=> .base (hT a b k)) k
 ·obtain⟨es,h1⟩:=IB g
  obtain⟨es',h2⟩:=IB (g.map fun w=>w.map φ)
  rw[Gu hz h1,Gu hz' h2]
  refine Nl _ _ (Bz _) (Bz _) _ _ (fun a b=>b=Fc φ a) (fun y hy=>⟨_,(Cd h2 _).2 (Nh h ((Cd h1 y).1 hy)),rfl⟩) (fun y hy=>⟨_,(Cd h1 _).2 (hlet' y ((Cd h2 y).1 hy)),(Et h y).symm⟩) ?_
  rintro a b c d ha hc _ _ rfl rfl
  constructor
  ·intro k
   have:=GQ (Fc φ) (fun a b k=> .base (SQ h k)) k
   rwa[hb,Et h,Et h]at this
  ·exact fun k=>GQ (Fc φ) (fun a b k=> .base (SQ h k)) k
 ·rw[Kw hz,Kw hz']
  exact⟨Sr h,fun k=>by have:=Sr h k;rwa[hb]at this⟩
theorem Vm {R R':Nat->Nat->Prop} (h:IX R) (h':IX R') (s t:Nat) (l:List Nat) (hR: ∀a b,a∈l->b∈l->(R a b↔R' a b)) (hs: ∃b,b∈l/\R s b) (ht: ∃b,b∈l/\R t b):K R (s::t::l)=K R' l:=by
 obtain⟨b,hb,k⟩:=hs
 have e1:K R (s::t::l)=K R l:=by
  rw[K,if_pos ⟨b,List.mem_cons_of_mem _ hb,k⟩,K,if_pos ht]
  omega
 rw[e1]
 exact Ds _ _ h h' _ _ (fun _=>Iff.rfl) hR
theorem ES {R R':Nat->Nat->Prop} (h:IX R) (h':IX R') (s:Nat) (l:List Nat) (hR: ∀a b,a∈l->b∈l->(R a b↔R' a b)) (hs: ∃b,b∈l/\R s b):K R (s::l)=K R' l:=by
 rw[K,if_pos hs,Nat.zero_add]
 exact Ds _ _ h h' _ _ (fun _=>Iff.rfl) hR
theorem KK (s:List Int) (z y:Int): ∀p,p∈pr (s++[z])->(p.1∈s/\p.2∈s/\p∈pr (s++[y]))\/(p.2=z/\p.1∈s/\(p.1,y)∈pr (s++[y])):=by
 induction s with
 |nil=>exact fun p h=>(List.not_mem_nil h).elim
 |cons a s ih=>
  cases s with
  |nil=>
   intro p h
   have h:p∈[(a,z)]:=h
   rw[List.mem_singleton.1 h]
   exact .inr ⟨rfl,List.mem_cons_self,List.mem_cons_self⟩
  |cons b s=>
   intro p h
   have h:p∈(a,b)::pr (b::s++[z]):=h
   show _\/(_/\_/\_∈(a,b)::pr (b::s++[y]))
   have e:pr (a::b::s++[y])=(a,b)::pr (b::s++[y]):=rfl
   rw[e]
   rcases List.mem_cons.1 h with rfl|h
   ·exact .inl ⟨List.mem_cons_self,List.mem_cons_of_mem _ List.mem_cons_self,List.mem_cons_self⟩
   ·rcases ih p h with⟨h1,h2,h3⟩|⟨h1,h2,h3⟩
    ·exact .inl ⟨List.mem_cons_of_mem _ h1,List.mem_cons_of_mem _ h2,List.mem_cons_of_mem _ h3⟩
    ·exact .inr ⟨h1,List.mem_cons_of_mem _ h2,List.mem_cons_of_mem _ h3⟩
def BU (u v:List Int):Int:=(u++v).headD 0
theorem HI {u v:List Int} (h:u++v≠[]):BU u v∈u++v:=by
 unfold BU
 cases e:u++v with
 |nil=>exact absurd e h
 |cons a t=>exact List.mem_cons_self
theorem JX (u v:List Int) (p:Int×Int):p∈cp (u++v)↔p∈pr (u++[BU v u])\/p∈pr (v++[BU u v]):=by
 cases u with
 |nil=>
  cases v with
  |nil=>exact⟨fun h=>(List.not_mem_nil h).elim,fun h=>h.elim (fun h=>(List.not_mem_nil h).elim) fun h=>(List.not_mem_nil h).elim⟩
  |cons y t=>exact⟨fun h=> .inr h,fun h=>h.elim (fun h=>(List.not_mem_nil h).elim) fun h=>h⟩
 |cons x s=>
  cases v with
  |nil=>
   rw[List.append_nil]
   exact⟨fun h=> .inl h,fun h=>h.elim (fun h=>h) fun h=>(List.not_mem_nil h).elim⟩
  |cons y t=>
   show p∈pr (x::(s++y::t)++[x])↔p∈pr (x::s++[y])\/p∈pr (y::t++[x])
   have:x::(s++y::t)++[x]=(x::s)++y::(t++[x]):=by simp
   rw[this,OA,List.mem_append]
   exact Iff.rfl
theorem Ux {u:List Int} {z y:Int} (p:Int×Int) (h:p∈cp (u++[z])):(p.1∈u/\p.2∈u/\p∈pr (u++[y]))\/(p.2=z/\p.1∈u/\(p.1,y)∈pr (u++[y]))\/(p.1=z/\p.2=BU u [z]):=by
 rw[JX]at h
 rcases h with h|h
 ·rcases KK u _ y p h with k|⟨k1,k2,k3⟩
  ·exact .inl k
  ·exact .inr (.inl ⟨k1.trans rfl,k2,k3⟩)
 ·have h:p∈[(z,BU u [z])]:=h
  rw[List.mem_singleton.1 h]
  exact .inr (.inr ⟨rfl,rfl⟩)
theorem QZ {u:List Int} {z y:Int} (p:Int×Int) (h:p∈pr (u++[y])):p∈cp (u++[z])\/(p.2=y/\(p.1,z)∈cp (u++[z])):=by
 rcases KK u y z p h with⟨_,_,k⟩|⟨k1,_,k2⟩
 ·exact .inl ((JX u [z] p).2 (.inl k))
 ·exact .inr ⟨k1,(JX u [z] _).2 (.inl k2)⟩
theorem PA (u:List Int) (z:Int):(z,BU u [z])∈cp (u++[z]):=(JX u [z] _).2 (.inr List.mem_cons_self)
theorem Gx (x:Int):FJ x/2=x.natAbs:=by unfold FJ;split<;>omega
theorem GJ (x:Int):Gf x/2=x.natAbs:=by unfold Gf;split<;>omega
theorem Ji {x:Int} (h:x≠0):FJ x≠Gf x:=by unfold FJ Gf;split<;>split<;>omega
noncomputable def MR (z:Int) (A B e:Nat):Nat:=if e=FJ z then A else if e=Gf z then B else e
theorem NS (z:Int) (A B:Nat):MR z A B (FJ z)=A:=if_pos rfl
theorem Wj {z:Int} (hz:z≠0) (A B:Nat):MR z A B (Gf z)=B:=by unfold MR;rw[if_neg fun e=>Ji hz e.symm,if_pos rfl]
theorem FD {z:Int} {A B e:Nat} (h:e/2≠z.natAbs):MR z A B e=e:=by
 unfold MR
 rw[if_neg fun k=>h (by rw[k,Gx]),if_neg fun k=>h (by rw[k,GJ])]
def Fw (z:Int) (g:List (List Int)):Prop:= ∀w∈g,∀x∈w,x.natAbs≠z.natAbs
theorem TX {z:Int} {r:List (List Int)} (h:Fw z r) {e f:Nat} (k:Sx r e f):e/2≠z.natAbs/\f/2≠z.natAbs:=by
 obtain⟨w,hw,p,hp,rfl,rfl⟩:=k
 have hm:=Nk hp
 rw[GJ,Gx]
 exact⟨h w hw _ hm.1,h w hw _ hm.2⟩
theorem Tz {z:Int} {A B:Nat} {r:List (List Int)} (h:Fw z r) {e f:Nat} (k:Sx r e f):Sx r (MR z A B e) (MR z A B f):=by
 obtain⟨h1,h2⟩:=TX h k
 rw[FD h1,FD h2]
 exact k
theorem MK {u v:List Int} {z:Int} {A B:Nat} (hz:z≠0) (hne:u++v≠[]) (hu: ∀x∈u,x.natAbs≠z.natAbs) (hA:A=FJ (BU v u)) (hB:B=FJ (BU u v)) (S:Nat->Nat->Prop) (hS: ∀p∈cp (u++v),S (Gf p.1) (FJ p.2)) (p:Int×Int) (h:p∈cp (u++[z])):EG S (MR z A B (Gf p.1)) (MR z A B (FJ p.2)):=by
 rcases Ux (y:=BU v u) p h with⟨h1,h2,h3⟩|⟨h1,h2,h3⟩|⟨h1,h2⟩
 ·rw[FD (by rw[GJ];exact hu _ h1),FD (by rw[Gx];exact hu _ h2)]
  exact .base (hS p ((JX u v p).2 (.inl h3)))
 ·rw[h1,NS,FD (by rw[GJ];exact hu _ h2),hA]
  exact .base (hS _ ((JX u v _).2 (.inl h3)))
 ·rw[h1,h2,Wj hz]
  cases u with
  |nil=>
   have:BU [] [z]=z:=rfl
   rw[this,NS,hA,hB]
   have e:BU v []=BU [] v:=by unfold BU;rw[List.append_nil,List.nil_append]
   rw[e]
   exact .refl _
  |cons x s=>
   have e1:BU (x::s) [z]=x:=rfl
   have e2:BU (x::s) v=x:=rfl
   rw[e1,FD (by rw[Gx];exact hu _ List.mem_cons_self),hB,e2]
   exact .refl _
theorem Hn {z:Int} {g:List (List Int)} (h:Fw z g): ¬IN g z.natAbs:=fun⟨w,hw,x,hx,e⟩=>h w hw x hx e
section merge
variable {u v : List Int} {z : Int} {r : List (List Int)} (hz : z ≠ 0) (hne : u ++ v ≠ []) (hf : Fw z ((u ++ v) :: r))
include hz hne hf
theorem Kx:(∀x∈u,x.natAbs≠z.natAbs)/\(∀x∈v,x.natAbs≠z.natAbs)/\Fw z r:=⟨fun x hx=>hf _ List.mem_cons_self x (List.mem_append_left _ hx),fun x hx=>hf _ List.mem_cons_self x (List.mem_append_right _ hx),fun w hw=>hf w (List.mem_cons_of_mem _ hw)⟩
theorem Sa (e f:Nat) (k:Sx ((u++[z])::(-z::v)::r) e f):EG (Sx ((u++v)::r)) (MR z (FJ (BU v u)) (FJ (BU u v)) e) (MR z (FJ (BU v u)) (FJ (BU u v)) f):=by
 obtain⟨hu,hv,hr⟩:=Kx hz hne hf
 rw[Cx,Cx]at k
 have hS: ∀p∈cp (u++v),Sx ((u++v)::r) (Gf p.1) (FJ p.2):=fun p hp=>(Cx _ _ _ _).2 (.inl ⟨p,hp,rfl,rfl⟩)
 rcases k with⟨p,hp,rfl,rfl⟩|⟨p,hp,rfl,rfl⟩|k
 ·exact MK hz hne hu rfl rfl _ hS p hp
 ·have hp':p∈cp (v++[-z]):=(Jf [-z] v p).1 hp
  have hz': -z≠0:=by omega
  have hne':v++u≠[]:=fun e=>hne (by simp at e⊢;exact⟨e.2,e.1⟩)
  have key:=MK (A:=FJ (BU u v)) (B:=FJ (BU v u)) hz' hne' (fun x hx=>by rw[Int.natAbs_neg];exact hv x hx) rfl rfl _ (fun p hp=>hS p ((Jf v u p).1 hp)) p hp'
  have el: ∀e,MR (-z) (FJ (BU u v)) (FJ (BU v u)) e=MR z (FJ (BU v u)) (FJ (BU u v)) e:=fun e=>by
   unfold MR
   rw[Iq hz,Ka hz]
   by_cases h1:e=Gf z
   ·rw[if_pos h1,if_neg (fun k=>Ji hz (k.symm.trans h1)),if_pos h1]
   ·rw[if_neg h1,if_neg h1]
  rwa[el,el]at key
 ·exact .base ((Cx _ _ _ _).2 (.inr (Tz hr k)))
theorem ND:EG (Sx ((u++[z])::(-z::v)::r)) (FJ z) (FJ (BU v u))/\EG (Sx ((u++[z])::(-z::v)::r)) (Gf z) (FJ (BU u v)):=by
 have h1:EG (Sx ((u++[z])::(-z::v)::r)) (Gf z) (FJ (BU u [z])):= .base ((Cx _ _ _ _).2 (.inl ⟨_,PA u z,rfl,rfl⟩))
 have h2:EG (Sx ((u++[z])::(-z::v)::r)) (FJ z) (FJ (BU v [-z])):= .base ((Cx _ _ _ _).2 (.inr ((Cx _ _ _ _).2 (.inl ⟨_,(Jf v [-z] _).1 (PA v (-z)),(Ka hz).symm,rfl⟩))))
 cases u with
 |nil=>
  cases v with
  |nil=>exact absurd rfl hne
  |cons y t=>
   have h3:EG (Sx (([]++[z])::(-z::y::t)::r)) (Gf z) (FJ z):=h1
   exact⟨h2,.trans h3 h2⟩
 |cons x s=>
  cases v with
  |nil=>
   have h3:EG (Sx ((x::s++[z])::(-z::[])::r)) (FJ z) (FJ (-z)):=h2
   rw[Iq hz]at h3
   exact⟨.trans h3 h1,h1⟩
  |cons y t=>exact⟨h2,h1⟩
theorem Pu (e f:Nat) (k:Sx ((u++v)::r) e f):EG (Sx ((u++[z])::(-z::v)::r)) e f:=by
 obtain⟨t1,t2⟩:=ND hz hne hf
 rw[Cx]at k
 rcases k with⟨p,hp,rfl,rfl⟩|k
 ·have g1: ∀p∈cp (u++[z]),EG (Sx ((u++[z])::(-z::v)::r)) (Gf p.1) (FJ p.2):=fun p hp=> .base ((Cx _ _ _ _).2 (.inl ⟨_,hp,rfl,rfl⟩))
  have g2: ∀p∈cp (v++[-z]),EG (Sx ((u++[z])::(-z::v)::r)) (Gf p.1) (FJ p.2):=fun p hp=> .base ((Cx _ _ _ _).2 (.inr ((Cx _ _ _ _).2 (.inl ⟨_,(Jf v [-z] p).1 hp,rfl,rfl⟩))))
  rcases(JX u v p).1 hp with h|h
  ·rcases QZ (z:=z) p h with h|⟨h1,h2⟩
   ·exact g1 p h
   ·rw[h1]
    have:=g1 _ h2
    exact .trans this t1
  ·rcases QZ (z:= -z) p h with h|⟨h1,h2⟩
   ·exact g2 p h
   ·rw[h1]
    have:=g2 _ h2
    rw[Iq hz]at this
    exact .trans this t2
 ·exact .base ((Cx _ _ _ _).2 (.inr ((Cx _ _ _ _).2 (.inr k))))
theorem RA {e f:Nat} (he:e/2≠z.natAbs) (hf2:f/2≠z.natAbs):EG (Sx ((u++[z])::(-z::v)::r)) e f↔EG (Sx ((u++v)::r)) e f:=by
 constructor
 ·intro k
  have:=GQ (MR z (FJ (BU v u)) (FJ (BU u v))) (Sa hz hne hf) k
  rwa[FD he,FD hf2]at this
 ·exact Fu (Bz _) (Pu hz hne hf)
theorem RY (y:Nat):IN ((u++[z])::(-z::v)::r) y↔y=z.natAbs\/IN ((u++v)::r) y:=by
 constructor
 ·rintro⟨w,hw,x,hx,rfl⟩
  rcases List.mem_cons.1 hw with rfl|hw
  ·rcases List.mem_append.1 hx with hx|hx
   ·exact .inr ⟨_,List.mem_cons_self,x,List.mem_append_left _ hx,rfl⟩
   ·rw[List.mem_singleton.1 hx];exact .inl rfl
  ·rcases List.mem_cons.1 hw with rfl|hw
   ·rcases List.mem_cons.1 hx with rfl|hx
    ·exact .inl (Int.natAbs_neg z)
    ·exact .inr ⟨_,List.mem_cons_self,x,List.mem_append_right _ hx,rfl⟩
   ·exact .inr ⟨w,List.mem_cons_of_mem _ hw,x,hx,rfl⟩
 ·rintro(rfl|⟨w,hw,x,hx,rfl⟩)
  ·exact⟨_,List.mem_cons_self,z,by simp,rfl⟩
  ·rcases List.mem_cons.1 hw with rfl|hw
   ·rcases List.mem_append.1 hx with hx|hx
    ·exact⟨_,List.mem_cons_self,x,List.mem_append_left _ hx,rfl⟩
    ·exact⟨_,List.mem_cons_of_mem _ List.mem_cons_self,x,List.mem_cons_of_mem _ hx,rfl⟩
   ·exact⟨w,List.mem_cons_of_mem _ (List.mem_cons_of_mem _ hw),x,hx,rfl⟩
end merge
theorem IC {z:Int} {g:List (List Int)} {es:List Nat} (h:Fw z g) (he:HN g es) {e:Nat} (k:e∈FR es):e/2≠z.natAbs:=by
 obtain⟨y,hy,j,hj,rfl⟩:=Fg.1 k
 intro e
 refine Hn h ?_
 rw[<-e,show(2*y+j)/2=y by omega]
 exact(Cd he y).1 hy
theorem Tb {g:List (List Int)} {es:List Nat} (he:HN g es) {w:List Int} (hw:w∈g) {x:Int} (hx:x∈w):FJ x∈FR es:=
 Fg.2 ⟨x.natAbs,(Cd he _).2 ⟨w,hw,x,hx,rfl⟩,if x<0 then 1 else 0,by split<;>omega,rfl⟩
theorem Ld (y:Nat) (l:List Nat):FR (y::l)=2*y::(2*y+1)::FR l:=rfl
theorem Oa {z:Int} (hz:z≠0):(FJ z=2*z.natAbs/\Gf z=2*z.natAbs+1)\/(Gf z=2*z.natAbs/\FJ z=2*z.natAbs+1):=by unfold FJ Gf;split<;>split<;>omega
theorem Lt {u v:List Int} {z:Int} {r:List (List Int)} (hz:z≠0) (hn:Nz ((u++v)::r)) (hf:Fw z ((u++v)::r)):CJ ((u++[z])::(-z::v)::r) ((u++v)::r):=by
 obtain⟨⟨hne,h0⟩,hr0⟩:=DN.1 hn
 obtain⟨hu,hv,hr⟩:=Kx hz hne hf
 have hn':Nz ((u++[z])::(-z::v)::r):=by
  refine DN.2 ⟨⟨by simp,fun x hx=>?_⟩,DN.2 ⟨⟨by simp,fun x hx=>?_⟩,hr0⟩⟩
  ·rcases List.mem_append.1 hx with hx|hx
   ·exact h0 x (List.mem_append_left _ hx)
   ·rw[List.mem_singleton.1 hx];exact hz
  ·rcases List.mem_cons.1 hx with rfl|hx
   ·omega
   ·exact h0 x (List.mem_append_right _ hx)
 have hm: ∀y,IN ((u++[z])::(-z::v)::r) y↔y=z.natAbs\/IN ((u++v)::r) y:=RY hz hne hf
 have hcons: ∀es',HN ((u++v)::r) es'->HN ((u++[z])::(-z::v)::r) (z.natAbs::es'):=fun es' h2=>by
  refine⟨List.nodup_cons.2 ⟨fun k=>Hn hf ((Cd h2 _).1 k),h2.1⟩,fun y=>?_⟩
  rw[Gm,hm,List.mem_cons,Cd h2]
 have hiff:=fun(e f:Nat) (he:e/2≠z.natAbs) (hf2:f/2≠z.natAbs)=>RA (r:=r) hz hne hf he hf2
 obtain⟨t1,t2⟩:=ND hz hne hf
 have hvu:v++u≠[]:=fun e=>hne (by simp at e⊢;exact⟨e.2,e.1⟩)
 refine⟨fun es es' h1 h2=>?_,fun fs fs' h1 h2=>?_,?_,?_⟩
 ·have h3:=hcons es' h2
  have hlen:es.length=es'.length+1:=by
   rw[JA h1.1 h3.1 fun y=>by rw[Cd h1,Cd h3]]
   rfl
  have hA:FJ (BU v u)∈FR es':=Tb h2 (w:=u++v) List.mem_cons_self (by
   have:=HI hvu
   rw[List.mem_append]at this⊢
   exact this.symm)
  have hB:FJ (BU u v)∈FR es':=Tb h2 (w:=u++v) List.mem_cons_self (HI hne)
  have hvv:Eh ((u++[z])::(-z::v)::r)=Eh ((u++v)::r):=by
   rw[Is hn' h3,Is hn h2,Ld]
   have hR: ∀a b,a∈FR es'->b∈FR es'->(EG (Sx ((u++[z])::(-z::v)::r)) a b↔EG (Sx ((u++v)::r)) a b):=fun a b ha hb=>hiff a b (IC hf h2 ha) (IC hf h2 hb)
   rcases Oa hz with⟨e1,e2⟩|⟨e1,e2⟩
   ·rw[<-e2,<-e1]
    exact Vm (Bz _) (Bz _) _ _ _ hR ⟨_,hA,t1⟩ ⟨_,hB,t2⟩
   ·rw[<-e2,<-e1]
    exact Vm (Bz _) (Bz _) _ _ _ hR ⟨_,hB,t2⟩ ⟨_,hA,t1⟩
  rw[List.length_cons,List.length_cons,List.length_cons]
  omega
 ·have hc: ∀y:Nat,y≠z.natAbs->((u++[z])::(-z::v)::r).flatten.countP (fun x=>x.natAbs==y)=((u++v)::r).flatten.countP (fun x=>x.natAbs==y):=fun y hy=>by
   simp only[List.flatten_cons,List.countP_append,List.countP_cons,List.countP_nil,Int.natAbs_neg]
   rw[show(z.natAbs==y)=false by simp only[beq_eq_false_iff_ne,ne_eq];omega]
   simp only[Bool.false_eq_true,if_false]
   omega
  have hcz:((u++[z])::(-z::v)::r).flatten.countP (fun x=>x.natAbs==z.natAbs)≠1:=by
   simp only[List.flatten_cons,List.countP_append,List.countP_cons,List.countP_nil,Int.natAbs_neg,beq_self_eq_true,if_true]
   omega
  have hcz':((u++v)::r).flatten.countP (fun x=>x.natAbs==z.natAbs)=0:=by
   rw[List.countP_eq_zero]
   intro x hx
   obtain⟨w,hw,hxw⟩:=List.mem_flatten.1 hx
   have:=hf w hw x hxw
   simpa using this
  have hmf: ∀y,y∈fs↔y∈fs':=fun y=>by
   rw[h1.2,h2.2]
   by_cases hy:y=z.natAbs
   ·subst hy
    rw[hcz']
    exact⟨fun k=>absurd k hcz,fun k=>by omega⟩
   ·rw[hc y hy]
  have hold: ∀y,y∈fs'->y≠z.natAbs:=fun y hy e=>by
   have:=(h2.2 y).1 hy
   subst e
   omega
  rw[He _ h1.1,He _ h2.1]
  refine Ds _ _ (Bz _) (Bz _) _ _ hmf fun a b _ _=>Ed (fun a b ⟨k1,k2,k,l,hk,hl,k3⟩=>?_) (fun a b ⟨k1,k2,k,l,hk,hl,k3⟩=>?_) a b
  ·have q1:=hold a ((hmf a).1 k1)
   have q2:=hold b ((hmf b).1 k2)
   exact .base ⟨(hmf a).1 k1,(hmf b).1 k2,k,l,hk,hl,(hiff _ _ (by omega) (by omega)).1 k3⟩
  ·have q1:=hold a k1
   have q2:=hold b k2
   exact .base ⟨(hmf a).2 k1,(hmf b).2 k2,k,l,hk,hl,(hiff _ _ (by omega) (by omega)).2 k3⟩
 ·obtain⟨es',h2⟩:=IB ((u++v)::r)
  have h3:=hcons es' h2
  rw[Gu hn' h3,Gu hn h2]
  have hyz: ∀y,y∈es'->y≠z.natAbs:=fun y hy e=>Hn hf (e▸(Cd h2 y).1 hy)
  have hx0:=HI hne
  have toM: ∀y y',Rw ((u++[z])::(-z::v)::r) y y'->EG (Rw ((u++v)::r)) (if y=z.natAbs then(BU u v).natAbs else y) (if y'=z.natAbs then(BU u v).natAbs else y'):=fun y y' k=>by
   rw[Dr,Dr]at k
   have big: ∀a,(∃x∈u++[z],x.natAbs=a)\/(∃x∈ -z::v,x.natAbs=a)->∃x∈u++v,x.natAbs=(if a=z.natAbs then(BU u v).natAbs else a):=fun a k=>by
    by_cases ha:a=z.natAbs
    ·rw[if_pos ha];exact⟨_,hx0,rfl⟩
    ·rw[if_neg ha]
     rcases k with⟨x,hx,rfl⟩|⟨x,hx,rfl⟩
     ·rcases List.mem_append.1 hx with hx|hx
      ·exact⟨x,List.mem_append_left _ hx,rfl⟩
      ·rw[List.mem_singleton.1 hx]at ha;exact absurd rfl ha
     ·rcases List.mem_cons.1 hx with rfl|hx
      ·exact absurd (Int.natAbs_neg z) ha
      ·exact⟨x,List.mem_append_right _ hx,rfl⟩
   rcases k with⟨k1,k2⟩|⟨k1,k2⟩|k
   ·exact .base ((Dr _ _ _ _).2 (.inl ⟨big y (.inl k1),big y' (.inl k2)⟩))
   ·exact .base ((Dr _ _ _ _).2 (.inl ⟨big y (.inr k1),big y' (.inr k2)⟩))
   ·obtain⟨w,hw,⟨x,hx,e1⟩,⟨x',hx',e2⟩⟩:=k
    rw[if_neg (by rw[<-e1];exact hr w hw x hx),if_neg (by rw[<-e2];exact hr w hw x' hx')]
    exact .base ((Dr _ _ _ _).2 (.inr ⟨w,hw,⟨x,hx,e1⟩,⟨x',hx',e2⟩⟩))
  have hub: ∀x∈u,EG (Rw ((u++[z])::(-z::v)::r)) z.natAbs x.natAbs:=fun x hx=> .base ((Dr _ _ _ _).2 (.inl ⟨⟨z,by simp,rfl⟩,⟨x,List.mem_append_left _ hx,rfl⟩⟩))
  have hvb: ∀x∈v,EG (Rw ((u++[z])::(-z::v)::r)) z.natAbs x.natAbs:=fun x hx=> .base ((Dr _ _ _ _).2 (.inr ((Dr _ _ _ _).2 (.inl ⟨⟨-z,List.mem_cons_self,Int.natAbs_neg z⟩,⟨x,List.mem_cons_of_mem _ hx,rfl⟩⟩))))
  have hab: ∀x∈u++v,EG (Rw ((u++[z])::(-z::v)::r)) z.natAbs x.natAbs:=fun x hx=>(List.mem_append.1 hx).elim (hub x) (hvb x)
  refine ES (Bz _) (Bz _) _ _ (fun a b ha hb=>?_) ⟨(BU u v).natAbs,(Cd h2 _).2 ⟨_,List.mem_cons_self,_,hx0,rfl⟩,hab _ hx0⟩
  constructor
  ·intro k
   have:=GQ (S':=Rw ((u++v)::r)) (fun y=>if y=z.natAbs then(BU u v).natAbs else y) toM k
   rwa[if_neg (hyz a ha),if_neg (hyz b hb)]at this
  ·refine Fu (Bz _) fun a b k=>?_
   rw[Dr]at k
   rcases k with⟨⟨x,hx,rfl⟩,⟨x',hx',rfl⟩⟩|k
   ·exact .trans (.symm (hab x hx)) (hab x' hx')
   ·exact .base ((Dr _ _ _ _).2 (.inr ((Dr _ _ _ _).2 (.inr k))))
 ·rw[Kw hn',Kw hn]
  constructor
  ·intro k
   obtain⟨b1,P1,e1,k⟩:=(Fm _ _).1 k
   cases P1 with
   |nil=>cases e1
   |cons p P=>
    obtain⟨e2,e3⟩:=List.cons.inj e1
    refine(Fm _ _).2 ⟨b1,P,e3,?_⟩
    have hflat:MT (p::P)=p.2.map (Fj p.1)++MT P:=rfl
    have e2:p.2= -z::v:=e2
    rw[hflat,e2,List.map_append,List.map_cons,List.map_cons,List.map_nil]at k
    have hb:b1=p.1:=by
     have h5:Fj b1 z≠Fj p.1 (-z):=by
      intro e
      have h6:=k.sublist (l₁:=[Fj b1 z,Fj p.1 (-z)]) (by
       refine List.Sublist.append (l₁:=[Fj b1 z]) (r₁:=[Fj p.1 (-z)]) (List.sublist_append_right _ _) ?_
       exact List.Sublist.trans (List.singleton_sublist.2 List.mem_cons_self) (List.sublist_append_left _ _))
      rw[e]at h6
      simp at h6
     cases b1<;>cases hp:p.1<;>simp[Fj,hp]at h5⊢
    rw[List.map_append]
    rw[hb]at k⊢
    simp only[List.append_assoc,List.cons_append,List.nil_append]at k⊢
    exact k.sublist (((List.sublist_cons_self _ _).trans (List.sublist_cons_self _ _)).append_left _)
  ·intro k
   obtain⟨b,P,e1,k⟩:=(Fm _ _).1 k
   refine(Fm _ _).2 ⟨b,(b,-z::v)::P,by rw[List.map_cons,e1],?_⟩
   have hflat:MT ((b,-z::v)::P)=(-z::v).map (Fj b)++MT P:=rfl
   rw[hflat,List.map_append,List.map_cons,List.map_cons,List.map_nil]
   rw[List.map_append]at k
   have hfr: ∀x∈(u.map (Fj b)++v.map (Fj b))++MT P,x.natAbs≠z.natAbs:=by
    intro x hx
    rcases List.mem_append.1 hx with hx|hx
    ·rcases List.mem_append.1 hx with hx|hx
     ·obtain⟨y,hy,rfl⟩:=List.mem_map.1 hx
      rw[GW];exact hu y hy
     ·obtain⟨y,hy,rfl⟩:=List.mem_map.1 hx
      rw[GW];exact hv y hy
    ·obtain⟨q,hq,hx⟩:=List.mem_flatMap.1 hx
     obtain⟨y,hy,rfl⟩:=List.mem_map.1 hx
     rw[GW]
     exact hr q.2 (by rw[<-e1];exact List.mem_map.2 ⟨q,hq,rfl⟩) y hy
   have hperm:((u.map (Fj b)++[Fj b z])++(Fj b (-z)::v.map (Fj b)++MT P)).Perm (Fj b z::Fj b (-z)::((u.map (Fj b)++v.map (Fj b))++MT P)):=by
    have e2:(u.map (Fj b)++[Fj b z])++(Fj b (-z)::v.map (Fj b)++MT P)=u.map (Fj b)++([Fj b z,Fj b (-z)]++(v.map (Fj b)++MT P)):=by simp
    have e3:(Fj b z::Fj b (-z)::((u.map (Fj b)++v.map (Fj b))++MT P))=[Fj b z,Fj b (-z)]++(u.map (Fj b)++(v.map (Fj b)++MT P)):=by simp
    rw[e2,e3,<-List.append_assoc,<-List.append_assoc [Fj b z,Fj b (-z)]]
    exact List.perm_append_comm.append_right _
   refine hperm.symm.nodup (List.nodup_cons.2 ⟨fun hx=>?_,List.nodup_cons.2 ⟨fun hx=>?_,k⟩⟩)
   ·rcases List.mem_cons.1 hx with hx|hx
    ·cases b<;>simp[Fj]at hx<;>omega
    ·exact hfr _ hx (GW b z)
   ·exact hfr _ hx (by rw[GW,Int.natAbs_neg])
section cancel
variable {u : List Int} {z : Int} {r : List (List Int)} (hz : z ≠ 0) (hne : u ≠ []) (hf : Fw z (u :: r))
include hz hne hf
theorem JJ (p:Int×Int):p∈cp (z:: -z::u)↔p=(z,-z)\/p=(-z,BU u [])\/p∈pr (u++[z]):=by
 cases u with
 |nil=>exact absurd rfl hne
 |cons x s=>
  show p∈(z,-z)::(-z,x)::pr (x::s++[z])↔_
  rw[List.mem_cons,List.mem_cons]
  exact Iff.rfl
theorem Ja (p:Int×Int):p∈cp u↔p∈pr (u++[BU u []]):=by
 cases u with
 |nil=>exact absurd rfl hne
 |cons x s=>exact Iff.rfl
theorem IU:BU u []∈u:=by
 have:=HI (u:=u) (v:=[]) (by simpa using hne)
 simpa using this
theorem MH:EG (Sx ((z:: -z::u)::r)) (FJ z) (FJ (BU u [])):=
 .base ((Cx _ _ _ _).2 (.inl ⟨_,(JJ hz hne hf _).2 (.inr (.inl rfl)),(Ka hz).symm,rfl⟩))
theorem RX (e f:Nat) (k:Sx ((z:: -z::u)::r) e f):EG (Sx (u::r)) (MR z (FJ (BU u [])) (Gf z) e) (MR z (FJ (BU u [])) (Gf z) f):=by
 have hu: ∀x∈u,x.natAbs≠z.natAbs:=hf u List.mem_cons_self
 have hr:Fw z r:=fun w hw=>hf w (List.mem_cons_of_mem _ hw)
 have h0:=IU hz hne hf
 rw[Cx]at k
 rcases k with⟨p,hp,rfl,rfl⟩|k
 ·rcases(JJ hz hne hf p).1 hp with rfl|rfl|hp
  ·show EG _ (MR z _ _ (Gf z)) (MR z _ _ (FJ (-z)))
   rw[Iq hz]
   exact .refl _
  ·show EG _ (MR z _ _ (Gf (-z))) (MR z _ _ (FJ (BU u [])))
   rw[Ka hz,NS,FD (by rw[Gx];exact hu _ h0)]
   exact .refl _
  ·rcases KK u z (BU u []) p hp with⟨h1,h2,h3⟩|⟨h1,h2,h3⟩
   ·rw[FD (by rw[GJ];exact hu _ h1),FD (by rw[Gx];exact hu _ h2)]
    exact .base ((Cx _ _ _ _).2 (.inl ⟨p,(Ja hz hne hf p).2 h3,rfl,rfl⟩))
   ·rw[h1,NS,FD (by rw[GJ];exact hu _ h2)]
    exact .base ((Cx _ _ _ _).2 (.inl ⟨_,(Ja hz hne hf _).2 h3,rfl,rfl⟩))
 ·exact .base ((Cx _ _ _ _).2 (.inr (Tz hr k)))
theorem Oh (e f:Nat) (k:Sx (u::r) e f):EG (Sx ((z:: -z::u)::r)) e f:=by
 rw[Cx]at k
 rcases k with⟨p,hp,rfl,rfl⟩|k
 ·have g1: ∀p∈pr (u++[z]),EG (Sx ((z:: -z::u)::r)) (Gf p.1) (FJ p.2):=fun p hp=> .base ((Cx _ _ _ _).2 (.inl ⟨p,(JJ hz hne hf p).2 (.inr (.inr hp)),rfl,rfl⟩))
  rcases KK u (BU u []) z p ((Ja hz hne hf p).1 hp)with⟨_,_,h⟩|⟨h1,_,h2⟩
  ·exact g1 p h
  ·have h3:=g1 _ h2
   rw[h1]
   exact .trans h3 (MH hz hne hf)
 ·exact .base ((Cx _ _ _ _).2 (.inr k))
theorem QB {e f:Nat} (he:e/2≠z.natAbs) (hf2:f/2≠z.natAbs):EG (Sx ((z:: -z::u)::r)) e f↔EG (Sx (u::r)) e f:=by
 constructor
 ·intro k
  have:=GQ (MR z (FJ (BU u [])) (Gf z)) (RX hz hne hf) k
  rwa[FD he,FD hf2]at this
 ·exact Fu (Bz _) (Oh hz hne hf)
theorem Nu {e:Nat} (k:EG (Sx ((z:: -z::u)::r)) (Gf z) e):e=Gf z:=by
 have hu: ∀x∈u,x.natAbs≠z.natAbs:=hf u List.mem_cons_self
 have hr:Fw z r:=fun w hw=>hf w (List.mem_cons_of_mem _ hw)
 have h0:=IU hz hne hf
 refine(Wk (fun e=>e=Gf z) (fun a b k=>?_) k).1 rfl
 have no: ∀e,e/2≠z.natAbs->¬e=Gf z:=fun e h k=>h (by rw[k,GJ])
 have no2: ¬FJ z=Gf z:=Ji hz
 rw[Cx]at k
 rcases k with⟨p,hp,rfl,rfl⟩|k
 ·rcases(JJ hz hne hf p).1 hp with rfl|rfl|hp
  ·show Gf z=Gf z↔FJ (-z)=Gf z
   rw[Iq hz]
  ·show Gf (-z)=Gf z↔FJ (BU u [])=Gf z
   rw[Ka hz]
   exact⟨fun k=>absurd k no2,fun k=>absurd k (no _ (by rw[Gx];exact hu _ h0))⟩
  ·rcases KK u z (BU u []) p hp with⟨h1,h2,h3⟩|⟨h1,h2,h3⟩
   ·exact⟨fun k=>absurd k (no _ (by rw[GJ];exact hu _ h1)),fun k=>absurd k (no _ (by rw[Gx];exact hu _ h2))⟩
   ·rw[h1]
    exact⟨fun k=>absurd k (no _ (by rw[GJ];exact hu _ h2)),fun k=>absurd k no2⟩
 ·obtain⟨h1,h2⟩:=TX hr k
  exact⟨fun k=>absurd k (no _ h1),fun k=>absurd k (no _ h2)⟩
theorem Pf (y:Nat):IN ((z:: -z::u)::r) y↔y=z.natAbs\/IN (u::r) y:=by
 constructor
 ·rintro⟨w,hw,x,hx,rfl⟩
  rcases List.mem_cons.1 hw with rfl|hw
  ·rcases List.mem_cons.1 hx with rfl|hx
   ·exact .inl rfl
   ·rcases List.mem_cons.1 hx with rfl|hx
    ·exact .inl (Int.natAbs_neg z)
    ·exact .inr ⟨_,List.mem_cons_self,x,hx,rfl⟩
  ·exact .inr ⟨w,List.mem_cons_of_mem _ hw,x,hx,rfl⟩
 ·rintro(rfl|⟨w,hw,x,hx,rfl⟩)
  ·exact⟨_,List.mem_cons_self,z,List.mem_cons_self,rfl⟩
  ·rcases List.mem_cons.1 hw with rfl|hw
   ·exact⟨_,List.mem_cons_self,x,List.mem_cons_of_mem _ (List.mem_cons_of_mem _ hx),rfl⟩
   ·exact⟨w,List.mem_cons_of_mem _ hw,x,hx,rfl⟩
end cancel
theorem Vu {R:Nat->Nat->Prop} (s:Nat) (l:List Nat) (hs: ∀b,b∈l->¬R s b):K R (s::l)=1+K R l:=by
 rw[K,if_neg fun⟨b,hb,k⟩=>hs b hb k]
theorem Ob {u:List Int} {z:Int} {r:List (List Int)} (hz:z≠0) (hn:Nz (u::r)) (hf:Fw z (u::r)):CJ ((z:: -z::u)::r) (u::r):=by
 obtain⟨⟨hne,h0⟩,hr0⟩:=DN.1 hn
 have hu: ∀x∈u,x.natAbs≠z.natAbs:=hf u List.mem_cons_self
 have hr:Fw z r:=fun w hw=>hf w (List.mem_cons_of_mem _ hw)
 have hn':Nz ((z:: -z::u)::r):=by
  refine DN.2 ⟨⟨by simp,fun x hx=>?_⟩,hr0⟩
  rcases List.mem_cons.1 hx with rfl|hx
  ·exact hz
  ·rcases List.mem_cons.1 hx with rfl|hx
   ·omega
   ·exact h0 x hx
 have hm: ∀y,IN ((z:: -z::u)::r) y↔y=z.natAbs\/IN (u::r) y:=Pf hz hne hf
 have hcons: ∀es',HN (u::r) es'->HN ((z:: -z::u)::r) (z.natAbs::es'):=fun es' h2=>by
  refine⟨List.nodup_cons.2 ⟨fun k=>Hn hf ((Cd h2 _).1 k),h2.1⟩,fun y=>?_⟩
  rw[Gm,hm,List.mem_cons,Cd h2]
 have hiff:=fun(e f:Nat) (he:e/2≠z.natAbs) (hf2:f/2≠z.natAbs)=>QB (r:=r) hz hne hf he hf2
 have hx0:=IU hz hne hf
 refine⟨fun es es' h1 h2=>?_,fun fs fs' h1 h2=>?_,?_,?_⟩
 ·have h3:=hcons es' h2
  have hlen:es.length=es'.length+1:=by
   rw[JA h1.1 h3.1 fun y=>by rw[Cd h1,Cd h3]]
   rfl
  have hA:FJ (BU u [])∈FR es':=Tb h2 (w:=u) List.mem_cons_self hx0
  have hvv:Eh ((z:: -z::u)::r)=1+Eh (u::r):=by
   rw[Is hn' h3,Is hn h2]
   have hR: ∀a b,a∈FR es'->b∈FR es'->(EG (Sx ((z:: -z::u)::r)) a b↔EG (Sx (u::r)) a b):=fun a b ha hb=>hiff a b (IC hf h2 ha) (IC hf h2 hb)
   have hperm:K (EG (Sx ((z:: -z::u)::r))) (FR (z.natAbs::es'))=K (EG (Sx ((z:: -z::u)::r))) (Gf z::FJ z::FR es'):=Ds _ _ (Bz _) (Bz _) _ _ (fun e=>by
    rw[Ld]
    simp only[List.mem_cons]
    rcases Oa hz with⟨e1,e2⟩|⟨e1,e2⟩<;>rw[e1,e2]
    constructor
    ·rintro(k|k|k)
     ·exact .inr (.inl k)
     ·exact .inl k
     ·exact .inr (.inr k)
    ·rintro(k|k|k)
     ·exact .inr (.inl k)
     ·exact .inl k
     ·exact .inr (.inr k)) fun _ _ _ _=>Iff.rfl
   rw[hperm,Vu (Gf z) (FJ z::FR es') (fun b hb k=>by
    have e:=Nu hz hne hf k
    subst e
    rcases List.mem_cons.1 hb with e|hb
    ·exact Ji hz e.symm
    ·exact IC hf h2 hb (GJ z)),ES (Bz _) (Bz _) _ _ hR ⟨_,hA,MH hz hne hf⟩]
  rw[List.length_cons,List.length_cons]
  omega
 ·have hc: ∀y:Nat,y≠z.natAbs->((z:: -z::u)::r).flatten.countP (fun x=>x.natAbs==y)=(u::r).flatten.countP (fun x=>x.natAbs==y):=fun y hy=>by
   simp only[List.flatten_cons,List.countP_append,List.countP_cons,Int.natAbs_neg]
   rw[show(z.natAbs==y)=false by simp only[beq_eq_false_iff_ne,ne_eq];omega]
   simp only[Bool.false_eq_true,if_false]
   omega
  have hcz:((z:: -z::u)::r).flatten.countP (fun x=>x.natAbs==z.natAbs)≠1:=by
   simp only[List.flatten_cons,List.countP_append,List.countP_cons,Int.natAbs_neg,beq_self_eq_true,if_true]
   omega
  have hcz':(u::r).flatten.countP (fun x=>x.natAbs==z.natAbs)=0:=by
   rw[List.countP_eq_zero]
   intro x hx
   obtain⟨w,hw,hxw⟩:=List.mem_flatten.1 hx
   have:=hf w hw x hxw
   simpa using this
  have hmf: ∀y,y∈fs↔y∈fs':=fun y=>by
   rw[h1.2,h2.2]
   by_cases hy:y=z.natAbs
   ·subst hy
    rw[hcz']
    exact⟨fun k=>absurd k hcz,fun k=>by omega⟩
   ·rw[hc y hy]
  have hold: ∀y,y∈fs'->y≠z.natAbs:=fun y hy e=>by
   have:=(h2.2 y).1 hy
   subst e
   omega
  rw[He _ h1.1,He _ h2.1]
  refine Ds _ _ (Bz _) (Bz _) _ _ hmf fun a b _ _=>Ed (fun a b ⟨k1,k2,k,l,hk,hl,k3⟩=>?_) (fun a b ⟨k1,k2,k,l,hk,hl,k3⟩=>?_) a b
  ·have q1:=hold a ((hmf a).1 k1)
   have q2:=hold b ((hmf b).1 k2)
   exact .base ⟨(hmf a).1 k1,(hmf b).1 k2,k,l,hk,hl,(hiff _ _ (by omega) (by omega)).1 k3⟩
  ·have q1:=hold a k1
   have q2:=hold b k2
   exact .base ⟨(hmf a).2 k1,(hmf b).2 k2,k,l,hk,hl,(hiff _ _ (by omega) (by omega)).2 k3⟩
 ·obtain⟨es',h2⟩:=IB (u::r)
  have h3:=hcons es' h2
  rw[Gu hn' h3,Gu hn h2]
  have hyz: ∀y,y∈es'->y≠z.natAbs:=fun y hy e=>Hn hf (e▸(Cd h2 y).1 hy)
  have toM: ∀y y',Rw ((z:: -z::u)::r) y y'->EG (Rw (u::r)) (if y=z.natAbs then(BU u []).natAbs else y) (if y'=z.natAbs then(BU u []).natAbs else y'):=fun y y' k=>by
   rw[Dr]at k
   have big: ∀a,(∃x∈z:: -z::u,x.natAbs=a)->∃x∈u,x.natAbs=(if a=z.natAbs then(BU u []).natAbs else a):=fun a k=>by
    by_cases ha:a=z.natAbs
    ·rw[if_pos ha];exact⟨_,hx0,rfl⟩
    ·rw[if_neg ha]
     obtain⟨x,hx,rfl⟩:=k
     rcases List.mem_cons.1 hx with rfl|hx
     ·exact absurd rfl ha
     ·rcases List.mem_cons.1 hx with rfl|hx
      ·exact absurd (Int.natAbs_neg z) ha
      ·exact⟨x,hx,rfl⟩
   rcases k with⟨k1,k2⟩|k
   ·exact .base ((Dr _ _ _ _).2 (.inl ⟨big y k1,big y' k2⟩))
   ·obtain⟨w,hw,⟨x,hx,e1⟩,⟨x',hx',e2⟩⟩:=k
    rw[if_neg (by rw[<-e1];exact hr w hw x hx),if_neg (by rw[<-e2];exact hr w hw x' hx')]
    exact .base ((Dr _ _ _ _).2 (.inr ⟨w,hw,⟨x,hx,e1⟩,⟨x',hx',e2⟩⟩))
  have hab: ∀x∈u,EG (Rw ((z:: -z::u)::r)) z.natAbs x.natAbs:=fun x hx=> .base ((Dr _ _ _ _).2 (.inl ⟨⟨z,List.mem_cons_self,rfl⟩,⟨x,List.mem_cons_of_mem _ (List.mem_cons_of_mem _ hx),rfl⟩⟩))
  refine ES (Bz _) (Bz _) _ _ (fun a b ha hb=>?_) ⟨(BU u []).natAbs,(Cd h2 _).2 ⟨_,List.mem_cons_self,_,hx0,rfl⟩,hab _ hx0⟩
  constructor
  ·intro k
   have:=GQ (S':=Rw (u::r)) (fun y=>if y=z.natAbs then(BU u []).natAbs else y) toM k
   rwa[if_neg (hyz a ha),if_neg (hyz b hb)]at this
  ·refine Fu (Bz _) fun a b k=>?_
   rw[Dr]at k
   rcases k with⟨⟨x,hx,rfl⟩,⟨x',hx',rfl⟩⟩|k
   ·exact .trans (.symm (hab x hx)) (hab x' hx')
   ·exact .base ((Dr _ _ _ _).2 (.inr k))
 ·rw[Kw hn',Kw hn]
  constructor
  ·intro k
   obtain⟨b,P,e1,k⟩:=(Fm _ _).1 k
   refine(Fm _ _).2 ⟨b,P,e1,?_⟩
   exact k.sublist ((List.sublist_cons_self _ _).trans (List.sublist_cons_self _ _))
  ·intro k
   obtain⟨b,P,e1,k⟩:=(Fm _ _).1 k
   refine(Fm _ _).2 ⟨b,P,e1,?_⟩
   have hfr: ∀x∈u.map (Fj b)++MT P,x.natAbs≠z.natAbs:=by
    intro x hx
    rcases List.mem_append.1 hx with hx|hx
    ·obtain⟨y,hy,rfl⟩:=List.mem_map.1 hx
     rw[GW];exact hu y hy
    ·obtain⟨q,hq,hx⟩:=List.mem_flatMap.1 hx
     obtain⟨y,hy,rfl⟩:=List.mem_map.1 hx
     rw[GW]
     exact hr q.2 (by rw[<-e1];exact List.mem_map.2 ⟨q,hq,rfl⟩) y hy
   show(Fj b z::Fj b (-z)::(u.map (Fj b)++MT P)).Nodup
   refine List.nodup_cons.2 ⟨fun hx=>?_,List.nodup_cons.2 ⟨fun hx=>?_,k⟩⟩
   ·rcases List.mem_cons.1 hx with hx|hx
    ·cases b<;>simp[Fj]at hx<;>omega
    ·exact hfr _ hx (GW b z)
   ·exact hfr _ hx (by rw[GW,Int.natAbs_neg])
theorem Gv {g h:List (List Int)} (p:g.Perm h) (hg:Nz g):Nz h:=fun w hw=>hg w (p.mem_iff.2 hw)
theorem Hs {g:List (List Int)} {q:Nat} (hq:q<g.length) (w:List Int):(g.set q w).Perm (w::(g.take q++g.drop (q+1))):=by
 rw[List.set_eq_take_append_cons_drop,if_pos hq]
 exact List.perm_middle
theorem Gb {g:List (List Int)} {q:Nat} (hq:q<g.length):g.Perm (g[q]::(g.take q++g.drop (q+1))):=by
 have:=Hs hq g[q]
 rwa[List.set_getElem_self]at this
theorem PH {g:List (List Int)} {q:Nat} (hq:q<g.length) {w:List Int} (hz:Nz g) (hw:Nz (g.set q w)) (h: ∀r,Nz (g[q]::r)->CJ (g[q]::r) (w::r)):CJ g (g.set q w):=
 (Ef hz (Gb hq)).trans ((h _ (Gv (Gb hq) hz)).trans (Ef hw (Hs hq w)).symm)
theorem OI {u v:List Int} {z:Int} {r:List (List Int)} (hz:z≠0) (hn:Nz ((u++v)::r)):Nz ((u++[z])::(-z::v)::r):=by
 obtain⟨⟨_,h0⟩,hr0⟩:=DN.1 hn
 refine DN.2 ⟨⟨by simp,fun x hx=>?_⟩,DN.2 ⟨⟨by simp,fun x hx=>?_⟩,hr0⟩⟩
 ·rcases List.mem_append.1 hx with hx|hx
  ·exact h0 x (List.mem_append_left _ hx)
  ·rw[List.mem_singleton.1 hx];exact hz
 ·rcases List.mem_cons.1 hx with rfl|hx
  ·omega
  ·exact h0 x (List.mem_append_right _ hx)
theorem Pe {z:Int} {g h:List (List Int)} (p:g.Perm h) (k:Fw z g):Fw z h:=fun w hw=>k w (p.mem_iff.2 hw)
theorem SK {g:List (List Int)} {q:Nat} (hq:q<g.length) {a b u v:List Int} {X:Int} (hX:X≠0) (hw:g[q]=a++b) (huv:u++v=b++a) (hz:Nz g) (hf:Fw X g):CJ g (g.set q (u++[X])++[-X::v]):=by
 have p1:=Gb hq
 have z1:=Gv p1 hz
 have f1:=Pe p1 hf
 rw[hw]at p1 z1 f1
 generalize hR:g.take q++g.drop (q+1)=R at*
 have z2:Nz ((u++v)::R):=by
  rw[huv]
  obtain⟨⟨h1,h2⟩,h3⟩:=DN.1 z1
  exact DN.2 ⟨⟨fun e=>h1 (by simp at e⊢;exact⟨e.2,e.1⟩),fun x hx=>h2 x (by rw[List.mem_append]at hx⊢;exact hx.symm)⟩,h3⟩
 have f2:Fw X ((u++v)::R):=by
  rw[huv]
  intro w hw x hx
  rcases List.mem_cons.1 hw with rfl|hw
  ·exact f1 _ List.mem_cons_self x (by rw[List.mem_append]at hx⊢;exact hx.symm)
  ·exact f1 w (List.mem_cons_of_mem _ hw) x hx
 have p2:((u++[X])::(-X::v)::R).Perm (g.set q (u++[X])++[-X::v]):=by
  have k:=Hs hq (u++[X])
  rw[hR]at k
  exact((List.Perm.swap _ _ _).trans (k.symm.cons _)).trans (List.perm_append_singleton _ _).symm
 have s1:=GB a b R z1
 rw[<-huv]at s1
 exact(Ef hz p1).trans (s1.trans ((Lt hX z2 f2).symm.trans (Ef (OI hX z2) p2)))
theorem Ox {g:List (List Int)} {z x:Int} {A t:List Int} {R:List (List Int)} (hx:x.natAbs=z.natAbs) (h2:Ov g) (p:g.flatten.Perm (z::x::t)) (ht: ∀y,(∃w∈(A::R),y∈w)->y∈t):Fw z (A::R):=by
 intro w hw y hy e
 have k:=h2 z.natAbs
 rw[p.countP_eq]at k
 have hpos:0<t.countP (fun x=>x.natAbs==z.natAbs):=List.countP_pos_iff.2 ⟨y,ht y ⟨w,hw,hy⟩,by simpa using e⟩
 rw[List.countP_cons,List.countP_cons]at k
 simp only[hx,beq_self_eq_true,if_true]at k
 omega
theorem JQ {g:List (List Int)} {q:Nat} (hq:q<g.length) {a b c d:List Int} {z:Int} (hw:g[q]=a++b) (hba:b++a=z:: -z::(d++c)) (hz:Nz g) (h2:Ov g) (hr:Nz (g.set q (c++d))):CJ g (g.set q (c++d)):=by
 have p1:=Gb hq
 have z1:=Gv p1 hz
 have p3:=Hs hq (c++d)
 have z3:=Gv p3 hr
 rw[hw]at p1 z1
 generalize hR:g.take q++g.drop (q+1)=R at*
 have hz0:z≠0:=(DN.1 z1).1.2 z (by
  have:z∈b++a:=by rw[hba];exact List.mem_cons_self
  rw[List.mem_append]at this⊢
  exact this.symm)
 have z4:Nz ((d++c)::R):=by
  obtain⟨⟨h1,h2⟩,h3⟩:=DN.1 z3
  exact DN.2 ⟨⟨fun e=>h1 (by simp at e⊢;exact⟨e.2,e.1⟩),fun x hx=>h2 x (by rw[List.mem_append]at hx⊢;exact hx.symm)⟩,h3⟩
 have hfl:g.flatten.Perm (z:: -z::((d++c)++R.flatten)):=by
  have k:=p1.flatten
  rw[List.flatten_cons]at k
  have k2:((a++b)++R.flatten).Perm ((b++a)++R.flatten):=List.perm_append_comm.append_right _
  rw[hba]at k2
  exact k.trans k2
 have hfr:Fw z ((d++c)::R):=Ox (by rw[Int.natAbs_neg]) h2 hfl fun y ⟨w,hw,hy⟩=>by
  rcases List.mem_cons.1 hw with rfl|hw
  ·exact List.mem_append_left _ hy
  ·exact List.mem_append_right _ (List.mem_flatten.2 ⟨w,hw,hy⟩)
 have s1:=GB a b R z1
 rw[hba]at s1
 exact(Ef hz p1).trans (s1.trans ((Ob hz0 z4 hfr).trans ((GB d c R z4).trans (Ef hr p3).symm)))
theorem Rt {g r:List (List Int)} {A B o a1 a2 o1 o2:List Int} {x:Int} {R:List (List Int)} (hz:Nz g) (hzr:Nz r) (h2:Ov g) (hp:g.Perm (A::B::R)) (hr:r.Perm ((a1++(o2++o1)++a2)::R)) (hA:A=a1++x::a2) (hB:o=B\/o=iv B) (ho:o=o1++ -x::o2):CJ g r:=by
 have z1:=Gv hp hz
 have s1:=Ef hz hp
 have s2:CJ (A::B::R) (o::A::R):=by
  have sw:(A::B::R).Perm (B::A::R):=List.Perm.swap _ _ _
  rcases hB with rfl|rfl
  ·exact Ef z1 sw
  ·exact(Ef z1 sw).trans (Ky B (A::R) (Gv sw z1))
 have zB:Nz (o::A::R):=by
  obtain⟨hA0,hBR⟩:=DN.1 z1
  obtain⟨hB0,hR0⟩:=DN.1 hBR
  refine DN.2 ⟨?_,DN.2 ⟨hA0,hR0⟩⟩
  rcases hB with rfl|rfl
  ·exact hB0
  ·refine⟨fun e=>hB0.1 (by have:=congrArg iv e;rwa[Qg]at this),fun y hy=>?_⟩
   have:=hB0.2 _ (OE.1 hy)
   omega
 have hx0:x≠0:=(DN.1 z1).1.2 x (by rw[hA];simp)
 have cnt0: ∀y:Nat,g.flatten.countP (fun x=>x.natAbs==y)=A.countP (fun x=>x.natAbs==y)+o.countP (fun x=>x.natAbs==y)+R.flatten.countP (fun x=>x.natAbs==y):=fun y=>by
  rw[hp.flatten.countP_eq,List.flatten_cons,List.flatten_cons,List.countP_append,List.countP_append]
  have:o.countP (fun x=>x.natAbs==y)=B.countP (fun x=>x.natAbs==y):=by
   rcases hB with rfl|rfl
   ·rfl
   ·unfold iv
    rw[List.countP_reverse,List.countP_map]
    congr 1
    funext x
    simp
  omega
 have hfr:Fw x (((a2++a1)++(o2++o1))::R):=by
  intro w hw y hy e
  have k:=h2 x.natAbs
  rw[cnt0,hA,ho,List.countP_append,List.countP_append,List.countP_cons,List.countP_cons]at k
  simp only[Int.natAbs_neg,beq_self_eq_true,if_true]at k
  have one: ∀l:List Int,y∈l->0<l.countP (fun z=>z.natAbs==x.natAbs):=fun l hl=>List.countP_pos_iff.2 ⟨y,hl,by simpa using e⟩
  rcases List.mem_cons.1 hw with rfl|hw
  ·rcases List.mem_append.1 hy with hy|hy
   ·rcases List.mem_append.1 hy with hy|hy
    ·have:=one _ hy;omega
    ·have:=one _ hy;omega
   ·rcases List.mem_append.1 hy with hy|hy
    ·have:=one _ hy;omega
    ·have:=one _ hy;omega
  ·have:=one R.flatten (List.mem_flatten.2 ⟨w,hw,hy⟩);omega
 subst hA ho
 have t1:=GB o1 (-x::o2) ((a1++x::a2)::R) zB
 have e1:(-x::o2)++o1= -x::(o2++o1):=rfl
 rw[e1]at t1
 have zW:=Gv hr hzr
 have hmW: ∀y,y∈a1++(o2++o1)++a2↔y∈(a2++a1)++(o2++o1):=fun y=>by
  simp only[List.mem_append]
  constructor
  ·rintro((h|h)|h)
   ·exact .inl (.inr h)
   ·exact .inr h
   ·exact .inl (.inl h)
  ·rintro((h|h)|h)
   ·exact .inr h
   ·exact .inl (.inl h)
   ·exact .inl (.inr h)
 have zM:Nz (((a2++a1)++(o2++o1))::R):=by
  obtain⟨⟨h1,h2⟩,h3⟩:=DN.1 zW
  refine DN.2 ⟨⟨fun e=>h1 ?_,fun y hy=>h2 y ((hmW y).2 hy)⟩,h3⟩
  refine List.eq_nil_iff_forall_not_mem.2 fun y hy=>?_
  have:=(hmW y).1 hy
  rw[e]at this
  cases this
 have zS:=OI hx0 zM
 have p3:((-x::(o2++o1))::(a1++x::a2)::R).Perm ((a1++x::a2)::(-x::(o2++o1))::R):=List.Perm.swap _ _ _
 have zT:Nz ((-x::(o2++o1))::(a1++x::a2)::R):=by
  obtain⟨⟨h1,h2⟩,h3⟩:=DN.1 zB
  refine DN.2 ⟨⟨by simp,fun y hy=>h2 y ?_⟩,h3⟩
  have:y∈(-x::o2)++o1:=hy
  rw[List.mem_append]at this⊢
  exact this.symm
 have zT2:=Gv p3 zT
 have e2:a1++x::a2=(a1++[x])++a2:=by simp
 have t2:CJ ((a1++x::a2)::(-x::(o2++o1))::R) ((a2++a1++[x])::(-x::(o2++o1))::R):=by
  have k:=GB (a1++[x]) a2 ((-x::(o2++o1))::R) (by rw[<-e2];exact zT2)
  rw[<-e2]at k
  have e3:a2++(a1++[x])=a2++a1++[x]:=(List.append_assoc _ _ _).symm
  rwa[e3]at k
 have m:=Lt (u:=a2++a1) (v:=o2++o1) hx0 zM hfr
 have t3:CJ (((a2++a1)++(o2++o1))::R) ((a1++(o2++o1)++a2)::R):=by
  have e4:(a2++a1)++(o2++o1)=a2++(a1++(o2++o1)):=List.append_assoc _ _ _
  rw[e4]
  exact GB a2 (a1++(o2++o1)) R (by rw[<-e4];exact zM)
 exact s1.trans (s2.trans (t1.trans ((Ef zT p3).trans (t2.trans (m.trans (t3.trans (Ef hzr hr).symm))))))
