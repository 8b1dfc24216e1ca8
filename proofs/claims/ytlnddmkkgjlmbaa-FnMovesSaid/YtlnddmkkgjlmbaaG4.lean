/- Parts of this claim's walks and of its plain proof. No conditions of their own. -/
import Derived.Test.YtlnddmkkgjlmbaaProg
import Derived.Test.YtlnddmkkgjlmbaaCom
import Derived.Test.YtlnddmkkgjlmbaaG3
namespace Go.Proofs.Ytlnddmkkgjlmbaa.Joi
open Go.RowKit Go.Proofs.YtlnddmkkgjlmbaaW.PrintWords Go.Proofs.YtlnddmkkgjlmbaaW.PrintLast Go.Proofs.YtlnddmkkgjlmbaaW.PrintMore Go.Proofs.Ytlnddmkkgjlmbaa.Com
set_option linter.unusedVariables false
set_option linter.unusedSimpArgs false
def XM (xs:List Int):Nat->Nat->Nat->Prop
 |0,i,r=>i=r/\xs[i]? =some (i:Int)
 |n+1,i,r=> ∃j:Nat,xs[i]? =some (j:Int)/\j≠i/\XM xs n j r
theorem Sw {xs:List Int} {n i r:Nat} (h:XM xs n i r):i<xs.length:=by
 cases n with
 |zero=>exact(List.getElem?_eq_some_iff.1 h.2).1
 |succ n=>obtain⟨j,h1,_⟩:=h;exact(List.getElem?_eq_some_iff.1 h1).1
def Mg (xs:List Int) (ra rb:Nat):List Int:=if ra>rb then xs.set ra (rb:Int)else xs.set rb (ra:Int)
theorem Jz (xs:List Int) (ra rb:Nat):(Mg xs ra rb).length=xs.length:=by unfold Mg;split<;>exact List.length_set
def Gh (xs:List Int) (k:Nat):Nat:=(List.range k).countP (fun i:Nat=>decide (xs[i]? =some (i:Int)))
theorem Kr (xs:List Int) (k:Nat):Gh xs (k+1)=Gh xs k+if xs[k]? =some (k:Int)then 1 else 0:=by
 unfold Gh
 rw[List.range_succ,List.countP_append,List.countP_cons,List.countP_nil,Nat.zero_add]
 by_cases h:xs[k]? =some (k:Int)<;>simp[h]
theorem Mf (xs:List Int) (k:Nat):Gh xs k<=k:=by
 have:=List.countP_le_length (p:=fun i:Nat=>decide (xs[i]? =some (i:Int))) (l:=List.range k)
 rw[List.length_range]at this
 exact this
theorem BT:(Try.prog.info? 3).map (fun i=>(i.zero,i.size,i.bytes))=some (some (.int .i64 0),1,8):=by kernel_rfl
def iota (n:Nat):List Int:=(List.range n).map fun i:Nat=>(i:Int)
theorem GM (n:Nat):(iota n).length=n:=by simp[iota]
theorem KW (n:Nat):iota (n+1)=iota n++[(n:Int)]:=by simp[iota,List.range_succ]
def Up (w:World) (b:Nat) (v:Value) (xs:List Int):Prop:=w.ownsRow b 3 1 v xs.length (FU (Value.int .i64) xs)
theorem Up.below {w w1:World} {b:Nat} {v:Value} {xs:List Int} (h:Up w b v xs) (hb:Below w.heap.size w w1):Up w1 b v xs:=Jl h hb
theorem Up.C {w:World} {b:Nat} {A:Option Addr} {n c:Nat} {xs:List Int} (h:Up w b (.slice A n c) xs):(Kd.int .i64).C w A xs.length xs/\xs.length<=c/\n=xs.length:=by
 have hn:n=xs.length:=by
  obtain⟨A',c',e⟩:=Kj h
  injection e
 subst hn
 exact⟨Kd.Cf (Mc (d:=(0:Int)) h),Po h,rfl⟩
theorem Up.laid {w:World} {b:Nat} {v:Value} {xs:List Int} (h:Up w b v xs) (hp:0<xs.length): ∃u cap,v= .slice (some ⟨u,0,none⟩) xs.length cap/\b<=u/\xs.length<=cap/\
 (∀j:Nat,j<xs.length->w.cell? ⟨u,j,none⟩=some (.int .i64 (rd xs j))/\w.frozen? ⟨u,j,none⟩=false)/\(∀(j:Nat) (x:Int),j<xs.length->Up (w.setCell ⟨u,j,none⟩ (.int .i64 x)) b v (xs.set j x)):=by
 obtain⟨u,cap,rfl,hb,hc⟩:=h.form hp
 refine⟨u,cap,rfl,hb,Po h,fun j hj=>?_,fun j x hj=>?_⟩
 ·exact NB (d:=(0:Int)) h (j:Int) (by omega) (by omega)
 ·have:=(Jx h (j:Int) x).1
  rw[Int.toNat_natCast]at this
  unfold Up
  rw[List.length_set];exact this
set_option maxHeartbeats 8000000 in
set_option maxRecDepth 100000 in
theorem GH (A:Option Addr) (N c:Nat) (xs:List Int) (hN:xs.length=N) (i r n:Nat) (w:World) (hR:(Kd.int .i64).C w A xs.length xs) (hc:xs.length<=c) (h:XM xs n i r) (hl:xs.length<=1048576):
 Calls Try.prog 90 #[.slice A N c,.int .i64 (i:Int)] w fun e w'=>e= .returned (.int .i64 (r:Int))/\w'=w:=by
 subst hN
 have hi:=Sw h
 obtain⟨ad,hA,_⟩:=Kd.Dk hR (0:Int) (by omega) (by omega)
 subst hA
 have HC:=AJ.mk hR
 have H0:=AJ.mk h
 clear h hR
 have HL:((xs.length:Nat):Int)<=1048576:=by omega
 go_enter Try.func90,Try.ntmps90
 go_wp2
 go_loopg [1] n (fun k v1 w'=> ∃j:Nat,v1= .int .i64 (j:Int)/\AJ (XM xs k j r)/\w=w')
 case atStart=>exact⟨i,rfl,H0,rfl⟩
 case round=>
  obtain⟨j,rfl,HR,rfl⟩:=hrel
  have hj:=Sw HR.out
  obtain⟨ad2,h2,hcj⟩:=Kd.Dk HC.out (j:Int) (by omega) (by omega)
  cases h2
  rw[Int.toNat_natCast]at hcj
  have hj0:(0:Int)<=(j:Int):=by omega
  have hjl:(j:Int)<(xs.length:Int):=by omega
  cases gk with
  |zero=>
   obtain⟨rfl,he⟩:=HR.out
   have hrd:rd xs (j:Int)=(j:Int):=by rw[CR hj];exact(List.getElem?_eq_some_iff.1 he).2
   rw[hrd]at hcj
   clear hrd he HR H0
   go_wp2
   go_ret
   exact⟨rfl,rfl⟩
  |succ k1=>
   obtain⟨q,he,hne,hq⟩:=HR.out
   have hrd:rd xs (j:Int)=(q:Int):=by rw[CR hj];exact(List.getElem?_eq_some_iff.1 he).2
   rw[hrd]at hcj
   have c1:((q:Int)==(j:Int))=false:=by rw[beq_eq_false_iff_ne];omega
   have c2:(!((q:Int)==(j:Int)))=true:=by rw[c1];rfl
   have HQ:=AJ.mk hq
   clear hrd he HR H0 hq hne
   go_wp2
   go_roundg k1
   case measure=>omega
   case rel=>exact⟨q,rfl,HQ,rfl⟩
end Go.Proofs.Ytlnddmkkgjlmbaa.Joi
namespace Go.Proofs.Ytlnddmkkgjlmbaa.Joi
open Go.Proofs.Ytlnddmkkgjlmbaa.Kl Go.Proofs.YtlnddmkkgjlmbaaW.PrintWords
theorem Ls {xs:List Int} {i r:Nat} (h:Kl.Reach xs i r): ∃n,XM xs n i r:=by
 induction h with
 |root h=>exact⟨0,rfl,h⟩
 |step h hne _ ih=>obtain⟨n,hn⟩:=ih;exact⟨n+1,_,h,hne,hn⟩
theorem Qk (n:Nat):UF (iota n) Eq:=UF.init n
theorem Sz {R:Nat->Nat->Prop} (a b x y:Nat):Jg R a b x y↔Jg R b a x y:=by
 unfold Jg
 constructor<;>rintro(h|h|h)<;>simp[h]
theorem QS {xs:List Int} {R:Nat->Nat->Prop} (h:UF xs R) {x y a b:Nat} (hx:Kl.Reach xs x a) (hy:Kl.Reach xs y b):UF (Mg xs a b) (Jg R x y):=by
 unfold Mg
 split
 ·exact h.join hx hy
 ·refine(h.join hy hx).congr (Fv h.eqv x y) fun u v _ _=>Sz _ _ _ _
theorem Td {xs:List Int} {R:Nat->Nat->Prop} (h:UF xs R):Gh xs xs.length=K R (List.range xs.length):=by
 unfold Gh
 exact h.count (List.range xs.length) (fun i hi=>List.mem_range.1 hi) List.nodup_range (fun i r hi hr=>List.mem_range.2 hr.lt.2)
inductive EG (S:Nat->Nat->Prop):Nat->Nat->Prop
 |base {a b}:S a b->EG S a b
 |refl (a):EG S a a
 |symm {a b}:EG S a b->EG S b a
 |trans {a b c}:EG S a b->EG S b c->EG S a c
theorem Bz (S:Nat->Nat->Prop):IX (EG S):=⟨EG.refl,EG.symm,EG.trans⟩
theorem Fu {S R:Nat->Nat->Prop} (hR:IX R) (h: ∀a b,S a b->R a b) {a b:Nat} (e:EG S a b):R a b:=by
 induction e with
 |base h1=>exact h _ _ h1
 |refl a=>exact hR.refl a
 |symm _ ih=>exact hR.symm ih
 |trans _ _ i1 i2=>exact hR.trans i1 i2
def FI (n:Nat) (S:Nat->Nat->Prop) (xs:List Int) (T:Nat->Nat->Prop):Prop:=xs.length=n/\∃R,UF xs R/\(∀a b,R a b->EG S a b)/\∀a b,T a b->R a b
theorem FI.start (n:Nat) (S:Nat->Nat->Prop):FI n S (iota n) (fun _ _=>False):=⟨GM n,Eq,Qk n,fun a b e=>by subst e;exact EG.refl a,fun _ _ h=>h.elim⟩
theorem FI.weaken {n:Nat} {S T T':Nat->Nat->Prop} {xs:List Int} (h:FI n S xs T) (hT: ∀a b,T' a b->T a b):FI n S xs T':=by
 obtain⟨h1,R,h2,h3,h4⟩:=h
 exact⟨h1,R,h2,h3,fun a b hab=>h4 a b (hT a b hab)⟩
theorem FI.root {n:Nat} {S T:Nat->Nat->Prop} {xs:List Int} (h:FI n S xs T) {p:Nat} (hp:p<n): ∃r,Kl.Reach xs p r:=by
 obtain⟨h1,R,h2,_⟩:=h
 exact h2.tot p (by omega)
theorem FI.join {n:Nat} {S T:Nat->Nat->Prop} {xs:List Int} (h:FI n S xs T) {p q ra rb:Nat} (hp:Kl.Reach xs p ra) (hq:Kl.Reach xs q rb) (hS:EG S p q):FI n S (Mg xs ra rb) (fun a b=>T a b\/(a=p/\b=q)):=by
 obtain⟨h1,R,h2,h3,h4⟩:=h
 refine⟨by rw[Jz,h1],Jg R p q,QS h2 hp hq,IJ (Bz S) h3 hS,fun a b hab=>?_⟩
 rcases hab with hab|⟨rfl,rfl⟩
 ·exact Nf (h4 a b hab)
 ·exact IH h2.eqv a b
theorem FI.VD {n:Nat} {S T:Nat->Nat->Prop} {xs:List Int} (h:FI n S xs T) {p q ra rb:Nat} (hp:Kl.Reach xs p ra) (hq:Kl.Reach xs q rb) (hS:EG S p q):FI n S (xs.set ra (rb:Int)) (fun a b=>T a b\/(a=p/\b=q)):=by
 obtain⟨h1,R,h2,h3,h4⟩:=h
 refine⟨by rw[List.length_set,h1],Jg R p q,h2.join hp hq,IJ (Bz S) h3 hS,fun a b hab=>?_⟩
 rcases hab with hab|⟨rfl,rfl⟩
 ·exact Nf (h4 a b hab)
 ·exact IH h2.eqv a b
theorem FI.uf {n:Nat} {S T:Nat->Nat->Prop} {xs:List Int} (h:FI n S xs T) (hT: ∀a b,a<n->b<n->EG S a b->EG T a b):UF xs (EG S):=by
 obtain⟨h1,R,h2,h3,h4⟩:=h
 refine h2.congr (Bz S) fun a b ha hb=>⟨h3 a b,fun e=>?_⟩
 exact Fu h2.eqv h4 (hT a b (by omega) (by omega) e)
theorem FI.count {n:Nat} {S T:Nat->Nat->Prop} {xs:List Int} (h:FI n S xs T) (hT: ∀a b,a<n->b<n->EG S a b->EG T a b):Gh xs n=K (EG S) (List.range n):=by
 have:=Td (h.uf hT)
 rwa[h.1]at this
theorem Ej (R:Nat->Nat->Prop) (l:List Nat):K R l<=l.length:=by
 induction l with
 |nil=>simp[K]
 |cons a l ih=>simp only[K,List.length_cons];split<;>omega
def Sh (g:List (List Int)) (p q:Nat):Prop:=p<g.length/\q<g.length/\∃x∈g.getD p [],∃y∈g.getD q [],x.natAbs=y.natAbs
noncomputable def Hd (g:List (List Int)):Nat:=K (EG (Sh g)) (List.range g.length)
def GOk (g:List (List Int)):Prop:=g.length<=4/\∀p,p<g.length->(g.getD p []).length<=24/\∀x∈g.getD p [],-8<=x/\x<=8
theorem RU (g:List (List Int)):Hd g<=g.length:=by
 have:=Ej (EG (Sh g)) (List.range g.length)
 rwa[List.length_range]at this
def row (g:List (List Int)) (p:Nat):List Int:=g.getD p []
def fst (g:List (List Int)) (p:Nat):Nat:=((g.take p).map List.length).sum
theorem SS (g:List (List Int)):fst g 0=0:=rfl
theorem Hz {g:List (List Int)} {p:Nat} (h:p<g.length):fst g (p+1)=fst g p+(row g p).length:=by
 unfold fst row
 rw[List.take_succ_eq_append_getElem h,List.map_append,List.sum_append]
 simp[List.getD_eq_getElem?_getD,h]
theorem KM {g:List (List Int)} {p q:Nat} (hq:q<=g.length) (h:p<=q):fst g p<=fst g q:=by
 induction q with
 |zero=>obtain rfl:p=0:=by omega
        exact Nat.le_refl _
 |succ q ih=>
  rcases Nat.lt_or_eq_of_le h with h1|rfl
  ·have:=ih (by omega) (by omega)
   rw[Hz (by omega)];omega
  ·exact Nat.le_refl _
def Dy (g:List (List Int)) (p i:Nat):Prop:=p<g.length/\i<(row g p).length
def Ee (g:List (List Int)):Nat:=fst g g.length
theorem VH {g:List (List Int)} {p i:Nat} (h:Dy g p i):fst g p+(row g p).length<=Ee g:=by
 rw[<-Hz h.1]
 exact KM (Nat.le_refl _) h.1
def Fx (g:List (List Int)) (p i:Nat):Int:=rd (row g p) (i:Int)
def LP (g:List (List Int)) (p i:Nat):Nat:=fst g p+i
def Xs (g:List (List Int)) (p i:Nat):Nat:=fst g p+(i+1) % (row g p).length
def GY (g:List (List Int)) (p i k:Nat):Nat:=if(Fx g p i<0)↔k=1 then LP g p i else Xs g p i
theorem LW {g:List (List Int)} {p i:Nat} (h:Dy g p i) (k:Nat):GY g p i k<Ee g:=by
 have h1:=VH h
 have h2:=h.2
 have h3:(i+1) % (row g p).length<(row g p).length:=Nat.mod_lt _ (by omega)
 unfold GY LP Xs
 split<;>omega
def Sc (g:List (List Int)) (a b:Nat):Prop:= ∃p i q j k,Dy g p i/\Dy g q j/\(Fx g p i).natAbs=(Fx g q j).natAbs/\k<2/\a=GY g p i k/\b=GY g q j k
noncomputable def Eh (g:List (List Int)):Nat:=K (EG (Sc g)) (List.range (Ee g))
def Kt (g:List (List Int)):Prop:=g.length<=4/\(∀p,p<g.length->0<(row g p).length/\(row g p).length<=24/\∀x∈row g p,-8<=x/\x<=8)/\Ee g<=96
theorem KQ {g:List (List Int)} (h:Kt g) {p i:Nat} (hs:Dy g p i): -8<=Fx g p i/\Fx g p i<=8:=by
 have:=(h.2.1 p hs.1).2.2
 unfold Fx
 rw[Go.Proofs.Ytlnddmkkgjlmbaa.Com.CR hs.2]
 exact this _ (List.getElem_mem hs.2)
def It (g:List (List Int)) (ats xs:List Int) (D:Nat->Nat->Nat->Prop):Prop:=
 xs.length=Ee g/\ats.length=18/\∃R,UF xs R/\(∀a b,R a b->EG (Sc g) a b)/\∀y k,y<9->k<2->
  (rd ats ((y*2+k:Nat):Int)= -1/\∀q j,Dy g q j->D q j k->(Fx g q j).natAbs≠y)\/
  (∃p i,Dy g p i/\(Fx g p i).natAbs=y/\rd ats ((y*2+k:Nat):Int)=((GY g p i k:Nat):Int)/\∀q j,Dy g q j->D q j k->(Fx g q j).natAbs=y->R (GY g p i k) (GY g q j k))
theorem It.weaken {g:List (List Int)} {ats xs:List Int} {D D':Nat->Nat->Nat->Prop} (h:It g ats xs D) (hD: ∀q j k,Dy g q j->k<2->D' q j k->D q j k):It g ats xs D':=by
 obtain⟨h1,h2,R,h3,h4,h5⟩:=h
 refine⟨h1,h2,R,h3,h4,fun y k hy hk=>?_⟩
 rcases h5 y k hy hk with⟨h6,h7⟩|⟨p,i,h6,h7,h8,h9⟩
 ·exact .inl ⟨h6,fun q j hs hd=>h7 q j hs (hD q j k hs hk hd)⟩
 ·exact .inr ⟨p,i,h6,h7,h8,fun q j hs hd=>h9 q j hs (hD q j k hs hk hd)⟩
theorem It.start (g:List (List Int)):It g (List.replicate 18 (-1)) (iota (Ee g)) (fun _ _ _=>False):=by
 refine⟨GM _,by simp,Eq,Qk _,fun a b e=>by subst e;exact EG.refl a,fun y k hy hk=> .inl ⟨?_,fun _ _ _ h=>h.elim⟩⟩
 rw[Go.Proofs.Ytlnddmkkgjlmbaa.Com.CR (by rw[List.length_replicate];omega),List.getElem_replicate]
theorem It.root {g:List (List Int)} {ats xs:List Int} {D:Nat->Nat->Nat->Prop} (h:It g ats xs D) {c:Nat} (hc:c<Ee g): ∃r,Kl.Reach xs c r:=by
 obtain⟨h1,_,R,h2,_⟩:=h
 exact h2.tot c (by omega)
theorem It.put {g:List (List Int)} {ats xs:List Int} {D:Nat->Nat->Nat->Prop} (h:It g ats xs D) {p i k y:Nat} (hs:Dy g p i) (hk:k<2) (hy:(Fx g p i).natAbs=y) (hy9:y<9) (hn:rd ats ((y*2+k:Nat):Int)<0):It g (ats.set (y*2+k) ((GY g p i k:Nat):Int)) xs D:=by
 obtain⟨h1,h2,R,h3,h4,h5⟩:=h
 refine⟨h1,by rw[List.length_set,h2],R,h3,h4,fun z l hz hl=>?_⟩
 by_cases e:z=y/\l=k
 ·obtain⟨rfl,rfl⟩:=e
  rcases h5 z l hz hl with⟨h6,h7⟩|⟨q,j,_,_,h8,_⟩
  ·refine .inr ⟨p,i,hs,hy,?_,fun q j hq hd e=>(h7 q j hq hd e).elim⟩
   rw[Go.Proofs.Ytlnddmkkgjlmbaa.Com.CR (by rw[List.length_set];omega),List.getElem_set_self]
  ·rw[h8]at hn;omega
 ·have hne:y*2+k≠z*2+l:=by omega
  have hr:rd (ats.set (y*2+k) ((GY g p i k:Nat):Int)) ((z*2+l:Nat):Int)=rd ats ((z*2+l:Nat):Int):=by
   simp only[rd,List.getD_eq_getElem?_getD,Int.toNat_natCast]
   rw[List.getElem?_set_ne hne]
  rw[hr]
  exact h5 z l hz hl
theorem It.join {g:List (List Int)} {ats xs:List Int} {D:Nat->Nat->Nat->Prop} (h:It g ats xs D) {p i k y:Nat} (hs:Dy g p i) (hk:k<2) (hy:(Fx g p i).natAbs=y) (hy9:y<9) (hn: ¬rd ats ((y*2+k:Nat):Int)<0):
 ∃c:Nat,c<Ee g/\rd ats ((y*2+k:Nat):Int)=(c:Int)/\∀ra rb,Kl.Reach xs c ra->Kl.Reach xs (GY g p i k) rb->It g ats (Mg xs ra rb) (fun q j l=>D q j l\/(q=p/\j=i/\l=k)):=by
 obtain⟨h1,h2,R,h3,h4,h5⟩:=h
 rcases h5 y k hy9 hk with⟨h6,_⟩|⟨p0,i0,s0,y0,h6,h7⟩
 ·rw[h6]at hn;omega
 refine⟨GY g p0 i0 k,LW s0 k,h6,fun ra rb hra hrb=>?_⟩
 have hE:EG (Sc g) (GY g p0 i0 k) (GY g p i k):= .base ⟨p0,i0,p,i,k,s0,hs,by rw[y0,hy],hk,rfl,rfl⟩
 refine⟨by rw[Jz,h1],h2,Jg R (GY g p0 i0 k) (GY g p i k),QS h3 hra hrb,IJ (Bz _) h4 hE,fun z l hz hl=>?_⟩
 rcases h5 z l hz hl with⟨g1,g2⟩|⟨p1,i1,s1,y1,g1,g2⟩
 ·refine .inl ⟨g1,fun q j hq hd=>?_⟩
  rcases hd with hd|⟨rfl,rfl,rfl⟩
  ·exact g2 q j hq hd
  ·intro e
   rw[hy]at e
   subst e
   rw[g1]at hn;omega
 ·refine .inr ⟨p1,i1,s1,y1,g1,fun q j hq hd e=>?_⟩
  rcases hd with hd|⟨rfl,rfl,rfl⟩
  ·exact Nf (g2 q j hq hd e)
  ·obtain rfl:z=y:=by rw[<-e,hy]
   have:GY g p1 i1 l=GY g p0 i0 l:=by rw[h6]at g1;exact(Int.ofNat.inj g1).symm
   rw[this]
   exact IH h3.eqv _ _
theorem It.done {g:List (List Int)} {ats xs:List Int} {D:Nat->Nat->Nat->Prop} (h:It g ats xs D) (hc:Kt g) (hD: ∀q j k,Dy g q j->k<2->D q j k):UF xs (EG (Sc g)):=by
 obtain⟨h1,h2,R,h3,h4,h5⟩:=h
 refine h3.congr (Bz _) fun a b _ _=>⟨h4 a b,fun e=>Fu h3.eqv (fun a b hs=>?_) e⟩
 obtain⟨p,i,q,j,k,s1,s2,he,hk,rfl,rfl⟩:=hs
 have hy:(Fx g p i).natAbs<9:=by have:=KQ hc s1;omega
 rcases h5 _ k hy hk with⟨_,h7⟩|⟨p0,i0,_,_,_,h9⟩
 ·exact(h7 p i s1 (hD p i k s1 hk) rfl).elim
 ·exact h3.eqv.trans (h3.eqv.symm (h9 p i s1 (hD p i k s1 hk) rfl)) (h9 q j s2 (hD q j k s2 hk) he.symm)
theorem QJ (G:Nat->Nat->Prop) {a e c f:Nat} (g1:G a e) (g2:G c f):EG (fun e f=> ∃d,G d e/\G d f) e f↔EG (fun a b=> ∃e,G a e/\G b e) a c:=by
 refine⟨fun h=>?_,fun h=>?_⟩
 ·have hQ:IX (fun e f:Nat=>e=f\/((∃a,G a e)/\(∃c,G c f)/\∀a c,G a e->G c f->EG (fun a b=> ∃e,G a e/\G b e) a c)):=by
   refine⟨fun e=> .inl rfl,fun h=>?_,fun{x y z} h k=>?_⟩
   ·rcases h with h|⟨x1,x2,x3⟩
    ·exact .inl h.symm
    ·exact .inr ⟨x2,x1,fun a c ha hc=> .symm (x3 c a hc ha)⟩
   ·rcases h with rfl|⟨x1,x2,x3⟩
    ·exact k
    ·rcases k with rfl|⟨y1,y2,y3⟩
     ·exact .inr ⟨x1,x2,x3⟩
     ·obtain⟨m,hm⟩:=x2
      exact .inr ⟨x1,y2,fun a c ha hc=> .trans (x3 a m ha hm) (y3 m c hm hc)⟩
  rcases Fu hQ (fun e f hb=>by
   obtain⟨d,hd1,hd2⟩:=hb
   exact .inr ⟨⟨d,hd1⟩,⟨d,hd2⟩,fun a c ha hc=> .trans (.base ⟨e,ha,hd1⟩) (.base ⟨f,hd2,hc⟩)⟩) h with rfl|⟨_,_,h3⟩
  ·exact .base ⟨e,g1,g2⟩
  ·exact h3 a c g1 g2
 ·have hQ:IX (fun a c:Nat=>a=c\/((∃e,G a e)/\(∃f,G c f)/\∀e f,G a e->G c f->EG (fun e f=> ∃d,G d e/\G d f) e f)):=by
   refine⟨fun e=> .inl rfl,fun h=>?_,fun{x y z} h k=>?_⟩
   ·rcases h with h|⟨x1,x2,x3⟩
    ·exact .inl h.symm
    ·exact .inr ⟨x2,x1,fun a c ha hc=> .symm (x3 c a hc ha)⟩
   ·rcases h with rfl|⟨x1,x2,x3⟩
    ·exact k
    ·rcases k with rfl|⟨y1,y2,y3⟩
     ·exact .inr ⟨x1,x2,x3⟩
     ·obtain⟨m,hm⟩:=x2
      exact .inr ⟨x1,y2,fun a c ha hc=> .trans (x3 a m ha hm) (y3 m c hm hc)⟩
  rcases Fu hQ (fun a c hb=>by
   obtain⟨d,hd1,hd2⟩:=hb
   exact .inr ⟨⟨d,hd1⟩,⟨d,hd2⟩,fun e f he hf=> .trans (.base ⟨a,he,hd1⟩) (.base ⟨c,hd2,hf⟩)⟩) h with rfl|⟨_,_,h3⟩
  ·exact .base ⟨a,g1,g2⟩
  ·exact h3 e f g1 g2
theorem Vc (G:Nat->Nat->Prop) (l l':List Nat) (h1: ∀a,a∈l->∃e,e∈l'/\G a e) (h2: ∀e,e∈l'->∃a,a∈l/\G a e):
 K (EG fun a b=> ∃e,G a e/\G b e) l=K (EG fun e f=> ∃d,G d e/\G d f) l':=
 Nl _ _ (Bz _) (Bz _) l l' G h1 h2 fun _ _ _ _ _ _ _ _ g1 g2=>QJ G g1 g2
theorem Ed {S S':Nat->Nat->Prop} (h: ∀a b,S a b->EG S' a b) (h': ∀a b,S' a b->EG S a b) (a b:Nat):EG S a b↔EG S' a b:=⟨Fu (Bz _) h,Fu (Bz _) h'⟩
def NZ (g:List (List Int)):Prop:= ∀p i,Dy g p i->Fx g p i≠0
def Hx (g:List (List Int)) (p i:Nat):Nat:=2*(Fx g p i).natAbs+if 0<Fx g p i then 1 else 0
def Hu (g:List (List Int)) (p i:Nat):Nat:=2*(Fx g p i).natAbs+if Fx g p i<0 then 1 else 0
def Sl (g:List (List Int)) (e f:Nat):Prop:= ∃p i,Dy g p i/\e=Hx g p i/\f=Hu g p ((i+1) % (row g p).length)
def MS (g:List (List Int)) (d e:Nat):Prop:= ∃p i k,Dy g p i/\k<2/\d=GY g p i k/\e=2*(Fx g p i).natAbs+k
theorem Ex {g:List (List Int)} {p i:Nat} (h:Dy g p i):Dy g p ((i+1) % (row g p).length):=⟨h.1,Nat.mod_lt _ (by have:=h.2;omega)⟩
theorem Jj (g:List (List Int)) (p i:Nat):Xs g p i=LP g p ((i+1) % (row g p).length):=rfl
theorem Iv {g:List (List Int)} {p i:Nat} (h:Dy g p i):MS g (LP g p i) (Hu g p i):=by
 unfold Hu
 by_cases hx:Fx g p i<0
 ·exact⟨p,i,1,h,by omega,by unfold GY;rw[if_pos (by simp[hx])],by rw[if_pos hx]⟩
 ·exact⟨p,i,0,h,by omega,by unfold GY;rw[if_pos (by simp[hx])],by rw[if_neg hx]⟩
theorem MO {g:List (List Int)} (hz:NZ g) {p i:Nat} (h:Dy g p i):MS g (Xs g p i) (Hx g p i):=by
 unfold Hx
 by_cases hx:0<Fx g p i
 ·exact⟨p,i,1,h,by omega,by unfold GY;rw[if_neg (by simp;omega)],by rw[if_pos hx]⟩
 ·have:=hz p i h
  exact⟨p,i,0,h,by omega,by unfold GY;rw[if_neg (by simp;omega)],by rw[if_neg hx]⟩
theorem NJ {g:List (List Int)} (hz:NZ g) {d e:Nat} (h:MS g d e): ∃p i,Dy g p i/\((d=LP g p i/\e=Hu g p i)\/(d=Xs g p i/\e=Hx g p i)):=by
 obtain⟨p,i,k,hs,hk,rfl,rfl⟩:=h
 have:=hz p i hs
 refine⟨p,i,hs,?_⟩
 unfold GY Hu Hx
 by_cases hx:Fx g p i<0
 ·rcases(show k=0\/k=1 by omega)with rfl|rfl
  ·right;rw[if_neg (by simp[hx]),if_neg (by omega)];exact⟨rfl,rfl⟩
  ·left;rw[if_pos (by simp[hx]),if_pos hx];exact⟨rfl,rfl⟩
 ·rcases(show k=0\/k=1 by omega)with rfl|rfl
  ·left;rw[if_pos (by simp[hx]),if_neg hx];exact⟨rfl,rfl⟩
  ·right;rw[if_neg (by simp[hx]),if_pos (by omega)];exact⟨rfl,rfl⟩
theorem Jv {g:List (List Int)} {p i q j:Nat} (h:Dy g p i) (k:Dy g q j) (e:LP g p i=LP g q j):p=q/\i=j:=by
 have h2:=h.2
 have k2:=k.2
 unfold LP at e
 rcases Nat.lt_trichotomy p q with hpq|rfl|hpq
 ·have:=KM (g:=g) (Nat.le_of_lt k.1) (show p+1<=q by omega)
  rw[Hz h.1]at this
  omega
 ·exact⟨rfl,by omega⟩
 ·have:=KM (g:=g) (Nat.le_of_lt h.1) (show q+1<=p by omega)
  rw[Hz k.1]at this
  omega
theorem QI {g:List (List Int)}: ∀m,m<=g.length->∀d,d<fst g m->∃p i,Dy g p i/\d=LP g p i:=by
 intro m
 induction m with
 |zero=>intro _ d hd;rw[SS]at hd;omega
 |succ m ih=>
  intro hm d hd
  rw[Hz (by omega)]at hd
  by_cases h:d<fst g m
  ·exact ih (by omega) d h
  ·exact⟨m,d-fst g m,⟨by omega,by omega⟩,by unfold LP;omega⟩
theorem Ud {n i j:Nat} (hi:i<n) (hj:j<n) (e:(i+1) % n=(j+1) % n):i=j:=by
 by_cases h1:i+1<n
 ·rw[Nat.mod_eq_of_lt h1]at e
  by_cases h2:j+1<n
  ·rw[Nat.mod_eq_of_lt h2]at e;omega
  ·have h3:j+1=n:=by omega
   rw[h3,Nat.mod_self]at e;omega
 ·have h3:i+1=n:=by omega
  rw[h3,Nat.mod_self]at e
  by_cases h2:j+1<n
  ·rw[Nat.mod_eq_of_lt h2]at e;omega
  ·omega
theorem Tk {g:List (List Int)} (hz:NZ g) {d e f:Nat} (h:MS g d e) (k:MS g d f):EG (Sl g) e f:=by
 obtain⟨p,i,hs,h⟩:=NJ hz h
 obtain⟨q,j,ht,k⟩:=NJ hz k
 rcases h with⟨rfl,rfl⟩|⟨rfl,rfl⟩
 ·rcases k with⟨k1,rfl⟩|⟨k1,rfl⟩
  ·obtain⟨rfl,rfl⟩:=Jv hs ht k1
   exact .refl _
  ·rw[Jj]at k1
   obtain⟨rfl,rfl⟩:=Jv hs (Ex ht) k1
   exact .symm (.base ⟨p,j,ht,rfl,rfl⟩)
 ·rw[Jj]at k
  rcases k with⟨k1,rfl⟩|⟨k1,rfl⟩
  ·obtain⟨rfl,rfl⟩:=Jv (Ex hs) ht k1
   exact .base ⟨p,i,hs,rfl,rfl⟩
  ·rw[Jj]at k1
   obtain⟨rfl,h2⟩:=Jv (Ex hs) (Ex ht) k1
   obtain rfl:=Ud hs.2 ht.2 h2
   exact .refl _
theorem Vx (g:List (List Int)) (a b:Nat):EG (Sc g) a b↔EG (fun a b=> ∃e,MS g a e/\MS g b e) a b:=
 Ed (fun a b h=>by
  obtain⟨p,i,q,j,k,hs,ht,he,hk,rfl,rfl⟩:=h
  exact .base ⟨_,⟨p,i,k,hs,hk,rfl,rfl⟩,⟨q,j,k,ht,hk,rfl,by rw[he]⟩⟩) (fun a b h=>by
  obtain⟨e,⟨p,i,k,hs,hk,rfl,he⟩,⟨q,j,m,ht,hm,rfl,hf⟩⟩:=h
  obtain rfl:k=m:=by omega
  exact .base ⟨p,i,q,j,k,hs,ht,by omega,hk,rfl,rfl⟩) a b
theorem WG {g:List (List Int)} (hz:NZ g) (e f:Nat):EG (Sl g) e f↔EG (fun e f=> ∃d,MS g d e/\MS g d f) e f:=
 Ed (fun e f h=>by
  obtain⟨p,i,hs,rfl,rfl⟩:=h
  exact .base ⟨_,MO hz hs,by rw[Jj];exact Iv (Ex hs)⟩) (fun e f h=>by
  obtain⟨d,h1,h2⟩:=h
  exact Tk hz h1 h2) e f
theorem UY {g:List (List Int)} (hz:NZ g) {a e c f:Nat} (g1:MS g a e) (g2:MS g c f):EG (Sl g) e f↔EG (Sc g) a c:=by
 rw[WG hz,Vx,QJ (MS g) g1 g2]
theorem La {g:List (List Int)} (hz:NZ g) (l:List Nat) (hl: ∀e,e∈l↔∃d,MS g d e):K (EG (Sl g)) l=Eh g:=by
 have hlt: ∀d e,MS g d e->d<Ee g:=fun d e h=>by obtain⟨p,i,k,hs,_,rfl,_⟩:=h;exact LW hs k
 have:=Vc (MS g) (List.range (Ee g)) l (fun a ha=>by
  obtain⟨p,i,hs,rfl⟩:=QI g.length (Nat.le_refl _) a (List.mem_range.1 ha)
  exact⟨_,(hl _).2 ⟨_,Iv hs⟩,Iv hs⟩) (fun e he=>by
  obtain⟨d,hd⟩:=(hl e).1 he
  exact⟨d,List.mem_range.2 (hlt d e hd),hd⟩)
 unfold Eh
 rw[Ds (EG (Sc g)) (EG fun a b=> ∃e,MS g a e/\MS g b e) (Bz _) (Bz _) _ (List.range (Ee g)) (fun _=>Iff.rfl) (fun a b _ _=>Ed (fun a b h=>by
  obtain⟨p,i,q,j,k,hs,ht,he,hk,rfl,rfl⟩:=h
  exact .base ⟨_,⟨p,i,k,hs,hk,rfl,rfl⟩,⟨q,j,k,ht,hk,rfl,by rw[he]⟩⟩) (fun a b h=>by
  obtain⟨e,⟨p,i,k,hs,hk,rfl,he⟩,⟨q,j,m,ht,hm,rfl,hf⟩⟩:=h
  obtain rfl:k=m:=by omega
  exact .base ⟨p,i,q,j,k,hs,ht,by omega,hk,rfl,rfl⟩) a b),this]
 exact Ds _ _ (Bz _) (Bz _) l l (fun _=>Iff.rfl) (fun a b _ _=>Ed (fun e f h=>by
  obtain⟨p,i,hs,rfl,rfl⟩:=h
  exact .base ⟨_,MO hz hs,by rw[Jj];exact Iv (Ex hs)⟩) (fun e f h=>by
  obtain⟨d,h1,h2⟩:=h
  exact Tk hz h1 h2) a b)
theorem Xr {g:List (List Int)} (hz:NZ g) {e f:Nat} (h:EG (Sl g) e f):e=f\/((∃d,MS g d e)/\∃d,MS g d f):=by
 refine Fu (R:=fun e f=>e=f\/((∃d,MS g d e)/\∃d,MS g d f)) ⟨fun _=> .inl rfl,fun h=>?_,fun h k=>?_⟩ (fun e f h=>?_) h
 ·rcases h with h|⟨h1,h2⟩
  ·exact .inl h.symm
  ·exact .inr ⟨h2,h1⟩
 ·rcases h with rfl|⟨h1,h2⟩
  ·exact k
  ·rcases k with rfl|⟨k1,k2⟩
   ·exact .inr ⟨h1,h2⟩
   ·exact .inr ⟨h1,k2⟩
 ·obtain⟨p,i,hs,rfl,rfl⟩:=h
  exact .inr ⟨⟨_,MO hz hs⟩,⟨_,Iv (Ex hs)⟩⟩
def UD (g:List (List Int)) (ys:List Nat) (a b:Nat):Prop:=a<ys.length/\b<ys.length/\∃k l,k<2/\l<2/\EG (Sl g) (2*ys.getD a 0+k) (2*ys.getD b 0+l)
theorem Sq {g:List (List Int)} {ys:List Nat} {a b:Nat} (h:UD g ys a b):UD g ys b a:=by
 obtain⟨h1,h2,k,l,hk,hl,h3⟩:=h
 exact⟨h2,h1,l,k,hl,hk,.symm h3⟩
noncomputable def Lj (g:List (List Int)) (ys:List Nat):Nat:=K (EG (UD g ys)) (List.range ys.length)
def Occ (g:List (List Int)) (ys:List Nat):Prop:=ys.length<=8/\∀y∈ys,∃p i,Dy g p i/\(Fx g p i).natAbs=y
theorem It.Va {g:List (List Int)} {ats xs:List Int} (h:It g ats xs (fun _ _ _=>True)) (hc:Kt g) (hz:NZ g) {y z k l:Nat} (hk:k<2) (hl:l<2) (hy: ∃p i,Dy g p i/\(Fx g p i).natAbs=y) (hz': ∃p i,Dy g p i/\(Fx g p i).natAbs=z):
 ∃a b:Nat,a<Ee g/\b<Ee g/\rd ats ((y*2+k:Nat):Int)=(a:Int)/\rd ats ((z*2+l:Nat):Int)=(b:Int)/\(EG (Sc g) a b↔EG (Sl g) (2*y+k) (2*z+l)):=by
 have hUF:=h.done hc (fun _ _ _ _ _=>trivial)
 obtain⟨h1,h2,R,h3,h4,h5⟩:=h
 have one: ∀y k,k<2->(∃p i,Dy g p i/\(Fx g p i).natAbs=y)->∃p i,Dy g p i/\(Fx g p i).natAbs=y/\rd ats ((y*2+k:Nat):Int)=((GY g p i k:Nat):Int):=fun y k hk hy=>by
  obtain⟨p,i,hs,he⟩:=hy
  have:=KQ hc hs
  rcases h5 y k (by omega) hk with⟨_,h7⟩|⟨q,j,g1,g2,g3,_⟩
  ·exact(h7 p i hs trivial he).elim
  ·exact⟨q,j,g1,g2,g3⟩
 obtain⟨p,i,s1,e1,r1⟩:=one y k hk hy
 obtain⟨q,j,s2,e2,r2⟩:=one z l hl hz'
 exact⟨_,_,LW s1 k,LW s2 l,r1,r2,(UY hz ⟨p,i,k,s1,hk,rfl,by rw[e1]⟩ ⟨q,j,l,s2,hl,rfl,by rw[e2]⟩).symm⟩
end Go.Proofs.Ytlnddmkkgjlmbaa.Joi
