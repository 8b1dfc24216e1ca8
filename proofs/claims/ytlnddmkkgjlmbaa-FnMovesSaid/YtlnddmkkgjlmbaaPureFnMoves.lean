/- Moves keep the surface, and cutting is undone by gluing: for every drawn gluing. Conditions: those that the printed statement itself names (lengths and numbers that fit). -/
import Derived.Test.YtlnddmkkgjlmbaaG7
import Derived.Test.YtlnddmkkgjlmbaaG6
namespace Go.Proofs.Ytlnddmkkgjlmbaa.Pure
open Classical Go.RowKit Go.Proofs.Ytlnddmkkgjlmbaa.QFnMoves Go.Proofs.YtlnddmkkgjlmbaaW.PrintWords Go.Proofs.YtlnddmkkgjlmbaaW.PrintLast Go.Proofs.Ytlnddmkkgjlmbaa.Com
set_option linter.unusedSimpArgs false
set_option linter.unusedVariables false
theorem Ny (x:Int):0<=Go.bits .and .i64 x 255/\Go.bits .and .i64 x 255<=255:=by
 have h: ∃n:Nat,n<=255/\Go.bits .and .i64 x 255=IntKind.i64.wrap (n:Int):=by
  refine⟨(BitVec.ofInt IntKind.i64.bits x &&& BitVec.ofInt IntKind.i64.bits 255).toNat,?_,rfl⟩
  rw[BitVec.toNat_and]
  exact Nat.le_trans Nat.and_le_right (by decide)
 obtain⟨n,hn,e⟩:=h
 rw[e,Dg,Fa (by omega) (by omega)]
 omega
theorem VP (b:List Int) (hb:b.length<=1048576) (i h:Int) (hi:0<=i): ∃x i' h':Int,DD.f b i h=some (x,i',h')/\0<=x/\x<=255/\0<=i':=by
 unfold DD.f
 by_cases c:i<(b.length:Int)
 ·rw[if_pos c,if_pos hi]
  refine⟨_,_,_,rfl,(Ny _).1,(Ny _).2,?_⟩
  rw[Fa (by omega) (by omega)]
  omega
 ·rw[if_neg c]
  exact⟨_,_,_,rfl,(Ny _).1,(Ny _).2,hi⟩
theorem EY (b:List Int) (hb:b.length<=1048576) (i h n:Int) (hi:0<=i) (hn:0<n) (hn2:n<=256): ∃x i' h':Int,Ad.f b i h n=some (x,i',h')/\0<=x/\x<n/\0<=i':=by
 obtain⟨x,i',h',e,h0,h1,h2⟩:=VP b hb i h hi
 unfold Ad.f
 rw[if_neg (by omega),if_pos hn2,e,Option.bind_some,if_neg (by omega)]
 refine⟨_,_,_,rfl,?_,?_,h2⟩
 ·have:=Int.tmod_nonneg n h0;exact this
 ·exact Int.tmod_lt_of_pos x hn
theorem XV (l:List Int) (hl:l.length<=1048576): ∀(d i:Nat) (x:Int),i+d=l.length->∃h:Int,Ev (fun k=>Bv.l0 k l x i) (l,0,h):=by
 intro d
 induction d with
 |zero=>
  intro i x hi
  refine⟨x,Ev.step (f:=fun _=>some (l,0,x)) (fun k=>?_) (Ev.now _)⟩
  simp only[Bv.l0];rw[if_neg (by omega)]
 |succ d ih=>
  intro i x hi
  have hlt:i<l.length:=by omega
  by_cases c:(i:Int)<4000
  ·obtain⟨h,hh⟩:=ih (i+1) (Go.bits .and .i64 (wrap64 ((wrap64 ((wrap64 (x*131))+(wrap64 (rd l i))))+7)) 1073741823) (by omega)
   refine⟨h,Ev.step (fun k=>?_) hh⟩
   simp only[Bv.l0]
   rw[if_pos (by omega),if_pos c,if_pos (by omega),DB hlt (by omega)]
  ·refine⟨x,Ev.step (f:=fun _=>some (l,0,x)) (fun k=>?_) (Ev.now _)⟩
   simp only[Bv.l0];rw[if_pos (by omega),if_neg c]
theorem Ia (l:List Int) (hl:l.length<=1048576): ∃h:Int,Ev (fun k=>Bv.f k l) (l,0,h):=XV l hl l.length 0 _ (by omega)
theorem TT (l:List Int):Gp.f l=some (decide ((l.length:Int)>1048576)):=rfl
theorem LS (b:List Int) (hb:b.length<=1048576) (i h n:Int) (hi:0<=i) (hn:0<n) (hn2:n<=256): ∃(x:Bool) (i' h':Int),CH.f b i h n=some (x,i',h')/\0<=i':=by
 obtain⟨x,i',h',e,_,_,h2⟩:=EY b hb i h n hi hn hn2
 unfold CH.f
 rw[e,Option.bind_some]
 exact⟨_,_,_,rfl,h2⟩
theorem Ga (b:List Int) (hb:b.length<=1048576) (i h:Int) (hi:0<=i) (l:List Int) (hn:0<l.length) (hn2:l.length<=256): ∃(s i' h':Int),Bm.f b i h l=some (s,i',h')/\s∈l/\0<=i':=by
 obtain⟨x,i',h',e,h0,h1,h2⟩:=EY b hb i h l.length hi (by omega) (by omega)
 unfold Bm.f
 rw[e,Option.bind_some,if_pos h0,if_pos h1]
 obtain⟨n,rfl⟩:=Int.eq_ofNat_of_zero_le h0
 have hn:n<l.length:=by omega
 exact⟨_,_,_,rfl,by rw[show((n:Nat):Int)=(n:Int)from rfl,CR hn];exact List.getElem_mem hn,h2⟩
theorem Cp {l:List (List Int)} {i:Nat} (h:i<l.length):AD l (i:Int)=l[i]:=by
 simp[AD,List.getD_eq_getElem?_getD,h]
def bulk (l:List (List Int)):Nat:=l.length+(l.map List.length).sum
theorem EN {l:List (List Int)} {x:List Int} (h:x∈l):x.length<=(l.map List.length).sum:=by
 induction l with
 |nil=>simp at h
 |cons y l ih=>
  rw[List.map_cons,List.sum_cons]
  rcases List.mem_cons.1 h with rfl|h
  ·omega
  ·have:=ih h;omega
theorem Ko: ∀(l:List (List Int)) (p:Nat) (h:p<l.length) (w:List Int),((l.set p w).map List.length).sum+l[p].length=(l.map List.length).sum+w.length:=by
 intro l
 induction l with
 |nil=>intro p h;simp at h
 |cons a t ih=>
  intro p h w
  cases p with
  |zero=>simp;omega
  |succ p=>
   have:=ih p (by simpa using h) w
   simp at this⊢
   omega
def UX (r:List Int) (at_:Nat) (x:Int):List Int:=r.take at_++[x]++([]++r.drop at_)
theorem SD (r:List Int) (a:Nat) (x:Int):(UX r a x).length=r.length+1:=by
 unfold UX
 simp only[List.length_append,List.length_take,List.length_drop,List.length_cons,List.length_nil]
 omega
theorem UP (b:List Int) (hb:b.length<=1048576) (S:List Int) (hS:S.length<=20) (n:Nat) (hn:1<=n) (hn2:n<=20): ∀(d k:Nat) (g:List (List Int)) (i h:Int),k+d=S.length->g.length=n->(g.map List.length).sum=k->(0<k->g.getD 0 []≠[])->0<=i->
 ∃(r:List (List Int)) (i' h':Int),Ev (fun K=>AP.l3 K n S g k b i h) (r,i',h')/\r.length=n/\(r.map List.length).sum=S.length/\(0<S.length->r.getD 0 []≠[])/\0<=i':=by
 intro d
 induction d with
 |zero=>
  intro k g i h hk hg hs h0 hi
  refine⟨g,i,h,Ev.step (f:=fun _=>some (g,i,h)) (fun K=>?_) (Ev.now _),hg,by omega,fun hS=>h0 (by omega),hi⟩
  simp only[AP.l3];rw[if_neg (by omega)]
 |succ d ih=>
  intro k g i h hk hg hs h0 hi
  have hkS:k<S.length:=by omega
  obtain⟨u,i1,g1,e1,a1,a2,a3⟩:=EY b hb i h n hi (by omega) (by omega)
  obtain⟨un,rfl⟩:=Int.eq_ofNat_of_zero_le a1
  have main: ∀p:Nat,p<n->(k=0->p=0)->∃(r:List (List Int)) (i' h':Int) (v i2 g2:Int) (rest:Option (List (List Int)×Int×Int)->Prop),Ad.f b i1 g1 (wrap64 (((AD g (p:Int)).length:Int)+1))=some (v,i2,g2)/\0<=v/\v<=((AD g (p:Int)).length:Int)/\(AD g (p:Int)).length<=20/\
   Ev (fun K=>AP.l3 K n S (g.set p ((AD g (p:Int)).take v.toNat++[rd S (k:Int)]++([]++(AD g (p:Int)).drop v.toNat))) ((k+1:Nat):Int) b i2 g2) (r,i',h')/\r.length=n/\(r.map List.length).sum=S.length/\(0<S.length->r.getD 0 []≠[])/\0<=i':=by
   intro p hp hp0
   have hpg:p<g.length:=by omega
   have hlen:g[p].length<=20:=by have:=EN (List.getElem_mem hpg);omega
   rw[Cp hpg]
   obtain⟨v,i2,g2,e2,b1,b2,b3⟩:=EY b hb i1 g1 ((g[p].length:Int)+1) a3 (by omega) (by omega)
   have hil:=SD g[p] v.toNat (rd S (k:Int))
   have hss:=Ko g p hpg (UX g[p] v.toNat (rd S (k:Int)))
   obtain⟨r,i',h',q1,q2,q3,q4,q5⟩:=ih (k+1) (g.set p (UX g[p] v.toNat (rd S (k:Int)))) i2 g2 (by omega) (by simpa using hg) (by omega) (fun _=>by
    by_cases hp00:p=0
    ·subst hp00
     rw[List.getD_eq_getElem?_getD,List.getElem?_set_self hpg,Option.getD_some]
     intro e
     rw[e]at hil
     simp at hil
    ·rw[List.getD_eq_getElem?_getD,List.getElem?_set_ne hp00,<-List.getD_eq_getElem?_getD]
     exact h0 (by omega)) b3
   exact⟨r,i',h',v,i2,g2,fun _=>True,by rw[Fa (by omega) (by omega)];exact e2,b1,by omega,hlen,q1,q2,q3,q4,q5⟩
  by_cases hkn:k<n
  ·obtain⟨r,i',h',v,i2,g2,_,e2,b1,b2,b3,q1,q2,q3,q4,q5⟩:=main k hkn (fun e=>e)
   refine⟨r,i',h',Ev.step (fun K=>?_) q1,q2,q3,q4,q5⟩
   simp only[AP.l3]
   rw[if_pos (by omega),e1,Option.bind_some]
   dsimp only
   rw[if_pos (by omega),if_pos (by omega),if_pos (by omega),e2,Option.bind_some,Option.bind_some]
   dsimp only
   rw[if_pos b1,if_pos b2,Option.bind_some,if_pos (by simp only[List.length_drop,List.length_nil];omega),Option.bind_some,Option.bind_some,if_pos (by simp only[List.length_take];omega),Option.bind_some,if_pos (by simp only[List.length_append,List.length_take,List.length_drop,List.length_cons,List.length_nil];omega),DB hkS (by omega),Int.toNat_natCast]
  ·obtain⟨r,i',h',v,i2,g2,_,e2,b1,b2,b3,q1,q2,q3,q4,q5⟩:=main un (by omega) (fun e=>by omega)
   refine⟨r,i',h',Ev.step (fun K=>?_) q1,q2,q3,q4,q5⟩
   simp only[AP.l3]
   rw[if_pos (by omega),e1,Option.bind_some]
   dsimp only
   rw[if_neg (by omega),if_pos (by omega),if_pos (by omega),e2,Option.bind_some,Option.bind_some]
   dsimp only
   rw[if_pos b1,if_pos b2,Option.bind_some,if_pos (by simp only[List.length_drop,List.length_nil];omega),Option.bind_some,Option.bind_some,if_pos (by omega),if_pos (by simp only[List.length_take];omega),Option.bind_some,if_pos (by simp only[List.length_append,List.length_take,List.length_drop,List.length_cons,List.length_nil];omega),DB hkS (by omega),Int.toNat_natCast]
theorem VL (b:List Int) (hb:b.length<=1048576) (S:List Int) (hS:S.length<=20) (n:Nat) (hn:1<=n) (hn2:n<=20): ∀(d j:Nat) (i h:Int),j+d=n->0<=i->
 ∃(r:List (List Int)) (i' h':Int),Ev (fun K=>AP.l2 K n S (List.replicate j ([]:List Int)) j b i h) (r,i',h')/\r.length=n/\(r.map List.length).sum=S.length/\(0<S.length->r.getD 0 []≠[])/\0<=i':=by
 intro d
 induction d with
 |zero=>
  intro j i h hj hi
  obtain rfl:j=n:=by omega
  obtain⟨r,i',h',q1,q⟩:=UP b hb S hS j hn hn2 S.length 0 (List.replicate j ([]:List Int)) i h (by omega) (by simp) (by simp) (fun k=>by omega) hi
  refine⟨r,i',h',Ev.step (fun K=>?_) q1,q⟩
  simp only[AP.l2];rw[if_neg (by omega)];rfl
 |succ d ih=>
  intro j i h hj hi
  obtain⟨r,i',h',q1,q⟩:=ih (j+1) i h (by omega) hi
  refine⟨r,i',h',Ev.step (fun K=>?_) q1,q⟩
  simp only[AP.l2]
  rw[if_pos (by omega),if_pos (by simp;omega),DB (n:=n) (by omega) (by omega),<-List.replicate_succ']
theorem Qh (b:List Int) (hb:b.length<=1048576) (S:List Int) (hS:S.length<=12) (n:Nat) (hn:1<=n) (_hn2:n<=4) (i h:Int) (hi:0<=i):
 ∃(r:List (List Int)) (i' h':Int),Ev (fun K=>AP.l1 K n S b i h) (r,i',h')/\(1<=r.length/\r.length<=13)/\(r.map List.length).sum<=13/\r.getD 0 []≠[]/\0<=i':=by
 have last: ∀(m:Nat) (T:List Int),1<=m->m<=T.length->T.length<=13->∃(r:List (List Int)) (i' h':Int),Ev (fun K=>AP.l1 K m T b i h) (r,i',h')/\(1<=r.length/\r.length<=13)/\(r.map List.length).sum<=13/\r.getD 0 []≠[]/\0<=i':=by
  intro m T h1 h2 h3
  obtain⟨r,i',h',q1,q2,q3,q4,q5⟩:=VL b hb T (by omega) m h1 (by omega) m 0 i h (by omega) hi
  refine⟨r,i',h',Ev.step (fun K=>?_) q1,by omega,by omega,q4 (by omega),q5⟩
  simp only[AP.l1];rw[if_neg (by omega)];rfl
 by_cases c:S.length<n
 ·obtain⟨r,i',h',q1,q⟩:=last (S++[8]).length (S++[8]) (by simp) (Nat.le_refl _) (by simp;omega)
  refine⟨r,i',h',Ev.step (fun K=>?_) q1,q⟩
  simp only[AP.l1]
  rw[if_pos (by omega),if_pos (by omega),Option.bind_some]
 ·exact last n S hn (by omega) (by omega)
theorem UJ (b:List Int) (hb:b.length<=1048576) (n:Nat) (hn:1<=n) (hn2:n<=4): ∀(d x:Nat) (S:List Int) (i h:Int),x+d=7->1<=x->S.length<=2*(x-1)->0<=i->
 ∃(r:List (List Int)) (i' h':Int),Ev (fun K=>AP.l0 K n S x b i h) (r,i',h')/\(1<=r.length/\r.length<=13)/\(r.map List.length).sum<=13/\r.getD 0 []≠[]/\0<=i':=by
 intro d
 induction d with
 |zero=>
  intro x S i h hx h1 hS hi
  obtain⟨u,i1,g1,e1,a1,a2,a3⟩:=EY b hb i h 5 hi (by omega) (by omega)
  obtain⟨r,i',h',q1,q⟩:=Qh b hb S (by omega) n hn hn2 i1 g1 a3
  refine⟨r,i',h',Ev.step (fun K=>?_) q1,q⟩
  simp only[AP.l0]
  rw[e1,Option.bind_some]
  dsimp only
  rw[Fa (x:=2+u) (by omega) (by omega),if_neg (by omega)]
 |succ d ih=>
  intro x S i h hx h1 hS hi
  obtain⟨u,i1,g1,e1,a1,a2,a3⟩:=EY b hb i h 5 hi (by omega) (by omega)
  by_cases c:(x:Int)<=2+u
  ·obtain⟨o,i2,g2,e2,b3⟩:=LS b hb i1 g1 4 a3 (by omega) (by omega)
   cases o with
   |true=>
    obtain⟨r,i',h',q1,q⟩:=ih (x+1) (S++[(x:Int)]) i2 g2 (by omega) (by omega) (by simp;omega) b3
    refine⟨r,i',h',Ev.step (fun K=>?_) q1,q⟩
    simp only[AP.l0]
    rw[e1,Option.bind_some]
    dsimp only
    rw[Fa (x:=2+u) (by omega) (by omega),if_pos c,if_pos (by omega),Option.bind_some,e2,Option.bind_some]
    dsimp only
    rw[if_pos rfl,DB (n:=7) (by omega) (by omega)]
   |false=>
    obtain⟨v,i3,g3,e3,c1,c2,c3⟩:=EY b hb i2 g2 2 b3 (by omega) (by omega)
    obtain⟨r,i',h',q1,q⟩:=ih (x+1) (S++[(x:Int)]++[wrap64 ((x:Int)*(wrap64 (1-(wrap64 (2*v)))))]) i3 g3 (by omega) (by omega) (by simp;omega) c3
    refine⟨r,i',h',Ev.step (fun K=>?_) q1,q⟩
    simp only[AP.l0]
    rw[e1,Option.bind_some]
    dsimp only
    rw[Fa (x:=2+u) (by omega) (by omega),if_pos c,if_pos (by omega),Option.bind_some,e2,Option.bind_some]
    dsimp only
    rw[if_neg Bool.false_ne_true,e3,Option.bind_some]
    dsimp only
    rw[if_pos (by simp;omega),DB (n:=7) (by omega) (by omega)]
  ·obtain⟨r,i',h',q1,q⟩:=Qh b hb S (by omega) n hn hn2 i1 g1 a3
   refine⟨r,i',h',Ev.step (fun K=>?_) q1,q⟩
   simp only[AP.l0]
   rw[e1,Option.bind_some]
   dsimp only
   rw[Fa (x:=2+u) (by omega) (by omega),if_neg c]
theorem RL (b:List Int) (hb:b.length<=1048576) (i h:Int) (hi:0<=i): ∃(r:List (List Int)) (i' h':Int),Ev (fun K=>AP.f K b i h) (r,i',h')/\(1<=r.length/\r.length<=13)/\(r.map List.length).sum<=13/\r.getD 0 []≠[]/\0<=i':=by
 obtain⟨s,i1,g1,e1,hs,a3⟩:=Ga b hb i h hi [0,0,1,2] (by decide) (by decide)
 have hs2:0<=s/\s<=2:=by
  simp only[List.mem_cons,List.not_mem_nil,or_false]at hs
  omega
 obtain⟨n,rfl⟩:=Int.eq_ofNat_of_zero_le hs2.1
 obtain⟨r,i',h',q1,q⟩:=UJ b hb (n+1) (by omega) (by omega) 6 1 [] i1 g1 rfl (by omega) (by simp) a3
 refine⟨r,i',h',?_,q⟩
 refine Ev.congr (f:=fun K=>AP.l0 K ((n+1:Nat):Int) [] 1 b i1 g1) (fun K=>?_) q1
 unfold AP.f
 rw[e1,Option.bind_some]
 dsimp only
 rw[Fa (x:=1+(n:Int)) (by omega) (by omega),show(1+(n:Int))=((n+1:Nat):Int) by omega]
theorem Fe (b:List Int) (hb:b.length<=1048576) (i h:Int) (hi:0<=i): ∃(r:List (List Int)) (i' h':Int),Ev (fun K=>BW.f K b i h) (r,i',h')/\r.length<=14/\(r.map List.length).sum<=15/\0<=i':=by
 obtain⟨r,i1,g1,q1,q2,q3,q4,q5⟩:=RL b hb i h hi
 obtain⟨y,i2,g2,e2,b1,b2,b3⟩:=EY b hb i1 g1 20 q5 (by omega) (by omega)
 have pre: ∀(F:Option (List (List Int)×Int×Int)) (z:List (List Int)×Int×Int),F=some z->((Ad.f b i1 g1 20).bind fun bt551=>(if bt551.1=0 then(if r.length<5864062014805 then(some ((r++[(([]:List Int))]),bt551.2.1,bt551.2.2))else(none))else(if bt551.1=1 then(if 0<(r.length:Int)then(if 0<((AD r 0).length:Int)then((Bm.f b bt551.2.1 bt551.2.2 (([rd (AD r 0) 0,8,9]:List Int))).bind fun bt568=>((some (([rd (AD r 0) 0,bt568.1]:List Int):List Int)).bind fun y571=>(if(AD r 0).length+y571.length<17592186044416 then(some ((r.set (0:Int).toNat ((AD r 0)++y571)),bt568.2.1,bt568.2.2))else(none))))else(none))else(none))else(if bt551.1=2 then(some ((([]:List (List Int))),bt551.2.1,bt551.2.2))else(some (r,bt551.2.1,bt551.2.2))))))=F->Ev (fun k=>BW.f k b i h) z:=by
  intro F z hF hk
  unfold BW.f
  refine Ev.bind q1 (Ev.congr (f:=fun _=>some z) (fun _=>?_) (Ev.now _))
  rw[<-hF,<-hk]
 by_cases y0:y=0
 ·refine⟨r++[[]],i2,g2,pre _ _ rfl ?_,by simp;omega,by simp;omega,b3⟩
  rw[e2,Option.bind_some]
  dsimp only
  rw[if_pos y0,if_pos (by omega)]
 ·by_cases y1:y=1
  ·have hr0:0<r.length:=by omega
   have e0:AD r 0=r[0]:=Cp (i:=0) hr0
   have hne:r[0]≠[]:=by
    have:=q4
    rwa[List.getD_eq_getElem?_getD,List.getElem?_eq_getElem hr0,Option.getD_some]at this
   have hlen0:0<r[0].length:=List.length_pos_iff.2 hne
   have hle:=EN (List.getElem_mem hr0)
   obtain⟨s,i4,g4,e4,_,d3⟩:=Ga b hb i2 g2 b3 [rd r[0] 0,8,9] (by simp) (by simp)
   have hss:=Ko r 0 hr0 (r[0]++[rd r[0] 0,s])
   have hl2:(r[0]++[rd r[0] 0,s]).length=r[0].length+2:=by simp
   refine⟨r.set 0 (r[0]++[rd r[0] 0,s]),i4,g4,pre _ _ rfl ?_,by simp;omega,by omega,d3⟩
   rw[e2,Option.bind_some]
   dsimp only
   rw[if_neg y0,if_pos y1,if_pos (by omega),e0,if_pos (by omega),e4,Option.bind_some]
   dsimp only
   rw[Option.bind_some,if_pos (by simp;omega)]
   rfl
  ·by_cases y2:y=2
   ·refine⟨[],i2,g2,pre _ _ rfl ?_,by simp,by simp,b3⟩
    rw[e2,Option.bind_some]
    dsimp only
    rw[if_neg y0,if_neg y1,if_pos y2]
   ·refine⟨r,i2,g2,pre _ _ rfl ?_,by omega,by omega,b3⟩
    rw[e2,Option.bind_some]
    dsimp only
    rw[if_neg y0,if_neg y1,if_neg y2]
theorem Ib (b:Bool):BD.f b=some (if b=true then 1 else 0):=by cases b<;>rfl
theorem EV (a b c:Int):Bd.f a b c=some (decide (b<=a/\a<=c)):=by
 unfold Bd.f
 split<;>simp<;>omega
theorem Dv (a b c:Int):BM.f a b c=some (decide (b<=a/\a<=c)):=by
 unfold BM.f
 split<;>simp<;>omega
def Di (x:Int):Prop:=x≠0/\ -8<=x/\x<=8
theorem Kz (x:Int):EC.f x=some (decide (Di x)):=by
 unfold EC.f
 simp only[Dv,Option.bind_some]
 by_cases h:1<=x/\x<=8
 ·rw[decide_eq_true h,decide_eq_true (show Di x from⟨by omega,by omega,by omega⟩)];rfl
 ·rw[decide_eq_false h]
  simp only[Bool.false_eq_true,if_false]
  congr 1
  rw[decide_eq_decide]
  unfold Di
  omega
theorem Kq (x:Int):EB.f x=some (decide (Di x)):=by
 unfold EB.f
 simp only[EV,Option.bind_some]
 split
 ·rename_i h
  rw[decide_eq_false (fun hh:Di x=>hh.1 h)]
 ·rename_i h
  congr 1
  rw[decide_eq_decide]
  unfold Di
  omega
theorem Di.neg {x:Int} (h:Di x):Di (-x):=by unfold Di at*;omega
theorem II {x:Int} (h:Di x):wrap64 (-x)= -x:=Fa (by unfold Di at h;omega) (by unfold Di at h;omega)
theorem Di.abs {x:Int} (h:Di x):1<=x.natAbs/\x.natAbs<=8:=by unfold Di at h;omega
theorem FF {x:Int} (h:Di x):BP.f x=some (x.natAbs:Int):=by
 unfold BP.f Fb.f
 rw[II h]
 split<;>simp only[Option.bind_some,Option.some.injEq]<;>omega
def Gk (l:List Int):Prop:=(∀x∈l,Di x)/\l.length<=24
def Fk (l:List Int) (i:Nat):Prop:=(∀x∈l.drop i,Di x)/\l.length<=24
theorem TR (l:List Int) (hl:l.length<=9223372036854775807): ∀(d i:Nat),i+d=l.length->Ev (fun k=>Bn.l0 k l i) (decide (Fk l i))/\Ev (fun k=>Ck.l0 k l l l.length i) (decide (Fk l i)):=by
 intro d
 induction d with
 |zero=>
  intro i hi
  have e:decide (Fk l i)=decide ((l.length:Int)<=24):=by
   rw[decide_eq_decide];unfold Fk;rw[List.drop_of_length_le (by omega)]
   simp
   omega
  rw[e]
  refine⟨Ev.step (f:=fun _=>some (decide ((l.length:Int)<=24))) (fun k=>?_) (Ev.now _),Ev.step (f:=fun _=>some (decide ((l.length:Int)<=24))) (fun k=>?_) (Ev.now _)⟩
  ·simp only[Bn.l0];rw[if_neg (by omega)]
  ·simp only[Ck.l0];rw[if_neg (by omega)]
 |succ d ih=>
  intro i hi
  have hlt:i<l.length:=by omega
  have e1:=CR hlt
  have ed:l.drop i=l[i]::l.drop (i+1):=List.drop_eq_getElem_cons hlt
  by_cases hp:Di l[i]
  ·have e:decide (Fk l i)=decide (Fk l (i+1)):=by
    rw[decide_eq_decide];unfold Fk;rw[ed]
    simp only[List.mem_cons,forall_eq_or_imp,hp,true_and]
   rw[e]
   obtain⟨h1,h2⟩:=ih (i+1) (by omega)
   refine⟨Ev.step (fun k=>?_) h1,Ev.step (fun k=>?_) h2⟩
   ·simp only[Bn.l0,Kz,e1,Option.bind_some,decide_eq_true hp]
    rw[if_pos (by omega),if_pos (by omega),if_pos trivial,DB hlt hl]
   ·simp only[Ck.l0,Kq,e1,Option.bind_some,decide_eq_true hp]
    rw[if_pos (by omega),if_pos (by omega),if_pos (by omega),if_pos trivial,DB hlt hl]
  ·have e:decide (Fk l i)=false:=by
    refine decide_eq_false fun h=>hp (h.1 _ ?_)
    rw[ed];exact List.mem_cons_self
   rw[e]
   refine⟨Ev.step (f:=fun _=>some false) (fun k=>?_) (Ev.now _),Ev.step (f:=fun _=>some false) (fun k=>?_) (Ev.now _)⟩
   ·simp only[Bn.l0,Kz,e1,Option.bind_some,decide_eq_false hp]
    rw[if_pos (by omega),if_pos (by omega)];rfl
   ·simp only[Ck.l0,Kq,e1,Option.bind_some,decide_eq_false hp]
    rw[if_pos (by omega),if_pos (by omega),if_pos (by omega)];rfl
theorem Hy (l:List Int) (hl:l.length<=1048576):Ev (fun k=>Bn.f k l) (decide (Gk l))/\Ev (fun k=>Ck.f k l) (decide (Gk l)):=by
 have:=TR l (by omega) l.length 0 (by omega)
 have e:decide (Fk l 0)=decide (Gk l):=by rw[decide_eq_decide];rfl
 rw[e]at this
 exact this
def El (l:List Int) (y:Nat):Nat:=l.countP fun x=>x.natAbs==y
theorem IP (a b:List Int) (y:Nat):El (a++b) y=El a y+El b y:=List.countP_append
theorem Qd (x:Int) (y:Nat):El [x] y=if x.natAbs=y then 1 else 0:=by
 unfold El
 rw[List.countP_cons,List.countP_nil]
 by_cases h:x.natAbs=y<;>simp[h]
theorem Np (l:List Int) (y:Nat):El l y<=l.length:=List.countP_le_length
def De (l:List Int):List Int:=(List.range 9).map fun y=>((El l y:Nat):Int)
theorem CK (l:List Int):(De l).length=9:=by simp[De]
theorem EP (l:List Int) {y:Nat} (h:y<9):rd (De l) (y:Int)=(El l y:Int):=by
 rw[CR (by rw[CK];exact h)]
 simp[De]
theorem Ms:De []=List.replicate 9 0:=by decide
theorem Lw (l:List Int) (x:Int):(De l).set x.natAbs ((El l x.natAbs:Int)+1)=De (l++[x]):=by
 refine List.ext_getElem (by simp[CK]) fun y h1 h2=>?_
 have hy:y<9:=by rw[CK]at h2;exact h2
 rw[List.getElem_set]
 have e1:(De (l++[x]))[y]=((El (l++[x]) y:Nat):Int):=by simp[De]
 refine Eq.trans ?_ e1.symm
 rw[IP,Qd]
 by_cases h:x.natAbs=y
 ·subst h;rw[if_pos rfl,if_pos rfl];omega
 ·rw[if_neg h,if_neg h];simp[De]
theorem Cu {g:List (List Int)} {p:Nat} (h:p<g.length):(g.take (p+1)).flatten=(g.take p).flatten++g[p]:=by
 rw[List.take_succ_eq_append_getElem h,List.flatten_append,List.flatten_singleton]
theorem FV (g:List (List Int)):g.flatten.length=(g.map List.length).sum:=List.length_flatten
theorem DF (g:List (List Int)) (p:Nat):((g.take p).flatten).length<=g.flatten.length:=by
 have:g.flatten=(g.take p).flatten++(g.drop p).flatten:=by rw[<-List.flatten_append,List.take_append_drop]
 rw[this,List.length_append];omega
def BZ (g:List (List Int)):Prop:=(1<=g.length/\g.length<=4)/\(∀p∈g,p≠[]/\Gk p)/\g.flatten.length<=20/\∀y,y<9->El g.flatten y<=2
theorem BZ.let {g:List (List Int)} (h:BZ g): ∀p∈g,∀x∈p,Di x:=fun p hp=>(h.2.1 p hp).2.1
def Fo (g:List (List Int)) (p:Nat):Prop:= ∀w∈g.drop p,w≠[]/\Gk w
theorem Lq {g:List (List Int)} {p:Nat} (h:p<g.length):Fo g p↔(g[p]≠[]/\Gk g[p])/\Fo g (p+1):=by
 unfold Fo
 rw[List.drop_eq_getElem_cons h]
 simp only[List.mem_cons,forall_eq_or_imp]
def SA (l:List Int) (i:Nat):Prop:= ∀y,i<=y->y<9->El l y<=2
theorem Wu (w:List Int) (hp: ∀x∈w,Di x) (hw:w.length<=1048576) (y i:Nat) (hi:i<w.length) (hy:w[i].natAbs=y): ∀(d m:Nat),m+d=i->(∀a,m<=a->a<i->∀h:a<w.length,w[a].natAbs≠y)->Ev (fun k=>Ch.l0 k w y m) (i:Int):=by
 intro d
 induction d with
 |zero=>
  intro m hm _
  obtain rfl:m=i:=by omega
  have hx:=FF (hp w[m] (List.getElem_mem hi))
  refine Ev.step (f:=fun _=>some (m:Int)) (fun k=>?_) (Ev.now _)
  simp only[Ch.l0,CR hi,hx,Option.bind_some]
  rw[if_pos (by omega),if_pos (by omega),if_pos (by omega)]
 |succ d ih=>
  intro m hm hno
  have hlt:m<w.length:=by omega
  have hx:=FF (hp w[m] (List.getElem_mem hlt))
  have h1:=ih (m+1) (by omega) (fun a h1 h2 h=>hno a (by omega) h2 h)
  have hne:=hno m (Nat.le_refl _) (by omega) hlt
  refine Ev.step (fun k=>?_) h1
  simp only[Ch.l0,CR hlt,hx,Option.bind_some]
  rw[if_pos (by omega),if_pos (by omega),if_neg (by omega),DB hlt (by omega)]
theorem Nn (w:List Int) (hp: ∀x∈w,Di x) (hw:w.length<=1048576) (y i:Nat) (hi:i<w.length) (hy:w[i].natAbs=y) (hno: ∀a,a<i->∀h:a<w.length,w[a].natAbs≠y):Ev (fun k=>Ch.f k w y) (i:Int):=
 Wu w hp hw y i hi hy i 0 (by omega) (fun a _ h=>hno a h)
theorem size_eq {x:Int} (h:Di x):Ey.f x=some (x.natAbs:Int):=by
 unfold Ey.f
 rw[II h]
 unfold mx
 congr 1
 omega
theorem Qu (w:List Int) (hp: ∀x∈w,Di x) (hw:w.length<=1048576) (y:Nat): ∀(d i:Nat),i+d=w.length->Ev (fun k=>CQ.l0 k w y ((El (w.take i) y:Nat):Int) i) ((El w y:Nat):Int):=by
 intro d
 induction d with
 |zero=>
  intro i hi
  rw[List.take_of_length_le (by omega)]
  refine Ev.step (f:=fun _=>some ((El w y:Nat):Int)) (fun k=>?_) (Ev.now _)
  simp only[CQ.l0];rw[if_neg (by omega)]
 |succ d ih=>
  intro i hi
  have hlt:i<w.length:=by omega
  have hx:=FF (hp w[i] (List.getElem_mem hlt))
  have h1:=ih (i+1) (by omega)
  have hc:=Np (w.take i) y
  rw[List.length_take]at hc
  have e:((El (w.take (i+1)) y:Nat):Int)=wrap64 (((El (w.take i) y:Nat):Int)+(if(((w[i].natAbs:Nat):Int)==(y:Int))=true then 1 else 0)):=by
   rw[List.take_succ_eq_append_getElem hlt,IP,Qd]
   by_cases h:w[i].natAbs=y
   ·rw[if_pos h,if_pos (by simp only[beq_iff_eq];omega),Fa (by omega) (by omega)];omega
   ·rw[if_neg h,if_neg (by simp only[beq_iff_eq];omega),Fa (by omega) (by omega)];omega
  rw[e]at h1
  refine Ev.step (fun k=>?_) h1
  simp only[CQ.l0,CR hlt,hx,Option.bind_some,Ib]
  rw[if_pos (by omega),if_pos (by omega),DB hlt (by omega)]
theorem QD (w:List Int) (hp: ∀x∈w,Di x) (hw:w.length<=1048576) (y:Nat):Ev (fun k=>CQ.f k w y) ((El w y:Nat):Int):=by
 have:=Qu w hp hw y w.length 0 (by omega)
 simpa[CQ.f,El]using this
theorem Ev.pos {α:Type} {c:Prop} [Decidable c] {f g:Nat->Option α} {r:α} (hc:c) (h:Ev f r):Ev (fun k=>if c then f k else g k) r:=Ev.congr (fun _=>if_pos hc) h
theorem Ev.neg {α:Type} {c:Prop} [Decidable c] {f g:Nat->Option α} {r:α} (hc: ¬c) (h:Ev g r):Ev (fun k=>if c then f k else g k) r:=Ev.congr (fun _=>if_neg hc) h
theorem IG (b:Bool): ¬((b != b)=true):=by cases b<;>decide
theorem RZ {α:Type} (q:α->Bool) (z:α) (l:List α):l.countP q=((List.range l.length).filter fun i=>q (l.getD i z)).length:=by
 induction l with
 |nil=>rfl
 |cons a l ih=>
  rw[List.length_cons,List.range_succ_eq_map,List.filter_cons,List.countP_cons,ih,List.filter_map]
  have e:((fun i=>q ((a::l).getD i z))∘Nat.succ)=fun i=>q (l.getD i z):=by funext i;rfl
  have e0:(a::l).getD 0 z=a:=rfl
  rw[e,e0]
  by_cases h:q a=true
  ·rw[if_pos h,if_pos h,List.length_cons,List.length_map]
  ·rw[if_neg h,if_neg h,List.length_map];omega
def Ix (p:Int) (w:List Int) (y i:Nat):List IY:=((List.range i).filter fun m=>decide ((w.getD m 0).natAbs=y)).map fun m:Nat=>(⟨p,(m:Int)⟩:IY)
theorem Rd (p:Int) (w:List Int) (y i:Nat):Ix p w y (i+1)=Ix p w y i++if(w.getD i 0).natAbs=y then[(⟨p,(i:Int)⟩:IY)]else[]:=by
 unfold Ix
 rw[List.range_succ,List.filter_append,List.map_append]
 by_cases h:(w.getD i 0).natAbs=y
 ·rw[if_pos h,List.filter_cons_of_pos (p:=fun m=>decide ((w.getD m 0).natAbs=y)) (decide_eq_true h)];rfl
 ·rw[if_neg h,List.filter_cons_of_neg (p:=fun m=>decide ((w.getD m 0).natAbs=y)) (by rw[decide_eq_true_eq];exact h)];rfl
theorem SM (p:Int) (w:List Int) (y i:Nat):(Ix p w y i).length<=i:=by
 unfold Ix
 rw[List.length_map]
 have:=List.length_filter_le (fun m=>decide ((w.getD m 0).natAbs=y)) (List.range i)
 rwa[List.length_range]at this
theorem ON (p:Int) (w:List Int) (y:Nat):(Ix p w y w.length).length=El w y:=by
 unfold Ix El
 rw[List.length_map,RZ (fun x:Int=>x.natAbs==y) 0 w]
 congr 1
theorem Gq {p:Int} {w:List Int} {y i:Nat} {s:IY}:s∈Ix p w y i↔s.f0=p/\∃m:Nat,m<i/\s.f1=m/\(w.getD m 0).natAbs=y:=by
 unfold Ix
 rw[List.mem_map]
 constructor
 ·rintro⟨m,hm,rfl⟩
  rw[List.mem_filter,List.mem_range,decide_eq_true_eq]at hm
  exact⟨rfl,m,hm.1,rfl,hm.2⟩
 ·rintro⟨h1,m,h2,h3,h4⟩
  refine⟨m,by rw[List.mem_filter,List.mem_range,decide_eq_true_eq];exact⟨h2,h4⟩,?_⟩
  cases s
  simp only at h1 h3
  rw[h1,h3]
def GL (g:List (List Int)) (y:Nat):Nat->List IY
 |0=>[]
 |p+1=>GL g y p++Ix (p:Int) (g.getD p []) y (g.getD p []).length
theorem Nm {g:List (List Int)} {y:Nat}: ∀{p:Nat} {s:IY},s∈GL g y p->∃q m:Nat,q<p/\s.f0=q/\s.f1=m/\m<(g.getD q []).length/\((g.getD q []).getD m 0).natAbs=y:=by
 intro p
 induction p with
 |zero=>intro s h;simp[GL]at h
 |succ p ih=>
  intro s h
  rcases List.mem_append.1 h with h|h
  ·obtain⟨q,m,h1,h2⟩:=ih h
   exact⟨q,m,by omega,h2⟩
  ·obtain⟨h1,m,h2,h3,h4⟩:=Gq.1 h
   exact⟨p,m,by omega,h1,h3,h2,h4⟩
theorem Sj {g:List (List Int)} {y:Nat}: ∀{p q m:Nat},q<p->m<(g.getD q []).length->((g.getD q []).getD m 0).natAbs=y->(⟨(q:Int),(m:Int)⟩:IY)∈GL g y p:=by
 intro p
 induction p with
 |zero=>intro q m h;omega
 |succ p ih=>
  intro q m hq hm hy
  show _∈GL g y p++_
  by_cases e:q=p
  ·subst e;exact List.mem_append_right _ (Gq.2 ⟨rfl,m,hm,rfl,hy⟩)
  ·exact List.mem_append_left _ (ih (by omega) hm hy)
theorem PG (g:List (List Int)) (y:Nat): ∀p,(GL g y p).Pairwise (fun a b=>a.f0<=b.f0):=by
 intro p
 induction p with
 |zero=>exact List.Pairwise.nil
 |succ p ih=>
  show(GL g y p++_).Pairwise _
  rw[List.pairwise_append]
  refine⟨ih,?_,?_⟩
  ·refine List.pairwise_of_forall_mem_list fun a ha b hb=>?_
   rw[(Gq.1 ha).1,(Gq.1 hb).1];exact Int.le_refl _
  ·intro a ha b hb
   obtain⟨q,_,h1,h2,_⟩:=Nm ha
   rw[h2,(Gq.1 hb).1];omega
theorem Tj {g:List (List Int)} {y:Nat}: ∀{p k:Nat},k<p->(GL g y p).countP (fun s=>decide (s.f0=(k:Int)))=El (g.getD k []) y:=by
 intro p
 induction p with
 |zero=>intro k h;omega
 |succ p ih=>
  intro k hk
  show(GL g y p++_).countP _=_
  rw[List.countP_append]
  by_cases e:k=p
  ·subst e
   have h1:(GL g y k).countP (fun s=>decide (s.f0=(k:Int)))=0:=by
    rw[List.countP_eq_zero]
    intro s hs
    obtain⟨q,_,h1,h2,_⟩:=Nm hs
    rw[decide_eq_true_eq,h2];omega
   have h2:(Ix (k:Int) (g.getD k []) y (g.getD k []).length).countP (fun s=>decide (s.f0=(k:Int)))=(Ix (k:Int) (g.getD k []) y (g.getD k []).length).length:=by
    rw[List.countP_eq_length]
    intro s hs
    rw[decide_eq_true_eq];exact(Gq.1 hs).1
   rw[h1,h2,ON,Nat.zero_add]
  ·have h2:(Ix (p:Int) (g.getD p []) y (g.getD p []).length).countP (fun s=>decide (s.f0=(k:Int)))=0:=by
    rw[List.countP_eq_zero]
    intro s hs
    rw[decide_eq_true_eq,(Gq.1 hs).1];omega
   rw[h2,ih (by omega),Nat.add_zero]
theorem Oy {g:List (List Int)} {y:Nat}: ∀{p:Nat},p<=g.length->(GL g y p).length=El (g.take p).flatten y:=by
 intro p
 induction p with
 |zero=>intro _;simp[GL,El]
 |succ p ih=>
  intro hp
  have hlt:p<g.length:=by omega
  rw[Cu hlt,IP,<-ih (by omega)]
  show(GL g y p++_).length=_
  rw[List.length_append,ON,Bu hlt]
theorem Py (g:List (List Int)) (hg:BZ g) (y p:Nat) (hp:p<g.length) (acc:List IY) (hacc:acc.length<=1000) (r:List (List Int)×Bool)
 (h:Ev (fun k=>AB.l0 k g y (acc++Ix (p:Int) g[p] y g[p].length) g g.length ((p+1:Nat):Int)) r):
 ∀(d i:Nat),i+d=g[p].length->Ev (fun k=>AB.l1 k g y (acc++Ix (p:Int) g[p] y i) p g g.length p g[p] g[p].length i) r:=by
 have hl:=hg.let g[p] (List.getElem_mem hp)
 have h4:=hg.1.2
 have h24:=(hg.2.1 g[p] (List.getElem_mem hp)).2.2
 intro d
 induction d with
 |zero=>
  intro i hi
  obtain rfl:i=g[p].length:=by omega
  refine Ev.step (fun k=>?_) h
  simp only[AB.l1]
  rw[if_neg (by omega),DB hp (by omega)]
 |succ d ih=>
  intro i hi
  have hlt:i<g[p].length:=by omega
  have hx:=size_eq (hl g[p][i] (List.getElem_mem hlt))
  have h1:=ih (i+1) (by omega)
  rw[Rd,Bu hlt,<-List.append_assoc]at h1
  have hfl:=SM (p:Int) g[p] y i
  refine Ev.step (fun k=>?_) h1
  simp only[AB.l1,CR hlt,hx,Option.bind_some]
  rw[if_pos (by omega),if_pos (by omega),if_pos (by omega),DB hlt (by omega)]
  by_cases hy:g[p][i].natAbs=y
  ·rw[if_pos (by omega),if_pos hy,if_pos (by rw[List.length_append];omega)]
  ·rw[if_neg (by omega),if_neg hy,List.append_nil]
theorem SW (g:List (List Int)) (hg:BZ g) (y:Nat) (r:List (List Int)×Bool) (h:Ev (fun k=>AB.l0 k g y (GL g y g.length) g g.length g.length) r):
 ∀(d p:Nat),p+d=g.length->Ev (fun k=>AB.l0 k g y (GL g y p) g g.length p) r:=by
 intro d
 induction d with
 |zero=>
  intro p hp
  obtain rfl:p=g.length:=by omega
  exact h
 |succ d ih=>
  intro p hp
  have hlt:p<g.length:=by omega
  have h4:=hg.1.2
  have hlen:(GL g y p).length<=1000:=by
   rw[Oy (by omega)]
   have h1:=Np (g.take p).flatten y
   have h2:=DF g p
   have:=hg.2.2.1
   omega
  have h1:=ih (p+1) (by omega)
  have e:GL g y (p+1)=GL g y p++Ix (p:Int) g[p] y g[p].length:=by
   show GL g y p++_=_
   rw[Bu hlt]
  rw[e]at h1
  have h2:=Py g hg y p hlt (GL g y p) hlen r h1 g[p].length 0 (by omega)
  have e0:Ix (p:Int) g[p] y 0=[]:=rfl
  rw[e0,List.append_nil]at h2
  refine Ev.step (fun k=>?_) h2
  simp only[AB.l0,Cp hlt]
  rw[if_pos (by omega),if_pos (by omega),if_pos (by omega)]
  rfl
def Mu (c:Nat->Nat):Nat->Int×Int
 |0=>(-1,-1)
 |k+1=>if c k=1 then(if(Mu c k).1<0 then((k:Int),(Mu c k).2)else((Mu c k).1,(k:Int)))else Mu c k
theorem Ua {c:Nat->Nat} {p q:Nat} (hpq:p<q) (h: ∀k,c k=1↔(k=p\/k=q)): ∀k,Mu c k=(if p<k then(p:Int)else-1,if q<k then(q:Int)else-1):=by
 intro k
 induction k with
 |zero=>rfl
 |succ k ih=>
  show(if c k=1 then _ else _)=_
  by_cases hc:c k=1
  ·rw[if_pos hc,ih]
   rcases(h k).1 hc with rfl|rfl
   ·have n1: ¬k<k:=by omega
    have n2: ¬q<k:=by omega
    have n3:k<k+1:=by omega
    have n4: ¬q<k+1:=by omega
    simp only[n1,n2,n3,n4,if_true,if_false]
    rfl
   ·have n1: ¬k<k:=by omega
    have n2:p<k:=by omega
    have n3:k<k+1:=by omega
    have n4:p<k+1:=by omega
    have n5: ¬(p:Int)<0:=by omega
    simp only[n1,n2,n3,n4,n5,if_true,if_false]
  ·have hk:k≠p/\k≠q:=⟨fun e=>hc ((h k).2 (.inl e)),fun e=>hc ((h k).2 (.inr e))⟩
   rw[if_neg hc,ih]
   have e1:(p<k↔p<k+1):=by omega
   have e2:(q<k↔q<k+1):=by omega
   simp only[e1,e2]
theorem Uo {c:Nat->Nat} {p:Nat} (h: ∀k,c k=1->k=p): ∀k,(Mu c k).2= -1/\((Mu c k).1= -1\/p<k):=by
 intro k
 induction k with
 |zero=>exact⟨rfl,.inl rfl⟩
 |succ k ih=>
  obtain⟨i1,i2⟩:=ih
  show((if c k=1 then _ else _:Int×Int)).2= -1/\((if c k=1 then _ else _:Int×Int).1= -1\/_)
  by_cases hc:c k=1
  ·have:=h k hc
   subst this
   rw[if_pos hc]
   have h3:(Mu c k).1= -1:=i2.resolve_right (by omega)
   rw[if_pos (by omega)]
   exact⟨i1,.inr (by omega)⟩
  ·rw[if_neg hc]
   exact⟨i1,i2.imp id (by omega)⟩
theorem SN (g:List (List Int)) (hg:BZ g) (y:Nat) (r:List (List Int)×Bool) (h:Ev (fun k=>AH.l0 k g y (Mu (fun k=>El (g.getD k []) y) g.length).1 (Mu (fun k=>El (g.getD k []) y) g.length).2 g.length) r):
 ∀(d p:Nat),p+d=g.length->Ev (fun k=>AH.l0 k g y (Mu (fun k=>El (g.getD k []) y) p).1 (Mu (fun k=>El (g.getD k []) y) p).2 p) r:=by
 intro d
 induction d with
 |zero=>
  intro p hp
  obtain rfl:p=g.length:=by omega
  exact h
 |succ d ih=>
  intro p hp
  have hlt:p<g.length:=by omega
  have h4:=hg.1.2
  have hl:=hg.let g[p] (List.getElem_mem hlt)
  have h24:=(hg.2.1 g[p] (List.getElem_mem hlt)).2.2
  have hc:=QD g[p] hl (by omega) y
  have h1:=ih (p+1) (by omega)
  have e:Mu (fun k=>El (g.getD k []) y) (p+1)=if El g[p] y=1 then(if(Mu (fun k=>El (g.getD k []) y) p).1<0 then((p:Int),(Mu (fun k=>El (g.getD k []) y) p).2)else((Mu (fun k=>El (g.getD k []) y) p).1,(p:Int)))else Mu (fun k=>El (g.getD k []) y) p:=by
   show(if El (g.getD p []) y=1 then _ else _)=_
   rw[Bu hlt]
  rw[e]at h1
  generalize Mu (fun k=>El (g.getD k []) y) p=s at*
  refine Ev.step (f:=fun k=>(CQ.f k g[p] y).bind fun t=>if t=1 then(if s.1<0 then AH.l0 k g y p s.2 ((p+1:Nat):Int)else AH.l0 k g y s.1 p ((p+1:Nat):Int))else AH.l0 k g y s.1 s.2 ((p+1:Nat):Int)) (fun k=>?_) (Ev.bind hc ?_)
  ·simp only[AH.l0,Cp hlt]
   rw[if_pos (by omega),if_pos (by omega),DB hlt (by omega)]
  ·by_cases h2:El g[p] y=1
   ·rw[if_pos h2]at h1
    refine Ev.pos (by omega) ?_
    by_cases h3:s.1<0
    ·rw[if_pos h3]at h1
     exact Ev.pos h3 h1
    ·rw[if_neg h3]at h1
     exact Ev.neg h3 h1
   ·rw[if_neg h2]at h1
    exact Ev.neg (by omega) h1
theorem We (l:List Int): ∀(d i:Nat),i+d=9->Ev (fun k=>AL.l1 k (De l) i) (decide (SA l i)):=by
 intro d
 induction d with
 |zero=>
  intro i hi
  rw[decide_eq_true (show SA l i from fun y h1 h2=>by omega)]
  refine Ev.step (f:=fun _=>some true) (fun k=>?_) (Ev.now _)
  simp only[AL.l1,CK];rw[if_neg (by omega)]
 |succ d ih=>
  intro i hi
  by_cases hc:El l i<=2
  ·have e:SA l i↔SA l (i+1):=⟨fun h y h1 h2=>h y (by omega) h2,fun h y h1 h2=>by
    rcases Nat.eq_or_lt_of_le h1 with rfl|h3
    ·exact hc
    ·exact h y h3 h2⟩
   rw[decide_eq_decide.2 e]
   refine Ev.step (fun k=>?_) (ih (i+1) (by omega))
   simp only[AL.l1,CK,EP l (show i<9 by omega)]
   rw[if_pos (by omega),if_pos (by omega),if_neg (by omega),DB (show i<9 by omega) (by omega)]
  ·rw[decide_eq_false (show¬SA l i from fun h=>hc (h i (Nat.le_refl _) (by omega)))]
   refine Ev.step (f:=fun _=>some false) (fun k=>?_) (Ev.now _)
   simp only[AL.l1,CK,EP l (show i<9 by omega)]
   rw[if_pos (by omega),if_pos (by omega),if_pos (by omega)]
theorem RH (g:List (List Int)) (hg:g.length<=1048576) (p:Nat) (hp:p<g.length) (hl: ∀x∈g[p],Di x) (pre:List Int) (hb:pre.length+g[p].length<=1048576) (r:List Int) (h:Ev (fun k=>Au.l0 k g (De (pre++g[p])) ((p+1:Nat):Int)) r):
 ∀(d i:Nat),i+d=g[p].length->Ev (fun k=>Au.l1 k g (De (pre++g[p].take i)) p i) r:=by
 intro d
 induction d with
 |zero=>
  intro i hi
  rw[List.take_of_length_le (by omega)]
  refine Ev.step (fun k=>?_) h
  simp only[Au.l1,Cp hp]
  rw[if_pos (by omega),if_pos (by omega),if_neg (by omega),DB hp (by omega)]
 |succ d ih=>
  intro i hi
  have hlt:i<g[p].length:=by omega
  have hx:=hl g[p][i] (List.getElem_mem hlt)
  have ha:=hx.abs
  have hc:=Np (pre++g[p].take i) g[p][i].natAbs
  rw[List.length_append,List.length_take]at hc
  have hw:wrap64 ((El (pre++g[p].take i) g[p][i].natAbs:Int)+1)=(El (pre++g[p].take i) g[p][i].natAbs:Int)+1:=Fa (by omega) (by omega)
  have:=ih (i+1) (by omega)
  rw[List.take_succ_eq_append_getElem hlt,<-List.append_assoc,<-Lw]at this
  refine Ev.step (fun k=>?_) this
  simp only[Au.l1,Cp hp,CR hlt,FF hx,Option.bind_some,CK]
  rw[if_pos (by omega),if_pos (by omega),if_pos (by omega),if_pos (by omega),if_pos (by omega),if_pos (by omega),if_pos (by omega),if_pos (by omega),EP _ (by omega),hw,DB hlt (by omega),Int.toNat_natCast]
theorem Us (g:List (List Int)) (hg:g.length<=1048576) (hl: ∀p∈g,∀x∈p,Di x) (hb:g.flatten.length<=1048576): ∀(d p:Nat),p+d=g.length->Ev (fun k=>Au.l0 k g (De (g.take p).flatten) p) (De g.flatten):=by
 intro d
 induction d with
 |zero=>
  intro p hp
  rw[List.take_of_length_le (by omega)]
  refine Ev.step (f:=fun _=>some (De g.flatten)) (fun k=>?_) (Ev.now _)
  simp only[Au.l0];rw[if_neg (by omega)]
 |succ d ih=>
  intro p hp
  have hlt:p<g.length:=by omega
  have h1:=ih (p+1) (by omega)
  rw[Cu hlt]at h1
  have h2:=RH g hg p hlt (hl _ (List.getElem_mem hlt)) (g.take p).flatten (by have:=DF g (p+1);rw[Cu hlt,List.length_append]at this;omega) _ h1 g[p].length 0 (by omega)
  rw[List.take_zero,List.append_nil]at h2
  refine Ev.step (fun k=>?_) h2
  simp only[Au.l0];rw[if_pos (by omega)];rfl
theorem Jp (g:List (List Int)) (hg:g.length<=1048576) (hl: ∀p∈g,∀x∈p,Di x) (hb:g.flatten.length<=1048576):Ev (fun k=>Au.f k g) (De g.flatten):=by
 refine Ev.congr (fun k=>?_) (Us g hg hl hb g.length 0 (by omega))
 unfold Au.f
 rw[if_pos (by omega),List.take_zero,List.flatten_nil,Ms];rfl
theorem Oq (g:List (List Int)) (hg:g.length<=1048576) (hb:g.flatten.length<=1048576) (r:Bool) (hr:Fo g 0->(Ev (fun k=>AL.l0 k g (g.flatten.length:Nat) g.length) r)): ∀(d p:Nat),p+d=g.length->(Fo g p↔Fo g 0)->Ev (fun k=>AL.l0 k g (((g.take p).flatten.length:Nat):Int) p) (if Fo g 0 then r else false):=by
 intro d
 induction d with
 |zero=>
  intro p hp hrow
  have h0:Fo g 0:=hrow.1 (by unfold Fo;rw[List.drop_of_length_le (by omega)];simp)
  rw[if_pos h0,List.take_of_length_le (by omega),show p=g.length by omega]
  exact hr h0
 |succ d ih=>
  intro p hp hrow
  have hlt:p<g.length:=by omega
  have hs:=Lq hlt
  have hxl:g[p].length<=1048576:=by have:=DF g (p+1);rw[Cu hlt,List.length_append]at this;omega
  by_cases hz:g[p]=[]
  ·rw[if_neg (fun h0=>(hs.1 (hrow.2 h0)).1.1 hz)]
   refine Ev.step (f:=fun _=>some false) (fun k=>?_) (Ev.now _)
   simp only[AL.l0,Cp hlt,hz]
   rw[if_pos (by omega),if_pos (by omega),if_pos (by simp)]
  have hzl:0<g[p].length:=List.length_pos_iff.2 hz
  have hw:=(Hy g[p] hxl).1
  refine Ev.step (f:=fun k=>(Bn.f k g[p]).bind fun t=>if t=true then AL.l0 k g (wrap64 ((((g.take p).flatten.length:Nat):Int)+(g[p].length:Int))) ((p+1:Nat):Int)else some false) (fun k=>?_) (Ev.bind hw ?_)
  ·simp only[AL.l0,Cp hlt]
   rw[if_pos (by omega),if_pos (by omega),if_neg (by omega),DB hlt (by omega)]
  ·by_cases hwp:Gk g[p]
   ·rw[decide_eq_true hwp]
    simp only[if_true]
    have h1:=ih (p+1) (by omega) ⟨fun h=>hrow.1 (hs.2 ⟨⟨hz,hwp⟩,h⟩),fun h=>(hs.1 (hrow.2 h)).2⟩
    have hl:((g.take (p+1)).flatten.length:Nat)=(g.take p).flatten.length+g[p].length:=by rw[Cu hlt,List.length_append]
    have hle:=DF g (p+1)
    have e:wrap64 ((((g.take p).flatten.length:Nat):Int)+(g[p].length:Int))=(((g.take (p+1)).flatten.length:Nat):Int):=by
     rw[Fa (by omega) (by omega)];omega
    rw[e]
    exact h1
   ·rw[decide_eq_false hwp,if_neg (fun h0=>hwp (hs.1 (hrow.2 h0)).1.2)]
    exact Ev.now _
theorem DG (g:List (List Int)) (hg:g.length<=1048576) (hb:g.flatten.length<=1048576):Ev (fun k=>AL.f k g) (decide (BZ g)):=by
 have hend:Fo g 0->Ev (fun k=>AL.l0 k g (g.flatten.length:Nat) g.length) (decide (BZ g)):=by
  intro h0
  have h0': ∀p∈g,p≠[]/\Gk p:=fun p hp=>h0 p (by rw[List.drop_zero];exact hp)
  by_cases hl:(1:Int)<=g.length/\(g.length:Int)<=4
  ·by_cases h20:(g.flatten.length:Int)>20
   ·rw[decide_eq_false (fun h:BZ g=>by have:=h.2.2.1;omega)]
    refine Ev.step (f:=fun k=>AL.j1 k g true) (fun k=>?_) (Ev.step (f:=fun _=>some false) (fun k=>?_) (Ev.now _))
    ·simp only[AL.l0,Dv,Option.bind_some,decide_eq_true hl,decide_eq_true h20];rw[if_neg (by omega),if_pos trivial]
    ·simp only[AL.j1];rw[if_pos trivial]
   ·have e:SA g.flatten 0↔BZ g:=⟨fun h=>⟨⟨by omega,by omega⟩,h0',by omega,fun y hy=>h y (by omega) hy⟩,fun h y _ hy=>h.2.2.2 y hy⟩
    rw[<-decide_eq_decide.2 e]
    refine Ev.step (f:=fun k=>AL.j1 k g false) (fun k=>?_) (Ev.step (f:=fun k=>(Au.f k g).bind fun t=>AL.l1 k t ((0:Nat):Int)) (fun k=>?_) (Ev.bind (Jp g hg (fun p hp=>(h0' p hp).2.1) hb) (We g.flatten 9 0 (by omega))))
    ·simp only[AL.l0,Dv,Option.bind_some,decide_eq_true hl,decide_eq_false h20];rw[if_neg (by omega),if_pos trivial]
    ·simp only[AL.j1];rw[if_neg (by simp)];rfl
  ·rw[decide_eq_false (fun h:BZ g=>hl ⟨by have:=h.1.1;omega,by have:=h.1.2;omega⟩)]
   refine Ev.step (f:=fun k=>AL.j1 k g true) (fun k=>?_) (Ev.step (f:=fun _=>some false) (fun k=>?_) (Ev.now _))
   ·simp only[AL.l0,Dv,Option.bind_some,decide_eq_false hl];rw[if_neg (by omega),if_neg (by simp)]
   ·simp only[AL.j1];rw[if_pos trivial]
 have h:=Oq g hg hb _ hend g.length 0 (by omega) Iff.rfl
 have e:(if Fo g 0 then decide (BZ g)else false)=decide (BZ g):=by
  split
  ·rfl
  ·rename_i hn
   rw[decide_eq_false (fun h:BZ g=>hn (fun p hp=>h.2.1 p (by rw[List.drop_zero]at hp;exact hp)))]
 rw[e]at h
 simpa[AL.f]using h
theorem WW (l:List Int): ∀(d i:Nat),i+d=9->Ev (fun k=>AW.l1 k (De l) 9 i) (decide (SA l i)):=by
 intro d
 induction d with
 |zero=>
  intro i hi
  rw[decide_eq_true (show SA l i from fun y h1 h2=>by omega)]
  refine Ev.step (f:=fun _=>some true) (fun k=>?_) (Ev.now _)
  simp only[AW.l1];rw[if_neg (by omega)]
 |succ d ih=>
  intro i hi
  by_cases hc:El l i<=2
  ·have e:SA l i↔SA l (i+1):=⟨fun h y h1 h2=>h y (by omega) h2,fun h y h1 h2=>by
    rcases Nat.eq_or_lt_of_le h1 with rfl|h3
    ·exact hc
    ·exact h y h3 h2⟩
   rw[decide_eq_decide.2 e]
   refine Ev.step (fun k=>?_) (ih (i+1) (by omega))
   simp only[AW.l1,CK,EP l (show i<9 by omega)]
   rw[if_pos (by omega),if_pos (by omega),if_pos (by omega),if_neg (by omega),DB (show i<9 by omega) (by omega)]
  ·rw[decide_eq_false (show¬SA l i from fun h=>hc (h i (Nat.le_refl _) (by omega)))]
   refine Ev.step (f:=fun _=>some false) (fun k=>?_) (Ev.now _)
   simp only[AW.l1,CK,EP l (show i<9 by omega)]
   rw[if_pos (by omega),if_pos (by omega),if_pos (by omega),if_pos (by omega)]
theorem Rk (g:List (List Int)) (hg:g.length<=1048576) (p:Nat) (hp:p<g.length) (hl: ∀x∈g[p],Di x) (pre:List Int) (hb:pre.length+g[p].length<=1048576) (r:List Int) (h:Ev (fun k=>Aj.l0 k (De (pre++g[p])) g g.length ((p+1:Nat):Int)) r):
 ∀(d i:Nat),i+d=g[p].length->Ev (fun k=>Aj.l1 k (De (pre++g[p].take i)) g g.length p g[p] g[p].length i) r:=by
 intro d
 induction d with
 |zero=>
  intro i hi
  rw[List.take_of_length_le (by omega)]
  refine Ev.step (fun k=>?_) h
  simp only[Aj.l1]
  rw[if_neg (by omega),DB hp (by omega)]
 |succ d ih=>
  intro i hi
  have hlt:i<g[p].length:=by omega
  have hx:=hl g[p][i] (List.getElem_mem hlt)
  have ha:=hx.abs
  have hc:=Np (pre++g[p].take i) g[p][i].natAbs
  rw[List.length_append,List.length_take]at hc
  have hw:wrap64 ((El (pre++g[p].take i) g[p][i].natAbs:Int)+1)=(El (pre++g[p].take i) g[p][i].natAbs:Int)+1:=Fa (by omega) (by omega)
  have:=ih (i+1) (by omega)
  rw[List.take_succ_eq_append_getElem hlt,<-List.append_assoc,<-Lw]at this
  refine Ev.step (fun k=>?_) this
  simp only[Aj.l1,CR hlt,size_eq hx,Option.bind_some,CK]
  rw[if_pos (by omega),if_pos (by omega),if_pos (by omega),if_pos (by omega),if_pos (by omega),EP _ (by omega),hw,DB hlt (by omega),Int.toNat_natCast]
theorem US (g:List (List Int)) (hg:g.length<=1048576) (hl: ∀p∈g,∀x∈p,Di x) (hb:g.flatten.length<=1048576): ∀(d p:Nat),p+d=g.length->Ev (fun k=>Aj.l0 k (De (g.take p).flatten) g g.length p) (De g.flatten):=by
 intro d
 induction d with
 |zero=>
  intro p hp
  rw[List.take_of_length_le (by omega)]
  refine Ev.step (f:=fun _=>some (De g.flatten)) (fun k=>?_) (Ev.now _)
  simp only[Aj.l0];rw[if_neg (by omega)]
 |succ d ih=>
  intro p hp
  have hlt:p<g.length:=by omega
  have h1:=ih (p+1) (by omega)
  rw[Cu hlt]at h1
  have h2:=Rk g hg p hlt (hl _ (List.getElem_mem hlt)) (g.take p).flatten (by have:=DF g (p+1);rw[Cu hlt,List.length_append]at this;omega) _ h1 g[p].length 0 (by omega)
  rw[List.take_zero,List.append_nil]at h2
  refine Ev.step (fun k=>?_) h2
  simp only[Aj.l0,Cp hlt];rw[if_pos (by omega),if_pos (by omega),if_pos (by omega)];rfl
theorem OS (g:List (List Int)) (hg:g.length<=1048576) (hl: ∀p∈g,∀x∈p,Di x) (hb:g.flatten.length<=1048576):Ev (fun k=>Aj.f k g) (De g.flatten):=by
 refine Ev.congr (fun k=>?_) (US g hg hl hb g.length 0 (by omega))
 unfold Aj.f
 rw[if_pos (by omega),List.take_zero,List.flatten_nil,Ms];rfl
theorem Oe (g:List (List Int)) (hg:g.length<=1048576) (hb:g.flatten.length<=1048576) (r:Bool) (hr:Fo g 0->(Ev (fun k=>AW.l0 k g (g.flatten.length:Nat) g g.length g.length) r)): ∀(d p:Nat),p+d=g.length->(Fo g p↔Fo g 0)->Ev (fun k=>AW.l0 k g (((g.take p).flatten.length:Nat):Int) g g.length p) (if Fo g 0 then r else false):=by
 intro d
 induction d with
 |zero=>
  intro p hp hrow
  have h0:Fo g 0:=hrow.1 (by unfold Fo;rw[List.drop_of_length_le (by omega)];simp)
  rw[if_pos h0,List.take_of_length_le (by omega),show p=g.length by omega]
  exact hr h0
 |succ d ih=>
  intro p hp hrow
  have hlt:p<g.length:=by omega
  have hs:=Lq hlt
  have hxl:g[p].length<=1048576:=by have:=DF g (p+1);rw[Cu hlt,List.length_append]at this;omega
  by_cases hz:g[p]=[]
  ·rw[if_neg (fun h0=>(hs.1 (hrow.2 h0)).1.1 hz)]
   refine Ev.step (f:=fun _=>some false) (fun k=>?_) (Ev.now _)
   simp only[AW.l0,Cp hlt,hz]
   rw[if_pos (by omega),if_pos (by omega),if_pos (by omega),if_pos (by simp)]
  have hzl:0<g[p].length:=List.length_pos_iff.2 hz
  have hw:=(Hy g[p] hxl).2
  refine Ev.step (f:=fun k=>(Ck.f k g[p]).bind fun t=>if t=true then AW.l0 k g (wrap64 ((((g.take p).flatten.length:Nat):Int)+(g[p].length:Int))) g g.length ((p+1:Nat):Int)else some false) (fun k=>?_) (Ev.bind hw ?_)
  ·simp only[AW.l0,Cp hlt]
   rw[if_pos (by omega),if_pos (by omega),if_pos (by omega),if_neg (by omega),DB hlt (by omega)]
  ·by_cases hwp:Gk g[p]
   ·rw[decide_eq_true hwp]
    simp only[if_true]
    have h1:=ih (p+1) (by omega) ⟨fun h=>hrow.1 (hs.2 ⟨⟨hz,hwp⟩,h⟩),fun h=>(hs.1 (hrow.2 h)).2⟩
    have hl:((g.take (p+1)).flatten.length:Nat)=(g.take p).flatten.length+g[p].length:=by rw[Cu hlt,List.length_append]
    have hle:=DF g (p+1)
    have e:wrap64 ((((g.take p).flatten.length:Nat):Int)+(g[p].length:Int))=(((g.take (p+1)).flatten.length:Nat):Int):=by
     rw[Fa (by omega) (by omega)];omega
    rw[e]
    exact h1
   ·rw[decide_eq_false hwp,if_neg (fun h0=>hwp (hs.1 (hrow.2 h0)).1.2)]
    exact Ev.now _
theorem Dz (g:List (List Int)) (hg:g.length<=1048576) (hb:g.flatten.length<=1048576):Ev (fun k=>AW.f k g) (decide (BZ g)):=by
 unfold AW.f
 simp only[EV,Option.bind_some]
 by_cases hl:(1:Int)<=g.length/\(g.length:Int)<=4
 case neg=>
  rw[decide_eq_false hl,decide_eq_false (fun h:BZ g=>hl ⟨by have:=h.1.1;omega,by have:=h.1.2;omega⟩)]
  exact Ev.now _
 rw[decide_eq_true hl]
 simp only[if_true]
 have hend:Fo g 0->Ev (fun k=>AW.l0 k g (g.flatten.length:Nat) g g.length g.length) (decide (BZ g)):=by
  intro h0
  have h0': ∀p∈g,p≠[]/\Gk p:=fun p hp=>h0 p (by rw[List.drop_zero];exact hp)
  by_cases h20:(g.flatten.length:Int)>20
  ·rw[decide_eq_false (fun h:BZ g=>by have:=h.2.2.1;omega)]
   refine Ev.step (f:=fun _=>some false) (fun k=>?_) (Ev.now _)
   simp only[AW.l0];rw[if_neg (by omega),if_pos h20]
  ·have e:SA g.flatten 0↔BZ g:=⟨fun h=>⟨⟨by omega,by omega⟩,h0',by omega,fun y hy=>h y (by omega) hy⟩,fun h y _ hy=>h.2.2.2 y hy⟩
   rw[<-decide_eq_decide.2 e]
   refine Ev.step (f:=fun k=>(Aj.f k g).bind fun t=>AW.l1 k t (t.length:Int) 0) (fun k=>?_) (Ev.bind (OS g hg (fun p hp=>(h0' p hp).2.1) hb) ?_)
   ·simp only[AW.l0];rw[if_neg (by omega),if_neg h20]
   ·simp only[CK]
    exact WW g.flatten 9 0 (by omega)
 have h:=Oe g hg hb _ hend g.length 0 (by omega) Iff.rfl
 have e:(if Fo g 0 then decide (BZ g)else false)=decide (BZ g):=by
  split
  ·rfl
  ·rename_i hn
   rw[decide_eq_false (fun h:BZ g=>hn (fun p hp=>h.2.1 p (by rw[List.drop_zero]at hp;exact hp)))]
 rw[e]at h
 simpa using h
theorem Ew {g:List (List Int)} (h:bulk g<=1048576):g.length<=1048576/\g.flatten.length<=1048576:=by
 unfold bulk at h
 rw[FV]
 omega
noncomputable def DT (h:List (List Int)):List (List Int)×Bool:=if BZ h then(h,true)else([],false)
theorem Gl (h:List (List Int)):bulk (DT h).1<=1048576:=by
 unfold DT
 by_cases hg:BZ h
 ·rw[if_pos hg]
  obtain⟨⟨_,g1⟩,_,g2,_⟩:=hg
  unfold bulk
  rw[FV]at g2
  dsimp only
  omega
 ·rw[if_neg hg];decide
theorem Fz {h:List (List Int)} (k:(DT h).2=true):(DT h).1=h/\BZ (DT h).1:=by
 unfold DT at k⊢
 by_cases hg:BZ h
 ·rw[if_pos hg];exact⟨rfl,hg⟩
 ·rw[if_neg hg]at k;cases k
theorem Io (h:List (List Int)) (h1:h.length<=1048576) (h2:h.flatten.length<=1048576):Ev (fun k=>CL.f k h) (DT h):=by
 unfold CL.f DT
 refine Ev.bind (DG h h1 h2) ?_
 by_cases hg:BZ h
 ·rw[decide_eq_true hg,if_pos hg];exact Ev.now _
 ·rw[decide_eq_false hg,if_neg hg];exact Ev.now _
theorem Ge (h:List (List Int)) (h1:h.length<=1048576) (h2:h.flatten.length<=1048576):Ev (fun k=>BX.f k h) (DT h):=by
 unfold BX.f DT
 refine Ev.bind (Dz h h1 h2) ?_
 by_cases hg:BZ h
 ·rw[decide_eq_true hg,if_pos hg];exact Ev.now _
 ·rw[decide_eq_false hg,if_neg hg];exact Ev.now _
theorem VR (g:List (List Int)) (p:Nat) (w:List Int):((g.set p w).map List.length).sum<=(g.map List.length).sum+w.length:=by
 induction g generalizing p with
 |nil=>simp
 |cons x t ih=>
  cases p with
  |zero=>simp;omega
  |succ p=>have:=ih p;simp only[List.set_cons_succ,List.map_cons,List.sum_cons];omega
theorem Im (g:List (List Int)) (p:Nat) (w:List Int):(g.set p w).flatten.length<=g.flatten.length+w.length:=by
 rw[FV,FV];exact VR g p w
def GN (l:List Int):List Int:=(l.map (fun x=> -x)).reverse
theorem EE (l:List Int):(GN l).length=l.length:=by simp[GN]
theorem RB (l:List Int) (hl:l.length<=1048576) (hp: ∀x∈l,Di x): ∀(i:Nat) (acc:List Int),i<=l.length->acc=GN (l.drop i)->Ev (fun k=>Bf.l0 k l acc ((i:Int)-1)) (GN l)/\Ev (fun k=>CM.l0 k l acc ((i:Int)-1)) (GN l):=by
 intro i
 induction i with
 |zero=>
  intro acc hi ha
  rw[List.drop_zero]at ha
  subst ha
  refine⟨Ev.step (f:=fun _=>some (GN l)) (fun k=>?_) (Ev.now _),Ev.step (f:=fun _=>some (GN l)) (fun k=>?_) (Ev.now _)⟩
  ·simp only[Bf.l0];rw[if_neg (by omega)]
  ·simp only[CM.l0];rw[if_neg (by omega)]
 |succ i ih=>
  intro acc hi ha
  have hlt:i<l.length:=by omega
  have e0:((i+1:Nat):Int)-1=(i:Int):=by omega
  have ed:l.drop i=l[i]::l.drop (i+1):=List.drop_eq_getElem_cons hlt
  have hlen:acc.length<17592186044416:=by rw[ha,EE,List.length_drop];omega
  have hn:=II (hp l[i] (List.getElem_mem hlt))
  obtain⟨h1,h2⟩:=ih (acc++[-l[i]]) (by omega) (by rw[ha,ed];simp only[GN,List.map_cons,List.reverse_cons])
  rw[e0]
  refine⟨Ev.step (fun k=>?_) h1,Ev.step (fun k=>?_) h2⟩
  ·simp only[Bf.l0,CR hlt,hn]
   rw[if_pos (by omega),if_pos (by omega),if_pos (by omega),if_pos hlen,Fa (by omega) (by omega)]
  ·simp only[CM.l0,CR hlt,hn]
   rw[if_pos (by omega),if_pos (by omega),if_pos (by omega),if_pos hlen,Fa (by omega) (by omega)]
theorem JR (l:List Int) (hl:l.length<=1048576) (hp: ∀x∈l,Di x):Ev (fun k=>Bf.f k l) (GN l)/\Ev (fun k=>CM.f k l) (GN l):=by
 have:=RB l hl hp l.length [] (Nat.le_refl _) (by simp[GN])
 have hw:wrap64 ((l.length:Int)-1)=(l.length:Int)-1:=Fa (by omega) (by omega)
 simpa[Bf.f,CM.f,hw]using this
theorem Fi (l:List Int) (hl:l.length<=1048576):CO.f l=some l:=by
 unfold CO.f
 simp only[Option.bind_some,List.nil_append,List.length_nil,Nat.zero_add]
 rw[if_pos (by omega)]
def Dx (l:List Int) (k:Int):List Int:=if l.length=0 then[]else l.drop (k % (l.length:Int)).toNat++l.take (k % (l.length:Int)).toNat
theorem GX (l:List Int) (k:Int):(Dx l k).length=l.length:=by
 unfold Dx
 split
 ·simp_all
 ·simp only[List.length_append,List.length_drop,List.length_take]
  have:=Int.emod_nonneg k (b:=(l.length:Int)) (by omega)
  have:=Int.emod_lt_of_pos k (b:=(l.length:Int)) (by omega)
  omega
theorem KR (k:Int) (n:Nat) (hn:0<n) (h:n<=1048576):(if Int.tmod k n<0 then wrap64 (Int.tmod k n+n)else Int.tmod k n)=k % (n:Int):=by
 have hb: -(n:Int)<Int.tmod k n/\Int.tmod k n<n:=by
  constructor
  ·have:=Int.lt_tmod_of_pos k (show(0:Int)<n by omega);omega
  ·exact Int.tmod_lt_of_pos k (by omega)
 have he:=Int.tmod_eq_emod (a:=k) (b:=(n:Int))
 have h1:=Int.emod_nonneg k (b:=(n:Int)) (by omega)
 have h2:=Int.emod_lt_of_pos k (b:=(n:Int)) (by omega)
 have hna:((n:Int).natAbs:Int)=n:=by omega
 split
 ·rw[Fa (by omega) (by omega),he]
  split
  ·rename_i hlt hc
   rw[he,if_pos hc]at hlt
   omega
  ·rename_i hlt hc
   rw[he,if_neg hc]at hlt
   omega
 ·rename_i hlt
  rw[he]at hlt⊢
  split
  ·omega
  ·rename_i hc
   rw[if_neg hc]at hlt
   omega
theorem To (l:List Int) (hl:l.length<=1048576) (k:Int):DA.f l k=some (Dx l k):=by
 unfold DA.f Dx
 by_cases h0:l.length=0
 ·simp[h0]
 have hn: ¬(l.length:Int)=0:=by omega
 have ht:=KR k l.length (by omega) hl
 have h1:=Int.emod_nonneg k (b:=(l.length:Int)) (by omega)
 have h2:=Int.emod_lt_of_pos k (b:=(l.length:Int)) (by omega)
 have hdl2:(l.drop (k % (l.length:Int)).toNat).length<=1048576:=by simp;omega
 have hal:(l.drop (k % (l.length:Int)).toNat).length+(l.take (k % (l.length:Int)).toNat).length<17592186044416:=by simp;omega
 have h3:(k % (l.length:Int))<=(l.length:Int):=by omega
 simp only[h0,hn,if_false]
 have hm:Fp.f k l.length=some (k % (l.length:Int)):=by
  unfold Fp.f
  rw[if_neg hn]
  by_cases hlt:Int.tmod k l.length<0
  ·rw[if_pos hlt]at ht⊢;rw[ht]
  ·rw[if_neg hlt]at ht⊢;rw[ht]
 simp only[hm,Option.bind_some,h1,h3,if_true,Fi _ hdl2,hal]
def DW (a:List Int) (i:Nat) (w:List Int) (t:Nat):List Int:=((a.take i++w.drop (t+1))++w.take t)++a.drop (i+1)
def DP (g:List (List Int)) (p q:Nat) (w:List Int):Nat->List (List Int)
 |0=>[]
 |k+1=>DP g p q w k++if k=p then[w]else if k=q then[]else[g.getD k []]
theorem KE {g:List (List Int)} {p q:Nat} {w:List Int} {k:Nat} (h:k=p):DP g p q w (k+1)=DP g p q w k++[w]:=by
 show _++(if k=p then _ else _)=_
 rw[if_pos h]
theorem LQ {g:List (List Int)} {p q:Nat} {w:List Int} {k:Nat} (h:k≠p) (h':k=q):DP g p q w (k+1)=DP g p q w k:=by
 show _++(if k=p then _ else _)=_
 rw[if_neg h,if_pos h',List.append_nil]
theorem LV {g:List (List Int)} {p q:Nat} {w:List Int} {k:Nat} (h:k≠p) (h':k≠q) (hk:k<g.length):DP g p q w (k+1)=DP g p q w k++[g[k]]:=by
 show _++(if k=p then _ else _)=_
 rw[if_neg h,if_neg h',Bu hk]
theorem Mx (g:List (List Int)) {p q:Nat} (w:List Int) (hpq:p≠q): ∀k,(DP g p q w k).length+(if q<k then 1 else 0)=k:=by
 intro k
 induction k with
 |zero=>rfl
 |succ k ih=>
  show(DP g p q w k++if k=p then _ else _).length+_=_
  rw[List.length_append]
  by_cases h1:k=p
  ·rw[if_pos h1,List.length_singleton]
   have:(q<k↔q<k+1):=by omega
   simp only[this]at ih
   omega
  ·rw[if_neg h1]
   by_cases h2:k=q
   ·rw[if_pos h2,List.length_nil,if_pos (by omega)]
    rw[if_neg (by omega)]at ih
    omega
   ·rw[if_neg h2,List.length_singleton]
    have:(q<k↔q<k+1):=by omega
    simp only[this]at ih
    omega
theorem Ll (g:List (List Int)) {p q:Nat} (w:List Int) (hpq:p≠q) (k:Nat):(DP g p q w k).length<=k:=by
 have:=Mx g w hpq k
 omega
theorem Rx {g:List (List Int)} {p q:Nat} {w:List Int}: ∀{k:Nat},p<k->w∈DP g p q w k:=by
 intro k
 induction k with
 |zero=>intro h;omega
 |succ k ih=>
  intro h
  by_cases e:k=p
  ·rw[KE e];exact List.mem_append_right _ (List.mem_singleton.2 rfl)
  ·exact List.mem_append_left _ (ih (by omega))
theorem PU (g:List (List Int)) (p q:Nat) (w:List Int): ∀k,k<=g.length->(DP g p q w k).flatten.length<=(g.take k).flatten.length+k*w.length:=by
 intro k
 induction k with
 |zero=>intro _;simp[DP]
 |succ k ih=>
  intro hk
  have hlt:k<g.length:=by omega
  have h1:=ih (by omega)
  rw[Cu hlt,List.length_append,Nat.succ_mul]
  by_cases e1:k=p
  ·rw[KE e1,List.flatten_append,List.length_append,List.flatten_singleton];omega
  ·by_cases e2:k=q
   ·rw[LQ e1 e2];omega
   ·rw[LV e1 e2 hlt,List.flatten_append,List.length_append,List.flatten_singleton];omega
theorem Kv {g:List (List Int)} (hg:BZ g) {p q:Nat} {w:List Int} (hw:w.length<=1000) (hpq:p≠q):(DP g p q w g.length).length<=1048576/\(DP g p q w g.length).flatten.length<=1048576:=by
 have h1:=Ll g w hpq g.length
 have h2:=PU g p q w g.length (Nat.le_refl _)
 rw[List.take_of_length_le (Nat.le_refl _)]at h2
 have h3:=hg.1.2
 have h4:=hg.2.2.1
 have h5:g.length*w.length<=4*1000:=Nat.mul_le_mul h3 hw
 omega
theorem Qv (w:List Int) (t:Nat) (ht:t<w.length):(Dx w ((t+1:Nat):Int)).take (w.length-1)=w.drop (t+1)++w.take t:=by
 unfold Dx
 rw[if_neg (by omega)]
 by_cases h:t+1<w.length
 ·have e:((((t+1:Nat):Int)) % (w.length:Int)).toNat=t+1:=by
   rw[Int.emod_eq_of_lt (by omega) (by omega)];omega
  rw[e,List.take_append,List.length_drop,List.take_of_length_le (by rw[List.length_drop];omega),List.take_take,Nat.min_eq_left (by omega)]
  congr 2;omega
 ·have e:((((t+1:Nat):Int)) % (w.length:Int)).toNat=0:=by
   rw[show(((t+1:Nat):Int))=(w.length:Int) by omega,Int.emod_self];rfl
  rw[e,List.drop_zero,List.take_zero,List.append_nil,List.drop_of_length_le (by omega),List.nil_append]
  congr 1;omega
theorem Ly (w:List Int) (a:Nat) (h:a<(GN w).length):(GN w)[a]= -(w[w.length-1-a]'(by rw[EE]at h;omega)):=by
 simp[GN]
theorem PQ (a:List Int) (i:Nat) (w:List Int) (t:Nat):(DW a i w t).length<=a.length+w.length:=by
 unfold DW
 simp only[List.length_append,List.length_take,List.length_drop]
 omega
theorem UL (g:List (List Int)) (hg:BZ g) (p q:Nat) (hpq:p≠q) (w:List Int) (hw:w.length<=1000): ∀(d i:Nat),i+d=g.length->Ev (fun k=>AH.l1 k g p q w (DP g p q w i) i) (DT (DP g p q w g.length)):=by
 intro d
 induction d with
 |zero=>
  intro i hi
  obtain rfl:i=g.length:=by omega
  obtain⟨s1,s2⟩:=Kv hg hw hpq
  refine Ev.shift ?_
  simp only[AH.l1]
  exact Ev.neg (by omega) (Ev.bind (Io _ s1 s2) (Ev.now _))
 |succ d ih=>
  intro i hi
  have hlt:i<g.length:=by omega
  have h4:=hg.1.2
  have h24:=(hg.2.1 g[i] (List.getElem_mem hlt)).2.2
  have h1:=ih (i+1) (by omega)
  have hol:=Ll g w hpq i
  by_cases e1:i=p
  ·rw[KE e1]at h1
   refine Ev.step (fun k=>?_) h1
   simp only[AH.l1,Option.bind_some,List.nil_append,List.length_nil,Nat.zero_add]
   rw[if_pos (by omega),if_pos (by omega),if_pos (by omega),if_pos (by omega),DB hlt (by omega)]
  ·by_cases e2:i=q
   ·rw[LQ e1 e2]at h1
    refine Ev.step (fun k=>?_) h1
    simp only[AH.l1]
    rw[if_pos (by omega),if_neg (by omega),if_pos (by omega),DB hlt (by omega)]
   ·rw[LV e1 e2 hlt]at h1
    refine Ev.step (fun k=>?_) h1
    simp only[AH.l1,Cp hlt,Option.bind_some,List.nil_append,List.length_nil,Nat.zero_add]
    rw[if_pos (by omega),if_neg (by omega),if_neg (by omega),if_pos (by omega),if_pos (by omega),if_pos (by omega),DB hlt (by omega)]
theorem VG (g:List (List Int)) (p q:Nat) (a:List Int) (i:Nat) (rest w:List Int) (hW:(a.take i++rest)++a.drop (i+1)=w) (c1:CO.f (a.take i)=some (a.take i)) (hi:i<a.length) (hi9:a.length<=9223372036854775807) (m:Nat) (hlt:m<g.length) (hm9:g.length<=9223372036854775807) (A:List (List Int)) (R:List (List Int)×Bool)
 (z5:(a.take i).length+rest.length<17592186044416) (z6:(a.take i++rest).length+(a.drop (i+1)).length<17592186044416) (y3:A.length<5864062014805) (e1:m=p)
 (h1:Ev (fun k=>AB.l2 k p q a i rest (A++[w]) g g.length ((m+1:Nat):Int)) R):Ev (fun k=>AB.l2 k p q a i rest A g g.length m) R:=by
 have z2:(i:Int)<=(a.length:Int):=Int.ofNat_le.2 (Nat.le_of_lt hi)
 have z4:((i+1:Nat):Int)<=(a.length:Int):=Int.ofNat_le.2 hi
 have y1:(m:Int)<(g.length:Int):=Int.ofNat_lt.2 hlt
 have y4:(m:Int)=(p:Int):=congrArg _ e1
 have w1:wrap64 ((i:Int)+1)=((i+1:Nat):Int):=DB hi hi9
 have w3:wrap64 ((m:Int)+1)=((m+1:Nat):Int):=DB hlt hm9
 rw[<-hW]at h1
 refine Ev.shift ?_
 simp only[AB.l2,Int.toNat_natCast,c1,w1,w3,Option.bind_some]
 exact Ev.pos y1 (Ev.pos (Int.natCast_nonneg m) (Ev.pos y1 (Ev.pos y4 (Ev.pos (Int.natCast_nonneg i) (Ev.pos z2 (Ev.pos z5 (Ev.pos (Int.natCast_nonneg (i+1)) (Ev.pos z4 (Ev.pos z6 (Ev.pos y3 h1))))))))))
theorem VF (g:List (List Int)) (p q:Nat) (a:List Int) (i:Nat) (rest:List Int) (m:Nat) (hlt:m<g.length) (hm9:g.length<=9223372036854775807) (A:List (List Int)) (R:List (List Int)×Bool) (e1: ¬m=p) (e2:m=q)
 (h1:Ev (fun k=>AB.l2 k p q a i rest A g g.length ((m+1:Nat):Int)) R):Ev (fun k=>AB.l2 k p q a i rest A g g.length m) R:=by
 have y1:(m:Int)<(g.length:Int):=Int.ofNat_lt.2 hlt
 have y4: ¬(m:Int)=(p:Int):=by omega
 have y5:(m:Int)=(q:Int):=congrArg _ e2
 have w3:wrap64 ((m:Int)+1)=((m+1:Nat):Int):=DB hlt hm9
 refine Ev.shift ?_
 simp only[AB.l2,w3]
 exact Ev.pos y1 (Ev.pos (Int.natCast_nonneg m) (Ev.pos y1 (Ev.neg y4 (Ev.pos y5 h1))))
theorem UU (g:List (List Int)) (p q:Nat) (a:List Int) (i:Nat) (rest:List Int) (m:Nat) (hlt:m<g.length) (hm9:g.length<=9223372036854775807) (A:List (List Int)) (R:List (List Int)×Bool) (c2:CO.f g[m]=some g[m]) (y3:A.length<5864062014805) (e1: ¬m=p) (e2: ¬m=q)
 (h1:Ev (fun k=>AB.l2 k p q a i rest (A++[g[m]]) g g.length ((m+1:Nat):Int)) R):Ev (fun k=>AB.l2 k p q a i rest A g g.length m) R:=by
 have y1:(m:Int)<(g.length:Int):=Int.ofNat_lt.2 hlt
 have y4: ¬(m:Int)=(p:Int):=by omega
 have y5: ¬(m:Int)=(q:Int):=by omega
 have w3:wrap64 ((m:Int)+1)=((m+1:Nat):Int):=DB hlt hm9
 refine Ev.shift ?_
 simp only[AB.l2]
 refine Ev.pos y1 (Ev.pos (Int.natCast_nonneg m) (Ev.pos y1 (Ev.neg y4 (Ev.neg y5 ?_))))
 simp only[Cp hlt,c2,w3,Option.bind_some]
 exact Ev.pos y3 h1
theorem Uq (g:List (List Int)) (hg:BZ g) (p q:Nat) (hpq:p≠q) (a:List Int) (i:Nat) (hi:i<a.length) (ha:a.length<=24) (rest:List Int) (hr:rest.length<=24) (w:List Int) (hW:(a.take i++rest)++a.drop (i+1)=w) (hw:w.length<=1000): ∀(d m:Nat),m+d=g.length->Ev (fun k=>AB.l2 k p q a i rest (DP g p q w m) g g.length m) (DT (DP g p q w g.length)):=by
 have z5:(a.take i).length+rest.length<17592186044416:=by rw[List.length_take];omega
 have z6:(a.take i++rest).length+(a.drop (i+1)).length<17592186044416:=by rw[List.length_append,List.length_take,List.length_drop];omega
 have c1:=Fi (a.take i) (by rw[List.length_take];omega)
 have hi9:a.length<=9223372036854775807:=Nat.le_trans ha (by decide)
 have hm9:g.length<=9223372036854775807:=Nat.le_trans hg.1.2 (by decide)
 intro d
 induction d with
 |zero=>
  intro m hm
  obtain rfl:m=g.length:=hm
  obtain⟨s1,s2⟩:=Kv hg hw hpq
  refine Ev.shift ?_
  simp only[AB.l2]
  exact Ev.neg (Int.lt_irrefl _) (Ev.bind (Ge _ s1 s2) (Ev.now _))
 |succ d ih=>
  intro m hm
  have hlt:m<g.length:=by omega
  have h1:=ih (m+1) (by omega)
  have y3:(DP g p q w m).length<5864062014805:=Nat.lt_of_le_of_lt (Nat.le_trans (Ll g w hpq m) (Nat.le_trans (Nat.le_of_lt hlt) hg.1.2)) (by decide)
  by_cases e1:m=p
  ·rw[KE e1]at h1
   exact VG g p q a i rest w hW c1 hi hi9 m hlt hm9 _ _ z5 z6 y3 e1 h1
  ·by_cases e2:m=q
   ·rw[LQ e1 e2]at h1
    exact VF g p q a i rest m hlt hm9 _ _ e1 e2 h1
   ·rw[LV e1 e2 hlt]at h1
    exact UU g p q a i rest m hlt hm9 _ _ (Fi g[m] (Nat.le_trans (hg.2.1 g[m] (List.getElem_mem hlt)).2.2 (by decide))) y3 e1 e2 h1
theorem Uu (g:List (List Int)) (hg:BZ g) (p q:Nat) (hpq:p≠q) (a:List Int) (i:Nat) (hi:i<a.length) (ha:a.length<=24) (rest:List Int) (hr:rest.length<=24): ∀(d m:Nat),m+d=g.length->Ev (fun k=>AB.l2 k p q a i rest (DP g p q ((a.take i++rest)++a.drop (i+1)) m) g g.length m) (DT (DP g p q ((a.take i++rest)++a.drop (i+1)) g.length)):=
 Uq g hg p q hpq a i hi ha rest hr _ rfl (by simp only[List.length_append,List.length_take,List.length_drop];omega)
theorem Oj (g:List (List Int)) (hg:BZ g) (p q:Nat) (hpq:p≠q) (hp:p<g.length) (o:List Int) (ho: ∀x∈o,Di x) (hol:o.length<=24) (y i t:Nat) (hi:i<g[p].length) (ht:t<o.length) (hty:o[t].natAbs=y) (hno: ∀a,a<t->∀h:a<o.length,o[a].natAbs≠y):Ev (fun k=>AH.j2 k g y p q g[p] o i) (DT (DP g p q (DW g[p] i o t) g.length)):=by
 have ha:=Nn o ho (by omega) y t ht hty hno
 have h24:=(hg.2.1 g[p] (List.getElem_mem hp)).2.2
 have w1:wrap64 ((i:Int)+1)=((i+1:Nat):Int):=DB hi (by omega)
 have w2:wrap64 ((t:Int)+1)=((t+1:Nat):Int):=DB ht (by omega)
 have hwl:=PQ g[p] i o t
 have hl:=UL g hg p q hpq (DW g[p] i o t) (by omega) g.length 0 (by omega)
 refine Ev.shift ?_
 simp only[AH.j2]
 refine Ev.bind ha ?_
 simp only[Option.bind_some,List.nil_append,List.length_nil,Nat.zero_add,w1,w2,Int.toNat_natCast]
 iterate 12
  refine Ev.pos (by first|omega|(simp only[List.length_append,List.length_take,List.length_drop,List.length_cons,List.length_nil,Int.toNat_natCast];omega)) ?_
 by_cases hz:(DW g[p] i o t).length=0
 ·have e:DT (DP g p q (DW g[p] i o t) g.length)=([],false):=by
   unfold DT
   rw[if_neg fun h=>(h.2.1 _ (Rx hp)).1 (List.length_eq_zero_iff.1 hz)]
  rw[e]
  exact Ev.pos (show((DW g[p] i o t).length:Int)=0 by omega) (Ev.now _)
 ·exact Ev.neg (show¬((DW g[p] i o t).length:Int)=0 by omega) hl
theorem Ow (g:List (List Int)) (hg:BZ g) (p q:Nat) (hpq:p≠q) (hp:p<g.length) (o:List Int) (hol:o.length<=24) (i t:Nat) (hi:i<g[p].length) (ht:t<o.length):Ev (fun k=>AB.j4 k g p q g[p] o i t) (DT (DP g p q (DW g[p] i o t) g.length)):=by
 have h24:=(hg.2.1 g[p] (List.getElem_mem hp)).2.2
 have w2:wrap64 ((t:Int)+1)=((t+1:Nat):Int):=DB ht (by omega)
 have w3:wrap64 ((o.length:Int)-1)=((o.length-1:Nat):Int):=by rw[Fa (by omega) (by omega)];omega
 have e:DW g[p] i o t=(g[p].take i++(o.drop (t+1)++o.take t))++g[p].drop (i+1):=by unfold DW;simp only[List.append_assoc]
 have hl:=Uu g hg p q hpq g[p] i hi h24 (o.drop (t+1)++o.take t) (by simp only[List.length_append,List.length_take,List.length_drop];omega) g.length 0 (by omega)
 rw[<-e]at hl
 have ht2:=To o (by omega) ((t+1:Nat):Int)
 refine Ev.shift ?_
 simp only[AB.j4,w2,ht2,Option.bind_some,GX,w3,Int.toNat_natCast,Qv o t ht]
 iterate 2
  refine Ev.pos (by first|omega|(simp only[List.length_append,List.length_take,List.length_drop,List.length_cons,List.length_nil,Int.toNat_natCast];omega)) ?_
 exact hl
def FZ (a b:List Int) (i j:Nat):List Int:=if a.getD i 0=b.getD j 0 then GN b else b
def GG (a b:List Int) (i j:Nat):Nat:=if a.getD i 0=b.getD j 0 then b.length-1-j else j
theorem RI (g:List (List Int)) (hg:BZ g) (p q:Nat) (hpq:p≠q) (hp:p<g.length) (hq:q<g.length) (y i j:Nat) (hi:i<g[p].length) (hj:j<g[q].length) (hiy:g[p][i].natAbs=y) (hjy:g[q][j].natAbs=y) (ui: ∀m,∀h:m<g[p].length,g[p][m].natAbs=y->m=i) (uj: ∀m,∀h:m<g[q].length,g[q][m].natAbs=y->m=j):Ev (fun k=>AH.l0 k g y p q g.length) (DT (DP g p q (DW g[p] i (FZ g[p] g[q] i j) (GG g[p] g[q] i j)) g.length)):=by
 have hlp:=hg.let g[p] (List.getElem_mem hp)
 have hlq:=hg.let g[q] (List.getElem_mem hq)
 have h24:=(hg.2.1 g[p] (List.getElem_mem hp)).2.2
 have h24':=(hg.2.1 g[q] (List.getElem_mem hq)).2.2
 have a1:=Nn g[p] hlp (by omega) y i hi hiy (fun a h1 h2 h3=>by have:=ui a h2 h3;omega)
 have a2:=Nn g[q] hlq (by omega) y j hj hjy (fun a h1 h2 h3=>by have:=uj a h2 h3;omega)
 refine Ev.shift ?_
 simp only[AH.l0,Cp hp,Cp hq,Option.bind_some,List.nil_append,List.length_nil,Nat.zero_add]
 refine Ev.neg (by omega) (Ev.neg (by omega) ?_)
 iterate 5
  refine Ev.pos (by first|omega|(simp only[List.length_append,List.length_take,List.length_drop,List.length_cons,List.length_nil,Int.toNat_natCast];omega)) ?_
 refine Ev.bind a1 (Ev.bind a2 ?_)
 iterate 4
  refine Ev.pos (by first|omega|(simp only[List.length_append,List.length_take,List.length_drop,List.length_cons,List.length_nil,Int.toNat_natCast];omega)) ?_
 simp only[CR hi,CR hj]
 unfold FZ GG
 rw[Bu hi,Bu hj]
 by_cases e:g[p][i]=g[q][j]
 ·rw[if_pos e,if_pos e]
  refine Ev.pos e.symm (Ev.bind (JR g[q] (by omega) hlq).1 ?_)
  refine Oj g hg p q hpq hp (GN g[q]) ?_ (by rw[EE];omega) y i _ hi (by rw[EE];omega) ?_ ?_
  ·intro x hx
   obtain⟨z,hz,rfl⟩:=List.mem_map.1 (List.mem_reverse.1 hx)
   exact(hlq z hz).neg
  ·rw[Ly]
   have:g[q].length-1-(g[q].length-1-j)=j:=by omega
   simp only[this,Int.natAbs_neg,hjy]
  ·intro a h1 h2 h3
   rw[Ly,Int.natAbs_neg]at h3
   have:=uj _ _ h3
   rw[EE]at h2
   omega
 ·rw[if_neg e,if_neg e]
  exact Ev.neg (fun h=>e h.symm) (Oj g hg p q hpq hp g[q] hlq h24' y i j hi hj hjy (fun a h1 h2 h3=>by have:=uj a h2 h3;omega))
theorem Qt (g:List (List Int)) (hg:BZ g) (p q:Nat) (hpq:p≠q) (hp:p<g.length) (hq:q<g.length) (y i j:Nat) (hi:i<g[p].length) (hj:j<g[q].length):Ev (fun k=>AB.l0 k g y [(⟨(p:Int),(i:Int)⟩:IY),⟨(q:Int),(j:Int)⟩] g g.length g.length) (DT (DP g p q (DW g[p] i (FZ g[p] g[q] i j) (GG g[p] g[q] i j)) g.length)):=by
 have hlq:=hg.let g[q] (List.getElem_mem hq)
 have h24:=(hg.2.1 g[p] (List.getElem_mem hp)).2.2
 have h24':=(hg.2.1 g[q] (List.getElem_mem hq)).2.2
 have t0:AX [(⟨(p:Int),(i:Int)⟩:IY),⟨(q:Int),(j:Int)⟩] 0=⟨(p:Int),(i:Int)⟩:=rfl
 have t1:AX [(⟨(p:Int),(i:Int)⟩:IY),⟨(q:Int),(j:Int)⟩] 1=⟨(q:Int),(j:Int)⟩:=rfl
 have c1:=Fi g[p] (by omega)
 have c2:=Fi g[q] (by omega)
 have hne:((p:Int)==(q:Int))=false:=by rw[beq_eq_false_iff_ne];omega
 have w1:wrap64 ((wrap64 ((g[q].length:Int)-1))-(j:Int))=((g[q].length-1-j:Nat):Int):=by
  have w0:wrap64 ((g[q].length:Int)-1)=(g[q].length:Int)-1:=Fa (by omega) (by omega)
  rw[w0,Fa (by omega) (by omega)]
  omega
 refine Ev.shift ?_
 simp only[AB.l0,t0,t1,hne]
 refine Ev.neg (by omega) ?_
 iterate 3
  refine Ev.pos (by first|omega|(simp only[List.length_append,List.length_take,List.length_drop,List.length_cons,List.length_nil,Int.toNat_natCast];omega)) ?_
 refine Ev.shift ?_
 simp only[AB.j3,Bool.false_eq_true,if_false,t0,t1,Cp hp,Cp hq,c1,c2,Option.bind_some,CR hi,CR hj]
 iterate 10
  refine Ev.pos (by first|omega|(simp only[List.length_append,List.length_take,List.length_drop,List.length_cons,List.length_nil,Int.toNat_natCast];omega)) ?_
 unfold FZ GG
 rw[Bu hi,Bu hj]
 by_cases e:g[p][i]=g[q][j]
 ·rw[if_pos e,if_pos e]
  refine Ev.pos e (Ev.bind (JR g[q] (by omega) hlq).2 ?_)
  simp only[EE,w1]
  exact Ow g hg p q hpq hp (GN g[q]) (by rw[EE];omega) i _ hi (by rw[EE];omega)
 ·rw[if_neg e,if_neg e]
  exact Ev.neg e (Ow g hg p q hpq hp g[q] h24' i j hi hj)
theorem Tv (g:List (List Int)) (y:Int) (F:List IY) (h:F.length=2->(AX F 0).f0=(AX F 1).f0):Ev (fun k=>AB.l0 k g y F g g.length g.length) (([]:List (List Int)),false):=by
 have hj:Ev (fun k=>AB.j3 k g F true) (([]:List (List Int)),false):=by
  refine Ev.shift ?_
  simp only[AB.j3,if_true]
  exact Ev.now _
 refine Ev.shift ?_
 simp only[AB.l0]
 refine Ev.neg (by omega) ?_
 by_cases h2:F.length=2
 ·simp only[h h2,beq_self_eq_true]
  exact Ev.pos (by omega) (Ev.pos (by omega) (Ev.pos (by omega) hj))
 ·exact Ev.neg (by omega) hj
theorem SU (g:List (List Int)) (y a b:Int) (h:b= -1):Ev (fun k=>AH.l0 k g y a b g.length) (([]:List (List Int)),false):=by
 refine Ev.shift ?_
 simp only[AH.l0]
 exact Ev.neg (by omega) (Ev.pos (by omega) (Ev.now _))
theorem LH (g:List (List Int)) (hg:BZ g) (y:Nat) (hy:y<9): ∃R:List (List Int)×Bool,bulk R.1<=1048576/\(∀p q i j,∀hp:p<g.length,∀hq:q<g.length,∀hi:i<g[p].length,∀hj:j<g[q].length,p<q->g[p][i].natAbs=y->g[q][j].natAbs=y->R=DT (DP g p q (DW g[p] i (FZ g[p] g[q] i j) (GG g[p] g[q] i j)) g.length))/\(R.2=true->BZ R.1/\R.1.length<g.length/\∃p q i j,∃hp:p<g.length,∃hq:q<g.length,∃hi:i<g[p].length,∃hj:j<g[q].length,p<q/\g[p][i].natAbs=y/\g[q][j].natAbs=y/\R.1=DP g p q (DW g[p] i (FZ g[p] g[q] i j) (GG g[p] g[q] i j)) g.length)/\Ev (fun k=>AH.l0 k g y (-1) (-1) 0) R/\Ev (fun k=>AB.l0 k g y [] g g.length 0) R:=by
 have hfew:=hg.2.2.2 y hy
 have hlen:(GL g y g.length).length=El g.flatten y:=by
  rw[Oy (Nat.le_refl _),List.take_of_length_le (Nat.le_refl _)]
 have hc: ∀k,k<g.length->(GL g y g.length).countP (fun s=>decide (s.f0=(k:Int)))=El (g.getD k []) y:=fun k hk=>Tj hk
 have hc0: ∀k,¬k<g.length->El (g.getD k []) y=0:=by
  intro k hk
  rw[List.getD_eq_getElem?_getD,List.getElem?_eq_none (by omega)];rfl
 have hsor:=PG g y g.length
 have hmem: ∀s:IY,s∈GL g y g.length->∃q m:Nat,q<g.length/\s.f0=q/\s.f1=m/\m<(g.getD q []).length/\((g.getD q []).getD m 0).natAbs=y:=fun s h=>Nm h
 have hin: ∀q m:Nat,q<g.length->m<(g.getD q []).length->((g.getD q []).getD m 0).natAbs=y->(⟨(q:Int),(m:Int)⟩:IY)∈GL g y g.length:=fun q m h1 h2 h3=>Sj h1 h2 h3
 have hS: ∀r,Ev (fun k=>AH.l0 k g y (Mu (fun k=>El (g.getD k []) y) g.length).1 (Mu (fun k=>El (g.getD k []) y) g.length).2 g.length) r->Ev (fun k=>AH.l0 k g y (-1) (-1) 0) r:=fun r h=>SN g hg y r h g.length 0 (by omega)
 have hI: ∀r,Ev (fun k=>AB.l0 k g y (GL g y g.length) g g.length g.length) r->Ev (fun k=>AB.l0 k g y [] g g.length 0) r:=fun r h=>SW g hg y r h g.length 0 (by omega)
 generalize hF:GL g y g.length=F at*
 have hno:(F.length=2->(AX F 0).f0=(AX F 1).f0)->(∃p,∀k,El (g.getD k []) y=1->k=p)->(∀s t:IY,s∈F->t∈F->¬s.f0<t.f0)->∃R:List (List Int)×Bool,bulk R.1<=1048576/\(∀p q i j,∀hp:p<g.length,∀hq:q<g.length,∀hi:i<g[p].length,∀hj:j<g[q].length,p<q->g[p][i].natAbs=y->g[q][j].natAbs=y->R=DT (DP g p q (DW g[p] i (FZ g[p] g[q] i j) (GG g[p] g[q] i j)) g.length))/\(R.2=true->BZ R.1/\R.1.length<g.length/\∃p q i j,∃hp:p<g.length,∃hq:q<g.length,∃hi:i<g[p].length,∃hj:j<g[q].length,p<q/\g[p][i].natAbs=y/\g[q][j].natAbs=y/\R.1=DP g p q (DW g[p] i (FZ g[p] g[q] i j) (GG g[p] g[q] i j)) g.length)/\Ev (fun k=>AH.l0 k g y (-1) (-1) 0) R/\Ev (fun k=>AB.l0 k g y [] g g.length 0) R:=by
  rintro h1 ⟨p,h2⟩ h3
  refine⟨([],false),by decide,(fun p q i j hp hq hi hj hpq a b=>(h3 _ _ (hin p i hp (by rw[Bu hp];exact hi) (by rw[Bu hp,Bu hi];exact a)) (hin q j hq (by rw[Bu hq];exact hj) (by rw[Bu hq,Bu hj];exact b)) (by show(p:Int)<(q:Int);omega)).elim),fun h=>(by cases h),hS _ (SU g y _ _ (Uo h2 g.length).1),hI _ (Tv g y F h1)⟩
 match F,hlen,hc,hsor,hmem,hin,hI,hno with
 |[],hlen,hc,hsor,hmem,hin,hI,hno=>
  refine hno (fun h=>by simp at h) ⟨0,fun k hk=>?_⟩ (fun s t hs _=>(by cases hs))
  by_cases h:k<g.length
  ·have h1:=hc k h
   rw[hk]at h1
   cases h1
  ·have:=hc0 k h;omega
 |[s],hlen,hc,hsor,hmem,hin,hI,hno=>
  obtain⟨a,m,ha,hsa,hsm,-⟩:=hmem s (List.mem_singleton.2 rfl)
  refine hno (fun h=>by simp at h) ⟨a,fun k hk=>?_⟩ (fun u v hu hv=>by rw[List.mem_singleton.1 hu,List.mem_singleton.1 hv];omega)
  by_cases h:k<g.length
  ·have h1:=hc k h
   rw[List.countP_singleton,hk]at h1
   by_cases h2:s.f0=(k:Int)
   ·omega
   ·rw[decide_eq_false h2]at h1;simp at h1
  ·have:=hc0 k h;omega
 |[s,t],hlen,hc,hsor,hmem,hin,hI,hno=>
  obtain⟨p,i,hp,hsp,hsi,hil,hiy⟩:=hmem s (by simp)
  obtain⟨q,j,hq,htq,htj,hjl,hjy⟩:=hmem t (by simp)
  rw[Bu hp]at hil hiy
  rw[Bu hq]at hjl hjy
  rw[Bu hil]at hiy
  rw[Bu hjl]at hjy
  have hcc: ∀k,k<g.length->El (g.getD k []) y=(if s.f0=(k:Int)then 1 else 0)+(if t.f0=(k:Int)then 1 else 0):=by
   intro k hk
   rw[<-hc k hk,List.countP_cons,List.countP_cons,List.countP_nil]
   by_cases h1:s.f0=(k:Int)<;>by_cases h2:t.f0=(k:Int)<;>simp[h1,h2]
  by_cases hpq:p=q
  ·refine hno (fun _=>?_) ⟨0,fun k hk=>?_⟩ (fun u v hu hv=>by
    have hu0:u.f0=(p:Int):=by
     rcases List.mem_cons.1 hu with rfl|hu
     ·exact hsp
     ·rw[List.mem_singleton.1 hu,htq,hpq]
    have hv0:v.f0=(p:Int):=by
     rcases List.mem_cons.1 hv with rfl|hv
     ·exact hsp
     ·rw[List.mem_singleton.1 hv,htq,hpq]
    omega)
   ·show s.f0=t.f0
    omega
   ·by_cases h:k<g.length
    ·have:=hcc k h
     rw[hsp,htq,hpq]at this
     split at this<;>omega
    ·have:=hc0 k h;omega
  ·have hle:s.f0<=t.f0:=(List.pairwise_cons.1 hsor).1 t (by simp)
   have hlt:p<q:=by omega
   have hs:s=⟨(p:Int),(i:Int)⟩:=by cases s;simp only at hsp hsi;rw[hsp,hsi]
   have ht:t=⟨(q:Int),(j:Int)⟩:=by cases t;simp only at htq htj;rw[htq,htj]
   subst hs ht
   have hone: ∀k,El (g.getD k []) y=1↔(k=p\/k=q):=by
    intro k
    by_cases h:k<g.length
    ·rw[hcc k h]
     by_cases h1:k=p
     ·subst h1
      rw[if_pos rfl,if_neg (show¬((q:Int)=(k:Int)) by omega)];simp
     ·by_cases h2:k=q
      ·subst h2
       rw[if_pos rfl,if_neg (show¬((p:Int)=(k:Int)) by omega)];simp
      ·rw[if_neg (show¬((p:Int)=(k:Int)) by omega),if_neg (show¬((q:Int)=(k:Int)) by omega)];simp[h1,h2]
    ·rw[hc0 k h];constructor<;>intro h'<;>omega
   have hst:=Ua hlt hone g.length
   rw[if_pos hp,if_pos hq]at hst
   have ui: ∀m,∀h:m<g[p].length,g[p][m].natAbs=y->m=i:=by
    intro m h h'
    have:=hin p m hp (by rw[Bu hp];exact h) (by rw[Bu hp,Bu h];exact h')
    rcases List.mem_cons.1 this with e|e
    ·injection e with e1 e2;omega
    ·rw[List.mem_singleton]at e;injection e with e1 e2;omega
   have uj: ∀m,∀h:m<g[q].length,g[q][m].natAbs=y->m=j:=by
    intro m h h'
    have:=hin q m hq (by rw[Bu hq];exact h) (by rw[Bu hq,Bu h];exact h')
    rcases List.mem_cons.1 this with e|e
    ·injection e with e1 e2;omega
    ·rw[List.mem_singleton]at e;injection e with e1 e2;omega
   have hW: ∀p' q' i' j',∀hp':p'<g.length,∀hq':q'<g.length,∀hi':i'<g[p'].length,∀hj':j'<g[q'].length,p'<q'->g[p'][i'].natAbs=y->g[q'][j'].natAbs=y->p'=p/\q'=q/\i'=i/\j'=j:=by
    intro p' q' i' j' hp' hq' hi' hj' hlt' a b
    have m1:=hin p' i' hp' (by rw[Bu hp'];exact hi') (by rw[Bu hp',Bu hi'];exact a)
    have m2:=hin q' j' hq' (by rw[Bu hq'];exact hj') (by rw[Bu hq',Bu hj'];exact b)
    rcases List.mem_cons.1 m1 with e|e
    ·injection e with e1 e2
     rcases List.mem_cons.1 m2 with f|f
     ·injection f with f1 f2;omega
     ·rw[List.mem_singleton]at f;injection f with f1 f2;omega
    ·rw[List.mem_singleton]at e;injection e with e1 e2
     rcases List.mem_cons.1 m2 with f|f
     ·injection f with f1 f2;omega
     ·rw[List.mem_singleton]at f;injection f with f1 f2;omega
   refine⟨_,Gl _,(fun p' q' i' j' hp' hq' hi' hj' hlt' a b=>by obtain⟨rfl,rfl,rfl,rfl⟩:=hW p' q' i' j' hp' hq' hi' hj' hlt' a b;rfl),fun h=>?_,hS _ ?_,hI _ (Qt g hg p q hpq hp hq y i j hil hjl)⟩
   ·unfold DT at h⊢
    by_cases hh:BZ (DP g p q (DW g[p] i (FZ g[p] g[q] i j) (GG g[p] g[q] i j)) g.length)
    ·rw[if_pos hh]
     refine⟨hh,?_,p,q,i,j,hp,hq,hil,hjl,hlt,hiy,hjy,rfl⟩
     have:=Mx g (DW g[p] i (FZ g[p] g[q] i j) (GG g[p] g[q] i j)) hpq g.length
     rw[if_pos hq]at this
     show(DP _ _ _ _ _).length<_
     omega
    ·rw[if_neg hh]at h;cases h
   ·rw[hst]
    exact RI g hg p q hpq hp hq y i j hil hjl hiy hjy ui uj
 |s::t::u::l,hlen,hc,hsor,hmem,hin,hI,hno=>
  exfalso
  simp only[List.length_cons]at hlen
  omega
theorem Gy (g:List (List Int)) (hb:bulk g<=1048576) (x:Int): ∃R:List (List Int)×Bool,bulk R.1<=1048576/\(BZ g->1<=x/\x<=8->(∀p q i j,∀hp:p<g.length,∀hq:q<g.length,∀hi:i<g[p].length,∀hj:j<g[q].length,p<q->g[p][i].natAbs=x.toNat->g[q][j].natAbs=x.toNat->R=DT (DP g p q (DW g[p] i (FZ g[p] g[q] i j) (GG g[p] g[q] i j)) g.length)))/\(R.2=true->BZ R.1/\R.1.length<g.length/\(1<=x/\x<=8)/\BZ g/\∃p q i j,∃hp:p<g.length,∃hq:q<g.length,∃hi:i<g[p].length,∃hj:j<g[q].length,p<q/\g[p][i].natAbs=x.toNat/\g[q][j].natAbs=x.toNat/\R.1=DP g p q (DW g[p] i (FZ g[p] g[q] i j) (GG g[p] g[q] i j)) g.length)/\Ev (fun k=>AH.f k g x) R/\Ev (fun k=>AB.f k g x) R:=by
 obtain⟨hl1,hl2⟩:=Ew hb
 have e1:=DG g hl1 hl2
 have e2:=Dz g hl1 hl2
 have hno1:Ev (fun n=>AH.j0 n g x true) (([]:List (List Int)),false):=by
  refine Ev.shift ?_;simp only[AH.j0,if_true];exact Ev.now _
 have hno2:Ev (fun n=>AB.j0 n g x true) (([]:List (List Int)),false):=by
  refine Ev.shift ?_;simp only[AB.j0,if_true];exact Ev.now _
 unfold AH.f AB.f
 by_cases h:BZ g
 case neg=>
  rw[decide_eq_false h]at e1 e2
  refine⟨([],false),by decide,fun hg _=>(h hg).elim,fun h=>(by cases h),Ev.bind e1 ?_,Ev.bind e2 ?_⟩
  ·exact Ev.neg (by decide) hno1
  ·exact Ev.neg (by decide) hno2
 rw[decide_eq_true h]at e1 e2
 by_cases hx:1<=x/\x<=8
 case neg=>
  refine⟨([],false),by decide,fun _ hx'=>(hx hx').elim,fun h=>(by cases h),Ev.bind e1 (Ev.pos rfl ?_),Ev.bind e2 (Ev.pos rfl ?_)⟩
  ·simp only[Dv,decide_eq_false hx,Option.bind_some,Bool.not_false];exact hno1
  ·simp only[EV,decide_eq_false hx,Option.bind_some,Bool.not_false];exact hno2
 obtain⟨y,rfl⟩:=Int.eq_ofNat_of_zero_le (show 0<=x by omega)
 obtain⟨R,r1,r0,r2,r3,r4⟩:=LH g h y (by omega)
 refine⟨R,r1,(fun _ _=>by rw[Int.toNat_natCast];exact r0),(fun ho=>by
  obtain⟨k1,k2,k3⟩:=r2 ho
  refine⟨k1,k2,hx,h,?_⟩
  rw[Int.toNat_natCast]
  exact k3),Ev.bind e1 (Ev.pos rfl ?_),Ev.bind e2 (Ev.pos rfl ?_)⟩
 ·simp only[Dv,decide_eq_true hx,Option.bind_some,Bool.not_true]
  refine Ev.shift ?_;simp only[AH.j0,Bool.false_eq_true,if_false];exact r3
 ·simp only[EV,decide_eq_true hx,Option.bind_some,Bool.not_true]
  refine Ev.shift ?_;simp only[AB.j0,Bool.false_eq_true,if_false];exact r4
theorem GC (g:List (List Int)) (hb:bulk g<=1048576) (x:Int): ∃R:List (List Int)×Bool,bulk R.1<=1048576/\(R.2=true->BZ R.1/\R.1.length<g.length/\(1<=x/\x<=8)/\BZ g/\∃p q i j,∃hp:p<g.length,∃hq:q<g.length,∃hi:i<g[p].length,∃hj:j<g[q].length,p<q/\g[p][i].natAbs=x.toNat/\g[q][j].natAbs=x.toNat/\R.1=DP g p q (DW g[p] i (FZ g[p] g[q] i j) (GG g[p] g[q] i j)) g.length)/\Ev (fun k=>AH.f k g x) R/\Ev (fun k=>AB.f k g x) R:=by
 obtain⟨R,r1,-,r2⟩:=Gy g hb x
 exact⟨R,r1,r2⟩
theorem TL (g:List (List Int)) (hl:bulk g<=1048576): ∀(d i:Nat),i+d=g.length->Ev (fun k=>Br.l0 k g (g.take i) i) g/\Ev (fun k=>Aw.l0 k (g.take i) g g.length i) g:=by
 have hgl:g.length<=1048576:=by unfold bulk at hl;omega
 intro d
 induction d with
 |zero=>
  intro i hi
  have ht:g.take i=g:=List.take_of_length_le (by omega)
  rw[ht]
  refine⟨Ev.step (f:=fun _=>some g) (fun k=>?_) (Ev.now _),Ev.step (f:=fun _=>some g) (fun k=>?_) (Ev.now _)⟩
  ·simp only[Br.l0];rw[if_neg (by omega)]
  ·simp only[Aw.l0];rw[if_neg (by omega)]
 |succ d ih=>
  intro i hi
  have hlt:i<g.length:=by omega
  obtain⟨h1,h2⟩:=ih (i+1) (by omega)
  rw[List.take_succ_eq_append_getElem hlt]at h1 h2
  have hb:g[i].length<=1048576:=by have:=EN (List.getElem_mem hlt);unfold bulk at hl;omega
  have htl:(g.take i).length=i:=by rw[List.length_take];omega
  refine⟨Ev.step (fun k=>?_) h1,Ev.step (fun k=>?_) h2⟩
  ·simp only[Br.l0,Cp hlt,Option.bind_some,List.nil_append,List.length_nil,Nat.zero_add]
   rw[if_pos (by omega),if_pos (by omega),if_pos (by omega),if_pos (by omega),DB hlt (by omega)]
  ·simp only[Aw.l0,Cp hlt,Fi _ hb,Option.bind_some]
   rw[if_pos (by omega),if_pos (by omega),if_pos (by omega),if_pos (by omega),DB hlt (by omega)]
theorem Fh (g:List (List Int)) (hl:bulk g<=1048576):Ev (fun k=>Br.f k g) g/\Ev (fun k=>Aw.f k g) g:=TL g hl g.length 0 (by omega)
theorem BZ.nz {g:List (List Int)} (h:BZ g):Joi.Nz g:=fun w hw=>⟨(h.2.1 w hw).1,fun x hx=>by
 have:=h.let w hw x hx
 unfold Di at this
 omega⟩
theorem BZ.SC {g:List (List Int)} (h:BZ g):Joi.Ov g:=fun y=>by
 by_cases hy:y<9
 ·exact h.2.2.2 y hy
 ·have:g.flatten.countP (fun x=>x.natAbs==y)=0:=by
   rw[List.countP_eq_zero]
   intro x hx
   obtain⟨w,hw,hxw⟩:=List.mem_flatten.1 hx
   have:=(h.let w hw x hxw).abs
   simp only[beq_iff_eq]
   omega
  omega
def Sn (g:List (List Int)) (p q:Nat):Nat->List (List Int)
 |0=>[]
 |k+1=>Sn g p q k++if k=p\/k=q then[]else[g.getD k []]
theorem SV (g:List (List Int)) {p q:Nat} (w:List Int) (hpq:p≠q): ∀k,(DP g p q w k).Perm ((if p<k then[w]else[])++Sn g p q k):=by
 intro k
 induction k with
 |zero=>exact List.Perm.refl _
 |succ k ih=>
  show(DP g p q w k++if k=p then[w]else if k=q then[]else[g.getD k []]).Perm (_++(Sn g p q k++if k=p\/k=q then[]else[g.getD k []]))
  by_cases h1:k=p
  ·subst h1
   rw[if_pos rfl,if_pos (show k=k\/k=q from .inl rfl),if_pos (show k<k+1 by omega),List.append_nil]
   rw[if_neg (show¬k<k by omega),List.nil_append]at ih
   exact(ih.append_right [w]).trans List.perm_append_comm
  ·rw[if_neg h1]
   have e:(p<k+1)=(p<k):=by apply propext;omega
   simp only[e]
   by_cases h2:k=q
   ·rw[if_pos h2,if_pos (show k=p\/k=q from .inr h2),List.append_nil,List.append_nil]
    exact ih
   ·rw[if_neg h2,if_neg (show¬(k=p\/k=q)from fun h=>h.elim h1 h2),<-List.append_assoc]
    exact ih.append_right _
theorem RS (g:List (List Int)) {p q:Nat} (hpq:p≠q): ∀k,k<=g.length->(g.take k).Perm ((if p<k then[g.getD p []]else[])++((if q<k then[g.getD q []]else[])++Sn g p q k)):=by
 intro k
 induction k with
 |zero=>intro _;exact List.Perm.refl _
 |succ k ih=>
  intro hk
  have hlt:k<g.length:=by omega
  have ih:=ih (by omega)
  rw[List.take_succ_eq_append_getElem hlt]
  have eg:g.getD k []=g[k]:=by rw[List.getD_eq_getElem?_getD,List.getElem?_eq_getElem hlt,Option.getD_some]
  show(g.take k++[g[k]]).Perm (_++(_++(Sn g p q k++if k=p\/k=q then[]else[g.getD k []])))
  by_cases h1:k=p
  ·subst h1
   have e:(q<k+1)=(q<k):=by apply propext;omega
   simp only[e]
   rw[if_pos (show True\/k=q from .inl trivial),if_pos (show k<k+1 by omega),List.append_nil,eg]
   rw[if_neg (show¬k<k by omega),List.nil_append]at ih
   exact(ih.append_right [g[k]]).trans List.perm_append_comm
  ·have e:(p<k+1)=(p<k):=by apply propext;omega
   simp only[e]
   by_cases h2:k=q
   ·subst h2
    rw[if_pos (show k=p\/k=k from .inr rfl),if_pos (show k<k+1 by omega),List.append_nil,eg]
    rw[if_neg (show¬k<k by omega),List.nil_append]at ih
    refine(ih.append_right [g[k]]).trans ?_
    rw[List.append_assoc]
    exact List.perm_append_comm.append_left _
   ·have e2:(q<k+1)=(q<k):=by apply propext;omega
    simp only[e2]
    rw[if_neg (show¬(k=p\/k=q)from fun h=>h.elim h1 h2),eg,<-List.append_assoc,<-List.append_assoc]
    rw[<-List.append_assoc]at ih
    exact ih.append_right _
theorem Sb {g:List (List Int)} (h:BZ g) {p q i j:Nat} (hp:p<g.length) (hq:q<g.length) (hi:i<g[p].length) (hj:j<g[q].length) (hpq:p≠q) (he:g[p][i].natAbs=g[q][j].natAbs) (hr:BZ (DP g p q (DW g[p] i (FZ g[p] g[q] i j) (GG g[p] g[q] i j)) g.length)):
 Joi.CJ g (DP g p q (DW g[p] i (FZ g[p] g[q] i j) (GG g[p] g[q] i j)) g.length):=by
 have k1:=RS g hpq g.length (Nat.le_refl _)
 rw[List.take_length,if_pos hp,if_pos hq]at k1
 have ep:g.getD p []=g[p]:=by rw[List.getD_eq_getElem?_getD,List.getElem?_eq_getElem hp,Option.getD_some]
 have eq_:g.getD q []=g[q]:=by rw[List.getD_eq_getElem?_getD,List.getElem?_eq_getElem hq,Option.getD_some]
 rw[ep,eq_]at k1
 have k2:=SV g (DW g[p] i (FZ g[p] g[q] i j) (GG g[p] g[q] i j)) hpq g.length
 rw[if_pos hp]at k2
 have gi:g[p].getD i 0=g[p][i]:=Bu hi
 have gj:g[q].getD j 0=g[q][j]:=Bu hj
 have ho: ∃ht:GG g[p] g[q] i j<(FZ g[p] g[q] i j).length,(FZ g[p] g[q] i j)[GG g[p] g[q] i j]= -g[p][i]:=by
  unfold FZ GG
  rw[gi,gj]
  by_cases c:g[p][i]=g[q][j]
  ·simp only[if_pos c]
   refine⟨by rw[EE];omega,?_⟩
   refine(Ly _ _ _).trans ?_
   have e5:g[q].length-1-(g[q].length-1-j)=j:=by omega
   simp only[e5]
   exact congrArg (fun x=> -x) c.symm
  ·simp only[if_neg c]
   exact⟨hj,by omega⟩
 obtain⟨ht,hx⟩:=ho
 have hA:g[p]=g[p].take i++g[p][i]::g[p].drop (i+1):=by rw[<-List.drop_eq_getElem_cons hi,List.take_append_drop]
 have hO:FZ g[p] g[q] i j=(FZ g[p] g[q] i j).take (GG g[p] g[q] i j)++ -g[p][i]::(FZ g[p] g[q] i j).drop (GG g[p] g[q] i j+1):=by rw[<-hx,<-List.drop_eq_getElem_cons ht,List.take_append_drop]
 have hB:FZ g[p] g[q] i j=g[q]\/FZ g[p] g[q] i j=Joi.iv g[q]:=by
  unfold FZ
  by_cases c:g[p].getD i 0=g[q].getD j 0
  ·rw[if_pos c];exact .inr rfl
  ·rw[if_neg c];exact .inl rfl
 refine Joi.Rt h.nz hr.nz h.SC k1 ?_ hA hB hO
 refine k2.trans ?_
 have e:DW g[p] i (FZ g[p] g[q] i j) (GG g[p] g[q] i j)=g[p].take i++((FZ g[p] g[q] i j).drop (GG g[p] g[q] i j+1)++(FZ g[p] g[q] i j).take (GG g[p] g[q] i j))++g[p].drop (i+1):=by
  unfold DW
  simp only[List.append_assoc]
 rw[e]
 exact List.Perm.refl _
theorem NC {g:List (List Int)} (h:BZ g) {x:Int} {R:List (List Int)×Bool} (k:BZ R.1/\R.1.length<g.length/\(1<=x/\x<=8)/\BZ g/\∃p q i j,∃hp:p<g.length,∃hq:q<g.length,∃hi:i<g[p].length,∃hj:j<g[q].length,p<q/\g[p][i].natAbs=x.toNat/\g[q][j].natAbs=x.toNat/\R.1=DP g p q (DW g[p] i (FZ g[p] g[q] i j) (GG g[p] g[q] i j)) g.length):Joi.CJ g R.1:=by
 obtain⟨hr,_,_,_,p,q,i,j,hp,hq,hi,hj,hpq,h1,h2,e⟩:=k
 rw[e]at hr⊢
 exact Sb h hp hq hi hj (by omega) (by omega) hr
theorem Kb {g:List (List Int)} (h:BZ g):bulk g<=1048576:=by
 obtain⟨⟨_,g1⟩,_,g2,_⟩:=h
 unfold bulk
 rw[FV]at g2
 omega
theorem Ry: ∀(n:Nat) (g:List (List Int)),BZ g->g.length<=n->∀(d x:Nat),x+d=9->1<=x->∃V:List (List Int)×Bool,bulk V.1<=1048576/\(V.2=true->BZ V.1/\V.1.length=1/\Joi.CJ g V.1)/\Ev (fun k=>Bb.l0 k g x) V/\Ev (fun k=>AY.l1 k g false x) V:=by
 intro n
 induction n with
 |zero=>
  intro g hg hn
  have:=hg.1.1
  omega
 |succ n ihn=>
  intro g hg hn d
  induction d with
  |zero=>
   intro x hx _
   obtain rfl:x=9:=by omega
   have h1:=hg.1.1
   have hS: ∀V,(if(g.length:Int)=1 then some (g,true)else some ((([]:List (List Int))),false))=some V->Ev (fun k=>Bb.l0 k g ((9:Nat):Int)) V:=by
    intro V hV
    refine Ev.shift ?_
    simp only[Bb.l0]
    refine Ev.neg (by decide) ?_
    rw[hV]
    exact Ev.now _
   have hI: ∀V,(if(g.length:Int)>1 then some ((([]:List (List Int))),false)else some (g,true))=some V->Ev (fun k=>AY.l1 k g false ((9:Nat):Int)) V:=by
    intro V hV
    refine Ev.shift ?_
    simp only[AY.l1]
    refine Ev.neg (by decide) ?_
    refine Ev.shift ?_
    simp only[AY.j2,Bool.false_eq_true,if_false]
    refine Ev.shift ?_
    simp only[AY.l0,Bool.false_eq_true,if_false]
    rw[hV]
    exact Ev.now _
   by_cases h:g.length=1
   ·exact⟨(g,true),Kb hg,fun _=>⟨hg,h,Joi.CJ.refl hg.nz⟩,hS _ (if_pos (by omega)),hI _ (if_neg (by omega))⟩
   ·exact⟨([],false),by decide,fun ho=>Bool.noConfusion ho,hS _ (if_neg (by omega)),hI _ (if_pos (by omega))⟩
  |succ d ihd=>
   intro x hx h1
   obtain⟨R,r1,r2,r3,r4⟩:=GC g (Kb hg) x
   have hx8:(x:Int)<=8:=by omega
   have w1:wrap64 ((x:Int)+1)=((x+1:Nat):Int):=DB (n:=9) (by omega) (by omega)
   have hstart: ∀V,Ev (fun k=>(AB.f k g (x:Int)).bind fun bt403=>(if bt403.2=true then(AY.l1 k bt403.1 true (wrap64 ((x:Int)+1)))else(AY.l1 k g false (wrap64 ((x:Int)+1))))) V->Ev (fun k=>AY.l1 k g false (x:Int)) V:=by
    intro V hV
    refine Ev.shift ?_
    simp only[AY.l1]
    refine Ev.pos hx8 ?_
    refine Ev.shift ?_
    simp only[AY.j2,Bool.not_false,if_true]
    exact hV
   have hstartS: ∀V,Ev (fun k=>(AH.f k g (x:Int)).bind fun bt268=>(if bt268.2=true then(Bb.l0 k bt268.1 (0+1))else(Bb.l0 k g (wrap64 ((x:Int)+1))))) V->Ev (fun k=>Bb.l0 k g (x:Int)) V:=by
    intro V hV
    refine Ev.shift ?_
    simp only[Bb.l0]
    exact Ev.pos hx8 hV
   by_cases hR:R.2=true
   ·obtain⟨q1,q2,-⟩:=r2 hR
    have hs:=NC hg (r2 hR)
    obtain⟨V,v1,v0,v2,v3⟩:=ihn R.1 q1 (by omega) 8 1 rfl (Nat.le_refl _)
    refine⟨V,v1,(fun ho=>⟨(v0 ho).1,(v0 ho).2.1,hs.trans (v0 ho).2.2⟩),hstartS V (Ev.bind r3 (Ev.pos hR v2)),hstart V (Ev.bind r4 (Ev.pos hR ?_))⟩
    have hj:Ev (fun k=>AY.j2 k R.1 true ((x+1:Nat):Int) false) V:=by
     refine Ev.shift ?_
     simp only[AY.j2,Bool.false_eq_true,if_false]
     refine Ev.shift ?_
     simp only[AY.l0,if_true]
     exact v3
    rw[w1]
    refine Ev.shift ?_
    simp only[AY.l1,Bool.not_true]
    by_cases h9:((x+1:Nat):Int)<=8
    ·exact Ev.pos h9 hj
    ·exact Ev.neg h9 hj
   ·obtain⟨V,v1,v0,v2,v3⟩:=ihd (x+1) (by omega) (by omega)
    rw[<-w1]at v2 v3
    exact⟨V,v1,v0,hstartS V (Ev.bind r3 (Ev.neg hR v2)),hstart V (Ev.bind r4 (Ev.neg hR v3))⟩
theorem Lf (g:List (List Int)) (hb:bulk g<=1048576): ∃(r:List (List Int)) (o:Bool),bulk r<=1048576/\(o=true->BZ g/\BZ r/\r.length=1/\Joi.CJ g r)/\Ev (fun k=>Bb.f k g) (r,o)/\Ev (fun k=>AY.f k g) (r,o):=by
 obtain⟨hl1,hl2⟩:=Ew hb
 have e1:=DG g hl1 hl2
 have e2:=Dz g hl1 hl2
 obtain⟨c1,c2⟩:=Fh g hb
 unfold Bb.f AY.f
 by_cases h:BZ g
 ·rw[decide_eq_true h]at e1 e2
  obtain⟨V,v1,v0,v2,v3⟩:=Ry g.length g h (Nat.le_refl _) 8 1 rfl (Nat.le_refl _)
  refine⟨V.1,V.2,v1,(fun ho=>⟨h,v0 ho⟩),Ev.bind e1 (Ev.pos rfl (Ev.bind c1 v2)),Ev.bind e2 (Ev.pos rfl (Ev.bind c2 ?_))⟩
  refine Ev.shift ?_
  simp only[AY.l0,if_true]
  exact v3
 ·rw[decide_eq_false h]at e1 e2
  exact⟨[],false,by decide,fun ho=>Bool.noConfusion ho,Ev.bind e1 (Ev.neg (by decide) (Ev.now _)),Ev.bind e2 (Ev.neg (by decide) (Ev.now _))⟩
theorem Uh (l:List Int) (hl:l.length<=1048576) (k:Int):Bs.f l k=some (Dx l k)/\DA.f l k=some (Dx l k):=by
 unfold Bs.f DA.f Dx
 by_cases h0:l.length=0
 ·simp[h0]
 have hn: ¬(l.length:Int)=0:=by omega
 have ht:=KR k l.length (by omega) hl
 have h1:=Int.emod_nonneg k (b:=(l.length:Int)) (by omega)
 have h2:=Int.emod_lt_of_pos k (b:=(l.length:Int)) (by omega)
 have hdl:(l.drop (k % (l.length:Int)).toNat).length<17592186044416:=by simp;omega
 have hdl2:(l.drop (k % (l.length:Int)).toNat).length<=1048576:=by simp;omega
 have hal:(l.drop (k % (l.length:Int)).toNat).length+(l.take (k % (l.length:Int)).toNat).length<17592186044416:=by simp;omega
 have h3:(k % (l.length:Int))<=(l.length:Int):=by omega
 simp only[h0,hn,if_false]
 constructor
 ·by_cases hlt:Int.tmod k l.length<0
  ·simp only[hlt,if_true]at ht⊢
   simp only[ht,Option.bind_some,List.nil_append,List.length_nil,Nat.zero_add,h1,h3,hdl,hal,if_true]
  ·simp only[hlt,if_false]at ht⊢
   simp only[ht,Option.bind_some,List.nil_append,List.length_nil,Nat.zero_add,h1,h3,hdl,hal,if_true]
 ·have hm:Fp.f k l.length=some (k % (l.length:Int)):=by
   unfold Fp.f
   rw[if_neg hn]
   by_cases hlt:Int.tmod k l.length<0
   ·rw[if_pos hlt]at ht⊢;rw[ht]
   ·rw[if_neg hlt]at ht⊢;rw[ht]
  simp only[hm,Option.bind_some,h1,h3,if_true,Fi _ hdl2,hal]
theorem LG (g:List (List Int)) (hb:bulk g<=1048576) (p k:Int): ∃(r:List (List Int)) (o:Bool),bulk r<=1048576/\(o=true->BZ g/\∃q,∃hq:q<g.length,p=(q:Int)/\r=g.set q (Dx g[q] k)/\BZ r)/\Ev (fun n=>Bw.f n g p k) (r,o)/\Ev (fun n=>Dl.f n g p k) (r,o):=by
 obtain⟨hl1,hl2⟩:=Ew hb
 obtain⟨c1,c2⟩:=Fh g hb
 have e1:=DG g hl1 hl2
 have e2:=Dz g hl1 hl2
 have hno:Ev (fun n=>Bw.j0 n g p k true) (([]:List (List Int)),false):=by
  refine Ev.shift ?_;simp only[Bw.j0,if_true];exact Ev.now _
 have hno2:Ev (fun n=>(some false).bind fun t264=>if t264=true then none else some (([]:List (List Int)),false)) (([]:List (List Int)),false):=Ev.now _
 unfold Bw.f Dl.f
 have hw:wrap64 ((g.length:Int)-1)=(g.length:Int)-1:=Fa (by omega) (by omega)
 have hip: ∀c:Bool,decide (BZ g/\(0<=p/\p<=(g.length:Int)-1))=c->Ev (fun n=>Ap.f n g p) c:=by
  intro c hc
  unfold Ap.f
  refine Ev.bind e2 ?_
  by_cases h:BZ g
  ·rw[decide_eq_true h]
   simp only[if_true,EV,hw,Option.bind_some]
   simp only[h,true_and]at hc
   rw[hc];exact Ev.now _
  ·rw[decide_eq_false h]
   simp only[h,false_and,decide_false]at hc
   subst hc
   exact Ev.now _
 by_cases h:BZ g
 case neg=>
  rw[decide_eq_false h]at e1
  refine⟨[],false,by decide,fun ho=>Bool.noConfusion ho,Ev.bind e1 ?_,Ev.bind (hip false (by simp[h])) (Ev.now _)⟩
  simpa using hno
 rw[decide_eq_true h]at e1
 by_cases hp:0<=p/\p<=(g.length:Int)-1
 case neg=>
  refine⟨[],false,by decide,fun ho=>Bool.noConfusion ho,Ev.bind e1 ?_,Ev.bind (hip false (by simp only[h,true_and];exact decide_eq_false hp)) (Ev.now _)⟩
  simp only[if_true,Dv,hw,decide_eq_false hp,Option.bind_some,Bool.not_false]
  exact hno
 obtain⟨q,rfl⟩:=Int.eq_ofNat_of_zero_le hp.1
 have hq:q<g.length:=by omega
 have hxl:g[q].length<=1048576:=by have:=EN (List.getElem_mem hq);unfold bulk at hb;omega
 obtain⟨t1,t2⟩:=Uh g[q] hxl k
 have h20:=h.2.2.1
 have h4:=h.1.2
 have hx20:g[q].length<=20:=by have:=EN (List.getElem_mem hq);rw[FV]at h20;omega
 have f1:(g.set q (Dx g[q] k)).length<=1048576:=by rw[List.length_set];omega
 have f2:(g.set q (Dx g[q] k)).flatten.length<=1048576:=by have:=Im g q (Dx g[q] k);rw[GX]at this;omega
 refine⟨(DT (g.set q (Dx g[q] k))).1,(DT (g.set q (Dx g[q] k))).2,Gl _,fun ho=>⟨h,q,hq,rfl,Fz ho⟩,Ev.bind e1 ?_,Ev.bind (hip true (decide_eq_true ⟨h,hp⟩)) ?_⟩
 ·simp only[if_true,Dv,hw,decide_eq_true hp,Option.bind_some,Bool.not_true]
  refine Ev.shift ?_
  simp only[Bw.j0,Bool.false_eq_true,if_false,Cp hq,t1,Option.bind_some]
  have z1:(0:Int)<=(q:Int):=by omega
  have z2:(q:Int)<(g.length:Int):=by omega
  simp only[z1,z2,if_true]
  refine Ev.bind (a:=DT (g.set q (Dx g[q] k))) ?_ (Ev.now _)
  unfold Bp.f
  refine Ev.bind c1 ?_
  simp only[z1,z2,if_true,Int.toNat_natCast]
  exact Ev.bind (Io _ f1 f2) (Ev.now _)
 ·simp only[if_true]
  refine Ev.bind c2 ?_
  have z1:(0:Int)<=(q:Int):=by omega
  have z2:(q:Int)<(g.length:Int):=by omega
  simp only[z1,z2,if_true,Cp hq,t2,Option.bind_some,Int.toNat_natCast]
  exact Ev.bind (Ge _ f1 f2) (Ev.now _)
theorem KG (g:List (List Int)) (hb:bulk g<=1048576) (p:Int): ∃(r:List (List Int)) (o:Bool),bulk r<=1048576/\(o=true->BZ g/\∃q,∃hq:q<g.length,p=(q:Int)/\r=g.set q (GN g[q])/\BZ r)/\Ev (fun n=>Bi.f n g p) (r,o)/\Ev (fun n=>DR.f n g p) (r,o):=by
 obtain⟨hl1,hl2⟩:=Ew hb
 obtain⟨c1,c2⟩:=Fh g hb
 have e1:=DG g hl1 hl2
 have e2:=Dz g hl1 hl2
 have hno:Ev (fun n=>Bi.j0 n g p true) (([]:List (List Int)),false):=by
  refine Ev.shift ?_;simp only[Bi.j0,if_true];exact Ev.now _
 have hno2:Ev (fun n=>(some false).bind fun t264=>if t264=true then none else some (([]:List (List Int)),false)) (([]:List (List Int)),false):=Ev.now _
 unfold Bi.f DR.f
 have hw:wrap64 ((g.length:Int)-1)=(g.length:Int)-1:=Fa (by omega) (by omega)
 have hip: ∀c:Bool,decide (BZ g/\(0<=p/\p<=(g.length:Int)-1))=c->Ev (fun n=>Ap.f n g p) c:=by
  intro c hc
  unfold Ap.f
  refine Ev.bind e2 ?_
  by_cases h:BZ g
  ·rw[decide_eq_true h]
   simp only[if_true,EV,hw,Option.bind_some]
   simp only[h,true_and]at hc
   rw[hc];exact Ev.now _
  ·rw[decide_eq_false h]
   simp only[h,false_and,decide_false]at hc
   subst hc
   exact Ev.now _
 by_cases h:BZ g
 case neg=>
  rw[decide_eq_false h]at e1
  refine⟨[],false,by decide,fun ho=>Bool.noConfusion ho,Ev.bind e1 ?_,Ev.bind (hip false (by simp[h])) (Ev.now _)⟩
  simpa using hno
 rw[decide_eq_true h]at e1
 by_cases hp:0<=p/\p<=(g.length:Int)-1
 case neg=>
  refine⟨[],false,by decide,fun ho=>Bool.noConfusion ho,Ev.bind e1 ?_,Ev.bind (hip false (by simp only[h,true_and];exact decide_eq_false hp)) (Ev.now _)⟩
  simp only[if_true,Dv,hw,decide_eq_false hp,Option.bind_some,Bool.not_false]
  exact hno
 obtain⟨q,rfl⟩:=Int.eq_ofNat_of_zero_le hp.1
 have hq:q<g.length:=by omega
 have hxl:g[q].length<=1048576:=by have:=EN (List.getElem_mem hq);unfold bulk at hb;omega
 obtain⟨t1,t2⟩:=JR g[q] hxl (h.let _ (List.getElem_mem hq))
 have h20:=h.2.2.1
 have h4:=h.1.2
 have hx20:g[q].length<=20:=by have:=EN (List.getElem_mem hq);rw[FV]at h20;omega
 have f1:(g.set q (GN g[q])).length<=1048576:=by rw[List.length_set];omega
 have f2:(g.set q (GN g[q])).flatten.length<=1048576:=by have:=Im g q (GN g[q]);rw[EE]at this;omega
 refine⟨(DT (g.set q (GN g[q]))).1,(DT (g.set q (GN g[q]))).2,Gl _,fun ho=>⟨h,q,hq,rfl,Fz ho⟩,Ev.bind e1 ?_,Ev.bind (hip true (decide_eq_true ⟨h,hp⟩)) ?_⟩
 ·simp only[if_true,Dv,hw,decide_eq_true hp,Option.bind_some,Bool.not_true]
  refine Ev.shift ?_
  simp only[Bi.j0,Bool.false_eq_true,if_false,Cp hq]
  have z1:(0:Int)<=(q:Int):=by omega
  have z2:(q:Int)<(g.length:Int):=by omega
  simp only[z1,z2,if_true]
  refine Ev.bind t1 ?_
  refine Ev.bind (a:=DT (g.set q (GN g[q]))) ?_ (Ev.now _)
  unfold Bp.f
  refine Ev.bind c1 ?_
  simp only[z1,z2,if_true,Int.toNat_natCast]
  exact Ev.bind (Io _ f1 f2) (Ev.now _)
 ·simp only[if_true]
  refine Ev.bind c2 ?_
  have z1:(0:Int)<=(q:Int):=by omega
  have z2:(q:Int)<(g.length:Int):=by omega
  simp only[z1,z2,if_true,Cp hq]
  refine Ev.bind t2 ?_
  simp only[Int.toNat_natCast]
  exact Ev.bind (Ge _ f1 f2) (Ev.now _)
theorem Qy (g:List (List Int)) (hb:bulk g<=1048576) (h:BZ g) (q:Nat) (hq:q<g.length) (w:List Int) (hw:w.length<=1000):Ev (fun k=>Bp.f k g q w) (DT (g.set q w)):=by
 have h20:=h.2.2.1
 have h4:=h.1.2
 have f1:(g.set q w).length<=1048576:=by rw[List.length_set];omega
 have f2:(g.set q w).flatten.length<=1048576:=by have:=Im g q w;omega
 unfold Bp.f
 refine Ev.bind (Fh g hb).1 ?_
 have z1:(0:Int)<=(q:Int):=by omega
 have z2:(q:Int)<(g.length:Int):=by omega
 simp only[z1,z2,if_true,Int.toNat_natCast]
 exact Ev.bind (Io _ f1 f2) (Ev.now _)
theorem PB (l:List Int) (hl:l.length<=1048576) (k:Int):Bs.f l k=some (Dx l k):=by
 unfold Bs.f Dx
 by_cases h0:l.length=0
 ·simp[h0]
 have hn: ¬(l.length:Int)=0:=by omega
 have ht:=KR k l.length (by omega) hl
 have h1:=Int.emod_nonneg k (b:=(l.length:Int)) (by omega)
 have h2:=Int.emod_lt_of_pos k (b:=(l.length:Int)) (by omega)
 have hdl:(l.drop (k % (l.length:Int)).toNat).length<17592186044416:=by simp;omega
 have hal:(l.drop (k % (l.length:Int)).toNat).length+(l.take (k % (l.length:Int)).toNat).length<17592186044416:=by simp;omega
 have h3:(k % (l.length:Int))<=(l.length:Int):=by omega
 simp only[h0,hn,if_false]
 ·by_cases hlt:Int.tmod k l.length<0
  ·simp only[hlt,if_true]at ht⊢
   simp only[ht,Option.bind_some,List.nil_append,List.length_nil,Nat.zero_add,h1,h3,hdl,hal,if_true]
  ·simp only[hlt,if_false]at ht⊢
   simp only[ht,Option.bind_some,List.nil_append,List.length_nil,Nat.zero_add,h1,h3,hdl,hal,if_true]
def FN (w:List Int) (m j:Nat):Nat->Nat->List Int
 |0,_=>[]
 |d+1,i=>if i=m then FN w m j d (i+1)else if i=j then FN w m j d (i+1)else w.getD i 0::FN w m j d (i+1)
theorem Rj (w:List Int) (m j:Nat): ∀d i,(FN w m j d i).length<=d:=by
 intro d
 induction d with
 |zero=>intro i;simp[FN]
 |succ d ih=>intro i;unfold FN;have:=ih (i+1);split<;>(try split)<;>simp<;>omega
theorem Qx (w:List Int) (m j:Nat): ∀(d i:Nat),i+d=w.length->m<i->j<i->FN w m j d i=w.drop i:=by
 intro d
 induction d with
 |zero=>intro i hi _ _;rw[List.drop_of_length_le (by omega)];rfl
 |succ d ih=>
  intro i hi h1 h2
  have hlt:i<w.length:=by omega
  unfold FN
  rw[if_neg (by omega),if_neg (by omega),ih (i+1) (by omega) (by omega) (by omega),Bu hlt,List.drop_eq_getElem_cons hlt]
theorem PV (w:List Int) (m:Nat) (hm:m+1<w.length): ∀(d i:Nat),i+d=w.length->i<=m->FN w m (m+1) d i=(w.drop i).take (m-i)++w.drop (m+2):=by
 intro d
 induction d with
 |zero=>intro i hi h1;omega
 |succ d ih=>
  intro i hi h1
  have hlt:i<w.length:=by omega
  unfold FN
  by_cases he:i=m
  ·rw[if_pos he]
   cases d with
   |zero=>omega
   |succ d=>
    unfold FN
    rw[if_neg (by omega),if_pos (by omega),Qx w m (m+1) d (i+1+1) (by omega) (by omega) (by omega),he]
    simp
  ·rw[if_neg he,if_neg (by omega),ih (i+1) (by omega) (by omega),Bu hlt,List.drop_eq_getElem_cons hlt,show m-i=(m-(i+1))+1 by omega,List.take_succ_cons]
   rfl
theorem PW (w:List Int) (m:Nat) (hm:m+1=w.length): ∀(d i:Nat),i+d=w.length->1<=i->i<=m->FN w m 0 d i=(w.drop i).take (m-i):=by
 intro d
 induction d with
 |zero=>intro i hi h1 h2;omega
 |succ d ih=>
  intro i hi h1 h2
  have hlt:i<w.length:=by omega
  unfold FN
  by_cases he:i=m
  ·rw[if_pos he]
   obtain rfl:d=0:=by omega
   subst he
   simp[FN]
  ·rw[if_neg he,if_neg (by omega),ih (i+1) (by omega) (by omega) (by omega),Bu hlt,List.drop_eq_getElem_cons hlt,show m-i=(m-(i+1))+1 by omega,List.take_succ_cons]
theorem Rf (g:List (List Int)) (q:Nat) (hq:q<g.length) (w:List Int) (hw:w.length<=1000) (m j:Nat) (hmv: ∀x:List Int,x.length<=1000->Ev (fun k=>BX.f k (g.set q x)) (DT (g.set q x))): ∀(d i:Nat) (acc:List Int),i+d=w.length->acc.length<=i->Ev (fun k=>Ac.l0 k q m j g acc w w.length i) (DT (g.set q (acc++FN w m j d i))):=by
 intro d
 induction d with
 |zero=>
  intro i acc hi ha
  refine Ev.shift ?_
  have z0: ¬((i:Int)<(w.length:Int)):=by omega
  have z1:(0:Int)<=(q:Int):=by omega
  have z2:(q:Int)<(g.length:Int):=by omega
  simp only[Ac.l0,z0,z1,z2,if_true,if_false,Int.toNat_natCast]
  rw[show acc++FN w m j 0 i=acc by simp[FN]]
  exact Ev.bind (hmv acc (by omega)) (Ev.now _)
 |succ d ih=>
  intro i acc hi ha
  have hlt:i<w.length:=by omega
  unfold FN
  by_cases h1:i=m
  ·rw[if_pos h1]
   refine Ev.step (fun k=>?_) (ih (i+1) acc (by omega) (by omega))
   simp only[Ac.l0]
   rw[if_pos (by omega),if_pos (by omega),if_pos (by omega),if_pos (by omega),DB hlt (by omega)]
  ·rw[if_neg h1]
   by_cases h2:i=j
   ·rw[if_pos h2]
    refine Ev.step (fun k=>?_) (ih (i+1) acc (by omega) (by omega))
    simp only[Ac.l0]
    rw[if_pos (by omega),if_pos (by omega),if_pos (by omega),if_neg (by omega),if_pos (by omega),DB hlt (by omega)]
   ·rw[if_neg h2,Bu hlt]
    have:=ih (i+1) (acc++[w[i]]) (by omega) (by simp;omega)
    rw[List.append_assoc]at this
    refine Ev.step (fun k=>?_) this
    simp only[Ac.l0,CR hlt]
    rw[if_pos (by omega),if_pos (by omega),if_pos (by omega),if_neg (by omega),if_neg (by omega),if_pos (by omega),DB hlt (by omega)]
theorem Pz (g:List (List Int)) (q:Nat) (hq:q<g.length) (w:List Int) (hrd:AD g (q:Int)=w) (m:Nat) (hm:m<w.length) (h3:3<=w.length) (hw:w.length<=1000) (T:List Int) (hT:Bs.f w (m:Int)=some T) (hTl:T.length=w.length) (k:Nat):
 AR.j0 (k+1) g q m false=if rd T 0=wrap64 (-(rd T 1))then(Bp.f k g q (if m+1<w.length then w.take m++w.drop (m+2)else T.drop 2)).bind (fun bt=>some (bt.1,bt.2))else some ([],false):=by
 rw[AR.j0,if_neg Bool.false_ne_true,if_pos (by omega),if_pos (by omega),hrd,hT,Option.bind_some,if_pos (by omega),if_pos (by omega)]
 by_cases hc:rd T 0=wrap64 (-(rd T 1))
 case neg=>rw[if_neg hc,if_neg hc]
 rw[if_pos hc,if_pos hc,if_pos (by omega),Option.bind_some]
 have y1:wrap64 ((m:Int)+1)=(m:Int)+1:=Fa (by omega) (by omega)
 have y2:wrap64 ((m:Int)+2)=(m:Int)+2:=Fa (by omega) (by omega)
 rw[y1]
 by_cases hn:m+1<w.length
 ·have z1:(w.take m).length<=w.length:=List.length_take_le' _ _
  have z2:(w.drop (m+2)).length<=w.length:=by rw[List.length_drop];omega
  have z3:((m:Int)+2).toNat=m+2:=by omega
  have z0:([]:List Int).length=0:=rfl
  have z4:(([]:List Int)++w.take m).length<=w.length:=by rw[List.nil_append];exact z1
  have z5:(([]:List Int)++w.take m++w.drop (m+2)).length<=w.length+w.length:=by rw[List.length_append];omega
  rw[if_pos hn,if_pos (by omega),Option.bind_some,if_pos (by omega),if_pos (by omega),Int.toNat_natCast,if_pos (by omega),Option.bind_some,y2,if_pos (by omega),if_pos (by omega),z3,if_pos (by omega),Option.bind_some,Option.bind_some,if_pos (by omega),List.nil_append,List.nil_append]
 ·have z1:(T.drop 2).length<=w.length:=by rw[List.length_drop];omega
  have z0:([]:List Int).length=0:=rfl
  rw[if_neg hn,if_neg (by omega),Option.bind_some,if_pos (by omega),List.nil_append]
set_option maxHeartbeats 4000000 in
theorem IV (g:List (List Int)) (hb:bulk g<=1048576) (p i:Int): ∃(r:List (List Int)) (o:Bool),bulk r<=1048576/\(o=true->BZ g/\∃q,∃hq:q<g.length,∃m:Nat,p=(q:Int)/\3<=g[q].length/\m<g[q].length/\(g[q].drop m++g[q].take m).getD 0 0= -((g[q].drop m++g[q].take m).getD 1 0)/\r=g.set q (if m+1<g[q].length then g[q].take m++g[q].drop (m+2)else(g[q].drop m++g[q].take m).drop 2)/\BZ r)/\Ev (fun n=>AR.f n g p i) (r,o)/\Ev (fun n=>Ac.f n g p i) (r,o):=by
 obtain⟨hl1,hl2⟩:=Ew hb
 obtain⟨c1,c2⟩:=Fh g hb
 have e1:=DG g hl1 hl2
 have e2:=Dz g hl1 hl2
 have hno:Ev (fun n=>AR.j0 n g p i true) (([]:List (List Int)),false):=by
  refine Ev.shift ?_;simp only[AR.j0,if_true];exact Ev.now _
 have hno2:Ev (fun n=>Ac.j0 n g p i true) (([]:List (List Int)),false):=by
  refine Ev.shift ?_;simp only[Ac.j0,if_true];exact Ev.now _
 unfold AR.f Ac.f
 have hw:wrap64 ((g.length:Int)-1)=(g.length:Int)-1:=Fa (by omega) (by omega)
 have hip: ∀c:Bool,decide (BZ g/\(0<=p/\p<=(g.length:Int)-1))=c->Ev (fun n=>Ap.f n g p) c:=by
  intro c hc
  unfold Ap.f
  refine Ev.bind e2 ?_
  by_cases h:BZ g
  ·rw[decide_eq_true h]
   simp only[if_true,EV,hw,Option.bind_some]
   simp only[h,true_and]at hc
   rw[hc];exact Ev.now _
  ·rw[decide_eq_false h]
   simp only[h,false_and,decide_false]at hc
   subst hc
   exact Ev.now _
 by_cases h:BZ g
 case neg=>
  rw[decide_eq_false h]at e1
  refine⟨[],false,by decide,fun ho=>Bool.noConfusion ho,Ev.bind e1 ?_,Ev.bind (hip false (by simp[h])) ?_⟩
  ·simpa using hno
  ·simpa using hno2
 rw[decide_eq_true h]at e1
 by_cases hp:0<=p/\p<=(g.length:Int)-1
 case neg=>
  refine⟨[],false,by decide,fun ho=>Bool.noConfusion ho,Ev.bind e1 ?_,Ev.bind (hip false (by simp only[h,true_and];exact decide_eq_false hp)) ?_⟩
  ·simp only[if_true,Dv,hw,decide_eq_false hp,Option.bind_some,Bool.false_eq_true,if_false]
   exact hno
  ·simpa using hno2
 obtain⟨q,rfl⟩:=Int.eq_ofNat_of_zero_le hp.1
 have hq:q<g.length:=by omega
 have h20:=h.2.2.1
 have h4:=h.1.2
 have hx20:g[q].length<=20:=by have:=EN (List.getElem_mem hq);rw[FV]at h20;omega
 have hlet:=h.let _ (List.getElem_mem hq)
 have z1:(0:Int)<=(q:Int):=by omega
 have z2:(q:Int)<(g.length:Int):=by omega
 have hwith:=Qy g hb h q hq
 have hmv: ∀x:List Int,x.length<=1000->Ev (fun k=>BX.f k (g.set q x)) (DT (g.set q x)):=fun x hx=>Ge _ (by rw[List.length_set];omega) (by have:=Im g q x;omega)
 have hcopy:=c2
 generalize hW:g[q]=w at*
 have hrd:AD g (q:Int)=w:=by rw[Cp hq,hW]
 have hwl:wrap64 ((w.length:Int)-1)=(w.length:Int)-1:=Fa (by omega) (by omega)
 have s1:Ev (fun n=>AR.f n g q i) (([]:List (List Int)),false)\/True:= .inr trivial
 clear s1
 by_cases h3:(w.length:Int)<3
 ·refine⟨[],false,by decide,fun ho=>Bool.noConfusion ho,Ev.bind e1 ?_,Ev.bind (hip true (decide_eq_true ⟨h,hp⟩)) ?_⟩
  ·simp only[if_true,Dv,hw,decide_eq_true hp,Option.bind_some]
   simp only[z1,z2,if_true,hrd,h3]
   exact hno
  ·simp only[if_true,z1,z2,hrd,EV,hwl,Option.bind_some,decide_eq_true h3]
   split<;>exact hno2
 by_cases hi:0<=i/\i<=(w.length:Int)-1
 case neg=>
  refine⟨[],false,by decide,fun ho=>Bool.noConfusion ho,Ev.bind e1 ?_,Ev.bind (hip true (decide_eq_true ⟨h,hp⟩)) ?_⟩
  ·simp only[if_true,Dv,hw,decide_eq_true hp,Option.bind_some]
   simp only[z1,z2,if_true,hrd,h3,if_false,hwl,decide_eq_false hi,Bool.not_false]
   exact hno
  ·simp only[if_true,z1,z2,hrd,EV,hwl,Option.bind_some]
   simp only[decide_eq_false hi,Bool.false_eq_true,if_false]
   exact hno2
 obtain⟨m,rfl⟩:=Int.eq_ofNat_of_zero_le hi.1
 have hm:m<w.length:=by omega
 have t1:=PB w (by omega) (m:Int)
 have hT:Dx w (m:Int)=w.drop m++w.take m:=by
  unfold Dx
  rw[if_neg (by omega),Int.emod_eq_of_lt (by omega) (by omega),Int.toNat_natCast]
 rw[hT]at t1
 have hTl:(w.drop m++w.take m).length=w.length:=by rw[<-hT,GX]
 have k1:(0:Int)<((w.drop m++w.take m).length:Int):=by omega
 have k2:(1:Int)<((w.drop m++w.take m).length:Int):=by omega
 have k3:(2:Int)<=((w.drop m++w.take m).length:Int):=by omega
 have k4: ¬((w.length:Int)=0):=by omega
 have k5:(0:Int)<=(m:Int):=by omega
 have k6:(m:Int)<(w.length:Int):=by omega
 have hj:Int.tmod (wrap64 ((m:Int)+1)) (w.length:Int)=(((if m+1<w.length then m+1 else 0:Nat)):Int):=by
  rw[Fa (by omega) (by omega)]
  by_cases hc:m+1<w.length
  ·rw[if_pos hc,Int.tmod_eq_of_lt (by omega) (by omega)];omega
  ·rw[if_neg hc,show(m:Int)+1=(w.length:Int) by omega,Int.tmod_self];rfl
 have hjl:(if m+1<w.length then m+1 else 0)<w.length:=by split<;>omega
 have hT0:rd (w.drop m++w.take m) 0=w[m]:=by
  have:rd (w.drop m++w.take m) ((0:Nat):Int)=_:=CR (l:=w.drop m++w.take m) (i:=0) (by omega)
  rw[show((0:Nat):Int)=0 from rfl]at this
  rw[this,List.getElem_append_left (by simp;omega)]
  simp
 have hT1:rd (w.drop m++w.take m) 1=w[if m+1<w.length then m+1 else 0]:=by
  have:rd (w.drop m++w.take m) ((1:Nat):Int)=_:=CR (l:=w.drop m++w.take m) (i:=1) (by omega)
  rw[show((1:Nat):Int)=1 from rfl]at this
  rw[this]
  by_cases hc:m+1<w.length
  ·rw[List.getElem_append_left (by simp;omega)]
   simp[hc]
  ·rw[List.getElem_append_right (by simp;omega)]
   simp only[hc,if_false,List.getElem_take,List.length_drop]
   congr 1
   omega
 have hng: ∀(y:Nat) (hy:y<w.length),wrap64 (-w[y])= -w[y]:=fun y hy=>by have:=hlet w[y] (List.getElem_mem hy);exact Fa (by have:=this.2;omega) (by have:=this.2;omega)
 have hrest:(if m+1<w.length then w.take m++w.drop (m+2)else(w.drop m++w.take m).drop 2)=FN w m (if m+1<w.length then m+1 else 0) w.length 0:=by
  by_cases hc:m+1<w.length
  ·rw[if_pos hc,if_pos hc,PV w m hc w.length 0 (by omega) (by omega)]
   simp
  ·rw[if_neg hc,if_neg hc]
   have hml:m+1=w.length:=by omega
   obtain⟨d,hd⟩: ∃d,w.length=d+1:=⟨w.length-1,by omega⟩
   rw[hd]
   unfold FN
   rw[if_neg (by omega),if_pos rfl,PW w m hml d 1 (by omega) (by omega) (by omega)]
   have hdm:w.drop m=[w[m]]:=by rw[List.drop_eq_getElem_cons hm,List.drop_of_length_le (by omega)]
   rw[hdm,List.singleton_append,List.drop_succ_cons,List.drop_take]
 have hsl:=Rj w m (if m+1<w.length then m+1 else 0) w.length 0
 generalize hJ:(if m+1<w.length then m+1 else 0)=j at*
 have k7:(0:Int)<=(j:Int):=Int.natCast_nonneg j
 have k8:(j:Int)<(w.length:Int):=Int.ofNat_lt.2 hjl
 generalize hTT:w.drop m++w.take m=T at*
 have hS: ∀k,AR.j0 (k+1) g q m false=if w[m]= -w[j]then(Bp.f k g q (FN w m j w.length 0)).bind (fun bt=>some (bt.1,bt.2))else some ([],false):=fun k=>by
  rw[Pz g q hq w hrd m hm (by omega) (by omega) T t1 hTl k,hT0,hT1,hng j hjl,hrest]
 have hf: ∀k,AR.f k g q m=(AL.f k g).bind fun t=>if t=true then AR.j0 k g q m false else AR.j0 k g q m true:=fun k=>by
  unfold AR.f
  simp only[Dv,hw,decide_eq_true hp,Option.bind_some]
  simp only[z1,z2,if_true,hrd,h3,if_false,hwl,decide_eq_true hi,Bool.not_true]
 by_cases hq2:w[m]= -w[j]
 case neg=>
  refine⟨[],false,by decide,fun ho=>Bool.noConfusion ho,Ev.congr hf (Ev.bind e1 ?_),Ev.bind (hip true (decide_eq_true ⟨h,hp⟩)) ?_⟩
  ·simp only[if_true]
   exact Ev.step (fun k=>(hS k).trans (if_neg hq2)) (Ev.now _)
  ·simp only[if_true,z1,z2,hrd,EV,hwl,Option.bind_some]
   simp only[decide_eq_true hi,if_true,h3,decide_false]
   refine Ev.shift ?_
   simp only[Ac.j0,Bool.false_eq_true,if_false,z1,z2,if_true,hrd,k4,k5,k6,hj,k7,k8,CR hm,CR hjl,hng j hjl,hq2]
   exact Ev.now _
 refine⟨(DT (g.set q (FN w m j w.length 0))).1,(DT (g.set q (FN w m j w.length 0))).2,Gl _,(fun ho=>⟨h,q,hq,m,rfl,by rw[hW];omega,by rw[hW];exact hm,by rw[hW,hTT];exact(hT0.trans hq2).trans (congrArg (fun x=> -x) hT1.symm),by rw[hW,hTT,hrest];exact(Fz ho).1,(Fz ho).2⟩),Ev.congr hf (Ev.bind e1 ?_),Ev.bind (hip true (decide_eq_true ⟨h,hp⟩)) ?_⟩
 ·simp only[if_true]
  exact Ev.step (fun k=>(hS k).trans (if_pos hq2)) (Ev.bind (hwith _ (by omega)) (Ev.now _))
 ·simp only[if_true,z1,z2,hrd,EV,hwl,Option.bind_some]
  simp only[decide_eq_true hi,if_true,h3,decide_false]
  refine Ev.shift ?_
  simp only[Ac.j0,Bool.false_eq_true,if_false,z1,z2,if_true,hrd,k4,k5,k6,hj,k7,k8,CR hm,CR hjl,hng j hjl,hq2]
  refine Ev.bind hcopy ?_
  exact Rf g q hq w (by omega) m j hmv w.length 0 [] (by omega) (by simp)
theorem Lm (g:List (List Int)) (hb:bulk g<=1048576) (p i:Int): ∃(r:List (List Int)) (o:Bool),bulk r<=1048576/\Ev (fun n=>AR.f n g p i) (r,o)/\Ev (fun n=>Ac.f n g p i) (r,o):=by
 obtain⟨r,o,h1,-,h2,h3⟩:=IV g hb p i
 exact⟨r,o,h1,h2,h3⟩
def Ht (l:List Int):Nat->Nat->Nat
 |0,i=>i
 |d+1,i=>if El l i=0 then i else Ht l d (i+1)
theorem Lh {l:List Int} {i:Nat} (h:El l i=0) (d:Nat):Ht l (d+1) i=i:=by simp only[Ht,h,if_true]
theorem MC {l:List Int} {i:Nat} (h: ¬El l i=0) (d:Nat):Ht l (d+1) i=Ht l d (i+1):=by simp only[Ht,h,if_false]
theorem Uy (l:List Int): ∀(d i:Nat),i+d=9->i<=Ht l d i/\Ht l d i<=9:=by
 intro d
 induction d with
 |zero=>intro i hi;simp only[Ht];omega
 |succ d ih=>intro i hi;have:=ih (i+1) (by omega);simp only[Ht];split<;>omega
theorem Qw (l:List Int): ∀(d i:Nat),i+d=9->Ht l d i≠9->El l (Ht l d i)=0:=by
 intro d
 induction d with
 |zero=>intro i hi h;exact absurd hi h
 |succ d ih=>
  intro i hi h
  by_cases hc:El l i=0
  ·rw[Lh hc];exact hc
  ·rw[MC hc]at h⊢;exact ih (i+1) (by omega) h
theorem WB (l:List Int): ∀(d i:Nat),i+d=9->1<=i->Ev (fun k=>CA.l0 k (De l) i) (if Ht l d i=9 then 0 else(Ht l d i:Int)):=by
 intro d
 induction d with
 |zero=>
  intro i hi h1
  refine Ev.step (f:=fun _=>some (0:Int)) (fun k=>?_) ?_
  ·simp only[CA.l0,CK];rw[if_neg (by omega)]
  ·rw[show Ht l 0 i=i from rfl,if_pos (by omega)];exact Ev.now _
 |succ d ih=>
  intro i hi h1
  by_cases hc:El l i=0
  ·refine Ev.step (f:=fun _=>some (i:Int)) (fun k=>?_) ?_
   ·simp only[CA.l0,CK,EP l (show i<9 by omega)]
    rw[if_pos (by omega),if_pos (by omega),if_pos (by omega)]
   ·rw[Lh hc,if_neg (by omega)];exact Ev.now _
  ·refine Ev.step (fun k=>?_) (show Ev _ (if Ht l (d+1) i=9 then 0 else(Ht l (d+1) i:Int))from by rw[MC hc];exact ih (i+1) (by omega) (by omega))
   simp only[CA.l0,CK,EP l (show i<9 by omega)]
   rw[if_pos (by omega),if_pos (by omega),if_neg (by omega),DB (show i<9 by omega) (by omega)]
theorem Wt (l:List Int) (g:List (List Int)) (p m n:Int) (r:List (List Int)×Bool): ∀(d i:Nat),i+d=9->Ev (fun k=>AU.j2 k g p m n (Ht l d i:Nat)) r->Ev (fun k=>AU.l0 k g p m n i (De l)) r:=by
 intro d
 induction d with
 |zero=>
  intro i hi h
  refine Ev.step (fun k=>?_) h
  simp only[AU.l0,Ht]
  rw[if_neg (by omega)]
 |succ d ih=>
  intro i hi h
  by_cases hc:El l i=0
  ·rw[Lh hc]at h
   refine Ev.step (fun k=>?_) h
   simp only[AU.l0,CK,EP l (show i<9 by omega)]
   rw[if_pos (by omega),if_pos (by omega),if_pos (by omega),if_neg (by omega)]
  ·rw[MC hc]at h
   refine Ev.step (fun k=>?_) (ih (i+1) (by omega) h)
   simp only[AU.l0,CK,EP l (show i<9 by omega)]
   rw[if_pos (by omega),if_pos (by omega),if_pos (by omega),if_pos (by omega),DB (show i<9 by omega) (by omega)]
def IZ (g:List (List Int)) (q:Nat) (w:List Int) (i j:Nat) (x:Int):List (List Int):=g.set q ((w.take j).drop i++[x])++[[-x]++w.drop j++w.take i]
theorem Pv (g:List (List Int)) (q:Nat) (w:List Int) (i j:Nat) (x:Int) (h1:g.length<=100) (h2:g.flatten.length<=100) (hw:w.length<=100):(IZ g q w i j x).length<=1048576/\(IZ g q w i j x).flatten.length<=1048576:=by
 have a1:((w.take j).drop i).length<=w.length:=by rw[List.length_drop,List.length_take];omega
 have a2:(w.drop j).length<=w.length:=by rw[List.length_drop];omega
 have a3:(w.take i).length<=w.length:=by rw[List.length_take];omega
 have a4:=Im g q ((w.take j).drop i++[x])
 unfold IZ
 rw[List.flatten_append,List.length_append,List.length_append,List.length_set,List.flatten_singleton]
 simp only[List.length_append,List.length_singleton]at a4⊢
 omega
theorem UZ (g:List (List Int)) (q:Nat) (hq:q<g.length) (hg:g.length<=4) (w:List Int) (hrd:AD g (q:Int)=w) (hw:w.length<=20) (m n:Nat) (hmn:m<n) (hnw:n<w.length) (X:Nat) (hX:1<=X/\X<=9) (k:Nat) (hu:CA.f k g=some (X:Int)) (hc:Br.f k g=some g):
 Ai.j0 (k+1) g q m n false=(CL.f k (IZ g q w m n X)).bind fun bt=>some (bt.1,bt.2):=by
 have a1:((w.take n).drop m).length<=w.length:=by rw[List.length_drop,List.length_take];omega
 have a2:(w.drop n).length<=w.length:=by rw[List.length_drop];omega
 have a3:(w.take m).length<=w.length:=by rw[List.length_take];omega
 have a4:([]:List Int).length=0:=rfl
 have a5:(([]:List Int)++(w.take n).drop m).length=((w.take n).drop m).length:=by rw[List.nil_append]
 have a7:[-(X:Int)].length=1:=rfl
 have a8:([-(X:Int)]++w.drop n).length=1+(w.drop n).length:=by rw[List.length_append];rfl
 have a9:(g.set q (([]:List Int)++(w.take n).drop m++[(X:Int)])).length=g.length:=List.length_set
 have hnx:wrap64 (-(X:Int))= -(X:Int):=Fa (by omega) (by omega)
 rw[Ai.j0,if_neg Bool.false_ne_true,hu,Option.bind_some,if_neg (by omega),hc,Option.bind_some,Option.bind_some,if_pos (by omega),if_pos (by omega),if_pos (by omega),if_pos (by omega),hrd,if_pos (by omega),Int.toNat_natCast,Int.toNat_natCast,Int.toNat_natCast,if_pos (by omega),Option.bind_some,if_pos (by omega),if_pos (by omega),Option.bind_some,Option.bind_some,hnx,if_pos (by omega),if_pos (by omega),Option.bind_some,if_pos (by omega),if_pos (by omega),if_pos (by omega),List.nil_append]
 rfl
theorem Ut (g:List (List Int)) (q:Nat) (hq:q<g.length) (hg:g.length<=4) (w:List Int) (hrd:AD g (q:Int)=w) (hw:w.length<=20) (m n:Nat) (hmn:m<n) (hnw:n<w.length) (X:Nat) (hX:1<=X/\X<=9) (h9:X≠9) (k:Nat) (hc:Aw.f k g=some g):
 AU.j2 (k+1) g q m n X=(BX.f k (IZ g q w m n X)).bind fun bt=>some (bt.1,bt.2):=by
 have a1:((w.take n).drop m).length<=w.length:=by rw[List.length_drop,List.length_take];omega
 have a2:(w.drop n).length<=w.length:=by rw[List.length_drop];omega
 have a3:(w.take m).length<=w.length:=by rw[List.length_take];omega
 have a7:[-(X:Int)].length=1:=rfl
 have a8:([-(X:Int)]++w.drop n).length=1+(w.drop n).length:=by rw[List.length_append];rfl
 have a9:(g.set q ((w.take n).drop m++[(X:Int)])).length=g.length:=List.length_set
 have hnx:wrap64 (-(X:Int))= -(X:Int):=Fa (by omega) (by omega)
 rw[AU.j2,if_neg (by omega),hc,Option.bind_some,if_pos (by omega),if_pos (by omega),if_pos (by omega),if_pos (by omega),hrd,if_pos (by omega),Int.toNat_natCast,Int.toNat_natCast,Int.toNat_natCast,Fi _ (by omega),Option.bind_some,if_pos (by omega),if_pos (by omega),Option.bind_some,Option.bind_some,hnx,if_pos (by omega),if_pos (by omega),Option.bind_some,if_pos (by omega),if_pos (by omega),if_pos (by omega)]
 rfl
theorem TS {α β:Type} {f g:Nat->Option α} {h:Nat->Option β} {b:β} {a:α} (hb:Ev h b) (e: ∀k,h k=some b->f k=g k) (hg:Ev g a):Ev f a:=by
 obtain⟨K,hK⟩:=hb
 obtain⟨K',hK'⟩:=hg
 exact⟨K+K',fun k hk=>(e k (hK k (by omega))).trans (hK' k (by omega))⟩
theorem Lg (g:List (List Int)) (hb:bulk g<=1048576) (p i j:Int): ∃(r:List (List Int)) (o:Bool),bulk r<=1048576/\(o=true->BZ g/\∃q,∃hq:q<g.length,∃m n X:Nat,p=(q:Int)/\i=(m:Int)/\j=(n:Int)/\m<n/\n<g[q].length/\1<=X/\X<=8/\El g.flatten X=0/\r=IZ g q g[q] m n X/\BZ r)/\Ev (fun n=>Ai.f n g p i j) (r,o)/\Ev (fun n=>AU.f n g p i j) (r,o):=by
 obtain⟨hl1,hl2⟩:=Ew hb
 obtain⟨c1,c2⟩:=Fh g hb
 have e1:=DG g hl1 hl2
 have e2:=Dz g hl1 hl2
 have hno:Ev (fun n=>Ai.j0 n g p i j true) (([]:List (List Int)),false):=by
  refine Ev.shift ?_;simp only[Ai.j0,if_true];exact Ev.now _
 have hno2:Ev (fun n=>AU.j0 n g p i j true) (([]:List (List Int)),false):=by
  refine Ev.shift ?_;simp only[AU.j0,if_true];exact Ev.now _
 have hw:wrap64 ((g.length:Int)-1)=(g.length:Int)-1:=Fa (by omega) (by omega)
 have hip: ∀c:Bool,decide (BZ g/\(0<=p/\p<=(g.length:Int)-1))=c->Ev (fun n=>Ap.f n g p) c:=by
  intro c hc
  unfold Ap.f
  refine Ev.bind e2 ?_
  by_cases h:BZ g
  ·rw[decide_eq_true h]
   simp only[if_true,EV,hw,Option.bind_some]
   simp only[h,true_and]at hc
   rw[hc];exact Ev.now _
  ·rw[decide_eq_false h]
   simp only[h,false_and,decide_false]at hc
   subst hc
   exact Ev.now _
 by_cases h:BZ g
 case neg=>
  rw[decide_eq_false h]at e1
  refine⟨[],false,by decide,fun ho=>Bool.noConfusion ho,Ev.bind e1 ?_,Ev.bind (hip false (by simp[h])) ?_⟩
  ·simpa using hno
  ·simpa using hno2
 rw[decide_eq_true h]at e1
 by_cases hp:0<=p/\p<=(g.length:Int)-1
 case neg=>
  refine⟨[],false,by decide,fun ho=>Bool.noConfusion ho,Ev.bind e1 ?_,Ev.bind (hip false (by simp only[h,true_and];exact decide_eq_false hp)) ?_⟩
  ·simp only[if_true,Dv,hw,decide_eq_false hp,Option.bind_some,Bool.false_eq_true,if_false]
   exact hno
  ·simpa using hno2
 obtain⟨q,rfl⟩:=Int.eq_ofNat_of_zero_le hp.1
 have hq:q<g.length:=by omega
 have h20:=h.2.2.1
 have h4:=h.1.2
 have hx20:g[q].length<=20:=by have:=EN (List.getElem_mem hq);rw[FV]at h20;omega
 have z1:(0:Int)<=(q:Int):=by omega
 have z2:(q:Int)<(g.length:Int):=by omega
 have hu1:=Jp g hl1 h.let hl2
 have hu2:=OS g hl1 h.let hl2
 generalize hW:g[q]=w at*
 have hrd:AD g (q:Int)=w:=by rw[Cp hq,hW]
 have hwl:wrap64 ((w.length:Int)-1)=(w.length:Int)-1:=Fa (by omega) (by omega)
 have hS: ∀k,Ai.f k g q i j=(AL.f k g).bind fun t=>if t=true then(if 0<=j/\j<=(w.length:Int)-1 then Ai.j0 k g q i j (!decide (0<=i/\i<=j-1))else Ai.j0 k g q i j true)else Ai.j0 k g q i j true:=fun k=>by
  unfold Ai.f
  congr 1
  funext t
  cases t
  ·rw[if_neg Bool.false_ne_true,if_neg Bool.false_ne_true]
  rw[if_pos rfl,if_pos rfl,Dv,Option.bind_some,hw,decide_eq_true hp,if_pos rfl,if_pos z1,if_pos z2,hrd,hwl,Dv,Option.bind_some]
  by_cases hj:0<=j/\j<=(w.length:Int)-1
  ·rw[decide_eq_true hj,if_pos hj,if_pos rfl,Fa (by omega) (by omega),Dv,Option.bind_some]
  ·rw[decide_eq_false hj,if_neg hj,if_neg Bool.false_ne_true]
 have hI: ∀k,AU.f k g q i j=(Ap.f k g q).bind fun t=>if t=true then(if 0<=i/\i<j then AU.j0 k g q i j (decide (j>=(w.length:Int)))else AU.j0 k g q i j true)else AU.j0 k g q i j true:=fun k=>by
  unfold AU.f
  simp only[z1,z2,if_true,hrd]
  congr 1
  funext t
  cases t
  ·rfl
  simp only[if_true]
  by_cases hi:0<=i/\i<j
  ·rw[if_neg (by omega),if_neg (by omega),if_pos hi]
  ·rw[if_neg hi]
   by_cases hi0:i<0
   ·rw[if_pos hi0]
   ·rw[if_neg hi0,if_pos (by omega)]
 by_cases hij:(0<=i/\i<j)/\j<(w.length:Int)
 case neg=>
  refine⟨[],false,by decide,fun ho=>Bool.noConfusion ho,Ev.congr hS (Ev.bind e1 ?_),Ev.congr hI (Ev.bind (hip true (decide_eq_true ⟨h,hp⟩)) ?_)⟩
  ·simp only[if_true]
   by_cases hj:0<=j/\j<=(w.length:Int)-1
   ·simp only[if_pos hj]
    rw[decide_eq_false (show¬(0<=i/\i<=j-1)from fun hx=>hij (by omega))]
    exact hno
   ·simp only[if_neg hj];exact hno
  ·simp only[if_true]
   by_cases hi:0<=i/\i<j
   ·simp only[if_pos hi]
    rw[decide_eq_true (show j>=(w.length:Int) by omega)]
    exact hno2
   ·simp only[if_neg hi];exact hno2
 obtain⟨m,rfl⟩:=Int.eq_ofNat_of_zero_le hij.1.1
 obtain⟨n,rfl⟩:=Int.eq_ofNat_of_zero_le (show 0<=j by omega)
 have hmn:m<n:=by omega
 have hnw:n<w.length:=by omega
 have hX:=Uy g.flatten 8 1 rfl
 have hUS:=WB g.flatten 8 1 rfl (by omega)
 have hUI:=fun r=>Wt g.flatten g q m n r 8 1 rfl
 have hX0:=Qw g.flatten 8 1 rfl
 generalize Ht g.flatten 8 1=X at*
 have hSf: ∀k,Ai.f k g q m n=(AL.f k g).bind fun t=>if t=true then Ai.j0 k g q m n false else Ai.j0 k g q m n true:=fun k=>by
  rw[hS k,if_pos (by omega),decide_eq_true (show(0:Int)<=m/\(m:Int)<=n-1 by omega)];rfl
 have hIf: ∀k,AU.f k g q m n=(Ap.f k g q).bind fun t=>if t=true then AU.j0 k g q m n false else AU.j0 k g q m n true:=fun k=>by
  rw[hI k,if_pos (by omega),decide_eq_false (show¬(n:Int)>=(w.length:Int) by omega)]
 have hR:bulk (if X=9 then(([]:List (List Int)),false)else DT (IZ g q w m n X)).1<=1048576:=by
  by_cases h9:X=9
  ·rw[if_pos h9];decide
  ·rw[if_neg h9];exact Gl _
 obtain⟨s1,s2⟩:=Pv g q w m n X (by omega) (by omega) (by omega)
 refine⟨(if X=9 then(([]:List (List Int)),false)else DT (IZ g q w m n X)).1,(if X=9 then(([]:List (List Int)),false)else DT (IZ g q w m n X)).2,hR,(fun ho=>by
  by_cases h9:X=9
  ·rw[if_pos h9]at ho;cases ho
  ·rw[if_neg h9]at ho⊢
   exact⟨h,q,hq,m,n,X,rfl,rfl,rfl,hmn,by rw[hW];exact hnw,by omega,by omega,hX0 h9,by rw[hW];exact(Fz ho).1,(Fz ho).2⟩),Ev.congr hSf (Ev.bind e1 ?_),Ev.congr hIf (Ev.bind (hip true (decide_eq_true ⟨h,hp⟩)) ?_)⟩
 ·simp only[if_true]
  have hU:Ev (fun k=>CA.f k g) (if X=9 then 0 else(X:Int)):=by unfold CA.f;exact Ev.bind hu1 hUS
  refine Ev.shift ?_
  by_cases h9:X=9
  ·rw[if_pos h9]at hU⊢
   refine TS (g:=fun _=>some (([]:List (List Int)),false)) hU (fun k hk=>?_) (Ev.now _)
   rw[Ai.j0,if_neg Bool.false_ne_true,hk,Option.bind_some,if_pos rfl]
  ·rw[if_neg h9]at hU⊢
   exact(TS (h:=fun k=>(CA.f k g).bind fun a=>(Br.f k g).bind fun b=>some (a,b)) (b:=((X:Int),g)) (Ev.bind hU (Ev.bind c1 (Ev.now _))) (fun k hk=>by
    obtain⟨a,ha,hk⟩:=Option.bind_eq_some_iff.1 hk
    obtain⟨b,hb,hk⟩:=Option.bind_eq_some_iff.1 hk
    simp only[Option.some.injEq,Prod.mk.injEq]at hk
    rw[hk.1]at ha
    rw[hk.2]at hb
    exact UZ g q hq (by omega) w hrd hx20 m n hmn hnw X hX k ha hb) (Ev.bind (Io _ s1 s2) (Ev.now _)))
 ·simp only[if_true]
  refine Ev.shift ?_
  simp only[AU.j0,Bool.false_eq_true,if_false]
  refine Ev.bind hu2 (hUI _ (Ev.shift ?_))
  by_cases h9:X=9
  ·rw[if_pos h9]
   refine Ev.congr (fun k=>?_) (Ev.now _)
   rw[AU.j2,if_pos (by omega)]
  ·rw[if_neg h9]
   exact TS c2 (fun k hk=>Ut g q hq (by omega) w hrd hx20 m n hmn hnw X hX h9 k hk) (Ev.bind (Ge _ s1 s2) (Ev.now _))
theorem BZ.map {g:List (List Int)} (h:BZ g) (f:Int->Int) (hf: ∀z,Di z->Di (f z)) (s:Nat->Nat) (hs: ∀y,y<9->s y<9) (hc: ∀z,Di z->∀y,y<9->((f z).natAbs=y↔z.natAbs=s y)):BZ (g.map (List.map f)):=by
 have hlet:=h.let
 refine⟨by rw[List.length_map];exact h.1,fun p hp=>?_,?_,fun y hy=>?_⟩
 ·obtain⟨q,hq,rfl⟩:=List.mem_map.1 hp
  obtain⟨h1,h2⟩:=h.2.1 q hq
  refine⟨fun e=>h1 (List.map_eq_nil_iff.1 e),fun x hx=>?_,by rw[List.length_map];exact h2.2⟩
  obtain⟨z,hz,rfl⟩:=List.mem_map.1 hx
  exact hf z (h2.1 z hz)
 ·rw[<-List.map_flatten,List.length_map]
  exact h.2.2.1
 ·rw[<-List.map_flatten]
  have e:El (g.flatten.map f) y=El g.flatten (s y):=by
   unfold El
   rw[List.countP_map]
   refine List.countP_congr fun x hx=>?_
   obtain⟨p,hp,hxp⟩:=List.mem_flatten.1 hx
   have:=hc x (hlet p hp x hxp) y hy
   simp only[Function.comp_apply,beq_iff_eq]
   exact this
  rw[e]
  exact h.2.2.2 _ (hs y hy)
theorem BZ.QL {g:List (List Int)} (h:BZ g):Jy g:=by
 refine⟨by have:=h.1.2;omega,fun row hr=>⟨by have:=(h.2.1 row hr).2.2;omega,fun x hx=>?_⟩⟩
 have:=h.let row hr x hx
 unfold Di at this
 omega
theorem OO (g:List (List Int)) (f:Int->Int):bulk (g.map (List.map f))=bulk g:=by
 unfold bulk
 rw[List.length_map,List.map_map]
 congr 2
 refine List.map_congr_left fun x _=>?_
 simp
theorem WK {x y:Int} (hx:1<=x/\x<=8) (hy:1<=y/\y<=8) (z:Int) (hz:Di z):Di (CU (LF x y) z):=by
 unfold Di at*
 unfold CU LF
 repeat' split
 all_goals omega
theorem XF {x y:Int} (hx:1<=x/\x<=8) (hy:1<=y/\y<=8) (z:Int) (hz:Di z) (u:Nat) (_hu:u<9):(CU (LF x y) z).natAbs=u↔z.natAbs=(if u=x.toNat then y.toNat else if u=y.toNat then x.toNat else u):=by
 unfold Di at hz
 unfold CU LF
 repeat' split
 all_goals omega
theorem LJ (g:List (List Int)) (hbl:bulk g<=1048576) (x y:Int): ∃(r:List (List Int)) (o:Bool),bulk r<=1048576/\(o=true->BZ g/\(1<=x/\x<=8)/\(1<=y/\y<=8)/\r=g.map (List.map (CU (LF x y)))/\BZ r)/\Ev (fun k=>EL.f k g x y) (r,o)/\Ev (fun k=>EI.f k g x y) (r,o):=by
 obtain⟨hl1,hl2⟩:=Ew hbl
 have e1:=DG g hl1 hl2
 have e2:=Dz g hl1 hl2
 obtain⟨c1,c2⟩:=Fh g hbl
 unfold EL.f EZ.f EI.f
 by_cases h:BZ g
 case neg=>
  rw[decide_eq_false h]at e1 e2
  exact⟨[],false,by unfold bulk;simp,fun ho=>Bool.noConfusion ho,Ev.bind e1 (Ev.congr (fun k=>if_neg Bool.false_ne_true) (Ev.now _)),Ev.bind e2 (Ev.congr (fun k=>if_neg Bool.false_ne_true) (Ev.now _))⟩
 rw[decide_eq_true h]at e1 e2
 by_cases hx:1<=x/\x<=8
 case neg=>exact⟨[],false,by unfold bulk;simp,fun ho=>Bool.noConfusion ho,Ev.bind e1 (Ev.congr (fun k=>(if_pos rfl).trans (if_neg hx)) (Ev.now _)),Ev.bind e2 (Ev.congr (fun k=>(if_pos rfl).trans (if_neg hx)) (Ev.now _))⟩
 by_cases hy:1<=y/\y<=8
 case neg=>exact⟨[],false,by unfold bulk;simp,fun ho=>Bool.noConfusion ho,Ev.bind e1 (Ev.congr (fun k=>(if_pos rfl).trans ((if_pos hx).trans (if_neg hy))) (Ev.now _)),Ev.bind e2 (Ev.congr (fun k=>(if_pos rfl).trans ((if_pos hx).trans (if_neg hy))) (Ev.now _))⟩
 have hG:BZ (g.map (List.map (CU (LF x y)))):=h.map _ (WK hx hy) (fun u=>if u=x.toNat then y.toNat else if u=y.toNat then x.toNat else u) (fun u hu=>by
  show(if u=x.toNat then y.toNat else if u=y.toNat then x.toNat else u)<9
  repeat' split
  all_goals omega) (XF hx hy)
 have hB:=OO g (CU (LF x y))
 obtain⟨f1,f2⟩:=Ew (g:=g.map (List.map (CU (LF x y)))) (by omega)
 have hM:=Ge _ f1 f2
 rw[show DT (g.map (List.map (CU (LF x y))))=(g.map (List.map (CU (LF x y))),true)from if_pos hG]at hM
 refine⟨g.map (List.map (CU (LF x y))),true,by omega,fun _=>⟨h,hx,hy,rfl,hG⟩,Ev.bind e1 ?_,Ev.bind e2 ?_⟩
 ·refine Ev.congr (fun k=>(if_pos rfl).trans ((if_pos hx).trans (if_pos hy))) (Ev.bind c1 ?_)
  exact Ev.congr (fun k=>if_pos ⟨rfl,h.QL,by omega,by omega⟩) (Ev.now _)
 ·refine Ev.congr (fun k=>(if_pos rfl).trans ((if_pos hx).trans (if_pos hy))) (Ev.bind c2 ?_)
  exact Ev.congr (fun k=>if_pos h.QL) hM
theorem WR {x:Int} (hx:1<=x/\x<=8) (z:Int) (hz:Di z):Di (CU (LX x) z):=by
 unfold Di at*
 unfold CU LX
 repeat' split
 all_goals omega
theorem XA {x:Int} (z:Int) (u:Nat):(CU (LX x) z).natAbs=u↔z.natAbs=u:=by
 unfold CU LX
 repeat' split
 all_goals omega
theorem WQ {x:Int}:Gs x (-x) x (-x)=LX x:=by
 funext z
 unfold Gs LX
 repeat' split
 all_goals omega
theorem KI (g:List (List Int)) (hbl:bulk g<=1048576) (x:Int): ∃(r:List (List Int)) (o:Bool),bulk r<=1048576/\(o=true->BZ g/\(1<=x/\x<=8)/\r=g.map (List.map (CU (LX x)))/\BZ r)/\Ev (fun k=>DQ.f k g x) (r,o)/\Ev (fun k=>Dq.f k g x) (r,o):=by
 obtain⟨hl1,hl2⟩:=Ew hbl
 have e1:=DG g hl1 hl2
 have e2:=Dz g hl1 hl2
 obtain⟨c1,c2⟩:=Fh g hbl
 unfold DQ.f Dq.f
 by_cases hx:1<=x/\x<=8
 case neg=>
  refine⟨[],false,by unfold bulk;simp,fun ho=>Bool.noConfusion ho,Ev.congr (fun k=>if_neg hx) (Ev.now _),?_⟩
  by_cases h:BZ g
  ·rw[decide_eq_true h]at e2
   exact Ev.bind e2 (Ev.congr (fun k=>(if_pos rfl).trans (if_neg hx)) (Ev.now _))
  ·rw[decide_eq_false h]at e2
   exact Ev.bind e2 (Ev.congr (fun k=>if_neg Bool.false_ne_true) (Ev.now _))
 by_cases h:BZ g
 case neg=>
  rw[decide_eq_false h]at e1 e2
  refine⟨[],false,by unfold bulk;simp,fun ho=>Bool.noConfusion ho,Ev.congr (fun k=>if_pos hx) ?_,Ev.bind e2 (Ev.congr (fun k=>if_neg Bool.false_ne_true) (Ev.now _))⟩
  unfold EZ.f
  exact Ev.bind e1 (Ev.congr (fun k=>if_neg Bool.false_ne_true) (Ev.now _))
 rw[decide_eq_true h]at e1 e2
 have hG:BZ (g.map (List.map (CU (LX x)))):=h.map _ (WR hx) (fun u=>u) (fun u hu=>hu) (fun z _ u _=>XA z u)
 have hB:=OO g (CU (LX x))
 obtain⟨f1,f2⟩:=Ew (g:=g.map (List.map (CU (LX x)))) (by omega)
 have hM:=Ge _ f1 f2
 rw[show DT (g.map (List.map (CU (LX x))))=(g.map (List.map (CU (LX x))),true)from if_pos hG]at hM
 refine⟨g.map (List.map (CU (LX x))),true,by omega,fun _=>⟨h,hx,rfl,hG⟩,Ev.congr (fun k=>if_pos hx) ?_,Ev.bind e2 ?_⟩
 ·unfold EZ.f
  refine Ev.bind e1 (Ev.congr (fun k=>(if_pos rfl).trans ((if_pos hx).trans (if_pos hx))) (Ev.bind c1 ?_))
  rw[WQ]
  exact Ev.congr (fun k=>if_pos ⟨rfl,h.QL,by omega,by omega⟩) (Ev.now _)
 ·refine Ev.congr (fun k=>(if_pos rfl).trans (if_pos hx)) (Ev.bind c2 ?_)
  exact Ev.congr (fun k=>if_pos h.QL) hM
theorem RQ {g:List (List Int)} (h:BZ g) {q:Nat} (hq:q<g.length) (k:Int) (hr:BZ (g.set q (Dx g[q] k))):Joi.CJ g (g.set q (Dx g[q] k)):=by
 refine Joi.PH hq h.nz hr.nz fun r hz=>?_
 have hne: ¬g[q].length=0:=fun e=>(h.2.1 _ (List.getElem_mem hq)).1 (List.length_eq_zero_iff.1 e)
 unfold Dx
 rw[if_neg hne]
 have:=Joi.GB (g[q].take (k % (g[q].length:Int)).toNat) (g[q].drop (k % (g[q].length:Int)).toNat) r (by rw[List.take_append_drop];exact hz)
 rwa[List.take_append_drop]at this
theorem OY {g:List (List Int)} (h:BZ g) {q:Nat} (hq:q<g.length) (hr:BZ (g.set q (GN g[q]))):Joi.CJ g (g.set q (GN g[q])):=
 Joi.PH hq h.nz hr.nz fun r hz=>Joi.Ky g[q] r hz
theorem VS {x y:Int} (hx:1<=x/\x<=8) (hy:1<=y/\y<=8):Joi.Gt (CU (LF x y)):=by
 refine⟨fun z=>?_,fun z=>?_⟩
 ·unfold CU LF
  repeat' split
  all_goals omega
 ·unfold CU LF
  repeat' split
  all_goals omega
theorem Ur {x:Int} (hx:1<=x/\x<=8):Joi.Gt (CU (LX x)):=by
 refine⟨fun z=>?_,fun z=>?_⟩
 ·unfold CU LX
  repeat' split
  all_goals omega
 ·unfold CU LX
  repeat' split
  all_goals omega
theorem OQ (w:List Int) {m n:Nat} (hmn:m<n) (hn:n<w.length):(w.take n).drop m++(w.drop n++w.take m)=w.drop m++w.take m:=by
 have e:w.drop m=(w.take n).drop m++w.drop n:=by
  conv=>lhs;rw[<-List.take_append_drop n w]
  rw[List.drop_append_of_le_length (by rw[List.length_take];omega)]
 rw[e,List.append_assoc]
theorem JI (g:List (List Int)) (q:Nat) (w:List Int) (m n:Nat) (X:Int):IZ g q w m n X=g.set q ((w.take n).drop m++[X])++[-X::(w.drop n++w.take m)]:=rfl
theorem TF {g:List (List Int)} (h:BZ g) {q:Nat} (hq:q<g.length) {m n X:Nat} (hmn:m<n) (hn:n<g[q].length) (hX:1<=X) (h0:El g.flatten X=0):Joi.CJ g (IZ g q g[q] m n X):=by
 rw[JI]
 refine Joi.SK hq (a:=g[q].take m) (b:=g[q].drop m) (by omega) (List.take_append_drop _ _).symm (OQ g[q] hmn hn) h.nz fun w hw x hx e=>?_
 unfold El at h0
 rw[List.countP_eq_zero]at h0
 have:=h0 x (List.mem_flatten.2 ⟨w,hw,hx⟩)
 simp only[beq_iff_eq]at this
 omega
theorem PC {g:List (List Int)} (h:BZ g) {q:Nat} (hq:q<g.length) {m:Nat} (h3:3<=g[q].length) (hm:m<g[q].length) (he:(g[q].drop m++g[q].take m).getD 0 0= -((g[q].drop m++g[q].take m).getD 1 0))
 (hr:BZ (g.set q (if m+1<g[q].length then g[q].take m++g[q].drop (m+2)else(g[q].drop m++g[q].take m).drop 2))):Joi.CJ g (g.set q (if m+1<g[q].length then g[q].take m++g[q].drop (m+2)else(g[q].drop m++g[q].take m).drop 2)):=by
 have hT: ∀T:List Int,2<=T.length->T=T.getD 0 0::T.getD 1 0::T.drop 2:=by
  intro T hT
  match T,hT with
  |a::b::t,_=>rfl
 have hl:(g[q].drop m++g[q].take m).length=g[q].length:=by rw[List.length_append,List.length_drop,List.length_take];omega
 have e1:=hT (g[q].drop m++g[q].take m) (by omega)
 have e2:(g[q].drop m++g[q].take m).getD 1 0= -((g[q].drop m++g[q].take m).getD 0 0):=by omega
 rw[e2]at e1
 by_cases c:m+1<g[q].length
 ·rw[if_pos c]at hr⊢
  have e3:(g[q].drop m++g[q].take m).drop 2=g[q].drop (m+2)++g[q].take m:=by
   rw[List.drop_append_of_le_length (by rw[List.length_drop];omega),List.drop_drop]
  rw[e3]at e1
  exact Joi.JQ hq (a:=g[q].take m) (b:=g[q].drop m) (List.take_append_drop _ _).symm e1 h.nz h.SC hr.nz
 ·rw[if_neg c]at hr⊢
  have k:=Joi.JQ hq (a:=g[q].take m) (b:=g[q].drop m) (c:=(g[q].drop m++g[q].take m).drop 2) (d:=[]) (List.take_append_drop _ _).symm (by rw[List.nil_append];exact e1) h.nz h.SC (by rw[List.append_nil];exact hr.nz)
  rwa[List.append_nil]at k
theorem OC (l:List Int) (hl:l.length<=1048576) (g:List (List Int)) (hg:g.length<=14) (i h:Int) (hi:0<=i): ∃(u i1 g1:Int) (o:Bool) (i2 g2:Int),Ad.f l i h (wrap64 ((g.length:Int)+1))=some (u,i1,g1)/\CH.f l i1 g1 14=some (o,i2,g2)/\0<=i2:=by
 obtain⟨u,i1,g1,e1,_,_,a3⟩:=EY l hl i h ((g.length:Int)+1) hi (by omega) (by omega)
 obtain⟨o,i2,g2,e2,b3⟩:=LS l hl i1 g1 14 a3 (by omega) (by omega)
 exact⟨u,i1,g1,o,i2,g2,by rw[Fa (by omega) (by omega)];exact e1,e2,b3⟩
theorem PS (l:List Int) (hl:l.length<=1048576): ∃(g:List (List Int)) (a b c:Int),Ev (fun k=>DM.f k l) (g,a,b,c)/\bulk g<=100:=by
 obtain⟨h,hn⟩:=Ia l hl
 obtain⟨g,i,q,hE,q1,q2,q3⟩:=Fe l hl 0 h (by omega)
 obtain⟨u,i1,g1,o,i2,g2,e1,e2,b3⟩:=OC l hl g q1 i q q3
 obtain⟨v,i3,g3,e3,_,_,c3⟩:=EY l hl i2 g2 4 b3 (by omega) (by omega)
 obtain⟨w,i4,g4,e4,_,_,d3⟩:=EY l hl i3 g3 6 c3 (by omega) (by omega)
 refine⟨g,wrap64 (u-(if o=true then 1 else 0)),v,wrap64 (1+w),?_,by unfold bulk;omega⟩
 unfold DM.f
 refine Ev.bind hn (Ev.bind hE ?_)
 refine Ev.congr (f:=fun _=>some (g,wrap64 (u-(if o=true then 1 else 0)),v,wrap64 (1+w))) (fun k=>?_) (Ev.now _)
 dsimp only
 rw[e1,Option.bind_some]
 dsimp only
 rw[e2,Option.bind_some]
 dsimp only
 rw[Ib,Option.bind_some,e3,Option.bind_some]
 dsimp only
 rw[e4,Option.bind_some]
theorem OT (l:List Int) (hl:l.length<=1048576): ∃(g:List (List Int)) (a b:Int),Ev (fun k=>DE.f k l) (g,a,b)/\bulk g<=100:=by
 obtain⟨h,hn⟩:=Ia l hl
 obtain⟨g,i,q,hE,q1,q2,q3⟩:=Fe l hl 0 h (by omega)
 obtain⟨u,i1,g1,o,i2,g2,e1,e2,b3⟩:=OC l hl g q1 i q q3
 obtain⟨s,i4,g4,e4,_,d3⟩:=Ga l hl i2 g2 b3 [0,1,2,-1,9] (by decide) (by decide)
 refine⟨g,wrap64 (u-(if o=true then 1 else 0)),s,?_,by unfold bulk;omega⟩
 unfold DE.f
 refine Ev.bind hn (Ev.bind hE ?_)
 refine Ev.congr (f:=fun _=>some (g,wrap64 (u-(if o=true then 1 else 0)),s)) (fun k=>?_) (Ev.now _)
 dsimp only
 rw[e1,Option.bind_some]
 dsimp only
 rw[e2,Option.bind_some]
 dsimp only
 rw[Ib,Option.bind_some,e4,Option.bind_some]
theorem Me (l:List Int) (hl:l.length<=1048576): ∃(g:List (List Int)) (a:Int),Ev (fun k=>Cr.f k l) (g,a)/\bulk g<=100:=by
 obtain⟨h,hn⟩:=Ia l hl
 obtain⟨g,i,q,hE,q1,q2,q3⟩:=Fe l hl 0 h (by omega)
 obtain⟨u,i1,g1,o,i2,g2,e1,e2,b3⟩:=OC l hl g q1 i q q3
 refine⟨g,wrap64 (u-(if o=true then 1 else 0)),?_,by unfold bulk;omega⟩
 unfold Cr.f
 refine Ev.bind hn (Ev.bind hE ?_)
 refine Ev.congr (f:=fun _=>some (g,wrap64 (u-(if o=true then 1 else 0)))) (fun k=>?_) (Ev.now _)
 dsimp only
 rw[e1,Option.bind_some]
 dsimp only
 rw[e2,Option.bind_some]
 dsimp only
 rw[Ib,Option.bind_some]
theorem OK (l:List Int) (hl:l.length<=1048576): ∃(g:List (List Int)) (a b:Int),Ev (fun k=>DC.f k l) (g,a,b)/\bulk g<=100:=by
 obtain⟨h,hn⟩:=Ia l hl
 obtain⟨g,i,q,hE,q1,q2,q3⟩:=Fe l hl 0 h (by omega)
 obtain⟨v,i3,g3,e3,_,_,c3⟩:=EY l hl i q 8 q3 (by omega) (by omega)
 obtain⟨s,i4,g4,e4,_,d3⟩:=Ga l hl i3 g3 c3 [1,2,3,8,0,9] (by decide) (by decide)
 refine⟨g,wrap64 (1+v),s,?_,by unfold bulk;omega⟩
 unfold DC.f
 refine Ev.bind hn (Ev.bind hE ?_)
 refine Ev.congr (f:=fun _=>some (g,wrap64 (1+v),s)) (fun k=>?_) (Ev.now _)
 dsimp only
 rw[e3,Option.bind_some]
 dsimp only
 rw[e4,Option.bind_some]
theorem Lc (l:List Int) (hl:l.length<=1048576): ∃(g:List (List Int)) (a:Int),Ev (fun k=>Ct.f k l) (g,a)/\bulk g<=100:=by
 obtain⟨h,hn⟩:=Ia l hl
 obtain⟨g,i,q,hE,q1,q2,q3⟩:=Fe l hl 0 h (by omega)
 obtain⟨s,i4,g4,e4,_,d3⟩:=Ga l hl i q q3 [1,2,3,4,8,0,9] (by decide) (by decide)
 refine⟨g,s,?_,by unfold bulk;omega⟩
 unfold Ct.f
 refine Ev.bind hn (Ev.bind hE ?_)
 refine Ev.congr (f:=fun _=>some (g,s)) (fun k=>?_) (Ev.now _)
 dsimp only
 rw[e4,Option.bind_some]
theorem Ps (l:List Int) (hl:l.length<=1048576): ∃g:List (List Int),Ev (fun k=>DK.f k l) g/\bulk g<=100:=by
 obtain⟨h,hn⟩:=Ia l hl
 obtain⟨g,i,q,hE,q1,q2,q3⟩:=Fe l hl 0 h (by omega)
 refine⟨g,?_,by unfold bulk;omega⟩
 unfold DK.f
 exact Ev.bind hn (Ev.bind hE (Ev.now _))
theorem Pk (l:List Int) (hl:l.length<=1048576) (g:List (List Int)) (hg:bulk g<=1048576): ∀(d x:Nat) (i h:Int),x+d=9->0<=i->∃y:Int,Ev (fun k=>BF.l0 k g x l i h) (g,y):=by
 intro d
 induction d with
 |zero=>
  intro x i h hx hi
  obtain⟨v,i3,g3,e3,_,_,c3⟩:=EY l hl i h 10 hi (by omega) (by omega)
  refine⟨v,Ev.step (f:=fun _=>some (g,v)) (fun k=>?_) (Ev.now _)⟩
  simp only[BF.l0]
  rw[if_neg (by omega),e3,Option.bind_some]
 |succ d ih=>
  intro x i h hx hi
  obtain⟨R,_,_,r3,_⟩:=GC g hg x
  have hx8:(x:Int)<=8:=by omega
  by_cases hR:R.2=true
  ·obtain⟨o,i2,g2,e2,b3⟩:=LS l hl i h 2 hi (by omega) (by omega)
   by_cases ho:o=true
   ·refine⟨x,Ev.shift ?_⟩
    simp only[BF.l0]
    refine Ev.pos hx8 (Ev.bind r3 (Ev.pos hR ?_))
    rw[e2]
    exact Ev.Hm (Ev.pos ho (Ev.now _))
   ·obtain⟨y,hy⟩:=ih (x+1) i2 g2 (by omega) b3
    refine⟨y,Ev.shift ?_⟩
    simp only[BF.l0]
    refine Ev.pos hx8 (Ev.bind r3 (Ev.pos hR ?_))
    rw[e2]
    refine Ev.Hm (Ev.neg ho ?_)
    rw[DB (n:=9) (by omega) (by omega)]
    exact hy
  ·obtain⟨y,hy⟩:=ih (x+1) i h (by omega) hi
   refine⟨y,Ev.shift ?_⟩
   simp only[BF.l0]
   refine Ev.pos hx8 (Ev.bind r3 (Ev.neg hR ?_))
   rw[DB (n:=9) (by omega) (by omega)]
   exact hy
theorem Oo (l:List Int) (hl:l.length<=1048576): ∃(g:List (List Int)) (a:Int),Ev (fun k=>BF.f k l) (g,a)/\bulk g<=100:=by
 obtain⟨h,hn⟩:=Ia l hl
 obtain⟨g,i,q,hE,q1,q2,q3⟩:=Fe l hl 0 h (by omega)
 obtain⟨y,hy⟩:=Pk l hl g (by unfold bulk;omega) 8 1 i q rfl q3
 refine⟨g,y,?_,by unfold bulk;omega⟩
 unfold BF.f
 exact Ev.bind hn (Ev.bind hE hy)
theorem Nr (l:List Int) (hl:l.length<=1048576) (g:List (List Int)) (hg:bulk g<=1048576) (p:Nat) (hp:p<g.length) (hnext: ∀i h:Int,0<=i->∃a b:Int,Ev (fun k=>AZ.l0 k g ((p+1:Nat):Int) l i h) (g,a,b)):
 ∀(d j:Nat) (i h:Int),j+d=g[p].length->0<=i->∃a b:Int,Ev (fun k=>AZ.l1 k g p j l i h) (g,a,b):=by
 have hlen:g[p].length<=1048576:=by have:=EN (List.getElem_mem hp);unfold bulk at hg;omega
 have hgl:g.length<=1048576:=by unfold bulk at hg;omega
 have z1:(0:Int)<=(p:Int):=by omega
 have z2:(p:Int)<(g.length:Int):=by omega
 intro d
 induction d with
 |zero=>
  intro j i h hj hi
  obtain⟨a,b,hab⟩:=hnext i h hi
  refine⟨a,b,Ev.shift ?_⟩
  simp only[AZ.l1,Cp hp]
  refine Ev.pos z1 (Ev.pos z2 (Ev.neg (by omega) ?_))
  rw[DB (n:=g.length) hp (by omega)]
  exact hab
 |succ d ih=>
  intro j i h hj hi
  obtain⟨r,o,_,r3,_⟩:=Lm g hg p j
  have hjl:(j:Int)<(g[p].length:Int):=by omega
  cases o with
  |true=>
   obtain⟨o2,i2,g2,e2,b3⟩:=LS l hl i h 2 hi (by omega) (by omega)
   by_cases ho:o2=true
   ·refine⟨p,j,Ev.shift ?_⟩
    simp only[AZ.l1,Cp hp]
    refine Ev.pos z1 (Ev.pos z2 (Ev.pos hjl (Ev.bind r3 (Ev.pos rfl ?_))))
    rw[e2]
    exact Ev.Hm (Ev.pos ho (Ev.now _))
   ·obtain⟨a,b,hab⟩:=ih (j+1) i2 g2 (by omega) b3
    refine⟨a,b,Ev.shift ?_⟩
    simp only[AZ.l1,Cp hp]
    refine Ev.pos z1 (Ev.pos z2 (Ev.pos hjl (Ev.bind r3 (Ev.pos rfl ?_))))
    rw[e2]
    refine Ev.Hm (Ev.neg ho ?_)
    rw[DB (n:=g[p].length) (by omega) (by omega)]
    exact hab
  |false=>
   obtain⟨a,b,hab⟩:=ih (j+1) i h (by omega) hi
   refine⟨a,b,Ev.shift ?_⟩
   simp only[AZ.l1,Cp hp]
   refine Ev.pos z1 (Ev.pos z2 (Ev.pos hjl (Ev.bind r3 (Ev.neg Bool.false_ne_true ?_))))
   rw[DB (n:=g[p].length) (by omega) (by omega)]
   exact hab
theorem NN (l:List Int) (hl:l.length<=1048576) (g:List (List Int)) (hg:bulk g<=1048576) (h14:g.length<=14): ∀(d p:Nat) (i h:Int),p+d=g.length->0<=i->∃a b:Int,Ev (fun k=>AZ.l0 k g p l i h) (g,a,b):=by
 intro d
 induction d with
 |zero=>
  intro p i h hp hi
  obtain⟨u,i1,g1,o,i2,g2,e1,e2,b3⟩:=OC l hl g h14 i h hi
  obtain⟨v,i3,g3,e3,_,_,c3⟩:=EY l hl i2 g2 5 b3 (by omega) (by omega)
  refine⟨wrap64 (u-(if o=true then 1 else 0)),v,Ev.step (f:=fun _=>some (g,wrap64 (u-(if o=true then 1 else 0)),v)) (fun k=>?_) (Ev.now _)⟩
  simp only[AZ.l0]
  rw[if_neg (by omega),e1,Option.bind_some]
  dsimp only
  rw[e2,Option.bind_some]
  dsimp only
  rw[Ib,Option.bind_some,e3,Option.bind_some]
 |succ d ih=>
  intro p i h hp hi
  have hlt:p<g.length:=by omega
  obtain⟨a,b,hab⟩:=Nr l hl g hg p hlt (fun i h hi=>ih (p+1) i h (by omega) hi) g[p].length 0 i h (by omega) hi
  refine⟨a,b,Ev.step (fun k=>?_) hab⟩
  simp only[AZ.l0]
  rw[if_pos (by omega)]
  rfl
theorem MU (l:List Int) (hl:l.length<=1048576): ∃(g:List (List Int)) (a b:Int),Ev (fun k=>AZ.f k l) (g,a,b)/\bulk g<=100:=by
 obtain⟨h,hn⟩:=Ia l hl
 obtain⟨g,i,q,hE,q1,q2,q3⟩:=Fe l hl 0 h (by omega)
 obtain⟨a,b,hab⟩:=NN l hl g (by unfold bulk;omega) q1 g.length 0 i q (by omega) q3
 refine⟨g,a,b,?_,by unfold bulk;omega⟩
 unfold AZ.f
 exact Ev.bind hn (Ev.bind hE hab)
def push (acc:List Int) (x:Int):List Int:=if acc.getLast? =some (-x)then acc.dropLast else acc++[x]
def red (l:List Int):List Int:=l.foldl push []
theorem Iw (acc:List Int) (x:Int):(push acc x).length<=acc.length+1:=by
 unfold push
 split
 ·rw[List.length_dropLast];omega
 ·simp
theorem Gw (l acc:List Int):(l.foldl push acc).length<=acc.length+l.length:=by
 induction l generalizing acc with
 |nil=>simp
 |cons x l ih=>
  have:=ih (push acc x)
  have h2:=Iw acc x
  simp only[List.foldl_cons,List.length_cons]
  omega
theorem MA (l:List Int):(red l).length<=l.length:=by have:=Gw l [];simpa[red]using this
theorem Pc {acc:List Int} (h:0<acc.length):acc.getLast? =some (rd acc ((acc.length:Int)-1)):=by
 rw[List.getLast?_eq_getElem?,show((acc.length:Int)-1)=((acc.length-1:Nat):Int) by omega,CR (by omega),List.getElem?_eq_getElem (by omega)]
def JN:List Int->Int->List Int
 |y::t,x=>if y= -x then t else x::y::t
 |[],x=>[x]
theorem Fy (y:Int) (t:List Int) (x:Int):JN (y::t) x=if y= -x then t else x::y::t:=rfl
def NR:List Int->Prop
 |a::b::t=>a≠ -b/\NR (b::t)
 |_=>True
theorem QH {a:Int} {t:List Int} (h:NR (a::t)):NR t:=by
 cases t with
 |nil=>trivial
 |cons b t=>exact h.2
theorem Si {s:List Int} (h:NR s) (x:Int):NR (JN s x):=by
 cases s with
 |nil=>trivial
 |cons y t=>
  rw[Fy]
  by_cases hn:y= -x
  ·rw[if_pos hn];exact QH h
  ·rw[if_neg hn];exact⟨fun e=>hn (by omega),h⟩
theorem RK {s:List Int} (h:NR s) (x:Int):JN (JN s x) (-x)=s:=by
 cases s with
 |nil=>simp[JN]
 |cons y t=>
  rw[Fy]
  by_cases e:y= -x
  ·rw[if_pos e]
   cases t with
   |nil=>rw[e];rfl
   |cons z t=>
    have: ¬z= - -x:=fun h2=>h.1 (by omega)
    rw[Fy,if_neg this,e]
  ·rw[if_neg e,Fy,if_pos (by omega)]
def act (s l:List Int):List Int:=l.foldl JN s
theorem IK (s a b:List Int):act s (a++b)=act (act s a) b:=List.foldl_append
theorem Te {s:List Int} (h:NR s) (l:List Int):NR (act s l):=by
 induction l generalizing s with
 |nil=>exact h
 |cons x l ih=>exact ih (Si h x)
theorem Th (acc:List Int) (x:Int):(push acc x).reverse=JN acc.reverse x:=by
 unfold push
 rw[<-List.head?_reverse]
 rcases h:acc.reverse with _|⟨y,t⟩
 ·have:acc=[]:=by simpa using h
  simp[this,JN]
 ·have ha:acc=t.reverse++[y]:=by rw[<-List.reverse_reverse acc,h];simp
  rw[Fy];simp only[List.head?_cons,Option.some.injEq]
  by_cases e:y= -x
  ·rw[if_pos e,if_pos e,ha];simp
  ·rw[if_neg e,if_neg e,ha];simp
theorem Lu (l acc:List Int):(l.foldl push acc).reverse=act acc.reverse l:=by
 induction l generalizing acc with
 |nil=>rfl
 |cons x l ih=>rw[List.foldl_cons,ih,Th];rfl
theorem Nt (l:List Int):red l=(act [] l).reverse:=by
 have:=Lu l []
 unfold red
 rw[<-List.reverse_reverse (l.foldl push []),this]
 rfl
theorem Sg:NR []:=trivial
theorem Kk {a b:List Int} (h:NR (a++b)):NR a:=by
 induction a with
 |nil=>trivial
 |cons x a ih=>
  cases a with
  |nil=>trivial
  |cons y a=>exact⟨h.1,ih h.2⟩
theorem KT {a b:List Int} (h:NR (a++b)):NR b:=by
 induction a with
 |nil=>exact h
 |cons x a ih=>exact ih (QH h)
theorem Se: ∀(l s:List Int),NR (l.reverse++s)->act s l=l.reverse++s:=by
 intro l
 induction l with
 |nil=>intro s _;rfl
 |cons x l ih=>
  intro s h
  rw[List.reverse_cons,List.append_assoc]at h
  have h1:NR ([x]++s):=KT h
  have e:JN s x=[x]++s:=by
   cases s with
   |nil=>rfl
   |cons y t=>
    rw[Fy,if_neg (fun e=>h1.1 (by omega))]
    rfl
  show act (JN s x) l=_
  rw[e,ih _ h,List.reverse_cons,List.append_assoc]
theorem Li {l:List Int} (h:NR l.reverse):red l=l:=by
 rw[Nt,Se l [] (by simpa using h)];simp
theorem WT (l:List Int):NR (red l).reverse:=by
 rw[Nt,List.reverse_reverse];exact Te Sg l
theorem OH {l:List Int} (h:NR l.reverse) (i j:Nat):NR ((l.drop i).take j).reverse:=by
 have e:l=l.take i++((l.drop i).take j++(l.drop i).drop j):=by rw[List.take_append_drop,List.take_append_drop]
 rw[e,List.reverse_append,List.reverse_append]at h
 exact KT (Kk h)
theorem VM (a b:List Int) (hab:a.length=b.length) (hl:a.length<=1048576): ∀(d i:Nat),i+d=a.length->Ev (fun k=>CZ.l0 k a b i) (decide (a.drop i=b.drop i)):=by
 intro d
 induction d with
 |zero=>
  intro i hi
  have e:decide (a.drop i=b.drop i)=true:=decide_eq_true (by rw[List.drop_of_length_le (by omega),List.drop_of_length_le (by omega)])
  rw[e]
  refine Ev.step (f:=fun _=>some true) (fun k=>?_) (Ev.now _)
  simp only[CZ.l0];rw[if_neg (by omega)]
 |succ d ih=>
  intro i hi
  have hlt:i<a.length:=by omega
  have hlt2:i<b.length:=by omega
  have ea:a.drop i=a[i]::a.drop (i+1):=List.drop_eq_getElem_cons hlt
  have eb:b.drop i=b[i]::b.drop (i+1):=List.drop_eq_getElem_cons hlt2
  by_cases h:a[i]=b[i]
  ·have h1:=ih (i+1) (by omega)
   have e:decide (a.drop i=b.drop i)=decide (a.drop (i+1)=b.drop (i+1)):=by
    rw[decide_eq_decide,ea,eb,h,List.cons.injEq]
    exact⟨fun x=>x.2,fun x=>⟨rfl,x⟩⟩
   rw[e]
   refine Ev.step (fun k=>?_) h1
   simp only[CZ.l0,CR hlt,CR hlt2]
   rw[if_pos (by omega),if_pos (by omega),if_pos (by omega),if_pos h,DB hlt (by omega)]
  ·have e:decide (a.drop i=b.drop i)=false:=decide_eq_false (by rw[ea,eb,List.cons.injEq];exact fun x=>h x.1)
   rw[e]
   refine Ev.step (f:=fun _=>some false) (fun k=>?_) (Ev.now _)
   simp only[CZ.l0,CR hlt,CR hlt2]
   rw[if_pos (by omega),if_pos (by omega),if_pos (by omega),if_neg h]
theorem TW (a b:List Int) (hl:a.length<=1048576):Ev (fun k=>CZ.f k a b) (decide (a=b)):=by
 unfold CZ.f
 by_cases h:a.length=b.length
 ·have:=VM a b h hl a.length 0 (by omega)
  rw[List.drop_zero,List.drop_zero]at this
  exact Ev.congr (fun k=>if_pos (by omega)) this
 ·have e:decide (a=b)=false:=decide_eq_false (fun x=>h (by rw[x]))
  rw[e]
  refine Ev.congr (fun k=>if_neg (by omega)) (Ev.now _)
theorem RR (l:List Int) (hl:l.length<=1048576) (hp: ∀x∈l,Di x): ∀(d i:Nat) (acc:List Int),i+d=l.length->acc.length<=i->Ev (fun k=>BQ.l0 k l acc i) ((l.drop i).foldl push acc):=by
 intro d
 induction d with
 |zero=>
  intro i acc hi ha
  rw[List.drop_of_length_le (by omega)]
  refine Ev.step (f:=fun _=>some acc) (fun k=>?_) (Ev.now _)
  simp only[BQ.l0];rw[if_neg (by omega)]
 |succ d ih=>
  intro i acc hi ha
  have hlt:i<l.length:=by omega
  have ed:l.drop i=l[i]::l.drop (i+1):=List.drop_eq_getElem_cons hlt
  have hn:=II (hp l[i] (List.getElem_mem hlt))
  have hpl:=Iw acc l[i]
  have h1:=ih (i+1) (push acc l[i]) (by omega) (by omega)
  rw[ed,List.foldl_cons]
  have hw:wrap64 ((acc.length:Int)-1)=(acc.length:Int)-1:=Fa (by omega) (by omega)
  have hll:acc.length<17592186044416:=by omega
  rcases Nat.eq_zero_or_pos acc.length with h0|h0
  ·have hpe:push acc l[i]=acc++[l[i]]:=by
    unfold push
    rw[List.length_eq_zero_iff.1 h0]
    simp
   rw[hpe]at h1⊢
   refine Ev.step (fun k=>?_) h1
   simp only[BQ.l0,CR hlt]
   rw[if_pos (by omega),if_neg (by omega),if_pos (by omega),if_pos hll,DB hlt (by omega)]
  ·have hg:=Pc h0
   by_cases he:rd acc ((acc.length:Int)-1)= -l[i]
   ·have hpe:push acc l[i]=acc.take (acc.length-1):=by
     unfold push
     rw[hg,he,if_pos rfl,List.dropLast_eq_take]
    rw[hpe]at h1⊢
    have ht:((acc.length:Int)-1).toNat=acc.length-1:=by omega
    refine Ev.step (fun k=>?_) h1
    simp only[BQ.l0,CR hlt,hn,hw,he,ht]
    rw[if_pos (by omega),if_pos (by omega),if_pos (by omega),if_pos (by omega),if_pos (by omega),if_pos trivial,if_pos (by omega),DB hlt (by omega)]
   ·have hpe:push acc l[i]=acc++[l[i]]:=by
     unfold push
     rw[hg,if_neg (by simpa using he)]
    rw[hpe]at h1⊢
    refine Ev.step (fun k=>?_) h1
    simp only[BQ.l0,CR hlt,hn,hw,he]
    rw[if_pos (by omega),if_pos (by omega),if_pos (by omega),if_pos (by omega),if_pos (by omega),if_neg (by simp),if_pos hll,DB hlt (by omega)]
theorem MJ (l:List Int) (hl:l.length<=1048576) (hp: ∀x∈l,Di x):Ev (fun k=>BQ.f k l) (red l):=by
 have:=RR l hl hp l.length 0 [] (by omega) (by simp)
 simpa[BQ.f,red]using this
theorem Lk (l:List Int) (hl:l.length<=1048576) (h:Gk l):Ev (fun k=>Dw.f k l) (red l):=by
 have e1:=(Hy l hl).1
 rw[decide_eq_true h]at e1
 unfold Dw.f
 exact Ev.bind e1 (by simp only[if_true];exact Ev.bind (MJ l hl h.1) (Ev.now _))
def EW (l:List Int):List Int:=Fl (red l).length (red l)
theorem Ns (l:List Int):(EW l).length<=l.length:=Nat.le_trans (Mk _ _) (MA l)
theorem OP (l:List Int) (hl:l.length<=1048576) (hw:Gk l):Ev (fun k=>Em.f k l) (EW l):=by
 have h1:=MJ l hl hw.1
 have hr:=MA l
 unfold Em.f
 refine Ev.bind h1 ?_
 rw[if_pos (by omega)];exact Ev.now _
def Jq (a b:List Int):Prop:=(∃j:Nat,j<a.length/\Dx a j=b)\/(a.length=0/\b.length=0)
def Es (a b:List Int) (i:Nat):Prop:= ∃j:Nat,i<=j/\j<a.length/\Dx a j=b
theorem Ng (a b:List Int) (i:Nat) (h:a.length<=i): ¬Es a b i:=fun⟨j,h1,h2,_⟩=>by omega
theorem Nb (a b:List Int) (i:Nat) (h:i<a.length) (e:Dx a i=b):Es a b i:=⟨i,Nat.le_refl _,h,e⟩
theorem MZ (a b:List Int) (i:Nat) (e:Dx a i≠b):Es a b i↔Es a b (i+1):=by
 constructor
 ·rintro⟨j,h1,h2,h3⟩
  refine⟨j,?_,h2,h3⟩
  by_cases he:i=j
  ·subst he;exact(e h3).elim
  ·omega
 ·rintro⟨j,h1,h2,h3⟩
  exact⟨j,by omega,h2,h3⟩
theorem Ue (a b:List Int) (hl:a.length<=1048576): ∀(d i:Nat),i+d=a.length->Ev (fun k=>Bc.l0 k a b i) (decide (Es a b i\/a.length=0/\b.length=0)):=by
 intro d
 induction d with
 |zero=>
  intro i hi
  have hn:=Ng a b i (by omega)
  have e1:decide (Es a b i\/a.length=0/\b.length=0)=decide (a.length=0/\b.length=0):=by rw[decide_eq_decide];exact⟨fun x=>x.resolve_left hn,.inr⟩
  rw[e1]
  refine Ev.step (f:=fun _=>some (decide (a.length=0/\b.length=0))) (fun k=>?_) (Ev.now _)
  simp only[Bc.l0];rw[if_neg (by omega)]
 |succ d ih=>
  intro i hi
  have hlt:i<a.length:=by omega
  have t1:=PB a hl (i:Int)
  have s1:=TW (Dx a i) b (by rw[GX];exact hl)
  by_cases h:Dx a i=b
  ·have hh:=Nb a b i hlt h
   rw[decide_eq_true h]at s1
   rw[decide_eq_true (show Es a b i\/a.length=0/\b.length=0 from .inl hh)]
   refine Ev.step (f:=fun k=>(CZ.f k (Dx a i) b).bind fun s=>if s=true then some true else Bc.l0 k a b (wrap64 (i+1))) (fun k=>?_) (Ev.bind s1 ?_)
   ·simp only[Bc.l0,t1,Option.bind_some];rw[if_pos (by omega)]
   ·exact Ev.congr (fun k=>if_pos rfl) (Ev.now _)
  ·have hn:=MZ a b i h
   have h1:=ih (i+1) (by omega)
   rw[decide_eq_false h]at s1
   have e1:decide (Es a b i\/a.length=0/\b.length=0)=decide (Es a b (i+1)\/a.length=0/\b.length=0):=by rw[decide_eq_decide,hn]
   rw[e1]
   refine Ev.step (f:=fun k=>(CZ.f k (Dx a i) b).bind fun s=>if s=true then some true else Bc.l0 k a b (wrap64 (i+1))) (fun k=>?_) (Ev.bind s1 ?_)
   ·simp only[Bc.l0,t1,Option.bind_some];rw[if_pos (by omega)]
   ·refine Ev.congr (fun k=>if_neg Bool.false_ne_true) ?_
    rw[DB hlt (by omega)];exact h1
theorem Pj (a b:List Int):(Es a b 0\/a.length=0/\b.length=0)↔Jq a b:=by
 unfold Jq Es
 constructor
 ·rintro(⟨j,_,h2,h3⟩|h)
  ·exact .inl ⟨j,h2,h3⟩
  ·exact .inr h
 ·rintro(⟨j,h2,h3⟩|h)
  ·exact .inl ⟨j,Nat.zero_le _,h2,h3⟩
  ·exact .inr h
theorem OL (v w:List Int) (hv:v.length<=1048576) (hw:w.length<=1048576) (h1:Gk v) (h2:Gk w):Ev (fun k=>Bc.f k v w) (decide (Jq (EW v) (EW w))):=by
 have a1:=(Hy v hv).1
 have b1:=(Hy w hw).1
 unfold Bc.f
 rw[decide_eq_true h1]at a1
 rw[decide_eq_true h2]at b1
 have c1:=OP v hv h1
 have d1:=OP w hw h2
 have hcl:=Ns v
 refine Ev.bind a1 ?_
 refine Ev.congr (fun k=>if_pos rfl) ?_
 refine Ev.bind b1 ?_
 refine Ev.congr (fun k=>if_pos rfl) ?_
 have h:=Ue (EW v) (EW w) (by omega) (EW v).length 0 (by omega)
 have e:decide (Es (EW v) (EW w) 0\/(EW v).length=0/\(EW w).length=0)=decide (Jq (EW v) (EW w)):=by rw[decide_eq_decide];exact Pj _ _
 rw[e]at h
 exact Ev.bind c1 (Ev.bind d1 h)
theorem Re (n:Nat) (x:Int) (t:List Int) (h:wrap64 (-(-x))=x):Fl (n+1) (x::(t++[-x]))=Fl n t:=by
 have hl:(x::(t++[-x])).length=t.length+2:=by simp
 have r0:rd (x::(t++[-x])) 0=x:=rfl
 have r1:rd (x::(t++[-x])) (((x::(t++[-x])).length:Int)-1)= -x:=by
  rw[hl,show((t.length+2:Nat):Int)-1=((t.length+1:Nat):Int) by omega,Ie,List.getD_eq_getElem?_getD,List.getElem?_cons_succ,List.getElem?_append_right (Nat.le_refl _),Nat.sub_self]
  rfl
 rw[GA,if_pos ⟨by omega,by rw[r0,r1,h]⟩,hl]
 congr 1
 show(t++[-x]).take (t.length+2-2)=t
 rw[Nat.add_sub_cancel,List.take_left']
 rfl
theorem Gg (n:Nat) (x y:Int) (t:List Int) (h: ¬x=wrap64 (-y)):Fl n (x::(t++[y]))=x::(t++[y]):=by
 cases n with
 |zero=>rfl
 |succ n=>
  have hl:(x::(t++[y])).length=t.length+2:=by simp
  have r0:rd (x::(t++[y])) 0=x:=rfl
  have r1:rd (x::(t++[y])) (((x::(t++[y])).length:Int)-1)=y:=by
   rw[hl,show((t.length+2:Nat):Int)-1=((t.length+1:Nat):Int) by omega,Ie,List.getD_eq_getElem?_getD,List.getElem?_cons_succ,List.getElem?_append_right (Nat.le_refl _),Nat.sub_self]
   rfl
  rw[GA,if_neg]
  rintro⟨_,e⟩
  rw[r0,r1]at e
  exact h e
theorem Pm {l:List Int}: ∀(n m:Nat),l.length<=n->l.length<=m->Fl n l=Fl m l:=by
 have key: ∀(k:Nat) (l:List Int),l.length<=k->∀n m,l.length<=n->l.length<=m->Fl n l=Fl m l:=by
  intro k
  induction k with
  |zero=>
   intro l hl n m _ _
   obtain rfl:=List.length_eq_zero_iff.1 (Nat.le_zero.1 hl)
   have: ∀n,Fl n ([]:List Int)=[]:=fun n=>by
    cases n with
    |zero=>rfl
    |succ n=>rw[GA,if_neg (fun h=>by have:=h.1;simp at this)]
   rw[this,this]
  |succ k ih=>
   intro l hl n m hn hm
   cases n with
   |zero=>
    obtain rfl:=List.length_eq_zero_iff.1 (Nat.le_zero.1 hn)
    exact ih [] (by simp) 0 m (by simp) (by simp)
   |succ n=>
    cases m with
    |zero=>
     obtain rfl:=List.length_eq_zero_iff.1 (Nat.le_zero.1 hm)
     exact ih [] (by simp) (n+1) 0 (by simp) (by simp)
    |succ m=>
     rw[GA,GA]
     by_cases hc:2<=l.length/\rd l 0=wrap64 (-(rd l ((l.length:Int)-1)))
     ·rw[if_pos hc,if_pos hc]
      have hlen:((l.drop 1).take (l.length-2)).length=l.length-2:=by rw[List.length_take,List.length_drop];have:=hc.1;omega
      exact ih _ (by rw[hlen];omega) n m (by rw[hlen];omega) (by rw[hlen];omega)
     ·rw[if_neg hc,if_neg hc]
 exact fun n m=>key l.length l (Nat.le_refl _) n m
theorem Mz (a b:List Int) (h:a++b≠[]):Jq (b++a) (a++b):=by
 cases a with
 |nil=>
  refine .inl ⟨0,by cases b with|nil=>exact absurd rfl h|cons y t=>simp,?_⟩
  unfold Dx
  rw[if_neg (by cases b with|nil=>exact absurd rfl h|cons y t=>simp)]
  simp
 |cons x t=>
  refine .inl ⟨b.length,by simp,?_⟩
  have hl:(b++x::t).length=b.length+(t.length+1):=by simp
  unfold Dx
  rw[if_neg (by omega),Int.emod_eq_of_lt (by omega) (by omega),Int.toNat_natCast,List.drop_left',List.take_left']
  ·rfl
  ·rfl
theorem UB: ∀(n:Nat) (a b:List Int),a.length<=n->NR (a++b).reverse->(∀x∈a++b,Di x)->Jq (EW (b++a)) (EW (a++b)):=by
 have refl: ∀l:List Int,Jq l l:=fun l=>by
  by_cases h:l=[]
  ·subst h;exact .inr ⟨rfl,rfl⟩
  ·have:=Mz [] l (by simpa using h)
   simpa using this
 intro n
 induction n with
 |zero=>
  intro a b ha _ _
  obtain rfl:=List.length_eq_zero_iff.1 (Nat.le_zero.1 ha)
  rw[List.append_nil,List.nil_append]
  exact refl _
 |succ n ih=>
  intro a b ha hN hL
  cases a with
  |nil=>rw[List.append_nil,List.nil_append];exact refl _
  |cons x a=>
   rcases List.eq_nil_or_concat b with rfl|⟨b1,y,rfl⟩
   ·rw[List.append_nil,List.nil_append];exact refl _
   ·rw[List.concat_eq_append]at hN hL⊢
    have hr:=Li hN
    have hx:=hL x (by simp)
    have hy:=hL y (by simp)
    have hwx:wrap64 (-(-x))=x:=by rw[Int.neg_neg];unfold Di at hx;exact Fa (by omega) (by omega)
    have hwy:wrap64 (-y)= -y:=II hy
    have e1:x::a++(b1++[y])=x::((a++b1)++[y]):=by simp
    by_cases he:y= -x
    ·
     subst he
     have hN2:NR (a++b1).reverse:=by
      have h1:=OH hN 1 (a++b1).length
      rw[e1]at h1
      have h2:((x::((a++b1)++[-x])).drop 1).take (a++b1).length=a++b1:=by
       show((a++b1)++[-x]).take (a++b1).length=_
       exact List.take_left' rfl
      rwa[h2]at h1
     have hi:=ih a b1 (by simp at ha;omega) hN2 (fun z hz=>hL z (by
      rcases List.mem_append.1 hz with hz|hz
      ·simp[hz]
      ·simp[hz]))
     have c1:EW (x::a++(b1++[-x]))=EW (a++b1):=by
      unfold EW
      rw[hr,Li hN2,e1]
      have hl:(x::((a++b1)++[-x])).length=(a++b1).length+1+1:=by simp;omega
      rw[hl,Re _ _ _ hwx]
      exact Pm _ _ (by omega) (Nat.le_refl _)
     have c2:red ((b1++[-x])++x::a)=red (b1++a):=by
      rw[Nt,Nt]
      have e:(b1++[-x])++x::a=b1++([-x]++([x]++a)):=by simp
      rw[e,IK,IK,IK,IK]
      have k:=RK (Te Sg b1) (-x)
      rw[Int.neg_neg]at k
      have:act (act (act [] b1) [-x]) [x]=act [] b1:=k
      rw[this]
     have c3:EW ((b1++[-x])++x::a)=EW (b1++a):=by unfold EW;rw[c2]
     rw[c1,c3]
     exact hi
    ·
     have c1:EW (x::a++(b1++[y]))=x::a++(b1++[y]):=by
      unfold EW
      rw[hr,e1]
      exact Gg _ _ _ _ (by rw[hwy];omega)
     have hN3:NR ((b1++[y])++x::a).reverse:=by
      have hA:NR (x::a).reverse:=by
       have h1:=OH hN 0 (x::a).length
       rw[List.drop_zero,List.take_left' rfl]at h1
       exact h1
      have hB:NR (b1++[y]).reverse:=by
       have h1:=OH hN (x::a).length (b1++[y]).length
       rw[List.drop_left' rfl,List.take_of_length_le (Nat.le_refl _)]at h1
       exact h1
      have join: ∀(u:List Int),NR (u++[x])->NR (u++x::(b1++[y]).reverse):=by
       intro u
       induction u with
       |nil=>
        intro _
        rw[List.reverse_append]
        show NR (x::y::b1.reverse)
        rw[List.reverse_append]at hB
        exact⟨by omega,hB⟩
       |cons z u ihu=>
        intro h
        cases u with
        |nil=>
         have h2:NR ([z,x]):=h
         exact⟨h2.1,ihu trivial⟩
        |cons w u=>exact⟨h.1,ihu h.2⟩
      rw[List.reverse_append]
      have e2:(x::a).reverse=a.reverse++[x]:=List.reverse_cons
      rw[e2]at hA⊢
      have:=join a.reverse hA
      rw[List.append_assoc]
      exact this
     have c2:EW ((b1++[y])++x::a)=(b1++[y])++x::a:=by
      unfold EW
      rw[Li hN3]
      rcases List.eq_nil_or_concat a with rfl|⟨a1,z,rfl⟩
      ·cases b1 with
       |nil=>exact Gg _ y x [] (by rw[II hx];omega)
       |cons c b1=>
        have e3:(c::b1++[y])++[x]=c::((b1++[y])++[x]):=rfl
        rw[e3]
        refine Gg _ _ _ _ ?_
        rw[II hx]
        intro e4
        have h1:NR ([x]++(c::b1++[y])).reverse:=hN
        have h2:=OH h1 0 2
        have h3:NR [c,x]:=h2
        exact h3.1 e4
      ·rw[List.concat_eq_append]at*
       cases b1 with
       |nil=>
        have e3:([]++[y])++x::(a1++[z])=y::((x::a1)++[z]):=rfl
        rw[e3]
        refine Gg _ _ _ _ ?_
        have hz:=hL z (by simp)
        rw[II hz]
        intro e4
        have h1:NR ((x::a1)++[z,y]).reverse:=by
         have e5:x::(a1++[z])++([]++[y])=(x::a1)++[z,y]:=by simp
         rwa[e5]at hN
        have h2:NR [y,z]:=by
         rw[List.reverse_append]at h1
         exact Kk h1
        exact h2.1 e4
       |cons c b1=>
        have e3:(c::b1++[y])++x::(a1++[z])=c::((b1++[y]++x::a1)++[z]):=by simp
        rw[e3]
        refine Gg _ _ _ _ ?_
        have hz:=hL z (by simp)
        rw[II hz]
        intro e4
        have h1:NR ((x::a1)++([z,c]++(b1++[y]))).reverse:=by
         have e5:x::(a1++[z])++(c::b1++[y])=(x::a1)++([z,c]++(b1++[y])):=by simp
         rwa[e5]at hN
        rw[List.reverse_append,List.reverse_append]at h1
        have h2:NR [c,z]:=KT (Kk h1)
        exact h2.1 e4
     rw[c1,c2]
     exact Mz _ _ (by simp)
theorem Qz (acc:List Int) (x:Int):(push acc x).length=acc.length+1->push acc x=acc++[x]:=by
 intro h
 unfold push at h⊢
 split
 ·rename_i c
  rw[if_pos c,List.length_dropLast]at h
  omega
 ·rfl
theorem LD: ∀(l acc:List Int),(l.foldl push acc).length=acc.length+l.length->l.foldl push acc=acc++l:=by
 intro l
 induction l with
 |nil=>intro acc _;simp
 |cons x l ih=>
  intro acc h
  rw[List.foldl_cons]at h⊢
  have h1:=Gw l (push acc x)
  have h2:=Iw acc x
  rw[List.length_cons]at h
  have h3:(push acc x).length=acc.length+1:=by omega
  have h4:=Qz acc x h3
  rw[ih (push acc x) (by omega),h4,List.append_assoc]
  rfl
theorem TY (l:List Int) (h:(red l).length=l.length):red l=l:=by
 have:=LD l [] (by simpa[red]using h)
 simpa[red]using this
theorem Tq {g:List (List Int)} (h:BZ g) {q:Nat} (hq:q<g.length) {m n X:Nat} (hmn:m<n) (hn:n<g[q].length) (hX:1<=X/\X<=8) (h0:El g.flatten X=0) (hr:BZ (IZ g q g[q] m n X)):
 ∃back:List (List Int),Ev (fun k=>AB.f k (IZ g q g[q] m n X) X) (back,true)/\back.length=g.length/\BZ back/\∀hb:q<back.length,back[q]=g[q].drop m++g[q].take m:=by
 have hX9:(X:Int).toNat=X:=Int.toNat_natCast X
 have hfr: ∀w∈g,∀x∈w,x.natAbs≠X:=fun w hw x hx e=>by
  unfold El at h0
  rw[List.countP_eq_zero]at h0
  have:=h0 x (List.mem_flatten.2 ⟨w,hw,hx⟩)
  simp only[beq_iff_eq]at this
  omega
 obtain⟨R,r1,r0,r2,_,r4⟩:=Gy (IZ g q g[q] m n X) (Kb hr) X
 have r0:=r0 hr (by omega)
 rw[hX9]at r0
 generalize hC:IZ g q g[q] m n X=C at*
 have hCl:C.length=g.length+1:=by rw[<-hC,JI];simp
 have hp:q<C.length:=by omega
 have hl:g.length<C.length:=by omega
 have rowp:C[q]=(g[q].take n).drop m++[(X:Int)]:=by
  have:C[q]? =some ((g[q].take n).drop m++[(X:Int)]):=by
   rw[<-hC,JI,List.getElem?_append_left (by simpa using hq),List.getElem?_set_self hq]
  rw[List.getElem?_eq_getElem hp]at this
  exact Option.some.inj this
 have rowl:C[g.length]= -(X:Int)::(g[q].drop n++g[q].take m):=by
  have:C[g.length]? =some (-(X:Int)::(g[q].drop n++g[q].take m)):=by
   rw[<-hC,JI,List.getElem?_append_right (by simp),List.length_set,Nat.sub_self]
   rfl
  rw[List.getElem?_eq_getElem hl]at this
  exact Option.some.inj this
 have hlen:((g[q].take n).drop m).length=n-m:=by rw[List.length_drop,List.length_take];omega
 have hi:n-m<C[q].length:=by rw[rowp,List.length_append,hlen];simp
 have hj:0<C[g.length].length:=by rw[rowl];simp
 have gi:C[q][n-m]=(X:Int):=by
  have:C[q][n-m]? =some (X:Int):=by rw[rowp,List.getElem?_append_right (by omega),hlen,Nat.sub_self];rfl
  rw[List.getElem?_eq_getElem hi]at this
  exact Option.some.inj this
 have gj:C[g.length][0]= -(X:Int):=by
  have:C[g.length][0]? =some (-(X:Int)):=by rw[rowl];rfl
  rw[List.getElem?_eq_getElem hj]at this
  exact Option.some.inj this
 have hR:=r0 q g.length (n-m) 0 hp hl hi hj hq (by rw[gi];simp) (by rw[gj];simp)
 have ho:FZ C[q] C[g.length] (n-m) 0=C[g.length]:=by
  unfold FZ
  rw[if_neg]
  rw[Bu hi,Bu hj,gi,gj]
  omega
 have hop:GG C[q] C[g.length] (n-m) 0=0:=by
  unfold GG
  rw[if_neg]
  rw[Bu hi,Bu hj,gi,gj]
  omega
 rw[ho,hop]at hR
 have hW:DW C[q] (n-m) C[g.length] 0=g[q].drop m++g[q].take m:=by
  unfold DW
  rw[rowl,rowp]
  have e1:((g[q].take n).drop m++[(X:Int)]).take (n-m)=(g[q].take n).drop m:=List.take_left' hlen
  have e2:((g[q].take n).drop m++[(X:Int)]).drop (n-m+1)=[]:=List.drop_eq_nil_of_le (by rw[List.length_append,hlen];simp)
  have e3:(-(X:Int)::(g[q].drop n++g[q].take m)).drop (0+1)=g[q].drop n++g[q].take m:=rfl
  rw[e1,e2,e3,List.take_zero,List.append_nil,List.append_nil]
  exact OQ g[q] hmn hn
 rw[hW]at hR
 have hout: ∀k,k<=g.length->DP C q g.length (g[q].drop m++g[q].take m) k=(g.set q (g[q].drop m++g[q].take m)).take k:=by
  intro k
  induction k with
  |zero=>intro _;rw[List.take_zero];rfl
  |succ k ih=>
   intro hk
   have hkl:k<(g.set q (g[q].drop m++g[q].take m)).length:=by rw[List.length_set];omega
   rw[List.take_succ_eq_append_getElem hkl]
   by_cases hkq:k=q
   ·subst hkq
    rw[KE rfl,ih (by omega),List.getElem_set_self]
   ·have hCq:C[k]? =g[k]? :=by rw[<-hC,JI,List.getElem?_append_left (by rw[List.length_set];omega),List.getElem?_set_ne (by omega)]
    have hk1:k<C.length:=by omega
    have hk2:k<g.length:=by omega
    have hCk:C[k]=g[k]:=by
     rw[List.getElem?_eq_getElem hk1,List.getElem?_eq_getElem hk2]at hCq
     exact Option.some.inj hCq
    rw[LV hkq (by omega) (by omega),ih (by omega),hCk,List.getElem_set_ne (by omega)]
 have hout2:DP C q g.length (g[q].drop m++g[q].take m) C.length=g.set q (g[q].drop m++g[q].take m):=by
  rw[hCl,LQ (by omega) rfl,hout g.length (Nat.le_refl _),List.take_of_length_le (by rw[List.length_set];omega)]
 rw[hout2]at hR
 have hG:BZ (g.set q (g[q].drop m++g[q].take m)):=by
  have hrow:=h.2.1 g[q] (List.getElem_mem hq)
  have hperm:(g.set q (g[q].drop m++g[q].take m)).flatten.Perm g.flatten:=by
   have p1:=(Joi.Hs hq (g[q].drop m++g[q].take m)).flatten
   have p2:=(Joi.Gb hq).flatten
   rw[List.flatten_cons]at p1 p2
   refine p1.trans (List.Perm.trans ?_ p2.symm)
   refine List.Perm.append_right _ ?_
   conv=>rhs;rw[<-List.take_append_drop m g[q]]
   exact List.perm_append_comm
  refine⟨by rw[List.length_set];exact h.1,fun w hw=>?_,by rw[hperm.length_eq];exact h.2.2.1,fun y hy=>?_⟩
  ·rcases List.mem_or_eq_of_mem_set hw with hw|rfl
   ·exact h.2.1 w hw
   ·refine⟨fun e=>?_,fun x hx=>?_,?_⟩
    ·have:=congrArg List.length e
     rw[List.length_append,List.length_drop,List.length_take]at this
     simp only[List.length_nil]at this
     omega
    ·refine hrow.2.1 x ?_
     rcases List.mem_append.1 hx with hx|hx
     ·exact List.mem_of_mem_drop hx
     ·exact List.mem_of_mem_take hx
    ·rw[List.length_append,List.length_drop,List.length_take]
     have:=hrow.2.2
     omega
  ·unfold El
   rw[hperm.countP_eq]
   exact h.2.2.2 y hy
 have hM:DT (g.set q (g[q].drop m++g[q].take m))=(g.set q (g[q].drop m++g[q].take m),true):=if_pos hG
 rw[hM]at hR
 subst hR
 refine⟨g.set q (g[q].drop m++g[q].take m),r4,List.length_set,hG,fun hb=>?_⟩
 rw[List.getElem_set_self]
theorem Rs {w:List Int} (hw:Gk w) (m:Nat) (hr:(red w).length=w.length):Jq (EW (w.drop m++w.take m)) (EW w):=by
 have hN:NR (red w).reverse:=WT w
 have hself:red w=w:=TY w hr
 rw[hself]at hN
 have k:=UB (w.take m).length (w.take m) (w.drop m) (Nat.le_refl _) (by rw[List.take_append_drop];exact hN) (by rw[List.take_append_drop];exact hw.1)
 rwa[List.take_append_drop]at k
theorem Rc (fs:List Nat):(fs.map fun y:Nat=>(y:Int)).map Int.toNat=fs:=by
 induction fs with
 |nil=>rfl
 |cons a t ih=>rw[List.map_cons,List.map_cons,ih];rfl
theorem Ug (xs:List Int) (_hl:xs.length<=1048576): ∀(n i r:Nat),Joi.XM xs n i r->Ev (fun k=>Be.f k xs i) (r:Int):=by
 unfold Be.f
 intro n
 induction n with
 |zero=>
  intro i r h
  obtain⟨rfl,h⟩:=h
  obtain⟨hi,he⟩:=List.getElem?_eq_some_iff.1 h
  refine Ev.step (f:=fun _=>some (i:Int)) (fun k=>?_) (Ev.now _)
  simp only[Be.l0,CR hi,he]
  rw[if_pos (by omega),if_pos (by omega),if_pos trivial]
 |succ n ih=>
  intro i r h
  obtain⟨j,h,hne,hr⟩:=h
  obtain⟨hi,he⟩:=List.getElem?_eq_some_iff.1 h
  refine Ev.step (fun k=>?_) (ih j r hr)
  simp only[Be.l0,CR hi,he]
  rw[if_pos (by omega),if_pos (by omega),if_neg (by omega)]
theorem JC (xs:List Int) (hl:xs.length<=1048576) {i r:Nat} (h:Kl.Reach xs i r):Ev (fun k=>Be.f k xs i) (r:Int):=by
 obtain⟨n,hn⟩:=Joi.Ls h
 exact Ug xs hl n i r hn
theorem IS {g:List (List Int)} {p:Nat} (hp:p<g.length):Joi.row g p=g[p]:=by simp[Joi.row,List.getD_eq_getElem?_getD,hp]
theorem JU {g:List (List Int)} {p i:Nat} (hp:p<g.length) (hi:i<g[p].length):Joi.Fx g p i=g[p][i]:=by
 unfold Joi.Fx;rw[IS hp,CR hi]
theorem Of (g:List (List Int)):Joi.Ee g=g.flatten.length:=by
 unfold Joi.Ee Joi.fst
 rw[List.take_length,FV]
theorem BZ.LP {g:List (List Int)} (h:BZ g):Joi.Kt g/\Joi.NZ g:=by
 refine⟨⟨h.1.2,fun p hp=>?_,by rw[Of];have:=h.2.2.1;omega⟩,fun p i hs=>?_⟩
 ·rw[IS hp]
  obtain⟨h1,h2⟩:=h.2.1 g[p] (List.getElem_mem hp)
  refine⟨List.length_pos_iff.2 h1,h2.2,fun x hx=>?_⟩
  have:=h2.1 x hx
  unfold Di at this
  omega
 ·have hp:=hs.1
  have hi:=hs.2
  rw[IS hp]at hi
  rw[JU hp hi]
  have:=h.let _ (List.getElem_mem hp) _ (List.getElem_mem hi)
  unfold Di at this
  omega
def Tm (g:List (List Int)) (p i:Nat):Nat->Nat->Prop:=fun e f=> ∃q j,Joi.Dy g q j/\(q<p\/q=p/\j<i)/\e=Joi.Hx g q j/\f=Joi.Hu g q ((j+1) % (Joi.row g q).length)
theorem QF {g:List (List Int)} (hc:Joi.Kt g) {p i:Nat} (hs:Joi.Dy g p i):Joi.Hx g p i<18/\Joi.Hu g p i<18:=by
 have:=Joi.KQ hc hs
 unfold Joi.Hx Joi.Hu
 constructor<;>split<;>omega
theorem Wl (g:List (List Int)) (h:BZ g) (p:Nat) (hp:p<g.length) (hE: ∀xs,Joi.FI 18 (Joi.Sl g) xs (Tm g p g[p].length)->∃r:List Int,Ev (fun k=>BB.l1 k g xs (wrap64 ((p:Int)+1))) r/\Joi.FI 18 (Joi.Sl g) r (Tm g g.length 0)):
 ∀(d i:Nat),i+d=g[p].length->∀xs,Joi.FI 18 (Joi.Sl g) xs (Tm g p i)->∃r:List Int,Ev (fun k=>BB.l2 k g xs p i) r/\Joi.FI 18 (Joi.Sl g) r (Tm g g.length 0):=by
 obtain⟨hc,hz⟩:=h.LP
 have h4:=h.1.2
 have hrow:=IS hp
 have hlen:g[p].length<=24:=by have:=(hc.2.1 p hp).2.1;rw[hrow]at this;exact this
 intro d
 induction d with
 |zero=>
  intro i hi xs hI
  obtain⟨r,hr,hJ⟩:=hE xs (by rw[<-(show i=g[p].length by omega)];exact hI)
  refine⟨r,Ev.step (fun k=>?_) hr,hJ⟩
  simp only[BB.l2,Cp hp]
  rw[if_pos (by omega),if_pos (by omega),if_neg (by omega)]
 |succ d ih=>
  intro i hi xs hI
  have hlt:i<g[p].length:=by omega
  have hml:(i+1) % g[p].length<g[p].length:=Nat.mod_lt _ (by omega)
  have hs:Joi.Dy g p i:=⟨hp,by rw[hrow];exact hlt⟩
  have hs2:=Joi.Ex hs
  have hx:=h.let _ (List.getElem_mem hp) _ (List.getElem_mem hlt)
  have hy:=h.let _ (List.getElem_mem hp) _ (List.getElem_mem hml)
  have hxl:xs.length=18:=hI.1
  have hmod:Int.tmod (wrap64 ((i:Int)+1)) (g[p].length:Int)=(((i+1) % g[p].length:Nat):Int):=by
   rw[Fa (by omega) (by omega),Int.tmod_eq_emod_of_nonneg (by omega)]
   simp
  have ht:=QF hc hs
  have ht2:=QF hc hs2
  have htl:wrap64 (wrap64 (2*(g[p][i].natAbs:Int))+(if decide (g[p][i]>0)=true then 1 else 0))=((Joi.Hx g p i:Nat):Int):=by
   have hb:=hx.abs
   unfold Joi.Hx
   rw[JU hp hlt,Fa (x:=2*(g[p][i].natAbs:Int)) (by omega) (by omega)]
   by_cases c:g[p][i]>0
   ·rw[if_pos (decide_eq_true c),if_pos c,Fa (by omega) (by omega)];omega
   ·rw[if_neg (by simp[c]),if_neg c,Fa (by omega) (by omega)];omega
  have hhd:wrap64 (wrap64 (2*(g[p][(i+1) % g[p].length].natAbs:Int))+(if decide (g[p][(i+1) % g[p].length]<0)=true then 1 else 0))=((Joi.Hu g p ((i+1) % (Joi.row g p).length):Nat):Int):=by
   have hb:=hy.abs
   unfold Joi.Hu
   rw[hrow,JU hp hml,Fa (x:=2*(g[p][(i+1) % g[p].length].natAbs:Int)) (by omega) (by omega)]
   by_cases c:g[p][(i+1) % g[p].length]<0
   ·rw[if_pos (decide_eq_true c),if_pos c,Fa (by omega) (by omega)];omega
   ·rw[if_neg (by simpa using c),if_neg c,Fa (by omega) (by omega)];omega
  obtain⟨ra,hra⟩:=hI.root ht.1
  obtain⟨rb,hrb⟩:=hI.root ht2.2
  have hI2:=(hI.VD hra hrb (.base ⟨p,i,hs,rfl,rfl⟩)).weaken (T':=Tm g p (i+1)) (fun a b hab=>by
   obtain⟨q,j,h1,h2,h3,h4⟩:=hab
   by_cases e:q=p/\j=i
   ·obtain⟨rfl,rfl⟩:=e
    exact .inr ⟨h3,h4⟩
   ·exact .inl ⟨q,j,h1,by omega,h3,h4⟩)
  have hral:=hra.lt.2
  have hstep: ∀k,BB.l2 (k+1) g xs p i=(Be.f k xs ((Joi.Hx g p i:Nat):Int)).bind fun a=>(Be.f k xs ((Joi.Hu g p ((i+1) % (Joi.row g p).length):Nat):Int)).bind fun b=>if 0<=a then(if a<(xs.length:Int)then BB.l2 k g (xs.set (a:Int).toNat b) p (wrap64 ((i:Int)+1))else none)else none:=fun k=>by
   simp only[BB.l2,Cp hp,CR hlt,hmod,CR hml,FF hx,FF hy,Ib,Option.bind_some]
   rw[if_pos (by omega),if_pos (by omega),if_pos (by omega),if_pos (by omega),if_neg (by omega),if_pos (by omega),if_pos (by omega),htl,hhd]
  obtain⟨r,hr,hJ⟩:=ih (i+1) (by omega) _ hI2
  refine⟨r,Ev.step hstep (Ev.bind (JC xs (by omega) hra) (Ev.bind (JC xs (by omega) hrb) ?_)),hJ⟩
  refine Ev.congr (fun k=>?_) hr
  rw[if_pos (by omega),if_pos (by omega),Int.toNat_natCast,DB hlt (by omega)]
theorem Wo (g:List (List Int)) (h:BZ g): ∀(d p:Nat),p+d=g.length->∀xs,Joi.FI 18 (Joi.Sl g) xs (Tm g p 0)->∃r:List Int,Ev (fun k=>BB.l1 k g xs p) r/\Joi.FI 18 (Joi.Sl g) r (Tm g g.length 0):=by
 have h4:=h.1.2
 intro d
 induction d with
 |zero=>
  intro p hp xs hI
  obtain rfl:p=g.length:=by omega
  refine⟨xs,Ev.step (f:=fun _=>some xs) (fun k=>?_) (Ev.now _),hI⟩
  simp only[BB.l1];rw[if_neg (by omega)]
 |succ d ih=>
  intro p hp xs hI
  have hlt:p<g.length:=by omega
  obtain⟨r,hr,hJ⟩:=Wl g h p hlt (fun ys hK=>by
   rw[DB (n:=g.length) hlt (by omega)]
   exact ih (p+1) (by omega) ys (hK.weaken fun a b hab=>by
    obtain⟨q,j,h1,h2,h3,h4⟩:=hab
    refine⟨q,j,h1,?_,h3,h4⟩
    by_cases e:q=p
    ·subst e
     have:=h1.2
     rw[IS hlt]at this
     exact .inr ⟨rfl,this⟩
    ·exact .inl (by omega))) g[p].length 0 (by omega) xs hI
  refine⟨r,Ev.step (fun k=>?_) hr,hJ⟩
  simp only[BB.l1];rw[if_pos (by omega)];rfl
theorem Ws (g:List (List Int)) (h:BZ g): ∀(d i:Nat),i+d=18->∃r:List Int,Ev (fun k=>BB.l0 k g (Joi.iota i) i) r/\Joi.FI 18 (Joi.Sl g) r (Tm g g.length 0):=by
 intro d
 induction d with
 |zero=>
  intro i hi
  obtain rfl:i=18:=by omega
  obtain⟨r,hr,hJ⟩:=Wo g h g.length 0 (by omega) (Joi.iota 18) ((Joi.FI.start _ _).weaken fun a b hab=>by obtain⟨q,j,_,h2,_⟩:=hab;omega)
  refine⟨r,Ev.step (fun k=>?_) hr,hJ⟩
  simp only[BB.l0];rw[if_neg (by omega)];rfl
 |succ d ih=>
  intro i hi
  obtain⟨r,hr,hJ⟩:=ih (i+1) (by omega)
  refine⟨r,Ev.step (fun k=>?_) hr,hJ⟩
  simp only[BB.l0,Joi.GM,Joi.KW]
  rw[if_pos (by omega),if_pos (by omega),DB (n:=18) (by omega) (by omega)]
theorem QO (g:List (List Int)) (h:BZ g): ∃r:List Int,Ev (fun k=>BB.f k g) r/\r.length=18/\Kl.UF r (Joi.EG (Joi.Sl g)):=by
 obtain⟨r,hr,hJ⟩:=Ws g h 18 0 (by omega)
 exact⟨r,hr,hJ.1,hJ.uf fun a b _ _ e=>Joi.Fu (Joi.Bz _) (fun a b hs=>by
  obtain⟨p,i,hs,rfl,rfl⟩:=hs
  exact .base ⟨p,i,hs,.inl hs.1,rfl,rfl⟩) e⟩
def Ih (q:Int->Bool) (u:List Int):Nat->Nat->List Int
 |0,_=>[]
 |d+1,i=>if q (u.getD i 0)then(i:Int)::Ih q u d (i+1)else Ih q u d (i+1)
theorem Km (q:Int->Bool) (u:List Int): ∀d i,Ih q u d i=((List.range' i d).filter (fun j=>q (u.getD j 0))).map (fun j:Nat=>(j:Int)):=by
 intro d
 induction d with
 |zero=>intro i;rfl
 |succ d ih=>
  intro i
  unfold Ih
  rw[List.range'_succ,List.filter_cons,ih (i+1)]
  split<;>simp
theorem MM (a2:Int) (u:List Int) (hu:u.length<=1048576): ∀(d i:Nat) (acc:List Int),i+d=u.length->acc.length<=i->Ev (fun k=>BK.l0 k 1 a2 acc u i) (acc++Ih (fun n=>decide (1<=n/\n<=a2)) u d i):=by
 intro d
 induction d with
 |zero=>
  intro i acc hi ha
  refine Ev.step (f:=fun _=>some acc) (fun k=>?_) ?_
  ·simp only[BK.l0];rw[if_neg (by omega)]
  ·simpa[Ih]using Ev.now acc
 |succ d ih=>
  intro i acc hi ha
  have hlt:i<u.length:=by omega
  unfold Ih
  rw[Bu hlt]
  by_cases hc:1<=u[i]/\u[i]<=a2
  ·have:=ih (i+1) (acc++[(i:Int)]) (by omega) (by simp;omega)
   refine Ev.step (fun k=>?_) (show Ev _ (acc++if(decide (1<=u[i]/\u[i]<=a2))=true then(i:Int)::Ih (fun n=>decide (1<=n/\n<=a2)) u d (i+1)else Ih (fun n=>decide (1<=n/\n<=a2)) u d (i+1)) by rw[decide_eq_true hc,if_pos rfl];rw[List.append_assoc]at this;exact this)
   simp only[BK.l0,Dv,CR hlt,Option.bind_some]
   rw[if_pos (by omega),if_pos (by omega),decide_eq_true hc,if_pos rfl,if_pos (by omega),DB hlt (by omega)]
  ·have:=ih (i+1) acc (by omega) (by omega)
   refine Ev.step (fun k=>?_) (show Ev _ (acc++if(decide (1<=u[i]/\u[i]<=a2))=true then(i:Int)::Ih (fun n=>decide (1<=n/\n<=a2)) u d (i+1)else Ih (fun n=>decide (1<=n/\n<=a2)) u d (i+1)) by rw[decide_eq_false hc,if_neg (by decide)];exact this)
   simp only[BK.l0,Dv,CR hlt,Option.bind_some]
   rw[if_pos (by omega),if_pos (by omega),decide_eq_false hc,if_neg (by decide),DB hlt (by omega)]
theorem UR {g:List (List Int)} (h:BZ g):(De g.flatten).getD 0 0=0:=by
 have h0:=EP g.flatten (y:=0) (by omega)
 rw[Ie]at h0
 rw[h0]
 have:El g.flatten 0=0:=by
  unfold El
  rw[List.countP_eq_zero]
  intro x hx hb
  obtain⟨p,hp,hxp⟩:=List.mem_flatten.1 hx
  have:=(h.let p hp x hxp).1
  simp only[beq_iff_eq]at hb
  omega
 omega
def Ez (ys:List Nat):List Nat:=ys.flatMap fun y=>[2*y,2*y+1]
theorem IE (ys:List Nat) (e:Nat):e∈Ez ys↔e/2∈ys:=by
 unfold Ez
 rw[List.mem_flatMap]
 constructor
 ·rintro⟨y,hy,he⟩
  simp only[List.mem_cons,List.not_mem_nil,or_false]at he
  have:e/2=y:=by omega
  rw[this];exact hy
 ·intro h
  exact⟨e/2,h,by simp only[List.mem_cons,List.not_mem_nil,or_false];omega⟩
theorem Ni (ys:List Nat) (h:ys.Nodup):(Ez ys).Nodup:=by
 induction ys with
 |nil=>simp[Ez]
 |cons y ys ih=>
  obtain⟨h1,h2⟩:=List.nodup_cons.1 h
  have h3:Ez (y::ys)=2*y::(2*y+1)::Ez ys:=by simp[Ez]
  rw[h3,List.nodup_cons,List.nodup_cons]
  refine⟨fun hm=>?_,fun hm=>?_,ih h2⟩
  ·rcases List.mem_cons.1 hm with hm|hm
   ·omega
   ·rw[IE]at hm;exact h1 (by rw[show 2*y/2=y by omega]at hm;exact hm)
  ·rw[IE]at hm;exact h1 (by rw[show(2*y+1)/2=y by omega]at hm;exact hm)
def Md (up:List Int) (e:Nat):Bool:=decide (up[e]? =some (e:Int))
theorem VK (up:List Int) (hu:up.length=18) (ys:List Nat) (hy: ∀y∈ys,y<9) (hl:ys.length<=8): ∀(d i:Nat) (acc:Nat),i+d=ys.length->acc<=2*i->Ev (fun k=>Am.l0 k up (ys.map fun y:Nat=>(y:Int)) acc i) ((acc+(Ez (ys.drop i)).countP (Md up):Nat):Int):=by
 intro d
 induction d with
 |zero=>
  intro i acc hi ha
  rw[List.drop_of_length_le (by omega)]
  refine Ev.step (f:=fun _=>some (acc:Int)) (fun k=>?_) ?_
  ·simp only[Am.l0,List.length_map];rw[if_neg (by omega)]
  ·simpa[Ez]using Ev.now (acc:Int)
 |succ d ih=>
  intro i acc hi ha
  have hlt:i<ys.length:=by omega
  have hyi:=hy _ (List.getElem_mem hlt)
  have hdrop:Ez (ys.drop i)=2*ys[i]::(2*ys[i]+1)::Ez (ys.drop (i+1)):=by
   unfold Ez;rw[List.drop_eq_getElem_cons hlt,List.flatMap_cons];rfl
  have hrd:rd (ys.map fun y:Nat=>(y:Int)) (i:Int)=(ys[i]:Int):=by rw[CR (by rw[List.length_map];exact hlt),List.getElem_map]
  have hw1:wrap64 (2*(ys[i]:Int))=((2*ys[i]:Nat):Int):=by rw[Fa (by omega) (by omega)];omega
  have hw2:wrap64 (((2*ys[i]:Nat):Int)+1)=((2*ys[i]+1:Nat):Int):=by rw[Fa (by omega) (by omega)];omega
  have hb: ∀e:Nat,e<18->(if(rd up (e:Int)==(e:Int))=true then(1:Int)else 0)=((if Md up e=true then 1 else 0:Nat):Int):=fun e he=>by
   have hel:e<up.length:=by omega
   unfold Md
   rw[CR hel,List.getElem?_eq_getElem hel]
   by_cases c:up[e]=(e:Int)
   ·rw[if_pos (by rw[beq_iff_eq];exact c),if_pos (decide_eq_true (by rw[c]))];rfl
   ·rw[if_neg (by rw[beq_iff_eq];exact c),if_neg (by simp[c])];rfl
  have h1:=ih (i+1) (acc+(if Md up (2*ys[i])=true then 1 else 0)+(if Md up (2*ys[i]+1)=true then 1 else 0)) (by omega) (by split<;>split<;>omega)
  have hsum:acc+(if Md up (2*ys[i])=true then 1 else 0)+(if Md up (2*ys[i]+1)=true then 1 else 0)+(Ez (ys.drop (i+1))).countP (Md up)=acc+(Ez (ys.drop i)).countP (Md up):=by
   rw[hdrop,List.countP_cons,List.countP_cons];omega
  rw[hsum]at h1
  refine Ev.step (fun k=>?_) h1
  simp only[Am.l0,hrd,hw1,hw2,Ib,Option.bind_some,List.length_map]
  rw[if_pos (by omega),if_pos (by omega),if_pos (by omega),if_pos (by omega),if_pos (by omega),if_pos (by omega),hb _ (by omega),hb _ (by omega),DB hlt (by omega),Fa (x:=(acc:Int)+_) (by split<;>omega) (by split<;>omega),Fa (by split<;>split<;>omega) (by split<;>split<;>omega)]
  congr 1
theorem TC (g:List (List Int)) (h:BZ g): ∃ys:List Nat,ys.Nodup/\ys.length<=8/\(∀y∈ys,y<9)/\(∀y,y∈ys↔∃p i,Joi.Dy g p i/\(Joi.Fx g p i).natAbs=y)/\Ev (fun k=>BK.f k g 1 2) (ys.map fun y:Nat=>(y:Int)):=by
 have hu:=Jp g (by have:=h.1.2;omega) h.let (by have:=h.2.2.1;omega)
 refine⟨(List.range' 1 8).filter (fun j=>decide (1<=(De g.flatten).getD j 0/\(De g.flatten).getD j 0<=2)),List.Pairwise.filter _ List.nodup_range',?_,?_,?_,?_⟩
 ·have:=List.length_filter_le (fun j=>decide (1<=(De g.flatten).getD j 0/\(De g.flatten).getD j 0<=2)) (List.range' 1 8)
  rwa[List.length_range']at this
 ·intro y hy
  have:=List.mem_range'_1.1 (List.mem_filter.1 hy).1
  omega
 ·intro y
  rw[List.mem_filter,List.mem_range'_1]
  have key:1<=El g.flatten y↔∃p i,Joi.Dy g p i/\(Joi.Fx g p i).natAbs=y:=by
   unfold El
   rw[Nat.one_le_iff_ne_zero,<-Nat.pos_iff_ne_zero,List.countP_pos_iff]
   constructor
   ·rintro⟨x,hx,hxy⟩
    obtain⟨w,hw,hxw⟩:=List.mem_flatten.1 hx
    obtain⟨p,hp,rfl⟩:=List.getElem_of_mem hw
    obtain⟨i,hi,rfl⟩:=List.getElem_of_mem hxw
    exact⟨p,i,⟨hp,by rw[IS hp];exact hi⟩,by rw[JU hp hi];simpa using hxy⟩
   ·rintro⟨p,i,hs,e⟩
    have hp:=hs.1
    have hi:=hs.2
    rw[IS hp]at hi
    rw[JU hp hi]at e
    exact⟨g[p][i],List.mem_flatten.2 ⟨g[p],List.getElem_mem hp,List.getElem_mem hi⟩,by simpa using e⟩
  constructor
  ·rintro⟨h1,h2⟩
   have h3:=of_decide_eq_true h2
   have h4:=EP g.flatten (y:=y) (by omega)
   rw[Ie]at h4
   rw[h4]at h3
   exact key.1 (by omega)
  ·intro hk
   have h1:=key.2 hk
   obtain⟨p,i,hs,e⟩:=hk
   have hok:=Joi.KQ h.LP.1 hs
   have hnz:=h.LP.2 p i hs
   have hy9:y<9:=by omega
   have h4:=EP g.flatten hy9
   rw[Ie]at h4
   refine⟨by omega,decide_eq_true ?_⟩
   rw[h4]
   have:=h.2.2.2 y hy9
   omega
 ·unfold BK.f
  refine Ev.bind hu ?_
  have:=MM 2 (De g.flatten) (by rw[CK];omega) 8 1 [] (by rw[CK]) (by simp)
  rw[Km,List.nil_append]at this
  exact this
theorem Rm (g:List (List Int)) (h:BZ g):Ev (fun k=>Am.f k g) ((Joi.Eh g:Nat):Int):=by
 have e1:=DG g (by have:=h.1.2;omega) (by have:=h.2.2.1;omega)
 rw[decide_eq_true h]at e1
 obtain⟨up,hup,hlen,hUF⟩:=QO g h
 obtain⟨ys,hnd,h8,h9,hmem,hys⟩:=TC g h
 have hz:=h.LP.2
 have hin: ∀e,e∈Ez ys↔∃d,Joi.MS g d e:=fun e=>by
  rw[IE,hmem]
  constructor
  ·rintro⟨p,i,hs,he⟩
   exact⟨_,p,i,e % 2,hs,by omega,rfl,by omega⟩
  ·rintro⟨d,p,i,k,hs,hk,_,he⟩
   exact⟨p,i,hs,by omega⟩
 have hcount:=hUF.count (Ez ys) (fun e he=>by rw[IE]at he;have:=h9 _ he;omega) (Ni ys hnd) (fun i r hi hr=>by
  have hE:Joi.EG (Joi.Sl g) i r:=(hUF.iff hr (.root hr.isRoot)).1 rfl
  rcases Joi.Xr hz hE with rfl|⟨_,h2⟩
  ·exact hi
  ·exact(hin r).2 h2)
 rw[Joi.La hz (Ez ys) hin]at hcount
 have:=VK up hlen ys h9 h8 ys.length 0 0 (by omega) (by omega)
 rw[List.drop_zero,Nat.zero_add]at this
 have hc2:(Ez ys).countP (Md up)=Joi.Eh g:=hcount
 rw[hc2]at this
 unfold Am.f
 refine Ev.bind e1 ?_
 simp only[if_true]
 exact Ev.bind hup (Ev.bind hys this)
theorem Ty (g:List (List Int)) (h:BZ g):Joi.Eh g<=96:=by
 have:=Joi.Ej (Joi.EG (Joi.Sc g)) (List.range (Joi.Ee g))
 rw[List.length_range]at this
 exact Nat.le_trans this h.LP.1.2.2
theorem Wa (g:List (List Int)) (h:BZ g): ∃ys:List Nat,ys.Nodup/\Joi.Occ g ys/\(∀y,y∈ys↔y<9/\El g.flatten y=1)/\Ev (fun k=>BK.f k g 1 1) (ys.map fun y:Nat=>(y:Int)):=by
 have hg1:g.length<=1048576:=by have:=h.1.2;omega
 have hb1:g.flatten.length<=1048576:=by have:=h.2.2.1;omega
 have hu:=Jp g hg1 h.let hb1
 have hmem: ∀y,y∈(List.range' 1 8).filter (fun j=>decide (1<=(De g.flatten).getD j 0/\(De g.flatten).getD j 0<=1))↔y<9/\El g.flatten y=1:=fun y=>by
  rw[List.mem_filter,List.mem_range'_1,decide_eq_true_eq]
  constructor
  ·rintro⟨h1,h2⟩
   have h4:=EP g.flatten (y:=y) (by omega)
   rw[Ie]at h4
   rw[h4]at h2
   exact⟨by omega,by omega⟩
  ·rintro⟨h1,h2⟩
   have h4:=EP g.flatten h1
   rw[Ie]at h4
   have h0:=UR h
   have hne:y≠0:=fun e=>by subst e;rw[h4]at h0;omega
   refine⟨by omega,?_⟩
   rw[h4]
   omega
 refine⟨(List.range' 1 8).filter (fun j=>decide (1<=(De g.flatten).getD j 0/\(De g.flatten).getD j 0<=1)),List.Pairwise.filter _ List.nodup_range',⟨?_,?_⟩,hmem,?_⟩
 ·have:=List.length_filter_le (fun j=>decide (1<=(De g.flatten).getD j 0/\(De g.flatten).getD j 0<=1)) (List.range' 1 8)
  rwa[List.length_range']at this
 ·intro y hy
  have hk:=((hmem y).1 hy).2
  have hpos:0<g.flatten.countP (fun x=>x.natAbs==y):=by unfold El at hk;omega
  obtain⟨x,hx,hxy⟩:=List.countP_pos_iff.1 hpos
  obtain⟨w,hw,hxw⟩:=List.mem_flatten.1 hx
  obtain⟨p,hp,rfl⟩:=List.getElem_of_mem hw
  obtain⟨i,hi,rfl⟩:=List.getElem_of_mem hxw
  exact⟨p,i,⟨hp,by rw[IS hp];exact hi⟩,by rw[JU hp hi];simpa using hxy⟩
 ·unfold BK.f
  refine Ev.bind hu ?_
  have:=MM 1 (De g.flatten) (by rw[CK];omega) 8 1 [] (by rw[CK]) (by simp)
  rw[Km,List.nil_append]at this
  exact this
def Jh (w:List Int) (x:Nat):Prop:= ∃y∈w,y.natAbs=x
theorem TV (w:List Int) (hl:w.length<=1048576) (hw: ∀x∈w,Di x) (x:Nat):Ev (fun k=>Cb.f k w x) (decide (Jh w x)):=by
 unfold Cb.f
 have key: ∀(d i:Nat),i+d=w.length->Ev (fun k=>Cb.l0 k w x i) (decide (Jh (w.drop i) x)):=by
  intro d
  induction d with
  |zero=>
   intro i hi
   rw[decide_eq_false (show¬Jh (w.drop i) x by rw[List.drop_of_length_le (by omega)];rintro⟨y,hy,_⟩;simp at hy)]
   refine Ev.step (f:=fun _=>some false) (fun k=>?_) (Ev.now _)
   simp only[Cb.l0];rw[if_neg (by omega)]
  |succ d ih=>
   intro i hi
   have hlt:i<w.length:=by omega
   have hx:=hw _ (List.getElem_mem hlt)
   have e:Jh (w.drop i) x↔w[i].natAbs=x\/Jh (w.drop (i+1)) x:=by
    unfold Jh
    rw[List.drop_eq_getElem_cons hlt]
    simp only[List.mem_cons,exists_eq_or_imp]
   by_cases hc:w[i].natAbs=x
   ·rw[decide_eq_true (e.2 (.inl hc))]
    refine Ev.step (f:=fun _=>some true) (fun k=>?_) (Ev.now _)
    simp only[Cb.l0,CR hlt,FF hx,Option.bind_some]
    rw[if_pos (by omega),if_pos (by omega),if_pos (by omega)]
   ·have e2:Jh (w.drop i) x↔Jh (w.drop (i+1)) x:=by rw[e];simp[hc]
    rw[decide_eq_decide.2 e2]
    refine Ev.step (fun k=>?_) (ih (i+1) (by omega))
    simp only[Cb.l0,CR hlt,FF hx,Option.bind_some]
    rw[if_pos (by omega),if_pos (by omega),if_neg (by omega),DB hlt (by omega)]
 exact key w.length 0 (by omega)
theorem BZ.gok {g:List (List Int)} (h:BZ g):Joi.GOk g:=by
 refine⟨h.1.2,fun p hp=>?_⟩
 have hm:g.getD p []=g[p]:=by simp[List.getD_eq_getElem?_getD,hp]
 rw[hm]
 have hw:=(h.2.1 g[p] (List.getElem_mem hp)).2
 refine⟨hw.2,fun x hx=>?_⟩
 have:=hw.1 x hx
 unfold Di at this
 omega
def T1s (g:List (List Int)) (p:Nat):Nat->Nat->Prop:=fun a b=>b<a/\a<p/\Joi.Sh g a b
def T2s (g:List (List Int)) (p q:Nat):Nat->Nat->Prop:=fun a b=>b<a/\(a<p\/a=p/\b<q)/\Joi.Sh g a b
def T3s (g:List (List Int)) (p q x:Nat):Nat->Nat->Prop:=fun a b=>T2s g p q a b\/(a=p/\b=q/\∃y,1<=y/\y<x/\Jh (g.getD p []) y/\Jh (g.getD q []) y)
theorem UW {g:List (List Int)} {a b:Nat} (h:Joi.Sh g a b):Joi.Sh g b a:=by
 obtain⟨h1,h2,x,hx,y,hy,e⟩:=h
 exact⟨h2,h1,y,hy,x,hx,e.symm⟩
theorem RJ (g:List (List Int)) (hg:g.length<=4) (xs:List Int) (hx:xs.length=g.length): ∀(d j:Nat),j+d=g.length->Ev (fun k=>AO.l4 k g xs ((Joi.Gh xs j:Nat):Int) j) ((Joi.Gh xs g.length:Nat):Int):=by
 intro d
 induction d with
 |zero=>
  intro j hj
  obtain rfl:j=g.length:=by omega
  refine Ev.step (f:=fun _=>some _) (fun k=>?_) (Ev.now _)
  simp only[AO.l4];rw[if_neg (by omega)]
 |succ d ih=>
  intro j hj
  have hlt:j<xs.length:=by omega
  have hz:=Joi.Kr xs j
  have hzl:=Joi.Mf xs j
  refine Ev.step (fun k=>?_) (ih (j+1) (by omega))
  simp only[AO.l4,CR hlt]
  rw[if_pos (by omega),if_pos (by omega),if_pos (by omega),Ib,Option.bind_some,DB hlt (by omega)]
  by_cases hr:xs[j]? =some (j:Int)
  ·rw[if_pos hr]at hz
   have he:=(List.getElem?_eq_some_iff.1 hr).2
   rw[if_pos (by rw[he];simp),Fa (by omega) (by omega),hz];rfl
  ·rw[if_neg hr]at hz
   have he:xs[j]≠(j:Int):=fun e=>hr (by rw[List.getElem?_eq_getElem hlt,e])
   rw[if_neg (by rw[beq_iff_eq];exact he),Fa (by omega) (by omega),hz];rfl
theorem Rh (g:List (List Int)) (h:BZ g) (p q:Nat) (hp:p<g.length) (hq:q<g.length) (r:Int) (hE: ∀xs,Joi.FI g.length (Joi.Sh g) xs (T3s g p q 9)->Ev (fun k=>AO.l2 k g xs p (wrap64 ((q:Int)+1))) r):
 ∀(f x:Nat),x+f=9->1<=x->∀xs,Joi.FI g.length (Joi.Sh g) xs (T3s g p q x)->Ev (fun k=>AO.l3 k g xs p q x) r:=by
 have h4:=h.1.2
 have hgp:g.getD p []=g[p]:=by simp[List.getD_eq_getElem?_getD,hp]
 have hgq:g.getD q []=g[q]:=by simp[List.getD_eq_getElem?_getD,hq]
 have lp:g[p].length<=1048576:=by have:=(h.gok.2 p hp).1;rw[hgp]at this;omega
 have lq:g[q].length<=1048576:=by have:=(h.gok.2 q hq).1;rw[hgq]at this;omega
 intro f
 induction f with
 |zero=>
  intro x hx h1 xs hI
  obtain rfl:x=9:=by omega
  refine Ev.step (fun k=>?_) (hE xs hI)
  simp only[AO.l3];rw[if_neg (by omega)]
 |succ f ih=>
  intro x hx h1 xs hI
  have hxl:xs.length<=1048576:=by rw[hI.1];omega
  have hw:wrap64 ((x:Int)+1)=((x+1:Nat):Int):=DB (n:=9) (by omega) (by omega)
  have e1:=TV g[p] lp (h.let _ (List.getElem_mem hp)) x
  have e2:=TV g[q] lq (h.let _ (List.getElem_mem hq)) x
  have hskip: ¬(Jh g[p] x/\Jh g[q] x)->Ev (fun k=>AO.j4 k g xs p q x false) r:=fun hn=>by
   refine Ev.step (fun k=>?_) (ih (x+1) (by omega) (by omega) xs (hI.weaken fun a b hab=>?_))
   ·simp only[AO.j4];rw[if_neg Bool.false_ne_true,hw]
   ·rcases hab with hab|⟨ha,hb,y,y1,y2,y3,y4⟩
    ·exact .inl hab
    ·by_cases hy:y=x
     ·subst hy;rw[hgp]at y3;rw[hgq]at y4;exact(hn ⟨y3,y4⟩).elim
     ·exact .inr ⟨ha,hb,y,y1,by omega,y3,y4⟩
  have hl3: ∀k,AO.l3 (k+1) g xs p q x=((Cb.f k g[p] x).bind fun t159=>(if t159=true then((Cb.f k g[q] x).bind fun t161=>(AO.j4 k g xs p q x t161))else(AO.j4 k g xs p q x false))):=fun k=>by
   simp only[AO.l3,Cp hp,Cp hq]
   rw[if_pos (by omega),if_pos (by omega),if_pos (by omega)]
   congr 1
   funext t
   cases t
   ·rw[if_neg Bool.false_ne_true,if_neg Bool.false_ne_true]
   ·rw[if_pos rfl,if_pos rfl,if_pos (by omega),if_pos (by omega)]
  refine Ev.step hl3 (Ev.bind e1 ?_)
  by_cases c1:Jh g[p] x
  case neg=>
   rw[decide_eq_false c1]
   exact Ev.congr (fun k=>if_neg Bool.false_ne_true) (hskip fun hh=>c1 hh.1)
  rw[decide_eq_true c1]
  refine Ev.congr (fun k=>if_pos rfl) (Ev.bind e2 ?_)
  by_cases c2:Jh g[q] x
  case neg=>rw[decide_eq_false c2];exact hskip fun hh=>c2 hh.2
  rw[decide_eq_true c2]
  obtain⟨ra,hra⟩:=hI.root hp
  obtain⟨rb,hrb⟩:=hI.root hq
  obtain⟨u,hu,hux⟩:=c1
  obtain⟨v,hv,hvx⟩:=c2
  have hS:Joi.EG (Joi.Sh g) p q:= .base ⟨hp,hq,u,by rw[hgp];exact hu,v,by rw[hgq];exact hv,by omega⟩
  have hI2:=(hI.VD hra hrb hS).weaken (T':=T3s g p q (x+1)) (fun a b hab=>by
   rcases hab with hab|⟨ha,hb,_⟩
   ·exact .inl (.inl hab)
   ·exact .inr ⟨ha,hb⟩)
  have hral:=hra.lt.2
  refine Ev.shift ?_
  simp only[AO.j4]
  refine Ev.congr (fun k=>if_pos trivial) (Ev.bind (JC xs hxl hra) (Ev.bind (JC xs hxl hrb) ?_))
  refine Ev.congr (fun k=>?_) (ih (x+1) (by omega) (by omega) _ hI2)
  rw[if_pos (by omega),if_pos (by omega),Int.toNat_natCast,hw]
theorem Rl (g:List (List Int)) (h:BZ g) (p:Nat) (hp:p<g.length) (r:Int) (hE: ∀xs,Joi.FI g.length (Joi.Sh g) xs (T2s g p p)->Ev (fun k=>AO.l1 k g xs (wrap64 ((p:Int)+1))) r):
 ∀(e q:Nat),q+e=p->∀xs,Joi.FI g.length (Joi.Sh g) xs (T2s g p q)->Ev (fun k=>AO.l2 k g xs p q) r:=by
 have h4:=h.1.2
 intro e
 induction e with
 |zero=>
  intro q hq xs hI
  obtain rfl:q=p:=by omega
  refine Ev.step (fun k=>?_) (hE xs hI)
  simp only[AO.l2];rw[if_neg (by omega)]
 |succ e ih=>
  intro q hq xs hI
  refine Ev.step (fun k=>?_) (Rh g h p q hp (by omega) r (fun ys hJ=>?_) 8 1 rfl (by omega) xs (hI.weaken fun a b hab=>?_))
  ·simp only[AO.l2];rw[if_pos (by omega)];rfl
  ·rw[DB (n:=p) (by omega) (by omega)]
   refine ih (q+1) (by omega) ys (hJ.weaken fun a b hab=>?_)
   obtain⟨h1,h2,h3⟩:=hab
   by_cases he:a=p/\b=q
   ·obtain⟨rfl,rfl⟩:=he
    obtain⟨_,_,u,hu,v,hv,huv⟩:=h3
    refine .inr ⟨rfl,rfl,u.natAbs,?_,?_,⟨u,hu,rfl⟩,⟨v,hv,huv.symm⟩⟩
    all_goals
     have hgp:g.getD a []=g[a]:=by simp[List.getD_eq_getElem?_getD,hp]
     rw[hgp]at hu
     have:=(h.let _ (List.getElem_mem hp) u hu).abs
     omega
   ·exact .inl ⟨h1,by omega,h3⟩
  ·rcases hab with hab|⟨_,_,y,y1,y2,_⟩
   ·exact hab
   ·omega
theorem Rg (g:List (List Int)) (h:BZ g): ∀(d p:Nat),p+d=g.length->∀xs,Joi.FI g.length (Joi.Sh g) xs (T1s g p)->Ev (fun k=>AO.l1 k g xs p) ((Joi.Hd g:Nat):Int):=by
 have h4:=h.1.2
 intro d
 induction d with
 |zero=>
  intro p hp xs hI
  obtain rfl:p=g.length:=by omega
  have hc:=hI.count (fun a b ha hb e=>Joi.Fu (Joi.Bz _) (fun a b hs=>by
   rcases Nat.lt_trichotomy a b with hab|hab|hab
   ·exact .symm (.base ⟨hab,hs.2.1,UW hs⟩)
   ·subst hab;exact .refl a
   ·exact .base ⟨hab,hs.1,hs⟩) e)
  have:=RJ g h4 xs hI.1 g.length 0 (by omega)
  rw[hc]at this
  refine Ev.step (fun k=>?_) this
  simp only[AO.l1];rw[if_neg (by omega)];rfl
 |succ d ih=>
  intro p hp xs hI
  refine Ev.step (fun k=>?_) (Rl g h p (by omega) _ (fun ys hJ=>?_) p 0 (by omega) xs (hI.weaken fun a b hab=>?_))
  ·simp only[AO.l1];rw[if_pos (by omega)];rfl
  ·rw[DB (n:=g.length) (by omega) (by omega)]
   exact ih (p+1) (by omega) ys (hJ.weaken fun a b hab=>⟨hab.1,by have:=hab.1;have:=hab.2.1;omega,hab.2.2⟩)
  ·exact⟨hab.1,by have:=hab.2.1;omega,hab.2.2⟩
theorem Ri (g:List (List Int)) (h:BZ g): ∀(d p:Nat),p+d=g.length->Ev (fun k=>AO.l0 k g (Joi.iota p) p) ((Joi.Hd g:Nat):Int):=by
 have h4:=h.1.2
 intro d
 induction d with
 |zero=>
  intro p hp
  obtain rfl:p=g.length:=by omega
  refine Ev.step (fun k=>?_) (Rg g h g.length 0 (by omega) (Joi.iota g.length) ((Joi.FI.start _ _).weaken fun a b hab=>by have:=hab.2.1;omega))
  simp only[AO.l0];rw[if_neg (by omega)];rfl
 |succ d ih=>
  intro p hp
  refine Ev.step (fun k=>?_) (ih (p+1) (by omega))
  simp only[AO.l0,Joi.GM,Joi.KW]
  rw[if_pos (by omega),if_pos (by omega),DB (n:=g.length) (by omega) (by omega)]
def tb (set:Int) (p:Nat):Bool:=Go.bits .and .i64 (shr .i64 set (p:Int)) 1==1
def sg (set:Int) (p:Nat) (x:Int):Int:=if(decide (x>0) != tb set p)=true then 1 else-1
theorem KV (set:Int) (p:Nat) (x:Int):sg set p x=1\/sg set p x= -1:=by unfold sg;split<;>simp
def Fs (set:Int) (p:Nat) (w:List Int):List (Nat×Int):=w.map fun x=>(x.natAbs,sg set p x)
def KY (set:Int) (g:List (List Int)):Nat->List (Nat×Int)
 |0=>[]
 |p+1=>KY set g p++Fs set p (g.getD p [])
def Gr (y:Nat) (L:List (Nat×Int)):List Int:=(L.filter fun q=>q.1==y).map fun q=>q.2
theorem FM (y:Nat) (A B:List (Nat×Int)):Gr y (A++B)=Gr y A++Gr y B:=by simp[Gr]
theorem NO (y z:Nat) (s:Int):Gr y [(z,s)]=if z=y then[s]else[]:=by
 unfold Gr
 by_cases h:z=y<;>simp[h]
theorem Mb (y:Nat) (L:List (Nat×Int)):(Gr y L).length<=L.length:=by
 unfold Gr;rw[List.length_map];exact List.length_filter_le _ _
theorem Qs (set:Int) (p:Nat) (w:List Int) (i:Nat) (h:i<w.length):Fs set p (w.take (i+1))=Fs set p (w.take i)++[(w[i].natAbs,sg set p w[i])]:=by
 rw[List.take_succ_eq_append_getElem h]
 simp only[Fs,List.map_append,List.map_cons,List.map_nil]
theorem Ol (set:Int) (p:Nat) (w:List Int):(Fs set p w).length=w.length:=by simp[Fs]
theorem Wc {set:Int} {p:Nat} {x:Int} (h:(decide (x>0) != (Go.bits .and .i64 (shr .i64 set (p:Int)) 1==1))=true):sg set p x=1:=if_pos h
theorem WJ {set:Int} {p:Nat} {x:Int} (h: ¬(decide (x>0) != (Go.bits .and .i64 (shr .i64 set (p:Int)) 1==1))=true):sg set p x= -1:=if_neg h
theorem LA (y:Nat) (set:Int) (p:Nat) (w:List Int):(Gr y (Fs set p w)).length=El w y:=by
 unfold Gr Fs El
 rw[List.length_map,List.countP_eq_length_filter,List.filter_map,List.length_map]
 rfl
theorem Il (y:Nat) (set:Int) (g:List (List Int)): ∀p,p<=g.length->(Gr y (KY set g p)).length=El (g.take p).flatten y:=by
 intro p
 induction p with
 |zero=>intro _;simp[KY,Gr,El]
 |succ p ih=>
  intro hp
  rw[Cu (show p<g.length by omega),IP,<-ih (by omega)]
  show(Gr y (KY set g p++Fs set p (g.getD p []))).length=_
  rw[FM,List.length_append,LA,Bu (show p<g.length by omega)]
theorem Le (set:Int) (g:List (List Int)): ∀p,p<=g.length->(KY set g p).length=(g.take p).flatten.length:=by
 intro p
 induction p with
 |zero=>intro _;simp[KY]
 |succ p ih=>
  intro hp
  rw[Cu (show p<g.length by omega),List.length_append,<-ih (by omega)]
  show(KY set g p++Fs set p (g.getD p [])).length=_
  rw[List.length_append,Bu (show p<g.length by omega)]
  simp[Fs]
theorem Wh {y:Nat} {set:Int} {g:List (List Int)} {p:Nat} {s:Int} (h:s∈Gr y (KY set g p)):s=1\/s= -1:=by
 induction p with
 |zero=>simp[KY,Gr]at h
 |succ p ih=>
  have h':s∈Gr y (KY set g p++Fs set p (g.getD p [])):=h
  rw[FM]at h'
  rcases List.mem_append.1 h' with h'|h'
  ·exact ih h'
  ·unfold Gr Fs at h'
   obtain⟨q,hq,rfl⟩:=List.mem_map.1 h'
   obtain⟨x,_,rfl⟩:=List.mem_map.1 (List.mem_filter.1 hq).1
   exact KV _ _ _
theorem Vz (l:List Int) (h: ∀s∈l,s=1\/s= -1): -(l.length:Int)<=l.sum/\l.sum<=l.length:=by
 induction l with
 |nil=>simp
 |cons a l ih=>
  have h1:=ih fun s hs=>h s (List.mem_cons_of_mem _ hs)
  have h2:=h a List.mem_cons_self
  rw[List.sum_cons,List.length_cons]
  omega
def OU (set:Int) (g:List (List Int)):Prop:= ∀y,1<=y->y<9->(Gr y (KY set g g.length)).length<2\/(Gr y (KY set g g.length)).sum=0
def Oc (set:Int) (g:List (List Int)) (y:Nat):Int:=if(Gr y (KY set g g.length)).length<2 then 0 else(Gr y (KY set g g.length)).sum
theorem NI (set:Int) (g:List (List Int)) (y:Nat):Oc set g y=0↔(Gr y (KY set g g.length)).length<2\/(Gr y (KY set g g.length)).sum=0:=by
 unfold Oc
 split
 ·rename_i h;simp[h]
 ·rename_i h;simp[h]
theorem TZ (n:Nat) (h:n<1000):IntKind.u64.wrap (n:Int)=(n:Int):=by
 simp[IntKind.wrap,IntKind.bits,IntKind.signed];omega
theorem QE (set:Int) (y:Nat) (g:List (List Int)) (hg:BZ g) (p:Nat) (hp:p<g.length) (pre:List (Nat×Int)) (hpre:pre.length<=20) (hpm: ∀s∈Gr y pre,s=1\/s= -1) (r:Int)
 (h:Ev (fun k=>BJ.l0 k g set y (Gr y (pre++Fs set p g[p])).sum ((Gr y (pre++Fs set p g[p])).length:Nat) ((p+1:Nat):Int)) r):
 ∀(d i:Nat),i+d=g[p].length->Ev (fun k=>BJ.l1 k g set y (Gr y (pre++Fs set p (g[p].take i))).sum ((Gr y (pre++Fs set p (g[p].take i))).length:Nat) p i) r:=by
 intro d
 have hl:=hg.let g[p] (List.getElem_mem hp)
 have h4:=hg.1.2
 have h24:=(hg.2.1 g[p] (List.getElem_mem hp)).2.2
 induction d with
 |zero=>
  intro i hi
  rw[List.take_of_length_le (by omega)]
  refine Ev.step (fun k=>?_) h
  simp only[BJ.l1,Cp hp]
  rw[if_pos (by omega),if_pos (by omega),if_neg (by omega),DB hp (by omega)]
 |succ d ih=>
  intro i hi
  have hlt:i<g[p].length:=by omega
  have hx:=hl g[p][i] (List.getElem_mem hlt)
  have h1:=ih (i+1) (by omega)
  have eo:Fs set p (g[p].take (i+1))=Fs set p (g[p].take i)++[(g[p][i].natAbs,sg set p g[p][i])]:=Qs set p g[p] i hlt
  have hlen:(Gr y (pre++Fs set p (g[p].take i))).length<=44:=by
   have:=Mb y (pre++Fs set p (g[p].take i))
   rw[List.length_append,Ol,List.length_take]at this
   omega
  have hpm': ∀s∈Gr y (pre++Fs set p (g[p].take i)),s=1\/s= -1:=by
   intro s hs
   rw[FM]at hs
   rcases List.mem_append.1 hs with hs|hs
   ·exact hpm s hs
   ·unfold Gr Fs at hs
    obtain⟨q,hq,rfl⟩:=List.mem_map.1 hs
    obtain⟨x,_,rfl⟩:=List.mem_map.1 (List.mem_filter.1 hq).1
    exact KV _ _ _
  have hsum:=Vz _ hpm'
  rw[eo,<-List.append_assoc,FM,NO]at h1
  generalize Gr y (pre++Fs set p (g[p].take i))=l at h1 hlen hpm' hsum⊢
  have hu:=TZ p (by omega)
  have c1:(0:Int)<=(p:Int):=by omega
  have c2:(p:Int)<(g.length:Int):=by omega
  have c3:(i:Int)<(g[p].length:Int):=by omega
  have c4:(0:Int)<=(i:Int):=by omega
  have c5:=DB hlt (show g[p].length<=9223372036854775807 by omega)
  have e2:wrap64 ((l.length:Int)+1)=((l.length+(0+1):Nat):Int):=DB (show l.length<45 by omega) (by omega)
  obtain⟨S,hS⟩: ∃S,l.sum=S:=⟨_,rfl⟩
  rw[hS]at hsum
  have e3:wrap64 (S+1)=S+(1+0):=Fa (by omega) (by omega)
  have e4:wrap64 (S-1)=S+(-1+0):=Fa (by omega) (by omega)
  rw[hS]
  clear hpre hpm h hl h4 h24 ih hlen hpm' hsum eo hi hg
  by_cases hy:g[p][i].natAbs=y
  ·rw[if_pos hy,List.sum_append,List.length_append,hS]at h1
   simp only[List.sum_cons,List.sum_nil,List.length_cons,List.length_nil]at h1
   have hy':((g[p][i].natAbs:Nat):Int)=(y:Int):=by omega
   by_cases hc:(decide (g[p][i]>0) != (Go.bits .and .i64 (shr .i64 set (p:Int)) 1==1))=true
   ·rw[Wc hc]at h1
    refine Ev.step (fun k=>?_) h1
    simp only[BJ.l1,Cp hp,CR hlt,FF hx,Option.bind_some,hu]
    rw[if_pos c1,if_pos c2,if_pos c3,if_pos c4,if_pos hy',if_pos c1,if_pos hc,e3,e2,c5]
   ·rw[WJ hc]at h1
    refine Ev.step (fun k=>?_) h1
    simp only[BJ.l1,Cp hp,CR hlt,FF hx,Option.bind_some,hu]
    rw[if_pos c1,if_pos c2,if_pos c3,if_pos c4,if_pos hy',if_pos c1,if_neg hc,e4,e2,c5]
  ·rw[if_neg hy,List.append_nil,hS]at h1
   have hy': ¬((g[p][i].natAbs:Nat):Int)=(y:Int):=by omega
   refine Ev.step (fun k=>?_) h1
   simp only[BJ.l1,Cp hp,CR hlt,FF hx,Option.bind_some]
   rw[if_pos c1,if_pos c2,if_pos c3,if_pos c4,if_neg hy',c5]
theorem TM (set:Int) (y:Nat) (g:List (List Int)) (hg:BZ g): ∀(d p:Nat),p+d=g.length->Ev (fun k=>BJ.l0 k g set y (Gr y (KY set g p)).sum ((Gr y (KY set g p)).length:Nat) p) (Oc set g y):=by
 intro d
 induction d with
 |zero=>
  intro p hp
  have hpe:p=g.length:=by omega
  subst hpe
  refine Ev.step (f:=fun _=>some (Oc set g y)) (fun k=>?_) (Ev.now _)
  simp only[BJ.l0]
  rw[if_neg (by omega)]
  unfold Oc
  split
  ·rw[if_pos (by omega)]
  ·rw[if_neg (by omega)]
 |succ d ih=>
  intro p hp
  have hlt:p<g.length:=by omega
  have h1:=ih (p+1) (by omega)
  have e:KY set g (p+1)=KY set g p++Fs set p g[p]:=by
   show KY set g p++Fs set p (g.getD p [])=_
   rw[Bu hlt]
  rw[e]at h1
  have h2:=QE set y g hg p hlt (KY set g p) (by rw[Le set g p (by omega)];have:=DF g p;have:=hg.2.2.1;omega) (fun s hs=>Wh hs) _ h1 g[p].length 0 (by omega)
  rw[List.take_zero,show Fs set p []=[]from rfl,List.append_nil]at h2
  refine Ev.step (fun k=>?_) h2
  simp only[BJ.l0];rw[if_pos (by omega)];rfl
theorem RF (set:Int) (y:Nat) (g:List (List Int)) (hg:BZ g):Ev (fun k=>BJ.f k g set y) (Oc set g y):=
 TM set y g hg g.length 0 (by omega)
theorem Uc (n:Nat) (h:n<=4):shl .i64 1 (n:Int)=((2^n:Nat):Int):=by
 have:n=0\/n=1\/n=2\/n=3\/n=4:=by omega
 rcases this with rfl|rfl|rfl|rfl|rfl<;>decide+kernel
theorem SO (n:Nat) (h:n<=4):2^n<=16:=by
 have:n=0\/n=1\/n=2\/n=3\/n=4:=by omega
 rcases this with rfl|rfl|rfl|rfl|rfl<;>decide
def IF (g:List (List Int)) (s:Nat):Prop:= ∃t,s<=t/\t<2^g.length/\OU (t:Int) g
def Wb (g:List (List Int)):Prop:=BZ g/\IF g 0
theorem Qf (set:Int) (g:List (List Int)): ∀p,p<=g.length->∀q i,q<p->i<(Joi.row g q).length->(KY set g p)[Joi.fst g q+i]? =some ((Joi.Fx g q i).natAbs,sg set q (Joi.Fx g q i)):=by
 intro p
 induction p with
 |zero=>intro _ q i hq;omega
 |succ p ih=>
  intro hp q i hq hi
  have hlen:(KY set g p).length=Joi.fst g p:=by rw[Le set g p (by omega),Joi.DF]
  show(KY set g p++Fs set p (g.getD p []))[Joi.fst g q+i]? =_
  by_cases e:q<p
  ·have h1:=ih (by omega) q i e hi
   have h2:=Joi.KM (g:=g) (Nat.le_of_lt (show p<g.length by omega)) (show q+1<=p by omega)
   rw[Joi.Hz (show q<g.length by omega)]at h2
   rw[List.getElem?_append_left (by omega)]
   exact h1
  ·obtain rfl:q=p:=by omega
   rw[List.getElem?_append_right (by omega),hlen,show Joi.fst g q+i-Joi.fst g q=i by omega]
   unfold Fs
   have hrow:g.getD q []=Joi.row g q:=rfl
   rw[List.getElem?_map,hrow,List.getElem?_eq_getElem hi]
   unfold Joi.Fx
   rw[CR hi]
   rfl
theorem UN {L:List (Nat×Int)} {y a b:Nat} {s t:Int} (hab:a<b) (ha:L[a]? =some (y,s)) (hb:L[b]? =some (y,t)) (h2:(Gr y L).length<=2):Gr y L=[s,t]:=by
 have hal:=(List.getElem?_eq_some_iff.1 ha).1
 have hbl:=(List.getElem?_eq_some_iff.1 hb).1
 have e1:L=L.take a++((y,s)::L.drop (a+1)):=by
  have:=List.drop_eq_getElem_cons hal
  rw[(List.getElem?_eq_some_iff.1 ha).2]at this
  rw[<-this,List.take_append_drop]
 have hb':(L.drop (a+1))[b-(a+1)]? =some (y,t):=by rw[List.getElem?_drop,show a+1+(b-(a+1))=b by omega,hb]
 generalize L.drop (a+1)=M at*
 generalize b-(a+1)=c at*
 have hcl:=(List.getElem?_eq_some_iff.1 hb').1
 have e2:M=M.take c++((y,t)::M.drop (c+1)):=by
  have:=List.drop_eq_getElem_cons hcl
  rw[(List.getElem?_eq_some_iff.1 hb').2]at this
  rw[<-this,List.take_append_drop]
 have e3:Gr y L=Gr y (L.take a)++([s]++(Gr y (M.take c)++([t]++Gr y (M.drop (c+1))))):=by
  conv=>lhs;rw[e1,e2]
  rw[FM,show((y,s)::(M.take c++(y,t)::M.drop (c+1)):List (Nat×Int))=[(y,s)]++(M.take c++([(y,t)]++M.drop (c+1))) by simp,FM,FM,FM,NO,NO,if_pos rfl,if_pos rfl]
 rw[e3]at h2⊢
 simp only[List.length_append,List.length_singleton]at h2
 have n1:Gr y (L.take a)=[]:=List.length_eq_zero_iff.1 (by omega)
 have n2:Gr y (M.take c)=[]:=List.length_eq_zero_iff.1 (by omega)
 have n3:Gr y (M.drop (c+1))=[]:=List.length_eq_zero_iff.1 (by omega)
 rw[n1,n2,n3]
 rfl
theorem Qm {g:List (List Int)} (h:BZ g) {p i:Nat} (hs:Joi.Dy g p i):Di (Joi.Fx g p i):=by
 obtain⟨hp,hi⟩:=hs
 have hi':i<g[p].length:=by rw[<-IS hp];exact hi
 rw[JU hp hi']
 exact h.let g[p] (List.getElem_mem hp) _ (List.getElem_mem hi')
theorem Vr {set:Int} {p q:Nat} {x y:Int}:sg set p x≠sg set q y↔(decide (0<x) != tb set p)≠(decide (0<y) != tb set q):=by
 unfold sg
 have e1:decide (x>0)=decide (0<x):=rfl
 have e2:decide (y>0)=decide (0<y):=rfl
 rw[e1,e2]
 cases(decide (0<x) != tb set p)<;>cases(decide (0<y) != tb set q)<;>simp
theorem OR {set:Int} {g:List (List Int)} (h:BZ g):OU set g↔Joi.TH g (tb set):=by
 have main: ∀p i q j,Joi.Dy g p i->Joi.Dy g q j->Joi.LP g p i<Joi.LP g q j->(Joi.Fx g p i).natAbs=(Joi.Fx g q j).natAbs->Gr (Joi.Fx g p i).natAbs (KY set g g.length)=[sg set p (Joi.Fx g p i),sg set q (Joi.Fx g q j)]:=by
  intro p i q j hs ht hlt he
  have h1:=Qf set g g.length (Nat.le_refl _) p i hs.1 hs.2
  have h2:=Qf set g g.length (Nat.le_refl _) q j ht.1 ht.2
  rw[<-he]at h2
  refine UN hlt h1 h2 ?_
  rw[Il _ _ _ _ (Nat.le_refl _),List.take_length]
  have:=(Qm h hs).abs
  exact h.2.2.2 _ (by omega)
 constructor
 ·intro hF p i q j hs ht hne he
  have hl:=(Qm h hs).abs
  have hF1:=hF (Joi.Fx g p i).natAbs hl.1 (by omega)
  rw[<-Vr]
  rcases Nat.lt_trichotomy (Joi.LP g p i) (Joi.LP g q j)with hlt|heq|hlt
  ·rw[main p i q j hs ht hlt he]at hF1
   simp only[List.length_cons,List.length_nil,List.sum_cons,List.sum_nil]at hF1
   have:=KV set p (Joi.Fx g p i)
   omega
  ·obtain⟨e1,e2⟩:=Joi.Jv hs ht heq
   rcases hne with h|h
   ·exact absurd e1 h
   ·exact absurd e2 h
  ·have hm:=main q j p i ht hs hlt he.symm
   rw[<-he]at hm
   rw[hm]at hF1
   simp only[List.length_cons,List.length_nil,List.sum_cons,List.sum_nil]at hF1
   have:=KV set p (Joi.Fx g p i)
   omega
 ·intro hO y hy1 hy9
  by_cases hc:(Gr y (KY set g g.length)).length<2
  ·exact .inl hc
  ·refine .inr ?_
   rw[Il _ _ _ _ (Nat.le_refl _),List.take_length]at hc
   have hcnt:2<=g.flatten.countP (fun x=>x.natAbs==y):=by unfold El at hc;omega
   rw[Joi.Ma _ 0]at hcnt
   have hnd:((List.range g.flatten.length).filter fun i=>((g.flatten.getD i 0).natAbs==y)).Pairwise (· < ·):=List.pairwise_lt_range.filter _
   have hm: ∀c,c∈((List.range g.flatten.length).filter fun i=>((g.flatten.getD i 0).natAbs==y))->c<Joi.Ee g/\(Joi.xF g c).natAbs=y:=fun c hc=>by
    rw[List.mem_filter,List.mem_range,Joi.Pb]at hc
    exact⟨hc.1,by simpa[Joi.xF]using hc.2⟩
   generalize((List.range g.flatten.length).filter fun i=>((g.flatten.getD i 0).natAbs==y))=L at*
   match L,hcnt,hnd,hm with
   |a::b::t,_,hnd,hm=>
    obtain⟨a1,a2⟩:=hm a (by simp)
    obtain⟨b1,b2⟩:=hm b (by simp)
    have hab:a<b:=(List.pairwise_cons.1 hnd).1 b (by simp)
    obtain⟨p,i,hs,rfl⟩:=Joi.QP a1
    obtain⟨q,j,ht,rfl⟩:=Joi.QP b1
    rw[Joi.Sp hs]at a2
    rw[Joi.Sp ht]at b2
    have hmm:=main p i q j hs ht hab (by omega)
    rw[a2]at hmm
    rw[hmm]
    have hne:p≠q\/i≠j:=by
     by_cases e:p=q
     ·subst e
      refine .inr fun e2=>?_
      subst e2
      omega
     ·exact .inl e
    have:=hO p i q j hs ht hne (by omega)
    rw[<-Vr]at this
    have s1:=KV set p (Joi.Fx g p i)
    have s2:=KV set q (Joi.Fx g q j)
    simp only[List.sum_cons,List.sum_nil]
    omega
theorem VU (set:Int) (g:List (List Int)) (hg:BZ g) (r:Bool) (hn: ¬OU set g->Ev (fun k=>Ah.l0 k g (wrap64 (set+1))) r): ∀(d y:Nat) (b:Bool),y+d=9->1<=y->(b=true↔∀z,1<=z->z<y->Oc set g z=0)->Ev (fun k=>Ah.l1 k g set b y) (if OU set g then true else r):=by
 intro d
 induction d with
 |zero=>
  intro y b hy h1 hb
  have hf:b=true↔OU set g:=by
   rw[hb]
   unfold OU
   constructor
   ·intro h z hz1 hz2;exact(NI set g z).1 (h z hz1 (by omega))
   ·intro h z hz1 hz2;exact(NI set g z).2 (h z hz1 (by omega))
  by_cases hF:OU set g
  ·rw[if_pos hF]
   refine Ev.step (f:=fun _=>some true) (fun k=>?_) (Ev.now _)
   simp only[Ah.l1];rw[if_neg (by omega),if_pos (hf.2 hF)]
  ·rw[if_neg hF]
   refine Ev.step (fun k=>?_) (hn hF)
   simp only[Ah.l1];rw[if_neg (by omega),if_neg (fun h=>hF (hf.1 h))]
 |succ d ih=>
  intro y b hy h1 hb
  cases b with
  |true=>
   have hb':=hb.1 rfl
   refine Ev.step (f:=fun k=>(BJ.f k g set y).bind fun t=>Ah.l1 k g set (t==0) ((y+1:Nat):Int)) (fun k=>?_) (Ev.bind (RF set y g hg) (ih (y+1) (Oc set g y==0) (by omega) (by omega) ?_))
   ·simp only[Ah.l1];rw[if_pos (by omega),if_pos trivial,DB (show y<9 by omega) (by omega)]
   ·rw[beq_iff_eq]
    constructor
    ·intro h z hz1 hz2
     rcases Nat.lt_or_ge z y with hz|hz
     ·exact hb' z hz1 hz
     ·rw[show z=y by omega];exact h
    ·intro h;exact h y h1 (by omega)
  |false=>
   refine Ev.step (fun k=>?_) (ih (y+1) false (by omega) (by omega) ?_)
   ·simp only[Ah.l1];rw[if_pos (by omega),if_neg (by simp),DB (show y<9 by omega) (by omega)]
   ·constructor
    ·intro h;cases h
    ·intro h;exact hb.2 fun z hz1 hz2=>h z hz1 (by omega)
theorem Wp (g:List (List Int)) (hg:BZ g): ∀(d s:Nat),s+d=2^g.length->Ev (fun k=>Ah.l0 k g s) (decide (IF g s)):=by
 intro d
 have hp:=SO g.length hg.1.2
 have hsh:=Uc g.length hg.1.2
 have hu:=TZ g.length (by have:=hg.1.2;omega)
 induction d with
 |zero=>
  intro s hs
  rw[decide_eq_false (by rintro⟨t,h1,h2,_⟩;omega)]
  refine Ev.step (f:=fun _=>some false) (fun k=>?_) (Ev.now _)
  simp only[Ah.l0,hu,hsh];rw[if_pos (by omega),if_neg (by omega)]
 |succ d ih=>
  intro s hs
  have h1:=ih (s+1) (by omega)
  have h2:=VU (s:Int) g hg (decide (IF g (s+1))) (fun _=>by rw[show wrap64 ((s:Int)+1)=((s+1:Nat):Int)from DB (show s<17 by omega) (by omega)];exact h1) 8 1 true (by omega) (by omega) (by simp;omega)
  have e:(if OU (s:Int) g then true else decide (IF g (s+1)))=decide (IF g s):=by
   split
   ·rename_i hf
    exact(decide_eq_true (show IF g s from⟨s,Nat.le_refl _,by omega,hf⟩)).symm
   ·rename_i hf
    rw[decide_eq_decide]
    constructor
    ·rintro⟨t,h3,h4,h5⟩;exact⟨t,by omega,h4,h5⟩
    ·rintro⟨t,h3,h4,h5⟩
     rcases Nat.eq_or_lt_of_le h3 with rfl|h6
     ·exact absurd h5 hf
     ·exact⟨t,h6,h4,h5⟩
  rw[e]at h2
  refine Ev.step (fun k=>?_) h2
  simp only[Ah.l0,hu,hsh];rw[if_pos (by omega),if_pos (by omega)];rfl
theorem Qo (g:List (List Int)) (hg:g.length<=1048576) (hb:g.flatten.length<=1048576):Ev (fun k=>Ah.f k g) (decide (Wb g)):=by
 unfold Ah.f
 refine Ev.bind (DG g hg hb) ?_
 by_cases h:BZ g
 ·rw[decide_eq_true h]
  simp only[if_true]
  have e:decide (Wb g)=decide (IF g 0):=decide_eq_decide.2 ⟨fun h=>h.2,fun h'=>⟨h,h'⟩⟩
  rw[e]
  exact Wp g h (2^g.length) 0 (by omega)
 ·rw[decide_eq_false h,decide_eq_false (fun h':Wb g=>h h'.1)]
  exact Ev.now _
theorem Ql {g:List (List Int)} (h:BZ g): ∃es fs:List Nat,Joi.HN g es/\Joi.QW g fs/\es.length<=8/\fs.length<=8/\
 Ev (fun k=>Df.f k g) (((Joi.Eh g:Nat):Int)-(es.length:Int)+(g.length:Int))/\Ev (fun k=>Cn.f k g) ((Joi.Lj g fs:Nat):Int)/\Ev (fun k=>Cc.f k g) (es.map fun y:Nat=>(y:Int)):=by
 have hl1:g.length<=1048576:=by have:=h.1.2;omega
 have hl2:g.flatten.length<=1048576:=by have:=h.2.2.1;omega
 have e1:=DG g hl1 hl2
 rw[decide_eq_true h]at e1
 have v1:=Rm g h
 obtain⟨es,hn,h8,_,hm,hS⟩:=TC g h
 have hr:(es.map fun y:Nat=>(y:Int)).length=es.length:=List.length_map _
 have hv:=Ty g h
 obtain⟨fs,fn,hoc,fm,fS⟩:=Wa g h
 obtain⟨up,hup,hlen,hUF⟩:=QO g h
 refine⟨es,fs,⟨hn,hm⟩,⟨fn,fun y=>?_⟩,h8,hoc.1,?_,?_,?_⟩
 ·rw[fm]
  constructor
  ·exact fun hy=>hy.2
  ·intro hy
   refine⟨?_,hy⟩
   by_cases h9:y<9
   ·exact h9
   ·exfalso
    have:g.flatten.countP (fun x=>x.natAbs==y)=0:=by
     rw[List.countP_eq_zero]
     intro x hx
     obtain⟨w,hw,hxw⟩:=List.mem_flatten.1 hx
     have:=(h.let w hw x hxw).abs
     simp only[beq_iff_eq]
     omega
    omega
 ·unfold Df.f
  refine Ev.bind e1 (Ev.congr (fun k=>if_pos rfl) (Ev.bind v1 (Ev.bind hS ?_)))
  rw[hr,Fa (x:=((Joi.Eh g:Nat):Int)-(es.length:Int)) (by omega) (by omega),Fa (by omega) (by omega)]
  exact Ev.now _
 ·unfold Cn.f
  have hmm:=Rc fs
  refine Ev.bind e1 (Ev.congr (fun k=>if_pos rfl) (Ev.bind fS (Ev.bind hup ?_)))
  rw[if_pos ⟨⟨h.LP.1,hlen,hUF⟩,fs,rfl,hoc⟩,hmm]
  exact Ev.now _
 ·unfold Cc.f
  exact Ev.bind e1 (Ev.congr (fun k=>if_pos rfl) (Ev.bind hS (Ev.now _)))
theorem PL {g:List (List Int)} (h:BZ g):Ev (fun k=>AO.f k g) ((Joi.Hd g:Nat):Int):=by
 have hl1:g.length<=1048576:=by have:=h.1.2;omega
 have hl2:g.flatten.length<=1048576:=by have:=h.2.2.1;omega
 have e1:=DG g hl1 hl2
 rw[decide_eq_true h]at e1
 unfold AO.f
 refine Ev.bind e1 ?_
 simp only[if_true];exact Ri g h g.length 0 (by omega)
theorem UA: ∀b0 b1 b2 b3:Bool,tb (((b0.toNat+2*b1.toNat+4*b2.toNat+8*b3.toNat:Nat)):Int) 0=b0/\tb (((b0.toNat+2*b1.toNat+4*b2.toNat+8*b3.toNat:Nat)):Int) 1=b1/\tb (((b0.toNat+2*b1.toNat+4*b2.toNat+8*b3.toNat:Nat)):Int) 2=b2/\tb (((b0.toNat+2*b1.toNat+4*b2.toNat+8*b3.toNat:Nat)):Int) 3=b3:=by decide+kernel
theorem Uv (f:Nat->Bool) (n:Nat) (hn:n<=4): ∃t:Nat,t<2^n/\∀p,p<n->tb (t:Int) p=f p:=by
 have k:=UA (decide (0<n)&&f 0) (decide (1<n)&&f 1) (decide (2<n)&&f 2) (decide (3<n)&&f 3)
 refine⟨(decide (0<n)&&f 0).toNat+2*(decide (1<n)&&f 1).toNat+4*(decide (2<n)&&f 2).toNat+8*(decide (3<n)&&f 3).toNat,?_,?_⟩
 rotate_left
 ·intro p hp
  have hp4:p<4:=by omega
  match p,hp,hp4 with
  |0,hp,_=>refine k.1.trans ?_;rw[decide_eq_true hp];simp
  |1,hp,_=>refine k.2.1.trans ?_;rw[decide_eq_true hp];simp
  |2,hp,_=>refine k.2.2.1.trans ?_;rw[decide_eq_true hp];simp
  |3,hp,_=>refine k.2.2.2.trans ?_;rw[decide_eq_true hp];simp
 ·match n,hn with
  |0,_=>simp
  |1,_=>cases f 0<;>simp
  |2,_=>cases f 0<;>cases f 1<;>simp
  |3,_=>cases f 0<;>cases f 1<;>cases f 2<;>simp
  |4,_=>cases f 0<;>cases f 1<;>cases f 2<;>cases f 3<;>simp
theorem QX {g:List (List Int)} (h:BZ g):Wb g↔∃t,Joi.TH g t:=by
 constructor
 ·rintro⟨_,t,_,_,hF⟩
  exact⟨_,(OR h).1 hF⟩
 ·rintro⟨f,hf⟩
  obtain⟨t,h1,h2⟩:=Uv f g.length h.1.2
  refine⟨h,t,Nat.zero_le _,h1,(OR h).2 fun p i q j hs ht hne he=>?_⟩
  rw[h2 p hs.1,h2 q ht.1]
  exact hf p i q j hs ht hne he
theorem Rq {g h:List (List Int)} (hg:BZ g) (hh:BZ h) (s:Joi.CJ g h): ∃(x b p:Int) (o:Bool),Ev (fun k=>Df.f k g) x/\Ev (fun k=>Df.f k h) x/\Ev (fun k=>Cn.f k g) b/\Ev (fun k=>Cn.f k h) b/\
 Ev (fun k=>AO.f k g) p/\Ev (fun k=>AO.f k h) p/\Ev (fun k=>Ah.f k g) o/\Ev (fun k=>Ah.f k h) o:=by
 obtain⟨es,fs,he,hf,_,_,v1,b1,_⟩:=Ql hg
 obtain⟨es',fs',he',hf',_,_,v2,b2,_⟩:=Ql hh
 have p1:=PL hg
 have p2:=PL hh
 have t1:=Qo g (by have:=hg.1.2;omega) (by have:=hg.2.2.1;omega)
 have t2:=Qo h (by have:=hh.1.2;omega) (by have:=hh.2.2.1;omega)
 have hx:((Joi.Eh h:Nat):Int)-(es'.length:Int)+(h.length:Int)=((Joi.Eh g:Nat):Int)-(es.length:Int)+(g.length:Int):=by
  have:=s.chi es es' he he'
  omega
 rw[hx]at v2
 rw[<-s.bord fs fs' hf hf']at b2
 rw[<-s.parts]at p2
 have ht:decide (Wb h)=decide (Wb g):=by rw[decide_eq_decide,QX hh,QX hg];exact s.two.symm
 rw[ht]at t2
 exact⟨_,_,_,_,v1,v2,b1,b2,p1,p2,t1,t2⟩
theorem VT (a b:List Int) (hab:a.length=b.length) (hl:a.length<=1048576): ∀(d i:Nat),i+d=a.length->Ev (fun k=>Bg.l0 k a b i) (decide (a.drop i=b.drop i)):=by
 intro d
 induction d with
 |zero=>
  intro i hi
  have e:decide (a.drop i=b.drop i)=true:=decide_eq_true (by rw[List.drop_of_length_le (by omega),List.drop_of_length_le (by omega)])
  rw[e]
  refine Ev.step (f:=fun _=>some true) (fun k=>?_) (Ev.now _)
  simp only[Bg.l0];rw[if_neg (by omega)]
 |succ d ih=>
  intro i hi
  have hlt:i<a.length:=by omega
  have hlt2:i<b.length:=by omega
  have ea:a.drop i=a[i]::a.drop (i+1):=List.drop_eq_getElem_cons hlt
  have eb:b.drop i=b[i]::b.drop (i+1):=List.drop_eq_getElem_cons hlt2
  by_cases h:a[i]=b[i]
  ·have h1:=ih (i+1) (by omega)
   have e:decide (a.drop i=b.drop i)=decide (a.drop (i+1)=b.drop (i+1)):=by
    rw[decide_eq_decide,ea,eb,h,List.cons.injEq]
    exact⟨fun x=>x.2,fun x=>⟨rfl,x⟩⟩
   rw[e]
   refine Ev.step (fun k=>?_) h1
   simp only[Bg.l0,CR hlt,CR hlt2]
   rw[if_pos (by omega),if_pos (by omega),if_pos (by omega),if_pos h,DB hlt (by omega)]
  ·have e:decide (a.drop i=b.drop i)=false:=decide_eq_false (by rw[ea,eb,List.cons.injEq];exact fun x=>h x.1)
   rw[e]
   refine Ev.step (f:=fun _=>some false) (fun k=>?_) (Ev.now _)
   simp only[Bg.l0,CR hlt,CR hlt2]
   rw[if_pos (by omega),if_pos (by omega),if_pos (by omega),if_neg h]
theorem SL (a b:List Int) (hl:a.length<=1048576):Ev (fun k=>Bg.f k a b) (decide (a=b)):=by
 unfold Bg.f
 by_cases h:a.length=b.length
 ·have:=VT a b h hl a.length 0 (by omega)
  rw[List.drop_zero,List.drop_zero]at this
  exact Ev.congr (fun k=>if_pos (by omega)) this
 ·have e:decide (a=b)=false:=decide_eq_false (fun x=>h (by rw[x]))
  rw[e]
  refine Ev.congr (fun k=>if_neg (by omega)) (Ev.now _)
theorem PR (a:List Int) (hl:a.length<=1048576):Ev (fun k=>Bg.f k a a) true:=by
 have:=SL a a hl
 rwa[decide_eq_true rfl]at this
theorem SI (a:List (List Int)) (hl:bulk a<=1048576): ∀(d i:Nat),i+d=a.length->Ev (fun k=>BE.l0 k a a i) true:=by
 intro d
 induction d with
 |zero=>
  intro i hi
  refine Ev.step (f:=fun _=>some true) (fun k=>?_) (Ev.now _)
  simp only[BE.l0];rw[if_neg (by omega)]
 |succ d ih=>
  intro i hi
  have hlt:i<a.length:=by omega
  have hb:a[i].length<=1048576:=by have:=EN (List.getElem_mem hlt);unfold bulk at hl;omega
  have hal:a.length<=1048576:=by unfold bulk at hl;omega
  have h1:=ih (i+1) (by omega)
  refine Ev.step (f:=fun k=>(Bg.f k a[i] a[i]).bind fun t=>if t=true then BE.l0 k a a ((i+1:Nat):Int)else some false) (fun k=>?_) (Ev.bind (PR _ hb) (Ev.congr (fun _=>if_pos rfl) h1))
  simp only[BE.l0,Cp hlt]
  rw[if_pos (by omega),if_pos (by omega),if_pos (by omega),DB hlt (by omega)]
theorem Ir (a:List (List Int)) (hl:bulk a<=1048576):Ev (fun k=>BE.f k a a) true:=by
 unfold BE.f
 exact Ev.congr (fun k=>if_pos rfl) (SI a hl a.length 0 (by omega))
theorem Xl {α:Type} (R:α->α->Prop): ∀l:List α,l≠[]->1<=Kl.K R l:=by
 intro l
 induction l with
 |nil=>exact fun h=>(h rfl).elim
 |cons a t ih=>
  intro _
  cases t with
  |nil=>
   unfold Kl.K
   rw[if_neg (by rintro⟨b,hb,_⟩;cases hb)]
   omega
  |cons b t=>
   have:=ih (by simp)
   unfold Kl.K
   omega
theorem St (l:List Int) (x:Int) (hl:l.length<=1048576): ∀(d i:Nat),i+d=l.length->Ev (fun k=>Cw.l0 k l x i) (decide (x∈l.drop i)):=by
 intro d
 induction d with
 |zero=>
  intro i hi
  have e:decide (x∈l.drop i)=false:=decide_eq_false (by rw[List.drop_of_length_le (by omega)];simp)
  rw[e]
  refine Ev.step (f:=fun _=>some false) (fun k=>?_) (Ev.now _)
  simp only[Cw.l0];rw[if_neg (by omega)]
 |succ d ih=>
  intro i hi
  have hlt:i<l.length:=by omega
  have ed:l.drop i=l[i]::l.drop (i+1):=List.drop_eq_getElem_cons hlt
  by_cases h:l[i]=x
  ·have e:decide (x∈l.drop i)=true:=decide_eq_true (by rw[ed,h];exact List.mem_cons_self)
   rw[e]
   refine Ev.step (f:=fun _=>some true) (fun k=>?_) (Ev.now _)
   simp only[Cw.l0,CR hlt]
   rw[if_pos (by omega),if_pos (by omega),if_pos h]
  ·have e:decide (x∈l.drop i)=decide (x∈l.drop (i+1)):=by
    rw[decide_eq_decide,ed,List.mem_cons]
    exact⟨fun k=>k.resolve_left fun e=>h e.symm,.inr⟩
   rw[e]
   refine Ev.step (fun k=>?_) (ih (i+1) (by omega))
   simp only[Cw.l0,CR hlt]
   rw[if_pos (by omega),if_pos (by omega),if_neg h,DB hlt (by omega)]
theorem RP (l:List Int) (x:Int) (hl:l.length<=1048576):Ev (fun k=>Cw.f k l x) (decide (x∈l)):=by
 have:=St l x hl l.length 0 (by omega)
 rw[List.drop_zero]at this
 exact this
theorem Vt (o single:List (List Int)) (only:Bool) (h:only=true->BZ o/\BZ single/\single.length=1/\Joi.CJ o single):Ev (fun k=>if only=true then((AO.f k o).bind fun t=>(if t=1 then(some ((single.length:Int)==1))else(none)))else(some true)) true:=by
 cases only with
 |false=>exact Ev.neg Bool.false_ne_true (Ev.now _)
 |true=>
  obtain⟨h1,h2,h3,h4⟩:=h rfl
  have p1:=PL h1
  have hp:Joi.Hd o=1:=by
   rw[h4.parts]
   have k1:=Joi.RU single
   have k2:=Xl (Joi.EG (Joi.Sh single)) (List.range single.length) (by rw[h3];simp)
   have k3:Joi.Hd single=Kl.K (Joi.EG (Joi.Sh single)) (List.range single.length):=rfl
   omega
  rw[hp]at p1
  refine Ev.pos rfl (Ev.bind p1 (Ev.pos rfl ?_))
  rw[h3]
  exact Ev.now _
theorem Xo (g:List (List Int)) (h:BZ g) (q:Nat) (hq:q<g.length) (m n X:Nat) (hmn:m<n) (hn:n<g[q].length) (hX:1<=X/\X<=8) (h0:El g.flatten X=0) (hr:BZ (IZ g q g[q] m n X)) (o single:List (List Int)) (only:Bool)
 (hE:Ev (fun k=>if only=true then((AO.f k o).bind fun t=>(if t=1 then(some ((single.length:Int)==1))else(none)))else(some true)) true)
 (es:List Nat) (hes:es.length<=8) (hme: ∀y∈es,Joi.IN (IZ g q g[q] m n X) y): ∀(d i:Nat),i+d=es.length->
 Ev (fun k=>AT.l1 k g q (IZ g q g[q] m n X) o single only (es.map fun y:Nat=>(y:Int)) i) true:=by
 have hlen:(es.map fun y:Nat=>(y:Int)).length=es.length:=List.length_map _
 obtain⟨gs,_,hgs,_,hgl,_,_,_,e1⟩:=Ql h
 have hgw:(gs.map fun y:Nat=>(y:Int)).length=gs.length:=List.length_map _
 obtain⟨back,b1,b2,b3,b4⟩:=Tq h hq hmn hn hX h0 hr
 have hqb:q<back.length:=by omega
 have b4:=b4 hqb
 have hw:=(h.2.1 g[q] (List.getElem_mem hq)).2
 have hwb:=(b3.2.1 back[q] (List.getElem_mem hqb)).2
 have hg4:=h.1.2
 intro d
 induction d with
 |zero=>
  intro i hi
  refine Ev.shift ?_
  simp only[AT.l1]
  exact Ev.neg (by omega) hE
 |succ d ih=>
  intro i hi
  have hlt:i<es.length:=by omega
  have hlt2:i<(es.map fun y:Nat=>(y:Int)).length:=by omega
  have hrd:rd (es.map fun y:Nat=>(y:Int)) (i:Int)=(es[i]:Int):=by rw[CR hlt2,List.getElem_map]
  have hnext:=ih (i+1) (by omega)
  have hh:=RP (gs.map fun y:Nat=>(y:Int)) (es[i]:Int) (by omega)
  refine Ev.shift ?_
  simp only[AT.l1,hrd]
  refine Ev.pos (by omega) (Ev.bind e1 (Ev.pos (by omega) (Ev.bind hh ?_)))
  rw[DB (n:=es.length) hlt (by omega)]
  by_cases hin:es[i]∈gs
  ·have:decide ((es[i]:Int)∈gs.map fun y:Nat=>(y:Int))=true:=decide_eq_true (List.mem_map.2 ⟨_,hin,rfl⟩)
   rw[this]
   exact Ev.pos rfl hnext
  ·have:decide ((es[i]:Int)∈gs.map fun y:Nat=>(y:Int))=false:=decide_eq_false fun k=>by
    obtain⟨y,hy,e⟩:=List.mem_map.1 k
    have:y=es[i]:=by omega
    exact hin (this▸hy)
   rw[this]
   refine Ev.neg Bool.false_ne_true ?_
   have hx:es[i]=X:=by
    obtain⟨w,hw2,x,hx,e⟩:=hme es[i] (List.getElem_mem hlt)
    by_cases c:x.natAbs=X
    ·omega
    ·exfalso
     refine hin ((Joi.Cd hgs _).2 ?_)
     rw[<-e]
     rw[JI]at hw2
     have old: ∀y∈g[q],Joi.IN g y.natAbs:=fun y hy=>⟨g[q],List.getElem_mem hq,y,hy,rfl⟩
     rcases List.mem_append.1 hw2 with hw2|hw2
     ·rcases List.mem_or_eq_of_mem_set hw2 with hw2|rfl
      ·exact⟨w,hw2,x,hx,rfl⟩
      ·rcases List.mem_append.1 hx with hx|hx
       ·exact old x (List.mem_of_mem_take (List.mem_of_mem_drop hx))
       ·rw[List.mem_singleton.1 hx]at c;exact absurd (Int.natAbs_natCast X) c
     ·rw[List.mem_singleton.1 hw2]at hx
      rcases List.mem_cons.1 hx with rfl|hx
      ·exact absurd (by rw[Int.natAbs_neg];exact Int.natAbs_natCast X) c
      ·rcases List.mem_append.1 hx with hx|hx
       ·exact old x (List.mem_of_mem_drop hx)
       ·exact old x (List.mem_of_mem_take hx)
   rw[hx]
   have hc:=OL back[q] g[q] (by have:=hwb.2;omega) (by have:=hw.2;omega) hwb hw
   have hrw:=Lk g[q] (by have:=hw.2;omega) hw
   refine Ev.bind b1 ?_
   dsimp only
   refine Ev.pos rfl (Ev.pos (by omega) (Ev.pos (by omega) (Ev.pos (by omega) (Ev.pos (by omega) ?_))))
   rw[Cp hqb,Cp hq]
   refine Ev.bind hc ?_
   by_cases hcp:Jq (EW back[q]) (EW g[q])
   ·rw[decide_eq_true hcp]
    exact Ev.pos rfl hnext
   ·rw[decide_eq_false hcp]
    refine Ev.neg Bool.false_ne_true (Ev.bind hrw (Ev.neg (fun e=>hcp ?_) hnext))
    rw[b4]
    exact Rs hw m (by omega)
theorem XR (g:List (List Int)) (q:Int) (cut:List (List Int)) (ok:Bool) (o single:List (List Int)) (only:Bool) (B A:List (List (List Int))) (D:List Bool) (hB:B.length=8) (hA:A.length=8) (hD:D.length=8)
 (hall: ∀i,∀h1:i<D.length,∀h2:i<B.length,∀h3:i<A.length,D[i]=true->BZ B[i]/\BZ A[i]/\Joi.CJ B[i] A[i])
 (hend:Ev (fun k=>if ok=true then((Cc.f k cut).bind fun t1214=>(AT.l1 k g q cut o single only t1214 0))else(if only=true then((AO.f k o).bind fun t=>(if t=1 then(some ((single.length:Int)==1))else(none)))else(some true))) true):
 ∀(d i:Nat),i+d=8->Ev (fun k=>AT.l0 k g q cut ok o single only B A D i) true:=by
 intro d
 induction d with
 |zero=>
  intro i hi
  refine Ev.shift ?_
  simp only[AT.l0]
  exact Ev.neg (by omega) hend
 |succ d ih=>
  intro i hi
  have h1:i<D.length:=by omega
  have h2:i<B.length:=by omega
  have h3:i<A.length:=by omega
  have hnext:=ih (i+1) (by omega)
  have eB:Dh B (i:Int)=B[i]:=by unfold Dh;rw[Int.toNat_natCast,List.getD_eq_getElem?_getD,List.getElem?_eq_getElem h2,Option.getD_some]
  have eA:Dh A (i:Int)=A[i]:=by unfold Dh;rw[Int.toNat_natCast,List.getD_eq_getElem?_getD,List.getElem?_eq_getElem h3,Option.getD_some]
  refine Ev.shift ?_
  simp only[AT.l0,eB,eA,VC h1]
  refine Ev.pos (by omega) (Ev.pos (by omega) ?_)
  rw[DB (n:=8) (by omega) (by omega)]
  by_cases hd:D[i]=true
  ·obtain⟨g1,g2,g3⟩:=hall i h1 h2 h3 hd
   obtain⟨x,b,p,t,x1,x2,b1,b2,p1,p2,t1,t2⟩:=Rq g1 g2 g3
   refine Ev.pos hd (Ev.pos (by omega) (Ev.bind x1 (Ev.pos (by omega) (Ev.bind x2 (Ev.pos rfl ?_)))))
   refine Ev.bind b1 (Ev.bind b2 (Ev.pos rfl (Ev.bind p1 (Ev.bind p2 (Ev.pos rfl (Ev.bind t1 (Ev.bind t2 (Ev.neg (IG _) hnext))))))))
  ·exact Ev.neg hd hnext
theorem FnMoves:AT.Pure:=by
 intro l h1 h2 h3
 unfold AT.f
 by_cases hb:(l.length:Int)>1048576
 ·exact⟨0,by rw[TT,decide_eq_true hb,Option.bind_some,if_pos rfl]⟩
 refine Ev.rounds ?_
 rw[TT,decide_eq_false hb]
 have hl:l.length<=1048576:=by omega
 obtain⟨g,p,i,j,d1,k1⟩:=PS l hl
 obtain⟨h,x,d2,k2⟩:=Oo l hl
 obtain⟨a,ax,ak,d3,k3⟩:=OT l hl
 obtain⟨b,n,d4,k4⟩:=Me l hl
 obtain⟨c,y,z,d5,k5⟩:=OK l hl
 obtain⟨r,e,d6,k6⟩:=Lc l hl
 obtain⟨w,q,u,d7,k7⟩:=MU l hl
 obtain⟨o,d8,k8⟩:=Ps l hl
 obtain⟨cut,ok,c1,v1,s1,i1⟩:=Lg g (by omega) p i j
 obtain⟨R,c2,v2,s2,i2⟩:=GC h (by omega) x
 obtain⟨Dn,four,c3,v3,s3,i3⟩:=LG a (by omega) ax ak
 obtain⟨mirror,seven,c4,v4,s4,i4⟩:=KG b (by omega) n
 obtain⟨swapped,ten,c5,v5,s5,i5⟩:=LJ c (by omega) y z
 obtain⟨reversed,v,c6,v6,s6,i6⟩:=KI r (by omega) e
 obtain⟨less,fine,c7,v7,s7,i7⟩:=IV w (by omega) q u
 obtain⟨single,only,c8,v8,s8,i8⟩:=Lf o (by omega)
 have hE:=Vt o single only v8
 have hend:Ev (fun k=>if ok=true then((Cc.f k cut).bind fun t1214=>(AT.l1 k g p cut o single only t1214 0))else(if only=true then((AO.f k o).bind fun t=>(if t=1 then(some ((single.length:Int)==1))else(none)))else(some true))) true:=by
  cases ok with
  |false=>exact Ev.neg Bool.false_ne_true hE
  |true=>
   obtain⟨hg,q',hq',m,n',X,rfl,rfl,rfl,hmn,hn,hX1,hX8,h0,rfl,hr⟩:=v1 rfl
   obtain⟨es,_,hes,_,he8,_,_,_,ee⟩:=Ql hr
   refine Ev.pos rfl (Ev.bind ee ?_)
   exact Xo g hg q' hq' m n' X hmn hn ⟨hX1,hX8⟩ h0 hr o single only hE es he8 (fun y hy=>(Joi.Cd hes y).1 hy) es.length 0 (by omega)
 have hall:=XR g p cut ok o single only [g,h,a,b,c,r,w,o] [cut,R.1,Dn,mirror,swapped,reversed,less,single] [ok,R.2,four,seven,ten,v,fine,only] rfl rfl rfl (by
  intro i h1 h2 h3 hd
  match i,h1 with
  |0,_=>
   obtain⟨hg,q',hq',m,n',X,rfl,rfl,rfl,hmn,hn,hX1,hX8,h0,rfl,hr⟩:=v1 hd
   exact⟨hg,hr,TF hg hq' hmn hn hX1 h0⟩
  |1,_=>
   have k:=v2 hd
   exact⟨k.2.2.2.1,k.1,NC k.2.2.2.1 k⟩
  |2,_=>
   obtain⟨hg,q',hq',rfl,rfl,hr⟩:=v3 hd
   exact⟨hg,hr,RQ hg hq' ak hr⟩
  |3,_=>
   obtain⟨hg,q',hq',rfl,rfl,hr⟩:=v4 hd
   exact⟨hg,hr,OY hg hq' hr⟩
  |4,_=>
   obtain⟨hg,hx,hy,rfl,hr⟩:=v5 hd
   exact⟨hg,hr,Joi.Ou (VS hx hy) hg.nz⟩
  |5,_=>
   obtain⟨hg,hx,rfl,hr⟩:=v6 hd
   exact⟨hg,hr,Joi.Ou (Ur hx) hg.nz⟩
  |6,_=>
   obtain⟨hg,q',hq',m,rfl,hw3,hm,he,rfl,hr⟩:=v7 hd
   exact⟨hg,hr,PC hg hq' hw3 hm he hr⟩
  |7,_=>
   obtain⟨hg,hr,_,hs⟩:=v8 hd
   exact⟨hg,hr,hs⟩) hend 8 0 rfl
 have hj:Ev (fun k=>AT.j0 k g p cut ok h R.1 R.2 a Dn four b mirror seven c swapped ten r reversed v w less fine o single only false) true:=by
  refine Ev.shift ?_
  simp only[AT.j0]
  exact Ev.neg Bool.false_ne_true hall
 refine Ev.Hm (Ev.neg Bool.false_ne_true ?_)
 refine Ev.bind d1 (Ev.bind i1 (Ev.bind s1 (Ev.bind d2 (Ev.bind i2 (Ev.bind s2 (Ev.bind d3 (Ev.bind i3 (Ev.bind s3 (Ev.bind d4 (Ev.bind i4 (Ev.bind s4 ?_)))))))))))
 refine Ev.bind d5 (Ev.bind i5 (Ev.bind s5 (Ev.bind d6 (Ev.bind i6 (Ev.bind s6 (Ev.bind d7 (Ev.bind i7 (Ev.bind s7 (Ev.bind d8 (Ev.bind i8 (Ev.bind s8 ?_)))))))))))
 refine Ev.neg (IG _) (Ev.bind (Ir _ c1) (Ev.pos rfl ?_))
 refine Ev.neg (IG _) (Ev.bind (Ir _ c2) (Ev.pos rfl ?_))
 refine Ev.neg (IG _) (Ev.bind (Ir _ c3) (Ev.pos rfl ?_))
 refine Ev.neg (IG _) (Ev.bind (Ir _ c4) (Ev.pos rfl ?_))
 refine Ev.neg (IG _) (Ev.bind (Ir _ c5) (Ev.pos rfl ?_))
 refine Ev.neg (IG _) (Ev.bind (Ir _ c6) (Ev.pos rfl ?_))
 refine Ev.neg (IG _) (Ev.bind (Ir _ c7) (Ev.pos rfl ?_))
 refine Ev.neg (IG _) (Ev.bind (Ir _ c8) ?_)
 exact hj
end Go.Proofs.Ytlnddmkkgjlmbaa.Pure
