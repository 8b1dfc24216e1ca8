/- Parts of this claim's walks and of its plain proof. No conditions of their own. -/
namespace Go.Proofs.Ytlnddmkkgjlmbaa.Kl
open Classical
variable {α : Type} {β : Type}
structure IX (R:α->α->Prop):Prop where
 refl: ∀x,R x x
 symm: ∀{x y},R x y->R y x
 trans: ∀{x y z},R x y->R y z->R x z
noncomputable def K (R:α->α->Prop):List α->Nat
 |[]=>0
 |a::l=>(if∃b,b∈l/\R a b then 0 else 1)+K R l
theorem Pt (R:α->α->Prop) (h:IX R): ∀l:List α,∃r:List α,(∀a,a∈r->a∈l)/\r.Pairwise (fun x y=> ¬R x y)/\r.length=K R l/\∀a,a∈l->∃b,b∈r/\R a b:=by
 intro l
 induction l with
 |nil=>exact⟨[],by simp,List.Pairwise.nil,rfl,by simp⟩
 |cons a l ih=>
  obtain⟨r,h1,h2,h3,h4⟩:=ih
  by_cases hb: ∃b,b∈l/\R a b
  ·refine⟨r,fun x hx=>List.mem_cons_of_mem _ (h1 x hx),h2,?_,?_⟩
   ·rw[K,if_pos hb,h3];omega
   ·intro x hx
    rcases List.mem_cons.1 hx with rfl|hx
    ·obtain⟨b,hb1,hb2⟩:=hb
     obtain⟨c,hc1,hc2⟩:=h4 b hb1
     exact⟨c,hc1,h.trans hb2 hc2⟩
    ·exact h4 x hx
  ·refine⟨a::r,?_,?_,?_,?_⟩
   ·intro x hx
    rcases List.mem_cons.1 hx with rfl|hx
    ·exact List.mem_cons_self
    ·exact List.mem_cons_of_mem _ (h1 x hx)
   ·refine List.Pairwise.cons (fun b hbr hab=>hb ⟨b,h1 b hbr,hab⟩) h2
   ·rw[K,if_neg hb,List.length_cons,h3];omega
   ·intro x hx
    rcases List.mem_cons.1 hx with rfl|hx
    ·exact⟨x,List.mem_cons_self,h.refl x⟩
    ·obtain⟨b,hb1,hb2⟩:=h4 x hx
     exact⟨b,List.mem_cons_of_mem _ hb1,hb2⟩
theorem FH (R:α->α->Prop) (h:IX R) (l s:List α) (hs: ∀a,a∈s->a∈l) (hp:s.Pairwise (fun x y=> ¬R x y)):s.length<=K R l:=by
 obtain⟨r,h1,h2,h3,h4⟩:=Pt R h l
 rw[<-h3]
 have key: ∀s:List α,(∀a,a∈s->a∈l)->s.Pairwise (fun x y=> ¬R x y)->∃t:List α,t.length=s.length/\t.Nodup/\(∀b,b∈t->b∈r/\∃a,a∈s/\R a b):=by
  intro s
  induction s with
  |nil=>intro _ _;exact⟨[],rfl,List.nodup_nil,by simp⟩
  |cons a s ih=>
   intro hs hp
   obtain⟨t,ht1,ht2,ht3⟩:=ih (fun x hx=>hs x (List.mem_cons_of_mem _ hx)) (List.pairwise_cons.1 hp).2
   obtain⟨b,hb1,hb2⟩:=h4 a (hs a List.mem_cons_self)
   refine⟨b::t,by simp[ht1],?_,?_⟩
   ·refine List.nodup_cons.2 ⟨fun hbt=>?_,ht2⟩
    obtain⟨_,c,hc1,hc2⟩:=ht3 b hbt
    exact(List.pairwise_cons.1 hp).1 c hc1 (h.trans hb2 (h.symm hc2))
   ·intro c hc
    rcases List.mem_cons.1 hc with rfl|hc
    ·exact⟨hb1,a,List.mem_cons_self,hb2⟩
    ·obtain⟨x1,x,x2,x3⟩:=ht3 c hc
     exact⟨x1,x,List.mem_cons_of_mem _ x2,x3⟩
 obtain⟨t,ht1,ht2,ht3⟩:=key s hs hp
 rw[<-ht1]
 exact ht2.length_le_of_subset (fun b hb=>(ht3 b hb).1)
theorem Xw (R:α->α->Prop) (R':β->β->Prop) (h:IX R) (h':IX R') (l:List α) (l':List β) (G:α->β->Prop)
 (hG: ∀a,a∈l->∃b,b∈l'/\G a b) (hi: ∀a b c d,a∈l->c∈l->b∈l'->d∈l'->G a b->G c d->R' b d->R a c):K R l<=K R' l':=by
 obtain⟨r,h1,h2,h3,h4⟩:=Pt R h l
 rw[<-h3]
 have key: ∀s:List α,(∀a,a∈s->a∈l)->s.Pairwise (fun x y=> ¬R x y)->∃t:List β,t.length=s.length/\t.Pairwise (fun x y=> ¬R' x y)/\(∀b,b∈t->b∈l'/\∃a,a∈s/\G a b):=by
  intro s
  induction s with
  |nil=>intro _ _;exact⟨[],rfl,List.Pairwise.nil,by simp⟩
  |cons a s ih=>
   intro hs hp
   obtain⟨t,ht1,ht2,ht3⟩:=ih (fun x hx=>hs x (List.mem_cons_of_mem _ hx)) (List.pairwise_cons.1 hp).2
   obtain⟨b,hb1,hb2⟩:=hG a (hs a List.mem_cons_self)
   refine⟨b::t,by simp[ht1],?_,?_⟩
   ·refine List.pairwise_cons.2 ⟨fun d hd hbd=>?_,ht2⟩
    obtain⟨hdl,c,hc1,hc2⟩:=ht3 d hd
    exact(List.pairwise_cons.1 hp).1 c hc1 (hi a b c d (hs a List.mem_cons_self) (hs c (List.mem_cons_of_mem _ hc1)) hb1 hdl hb2 hc2 hbd)
   ·intro c hc
    rcases List.mem_cons.1 hc with rfl|hc
    ·exact⟨hb1,a,List.mem_cons_self,hb2⟩
    ·obtain⟨x1,x,x2,x3⟩:=ht3 c hc
     exact⟨x1,x,List.mem_cons_of_mem _ x2,x3⟩
 obtain⟨t,ht1,ht2,ht3⟩:=key r h1 h2
 rw[<-ht1]
 exact FH R' h' l' t (fun b hb=>(ht3 b hb).1) ht2
theorem Nl (R:α->α->Prop) (R':β->β->Prop) (h:IX R) (h':IX R') (l:List α) (l':List β) (G:α->β->Prop)
 (hG: ∀a,a∈l->∃b,b∈l'/\G a b) (hG': ∀b,b∈l'->∃a,a∈l/\G a b)
 (hi: ∀a b c d,a∈l->c∈l->b∈l'->d∈l'->G a b->G c d->(R' b d↔R a c)):K R l=K R' l':=
 Nat.le_antisymm (Xw R R' h h' l l' G hG fun a b c d ha hc hb hd g1 g2 hr=>(hi a b c d ha hc hb hd g1 g2).1 hr)
  (Xw R' R h' h l' l (fun b a=>G a b) hG' fun b a d c hb hd ha hc g1 g2 hr=>(hi a b c d ha hc hb hd g1 g2).2 hr)
theorem Ds (R R':α->α->Prop) (h:IX R) (h':IX R') (l l':List α) (hl: ∀a,a∈l↔a∈l') (hR: ∀a b,a∈l->b∈l->(R a b↔R' a b)):K R l=K R' l':=
 Nl R R' h h' l l' Eq (fun a ha=>⟨a,(hl a).1 ha,rfl⟩) (fun a ha=>⟨a,(hl a).2 ha,rfl⟩) (by
  rintro a b c d ha hc hb hd rfl rfl
  exact(hR a c ha hc).symm)
def Jg (R:α->α->Prop) (a b:α):α->α->Prop:=fun x y=>R x y\/(R x a/\R y b)\/(R x b/\R y a)
theorem Fv {R:α->α->Prop} (h:IX R) (a b:α):IX (Jg R a b):=by
 refine⟨fun x=> .inl (h.refl x),?_,?_⟩
 ·intro x y hxy
  rcases hxy with hxy|⟨h1,h2⟩|⟨h1,h2⟩
  ·exact .inl (h.symm hxy)
  ·exact .inr (.inr ⟨h2,h1⟩)
  ·exact .inr (.inl ⟨h2,h1⟩)
 ·intro x y z hxy hyz
  rcases hxy with hxy|⟨h1,h2⟩|⟨h1,h2⟩<;>rcases hyz with hyz|⟨h3,h4⟩|⟨h3,h4⟩
  ·exact .inl (h.trans hxy hyz)
  ·exact .inr (.inl ⟨h.trans hxy h3,h4⟩)
  ·exact .inr (.inr ⟨h.trans hxy h3,h4⟩)
  ·exact .inr (.inl ⟨h1,h.trans (h.symm hyz) h2⟩)
  ·exact .inl (h.trans h1 (h.trans (h.symm h3) (h.trans h2 (h.symm h4))))
  ·exact .inl (h.trans h1 (h.symm h4))
  ·exact .inr (.inr ⟨h1,h.trans (h.symm hyz) h2⟩)
  ·exact .inl (h.trans h1 (h.symm h4))
  ·exact .inl (h.trans h1 (h.trans (h.symm h3) (h.trans h2 (h.symm h4))))
theorem Nf {R:α->α->Prop} {a b x y:α} (h:R x y):Jg R a b x y:= .inl h
theorem IH {R:α->α->Prop} (h:IX R) (a b:α):Jg R a b a b:= .inr (.inl ⟨h.refl a,h.refl b⟩)
theorem IJ {R S:α->α->Prop} (hS:IX S) (hR: ∀x y,R x y->S x y) {a b:α} (hab:S a b): ∀x y,Jg R a b x y->S x y:=by
 intro x y h
 rcases h with h|⟨h1,h2⟩|⟨h1,h2⟩
 ·exact hR _ _ h
 ·exact hS.trans (hR _ _ h1) (hS.trans hab (hS.symm (hR _ _ h2)))
 ·exact hS.trans (hR _ _ h1) (hS.trans (hS.symm hab) (hS.symm (hR _ _ h2)))
theorem JS {R:α->α->Prop} (h:IX R) {a b:α} (hab:R a b) (l:List α):K (Jg R a b) l=K R l:=by
 refine Ds _ _ (Fv h a b) h l l (fun _=>Iff.rfl) fun x y _ _=>⟨fun hm=>IJ h (fun _ _ z=>z) hab x y hm,Nf⟩
theorem Kp {R:α->α->Prop} (h:IX R) {a b:α} (hab: ¬R a b) (l:List α) (ha:a∈l) (hb:b∈l):K R l=K (Jg R a b) l+1:=by
 have hm:=Fv h a b
 refine Nat.le_antisymm ?_ ?_
 ·obtain⟨r,h1,h2,h3,h4⟩:=Pt R h l
  obtain⟨rb,hr1,hr2⟩:=h4 b hb
  have hle:(r.filter (fun x=> ¬R x rb)).length<=K (Jg R a b) l:=by
   refine FH _ hm l _ (fun x hx=>h1 x (List.mem_filter.1 hx).1) ?_
   have h2':(r.filter (fun x=>decide (¬R x rb))).Pairwise (fun x y=> ¬R x y):=h2.filter _
   refine h2'.imp_of_mem ?_
   intro x y hx hy hxy hxy'
   have hx': ¬R x rb:=by simpa using(List.mem_filter.1 hx).2
   have hy': ¬R y rb:=by simpa using(List.mem_filter.1 hy).2
   rcases hxy' with hz|⟨z1,z2⟩|⟨z1,z2⟩
   ·exact hxy hz
   ·exact hy' (h.trans z2 hr2)
   ·exact hx' (h.trans z1 hr2)
  have hone:r.length<=(r.filter (fun x=> ¬R x rb)).length+1:=by
   clear h4 h3 h1 hle
   induction r with
   |nil=>simp
   |cons c r ih=>
    rcases List.mem_cons.1 hr1 with rfl|hr1
    ·have:r.filter (fun x=> ¬R x rb)=r:=by
      refine List.filter_eq_self.2 fun x hx=>?_
      have:=(List.pairwise_cons.1 h2).1 x hx
      simp only[decide_eq_true_eq]
      exact fun hh=>this (h.symm hh)
     rw[List.filter_cons]
     split
     ·rw[List.length_cons,List.length_cons,this];omega
     ·rw[this];simp
    ·have:=ih (List.pairwise_cons.1 h2).2 hr1
     have hc: ¬R c rb:=(List.pairwise_cons.1 h2).1 rb hr1
     rw[List.filter_cons,if_pos (by simpa using hc)]
     simp only[List.length_cons]
     omega
  omega
 ·obtain⟨r,h1,h2,h3,h4⟩:=Pt _ hm l
  obtain⟨c,hc1,hc2⟩:=h4 a ha
  have hle:(a::b::r.filter (fun x=> ¬Jg R a b x a)).length<=K R l:=by
   refine FH R h l _ ?_ ?_
   ·intro x hx
    rcases List.mem_cons.1 hx with rfl|hx
    ·exact ha
    rcases List.mem_cons.1 hx with rfl|hx
    ·exact hb
    ·exact h1 x (List.mem_filter.1 hx).1
   ·have h2':(r.filter (fun x=>decide (¬Jg R a b x a))).Pairwise (fun x y=> ¬Jg R a b x y):=h2.filter _
    refine List.pairwise_cons.2 ⟨?_,List.pairwise_cons.2 ⟨?_,h2'.imp fun hh hr=>hh (.inl hr)⟩⟩
    ·intro x hx hax
     rcases List.mem_cons.1 hx with rfl|hx
     ·exact hab hax
     ·have: ¬Jg R a b x a:=by simpa using(List.mem_filter.1 hx).2
      exact this (.inl (h.symm hax))
    ·intro x hx hbx
     have: ¬Jg R a b x a:=by simpa using(List.mem_filter.1 hx).2
     exact this (.inr (.inr ⟨h.symm hbx,h.refl a⟩))
  have hone:r.length<=(r.filter (fun x=> ¬Jg R a b x a)).length+1:=by
   have hca:=hm.symm hc2
   clear h4 h3 h1 hle
   induction r with
   |nil=>simp
   |cons d r ih=>
    rcases List.mem_cons.1 hc1 with rfl|hc1
    ·have:r.filter (fun x=> ¬Jg R a b x a)=r:=by
      refine List.filter_eq_self.2 fun x hx=>?_
      have:=(List.pairwise_cons.1 h2).1 x hx
      simp only[decide_eq_true_eq]
      exact fun hh=>this (hm.trans hca (hm.symm hh))
     rw[List.filter_cons]
     split
     ·rw[List.length_cons,List.length_cons,this];omega
     ·rw[this];simp
    ·have:=ih (List.pairwise_cons.1 h2).2 hc1
     have hd: ¬Jg R a b d a:=fun hh=>(List.pairwise_cons.1 h2).1 c hc1 (hm.trans hh (hm.symm hca))
     rw[List.filter_cons,if_pos (by simpa using hd)]
     simp only[List.length_cons]
     omega
  simp only[List.length_cons]at hle
  omega
variable {α : Type}
def it (σ:α->α):Nat->α->α
 |0,x=>x
 |k+1,x=>σ (it σ k x)
theorem Hg (σ:α->α) (j k:Nat) (x:α):it σ (j+k) x=it σ j (it σ k x):=by
 induction j with
 |zero=>simp[it]
 |succ j ih=>rw[Nat.succ_add];simp only[it];rw[ih]
theorem Lx (σ:α->α) (k:Nat) (x:α):it σ (k+1) x=it σ k (σ x):=Hg σ k 1 x
structure Perm (σ:α->α):Prop where
 inj: ∀x y,σ x=σ y->x=y
 per: ∀x,∃k,0<k/\it σ k x=x
theorem SX {σ:α->α} (h:Perm σ) (k:Nat) {x y:α} (e:it σ k x=it σ k y):x=y:=by
 induction k with
 |zero=>exact e
 |succ k ih=>exact ih (h.inj _ _ e)
theorem Jr {σ:α->α} (inj: ∀x y,σ x=σ y->x=y) (l:List α) (hc: ∀x,x∈l->σ x∈l) (ho: ∀x,x∉l->σ x=x):Perm σ:=by
 refine⟨inj,fun x=>?_⟩
 by_cases hx:x∈l
 ·have hmem: ∀k,it σ k x∈l:=by
   intro k
   induction k with
   |zero=>exact hx
   |succ k ih=>exact hc _ ih
  by_cases hd:((List.range (l.length+1)).map (fun k=>it σ k x)).Nodup
  ·exfalso
   have:=hd.length_le_of_subset (l₂:=l) (by
    intro y hy
    obtain⟨k,_,rfl⟩:=List.mem_map.1 hy
    exact hmem k)
   simp at this
   omega
  ·have: ∃i j,i<j/\it σ i x=it σ j x:=by
    by_cases hne: ∃i j,i<j/\it σ i x=it σ j x
    ·exact hne
    ·exfalso
     refine hd ?_
     refine List.Pairwise.map _ (R:=fun a b=>a<b) ?_ ?_
     ·intro a b hab he
      exact hne ⟨a,b,hab,he⟩
     ·exact List.pairwise_lt_range
   obtain⟨i,j,hij,he⟩:=this
   refine⟨j-i,by omega,?_⟩
   have hperm: ∀(i:Nat) (u v:α),it σ i u=it σ i v->u=v:=by
    intro i
    induction i with
    |zero=>intro u v e;exact e
    |succ i ih=>intro u v e;exact ih _ _ (inj _ _ e)
   refine hperm i _ _ ?_
   rw[<-Hg]
   rw[show i+(j-i)=j by omega,he]
 ·exact⟨1,by omega,ho x hx⟩
def GK (σ:α->α) (x y:α):Prop:= ∃k,it σ k x=y
theorem KJ (σ:α->α) (x:α):GK σ x x:=⟨0,rfl⟩
theorem NA {σ:α->α} {x y z:α} (h:GK σ x y) (k:GK σ y z):GK σ x z:=by
 obtain⟨i,rfl⟩:=h
 obtain⟨j,rfl⟩:=k
 exact⟨j+i,Hg σ j i x⟩
theorem Gj (σ:α->α) (x:α):GK σ x (σ x):=⟨1,rfl⟩
theorem SF {σ:α->α} (h:Perm σ) (x:α):GK σ (σ x) x:=by
 obtain⟨k,hk,e⟩:=h.per x
 refine⟨k-1,?_⟩
 rw[<-Lx,show k-1+1=k by omega,e]
theorem Lp {σ:α->α} (h:Perm σ) {x y:α} (hxy:GK σ x y):GK σ y x:=by
 obtain⟨k,rfl⟩:=hxy
 induction k with
 |zero=>exact KJ _ _
 |succ k ih=>exact NA (SF h _) ih
theorem FA {σ:α->α} (h:Perm σ):IX (GK σ):=⟨KJ σ,fun a=>Lp h a,fun a b=>NA a b⟩
theorem LM {σ:α->α} {S:α->α->Prop} (hS:IX S) (h: ∀x,S x (σ x)): ∀x y,GK σ x y->S x y:=by
 rintro x y ⟨k,rfl⟩
 induction k with
 |zero=>exact hS.refl _
 |succ k ih=>exact hS.trans ih (h _)
noncomputable def sw (a b x:α):α:=if x=a then b else if x=b then a else x
theorem TN (a b:α):sw a b a=b:=by simp[sw]
theorem RN (a b:α):sw a b b=a:=by unfold sw;split<;>simp_all
theorem Ln {a b x:α} (h:x≠a) (h':x≠b):sw a b x=x:=by simp[sw,h,h']
theorem VY (a b x:α):sw a b (sw a b x)=x:=by
 by_cases h:x=a
 ·subst h;rw[TN,RN]
 ·by_cases h':x=b
  ·subst h';rw[RN,TN]
  ·rw[Ln h h',Ln h h']
theorem Mi {σ:α->α} (h:Perm σ) (a b:α): ∃k,0<k/\(it σ k a=a\/it σ k a=b)/\∀i,0<i->i<k->it σ i a≠a/\it σ i a≠b:=by
 have key: ∀n,(∃k,0<k/\k<=n/\(it σ k a=a\/it σ k a=b))->∃k,0<k/\(it σ k a=a\/it σ k a=b)/\∀i,0<i->i<k->it σ i a≠a/\it σ i a≠b:=by
  intro n
  induction n with
  |zero=>rintro⟨k,h1,h2,_⟩;omega
  |succ n ih=>
   intro hk
   by_cases hn: ∃k,0<k/\k<=n/\(it σ k a=a\/it σ k a=b)
   ·exact ih hn
   ·obtain⟨k,h1,h2,h3⟩:=hk
    refine⟨k,h1,h3,fun i hi hik=>?_⟩
    constructor
    ·intro he;exact hn ⟨i,hi,by omega,.inl he⟩
    ·intro he;exact hn ⟨i,hi,by omega,.inr he⟩
 obtain⟨k,h1,h2⟩:=h.per a
 exact key k ⟨k,h1,Nat.le_refl _,.inl h2⟩
theorem MB {σ:α->α} {S:α->Prop} (hS: ∀x,S x->S (σ x)) {x y:α} (hx:S x) (h:GK σ x y):S y:=by
 obtain⟨k,rfl⟩:=h
 induction k with
 |zero=>exact hx
 |succ k ih=>exact hS _ ih
theorem Lr {σ σ':α->α} (h:Perm σ) (h':Perm σ') {a b:α} (hab:a≠b) (e: ∀x,σ' x=σ (sw a b x)):GK σ a b↔¬GK σ' a b:=by
 obtain⟨k,hk,hit,hno⟩:=Mi h a b
 have hb1:σ' b=σ a:=by rw[e,RN]
 have hway: ∀i,0<i->i<=k->it σ' i b=it σ i a:=by
  intro i
  induction i with
  |zero=>intro h0;omega
  |succ i ih=>
   intro _ hle
   rcases Nat.eq_zero_or_pos i with rfl|hi
   ·exact hb1
   ·have hw:=ih hi (by omega)
    have hn:=hno i hi (by omega)
    show σ' (it σ' i b)=σ (it σ i a)
    rw[hw,e,Ln hn.1 hn.2]
 rcases hit with hit|hit
 ·
  constructor
  ·intro hc
   exfalso
   have hcl:(∃i,i<k/\b=it σ i a):=by
    refine MB (σ:=σ) (S:=fun x=> ∃i,i<k/\x=it σ i a) ?_ ⟨0,hk,rfl⟩ hc
    rintro x ⟨i,hi,rfl⟩
    rcases Nat.lt_or_ge (i+1) k with h1|h1
    ·exact⟨i+1,h1,rfl⟩
    ·refine⟨0,hk,?_⟩
     have:i+1=k:=by omega
     show it σ (i+1) a=a
     rw[this,hit]
   obtain⟨i,hi,he⟩:=hcl
   rcases Nat.eq_zero_or_pos i with rfl|h0
   ·exact hab he.symm
   ·exact(hno i h0 hi).2 he.symm
  ·intro hn
   exfalso
   exact hn (Lp h' ⟨k,by rw[hway k hk (Nat.le_refl _),hit]⟩)
 ·constructor
  ·intro _ hc
   have hcl:(∃i,0<i/\i<=k/\a=it σ i a):=by
    refine MB (σ:=σ') (S:=fun x=> ∃i,0<i/\i<=k/\x=it σ i a) ?_ ⟨k,hk,Nat.le_refl _,hit.symm⟩ (Lp h' hc)
    rintro x ⟨i,h0,hi,rfl⟩
    rcases Nat.lt_or_ge i k with h1|h1
    ·refine⟨i+1,by omega,by omega,?_⟩
     have hn:=hno i h0 h1
     rw[e,Ln hn.1 hn.2]
     rfl
    ·refine⟨1,by omega,by omega,?_⟩
     have:i=k:=by omega
     rw[this,hit,hb1]
     rfl
   obtain⟨i,h0,hi,he⟩:=hcl
   rcases Nat.lt_or_ge i k with h1|h1
   ·exact(hno i h0 h1).1 he.symm
   ·have:i=k:=by omega
    rw[this,hit]at he
    exact hab he
  ·intro _
   exact⟨k,hit⟩
theorem PF {σ σ':α->α} (h:Perm σ) (h':Perm σ') {a b:α} (e: ∀x,σ' x=σ (sw a b x)) (x y:α):Jg (GK σ) a b x y↔Jg (GK σ') a b x y:=by
 have key: ∀{σ σ':α->α},Perm σ->Perm σ'->(∀x,σ' x=σ (sw a b x))->∀x y,Jg (GK σ') a b x y->Jg (GK σ) a b x y:=by
  intro σ σ' h h' e x y
  have hm:=Fv (FA h) a b
  refine IJ hm (LM hm fun z=>?_) (IH (FA h) a b) x y
  rw[e]
  by_cases hz:z=a
  ·subst hz
   rw[TN]
   exact hm.trans (IH (FA h) z b) (.inl (Gj σ b))
  ·by_cases hz':z=b
   ·subst hz'
    rw[RN]
    exact hm.trans (hm.symm (IH (FA h) a z)) (.inl (Gj σ a))
   ·rw[Ln hz hz']
    exact .inl (Gj σ z)
 constructor
 ·refine key h' h (fun x=>?_) x y
  rw[e,VY]
 ·exact key h h' e x y
theorem Mp {σ σ':α->α} (h:Perm σ) (h':Perm σ') {a b:α} (hab:a≠b) (e: ∀x,σ' x=σ (sw a b x)) (l:List α) (ha:a∈l) (hb:b∈l) (hc: ¬GK σ a b):
 K (GK σ) l=K (GK σ') l+1:=by
 have hc':GK σ' a b:=by
  by_cases hh:GK σ' a b
  ·exact hh
  ·exact absurd ((Lr h h' hab e).2 hh) hc
 rw[Kp (FA h) hc l ha hb,<-JS (FA h') hc' l]
 congr 1
 exact Ds _ _ (Fv (FA h) a b) (Fv (FA h') a b) l l (fun _=>Iff.rfl) fun x y _ _=>PF h h' e x y
theorem PK {σ σ':α->α} (h:Perm σ) (h':Perm σ') {a b:α} (hab:a≠b) (e: ∀x,σ' x=σ (sw a b x)) (l:List α) (ha:a∈l) (hb:b∈l) (hc:GK σ a b):
 K (GK σ') l=K (GK σ) l+1:=
 Mp h' h hab (fun x=>by rw[e,VY]) l ha hb ((Lr h h' hab e).1 hc)
theorem Xc {f:Nat->α->α} (hp: ∀k,Perm (f k)) (a b:Nat->α) (R:Nat->α->α->Prop) (hR: ∀k,IX (R k)) (l:List α) (n:Nat)
 (hab: ∀k,k<n->a k≠b k/\a k∈l/\b k∈l) (hf: ∀k,k<n->∀x,f (k+1) x=f k (sw (a k) (b k) x))
 (h0: ∀x y,R 0 x y↔GK (f 0) x y) (hs: ∀k,k<n->∀x y,R (k+1) x y↔Jg (R k) (a k) (b k) x y):
 K (GK (f n)) l+K (GK (f 0)) l<=2*K (R n) l+n/\(∃q,K (GK (f n)) l+K (GK (f 0)) l+n=2*q)/\∀x y,GK (f n) x y->R n x y:=by
 induction n with
 |zero=>
  have he:K (R 0) l=K (GK (f 0)) l:=Ds _ _ (hR 0) (FA (hp 0)) l l (fun _=>Iff.rfl) fun x y _ _=>h0 x y
  exact⟨by omega,⟨K (GK (f 0)) l,by omega⟩,fun x y h=>(h0 x y).2 h⟩
 |succ n ih=>
  obtain⟨h1,⟨q,h2⟩,h3⟩:=ih (fun k hk=>hab k (by omega)) (fun k hk=>hf k (by omega)) (fun k hk=>hs k (by omega))
  obtain⟨hne,ha,hb⟩:=hab n (by omega)
  have hfn:=hf n (by omega)
  have hsn:=hs n (by omega)
  have he:K (R (n+1)) l=K (Jg (R n) (a n) (b n)) l:=Ds _ _ (hR _) (Fv (hR n) _ _) l l (fun _=>Iff.rfl) fun x y _ _=>hsn x y
  have h3': ∀x y,GK (f (n+1)) x y->R (n+1) x y:=by
   intro x y hc
   refine(hsn x y).2 ?_
   have hmf:=(PF (hp n) (hp (n+1)) hfn x y).2 (.inl hc)
   exact IJ (Fv (hR n) _ _) (fun u v huv=> .inl (h3 u v huv)) (IH (hR n) _ _) x y hmf
  by_cases hc:GK (f n) (a n) (b n)
  ·have hk:=PK (hp n) (hp (n+1)) hne hfn l ha hb hc
   rw[JS (hR n) (h3 _ _ hc)]at he
   exact⟨by omega,⟨q+1,by omega⟩,h3'⟩
  ·have hk:=Mp (hp n) (hp (n+1)) hne hfn l ha hb hc
   have hge:K (R n) l<=K (R (n+1)) l+1:=by
    rw[he]
    by_cases hr:R n (a n) (b n)
    ·rw[JS (hR n) hr];omega
    ·rw[Kp (hR n) hr l ha hb];omega
   exact⟨by omega,⟨q,by omega⟩,h3'⟩
inductive Reach (up:List Int):Nat->Nat->Prop
 |root {i:Nat}:up[i]? =some (i:Int)->Reach up i i
 |step {i j r:Nat}:up[i]? =some (j:Int)->j≠i->Reach up j r->Reach up i r
theorem Reach.isRoot {up:List Int} {i r:Nat} (h:Reach up i r):up[r]? =some (r:Int):=by
 induction h with
 |root h=>exact h
 |step _ _ _ ih=>exact ih
theorem Reach.lt {up:List Int} {i r:Nat} (h:Reach up i r):i<up.length/\r<up.length:=by
 constructor
 ·cases h with
  |root h=>exact(List.getElem?_eq_some_iff.1 h).1
  |step h _ _=>exact(List.getElem?_eq_some_iff.1 h).1
 ·exact(List.getElem?_eq_some_iff.1 h.isRoot).1
theorem Reach.unique {up:List Int} {i r s:Nat} (h:Reach up i r) (k:Reach up i s):r=s:=by
 induction h with
 |root h=>
  cases k with
  |root _=>rfl
  |step k hne _=>rw[h]at k;injection k with k;omega
 |step h hne _ ih=>
  cases k with
  |root k=>rw[h]at k;injection k with k;omega
  |step k _ k'=>
   rw[h]at k
   injection k with k
   have:=Int.ofNat.inj k
   subst this
   exact ih k'
theorem Reach.set {up:List Int} {i r a b:Nat} (h:Reach up i r) (ha:up[a]? =some (a:Int)) (hb:up[b]? =some (b:Int)):
 Reach (up.set a (b:Int)) i (if r=a then b else r):=by
 have hal:a<up.length:=(List.getElem?_eq_some_iff.1 ha).1
 by_cases hab:a=b
 ·subst hab
  have hs:up.set a (a:Int)=up:=by
   refine List.ext_getElem? fun j=>?_
   rw[List.getElem?_set]
   split
   ·rename_i hj;subst hj;rw[ha]
   ·rfl
  rw[hs]
  split
  ·rename_i hr;subst hr;exact h
  ·exact h
 ·have hb':(up.set a (b:Int))[b]? =some (b:Int):=by rw[List.getElem?_set,if_neg hab];exact hb
  have ha':(up.set a (b:Int))[a]? =some (b:Int):=by simp[hal]
  induction h with
  | @root i h=>
    split
    ·rename_i hr;subst hr
     exact .step ha' (fun e=>hab e.symm) (.root hb')
    ·rename_i hr
     exact .root (by rw[List.getElem?_set,if_neg (fun e=>hr e.symm)];exact h)
  | @step i j r h hne hr ih=>
    refine .step ?_ hne ih
    rw[List.getElem?_set,if_neg ?_]
    ·exact h
    ·intro e;subst e;rw[ha]at h;injection h with h;omega
structure UF (up:List Int) (R:Nat->Nat->Prop):Prop where
 eqv:IX R
 tot: ∀i,i<up.length->∃r,Reach up i r
 iff: ∀{x y r s},Reach up x r->Reach up y s->(r=s↔R x y)
theorem UF.join {up:List Int} {R:Nat->Nat->Prop} (h:UF up R) {x y a b:Nat} (hx:Reach up x a) (hy:Reach up y b):UF (up.set a (b:Int)) (Jg R x y):=by
 have ha:=hx.isRoot
 have hb:=hy.isRoot
 refine⟨Fv h.eqv x y,?_,?_⟩
 ·intro i hi
  obtain⟨r,hr⟩:=h.tot i (by simpa using hi)
  exact⟨_,hr.set ha hb⟩
 ·intro u v r s hu hv
  have hul:=hu.lt.1
  have hvl:=hv.lt.1
  rw[List.length_set]at hul hvl
  obtain⟨r0,hr0⟩:=h.tot u hul
  obtain⟨s0,hs0⟩:=h.tot v hvl
  have e1:=hu.unique (hr0.set ha hb)
  have e2:=hv.unique (hs0.set ha hb)
  subst e1 e2
  have huv:=h.iff hr0 hs0
  have hux:=h.iff hr0 hx
  have huy:=h.iff hr0 hy
  have hvx:=h.iff hs0 hx
  have hvy:=h.iff hs0 hy
  unfold Jg
  rw[<-huv,<-hux,<-huy,<-hvx,<-hvy]
  split<;>split<;>omega
theorem UF.init (n:Nat):UF ((List.range n).map (fun i:Nat=>(i:Int))) Eq:=by
 have hr: ∀i,i<n->Reach ((List.range n).map (fun i:Nat=>(i:Int))) i i:=fun i hi=> .root (by simp[hi])
 refine⟨⟨fun _=>rfl,fun h=>h.symm,fun h k=>h.trans k⟩,?_,?_⟩
 ·intro i hi
  exact⟨i,hr i (by simpa using hi)⟩
 ·intro x y r s hx hy
  have h1:=hx.lt.1
  have h2:=hy.lt.1
  rw[hx.unique (hr x (by simpa using h1)),hy.unique (hr y (by simpa using h2))]
theorem UF.congr {up:List Int} {R R':Nat->Nat->Prop} (h:UF up R) (h':IX R') (e: ∀x y,x<up.length->y<up.length->(R x y↔R' x y)):UF up R':=
 ⟨h',h.tot,fun hx hy=>(h.iff hx hy).trans (e _ _ hx.lt.1 hy.lt.1)⟩
theorem UF.count {up:List Int} {R:Nat->Nat->Prop} (h:UF up R) (l:List Nat) (hl: ∀i,i∈l->i<up.length) (hd:l.Nodup) (hr: ∀i r,i∈l->Reach up i r->r∈l):
 l.countP (fun i:Nat=>decide (up[i]? =some (i:Int)))=K R l:=by
 rw[List.countP_eq_length_filter]
 refine Nat.le_antisymm ?_ ?_
 ·refine FH R h.eqv l _ (fun x hx=>(List.mem_filter.1 hx).1) ?_
  refine List.Pairwise.imp_of_mem ?_ (hd.filter _)
  intro x y hx hy hxy hR
  have h1:up[x]? =some (x:Int):=by simpa using(List.mem_filter.1 hx).2
  have h2:up[y]? =some (y:Int):=by simpa using(List.mem_filter.1 hy).2
  exact hxy ((h.iff (.root h1) (.root h2)).2 hR)
 ·obtain⟨r,h1,h2,h3,h4⟩:=Pt R h.eqv l
  rw[<-h3]
  have key: ∀s:List Nat,(∀a,a∈s->a∈l)->s.Pairwise (fun x y=> ¬R x y)->∃t:List Nat,t.length=s.length/\t.Nodup/\(∀b,b∈t->b∈l/\up[b]? =some (b:Int)/\∃a,a∈s/\Reach up a b):=by
   intro s
   induction s with
   |nil=>intro _ _;exact⟨[],rfl,List.nodup_nil,by simp⟩
   |cons a s ih=>
    intro hs hp
    obtain⟨t,ht1,ht2,ht3⟩:=ih (fun x hx=>hs x (List.mem_cons_of_mem _ hx)) (List.pairwise_cons.1 hp).2
    have hal:=hs a List.mem_cons_self
    obtain⟨b,hb⟩:=h.tot a (hl a hal)
    refine⟨b::t,by simp[ht1],?_,?_⟩
    ·refine List.nodup_cons.2 ⟨fun hbt=>?_,ht2⟩
     obtain⟨_,_,c,hc1,hc2⟩:=ht3 b hbt
     exact(List.pairwise_cons.1 hp).1 c hc1 ((h.iff hb hc2).1 rfl)
    ·intro c hc
     rcases List.mem_cons.1 hc with rfl|hc
     ·exact⟨hr a _ hal hb,hb.isRoot,a,List.mem_cons_self,hb⟩
     ·obtain⟨x1,x2,x,x3,x4⟩:=ht3 c hc
      exact⟨x1,x2,x,List.mem_cons_of_mem _ x3,x4⟩
  obtain⟨t,ht1,ht2,ht3⟩:=key r h1 h2
  rw[<-ht1]
  refine ht2.length_le_of_subset fun b hb=>List.mem_filter.2 ⟨(ht3 b hb).1,?_⟩
  simpa using(ht3 b hb).2.1
variable {α β : Type}
inductive EQ (S:α->α->Prop):α->α->Prop
 |base {a b}:S a b->EQ S a b
 |refl (a):EQ S a a
 |symm {a b}:EQ S a b->EQ S b a
 |trans {a b c}:EQ S a b->EQ S b c->EQ S a c
theorem Ei (S:α->α->Prop):IX (EQ S):=⟨EQ.refl,EQ.symm,EQ.trans⟩
theorem Hf {S R:α->α->Prop} (hR:IX R) (h: ∀a b,S a b->R a b) {a b:α} (e:EQ S a b):R a b:=by
 induction e with
 |base h1=>exact h _ _ h1
 |refl a=>exact hR.refl a
 |symm _ ih=>exact hR.symm ih
 |trans _ _ i1 i2=>exact hR.trans i1 i2
theorem VA {S S':α->α->Prop} (h: ∀a b,S a b->EQ S' a b) {a b:α} (e:EQ S a b):EQ S' a b:=Hf (Ei _) h e
theorem XB {S:α->α->Prop} {S':β->β->Prop} (f:α->β) (h: ∀a b,S a b->EQ S' (f a) (f b)) {a b:α} (e:EQ S a b):EQ S' (f a) (f b):=
 Hf (R:=fun a b=>EQ S' (f a) (f b)) ⟨fun _=> .refl _,fun h=> .symm h,fun h k=> .trans h k⟩ h e
theorem TG (R:α->α->Prop) (l:List α):K R l<=l.length:=by
 induction l with
 |nil=>simp[K]
 |cons a l ih=>simp only[K,List.length_cons];split<;>omega
theorem Vw {R:α->α->Prop} (h:IX R) (l r:List α) (hp:r.Pairwise (fun x y=> ¬R x y)) (h1: ∀a,a∈l->∃b,b∈r/\R a b) (h2: ∀b,b∈r->∃a,a∈l/\R a b):K R l=r.length:=by
 have e:K R l=K R r:=Nl R R h h l r R h1 h2 fun a b c d _ _ _ _ g1 g2=>⟨fun hbd=>h.trans g1 (h.trans hbd (h.symm g2)),fun hac=>h.trans (h.symm g1) (h.trans hac g2)⟩
 have h3:=FH R h r r (fun _ h=>h) hp
 have h4:=TG R r
 omega
section
variable {τ γ ψ : α → α} (ht : ∀ x, τ (τ x) = x) (hg : ∀ x, γ (γ x) = x) (hψ : ∀ x, ψ x = τ (γ x))
include ht hg hψ
theorem Vq (k:Nat) (x:α):it ψ k (τ (it ψ k x))=τ x:=by
 induction k generalizing x with
 |zero=>rfl
 |succ k ih=>
  rw[Lx ψ k (τ _)]
  show it ψ k (ψ (τ (ψ (it ψ k x))))=τ x
  rw[hψ (τ _),hψ (it ψ k x),ht,hg]
  exact ih x
theorem Vp (k:Nat) (x:α):it ψ k (γ (it ψ k x))=γ x:=by
 induction k generalizing x with
 |zero=>rfl
 |succ k ih=>
  rw[Lx ψ k (γ _)]
  show it ψ k (ψ (γ (ψ (it ψ k x))))=γ x
  rw[hψ (γ _),hg,hψ (it ψ k x),ht]
  exact ih x
theorem QG (hp:Perm ψ) (x y:α):EQ (fun a b=>b=τ a\/b=γ a) x y↔GK ψ x y\/GK ψ x (τ y):=by
 have hE:=FA hp
 have tt: ∀{x y},GK ψ x y->GK ψ (τ x) (τ y):=fun{x y} h=>by
  obtain⟨k,rfl⟩:=h
  exact hE.symm ⟨k,Vq ht hg hψ k x⟩
 have hQ:IX (fun x y=>GK ψ x y\/GK ψ x (τ y)):=by
  refine⟨fun x=> .inl (hE.refl x),?_,?_⟩
  ·rintro x y (h|h)
   ·exact .inl (hE.symm h)
   ·have:=tt (hE.symm h)
    rw[ht]at this
    exact .inr this
  ·rintro x y z (h|h) (k|k)
   ·exact .inl (hE.trans h k)
   ·exact .inr (hE.trans h k)
   ·exact .inr (hE.trans h (tt k))
   ·have:=tt k
    rw[ht]at this
    exact .inl (hE.trans h this)
 constructor
 ·refine Hf hQ ?_
  rintro a b (rfl|rfl)
  ·exact .inr (by rw[ht];exact hE.refl a)
  ·have:GK ψ a (ψ a):=Gj ψ a
   rw[hψ]at this
   exact .inr this
 ·have hc: ∀x y,GK ψ x y->EQ (fun a b=>b=τ a\/b=γ a) x y:=LM (Ei _) fun x=>by
   rw[hψ]
   exact .trans (.base (.inr rfl)) (.base (.inl rfl))
  rintro(h|h)
  ·exact hc x y h
  ·exact .trans (hc x (τ y) h) (.symm (.base (.inl rfl)))
theorem Rb (hp:Perm ψ) (x:α) (hx:γ x=x) (h1: ∀z,GK ψ x z->τ z≠z): ∃y,y≠x/\γ y=y/\EQ (fun a b=>b=τ a\/b=γ a) x y/\∀z,γ z=z->EQ (fun a b=>b=τ a\/b=γ a) x z->z=x\/z=y:=by
 have hE:=FA hp
 obtain⟨L,hL,hit,hno⟩:=Mi hp x x
 have hit':it ψ L x=x:=by rcases hit with h|h<;>exact h
 have hno': ∀i,0<i->i<L->it ψ i x≠x:=fun i h1 h2=>(hno i h1 h2).1
 have htx:τ x=ψ x:=by rw[hψ,hx]
 obtain⟨m,rfl⟩: ∃m,L=m+m:=by
  rcases Nat.mod_two_eq_zero_or_one L with h|h
  ·exact⟨L/2,by omega⟩
  ·exfalso
   obtain⟨m,rfl⟩: ∃m,L=m+m+1:=⟨L/2,by omega⟩
   refine h1 (it ψ (m+1) x) ⟨_,rfl⟩ (SX hp (m+1) ?_)
   rw[Vq ht hg hψ,htx,<-Hg,show m+1+(m+1)=1+(m+m+1) by omega,Hg,hit']
   rfl
 have fix_of: ∀j,it ψ (j+j) x=x->γ (it ψ j x)=it ψ j x:=fun j hj=>SX hp j (by rw[Vp ht hg hψ,hx,<-Hg,hj])
 have of_fix: ∀j,γ (it ψ j x)=it ψ j x->it ψ (j+j) x=x:=fun j hj=>by
  have:=Vp ht hg hψ j x
  rw[hj,hx,<-Hg]at this
  exact this
 refine⟨it ψ m x,hno' m (by omega) (by omega),fix_of m hit',(QG ht hg hψ hp _ _).2 (.inl ⟨m,rfl⟩),fun z hz hR=>?_⟩
 have hc:GK ψ x z:=by
  rcases(QG ht hg hψ hp _ _).1 hR with h|h
  ·exact h
  ·have e:τ z=ψ z:=by rw[hψ,hz]
   rw[e]at h
   exact hE.trans h (hE.symm (Gj ψ z))
 obtain⟨n,rfl⟩:=hc
 have hmod:it ψ (n % (m+m)) x=it ψ n x:=by
  have key: ∀q,it ψ (q*(m+m)) x=x:=by
   intro q
   induction q with
   |zero=>simp[it]
   |succ q ih=>rw[Nat.succ_mul,Hg,hit',ih]
  conv=>rhs;rw[<-Nat.mod_add_div n (m+m),Nat.mul_comm,Hg,key]
 rw[<-hmod]at hz⊢
 have hlt:n % (m+m)<m+m:=Nat.mod_lt _ hL
 have h2:=of_fix _ hz
 generalize n % (m+m)=j at*
 rcases Nat.eq_zero_or_pos j with rfl|h0
 ·exact .inl rfl
 ·refine .inr ?_
  rcases Nat.lt_trichotomy (j+j) (m+m)with h|h|h
  ·exact absurd h2 (hno' _ (by omega) h)
  ·rw[show j=m by omega]
  ·have h3:it ψ (j+j-(m+m)) x=x:=by
    have:=Hg ψ (j+j-(m+m)) (m+m) x
    rw[show j+j-(m+m)+(m+m)=j+j by omega,h2,hit']at this
    exact this.symm
   exact absurd h3 (hno' _ (by omega) (by omega))
end
theorem UT {R:α->α->Prop} (h:IX R): ∀(n:Nat) (f:List α),f.length<=n->f.Nodup->(∀x,x∈f->∃y,y∈f/\y≠x/\R x y/\∀z,z∈f->R x z->z=x\/z=y)->f.length=2*K R f:=by
 intro n
 induction n with
 |zero=>intro f hf _ _;have:f=[]:=List.length_eq_zero_iff.1 (by omega);subst this;rfl
 |succ n ih=>
  intro f hf hd hp
  cases f with
  |nil=>rfl
  |cons x t=>
   obtain⟨y,hy,hyx,hxy,hz⟩:=hp x List.mem_cons_self
   have hyt:y∈t:=by
    rcases List.mem_cons.1 hy with rfl|h
    ·exact absurd rfl hyx
    ·exact h
   obtain⟨hxt,hdt⟩:=List.nodup_cons.1 hd
   have e1:K R (x::t)=K R t:=by rw[K,if_pos ⟨y,hyt,hxy⟩];omega
   have hde:=hdt.erase y
   have hle:(t.erase y).length+1=t.length:=by rw[List.length_erase_of_mem hyt];have:=List.length_pos_of_mem hyt;omega
   have e2:K R t=K R (y::t.erase y):=Ds R R h h _ _ (fun a=>by
    constructor
    ·intro ha
     by_cases e:a=y
     ·subst e;exact List.mem_cons_self
     ·exact List.mem_cons_of_mem _ ((List.mem_erase_of_ne e).2 ha)
    ·intro ha
     rcases List.mem_cons.1 ha with rfl|ha
     ·exact hyt
     ·exact List.mem_of_mem_erase ha) fun a b _ _=>Iff.rfl
   have hye: ∀b,b∈t.erase y->b≠x/\b≠y/\b∈t:=fun b hb=>by
    have hbt:=List.mem_of_mem_erase hb
    refine⟨fun e=>hxt (e▸hbt),fun e=>?_,hbt⟩
    subst e
    exact(List.Nodup.not_mem_erase hdt) hb
   have e3:K R (y::t.erase y)=1+K R (t.erase y):=by
    rw[K,if_neg]
    rintro⟨b,hb,hR⟩
    obtain⟨b1,b2,b3⟩:=hye b hb
    rcases hz b (List.mem_cons_of_mem _ b3) (h.trans hxy hR)with e|e
    ·exact b1 e
    ·exact b2 e
   have:=ih (t.erase y) (by simp only[List.length_cons]at hf;omega) hde (fun a ha=>by
    obtain⟨a1,a2,a3⟩:=hye a ha
    obtain⟨c,hc,c1,c2,c3⟩:=hp a (List.mem_cons_of_mem _ a3)
    have hcx:c≠x:=fun e=>by
     subst e
     rcases hz a (List.mem_cons_of_mem _ a3) (h.symm c2)with e|e
     ·exact a1 e
     ·exact a2 e
    have hcy:c≠y:=fun e=>by
     subst e
     rcases hz a (List.mem_cons_of_mem _ a3) (h.trans hxy (h.symm c2))with e|e
     ·exact a1 e
     ·exact a2 e
    have hct:c∈t:=by
     rcases List.mem_cons.1 hc with e|e
     ·exact absurd e hcx
     ·exact e
    refine⟨c,(List.mem_erase_of_ne hcy).2 hct,c1,c2,fun z hz' hR=>c3 z (List.mem_cons_of_mem _ (hye z hz').2.2) hR⟩)
   rw[List.length_cons,e1,e2,e3]
   omega
variable {α β : Type}
noncomputable def part (a:α->α) (M:List α) (x:α):α:=if x∈M\/a x∈M then a x else x
theorem KL (a:α->α) (x:α):part a [] x=x:=by simp[part]
theorem Mv {a:α->α} (ha: ∀x,a (a x)=x) (M:List α) (x:α):part a M (part a M x)=x:=by
 unfold part
 by_cases h:x∈M\/a x∈M
 ·rw[if_pos h,ha,if_pos h.symm]
 ·rw[if_neg h,if_neg h]
def Xi (a:α->α) (l M:List α):Prop:=M.Pairwise (fun x y=>x≠y/\x≠a y)/\∀x,x∈M->x∈l/\a x∈l/\a x≠x
theorem Mh {a:α->α} (ha: ∀x,a (a x)=x) (M:List α) (m:α) (h1:m∉M) (h2:a m∉M) (x:α):part a (M++[m]) x=part a M (sw m (a m) x):=by
 by_cases e:x=m
 ·subst e
  rw[TN]
  unfold part
  rw[if_pos (by simp),if_neg (by rw[ha];simp[h1,h2])]
 ·by_cases e2:x=a m
  ·subst e2
   rw[RN]
   unfold part
   rw[if_pos (by rw[ha];simp),if_neg (by simp[h1,h2]),ha]
  ·rw[Ln e e2]
   have e3:a x≠m:=fun h=>e2 (by rw[<-h,ha])
   unfold part
   have:(x∈M++[m]\/a x∈M++[m])↔(x∈M\/a x∈M):=by simp[e,e3]
   by_cases h:x∈M\/a x∈M
   ·rw[if_pos h,if_pos (this.2 h)]
   ·rw[if_neg h,if_neg (fun k=>h (this.1 k))]
theorem My {φ a:α->α} (ha: ∀x,a (a x)=x) (hi: ∀x y,φ x=φ y->x=y) (l:List α) (hl: ∀x,x∈l->φ x∈l) (ho: ∀x,x∉l->φ x=x)
 (M:List α) (hM: ∀x,x∈M->x∈l/\a x∈l):Perm (fun x=>φ (part a M x)):=by
 refine Jr (fun x y e=>?_) l (fun x hx=>?_) (fun x hx=>?_)
 ·have:=hi _ _ e
  rw[<-Mv ha M x,this,Mv ha]
 ·refine hl _ ?_
  unfold part
  split
  ·rename_i h
   rcases h with h|h
   ·exact(hM x h).2
   ·exact(hM _ h).1
  ·exact hx
 ·have:part a M x=x:=by
   unfold part
   rw[if_neg]
   rintro(h|h)
   ·exact hx (hM x h).1
   ·have:=(hM _ h).2;rw[ha]at this;exact hx this
  show φ (part a M x)=x
  rw[this];exact ho x hx
theorem Xf {φ a:α->α} (ha: ∀x,a (a x)=x) (hi: ∀x y,φ x=φ y->x=y) (l:List α) (hl: ∀x,x∈l->φ x∈l) (ho: ∀x,x∉l->φ x=x)
 (M:List α) (hM:Xi a l M) (hA: ∀x,a x≠x->x∈M\/a x∈M):
 K (GK (fun x=>φ (a x))) l+K (GK φ) l<=2*K (EQ (fun x y=>y=φ x\/y=a x)) l+M.length/\∃q,K (GK (fun x=>φ (a x))) l+K (GK φ) l+M.length=2*q:=by
 obtain⟨hp,hm⟩:=hM
 have hsub: ∀k,∀x,x∈M.take k->x∈l/\a x∈l:=fun k x hx=>⟨(hm x (List.mem_of_mem_take hx)).1,(hm x (List.mem_of_mem_take hx)).2.1⟩
 rcases M with _|⟨m0,M0⟩
 ·
  have hid: ∀x,a x=x:=fun x=>by
   by_cases h:a x=x
   ·exact h
   ·rcases hA x h with h|h<;>cases h
  have e1:(fun x=>φ (a x))=φ:=by funext x;rw[hid]
  rw[e1]
  have hP:Perm φ:=by
   have:=My (φ:=φ) ha hi l hl ho [] (by simp)
   have e:(fun x=>φ (part a [] x))=φ:=by funext x;rw[KL]
   rwa[e]at this
  have e2:K (EQ (fun x y=>y=φ x\/y=a x)) l=K (GK φ) l:=Ds _ _ (Ei _) (FA hP) l l (fun _=>Iff.rfl) fun x y _ _=>by
   constructor
   ·refine Hf (FA hP) ?_
    rintro x y (rfl|rfl)
    ·exact Gj φ x
    ·rw[hid];exact KJ φ x
   ·exact fun h=>LM (Ei _) (fun x=> .base (.inl rfl)) x y h
  rw[e2]
  exact⟨by simp;omega,K (GK φ) l,by simp;omega⟩
 ·generalize hMM:m0::M0=M at*
  have hd: ∀k,k<M.length->M.getD k m0∈M:=fun k hk=>by rw[List.getD_eq_getElem?_getD,List.getElem?_eq_getElem hk];exact List.getElem_mem hk
  have htk: ∀k,k<M.length->M.take (k+1)=M.take k++[M.getD k m0]:=fun k hk=>by
   rw[List.take_succ_eq_append_getElem hk,List.getD_eq_getElem?_getD,List.getElem?_eq_getElem hk];rfl
  have hno: ∀k,k<M.length->M.getD k m0∉M.take k/\a (M.getD k m0)∉M.take k:=fun k hk=>by
   have h1:(M.take (k+1)).Pairwise (fun x y=>x≠y/\x≠a y):=hp.sublist (List.take_sublist _ _)
   rw[htk k hk,List.pairwise_append]at h1
   refine⟨fun h=>(h1.2.2 _ h _ (by simp)).1 rfl,fun h=>(h1.2.2 _ h _ (by simp)).2 rfl⟩
  have hperm: ∀k,Perm (fun x=>φ (part a (M.take k) x)):=fun k=>My ha hi l hl ho _ (hsub k)
  have key:=Xc (f:=fun k x=>φ (part a (M.take k) x)) hperm (fun k=>M.getD k m0) (fun k=>a (M.getD k m0)) (fun k=>EQ (fun x y=>y=φ x\/y=part a (M.take k) x)) (fun k=>Ei _) l M.length
   (fun k hk=>⟨fun e=>(hm _ (hd k hk)).2.2 e.symm,(hm _ (hd k hk)).1,(hm _ (hd k hk)).2.1⟩)
   (fun k hk x=>by
    show φ (part a (M.take (k+1)) x)=φ (part a (M.take k) _)
    rw[htk k hk,Mh ha _ _ (hno k hk).1 (hno k hk).2])
   (fun x y=>by
    have e0:(fun x=>φ (part a (M.take 0) x))=φ:=by funext x;rw[List.take_zero,KL]
    have hP:Perm φ:=by have:=hperm 0;rwa[e0]at this
    show EQ (fun x y=>y=φ x\/y=part a (M.take 0) x) x y↔GK (fun x=>φ (part a (M.take 0) x)) x y
    rw[e0]
    constructor
    ·refine Hf (FA hP) ?_
     rintro x y (rfl|h)
     ·exact Gj φ x
     ·rw[List.take_zero,KL]at h;rw[h];exact KJ φ x
    ·exact fun h=>LM (Ei _) (fun x=> .base (.inl rfl)) x y h)
   (fun k hk x y=>by
    constructor
    ·refine Hf (Fv (Ei _) _ _) ?_
     rintro x y (rfl|rfl)
     ·exact .inl (.base (.inl rfl))
     ·rw[htk k hk,Mh ha _ _ (hno k hk).1 (hno k hk).2]
      have hE:=Fv (Ei (fun x y=>y=φ x\/y=part a (M.take k) x)) (M.getD k m0) (a (M.getD k m0))
      refine hE.trans ?_ (.inl (.base (.inr rfl)))
      by_cases e1:x=M.getD k m0
      ·rw[e1,TN];exact IH (Ei _) _ _
      ·by_cases e2:x=a (M.getD k m0)
       ·rw[e2,RN];exact hE.symm (IH (Ei _) _ _)
       ·rw[Ln e1 e2];exact hE.refl x
    ·have hab:EQ (fun x y=>y=φ x\/y=part a (M.take (k+1)) x) (M.getD k m0) (a (M.getD k m0)):=by
      refine .base (.inr ?_)
      unfold part
      rw[if_pos (.inl (by rw[htk k hk];simp))]
     refine IJ (Ei _) (fun x y h=>VA ?_ h) hab x y
     rintro x y (rfl|rfl)
     ·exact .base (.inl rfl)
     ·by_cases h:x∈M.take k\/a x∈M.take k
      ·refine .base (.inr ?_)
       have h':x∈M.take (k+1)\/a x∈M.take (k+1):=by
        rw[htk k hk]
        rcases h with h|h
        ·exact .inl (List.mem_append_left _ h)
        ·exact .inr (List.mem_append_left _ h)
       unfold part
       rw[if_pos h,if_pos h']
      ·have:part a (M.take k) x=x:=by unfold part;rw[if_neg h]
       rw[this];exact .refl x)
  have eM:M.take M.length=M:=List.take_length
  have eP: ∀x,part a M x=a x:=fun x=>by
   unfold part
   by_cases h:x∈M\/a x∈M
   ·rw[if_pos h]
   ·rw[if_neg h]
    by_cases e:a x=x
    ·exact e.symm
    ·exact absurd (hA x e) h
  have e1:(fun x=>φ (part a (M.take M.length) x))=fun x=>φ (a x):=by funext x;rw[eM,eP]
  have e2:(fun x y=>y=φ x\/y=part a (M.take M.length) x)=fun x y=>y=φ x\/y=a x:=by funext x y;rw[eM,eP]
  have e0:(fun x=>φ (part a (M.take 0) x))=φ:=by funext x;rw[List.take_zero,KL]
  have k1:=key.1
  obtain⟨q,k2⟩:=key.2.1
  rw[e0,e1]at k1 k2
  rw[e2]at k1
  exact⟨k1,q,k2⟩
variable {α β : Type}
theorem QT {R:α->α->Prop} (h:IX R) (S:α->Prop) (hS: ∀x y,R x y->S x->S y) (l:List α):K R l=K R (l.filter fun x=>decide (S x))+K R (l.filter fun x=>decide (¬S x)):=by
 obtain⟨r,r1,r2,r3,r4⟩:=Pt R h (l.filter fun x=>decide (S x))
 obtain⟨s,s1,s2,s3,s4⟩:=Pt R h (l.filter fun x=>decide (¬S x))
 have m1: ∀x,x∈l.filter (fun x=>decide (S x))↔x∈l/\S x:=fun x=>by rw[List.mem_filter,decide_eq_true_eq]
 have m2: ∀x,x∈l.filter (fun x=>decide (¬S x))↔x∈l/\¬S x:=fun x=>by rw[List.mem_filter,decide_eq_true_eq]
 rw[<-r3,<-s3,<-List.length_append]
 refine Vw h l _ ?_ ?_ ?_
 ·rw[List.pairwise_append]
  exact⟨r2,s2,fun a ha b hb k=>((m2 b).1 (s1 b hb)).2 (hS a b k ((m1 a).1 (r1 a ha)).2)⟩
 ·intro a ha
  by_cases e:S a
  ·obtain⟨b,hb,k⟩:=r4 a ((m1 a).2 ⟨ha,e⟩)
   exact⟨b,List.mem_append_left _ hb,k⟩
  ·obtain⟨b,hb,k⟩:=s4 a ((m2 a).2 ⟨ha,e⟩)
   exact⟨b,List.mem_append_right _ hb,k⟩
 ·intro b hb
  rcases List.mem_append.1 hb with hb|hb
  ·exact⟨b,((m1 b).1 (r1 b hb)).1,h.refl b⟩
  ·exact⟨b,((m2 b).1 (s1 b hb)).1,h.refl b⟩
def both (l:List Nat):List (Nat×Bool):=l.flatMap fun c=>[(c,false),(c,true)]
theorem Dj (l:List Nat) (d:Nat×Bool):d∈both l↔d.1∈l:=by
 unfold both
 rw[List.mem_flatMap]
 constructor
 ·rintro⟨c,hc,h⟩
  simp only[List.mem_cons,List.not_mem_nil,or_false]at h
  rcases h with rfl|rfl<;>exact hc
 ·intro h
  obtain⟨c,b⟩:=d
  exact⟨c,h,by cases b<;>simp⟩
theorem PD (l:List Nat):(both l).length=2*l.length:=by
 induction l with
 |nil=>rfl
 |cons a l ih=>unfold both at*;simp only[List.flatMap_cons,List.length_append,ih,List.length_cons,List.length_nil];omega
theorem MN {l:List Nat} (h:l.Nodup):(both l).Nodup:=by
 induction l with
 |nil=>exact List.nodup_nil
 |cons a l ih=>
  obtain⟨h1,h2⟩:=List.nodup_cons.1 h
  have h3:=ih h2
  show((a,false)::(a,true)::both l).Nodup
  rw[List.nodup_cons,List.nodup_cons]
  refine⟨?_,?_,h3⟩
  ·rw[List.mem_cons]
   rintro(e|e)
   ·simp at e
   ·exact h1 ((Dj l _).1 e)
  ·intro e;exact h1 ((Dj l _).1 e)
structure Hv (N:Nat) (nx pv pt:Nat->Nat) (x:Nat->Int) (pol fs:Nat->Nat) (F:Nat):Prop where
 nx_pv: ∀c,nx (pv c)=c
 pv_nx: ∀c,pv (nx c)=c
 nx_lt: ∀c,c<N->nx c<N
 nx_out: ∀c,¬c<N->nx c=c
 pt_pt: ∀c,pt (pt c)=c
 pt_lt: ∀c,c<N->pt c<N
 pt_out: ∀c,¬c<N->pt c=c
 pt_abs: ∀c,c<N->(x (pt c)).natAbs=(x c).natAbs
 uniq: ∀c d,c<N->d<N->(x c).natAbs=(x d).natAbs->d=c\/d=pt c
 pol_lt: ∀c,c<N->pol c<F
 pol_nx: ∀c,c<N->pol (nx c)=pol c
 fs_lt: ∀q,q<F->fs q<N/\pol (fs q)=q
 cyc: ∀c,c<N->GK nx (fs (pol c)) c
variable {N F : Nat} {nx pv pt pol fs : Nat → Nat} {x : Nat → Int}
def Hl (nx pv:Nat->Nat) (d:Nat×Bool):Nat×Bool:=if d.2=true then(nx d.1,false)else(pv d.1,true)
def MG (pt:Nat->Nat) (x:Nat->Int) (d:Nat×Bool):Nat×Bool:=if pt d.1=d.1 then(d.1,!d.2)else(pt d.1,if x (pt d.1)=x d.1 then d.2 else !d.2)
def Ek (N:Nat) (pt:Nat->Nat) (x:Nat->Int) (d:Nat×Bool):Nat×Bool:=if pt d.1=d.1/\d.1<N then d else MG pt x d
def phi (nx pv:Nat->Nat) (d:Nat×Bool):Nat×Bool:=if d.2=true then(pv d.1,true)else(nx d.1,false)
def Vj (pt:Nat->Nat) (x:Nat->Int) (d:Nat×Bool):Nat×Bool:=if pt d.1=d.1 then d else(pt d.1,if x (pt d.1)=x d.1 then !d.2 else d.2)
noncomputable def vF (N:Nat) (nx pv pt:Nat->Nat) (x:Nat->Int):Nat:=K (EQ (fun d e=>e=Hl nx pv d\/e=MG pt x d)) (both (List.range N))
noncomputable def vG (N:Nat) (nx pv pt:Nat->Nat) (x:Nat->Int):Nat:=K (EQ (fun d e=>e=Hl nx pv d\/e=Ek N pt x d)) (both (List.range N))
def NG (N:Nat) (pt:Nat->Nat):List Nat:=(List.range N).filter fun c=>decide (c<pt c)
def FC (N:Nat) (pt:Nat->Nat):List Nat:=(List.range N).filter fun c=>decide (pt c=c)
theorem KO (c:Nat):c∈NG N pt↔c<N/\c<pt c:=by unfold NG;rw[List.mem_filter,List.mem_range,decide_eq_true_eq]
theorem Ff (c:Nat):c∈FC N pt↔c<N/\pt c=c:=by unfold FC;rw[List.mem_filter,List.mem_range,decide_eq_true_eq]
set_option linter.unusedSectionVars false
section
variable (G : Hv N nx pv pt x pol fs F)
include G
theorem Hv.XT (c:Nat) (h:c<N):pv c<N:=by
 by_cases h2:pv c<N
 ·exact h2
 ·have:=G.nx_out _ h2
  rw[G.nx_pv]at this
  rw[<-this];exact h
theorem Hv.Wr (c:Nat) (h: ¬c<N):pv c=c:=by
 have:=G.pv_nx c
 rw[G.nx_out c h]at this
 exact this
theorem Hv.JF (d:Nat×Bool):Hl nx pv (Hl nx pv d)=d:=by
 obtain⟨c,b⟩:=d
 cases b<;>simp[Hl,G.nx_pv,G.pv_nx]
theorem Hv.Qp (d:Nat×Bool):MG pt x (MG pt x d)=d:=by
 obtain⟨c,b⟩:=d
 unfold MG
 by_cases h:pt c=c
 ·simp[h]
 ·have h2: ¬pt (pt c)=pt c:=by rw[G.pt_pt];exact fun e=>h e.symm
  simp only[h,if_false,h2]
  rw[G.pt_pt]
  by_cases e:x (pt c)=x c
  ·simp[e]
  ·have e2: ¬x c=x (pt c):=fun k=>e k.symm
   simp[e,e2]
theorem Hv.Hw (d:Nat×Bool):Ek N pt x (Ek N pt x d)=d:=by
 unfold Ek
 by_cases h:pt d.1=d.1/\d.1<N
 ·rw[if_pos h,if_pos h]
 ·rw[if_neg h,if_neg,G.Qp]
  unfold MG
  by_cases e:pt d.1=d.1
  ·rw[if_pos e];exact h
  ·rw[if_neg e]
   rintro⟨k,_⟩
   rw[show((pt d.1,if x (pt d.1)=x d.1 then d.2 else !d.2):Nat×Bool).1=pt d.1 from rfl,G.pt_pt]at k
   exact e k.symm
theorem Hv.UO (d e:Nat×Bool) (h:Hl nx pv d=Hl nx pv e):d=e:=by rw[<-G.JF d,h,G.JF]
theorem Hv.So (d e:Nat×Bool) (h:Ek N pt x d=Ek N pt x e):d=e:=by rw[<-G.Hw d,h,G.Hw]
theorem Hv.Jd (d:Nat×Bool) (h:d.1<N):(Hl nx pv d).1<N:=by
 unfold Hl;split
 ·exact G.nx_lt _ h
 ·exact G.XT _ h
theorem Hv.PX (d:Nat×Bool) (h:d.1<N):(MG pt x d).1<N:=by
 unfold MG;split
 ·exact h
 ·exact G.pt_lt _ h
theorem Hv.Jo (d:Nat×Bool) (h:d.1<N):(Ek N pt x d).1<N:=by
 unfold Ek;split
 ·exact h
 ·exact G.PX _ h
theorem Hv.Vv (d:Nat×Bool) (h:d.1<N):(Vj pt x d).1<N:=by
 unfold Vj;split
 ·exact h
 ·exact G.pt_lt _ h
theorem Hv.SJ (d:Nat×Bool) (h: ¬d.1<N):Ek N pt x d=(d.1,!d.2):=by
 unfold Ek MG;rw[if_neg (fun k=>h k.2),if_pos (G.pt_out _ h)]
theorem Hv.RE:Perm (fun d=>Hl nx pv (Ek N pt x d)):=by
 refine Jr (fun d e h=>G.So _ _ (G.UO _ _ h)) (both (List.range N)) (fun d hd=>?_) (fun d hd=>?_)
 ·rw[Dj,List.mem_range]at*;exact G.Jd _ (G.Jo d hd)
 ·have hd': ¬d.1<N:=fun k=>hd (by rw[Dj,List.mem_range];exact k)
  obtain⟨c,b⟩:=d
  show Hl nx pv (Ek N pt x (c,b))=(c,b)
  rw[G.SJ _ hd']
  unfold Hl
  cases b<;>simp[G.nx_out c hd',G.Wr c hd']
theorem Hv.Dn {d e:Nat×Bool} (h:EQ (fun d e=>e=phi nx pv d\/e=Vj pt x d) d e):EQ (fun d e=>e=phi nx pv d\/e=Vj pt x d) (d.1,!d.2) (e.1,!e.2):=by
 refine XB (fun d:Nat×Bool=>(d.1,!d.2)) ?_ h
 rintro⟨c,b⟩ e (rfl|rfl)
 ·refine .symm (.base (.inl ?_))
  unfold phi
  cases b
  ·simp[G.pv_nx]
  ·simp[G.nx_pv]
 ·refine .base (.inr ?_)
  unfold Vj
  by_cases h:pt c=c
  ·simp[h]
  ·by_cases e:x (pt c)=x c<;>cases b<;>simp[h,e]
theorem Hv.half:Xi (Vj pt x) (both (List.range N)) (both (NG N pt)):=by
 refine⟨?_,?_⟩
 ·refine(MN ((List.nodup_range).filter _)).imp_of_mem ?_
  rintro⟨c,b⟩ ⟨c',b'⟩ h1 h2 hne
  refine⟨hne,fun e=>?_⟩
  rw[Dj]at h1 h2
  have g1:=(KO c).1 h1
  have g2:=(KO c').1 h2
  unfold Vj at e
  rw[if_neg (show¬pt c'=c' by omega)]at e
  have e1:c=pt c':=congrArg Prod.fst e
  rw[e1,G.pt_pt]at g1
  omega
 ·rintro⟨c,b⟩ h1
  rw[Dj]at h1
  have g1:=(KO c).1 h1
  refine⟨?_,?_,fun e=>?_⟩
  ·rw[Dj,List.mem_range];exact g1.1
  ·rw[Dj,List.mem_range];exact G.Vv _ g1.1
  ·unfold Vj at e
   rw[if_neg (show¬pt c=c by omega)]at e
   have e1:pt c=c:=congrArg Prod.fst e
   omega
end
variable {N F : Nat} {nx pv pt pol fs : Nat → Nat} {x : Nat → Int}
set_option linter.unusedSectionVars false
section
variable (G : Hv N nx pv pt x pol fs F)
include G
theorem Hv.Um:(FC N pt).length=K (EQ (fun d e=>e=Hl nx pv d\/e=Ek N pt x d)) (both (FC N pt)):=by
 have hnd:(both (FC N pt)).Nodup:=MN (List.nodup_range.filter _)
 have h:=UT (Ei (fun d e=>e=Hl nx pv d\/e=Ek N pt x d)) _ (both (FC N pt)) (Nat.le_refl _) hnd (fun d hd=>by
  rw[Dj,Ff]at hd
  obtain⟨c,b⟩:=d
  have hfix:Ek N pt x (c,b)=(c,b):=by unfold Ek;rw[if_pos ⟨hd.2,hd.1⟩]
  obtain⟨y,y1,y2,y3,y4⟩:=Rb G.JF G.Hw (fun _=>rfl) G.RE (c,b) hfix (fun z _=>by
   obtain⟨u,v⟩:=z
   unfold Hl
   cases v<;>simp)
  have fix_free: ∀z:Nat×Bool,Ek N pt x z=z->pt z.1=z.1/\z.1<N:=fun z hz=>by
   unfold Ek at hz
   by_cases e:pt z.1=z.1/\z.1<N
   ·exact e
   ·exfalso
    rw[if_neg e]at hz
    unfold MG at hz
    obtain⟨u,v⟩:=z
    by_cases e2:pt u=u
    ·simp only[e2,if_true]at hz
     have:=congrArg Prod.snd hz
     cases v<;>simp at this
    ·simp only[e2,if_false]at hz
     exact e2 (congrArg Prod.fst hz)
  have free_fix: ∀z:Nat×Bool,z∈both (FC N pt)->Ek N pt x z=z:=fun z hz=>by
   rw[Dj,Ff]at hz
   unfold Ek
   rw[if_pos ⟨hz.2,hz.1⟩]
  have hy:=fix_free y y2
  exact⟨y,by rw[Dj,Ff];exact⟨hy.2,hy.1⟩,y1,y3,fun z hz hR=>y4 z (free_fix z hz) hR⟩)
 rw[PD]at h
 omega
def Tc (N:Nat) (nx pv pt:Nat->Nat) (x:Nat->Int) (c d:Nat):Prop:=c∈FC N pt/\d∈FC N pt/\∃b b',EQ (fun d e=>e=Hl nx pv d\/e=Ek N pt x d) (c,b) (d,b')
noncomputable def brd (N:Nat) (nx pv pt:Nat->Nat) (x:Nat->Int):Nat:=K (EQ (Tc N nx pv pt x)) (FC N pt)
theorem Hv.MD {d e:Nat×Bool} (hd:d.1<N) (h:EQ (fun d e=>e=Hl nx pv d\/e=MG pt x d) d e):
 EQ (fun d e=>e=Hl nx pv d\/e=Ek N pt x d) d e\/∃c1 b1 c2 b2,EQ (fun d e=>e=Hl nx pv d\/e=Ek N pt x d) d (c1,b1)/\EQ (fun d e=>e=Hl nx pv d\/e=Ek N pt x d) e (c2,b2)/\c1∈FC N pt/\c2∈FC N pt/\EQ (Tc N nx pv pt x) c1 c2:=by
 have hQ:IX (fun d e:Nat×Bool=>(d.1<N↔e.1<N)/\(d.1<N->(EQ (fun d e=>e=Hl nx pv d\/e=Ek N pt x d) d e\/∃c1 b1 c2 b2,EQ (fun d e=>e=Hl nx pv d\/e=Ek N pt x d) d (c1,b1)/\EQ (fun d e=>e=Hl nx pv d\/e=Ek N pt x d) e (c2,b2)/\c1∈FC N pt/\c2∈FC N pt/\EQ (Tc N nx pv pt x) c1 c2))):=by
  refine⟨fun d=>⟨Iff.rfl,fun _=> .inl (.refl d)⟩,?_,?_⟩
  ·rintro d e ⟨h1,h2⟩
   refine⟨h1.symm,fun he=>?_⟩
   rcases h2 (h1.2 he)with h|⟨c1,b1,c2,b2,k1,k2,k3,k4,k5⟩
   ·exact .inl (.symm h)
   ·exact .inr ⟨c2,b2,c1,b1,k2,k1,k4,k3,.symm k5⟩
  ·rintro d e f ⟨h1,h2⟩ ⟨g1,g2⟩
   refine⟨h1.trans g1,fun hd=>?_⟩
   rcases h2 hd with h|⟨c1,b1,c2,b2,k1,k2,k3,k4,k5⟩
   ·rcases g2 (h1.1 hd)with g|⟨a1,e1,a2,e2,l1,l2,l3,l4,l5⟩
    ·exact .inl (.trans h g)
    ·exact .inr ⟨a1,e1,a2,e2,.trans h l1,l2,l3,l4,l5⟩
   ·rcases g2 (h1.1 hd)with g|⟨a1,e1,a2,e2,l1,l2,l3,l4,l5⟩
    ·exact .inr ⟨c1,b1,c2,b2,k1,.trans (.symm g) k2,k3,k4,k5⟩
    ·exact .inr ⟨c1,b1,a2,e2,k1,l2,k3,l4,.trans k5 (.trans (.base ⟨k4,l3,b2,e1,.trans (.symm k2) l1⟩) l5)⟩
 refine(Hf hQ ?_ h).2 hd
 rintro d e (rfl|rfl)
 ·refine⟨⟨G.Jd d,fun h=>?_⟩,fun _=> .inl (.base (.inl rfl))⟩
  have:=G.Jd _ h
  rwa[G.JF]at this
 ·refine⟨⟨G.PX d,fun h=>?_⟩,fun hd=>?_⟩
  ·have:=G.PX _ h
   rwa[G.Qp]at this
  ·by_cases e:pt d.1=d.1
   ·have hf:d.1∈FC N pt:=(Ff _).2 ⟨hd,e⟩
    refine .inr ⟨d.1,d.2,d.1,!d.2,.refl _,?_,hf,hf,.refl _⟩
    unfold MG
    rw[if_pos e]
    exact .refl _
   ·refine .inl (.base (.inr ?_))
    unfold Ek
    rw[if_neg (fun k=>e k.1)]
theorem Hv.LO:vG N nx pv pt x+brd N nx pv pt x=vF N nx pv pt x+(FC N pt).length:=by
 have hsub: ∀d e,EQ (fun d e=>e=Hl nx pv d\/e=Ek N pt x d) d e->d.1<N->EQ (fun d e=>e=Hl nx pv d\/e=MG pt x d) d e:=fun d e h hd=>by
  have hQ:IX (fun d e:Nat×Bool=>(d.1<N↔e.1<N)/\(d.1<N->EQ (fun d e=>e=Hl nx pv d\/e=MG pt x d) d e)):=
   ⟨fun d=>⟨Iff.rfl,fun _=> .refl d⟩,fun⟨h1,h2⟩=>⟨h1.symm,fun he=> .symm (h2 (h1.2 he))⟩,fun⟨h1,h2⟩ ⟨g1,g2⟩=>⟨h1.trans g1,fun hd=> .trans (h2 hd) (g2 (h1.1 hd))⟩⟩
  refine(Hf hQ ?_ h).2 hd
  rintro d e (rfl|rfl)
  ·refine⟨⟨G.Jd d,fun h=>?_⟩,fun _=> .base (.inl rfl)⟩
   have:=G.Jd _ h
   rwa[G.JF]at this
  ·refine⟨⟨G.Jo d,fun h=>?_⟩,fun hd=>?_⟩
   ·have:=G.Jo _ h
    rwa[G.Hw]at this
   ·by_cases e:pt d.1=d.1/\d.1<N
    ·have:Ek N pt x d=d:=by unfold Ek;rw[if_pos e]
     rw[this];exact .refl d
    ·refine .base (.inr ?_)
     unfold Ek;rw[if_neg e]
 have hcl: ∀d e,EQ (fun d e=>e=Hl nx pv d\/e=Ek N pt x d) d e->d.1<N->e.1<N:=fun d e h hd=>by
  have hQ:IX (fun d e:Nat×Bool=>(d.1<N↔e.1<N)):=⟨fun _=>Iff.rfl,fun h=>h.symm,fun h k=>h.trans k⟩
  refine(Hf hQ ?_ h).1 hd
  rintro d e (rfl|rfl)
  ·exact⟨G.Jd d,fun h=>by have:=G.Jd _ h;rwa[G.JF]at this⟩
  ·exact⟨G.Jo d,fun h=>by have:=G.Jo _ h;rwa[G.Hw]at this⟩
 obtain⟨S,hS⟩: ∃S:Nat×Bool->Prop,∀d,S d↔(d.1<N/\∃f,f∈both (FC N pt)/\EQ (fun d e=>e=Hl nx pv d\/e=Ek N pt x d) d f):=⟨_,fun _=>Iff.rfl⟩
 have hbl: ∀f,f∈both (FC N pt)->f.1<N:=fun f hf=>by rw[Dj,Ff]at hf;exact hf.1
 have S1: ∀d e,EQ (fun d e=>e=Hl nx pv d\/e=Ek N pt x d) d e->S d->S e:=fun d e h hd=>by
  obtain⟨h1,f,hf,hR⟩:=(hS d).1 hd
  exact(hS e).2 ⟨hcl d e h h1,f,hf,.trans (.symm h) hR⟩
 have S2: ∀d e,EQ (fun d e=>e=Hl nx pv d\/e=MG pt x d) d e->S d->S e:=fun d e h hSd=>by
  rcases G.MD ((hS d).1 hSd).1 h with h2|⟨c1,b1,c2,b2,k1,k2,k3,k4,k5⟩
  ·exact S1 d e h2 hSd
  ·have hc2:(c2,b2)∈both (FC N pt):=by rw[Dj];exact k4
   exact(hS e).2 ⟨hcl _ _ (.symm k2) (hbl _ hc2),(c2,b2),hc2,k2⟩
 have e1:=QT (Ei (fun d e=>e=Hl nx pv d\/e=Ek N pt x d)) S S1 (both (List.range N))
 have e2:=QT (Ei (fun d e=>e=Hl nx pv d\/e=MG pt x d)) S S2 (both (List.range N))
 have m1: ∀d,d∈(both (List.range N)).filter (fun d=>decide (S d))↔S d:=fun d=>by
  rw[List.mem_filter,decide_eq_true_eq,Dj,List.mem_range]
  exact⟨fun h=>h.2,fun h=>⟨((hS d).1 h).1,h⟩⟩
 have m2: ∀d,d∈(both (List.range N)).filter (fun d=>decide (¬S d))↔d.1<N/\¬S d:=fun d=>by
  rw[List.mem_filter,decide_eq_true_eq,Dj,List.mem_range]
 have e3:K (EQ (fun d e=>e=Hl nx pv d\/e=Ek N pt x d)) ((both (List.range N)).filter fun d=>decide (S d))=(FC N pt).length:=by
  rw[G.Um (x:=x)]
  refine Nl _ _ (Ei _) (Ei _) _ _ (fun d f=>EQ (fun d e=>e=Hl nx pv d\/e=Ek N pt x d) d f) ?_ ?_ ?_
  ·intro d hd;exact((hS d).1 ((m1 d).1 hd)).2
  ·intro f hf;exact⟨f,(m1 f).2 ((hS f).2 ⟨hbl f hf,f,hf,.refl f⟩),.refl f⟩
  ·intro a b c d _ _ _ _ g1 g2
   exact⟨fun h=> .trans g1 (.trans h (.symm g2)),fun h=> .trans (.symm g1) (.trans h g2)⟩
 have e4:K (EQ (fun d e=>e=Hl nx pv d\/e=MG pt x d)) ((both (List.range N)).filter fun d=>decide (S d))=brd N nx pv pt x:=by
  unfold brd
  refine Nl _ _ (Ei _) (Ei _) _ _ (fun d c=>d.1<N/\c∈FC N pt/\∃b,EQ (fun d e=>e=Hl nx pv d\/e=Ek N pt x d) d (c,b)) ?_ ?_ ?_
  ·intro d hd
   obtain⟨h1,⟨c,b⟩,hf,hR⟩:=(hS d).1 ((m1 d).1 hd)
   rw[Dj]at hf
   exact⟨c,hf,h1,hf,b,hR⟩
  ·intro c hc
   have hlt:=((Ff c).1 hc).1
   exact⟨(c,false),(m1 _).2 ((hS _).2 ⟨hlt,(c,false),by rw[Dj];exact hc,.refl _⟩),hlt,hc,false,.refl _⟩
  ·rintro d c e c' _ _ _ _ ⟨g0,g1,b,g2⟩ ⟨k0,k1,b',k2⟩
   have flip: ∀c,c∈FC N pt->∀b b',EQ (fun d e=>e=Hl nx pv d\/e=MG pt x d) (c,b) (c,b'):=fun c hc b b'=>by
    have h1:EQ (fun d e=>e=Hl nx pv d\/e=MG pt x d) (c,b) (c,!b):= .base (.inr (by unfold MG;rw[if_pos ((Ff c).1 hc).2]))
    by_cases hb:b'=b
    ·subst hb;exact .refl _
    ·have:b'=!b:=by cases b<;>cases b'<;>simp_all
     rw[this];exact h1
   constructor
   ·intro h
    have hQ:IX (fun c c':Nat=>c=c'\/(c∈FC N pt/\c'∈FC N pt/\∀b b',EQ (fun d e=>e=Hl nx pv d\/e=MG pt x d) (c,b) (c',b'))):=by
     refine⟨fun _=> .inl rfl,?_,?_⟩
     ·rintro a c (rfl|⟨h1,h2,h3⟩)
      ·exact .inl rfl
      ·exact .inr ⟨h2,h1,fun b b'=> .symm (h3 b' b)⟩
     ·rintro a c f (rfl|⟨h1,h2,h3⟩) (rfl|⟨l1,l2,l3⟩)
      ·exact .inl rfl
      ·exact .inr ⟨l1,l2,l3⟩
      ·exact .inr ⟨h1,h2,h3⟩
      ·exact .inr ⟨h1,l2,fun b b'=> .trans (h3 b false) (l3 false b')⟩
    have hmain:EQ (fun d e=>e=Hl nx pv d\/e=MG pt x d) (c,b) (c',b'):=by
     rcases Hf hQ (fun a f ⟨h1,h2,u,v,h3⟩=> .inr ⟨h1,h2,fun b b'=> .trans (flip a h1 b u) (.trans (hsub _ _ h3 ((Ff a).1 h1).1) (flip f h2 v b'))⟩) h with rfl|⟨_,_,h3⟩
     ·exact flip c g1 b b'
     ·exact h3 b b'
    exact .trans (hsub _ _ g2 g0) (.trans hmain (.symm (hsub _ _ k2 k0)))
   ·intro h
    rcases G.MD g0 h with h2|⟨c1,b1,c2,b2,l1,l2,l3,l4,l5⟩
    ·exact .base ⟨g1,k1,b,b',.trans (.symm g2) (.trans h2 k2)⟩
    ·exact .trans (.base ⟨g1,l3,b,b1,.trans (.symm g2) l1⟩) (.trans l5 (.base ⟨l4,k1,b2,b',.trans (.symm l2) k2⟩))
 have e5:K (EQ (fun d e=>e=Hl nx pv d\/e=Ek N pt x d)) ((both (List.range N)).filter fun d=>decide (¬S d))=K (EQ (fun d e=>e=Hl nx pv d\/e=MG pt x d)) ((both (List.range N)).filter fun d=>decide (¬S d)):=by
  refine Ds _ _ (Ei _) (Ei _) _ _ (fun _=>Iff.rfl) fun a b ha hb=>⟨fun h=>hsub a b h ((m2 a).1 ha).1,fun h=>?_⟩
  rcases G.MD ((m2 a).1 ha).1 h with h2|⟨c1,b1,c2,b2,l1,l2,l3,l4,l5⟩
  ·exact h2
  ·exact absurd ((hS a).2 ⟨((m2 a).1 ha).1,(c1,b1),by rw[Dj];exact l3,l1⟩) ((m2 a).1 ha).2
 unfold vG vF
 omega
end
end Go.Proofs.Ytlnddmkkgjlmbaa.Kl
