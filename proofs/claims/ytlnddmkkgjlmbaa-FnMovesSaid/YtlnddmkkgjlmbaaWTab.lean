-- The kit's printed words, cut by a program of this session to what this claim comes to.
import Derived.Test.YtlnddmkkgjlmbaaWLast
import Derived.Test.YtlnddmkkgjlmbaaWWords
namespace Go.Proofs.YtlnddmkkgjlmbaaW.PrintLast
open Go.Proofs.YtlnddmkkgjlmbaaW.PrintWords (AJ)
def JE (md:Region.Mode) (o:Oper):List Nat:=(o.after.toList.filter (fun e=>Region.binds md e)).map (fun e=>e.on)
def Na (md:Region.Mode) (ops:Array Oper) (i:Nat) (oi:Oper):List Nat:=(List.range ops.size).filter fun j=>!(j==i)&&match ops[j]? with
 |some oj=>!(oj.after.any (fun e=>Region.binds md e&&e.on==i)||oi.apart ops oj)
 |none=>false
def En (md:Region.Mode) (ops:Array Oper):Bool×List (List Nat×List Nat):=(Region.noSelect ops,(List.range ops.size).map fun i=>match ops[i]? with
 |some o=>(JE md o,Na md ops i o)
 |none=>([],[]))
def HJ (T:List (List Nat×List Nat)) (l:List Bool) (i:Nat):Bool:=!l.getD i true&&match T[i]? with
 |some r=>r.1.all (fun j=>l.getD j false)
 |none=>false
def Lz (T:List (List Nat×List Nat)) (l:List Bool):List Nat:=(List.range T.length).filter (HJ T l)
def OX (T:List (List Nat×List Nat)) (l:List Bool) (i:Nat):Bool:=match T[i]? with
 |some r=>r.2.all (fun j=>l.getD j true)
 |none=>false
def LN (T:List (List Nat×List Nat)) (l:List Bool):Bool:=(List.range T.length).all fun j=>!l.getD j false||match T[j]? with
 |some r=>r.1.all (fun k=>l.getD k false)
 |none=>true
def Kf (T:List (List Nat×List Nat)) (i:Nat):Nat->Nat->Bool
 |0,_=>false
 |fuel+1,d=>match T[d]? with
  |some r=>r.1.any fun j=>j==i||Kf T i fuel j
  |none=>false
def QN (T:List (List Nat×List Nat)) (l:List Bool) (ds:List Nat) (i:Nat):Bool:=ds.all fun d=>l.getD d true||Kf T i T.length d
section
variable {md : Region.Mode} {ops : Array Oper} {T : Bool × List (List Nat × List Nat)} {l l' li lj lk : Array Bool} {ds : List Nat} {i j k : Nat}
theorem gd (l:Array Bool) (j:Nat) (b:Bool):l.getD j b=l.toList.getD j b:=by simp[Array.getD_eq_getD_getElem?,List.getD_eq_getElem?_getD]
theorem Mn (o:Oper) (p:Nat->Bool):o.after.all (fun e=>!Region.binds md e||p e.on)=(JE md o).all p:=by
 unfold JE
 rw[<-Array.all_toList]
 induction o.after.toList with
 |nil=>rfl
 |cons e r ih=>
  rw[List.all_cons,ih,List.filter_cons]
  cases h:Region.binds md e<;>simp
theorem RG (o:Oper) (p:Nat->Bool):o.after.any (fun e=>Region.binds md e&&p e.on)=(JE md o).any p:=by
 unfold JE
 rw[<-Array.any_toList]
 induction o.after.toList with
 |nil=>rfl
 |cons e r ih=>
  rw[List.any_cons,ih,List.filter_cons]
  cases h:Region.binds md e<;>simp
theorem Ha:(En md ops).2.length=ops.size:=by simp[En]
theorem JH {o:Oper} (h:ops[i]? =some o):(En md ops).2[i]? =some (JE md o,Na md ops i o):=by
 have hi:=(Array.getElem?_eq_some_iff.1 h).1
 unfold En
 rw[List.getElem?_map,List.getElem?_range hi,Option.map_some,h]
theorem JG (h:ops[i]? =none):(En md ops).2[i]? =none:=by
 have hi:ops.size<=i:=Array.getElem?_eq_none_iff.1 h
 exact List.getElem?_eq_none (by rw[Ha];exact hi)
theorem Pn:HJ (En md ops).2 l.toList i=(!l.getD i true&&((ops[i]?).map (·.after.all fun e=>!Region.binds md e||l.getD e.on false)).getD false):=by
 unfold HJ
 rw[gd]
 cases h:ops[i]? with
 |none=>rw[JG h];rfl
 |some o=>
  rw[JH h]
  simp only[Option.map_some,Option.getD_some]
  rw[<-Mn]
  simp only[gd]
theorem MI:Region.ready md ops l=Lz (En md ops).2 l.toList:=by
 unfold Region.ready Lz
 rw[Ha]
 refine List.filter_congr (fun i _=>?_)
 rw[Pn]
theorem QK:Region.free md ops l i=OX (En md ops).2 l.toList i:=by
 unfold Region.free OX
 cases h:ops[i]? with
 |none=>rw[JG h]
 |some oi=>
  rw[JH h]
  simp only[Na]
  rw[List.all_filter]
  congr 1
  funext j
  rw[gd]
  cases hj:ops[j]? with
  |none=>cases(j==i)<;>cases(l.toList.getD j true)<;>simp
  |some oj=>
   cases(j==i)<;>cases(l.toList.getD j true)<;>cases(oj.after.any (fun e=>Region.binds md e&&e.on==i)||oi.apart ops oj)<;>simp_all
theorem Qq:Region.Ju md ops l=LN (En md ops).2 l.toList:=by
 unfold Region.Ju LN
 rw[Ha]
 congr 1
 funext j
 rw[gd]
 cases h:ops[j]? with
 |none=>rw[JG h]
 |some o=>
  rw[JH h]
  simp only
  rw[<-Mn]
  simp only[gd]
theorem Od: ∀(fuel d:Nat),Region.GR md ops i fuel d=Kf (En md ops).2 i fuel d
 |0,_=>rfl
 |fuel+1,d=>by
  unfold Region.GR Kf
  cases h:ops[d]? with
  |none=>rw[JG h]
  |some o=>
   rw[JH h]
   simp only
   rw[<-RG]
   congr 1
   funext e
   rw[Od fuel]
theorem VN:Region.OM md ops l ds i=QN (En md ops).2 l.toList ds i:=by
 unfold Region.OM QN
 rw[Ha]
 congr 1
 funext d
 rw[gd,Od]
theorem Ks (h:HJ T.2 l.toList i=true) (hT:En md ops=T):(Region.ready md ops l).contains i=true:=by
 subst hT
 rw[MI]
 unfold Lz
 rw[List.contains_iff_mem,List.mem_filter,List.mem_range]
 refine⟨?_,h⟩
 unfold HJ at h
 rw[Bool.and_eq_true]at h
 cases hq:(En md ops).2[i]? with
 |none=>rw[hq]at h;simp at h
 |some r=>exact(List.getElem?_eq_some_iff.1 hq).1
theorem PM (h:(l.toList.set i true==l'.toList)=true):(l.setIfInBounds i true==l')=true:=by
 rw[beq_iff_eq]at h⊢
 apply Array.ext'
 rw[Array.toList_setIfInBounds]
 exact h
def Xh (T:Bool×List (List Nat×List Nat)) (l l':List Bool) (i:Nat):Bool:=T.1&&OX T.2 l i&&HJ T.2 l i&&(l.set i true==l')
theorem SZ (hT:En md ops=T) (h:Xh T l.toList l'.toList i=true):RD md ops l l' i=true:=by
 simp only[Xh,Bool.and_eq_true]at h
 obtain⟨⟨⟨h1,h2⟩,h3⟩,h4⟩:=h
 have h5:=Ks h3 hT
 have h6:=PM h4
 subst hT
 simp only[RD,Bool.and_eq_true]
 exact⟨⟨⟨h1,by rw[QK];exact h2⟩,h5⟩,h6⟩
def Ts (T:Bool×List (List Nat×List Nat)) (ds:List Nat) (l l':List Bool) (i:Nat):Bool:=T.1&&OX T.2 l i&&HJ T.2 l i&&LN T.2 l&&QN T.2 l ds i&&(l.set i true==l')
theorem Un (hT:En md ops=T) (h:Ts T ds l.toList l'.toList i=true):Ip md ops ds l l' i=true:=by
 simp only[Ts,Bool.and_eq_true]at h
 obtain⟨⟨⟨⟨⟨h1,h2⟩,h3⟩,h4⟩,h5⟩,h6⟩:=h
 have h7:=Ks h3 hT
 have h8:=PM h6
 subst hT
 simp only[Ip,Bool.and_eq_true]
 exact⟨⟨⟨⟨⟨h1,by rw[QK];exact h2⟩,h7⟩,by rw[Qq];exact h4⟩,by rw[VN];exact h5⟩,h8⟩
theorem Hc (hT:En md ops=T) (h:(Lz T.2 l.toList==[i]&&l.toList.set i true==l'.toList)=true):JW md ops l l' i=true:=by
 simp only[Bool.and_eq_true]at h
 obtain⟨h1,h2⟩:=h
 subst hT
 simp only[JW,Bool.and_eq_true]
 exact⟨by rw[MI];exact h1,PM h2⟩
theorem DI (hT:En md ops=T) (h:(Lz T.2 l.toList==[])=true):(Region.ready md ops l==[])=true:=by
 subst hT
 rw[MI]
 exact h
def Wg (B:List Nat) (d:Nat):List Nat->Nat
 |[]=>0
 |n::r=>(2^n ||| (if n<d then B.getD n 0 else 0)) ||| Wg B d r
def DZ (T:List (List Nat×List Nat)) (B:List Nat):Bool:=(List.range T.length).all fun d=>match T[d]? with
 |some r=>(B.getD d 0 ||| Wg B d r.1)==Wg B d r.1
 |none=>false
theorem Qa {B:List Nat} {d i:Nat}: ∀{ns:List Nat},(Wg B d ns).testBit i=true->∃n∈ns,n=i\/(n<d/\(B.getD n 0).testBit i=true)
 |[],h=>by simp[Wg]at h
 |n::r,h=>by
  unfold Wg at h
  rw[Nat.testBit_or,Nat.testBit_or,Bool.or_eq_true,Bool.or_eq_true]at h
  rcases h with(h|h)|h
  ·rw[Nat.testBit_two_pow]at h
   exact⟨n,List.mem_cons_self,.inl (by simpa using h)⟩
  ·by_cases hn:n<d
   ·rw[if_pos hn]at h
    exact⟨n,List.mem_cons_self,.inr ⟨hn,h⟩⟩
   ·rw[if_neg hn]at h
    simp at h
  ·obtain⟨m,hm,h2⟩:=Qa h
   exact⟨m,List.mem_cons_of_mem _ hm,h2⟩
theorem Mj {T:List (List Nat×List Nat)} {B:List Nat} (hB:DZ T B=true): ∀(fuel d:Nat),d<fuel->d<T.length->(B.getD d 0).testBit i=true->Kf T i fuel d=true
 |0,d,h,_,_=>by omega
 |fuel+1,d,h,hd,hb=>by
  have h1:=List.all_eq_true.1 hB d (List.mem_range.2 hd)
  cases hr:T[d]? with
  |none=>rw[hr]at h1;simp at h1
  |some r=>
   rw[hr]at h1
   simp only[beq_iff_eq]at h1
   have h2:(Wg B d r.1).testBit i=true:=by rw[<-h1,Nat.testBit_or,hb,Bool.true_or]
   obtain⟨n,hn,h3⟩:=Qa h2
   unfold Kf
   rw[hr]
   simp only
   rw[List.any_eq_true]
   refine⟨n,hn,?_⟩
   rcases h3 with rfl|⟨h4,h5⟩
   ·simp
   ·rw[Mj hB fuel n (by omega) (by omega) h5,Bool.or_true]
def VW (T:List (List Nat×List Nat)) (B:List Nat) (l:List Bool) (ds:List Nat) (i:Nat):Bool:=ds.all fun d=>l.getD d true||(decide (d<T.length)&&(B.getD d 0).testBit i)
def Vi (T:Bool×List (List Nat×List Nat)) (B ds:List Nat) (l l':List Bool) (i:Nat):Bool:=T.1&&OX T.2 l i&&HJ T.2 l i&&LN T.2 l&&VW T.2 B l ds i&&(l.set i true==l')
theorem Hq {B:List Nat} (hT:En md ops=T) (hB:DZ T.2 B=true) (h:Vi T B ds l.toList l'.toList i=true):Ip md ops ds l l' i=true:=by
 refine Un hT ?_
 simp only[Vi,Ts,Bool.and_eq_true]at h⊢
 obtain⟨⟨⟨⟨⟨h1,h2⟩,h3⟩,h4⟩,h5⟩,h6⟩:=h
 refine⟨⟨⟨⟨⟨h1,h2⟩,h3⟩,h4⟩,?_⟩,h6⟩
 unfold VW at h5
 unfold QN
 rw[List.all_eq_true]at h5⊢
 intro d hd
 have h7:=h5 d hd
 rw[Bool.or_eq_true,Bool.and_eq_true,decide_eq_true_eq]at h7
 rcases h7 with h7|⟨h8,h9⟩
 ·rw[h7,Bool.true_or]
 ·rw[Mj hB _ d h8 h8 h9,Bool.or_true]
theorem CY {P:Program} {Q:Exit->Act->World->Prop} {S:World->Prop} {n:Nat} {a:Act} {w:World} {B:List Nat} (hT:En md ops=T) (hB:DZ T.2 B=true) (h:AJ (En md ops=T)->AJ (DZ T.2 B=true)->BH P md ops Q S ds n l a w):BH P md ops Q S ds n l a w:=h ⟨hT⟩ ⟨hB⟩
end
def JO:Code->Nat->Option (Array Oper)
 | .region id ops _,k=>if id==k then some ops else none
 | .seq a b,k=>match JO a k with
   |some o=>some o
   |none=>JO b k
 | .cond _ a b,k=>match JO a k with
   |some o=>some o
   |none=>JO b k
 | .block _ c,k=>JO c k
 | .loop c,k=>JO c k
 | .scope c,k=>JO c k
 | .rangeFunc _ _ a b,k=>match JO a k with
   |some o=>some o
   |none=>JO b k
 |_,_=>none
def opsOf (f:Func) (k:Nat):Array Oper:=((f.body.bind fun c=>JO c k)).getD #[]
end Go.Proofs.YtlnddmkkgjlmbaaW.PrintLast
