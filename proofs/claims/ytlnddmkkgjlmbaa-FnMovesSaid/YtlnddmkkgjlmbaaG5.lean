/- Parts of this claim's walks and of its plain proof. No conditions of their own. -/
import Derived.Test.YtlnddmkkgjlmbaaG2
import Derived.Test.YtlnddmkkgjlmbaaG4
import Derived.StillTailTactics
namespace Go.Proofs.Ytlnddmkkgjlmbaa.QFnMoves
open Go.Proofs.Ytlnddmkkgjlmbaa.Zip Go.RowKit Go.Proofs.YtlnddmkkgjlmbaaW.PrintWords Go.Proofs.YtlnddmkkgjlmbaaW.PrintLast Go.Proofs.YtlnddmkkgjlmbaaW.PrintMore Go.Proofs.Ytlnddmkkgjlmbaa.Com
attribute [local go_sem] CD CF CW CV Bl Bk CE CG
set_option linter.unusedVariables false
set_option linter.unusedSimpArgs false
def CU (h:Int->Int) (x:Int):Int:=if x>0 then h x else-(h (-x))
def Eb (h:Int->Int) (k:Nat) (row:List Int):List Int:=(row.take k).map (CU h)++row.drop k
theorem Cz (h:Int->Int) (k:Nat) (row:List Int):(Eb h k row).length=row.length:=by
 unfold Eb;rw[List.length_append,List.length_map,List.length_take,List.length_drop];omega
theorem Kh (h:Int->Int) (row:List Int):Eb h row.length row=row.map (CU h):=by
 unfold Eb;rw[List.take_length,List.drop_length,List.append_nil]
theorem Ml (h:Int->Int) (k:Nat) (row:List Int) (hk:k<row.length):(Eb h k row)[k]? =row[k]? :=by
 unfold Eb
 have e:((row.take k).map (CU h)).length=k:=by rw[List.length_map,List.length_take];omega
 rw[List.getElem?_append_right (by omega),e,List.getElem?_drop,Nat.sub_self,Nat.add_zero]
theorem LZ (h:Int->Int) (k:Nat) (row:List Int) (hk:k<row.length):rd (Eb h k row) (k:Int)=row[k]:=by
 rw[Ie,List.getD_eq_getElem?_getD,Ml h k row hk,List.getElem?_eq_getElem hk];rfl
theorem JB (h:Int->Int) (k:Nat) (row:List Int) (hk:k<row.length):(Eb h k row).set k (CU h row[k])=Eb h (k+1) row:=by
 unfold Eb;rw[List.drop_eq_getElem_cons hk,List.set_append_right _ _ (by rw[List.length_map,List.length_take];omega)]
 have e:k-((row.take k).map (CU h)).length=0:=by rw[List.length_map,List.length_take];omega
 rw[e,List.set_cons_zero,List.take_succ_eq_append_getElem hk,List.map_append,List.append_assoc];rfl
def GO (h:Int->Int) (p:Nat) (t:List (List Int)):List (List Int):=(t.take p).map (List.map (CU h))++t.drop p
theorem Jb (h:Int->Int) (p:Nat) (t:List (List Int)):(GO h p t).length=t.length:=by
 unfold GO;rw[List.length_append,List.length_map,List.length_take,List.length_drop];omega
theorem JY (h:Int->Int) (t:List (List Int)):GO h t.length t=t.map (List.map (CU h)):=by
 unfold GO;rw[List.take_length,List.drop_length,List.append_nil]
theorem KN (h:Int->Int) (p:Nat) (t:List (List Int)) (hp:p<t.length):(GO h p t).getD p []=t[p]:=by
 have e:((t.take p).map (List.map (CU h))).length=p:=by rw[List.length_map,List.length_take];omega
 rw[List.getD_eq_getElem?_getD];unfold GO;rw[List.getElem?_append_right (by omega),e,List.getElem?_drop,Nat.sub_self,Nat.add_zero,List.getElem?_eq_getElem hp];rfl
theorem Je (h:Int->Int) (p:Nat) (t:List (List Int)) (hp:p<t.length):(GO h p t).set p (t[p].map (CU h))=GO h (p+1) t:=by
 unfold GO;rw[List.drop_eq_getElem_cons hp,List.set_append_right _ _ (by rw[List.length_map,List.length_take];omega)]
 have e:p-((t.take p).map (List.map (CU h))).length=0:=by rw[List.length_map,List.length_take];omega
 rw[e,List.set_cons_zero,List.take_succ_eq_append_getElem hp,List.map_append,List.append_assoc];rfl
def Jy (t:List (List Int)):Prop:=t.length<=1048576/\∀row∈t,row.length<=1048576/\∀x∈row,x≠0/\ -8<=x/\x<=8
set_option maxHeartbeats 16000000 in
set_option maxRecDepth 100000 in
theorem KU (k:Nat) (px py:Addr) (h:Int->Int) (A0:Option Addr) (c0:Nat) (l0 t r1:List (List Int)) (r2:Bool) (w:World)
 (a3:Kd.C (Kd.slice 3 (Kd.int .i64)) w A0 l0.length l0) (a4:l0.length<=c0) (hcp:Aw.f k l0=some t) (hok:Jy t) (hh: ∀z:Int,1<=z->z<=8-> -8<=h z/\h z<=8)
 (hclo: ∀w',Below w.heap.size w w'->∀z:Int,1<=z->z<=8->Calls Try.prog 76 #[.int .i64 z,.pointer (some px),.pointer (some py)] w' fun e w''=>e= .returned (.int .i64 (h z))/\w''=w')
 (hm:BX.f k (t.map (List.map (CU h)))=some (r1,r2)):
 Calls Try.prog 74 #[.slice A0 l0.length c0,.func (.func 76) #[] #[.pointer (some px),.pointer (some py)]] w fun e w'=> ∃a5:Value,e= .returned (.tuple #[a5,.bool r2])/\Kd.S (Kd.slice 3 (Kd.int .i64)) 47 w' w.heap.size (fun _=>True) a5 r1/\Below w.heap.size w w':=by
 have b1:=ak a3;have b2:=ak a4;have HCP:=ak hcp;have HOK:=ak hok;have HH:=ak hh;have HCLO:=ak hclo;have HM:=ak hm;have htl:t.length<=1048576:=hok.1;clear a3 a4 hcp hok hh hclo hm
 go_enter Try.func74,Try.ntmps74
 go_wp2_with fail
 go_at_call 58
 refine(Aw.calls k A0 c0 l0 t w b1.out b2.out HCP.out).mono ?_;rintro e w1 ⟨v1,rfl,hs,hb⟩;obtain⟨D,cd,rfl⟩:=Kd.Bo hs;have a6:=ak hs;have a7:=ak hb;clear hs hb
 go_wp2
 go_loopg [15] t.length (fun gk b3 w'=> ∃p:Nat,p+gk=t.length/\b3= .int .i64 (p:Int)/\AJ (Kd.S (Kd.slice 3 (Kd.int .i64)) 47 w' w.heap.size (fun _=>True) (.slice D t.length cd) (GO h p t))/\AJ (Below w.heap.size w w'))
 case atStart=>exact⟨0,by omega,rfl,a6,a7⟩
 case round=>
  clear a6 a7;obtain⟨p,hk,rfl,HS,HB⟩:=hrel
  cases gk with
  |zero=>
   obtain rfl:p=t.length:=by omega
   have c1:decide (t.length<t.length)=false:=decide_eq_false (by omega);have a0:=ak HS.out;rw[JY]at a0;clear hk HS
   go_wp2_with fail
   go_at_call 60
   refine Eu (args':= #[.slice D (t.map (List.map (CU h))).length cd]) (by rw[List.length_map]) ?_;refine(BX.calls k (fun _=>True) w.heap.size D cd (t.map (List.map (CU h))) r1 r2 _ (AA HB.out) (by rw[List.length_map];exact a0.out) HM.out).mono ?_;rintro e w2 ⟨v2,rfl,hs,hb⟩;have HT:=ak (Kd.Af (ok':=fun _=>True) hs (fun _ _=>trivial));have b4:=ak (AG HB.out hb);clear hs hb
   go_wp2
   go_ret2
   exact⟨_,rfl,HT.out,b4.out⟩
  |succ q=>
   have HKp:=ak hk
   have hlt:p<t.length:=by omega
   have c1:=decide_eq_true hlt
   have b5:(0:Int)<=(p:Int):=by omega
   have b6:(p:Int)<(t.length:Int):=by omega
   obtain⟨gd,cdd,eD,gb,gl,cl,HG⟩:=Kd.GP HS.out (by rw[Jb];omega)
   obtain⟨rfl,rfl⟩:D=some ⟨gd,0,none⟩/\cd=cdd:=by
    injection eD with e1 e2 e3
    exact⟨e1,e3⟩
   clear gb gl cl HG eD;obtain⟨oki,cs,hcl,hM,hcc,hoki,hH⟩:=Kd.NW HS.out ([]:List Int) (p:Int) b5 b6;obtain⟨v7,rfl,hR⟩:=hM
   have d3:wr.cell? ⟨gd,p,none⟩=some v7:=by have:=hcc 0 v7 rfl;simpa[Kd.slice]using this
   rw[Int.toNat_natCast,KN h p t hlt]at hR;obtain⟨row,hrow⟩: ∃row,t[p]=row:=⟨_,rfl⟩;have HROW:=ak hrow;have HLET:=ak (HOK.out.2 row (by rw[<-hrow];exact List.getElem_mem hlt));rw[hrow]at hR;obtain⟨A7,c7,e7⟩:=Kd.Al hR;subst e7;have HX:=ak hH;have a8:=ak hR;have hrl:row.length<=1048576:=HLET.out.1;have a9:=ak (Kept.refl wr oki);clear hH hR hcc hcl hoki hrow hk HS;obtain⟨wo,hwo⟩: ∃wo:World,wo=wr:=⟨_,rfl⟩;subst hwo
   go_wp2
   go_loopg [21] row.length (fun gk b7 w'=> ∃j:Nat,j+gk=row.length/\b7= .int .i64 (j:Int)/\AJ (Kd.R (Kd.int .i64) 3 w' w.heap.size oki (.slice A7 row.length c7) (Eb h j row))/\AJ (Kept wo w' oki)/\AJ (Below w.heap.size w w'))
   case atStart=>exact⟨0,by omega,rfl,a8,a9,HB⟩
   case round=>
    clear a8 a9 HB;obtain⟨j,hk,rfl,HR,HK,HB⟩:=hrel
    cases gk with
    |zero=>
     obtain rfl:j=row.length:=by omega
     have c2:decide (row.length<row.length)=false:=decide_eq_false (by omega);have a1:=Kd.Nj (okp:=oki) (Kd.Px HX.out HK.out (fun k_ _ hn hs=>hn hs)) ⟨_,rfl,HR.out⟩ (fun _ hk=>hk);rw[Int.toNat_natCast,Kh,<-HROW.out,Je h p t hlt]at a1;have a0:=ak a1;clear hk a1
     go_wp2
     go_roundg q
     case measure=>omega
     case rel=>exact⟨p+1,by have:=HKp.out;omega,by go_num,a0,HB⟩
    |succ q2=>
     have HKj:=ak hk
     have hlj:j<row.length:=by omega
     have c2:=decide_eq_true hlj
     have b8:(0:Int)<=(j:Int):=by omega
     have b9:(j:Int)<(row.length:Int):=by omega
     obtain⟨g7,c8,e8,b0,d0,d1,d2⟩:=Kd.Hj HR.out (by rw[Cz];omega)
     obtain⟨rfl,rfl⟩:A7=some ⟨g7,0,none⟩/\c7=c8:=by
      injection e8 with e1 e2 e3
      exact⟨e1,e3⟩
     have HGB:=ak b0;have HOI:=ak (HR.out.1 g7 rfl);clear d0 d1 d2 e8 b0;obtain⟨hcell,hfrz⟩:=Kd.EX (0:Int) HR.out (j:Int) b8 b9;rw[Int.toNat_natCast]at hcell hfrz;rw[show Ki (0:Int) (Eb h j row) (j:Int)=row[j]from LZ h j row hlj]at hcell;have hxl:=HLET.out.2 row[j] (List.getElem_mem hlj);have hset:=JB h j row hlj;obtain⟨x,hx⟩: ∃x:Int,row[j]=x:=⟨_,rfl⟩;rw[hx]at hcell hxl hset;have hhx:=HH.out;clear hx hk
     by_cases hpos:x>0
     ·
      have c3:decide (0<x)=true:=decide_eq_true hpos;have hez:CU h x=h x:=if_pos hpos;rw[hez]at hset;have hST:=(Kd.JM (by rw[Cz];exact HR.out) (j:Int) (h x)).1;rw[Int.toNat_natCast,hset,Cz]at hST;have HST:=ak hST;have HCL:=ak (HCLO.out wr HB.out x (by omega) (by omega));clear hST hset hez hpos hxl hhx
      go_wp2_with fail
      go_at_call 76
      refine HCL.out.mono ?_;rintro e w2 ⟨rfl,hw⟩;obtain rfl:=hw.symm;clear hw
      go_wp2
      go_roundg q2
      case measure=>omega
      case rel=>exact⟨j+1,by have:=HKj.out;omega,by go_num,HST,⟨HK.out.setCell (.inl HOI.out) _⟩,⟨BC HB.out HGB.out⟩⟩
     ·
      have c3:decide (0<x)=false:=decide_eq_false hpos;have hez:CU h x= -(h (-x)):=if_neg hpos;rw[hez]at hset;have hST:=(Kd.JM (by rw[Cz];exact HR.out) (j:Int) (-(h (-x)))).1;rw[Int.toNat_natCast,hset,Cz]at hST;have HST:=ak hST;have HCL:=ak (HCLO.out wr HB.out (-x) (by omega) (by omega));have a2:=hhx (-x) (by omega) (by omega);obtain⟨z,hz⟩: ∃z:Int,-x=z:=⟨_,rfl⟩;obtain⟨u,hu⟩: ∃u:Int,h z=u:=⟨_,rfl⟩;rw[hz]at HST HCL a2;rw[hu]at HST HCL a2;obtain⟨s,hs⟩: ∃s:Int,-u=s:=⟨_,rfl⟩;rw[hs]at HST
      have t1:IntKind.i64.wrap (-x)=z:=by rw[IntWalk.i64_in _ (by omega)];exact hz
      have t2:IntKind.i64.wrap (-u)=s:=by rw[IntWalk.i64_in _ (by omega)];exact hs
      clear hST hset hez hpos hxl hhx hz hu hs a2
      go_wp2_with fail
      go_at_call 76
      refine HCL.out.mono ?_;rintro e w2 ⟨rfl,hw⟩;obtain rfl:=hw.symm;clear hw
      go_wp2
      go_roundg q2
      case measure=>omega
      case rel=>exact⟨j+1,by have:=HKj.out;omega,by go_num,HST,⟨HK.out.setCell (.inl HOI.out) _⟩,⟨BC HB.out HGB.out⟩⟩
end Go.Proofs.Ytlnddmkkgjlmbaa.QFnMoves
namespace Go.Proofs.Ytlnddmkkgjlmbaa.QFnMoves
open Go.Proofs.Ytlnddmkkgjlmbaa.Zip Go.RowKit Go.Proofs.YtlnddmkkgjlmbaaW.PrintWords Go.Proofs.YtlnddmkkgjlmbaaW.PrintLast Go.Proofs.YtlnddmkkgjlmbaaW.PrintMore Go.Proofs.Ytlnddmkkgjlmbaa.Com
attribute [local go_sem] CD CF CW CV Bl Bk CE CG
set_option linter.unusedVariables false
set_option linter.unusedSimpArgs false
set_option maxHeartbeats 16000000
set_option maxRecDepth 100000
def LF (x y z:Int):Int:=if z=x then y else if z=y then x else z
theorem RV (px py:Addr) (x y z:Int) (w:World) (hx:w.cell? px=some (.int .i64 x)) (hy:w.cell? py=some (.int .i64 y)):
 Calls Try.prog 76 #[.int .i64 z,.pointer (some px),.pointer (some py)] w fun e w'=>e= .returned (.int .i64 (LF x y z))/\w'=w:=by
 by_cases h1:z=x
 ·
  have e1:LF x y z=y:=if_pos h1;rw[e1];have c1:(z==x)=true:=beq_iff_eq.mpr h1;clear h1 e1
  go_enter Try.func76,Try.ntmps76
  go_wp2
  go_ret
  exact⟨rfl,rfl⟩
 ·
  have c1:(z==x)=false:=beq_eq_false_iff_ne.mpr h1
  by_cases h2:z=y
  ·
   have e1:LF x y z=x:=by unfold LF;rw[if_neg h1,if_pos h2]
   rw[e1];have c2:(z==y)=true:=beq_iff_eq.mpr h2;clear h1 h2 e1
   go_enter Try.func76,Try.ntmps76
   go_wp2
   go_ret
   exact⟨rfl,rfl⟩
  ·
   have e1:LF x y z=z:=by unfold LF;rw[if_neg h1,if_neg h2]
   rw[e1];have c2:(z==y)=false:=beq_eq_false_iff_ne.mpr h2;clear h1 h2 e1
   go_enter Try.func76,Try.ntmps76
   go_wp2
   go_ret
   exact⟨rfl,rfl⟩
theorem GD (a b c:Int):Bd.f a b c=some (decide (b<=a/\a<=c)):=by
 unfold Bd.f
 by_cases h:a>=b
 ·
  rw[if_pos h]
  by_cases h2:a<=c
  ·
   rw[decide_eq_true h2,decide_eq_true ⟨h,h2⟩]
  ·
   rw[decide_eq_false h2,decide_eq_false (fun h3=>h2 h3.2)]
 ·
  rw[if_neg h,decide_eq_false (fun h3=>h h3.1)]
open Classical in
noncomputable def EI.f (k:Nat) (l0:List (List Int)) (x y:Int):Option (List (List Int)×Bool):=(AW.f k l0).bind fun b=>if b=true then(if 1<=x/\x<=8 then(if 1<=y/\y<=8 then((Aw.f k l0).bind fun t=>if Jy t then BX.f k (t.map (List.map (CU (LF x y))))else none)else some ([],false))else some ([],false))else some ([],false)
theorem EI.calls (k:Nat) (A0:Option Addr) (c0:Nat) (l0:List (List Int)) (a1 a2:Int) (r1:List (List Int)) (r2:Bool) (w:World) (a8:Kd.C (Kd.slice 3 (Kd.int .i64)) w A0 l0.length l0) (a9:l0.length<=c0) (h:EI.f k l0 a1 a2=some (r1,r2)):
 Calls Try.prog 26 #[.slice A0 l0.length c0,.int .i64 a1,.int .i64 a2] w fun e w'=> ∃b0:Value,e= .returned (.tuple #[b0,.bool r2])/\Kd.S (Kd.slice 3 (Kd.int .i64)) 47 w' w.heap.size (fun _=>True) b0 r1/\Below w.heap.size w w':=by
 have a6:=ak a8;have a7:=ak a9;have HMF:=ak (fun(fn:Fn) (first cap:Array Value) (w:World)=>(rfl:(Instr.makeFunc fn first cap).run Try.prog w= .ok (.func fn first cap) w));obtain⟨b,b1,H⟩:=Option.bind_eq_some_iff.mp h;have A1:=ak b1;have HBx:=ak (Aq (Below.refl w.heap.size w) (.cells #[.int .i64 a1] 3));have a3:=ak (Aq HBx.out (.cells #[.int .i64 a2] 3))
 have hcx:((w.alloc (.cells #[.int .i64 a1] 3)).alloc (.cells #[.int .i64 a2] 3)).cell? ⟨w.heap.size,0,none⟩=some (.int .i64 a1):=by rw[Ho (KP (LR w _) _)];rfl
 have hcy:((w.alloc (.cells #[.int .i64 a1] 3)).alloc (.cells #[.int .i64 a2] 3)).cell? ⟨w.heap.size+1,0,none⟩=some (.int .i64 a2):=by
  have e:(w.alloc (.cells #[.int .i64 a1] 3)).heap.size=w.heap.size+1:=Array.size_push ..;have h2:=LR (w.alloc (.cells #[.int .i64 a1] 3)) (.cells #[.int .i64 a2] 3);rw[e]at h2;rw[Ho h2];rfl
 have HX:=ak hcx;have HY:=ak hcy;clear b1 h a8 a9 hcx hcy
 cases b with
 |false=>
  rw[if_neg Bool.false_ne_true]at H;obtain⟨rfl,rfl⟩:=Prod.mk.inj (Option.some.inj H)
  go_enter Try.func26,Try.ntmps26
  go_wp2_with fail
  go_at_call 72
  refine(AW.calls k A0 c0 l0 false _ (Kd.AM a6.out a3.out) a7.out A1.out).mono ?_;rintro e w1 ⟨rfl,hb⟩;have a0:=ak (AG a3.out hb);clear hb
  go_wp2
  go_ret2
  exact⟨_,rfl,Kd.Eg _ _ _ _ _,a0.out⟩
 |true=>
  rw[if_pos rfl]at H
  by_cases a4:1<=a1/\a1<=8
  case neg=>
   rw[if_neg a4]at H;obtain⟨rfl,rfl⟩:=Prod.mk.inj (Option.some.inj H);have HW:=ak ((GD a1 1 8).trans (by rw[decide_eq_false a4]));clear H a4
   go_enter Try.func26,Try.ntmps26
   go_wp2_with fail
   go_at_call 72
   refine(AW.calls k A0 c0 l0 true _ (Kd.AM a6.out a3.out) a7.out A1.out).mono ?_;rintro e w1 ⟨rfl,hb⟩;have a0:=ak (AG a3.out hb);have hcx:=Ba hb HX.out;have hcy:=Ba hb HY.out;clear hb
   go_wp2_with fail
   go_at_call 73
   refine(Bd.calls a1 1 8 false _ HW.out).mono ?_;rintro e w2 ⟨rfl,⟨n2,rfl⟩⟩
   go_wp2
   go_ret2
   exact⟨_,rfl,Kd.Eg _ _ _ _ _,AQ a0.out _⟩
  rw[if_pos a4]at H;have HWX:=ak ((GD a1 1 8).trans (by rw[decide_eq_true a4]))
  by_cases a5:1<=a2/\a2<=8
  case neg=>
   rw[if_neg a5]at H;obtain⟨rfl,rfl⟩:=Prod.mk.inj (Option.some.inj H);have HW:=ak ((GD a2 1 8).trans (by rw[decide_eq_false a5]));clear H a4 a5
   go_enter Try.func26,Try.ntmps26
   go_wp2_with fail
   go_at_call 72
   refine(AW.calls k A0 c0 l0 true _ (Kd.AM a6.out a3.out) a7.out A1.out).mono ?_;rintro e w1 ⟨rfl,hb⟩;have a0:=ak (AG a3.out hb);have hcx:=Ba hb HX.out;have hcy:=Ba hb HY.out;clear hb
   go_wp2_with fail
   go_at_call 73
   refine(Bd.calls a1 1 8 true _ HWX.out).mono ?_;rintro e w2 ⟨rfl,⟨n2,rfl⟩⟩
   go_wp2_with fail
   go_at_call 73
   refine(Bd.calls a2 1 8 false _ HW.out).mono ?_;rintro e w3 ⟨rfl,⟨n3,rfl⟩⟩
   go_wp2
   go_ret2
   exact⟨_,rfl,Kd.Eg _ _ _ _ _,AQ a0.out _⟩
  rw[if_pos a5]at H;have HWY:=ak ((GD a2 1 8).trans (by rw[decide_eq_true a5]));obtain⟨t,b2,H⟩:=Option.bind_eq_some_iff.mp H
  by_cases hok:Jy t
  case neg=>rw[if_neg hok]at H;cases H
  rw[if_pos hok]at H;have HT:=ak b2;have HOK:=ak hok;have HM:=ak H
  have HH:=ak (show∀z:Int,1<=z->z<=8-> -8<=LF a1 a2 z/\LF a1 a2 z<=8 from fun z h1 h2=>by
   unfold LF
   split
   ·
    omega
   ·
    split
    ·
     omega
    ·
     omega)
  clear H a4 a5 b2 hok
  go_enter Try.func26,Try.ntmps26
  go_wp2_with fail
  go_at_call 72
  refine(AW.calls k A0 c0 l0 true _ (Kd.AM a6.out a3.out) a7.out A1.out).mono ?_;rintro e w1 ⟨rfl,hb⟩;have a0:=ak (AG a3.out hb);have hcx:=Ba hb HX.out;have hcy:=Ba hb HY.out;clear hb
  go_wp2_with fail
  go_at_call 73
  refine(Bd.calls a1 1 8 true _ HWX.out).mono ?_;rintro e w2 ⟨rfl,⟨n2,rfl⟩⟩
  go_wp2_with fail
  go_at_call 73
  refine(Bd.calls a2 1 8 true _ HWY.out).mono ?_;rintro e w3 ⟨rfl,⟨n3,rfl⟩⟩;have hmf:=HMF.out
  go_wp2_with fail
  go_at_call 74
  refine(KU k ⟨w.heap.size,0,none⟩ ⟨w.heap.size+1,0,none⟩ (LF a1 a2) A0 c0 l0 t r1 r2 _ (Kd.AM a6.out (AQ a0.out (n2+n3))) a7.out HT.out HOK.out HH.out (fun w' hb z _ _=>RV _ _ a1 a2 z w' (Ba hb hcx) (Ba hb hcy)) HM.out).mono ?_;rintro e w4 ⟨v,rfl,hs,hb⟩;have b3:=ak (AG (AQ a0.out (n2+n3)) hb);have HS:=ak (Kd.BS hs (AA (AQ a0.out (n2+n3))));clear hs hb
  go_wp2
  go_ret2
  exact⟨_,rfl,HS.out,b3.out⟩
end Go.Proofs.Ytlnddmkkgjlmbaa.QFnMoves
namespace Go.Proofs.Ytlnddmkkgjlmbaa.QFnMoves
open Go.Proofs.Ytlnddmkkgjlmbaa.Zip Go.RowKit Go.Proofs.YtlnddmkkgjlmbaaW.PrintWords Go.Proofs.YtlnddmkkgjlmbaaW.PrintLast Go.Proofs.YtlnddmkkgjlmbaaW.PrintMore Go.Proofs.Ytlnddmkkgjlmbaa.Com
attribute [local go_sem] CD CF CW CV Bl Bk CE CG
set_option linter.unusedVariables false
set_option linter.unusedSimpArgs false
set_option maxHeartbeats 16000000 in
set_option maxRecDepth 100000 in
theorem Jn (k:Nat) (px:Addr) (h:Int->Int) (A0:Option Addr) (c0:Nat) (l0 t r1:List (List Int)) (r2:Bool) (w:World)
 (a3:Kd.C (Kd.slice 3 (Kd.int .i64)) w A0 l0.length l0) (a4:l0.length<=c0) (hcp:Aw.f k l0=some t) (hok:Jy t) (hh: ∀z:Int,1<=z->z<=8-> -8<=h z/\h z<=8)
 (hclo: ∀w',Below w.heap.size w w'->∀z:Int,1<=z->z<=8->Calls Try.prog 75 #[.int .i64 z,.pointer (some px)] w' fun e w''=>e= .returned (.int .i64 (h z))/\w''=w')
 (hm:BX.f k (t.map (List.map (CU h)))=some (r1,r2)):
 Calls Try.prog 74 #[.slice A0 l0.length c0,.func (.func 75) #[] #[.pointer (some px)]] w fun e w'=> ∃a5:Value,e= .returned (.tuple #[a5,.bool r2])/\Kd.S (Kd.slice 3 (Kd.int .i64)) 47 w' w.heap.size (fun _=>True) a5 r1/\Below w.heap.size w w':=by
 have b1:=ak a3;have b2:=ak a4;have HCP:=ak hcp;have HOK:=ak hok;have HH:=ak hh;have HCLO:=ak hclo;have HM:=ak hm;have htl:t.length<=1048576:=hok.1;clear a3 a4 hcp hok hh hclo hm
 go_enter Try.func74,Try.ntmps74
 go_wp2_with fail
 go_at_call 58
 refine(Aw.calls k A0 c0 l0 t w b1.out b2.out HCP.out).mono ?_;rintro e w1 ⟨v1,rfl,hs,hb⟩;obtain⟨D,cd,rfl⟩:=Kd.Bo hs;have a6:=ak hs;have a7:=ak hb;clear hs hb
 go_wp2
 go_loopg [15] t.length (fun gk b3 w'=> ∃p:Nat,p+gk=t.length/\b3= .int .i64 (p:Int)/\AJ (Kd.S (Kd.slice 3 (Kd.int .i64)) 47 w' w.heap.size (fun _=>True) (.slice D t.length cd) (GO h p t))/\AJ (Below w.heap.size w w'))
 case atStart=>exact⟨0,by omega,rfl,a6,a7⟩
 case round=>
  clear a6 a7;obtain⟨p,hk,rfl,HS,HB⟩:=hrel
  cases gk with
  |zero=>
   obtain rfl:p=t.length:=by omega
   have c1:decide (t.length<t.length)=false:=decide_eq_false (by omega);have a0:=ak HS.out;rw[JY]at a0;clear hk HS
   go_wp2_with fail
   go_at_call 60
   refine Eu (args':= #[.slice D (t.map (List.map (CU h))).length cd]) (by rw[List.length_map]) ?_;refine(BX.calls k (fun _=>True) w.heap.size D cd (t.map (List.map (CU h))) r1 r2 _ (AA HB.out) (by rw[List.length_map];exact a0.out) HM.out).mono ?_;rintro e w2 ⟨v2,rfl,hs,hb⟩;have HT:=ak (Kd.Af (ok':=fun _=>True) hs (fun _ _=>trivial));have b4:=ak (AG HB.out hb);clear hs hb
   go_wp2
   go_ret2
   exact⟨_,rfl,HT.out,b4.out⟩
  |succ q=>
   have HKp:=ak hk
   have hlt:p<t.length:=by omega
   have c1:=decide_eq_true hlt
   have b5:(0:Int)<=(p:Int):=by omega
   have b6:(p:Int)<(t.length:Int):=by omega
   obtain⟨gd,cdd,eD,gb,gl,cl,HG⟩:=Kd.GP HS.out (by rw[Jb];omega)
   obtain⟨rfl,rfl⟩:D=some ⟨gd,0,none⟩/\cd=cdd:=by
    injection eD with e1 e2 e3
    exact⟨e1,e3⟩
   clear gb gl cl HG eD;obtain⟨oki,cs,hcl,hM,hcc,hoki,hH⟩:=Kd.NW HS.out ([]:List Int) (p:Int) b5 b6;obtain⟨v7,rfl,hR⟩:=hM
   have d3:wr.cell? ⟨gd,p,none⟩=some v7:=by have:=hcc 0 v7 rfl;simpa[Kd.slice]using this
   rw[Int.toNat_natCast,KN h p t hlt]at hR;obtain⟨row,hrow⟩: ∃row,t[p]=row:=⟨_,rfl⟩;have HROW:=ak hrow;have HLET:=ak (HOK.out.2 row (by rw[<-hrow];exact List.getElem_mem hlt));rw[hrow]at hR;obtain⟨A7,c7,e7⟩:=Kd.Al hR;subst e7;have HX:=ak hH;have a8:=ak hR;have hrl:row.length<=1048576:=HLET.out.1;have a9:=ak (Kept.refl wr oki);clear hH hR hcc hcl hoki hrow hk HS;obtain⟨wo,hwo⟩: ∃wo:World,wo=wr:=⟨_,rfl⟩;subst hwo
   go_wp2
   go_loopg [21] row.length (fun gk b7 w'=> ∃j:Nat,j+gk=row.length/\b7= .int .i64 (j:Int)/\AJ (Kd.R (Kd.int .i64) 3 w' w.heap.size oki (.slice A7 row.length c7) (Eb h j row))/\AJ (Kept wo w' oki)/\AJ (Below w.heap.size w w'))
   case atStart=>exact⟨0,by omega,rfl,a8,a9,HB⟩
   case round=>
    clear a8 a9 HB;obtain⟨j,hk,rfl,HR,HK,HB⟩:=hrel
    cases gk with
    |zero=>
     obtain rfl:j=row.length:=by omega
     have c2:decide (row.length<row.length)=false:=decide_eq_false (by omega);have a1:=Kd.Nj (okp:=oki) (Kd.Px HX.out HK.out (fun k_ _ hn hs=>hn hs)) ⟨_,rfl,HR.out⟩ (fun _ hk=>hk);rw[Int.toNat_natCast,Kh,<-HROW.out,Je h p t hlt]at a1;have a0:=ak a1;clear hk a1
     go_wp2
     go_roundg q
     case measure=>omega
     case rel=>exact⟨p+1,by have:=HKp.out;omega,by go_num,a0,HB⟩
    |succ q2=>
     have HKj:=ak hk
     have hlj:j<row.length:=by omega
     have c2:=decide_eq_true hlj
     have b8:(0:Int)<=(j:Int):=by omega
     have b9:(j:Int)<(row.length:Int):=by omega
     obtain⟨g7,c8,e8,b0,d0,d1,d2⟩:=Kd.Hj HR.out (by rw[Cz];omega)
     obtain⟨rfl,rfl⟩:A7=some ⟨g7,0,none⟩/\c7=c8:=by
      injection e8 with e1 e2 e3
      exact⟨e1,e3⟩
     have HGB:=ak b0;have HOI:=ak (HR.out.1 g7 rfl);clear d0 d1 d2 e8 b0;obtain⟨hcell,hfrz⟩:=Kd.EX (0:Int) HR.out (j:Int) b8 b9;rw[Int.toNat_natCast]at hcell hfrz;rw[show Ki (0:Int) (Eb h j row) (j:Int)=row[j]from LZ h j row hlj]at hcell;have hxl:=HLET.out.2 row[j] (List.getElem_mem hlj);have hset:=JB h j row hlj;obtain⟨x,hx⟩: ∃x:Int,row[j]=x:=⟨_,rfl⟩;rw[hx]at hcell hxl hset;have hhx:=HH.out;clear hx hk
     by_cases hpos:x>0
     ·
      have c3:decide (0<x)=true:=decide_eq_true hpos;have hez:CU h x=h x:=if_pos hpos;rw[hez]at hset;have hST:=(Kd.JM (by rw[Cz];exact HR.out) (j:Int) (h x)).1;rw[Int.toNat_natCast,hset,Cz]at hST;have HST:=ak hST;have HCL:=ak (HCLO.out wr HB.out x (by omega) (by omega));clear hST hset hez hpos hxl hhx
      go_wp2_with fail
      go_at_call 75
      refine HCL.out.mono ?_;rintro e w2 ⟨rfl,hw⟩;obtain rfl:=hw.symm;clear hw
      go_wp2
      go_roundg q2
      case measure=>omega
      case rel=>exact⟨j+1,by have:=HKj.out;omega,by go_num,HST,⟨HK.out.setCell (.inl HOI.out) _⟩,⟨BC HB.out HGB.out⟩⟩
     ·
      have c3:decide (0<x)=false:=decide_eq_false hpos;have hez:CU h x= -(h (-x)):=if_neg hpos;rw[hez]at hset;have hST:=(Kd.JM (by rw[Cz];exact HR.out) (j:Int) (-(h (-x)))).1;rw[Int.toNat_natCast,hset,Cz]at hST;have HST:=ak hST;have HCL:=ak (HCLO.out wr HB.out (-x) (by omega) (by omega));have a2:=hhx (-x) (by omega) (by omega);obtain⟨z,hz⟩: ∃z:Int,-x=z:=⟨_,rfl⟩;obtain⟨u,hu⟩: ∃u:Int,h z=u:=⟨_,rfl⟩;rw[hz]at HST HCL a2;rw[hu]at HST HCL a2;obtain⟨s,hs⟩: ∃s:Int,-u=s:=⟨_,rfl⟩;rw[hs]at HST
      have t1:IntKind.i64.wrap (-x)=z:=by rw[IntWalk.i64_in _ (by omega)];exact hz
      have t2:IntKind.i64.wrap (-u)=s:=by rw[IntWalk.i64_in _ (by omega)];exact hs
      clear hST hset hez hpos hxl hhx hz hu hs a2
      go_wp2_with fail
      go_at_call 75
      refine HCL.out.mono ?_;rintro e w2 ⟨rfl,hw⟩;obtain rfl:=hw.symm;clear hw
      go_wp2
      go_roundg q2
      case measure=>omega
      case rel=>exact⟨j+1,by have:=HKj.out;omega,by go_num,HST,⟨HK.out.setCell (.inl HOI.out) _⟩,⟨BC HB.out HGB.out⟩⟩
end Go.Proofs.Ytlnddmkkgjlmbaa.QFnMoves
namespace Go.Proofs.Ytlnddmkkgjlmbaa.QFnMoves
open Go.Proofs.Ytlnddmkkgjlmbaa.Zip Go.RowKit Go.Proofs.YtlnddmkkgjlmbaaW.PrintWords Go.Proofs.YtlnddmkkgjlmbaaW.PrintLast Go.Proofs.YtlnddmkkgjlmbaaW.PrintMore Go.Proofs.Ytlnddmkkgjlmbaa.Com
attribute [local go_sem] CD CF CW CV Bl Bk CE CG
set_option linter.unusedVariables false
set_option linter.unusedSimpArgs false
set_option maxHeartbeats 16000000
set_option maxRecDepth 100000
def LX (x z:Int):Int:=if z=x then-z else z
theorem Ph (px:Addr) (x z:Int) (w:World) (hx:w.cell? px=some (.int .i64 x)) (a0:1<=z) (a1:z<=8):
 Calls Try.prog 75 #[.int .i64 z,.pointer (some px)] w fun e w'=>e= .returned (.int .i64 (LX x z))/\w'=w:=by
 by_cases h1:z=x
 ·
  have e1:LX x z= -z:=if_pos h1;rw[e1];have c1:(z==x)=true:=beq_iff_eq.mpr h1;obtain⟨s,hs⟩: ∃s:Int,-z=s:=⟨_,rfl⟩;rw[hs]
  have t1:IntKind.i64.wrap (-z)=s:=by rw[IntWalk.i64_in _ (by omega)];exact hs
  clear h1 e1 hs a0 a1
  go_enter Try.func75,Try.ntmps75
  go_wp2
  go_ret
  exact⟨rfl,rfl⟩
 ·
  have c1:(z==x)=false:=beq_eq_false_iff_ne.mpr h1;have e1:LX x z=z:=if_neg h1;rw[e1];clear h1 e1 a0 a1
  go_enter Try.func75,Try.ntmps75
  go_wp2
  go_ret
  exact⟨rfl,rfl⟩
open Classical in
noncomputable def Dq.f (k:Nat) (l0:List (List Int)) (x:Int):Option (List (List Int)×Bool):=(AW.f k l0).bind fun b=>if b=true then(if 1<=x/\x<=8 then((Aw.f k l0).bind fun t=>if Jy t then BX.f k (t.map (List.map (CU (LX x))))else none)else some ([],false))else some ([],false)
theorem Dq.calls (k:Nat) (A0:Option Addr) (c0:Nat) (l0:List (List Int)) (a1:Int) (r1:List (List Int)) (r2:Bool) (w:World) (a6:Kd.C (Kd.slice 3 (Kd.int .i64)) w A0 l0.length l0) (a7:l0.length<=c0) (h:Dq.f k l0 a1=some (r1,r2)):
 Calls Try.prog 24 #[.slice A0 l0.length c0,.int .i64 a1] w fun e w'=> ∃a8:Value,e= .returned (.tuple #[a8,.bool r2])/\Kd.S (Kd.slice 3 (Kd.int .i64)) 47 w' w.heap.size (fun _=>True) a8 r1/\Below w.heap.size w w':=by
 have a4:=ak a6;have a5:=ak a7;have HMF:=ak (fun(fn:Fn) (first cap:Array Value) (w:World)=>(rfl:(Instr.makeFunc fn first cap).run Try.prog w= .ok (.func fn first cap) w));obtain⟨b,a9,H⟩:=Option.bind_eq_some_iff.mp h;have A1:=ak a9;have a2:=ak (Aq (Below.refl w.heap.size w) (.cells #[.int .i64 a1] 3))
 have hcx:(w.alloc (.cells #[.int .i64 a1] 3)).cell? ⟨w.heap.size,0,none⟩=some (.int .i64 a1):=by rw[Ho (LR w _)];rfl
 have HX:=ak hcx;clear a9 h a6 a7 hcx
 cases b with
 |false=>
  rw[if_neg Bool.false_ne_true]at H;obtain⟨rfl,rfl⟩:=Prod.mk.inj (Option.some.inj H)
  go_enter Try.func24,Try.ntmps24
  go_wp2_with fail
  go_at_call 72
  refine(AW.calls k A0 c0 l0 false _ (Kd.AM a4.out a2.out) a5.out A1.out).mono ?_;rintro e w1 ⟨rfl,hb⟩;have a0:=ak (AG a2.out hb);clear hb
  go_wp2
  go_ret2
  exact⟨_,rfl,Kd.Eg _ _ _ _ _,a0.out⟩
 |true=>
  rw[if_pos rfl]at H
  by_cases a3:1<=a1/\a1<=8
  case neg=>
   rw[if_neg a3]at H;obtain⟨rfl,rfl⟩:=Prod.mk.inj (Option.some.inj H);have HW:=ak ((GD a1 1 8).trans (by rw[decide_eq_false a3]));clear H a3
   go_enter Try.func24,Try.ntmps24
   go_wp2_with fail
   go_at_call 72
   refine(AW.calls k A0 c0 l0 true _ (Kd.AM a4.out a2.out) a5.out A1.out).mono ?_;rintro e w1 ⟨rfl,hb⟩;have a0:=ak (AG a2.out hb);have hcx:=Ba hb HX.out;clear hb
   go_wp2_with fail
   go_at_call 73
   refine(Bd.calls a1 1 8 false _ HW.out).mono ?_;rintro e w2 ⟨rfl,⟨n2,rfl⟩⟩
   go_wp2
   go_ret2
   exact⟨_,rfl,Kd.Eg _ _ _ _ _,AQ a0.out _⟩
  rw[if_pos a3]at H;have HWX:=ak ((GD a1 1 8).trans (by rw[decide_eq_true a3]));obtain⟨t,b0,H⟩:=Option.bind_eq_some_iff.mp H
  by_cases hok:Jy t
  case neg=>rw[if_neg hok]at H;cases H
  rw[if_pos hok]at H;have HT:=ak b0;have HOK:=ak hok;have HM:=ak H
  have HH:=ak (show∀z:Int,1<=z->z<=8-> -8<=LX a1 z/\LX a1 z<=8 from fun z h1 h2=>by
   unfold LX
   split
   ·
    omega
   ·
    omega)
  clear H a3 b0 hok
  go_enter Try.func24,Try.ntmps24
  go_wp2_with fail
  go_at_call 72
  refine(AW.calls k A0 c0 l0 true _ (Kd.AM a4.out a2.out) a5.out A1.out).mono ?_;rintro e w1 ⟨rfl,hb⟩;have a0:=ak (AG a2.out hb);have hcx:=Ba hb HX.out;clear hb
  go_wp2_with fail
  go_at_call 73
  refine(Bd.calls a1 1 8 true _ HWX.out).mono ?_;rintro e w2 ⟨rfl,⟨n2,rfl⟩⟩;have hmf:=HMF.out
  go_wp2_with fail
  go_at_call 74
  refine(Jn k ⟨w.heap.size,0,none⟩ (LX a1) A0 c0 l0 t r1 r2 _ (Kd.AM a4.out (AQ a0.out n2)) a5.out HT.out HOK.out HH.out (fun w' hb z h1 h8=>Ph _ a1 z w' (Ba hb hcx) h1 h8) HM.out).mono ?_;rintro e w4 ⟨v,rfl,hs,hb⟩;have b1:=ak (AG (AQ a0.out n2) hb);have HS:=ak (Kd.BS hs (AA (AQ a0.out n2)));clear hs hb
  go_wp2
  go_ret2
  exact⟨_,rfl,HS.out,b1.out⟩
end Go.Proofs.Ytlnddmkkgjlmbaa.QFnMoves
namespace Go.Proofs.Ytlnddmkkgjlmbaa.QFnMoves
open Go.Proofs.Ytlnddmkkgjlmbaa.Zip Go.RowKit Go.Proofs.YtlnddmkkgjlmbaaW.PrintWords Go.Proofs.YtlnddmkkgjlmbaaW.PrintLast Go.Proofs.YtlnddmkkgjlmbaaW.PrintMore Go.Proofs.Ytlnddmkkgjlmbaa.Com
attribute [local go_sem] CD CF CW CV Bl Bk CE CG
set_option linter.unusedVariables false
set_option linter.unusedSimpArgs false
def Gs (x a y b z:Int):Int:=if z=x then a else if z=y then b else z
theorem Pp (h:Int->Int) (k:Nat) (row:List Int) (hk:k<row.length) (e:CU h row[k]=row[k]):Eb h (k+1) row=Eb h k row:=by
 rw[<-JB h k row hk,e];have h2:=Ml h k row hk;rw[List.getElem?_eq_getElem hk]at h2
 apply List.ext_getElem?
 intro i;rw[List.getElem?_set]
 split
 ·
  rename_i hi
  subst hi;rw[if_pos (by rw[Cz];exact hk),h2]
 ·
  rfl
theorem Hp (a b c:Int):BM.f a b c=some (decide (b<=a/\a<=c)):=by
 unfold BM.f
 by_cases h:a>=b
 ·
  rw[if_pos h]
  by_cases h2:a<=c
  ·
   rw[decide_eq_true h2,decide_eq_true ⟨h,h2⟩]
  ·
   rw[decide_eq_false h2,decide_eq_false (fun h3=>h2 h3.2)]
 ·
  rw[if_neg h,decide_eq_false (fun h3=>h h3.1)]
theorem VI (x:Int) (h1: -8<=x) (h2:x<=8):BP.f x=some (if x>0 then x else-x):=by
 unfold BP.f Fb.f;rw[Fa (by omega) (by omega)]
 by_cases h:x>0
 ·
  rw[if_pos (by omega),if_pos h];rfl
 ·
  rw[if_neg (by omega),if_neg h];rfl
open Classical in
noncomputable def EZ.f (k:Nat) (l0:List (List Int)) (x a y b:Int):Option (List (List Int)×Bool):=(AL.f k l0).bind fun g=>if g=true then(if 1<=x/\x<=8 then(if 1<=y/\y<=8 then((Br.f k l0).bind fun t=>if t=l0/\Jy l0/\(-8<=a/\a<=8)/\(-8<=b/\b<=8)then some (l0.map (List.map (CU (Gs x a y b))),true)else none)else some ([],false))else some ([],false))else some ([],false)
set_option maxHeartbeats 32000000 in
set_option maxRecDepth 100000 in
theorem EZ.calls (k:Nat) (A0:Option Addr) (c0:Nat) (l0:List (List Int)) (a1 a2 a3 a4:Int) (r1:List (List Int)) (r2:Bool) (w:World) (b5:Kd.C (Kd.slice 3 (Kd.int .i64)) w A0 l0.length l0) (b6:l0.length<=c0) (h:EZ.f k l0 a1 a2 a3 a4=some (r1,r2)):
 Calls Try.prog 71 #[.slice A0 l0.length c0,.int .i64 a1,.int .i64 a2,.int .i64 a3,.int .i64 a4] w fun e w'=> ∃b7:Value,e= .returned (.tuple #[b7,.bool r2])/\Kd.S (Kd.slice 3 (Kd.int .i64)) 47 w' w.heap.size (fun _=>True) b7 r1/\Below w.heap.size w w':=by
 have a8:=ak b5;have b1:=ak b6;obtain⟨b,b8,H⟩:=Option.bind_eq_some_iff.mp h;have A1:=ak b8;clear b8 h b5 b6
 cases b with
 |false=>
  rw[if_neg Bool.false_ne_true]at H;obtain⟨rfl,rfl⟩:=Prod.mk.inj (Option.some.inj H)
  go_enter Try.func71,Try.ntmps71
  go_wp2_with fail
  go_at_call 52
  refine(AL.calls k A0 c0 l0 false _ a8.out b1.out A1.out).mono ?_;rintro e w1 ⟨rfl,hb⟩;have a0:=ak hb
  go_wp2_with ((with_reducible refine Ar (N:=29) rfl ?_);refine Kd.FO (Kd.slice 3 (Kd.int .i64)) _ 47 ?hg (N:=29) ?hd (xs:=([]:List (List Int))) (inner:=[]) (ok:=fun _=>True) (okp:=fun _=>True) ?hr ?hp (fun _ hk=>hk) trivial (Below.refl _ _) (Nat.le_refl _) (by simp) ?_;(case hd=>rfl);(case hg=>rfl);(case hr=>first|(go_simp;done)|(go_simp;rfl));(case hp=>exact(Av.none _ _));intro vl wl hol hbl hg_ hnew_;clear hg_ hnew_;have HBL:=ak (AG a0.out hbl);have HOL:=ak hol;clear hbl hol)
  go_ret2
  exact⟨_,rfl,Kd.BS HOL.out (AA a0.out),HBL.out⟩
 |true=>
  rw[if_pos rfl]at H
  by_cases a7:1<=a1/\a1<=8
  case neg=>
   rw[if_neg a7]at H;obtain⟨rfl,rfl⟩:=Prod.mk.inj (Option.some.inj H);have HW:=ak ((Hp a1 1 8).trans (by rw[decide_eq_false a7]));clear H a7
   go_enter Try.func71,Try.ntmps71
   go_wp2_with fail
   go_at_call 52
   refine(AL.calls k A0 c0 l0 true _ a8.out b1.out A1.out).mono ?_;rintro e w1 ⟨rfl,hb⟩;have a0:=ak hb
   go_wp2_with fail
   go_at_call 53
   refine(BM.calls a1 1 8 false _ HW.out).mono ?_;rintro e w2 ⟨rfl,⟨n2,rfl⟩⟩;have a9:=ak (AQ a0.out n2);clear a0;have a0:=a9
   go_wp2_with ((with_reducible refine Ar (N:=29) rfl ?_);refine Kd.FO (Kd.slice 3 (Kd.int .i64)) _ 47 ?hg (N:=29) ?hd (xs:=([]:List (List Int))) (inner:=[]) (ok:=fun _=>True) (okp:=fun _=>True) ?hr ?hp (fun _ hk=>hk) trivial (Below.refl _ _) (Nat.le_refl _) (by simp) ?_;(case hd=>rfl);(case hg=>rfl);(case hr=>first|(go_simp;done)|(go_simp;rfl));(case hp=>exact(Av.none _ _));intro vl wl hol hbl hg_ hnew_;clear hg_ hnew_;have HBL:=ak (AG a0.out hbl);have HOL:=ak hol;clear hbl hol)
   go_ret2
   exact⟨_,rfl,Kd.BS HOL.out (AA a0.out),HBL.out⟩
  rw[if_pos a7]at H;have HWX:=ak ((Hp a1 1 8).trans (by rw[decide_eq_true a7]))
  by_cases b0:1<=a3/\a3<=8
  case neg=>
   rw[if_neg b0]at H;obtain⟨rfl,rfl⟩:=Prod.mk.inj (Option.some.inj H);have HW:=ak ((Hp a3 1 8).trans (by rw[decide_eq_false b0]));clear H a7 b0
   go_enter Try.func71,Try.ntmps71
   go_wp2_with fail
   go_at_call 52
   refine(AL.calls k A0 c0 l0 true _ a8.out b1.out A1.out).mono ?_;rintro e w1 ⟨rfl,hb⟩;have a0:=ak hb
   go_wp2_with fail
   go_at_call 53
   refine(BM.calls a1 1 8 true _ HWX.out).mono ?_;rintro e w2 ⟨rfl,⟨n2,rfl⟩⟩
   go_wp2_with fail
   go_at_call 53
   refine(BM.calls a3 1 8 false _ HW.out).mono ?_;rintro e w3 ⟨rfl,⟨n3,rfl⟩⟩;have a9:=ak (AQ a0.out (n2+n3));clear a0;have a0:=a9
   go_wp2_with ((with_reducible refine Ar (N:=29) rfl ?_);refine Kd.FO (Kd.slice 3 (Kd.int .i64)) _ 47 ?hg (N:=29) ?hd (xs:=([]:List (List Int))) (inner:=[]) (ok:=fun _=>True) (okp:=fun _=>True) ?hr ?hp (fun _ hk=>hk) trivial (Below.refl _ _) (Nat.le_refl _) (by simp) ?_;(case hd=>rfl);(case hg=>rfl);(case hr=>first|(go_simp;done)|(go_simp;rfl));(case hp=>exact(Av.none _ _));intro vl wl hol hbl hg_ hnew_;clear hg_ hnew_;have HBL:=ak (AG a0.out hbl);have HOL:=ak hol;clear hbl hol)
   go_ret2
   exact⟨_,rfl,Kd.BS HOL.out (AA a0.out),HBL.out⟩
  rw[if_pos b0]at H;have HWY:=ak ((Hp a3 1 8).trans (by rw[decide_eq_true b0]));obtain⟨t,b9,H⟩:=Option.bind_eq_some_iff.mp H
  by_cases hok:t=l0/\Jy l0/\(-8<=a2/\a2<=8)/\(-8<=a4/\a4<=8)
  case neg=>rw[if_neg hok]at H;cases H
  rw[if_pos hok]at H;obtain⟨rfl,rfl⟩:=Prod.mk.inj (Option.some.inj H);obtain⟨rfl,hok,a5,a6⟩:=hok;have HT:=ak b9;have HOK:=ak hok;have htl:t.length<=1048576:=hok.1;obtain⟨hz,hzd⟩: ∃hz:Int->Int,hz=Gs a1 a2 a3 a4:=⟨_,rfl⟩;rw[<-hzd];have HZD:=ak hzd;have d9:=ak a5;have e0:=ak a6;clear H a7 b0 b9 hok hzd a5 a6
  go_enter Try.func71,Try.ntmps71
  go_wp2_with fail
  go_at_call 52
  refine(AL.calls k A0 c0 t true _ a8.out b1.out A1.out).mono ?_;rintro e w1 ⟨rfl,hb⟩;have a0:=ak hb
  go_wp2_with fail
  go_at_call 53
  refine(BM.calls a1 1 8 true _ HWX.out).mono ?_;rintro e w2 ⟨rfl,⟨n2,rfl⟩⟩
  go_wp2_with fail
  go_at_call 53
  refine(BM.calls a3 1 8 true _ HWY.out).mono ?_;rintro e w3 ⟨rfl,⟨n3,rfl⟩⟩
  go_wp2_with fail
  go_at_call 65
  refine(Br.calls k A0 c0 t t _ (Kd.AM a8.out (AQ a0.out (n2+n3))) b1.out HT.out).mono ?_;rintro e w4 ⟨v1,rfl,hs,hb⟩;obtain⟨D,cd,rfl⟩:=Kd.Bo hs;have d0:=ak (Kd.BS hs (AA (AQ a0.out (n2+n3))));have a9:=ak (AG (AQ a0.out (n2+n3)) hb);clear hs hb a0
  go_wp2
  go_loopg [13] t.length (fun gk e4 w'=> ∃p:Nat,p+gk=t.length/\e4= .int .i64 (p:Int)/\AJ (Kd.S (Kd.slice 3 (Kd.int .i64)) 47 w' w.heap.size (fun _=>True) (.slice D t.length cd) (GO hz p t))/\AJ (Below w.heap.size w w'))
  case atStart=>exact⟨0,by omega,rfl,d0,a9⟩
  case round=>
   clear d0 a9;obtain⟨p,hk,rfl,HS,HB⟩:=hrel
   cases gk with
   |zero=>
    obtain rfl:p=t.length:=by omega
    have c1:decide (t.length<t.length)=false:=decide_eq_false (by omega);have b2:=ak HS.out;rw[JY]at b2;clear hk HS
    go_wp2
    go_ret2
    exact⟨_,rfl,b2.out,HB.out⟩
   |succ q=>
    have HKp:=ak hk
    have hlt:p<t.length:=by omega
    have c1:=decide_eq_true hlt
    have d1:(0:Int)<=(p:Int):=by omega
    have d2:(p:Int)<(t.length:Int):=by omega
    obtain⟨gd,cdd,eD,gb,gl,cl,HG⟩:=Kd.GP HS.out (by rw[Jb];omega)
    obtain⟨rfl,rfl⟩:D=some ⟨gd,0,none⟩/\cd=cdd:=by
     injection eD with e1 e2 e3
     exact⟨e1,e3⟩
    clear gb gl cl HG eD;obtain⟨oki,cs,hcl,hM,hcc,hoki,hH⟩:=Kd.NW HS.out ([]:List Int) (p:Int) d1 d2;obtain⟨v7,rfl,hR⟩:=hM
    have d3:wr.cell? ⟨gd,p,none⟩=some v7:=by have:=hcc 0 v7 rfl;simpa[Kd.slice]using this
    rw[Int.toNat_natCast,KN hz p t hlt]at hR;obtain⟨row,hrow⟩: ∃row,t[p]=row:=⟨_,rfl⟩;have HROW:=ak hrow;have HLET:=ak (HOK.out.2 row (by rw[<-hrow];exact List.getElem_mem hlt));obtain⟨ad,A2,k2,e1,hgx,e5,b3⟩:=Cl a8.out (p:Int) d1 d2;subst e1
    have hrw:AD t (p:Int)=row:=by rw[<-hrow];show t.getD p []=_;rw[List.getD_eq_getElem?_getD,List.getElem?_eq_getElem hlt];rfl
    rw[Int.toNat_natCast,hrw]at hgx;rw[hrw]at b3;have HGR:=ak b3;have HGX:=ak hgx;rw[hrow]at hR;obtain⟨A7,c7,e7⟩:=Kd.Al hR;subst e7;have HX:=ak hH;have e6:=ak d3;have HNG:=ak (show¬oki gd from fun hk=>(hoki gd hk).2 rfl);have d4:=ak hR;have hrl:row.length<=1048576:=HLET.out.1;have d5:=ak (Kept.refl wr oki);clear hH hR hcc hcl hoki hrow hk HS hgx b3 e5 hrw d3;obtain⟨wo,hwo⟩: ∃wo:World,wo=wr:=⟨_,rfl⟩;subst hwo
    go_wp2
    go_loopg [14] row.length (fun gk f0 w'=> ∃j:Nat,j+gk=row.length/\f0= .int .i64 (j:Int)/\AJ (Kd.R (Kd.int .i64) 3 w' w.heap.size oki (.slice A7 row.length c7) (Eb hz j row))/\AJ (Kept wo w' oki)/\AJ (Below w.heap.size w w'))
    case atStart=>exact⟨0,by omega,rfl,d4,d5,HB⟩
    case round=>
     clear d4 d5 HB;obtain⟨j,hk,rfl,HR,HK,HB⟩:=hrel;have hgx:=Ba HB.out HGX.out
     cases gk with
     |zero=>
      obtain rfl:j=row.length:=by omega
      have c2:decide (row.length<row.length)=false:=decide_eq_false (by omega);have b4:=Kd.Nj (okp:=oki) (Kd.Px HX.out HK.out (fun k_ _ hn hs=>hn hs)) ⟨_,rfl,HR.out⟩ (fun _ hk=>hk);rw[Int.toNat_natCast,Kh,<-HROW.out,Je hz p t hlt]at b4;have b2:=ak b4;clear hk b4
      go_wp2
      go_roundg q
      case measure=>omega
      case rel=>exact⟨p+1,by have:=HKp.out;omega,by go_num,b2,HB⟩
     |succ q2=>
      have HKj:=ak hk
      have hlj:j<row.length:=by omega
      have c2:=decide_eq_true hlj
      have d6:(0:Int)<=(j:Int):=by omega
      have d7:(j:Int)<(row.length:Int):=by omega
      obtain⟨g7,c8,e8,d8,f1,f2,f3⟩:=Kd.Hj HR.out (by rw[Cz];omega)
      obtain⟨rfl,rfl⟩:A7=some ⟨g7,0,none⟩/\c7=c8:=by
       injection e8 with e1 e2 e3
       exact⟨e1,e3⟩
      have HGB:=ak d8;have HOI:=ak (HR.out.1 g7 rfl);clear f1 f2 f3 e8 d8;obtain⟨hcell,hfrz⟩:=Kd.EX (0:Int) HR.out (j:Int) d6 d7;rw[Int.toNat_natCast]at hcell hfrz;rw[show Ki (0:Int) (Eb hz j row) (j:Int)=row[j]from LZ hz j row hlj]at hcell;have hhx:=RT e6.out HK.out HNG.out;obtain⟨f4,e9,hel⟩:=Kd.Dk (Kd.AM HGR.out HB.out) (j:Int) d6 d7;subst e9;rw[Int.toNat_natCast,CR hlj]at hel;have hxl:=HLET.out.2 row[j] (List.getElem_mem hlj);have hset:=JB hz j row hlj;have hsame:=Pp hz j row hlj;obtain⟨x,hx⟩: ∃x:Int,row[j]=x:=⟨_,rfl⟩;rw[hx]at hcell hxl hset hel hsame;rw[HZD.out]at hset hsame;have habs:=VI x hxl.2.1 hxl.2.2;have a5:=d9.out;have a6:=e0.out;clear hx hk
      by_cases hpos:x>0
      ·
       have c3:decide (0<x)=true:=decide_eq_true hpos;have c4:decide (x<0)=false:=decide_eq_false (by omega);rw[if_pos hpos]at habs;have HA:=ak habs
       by_cases hzx:x=a1
       ·
        have c5:(x==a1)=true:=beq_iff_eq.mpr hzx;have he:CU (Gs a1 a2 a3 a4) x=a2:=(if_pos hpos:CU (Gs a1 a2 a3 a4) x=Gs a1 a2 a3 a4 x).trans (if_pos hzx);rw[he,<-HZD.out]at hset;have t1:IntKind.i64.wrap a2=a2:=IntWalk.i64_in _ (by omega)
        have t2:IntKind.i64.wrap (1*a2)=a2:=by rw[Int.one_mul];exact t1
        have HST:=ak (show∀n:Nat,Kd.R (Kd.int .i64) 3 ((wr.drewN n).setCell ⟨g7,j,none⟩ (.int .i64 a2)) w.heap.size oki (.slice (some ⟨g7,0,none⟩) row.length c7) (Eb hz (j+1) row)from fun n=>by
         have h0:=(Kd.JM (W:=wr.drewN n) (xs:=Eb hz j row) (by rw[Cz];exact Kd.BN HR.out n) (j:Int) a2).1;rw[Int.toNat_natCast,hset,Cz]at h0
         exact h0)
        clear he hset hsame hpos hxl habs hzx a5 a6
        go_wp2
        go_quiet (first|(go_at_call 83;(with_reducible refine(BD.calls true 1 _ rfl).mono ?_);rintro e w' ⟨rfl,⟨nd,rfl⟩⟩;(try first|exact⟨rfl,_,World.drewN_drewN _ _ _⟩|exact⟨rfl,_,Eq.trans (World.drewN_drewN _ _ _) (congrArg (World.drewN _) (Nat.add_assoc _ _ _))⟩))|(go_at_call 83;(with_reducible refine(BD.calls false 0 _ rfl).mono ?_);rintro e w' ⟨rfl,⟨nd,rfl⟩⟩;(try first|exact⟨rfl,_,World.drewN_drewN _ _ _⟩|exact⟨rfl,_,Eq.trans (World.drewN_drewN _ _ _) (congrArg (World.drewN _) (Nat.add_assoc _ _ _))⟩)))
        go_wp2_with fail
        go_at_call 99
        refine(BP.calls x x _ HA.out).mono ?_;rintro e w' ⟨rfl,⟨nd,rfl⟩⟩
        go_wp2
        go_roundg q2
        case measure=>omega
        case rel=>exact⟨j+1,by have:=HKj.out;omega,by go_num,⟨HST.out _⟩,⟨(HK.out.drewN _).setCell (.inl HOI.out) _⟩,⟨BC (AQ HB.out _) HGB.out⟩⟩
       ·
        have c5:(x==a1)=false:=beq_eq_false_iff_ne.mpr hzx
        by_cases hzy:x=a3
        ·
         have c6:(x==a3)=true:=beq_iff_eq.mpr hzy;have he:CU (Gs a1 a2 a3 a4) x=a4:=(if_pos hpos:CU (Gs a1 a2 a3 a4) x=Gs a1 a2 a3 a4 x).trans ((if_neg hzx).trans (if_pos hzy));rw[he,<-HZD.out]at hset;have t1:IntKind.i64.wrap a4=a4:=IntWalk.i64_in _ (by omega)
         have t2:IntKind.i64.wrap (1*a4)=a4:=by rw[Int.one_mul];exact t1
         have HST:=ak (show∀n:Nat,Kd.R (Kd.int .i64) 3 ((wr.drewN n).setCell ⟨g7,j,none⟩ (.int .i64 a4)) w.heap.size oki (.slice (some ⟨g7,0,none⟩) row.length c7) (Eb hz (j+1) row)from fun n=>by
          have h0:=(Kd.JM (W:=wr.drewN n) (xs:=Eb hz j row) (by rw[Cz];exact Kd.BN HR.out n) (j:Int) a4).1;rw[Int.toNat_natCast,hset,Cz]at h0
          exact h0)
         clear he hset hsame hpos hxl habs hzx a5 a6 hzy
         go_wp2
         go_quiet (first|(go_at_call 83;(with_reducible refine(BD.calls true 1 _ rfl).mono ?_);rintro e w' ⟨rfl,⟨nd,rfl⟩⟩;(try first|exact⟨rfl,_,World.drewN_drewN _ _ _⟩|exact⟨rfl,_,Eq.trans (World.drewN_drewN _ _ _) (congrArg (World.drewN _) (Nat.add_assoc _ _ _))⟩))|(go_at_call 83;(with_reducible refine(BD.calls false 0 _ rfl).mono ?_);rintro e w' ⟨rfl,⟨nd,rfl⟩⟩;(try first|exact⟨rfl,_,World.drewN_drewN _ _ _⟩|exact⟨rfl,_,Eq.trans (World.drewN_drewN _ _ _) (congrArg (World.drewN _) (Nat.add_assoc _ _ _))⟩)))
         go_wp2_with fail
         go_at_call 99
         refine(BP.calls x x _ HA.out).mono ?_;rintro e w' ⟨rfl,⟨nd,rfl⟩⟩
         go_wp2
         go_roundg q2
         case measure=>omega
         case rel=>exact⟨j+1,by have:=HKj.out;omega,by go_num,⟨HST.out _⟩,⟨(HK.out.drewN _).setCell (.inl HOI.out) _⟩,⟨BC (AQ HB.out _) HGB.out⟩⟩
        ·
         have c6:(x==a3)=false:=beq_eq_false_iff_ne.mpr hzy;have he:CU (Gs a1 a2 a3 a4) x=x:=((if_pos hpos:CU (Gs a1 a2 a3 a4) x=Gs a1 a2 a3 a4 x).trans ((if_neg hzx).trans (if_neg hzy)));have HST:=ak (show Kd.R (Kd.int .i64) 3 wr w.heap.size oki (.slice (some ⟨g7,0,none⟩) row.length c7) (Eb hz (j+1) row)from by rw[HZD.out,hsame he,<-HZD.out];exact HR.out);clear he hset hsame hpos hxl habs hzx a5 a6 hzy
         go_wp2
         go_quiet (first|(go_at_call 83;(with_reducible refine(BD.calls true 1 _ rfl).mono ?_);rintro e w' ⟨rfl,⟨nd,rfl⟩⟩;(try first|exact⟨rfl,_,World.drewN_drewN _ _ _⟩|exact⟨rfl,_,Eq.trans (World.drewN_drewN _ _ _) (congrArg (World.drewN _) (Nat.add_assoc _ _ _))⟩))|(go_at_call 83;(with_reducible refine(BD.calls false 0 _ rfl).mono ?_);rintro e w' ⟨rfl,⟨nd,rfl⟩⟩;(try first|exact⟨rfl,_,World.drewN_drewN _ _ _⟩|exact⟨rfl,_,Eq.trans (World.drewN_drewN _ _ _) (congrArg (World.drewN _) (Nat.add_assoc _ _ _))⟩)))
         go_wp2_with fail
         go_at_call 99
         refine(BP.calls x x _ HA.out).mono ?_;rintro e w' ⟨rfl,⟨nd,rfl⟩⟩
         go_wp2
         go_roundg q2
         case measure=>omega
         case rel=>exact⟨j+1,by have:=HKj.out;omega,by go_num,⟨Kd.BN HST.out _⟩,⟨HK.out.drewN _⟩,⟨AQ HB.out _⟩⟩
      ·
       have c3:decide (0<x)=false:=decide_eq_false hpos;have c4:decide (x<0)=true:=decide_eq_true (by omega);obtain⟨z,hzz⟩: ∃z:Int,-x=z:=⟨_,rfl⟩;rw[if_neg hpos,hzz]at habs;have HA:=ak habs
       by_cases hzx: -x=a1
       ·
        have c5:(z==a1)=true:=beq_iff_eq.mpr (by omega);have he:CU (Gs a1 a2 a3 a4) x= -a2:=(if_neg hpos:CU (Gs a1 a2 a3 a4) x= -(Gs a1 a2 a3 a4 (-x))).trans (congrArg (fun n:Int=> -n) (if_pos hzx));rw[he,<-HZD.out]at hset;obtain⟨s,hs⟩: ∃s:Int,-a2=s:=⟨_,rfl⟩;rw[hs]at hset
        have t1:IntKind.i64.wrap (-a2)=s:=by rw[IntWalk.i64_in _ (by omega)];exact hs
        have t2:IntKind.i64.wrap (-1*a2)=s:=by rw[IntWalk.i64_in _ (by omega)];omega
        have HST:=ak (show∀n:Nat,Kd.R (Kd.int .i64) 3 ((wr.drewN n).setCell ⟨g7,j,none⟩ (.int .i64 s)) w.heap.size oki (.slice (some ⟨g7,0,none⟩) row.length c7) (Eb hz (j+1) row)from fun n=>by
         have h0:=(Kd.JM (W:=wr.drewN n) (xs:=Eb hz j row) (by rw[Cz];exact Kd.BN HR.out n) (j:Int) s).1;rw[Int.toNat_natCast,hset,Cz]at h0
         exact h0)
        clear he hset hsame hpos hxl habs hzx a5 a6 hzz hs
        go_wp2
        go_quiet (first|(go_at_call 83;(with_reducible refine(BD.calls true 1 _ rfl).mono ?_);rintro e w' ⟨rfl,⟨nd,rfl⟩⟩;(try first|exact⟨rfl,_,World.drewN_drewN _ _ _⟩|exact⟨rfl,_,Eq.trans (World.drewN_drewN _ _ _) (congrArg (World.drewN _) (Nat.add_assoc _ _ _))⟩))|(go_at_call 83;(with_reducible refine(BD.calls false 0 _ rfl).mono ?_);rintro e w' ⟨rfl,⟨nd,rfl⟩⟩;(try first|exact⟨rfl,_,World.drewN_drewN _ _ _⟩|exact⟨rfl,_,Eq.trans (World.drewN_drewN _ _ _) (congrArg (World.drewN _) (Nat.add_assoc _ _ _))⟩)))
        go_wp2_with fail
        go_at_call 99
        refine(BP.calls x z _ HA.out).mono ?_;rintro e w' ⟨rfl,⟨nd,rfl⟩⟩
        go_wp2
        go_roundg q2
        case measure=>omega
        case rel=>exact⟨j+1,by have:=HKj.out;omega,by go_num,⟨HST.out _⟩,⟨(HK.out.drewN _).setCell (.inl HOI.out) _⟩,⟨BC (AQ HB.out _) HGB.out⟩⟩
       ·
        have c5:(z==a1)=false:=beq_eq_false_iff_ne.mpr (by omega)
        by_cases hzy: -x=a3
        ·
         have c6:(z==a3)=true:=beq_iff_eq.mpr (by omega);have he:CU (Gs a1 a2 a3 a4) x= -a4:=(if_neg hpos:CU (Gs a1 a2 a3 a4) x= -(Gs a1 a2 a3 a4 (-x))).trans (congrArg (fun n:Int=> -n) ((if_neg hzx).trans (if_pos hzy)));rw[he,<-HZD.out]at hset;obtain⟨s,hs⟩: ∃s:Int,-a4=s:=⟨_,rfl⟩;rw[hs]at hset
         have t1:IntKind.i64.wrap (-a4)=s:=by rw[IntWalk.i64_in _ (by omega)];exact hs
         have t2:IntKind.i64.wrap (-1*a4)=s:=by rw[IntWalk.i64_in _ (by omega)];omega
         have HST:=ak (show∀n:Nat,Kd.R (Kd.int .i64) 3 ((wr.drewN n).setCell ⟨g7,j,none⟩ (.int .i64 s)) w.heap.size oki (.slice (some ⟨g7,0,none⟩) row.length c7) (Eb hz (j+1) row)from fun n=>by
          have h0:=(Kd.JM (W:=wr.drewN n) (xs:=Eb hz j row) (by rw[Cz];exact Kd.BN HR.out n) (j:Int) s).1;rw[Int.toNat_natCast,hset,Cz]at h0
          exact h0)
         clear he hset hsame hpos hxl habs hzx a5 a6 hzz hzy hs
         go_wp2
         go_quiet (first|(go_at_call 83;(with_reducible refine(BD.calls true 1 _ rfl).mono ?_);rintro e w' ⟨rfl,⟨nd,rfl⟩⟩;(try first|exact⟨rfl,_,World.drewN_drewN _ _ _⟩|exact⟨rfl,_,Eq.trans (World.drewN_drewN _ _ _) (congrArg (World.drewN _) (Nat.add_assoc _ _ _))⟩))|(go_at_call 83;(with_reducible refine(BD.calls false 0 _ rfl).mono ?_);rintro e w' ⟨rfl,⟨nd,rfl⟩⟩;(try first|exact⟨rfl,_,World.drewN_drewN _ _ _⟩|exact⟨rfl,_,Eq.trans (World.drewN_drewN _ _ _) (congrArg (World.drewN _) (Nat.add_assoc _ _ _))⟩)))
         go_wp2_with fail
         go_at_call 99
         refine(BP.calls x z _ HA.out).mono ?_;rintro e w' ⟨rfl,⟨nd,rfl⟩⟩
         go_wp2
         go_roundg q2
         case measure=>omega
         case rel=>exact⟨j+1,by have:=HKj.out;omega,by go_num,⟨HST.out _⟩,⟨(HK.out.drewN _).setCell (.inl HOI.out) _⟩,⟨BC (AQ HB.out _) HGB.out⟩⟩
        ·
         have c6:(z==a3)=false:=beq_eq_false_iff_ne.mpr (by omega);have he:CU (Gs a1 a2 a3 a4) x=x:=((if_neg hpos:CU (Gs a1 a2 a3 a4) x= -(Gs a1 a2 a3 a4 (-x))).trans (congrArg (fun n:Int=> -n) ((if_neg hzx).trans (if_neg hzy)))).trans (by omega);have HST:=ak (show Kd.R (Kd.int .i64) 3 wr w.heap.size oki (.slice (some ⟨g7,0,none⟩) row.length c7) (Eb hz (j+1) row)from by rw[HZD.out,hsame he,<-HZD.out];exact HR.out);clear he hset hsame hpos hxl habs hzx a5 a6 hzz hzy
         go_wp2
         go_quiet (first|(go_at_call 83;(with_reducible refine(BD.calls true 1 _ rfl).mono ?_);rintro e w' ⟨rfl,⟨nd,rfl⟩⟩;(try first|exact⟨rfl,_,World.drewN_drewN _ _ _⟩|exact⟨rfl,_,Eq.trans (World.drewN_drewN _ _ _) (congrArg (World.drewN _) (Nat.add_assoc _ _ _))⟩))|(go_at_call 83;(with_reducible refine(BD.calls false 0 _ rfl).mono ?_);rintro e w' ⟨rfl,⟨nd,rfl⟩⟩;(try first|exact⟨rfl,_,World.drewN_drewN _ _ _⟩|exact⟨rfl,_,Eq.trans (World.drewN_drewN _ _ _) (congrArg (World.drewN _) (Nat.add_assoc _ _ _))⟩)))
         go_wp2_with fail
         go_at_call 99
         refine(BP.calls x z _ HA.out).mono ?_;rintro e w' ⟨rfl,⟨nd,rfl⟩⟩
         go_wp2
         go_roundg q2
         case measure=>omega
         case rel=>exact⟨j+1,by have:=HKj.out;omega,by go_num,⟨Kd.BN HST.out _⟩,⟨HK.out.drewN _⟩,⟨AQ HB.out _⟩⟩
noncomputable def EL.f (k:Nat) (l0:List (List Int)) (x y:Int):Option (List (List Int)×Bool):=EZ.f k l0 x y y x
set_option maxHeartbeats 8000000 in
set_option maxRecDepth 100000 in
theorem EL.calls (k:Nat) (A0:Option Addr) (c0:Nat) (l0:List (List Int)) (a1 a2:Int) (r1:List (List Int)) (r2:Bool) (w:World) (a0:Kd.C (Kd.slice 3 (Kd.int .i64)) w A0 l0.length l0) (a3:l0.length<=c0) (h:EL.f k l0 a1 a2=some (r1,r2)):
 Calls Try.prog 25 #[.slice A0 l0.length c0,.int .i64 a1,.int .i64 a2] w fun e w'=> ∃a4:Value,e= .returned (.tuple #[a4,.bool r2])/\Kd.S (Kd.slice 3 (Kd.int .i64)) 47 w' w.heap.size (fun _=>True) a4 r1/\Below w.heap.size w w':=by
 have a5:=ak a0;have a6:=ak a3;have HM:=ak h;clear a0 a3 h
 go_enter Try.func25,Try.ntmps25
 go_wp2_with fail
 go_at_call 71
 refine(EZ.calls k A0 c0 l0 a1 a2 a2 a1 r1 r2 w a5.out a6.out HM.out).mono ?_;rintro e w1 ⟨v,rfl,hs,hb⟩;have HS:=ak hs;have HB:=ak hb;clear hs hb
 go_wp2
 go_ret2
 exact⟨_,rfl,HS.out,HB.out⟩
noncomputable def DQ.f (k:Nat) (l0:List (List Int)) (x:Int):Option (List (List Int)×Bool):=if 1<=x/\x<=8 then EZ.f k l0 x (-x) x (-x)else some ([],false)
set_option maxHeartbeats 8000000 in
set_option maxRecDepth 100000 in
theorem DQ.calls (k:Nat) (A0:Option Addr) (c0:Nat) (l0:List (List Int)) (a1:Int) (r1:List (List Int)) (r2:Bool) (w:World) (a3:Kd.C (Kd.slice 3 (Kd.int .i64)) w A0 l0.length l0) (a4:l0.length<=c0) (h:DQ.f k l0 a1=some (r1,r2)):
 Calls Try.prog 23 #[.slice A0 l0.length c0,.int .i64 a1] w fun e w'=> ∃a5:Value,e= .returned (.tuple #[a5,.bool r2])/\Kd.S (Kd.slice 3 (Kd.int .i64)) 47 w' w.heap.size (fun _=>True) a5 r1/\Below w.heap.size w w':=by
 have a6:=ak a3;have a7:=ak a4;unfold DQ.f at h
 by_cases a0:1<=a1/\a1<=8
 case neg=>
  rw[if_neg a0]at h;obtain⟨rfl,rfl⟩:=Prod.mk.inj (Option.some.inj h);have HW:=ak ((Hp a1 1 8).trans (by rw[decide_eq_false a0]));clear h a0 a3 a4
  go_enter Try.func23,Try.ntmps23
  go_wp2_with fail
  go_at_call 53
  refine(BM.calls a1 1 8 false _ HW.out).mono ?_;rintro e w2 ⟨rfl,⟨n2,rfl⟩⟩;have a2:=ak (AQ (Below.refl w.heap.size w) n2)
  go_wp2_with ((with_reducible refine Ar (N:=11) rfl ?_);refine Kd.FO (Kd.slice 3 (Kd.int .i64)) _ 47 ?hg (N:=11) ?hd (xs:=([]:List (List Int))) (inner:=[]) (ok:=fun _=>True) (okp:=fun _=>True) ?hr ?hp (fun _ hk=>hk) trivial (Below.refl _ _) (Nat.le_refl _) (by simp) ?_;(case hd=>rfl);(case hg=>rfl);(case hr=>first|(go_simp;done)|(go_simp;rfl));(case hp=>exact(Av.none _ _));intro vl wl hol hbl hg_ hnew_;clear hg_ hnew_;have HBL:=ak (AG a2.out hbl);have HOL:=ak hol;clear hbl hol)
  go_ret2
  exact⟨_,rfl,Kd.BS HOL.out (AA a2.out),HBL.out⟩
 rw[if_pos a0]at h;have HM:=ak h;have HWX:=ak ((Hp a1 1 8).trans (by rw[decide_eq_true a0]));obtain⟨s,hs⟩: ∃s:Int,-a1=s:=⟨_,rfl⟩
 have t1:IntKind.i64.wrap (-a1)=s:=by rw[IntWalk.i64_in _ (by omega)];exact hs
 rw[hs]at HM;clear a3 a4 h a0 hs
 go_enter Try.func23,Try.ntmps23
 go_wp2_with fail
 go_at_call 53
 refine(BM.calls a1 1 8 true _ HWX.out).mono ?_;rintro e w2 ⟨rfl,⟨n2,rfl⟩⟩;have a2:=ak (AQ (Below.refl w.heap.size w) n2)
 go_wp2_with fail
 go_at_call 71
 refine(EZ.calls k A0 c0 l0 a1 s a1 s r1 r2 _ (Kd.AM a6.out a2.out) a7.out HM.out).mono ?_;rintro e w1 ⟨v,rfl,hs,hb⟩;have HS:=ak (Kd.BS hs (AA a2.out));have HB:=ak (AG a2.out hb);clear hs hb
 go_wp2
 go_ret2
 exact⟨_,rfl,HS.out,HB.out⟩
end Go.Proofs.Ytlnddmkkgjlmbaa.QFnMoves
namespace Go.Proofs.Ytlnddmkkgjlmbaa.QFnMoves
open Go.Proofs.Ytlnddmkkgjlmbaa.Zip Go.RowKit Go.Proofs.YtlnddmkkgjlmbaaW.PrintWords Go.Proofs.YtlnddmkkgjlmbaaW.PrintLast Go.Proofs.YtlnddmkkgjlmbaaW.PrintMore Go.Proofs.Ytlnddmkkgjlmbaa.Com Go.Proofs.Ytlnddmkkgjlmbaa.Joi Go.Proofs.Ytlnddmkkgjlmbaa.Kl
attribute [local go_sem] CD CF CW CV Bl Bk CE CG
set_option linter.unusedVariables false
set_option linter.unusedSimpArgs false
theorem toNat_cast (ys:List Nat):(ys.map (fun y:Nat=>(y:Int))).map Int.toNat=ys:=by
 rw[List.map_map];exact(List.map_congr_left fun y _=>Int.toNat_natCast y).trans (List.map_id ys)
def S2 (g:List (List Int)) (ys:List Nat) (a b:Nat):Nat->Nat->Prop:=fun u v=>v<u/\(u<a\/u=a/\v<b)/\UD g ys u v
def S3 (g:List (List Int)) (ys:List Nat) (a b k:Nat):Nat->Nat->Prop:=fun u v=>S2 g ys a b u v\/(u=a/\v=b/\∃q,q<k/\EG (Sl g) (2*ys.getD a 0+q % 2) (2*ys.getD b 0+q/2))
theorem VE (g:List (List Int)) (ys:List Nat) (a u v:Nat) (h:S2 g ys (a+1) 0 u v):S2 g ys a a u v:=⟨h.1,by have:=h.1;have:=h.2.1;omega,h.2.2⟩
theorem TU (g:List (List Int)) (ys:List Nat) (a b u v:Nat) (h:S3 g ys a b 0 u v):S2 g ys a b u v:=by
 rcases h with h|⟨_,_,q,hq,_⟩
 ·
  exact h
 ·
  omega
theorem WN (g:List (List Int)) (ys:List Nat) (a b u v:Nat) (h:S2 g ys a (b+1) u v):S3 g ys a b 4 u v:=by
 obtain⟨h0,h1,h2⟩:=h
 by_cases e:u=a/\v=b
 ·
  obtain⟨rfl,rfl⟩:=e;obtain⟨_,_,k,l,hk,hl,h3⟩:=h2;exact .inr ⟨rfl,rfl,2*l+k,by omega,by rw[show(2*l+k)/2=l by omega,show(2*l+k) % 2=k by omega];exact h3⟩
 ·
  exact .inl ⟨h0,by omega,h2⟩
theorem VJ (g:List (List Int)) (ys:List Nat) (a b k u v:Nat) (h:S3 g ys a b (k+1) u v):S3 g ys a b k u v\/(u=a/\v=b):=by
 rcases h with h|⟨h1,h2,_⟩
 ·
  exact .inl (.inl h)
 ·
  exact .inr ⟨h1,h2⟩
theorem Uz (g:List (List Int)) (ys:List Nat) (a b k:Nat) (hn: ¬EG (Sl g) (2*ys.getD a 0+k % 2) (2*ys.getD b 0+k/2)) (u v:Nat) (h:S3 g ys a b (k+1) u v):S3 g ys a b k u v:=by
 rcases h with h|⟨h1,h2,q,hq,e⟩
 ·
  exact .inl h
 ·
  by_cases hqk:q=k
  ·
   subst hqk;exact(hn e).elim
  ·
   exact .inr ⟨h1,h2,q,by omega,e⟩
theorem WL (g:List (List Int)) (ys:List Nat) (a b:Nat) (h:EG (UD g ys) a b):EG (S2 g ys ys.length 0) a b:=
 Fu (Bz _) (fun a b hs=>by
  rcases Nat.lt_trichotomy a b with hab|hab|hab
  ·
   exact .symm (.base ⟨hab,.inl hs.2.1,Sq hs⟩)
  ·
   subst hab;exact .refl a
  ·
   exact .base ⟨hab,.inl hs.1,hs⟩) h
open Classical in
noncomputable def Cn.f (k:Nat) (l0:List (List Int)):Option Int:=(AL.f k l0).bind fun t=>if t=true then((BK.f k l0 1 1).bind fun fs=>(BB.f k l0).bind fun up=>if(Kt l0/\up.length=18/\UF up (EG (Sl l0)))/\∃ys:List Nat,fs=ys.map (fun y:Nat=>(y:Int))/\Occ l0 ys then some ((Lj l0 (fs.map Int.toNat):Nat):Int)else none)else some (-1)
set_option maxHeartbeats 16000000 in
set_option maxRecDepth 100000 in
theorem Cn.calls (k:Nat) (A0:Option Addr) (c0:Nat) (l0:List (List Int)) (r:Int) (w:World) (a8:Kd.C (Kd.slice 3 (Kd.int .i64)) w A0 l0.length l0) (a0:l0.length<=c0) (h:Cn.f k l0=some r):
 Calls Try.prog 44 #[.slice A0 l0.length c0] w fun e w'=>e= .returned (.int .i64 r)/\Below w.heap.size w w':=by
 have a3:=ak a8;have a4:=ak a0;obtain⟨t,a9,H⟩:=Option.bind_eq_some_iff.mp h;have A1:=ak a9;clear a9 h a8 a0
 cases t with
 |false=>
  rw[if_neg Bool.false_ne_true]at H;obtain rfl:=Option.some.inj H
  go_enter Try.func44,Try.ntmps44
  go_wp2_with fail
  go_at_call 52
  refine(AL.calls k A0 c0 l0 false w a3.out a4.out A1.out).mono ?_;rintro e w1 ⟨rfl,hb⟩
  go_wp2
  go_ret
  exact⟨rfl,hb⟩
 |true=>
  rw[if_pos rfl]at H;obtain⟨fs,E1,H⟩:=Option.bind_eq_some_iff.mp H;obtain⟨up,E2,H⟩:=Option.bind_eq_some_iff.mp H
  by_cases hm:(Kt l0/\up.length=18/\UF up (EG (Sl l0)))/\∃ys:List Nat,fs=ys.map (fun y:Nat=>(y:Int))/\Occ l0 ys
  case neg=>rw[if_neg hm]at H;cases H
  rw[if_pos hm]at H;obtain⟨⟨hco,hul,huf⟩,ys,rfl,hoc⟩:=hm;rw[toNat_cast]at H;obtain rfl:=Option.some.inj H;clear H;have HM:=ak hco;have HUL:=ak hul;have HUF:=ak huf;have HOC:=ak hoc;have AF:=ak E1;have AE:=ak E2;have d9:ys.length<=8:=hoc.1;clear hco hul huf hoc E1 E2
  go_enter Try.func44,Try.ntmps44
  go_wp2_with fail
  go_at_call 52
  refine(AL.calls k A0 c0 l0 true w a3.out a4.out A1.out).mono ?_;rintro e w1 ⟨rfl,hb⟩;have a5:=ak hb;clear hb
  go_wp2_with fail
  go_at_call 88
  refine(BK.calls k A0 c0 l0 1 1 (ys.map (fun y:Nat=>(y:Int))) w1 (Kd.AM a3.out a5.out) a4.out AF.out).mono ?_;rintro e w2 ⟨v2,rfl,hs,hb⟩;obtain⟨D,cd,rfl⟩:=Kd.Al hs;rw[List.length_map]at hs⊢;have HD:=ak (Kd.AN hs);have a6:=ak (AG a5.out hb);clear hs hb a5
  go_wp2_with fail
  go_at_call 89
  refine(BB.calls k A0 c0 l0 up w2 (Kd.AM a3.out a6.out) a4.out AE.out).mono ?_;rintro e w4 ⟨v4,rfl,hs,hb⟩;obtain⟨U,cu,rfl⟩:=Kd.Al hs;have HU:=ak (Kd.AN hs);have HDW:=ak (Kd.AM HD.out.2.2 hb);have d0:=ak (AG a6.out hb);clear hs hb a6
  go_wp2
  have b0:AJ (Up (w4.alloc (.cells #[] 3)) w4.heap.size (.slice (some ⟨w4.heap.size,0,none⟩) 0 0) (iota 0)):=⟨Pr (enc:=Value.int .i64) w4 w4.heap.size 3 ([]:List Int) (Nat.le_refl _) (by decide)⟩;have b1:=ak (Aq (Below.refl w4.heap.size w4) (.cells #[] 3))
  go_loopg [5,6] ys.length (fun gk v5 v6 w'=> ∃(k:Nat) (v:Value),k+gk=ys.length/\v=v5/\v6= .int .i64 (k:Int)/\AJ (Up w' w4.heap.size v (iota k))/\AJ (Below w4.heap.size w4 w'))
  case atStart=>exact⟨0,_,by omega,rfl,rfl,b0,b1⟩
  case round=>
   clear b0 b1;obtain⟨k,v,hk,rfl,rfl,HO,HB⟩:=hrel
   cases gk with
   |succ q=>
    have HIL:=ak (GM k);have HK:=ak hk
    have hkn:k<=1048576:=by omega
    have c1:decide (k<ys.length)=true:=decide_eq_true (by omega);have HSZ:=ak (AA HB.out);clear hk
    go_wp2_with ((with_reducible refine Ak (b:= .append) (xs:= #[.tmp 26,.tmp 28]) rfl ?_);at_builtin;refine LC (w0:=w4) (Value.int .i64) w4.heap.size rfl (.tmp 26) (.tmp 28) 47 3 (.int .i64 0) 8 rfl Try.underlying47 Joi.BT rfl (by decide) v (iota k) (k:Int) rfl rfl rfl ?aO ?aB ?aS ?aL ?_;(case aO=>exact HO.out);(case aB=>exact HB.out);(case aS=>exact HSZ.out);(case aL=>rw[HIL.out];omega);intro v1 w9 hown hb hgr hat;have d1:=ak hown;have d2:=ak hb;clear hown hb hgr hat)
    go_roundg q
    case measure=>omega
    case rel=>exact⟨k+1,_,by have:=HK.out;omega,rfl,by go_num,⟨by rw[KW];exact d1.out⟩,d2⟩
   |zero=>
    obtain rfl:k=ys.length:=by omega
    have c1:decide (ys.length<ys.length)=false:=decide_eq_false (by omega);clear hk
    go_wp2
    go_loopg [7] ys.length (fun gk v7 w'=> ∃(a:Nat) (zs:List Int),a+gk=ys.length/\v7= .int .i64 (a:Int)/\AJ (FI ys.length (UD l0 ys) zs (S2 l0 ys a 0))/\AJ (Up w' w4.heap.size v zs)/\AJ (Below w4.heap.size w4 w'))
    case atStart=>exact⟨0,iota ys.length,by omega,rfl,⟨(FI.start _ _).weaken fun u v h=>by unfold S2 at h;omega⟩,HO,HB⟩
    case round=>
     clear HO HB c1;obtain⟨a,zs,hk,rfl,HP,HK,HBW⟩:=hrel
     cases gk with
     |zero=>
      obtain rfl:a=ys.length:=by omega
      have c1:decide (ys.length<ys.length)=false:=decide_eq_false (by omega);clear hk
      go_wp2
      go_loopg [10,11] ys.length (fun gk d3 d4 w'=> ∃(j:Nat) (n:Nat),j+gk=ys.length/\d3= .int .i64 ((Gh zs j:Nat):Int)/\d4= .int .i64 (j:Int)/\w'=wr.drewN n)
      case atStart=>exact⟨0,0,by omega,rfl,rfl,rfl⟩
      case round=>
       clear c1;obtain⟨j,n,hk,rfl,rfl,rfl⟩:=hrel;have a2:=HP.out.1
       cases gk with
       |zero=>
        obtain rfl:j=ys.length:=by omega
        obtain⟨A3,c3,rfl⟩:=Kj HK.out;have HC:=ak (show Gh zs ys.length=Lj l0 ys from HP.out.count fun a b _ _ e=>WL l0 ys a b e);have c1:decide (ys.length<zs.length)=false:=decide_eq_false (by omega);clear hk a2
        go_wp2
        go_ret
        exact⟨by rw[HC.out];rfl,AG d0.out (AQ HBW.out _)⟩
       |succ q=>
        have HKj:=ak hk;have HPL:=ak a2
        have hlt:j<ys.length:=by omega
        have c1:=decide_eq_true hlt;obtain⟨u,cap,hv,_,_,a0,_⟩:=HK.out.laid (by rw[HPL.out];omega);have hcj:=(a0 j (by rw[HPL.out];omega)).1;rw[HPL.out]at hv;subst hv
        have e0:(0:Int)<=(j:Int):=by omega
        have e3:(j:Int)<(ys.length:Int):=by omega
        have hz:=Kr zs j;have hzl:=Mf zs j;clear hk a0 a2
        have hjx:j<zs.length:=by rw[HPL.out];exact hlt
        by_cases hr:zs[j]? =some (j:Int)
        ·
         rw[if_pos hr]at hz
         have hrd:rd zs (j:Int)=(j:Int):=by rw[CR hjx];exact(List.getElem?_eq_some_iff.1 hr).2
         rw[hrd]at hcj;have HZ:=ak hz;clear hrd hr hz hjx
         go_wp2_with (go_at_call 83;refine(BD.calls true 1 _ rfl).mono ?_;rintro e w' ⟨rfl,⟨nd,rfl⟩⟩)
         go_roundg q
         case measure=>omega
         case rel=>exact⟨j+1,_,by have:=HKj.out;omega,by rw[HZ.out];go_num,by go_num,rfl⟩
        ·
         rw[if_neg hr]at hz
         have hrd:rd zs (j:Int)≠(j:Int):=by rw[CR hjx];intro e;exact hr (by rw[List.getElem?_eq_getElem hjx,e])
         have c2:(rd zs (j:Int)==(j:Int))=false:=by rw[beq_eq_false_iff_ne];exact hrd
         have HZ:=ak hz;clear hrd hr hz hjx
         go_wp2_with (go_at_call 83;refine(BD.calls false 0 _ rfl).mono ?_;rintro e w' ⟨rfl,⟨nd,rfl⟩⟩)
         go_roundg q
         case measure=>omega
         case rel=>exact⟨j+1,_,by have:=HKj.out;omega,by rw[HZ.out];rfl,by go_num,rfl⟩
     |succ ga=>
      have HKa:=ak hk
      have hlt:a<ys.length:=by omega
      have c1:=decide_eq_true hlt;clear hk;obtain⟨wo,hwo⟩: ∃wo:World,wo=wr:=⟨_,rfl⟩;subst hwo
      go_wp2
      go_loopg [8] a (fun gk v8 w'=> ∃(b':Nat) (zs:List Int),b'+gk=a/\v8= .int .i64 (b':Int)/\AJ (FI ys.length (UD l0 ys) zs (S2 l0 ys a b'))/\AJ (Up w' w4.heap.size v zs)/\AJ (Below w4.heap.size w4 w'))
      case atStart=>exact⟨0,zs,by omega,rfl,HP,HK,HBW⟩
      case round=>
       clear HP HK HBW;obtain⟨b',zs,hk,rfl,HP,HK,HBW⟩:=hrel
       cases gk with
       |zero=>
        obtain rfl:b'=a:=by omega
        have c2:decide (b'<b')=false:=decide_eq_false (by omega);clear hk
        go_wp2
        go_roundg ga
        case measure=>omega
        case rel=>exact⟨b'+1,zs,by have:=HKa.out;omega,by go_num,⟨HP.out.weaken (VE l0 ys b')⟩,HK,HBW⟩
       |succ gb=>
        have HKb:=ak hk
        have hba:b'<a:=by omega
        have hltb:b'<ys.length:=by omega
        have c2:=decide_eq_true hba;clear hk;obtain⟨b2,b9⟩: ∃b2:World,b2=wr:=⟨_,rfl⟩;subst b9
        go_wp2
        go_loopg [9] 4 (fun gk v9 w'=> ∃(q:Nat) (zs:List Int),q+gk=4/\v9= .int .i64 (q:Int)/\AJ (FI ys.length (UD l0 ys) zs (S3 l0 ys a b' q))/\AJ (Up w' w4.heap.size v zs)/\AJ (Below w4.heap.size w4 w'))
        case atStart=>exact⟨0,zs,by omega,rfl,⟨HP.out.weaken (TU l0 ys a b')⟩,HK,HBW⟩
        case round=>
         clear HP HK HBW;obtain⟨q,zs,hk,rfl,HP,HK,HBW⟩:=hrel
         cases gk with
         |zero=>
          obtain rfl:q=4:=by omega
          clear hk
          go_wp2
          go_roundg gb
          case measure=>omega
          case rel=>exact⟨b'+1,zs,by have:=HKb.out;omega,by go_num,⟨HP.out.weaken (WN l0 ys a b')⟩,HK,HBW⟩
         |succ gq=>
          have HKq:=ak hk
          have e4:q<4:=by omega
          have hq4i:(q:Int)<4:=by omega
          have e5:(0:Int)<=(q:Int):=by omega
          have c3:=decide_eq_true hq4i;obtain⟨e6,d5,hca⟩:=Kd.Dk (Kd.AM HDW.out HBW.out) (a:Int) (by omega) (by rw[List.length_map];omega);subst d5
          have hya:rd (ys.map (fun y:Nat=>(y:Int))) (a:Int)=((ys.getD a 0:Nat):Int):=by rw[CR (by rw[List.length_map];exact hlt),List.getElem_map,Bu hlt]
          rw[Int.toNat_natCast,hya]at hca
          have hma:ys.getD a 0∈ys:=by rw[Bu hlt];exact List.getElem_mem hlt
          have h9a:ys.getD a 0<9:=by obtain⟨p,i,hs,e⟩:=HOC.out.2 _ hma;have:=KQ HM.out hs;omega
          obtain⟨e7,d6,hcb⟩:=Kd.Dk (Kd.AM HDW.out HBW.out) (b':Int) (by omega) (by rw[List.length_map];omega);cases d6
          have hyb:rd (ys.map (fun y:Nat=>(y:Int))) (b':Int)=((ys.getD b' 0:Nat):Int):=by rw[CR (by rw[List.length_map];exact hltb),List.getElem_map,Bu hltb]
          rw[Int.toNat_natCast,hyb]at hcb
          have hmb:ys.getD b' 0∈ys:=by rw[Bu hltb];exact List.getElem_mem hltb
          have h9b:ys.getD b' 0<9:=by obtain⟨p,i,hs,e⟩:=HOC.out.2 _ hmb;have:=KQ HM.out hs;omega
          have e8:(0:Int)<=(a:Int):=by omega
          have e9:(a:Int)<(ys.length:Int):=by omega
          have f0:(0:Int)<=(b':Int):=by omega
          have f1:(b':Int)<(ys.length:Int):=by omega
          obtain⟨q1,b3⟩: ∃q1:Nat,q/2=q1:=⟨_,rfl⟩;obtain⟨q2,b4⟩: ∃q2:Nat,q % 2=q2:=⟨_,rfl⟩;obtain⟨rc,hrc⟩:=HUF.out.tot (2*ys.getD a 0+q2) (by rw[HUL.out];omega);obtain⟨rd',hrd⟩:=HUF.out.tot (2*ys.getD b' 0+q1) (by rw[HUL.out];omega);have HSAME:=ak (show rc=rd'↔EG (Sl l0) (2*ys.getD a 0+q % 2) (2*ys.getD b' 0+q/2) by rw[b3,b4];exact HUF.out.iff hrc hrd);obtain⟨nc,hnc⟩:=Ls hrc;obtain⟨nd,hnd⟩:=Ls hrd;obtain⟨x,hx⟩: ∃x:Nat,ys.getD a 0=x:=⟨_,rfl⟩;obtain⟨y,hy⟩: ∃y:Nat,ys.getD b' 0=y:=⟨_,rfl⟩;rw[hx]at hca hnc h9a;rw[hy]at hcb hnd h9b;have HUR:=ak (Kd.AM HU.out.2.2 HBW.out)
          have t1:IntKind.i64.wrap ((q:Int)/2)=(q1:Int):=by rw[IntWalk.i64_in _ (by omega)];omega
          have t2:IntKind.i64.wrap ((q:Int) % 2)=(q2:Int):=by rw[IntWalk.i64_in _ (by omega)];omega
          have t3:Int.tmod (q:Int) 2=(q2:Int):=by rw[Int.tmod_eq_emod_of_nonneg (by omega)];omega
          have t4:Int.tdiv (q:Int) 2=(q1:Int):=by rw[Int.tdiv_eq_ediv_of_nonneg (by omega)];omega
          have t5:IntKind.i64.wrap (2*(x:Int))=2*(x:Int):=IntWalk.i64_in _ (by omega);have t6:IntKind.i64.wrap (2*(y:Int))=2*(y:Int):=IntWalk.i64_in _ (by omega);obtain⟨z1,b5⟩: ∃z1:Nat,2*x+q2=z1:=⟨_,rfl⟩;obtain⟨z2,b6⟩: ∃z2:Nat,2*y+q1=z2:=⟨_,rfl⟩
          have t7:IntKind.i64.wrap (2*(x:Int)+(q2:Int))=(z1:Int):=by rw[IntWalk.i64_in _ (by omega)];omega
          have t8:IntKind.i64.wrap (2*(y:Int)+(q1:Int))=(z2:Int):=by rw[IntWalk.i64_in _ (by omega)];omega
          have t9:IntKind.i64.wrap (q1:Int)=(q1:Int):=IntWalk.i64_in _ (by omega)
          have z1l:z1<=18:=by omega
          have z2l:z2<=18:=by omega
          rw[b5]at hnc;rw[b6]at hnd;have M1:=ak hnc;have M2:=ak hnd;clear b5 b6 hnc hnd hrc hrd hx hy hya hyb hma hmb b3 b4
          by_cases hcr:rc=rd'
          ·
           subst hcr;have HSH:=ak (show EG (UD l0 ys) a b' from .base ⟨hlt,hltb,q % 2,q/2,by omega,by omega,HSAME.out.1 rfl⟩);obtain⟨ra,hra⟩:=HP.out.root hlt;obtain⟨rb,hrb⟩:=HP.out.root hltb;have a7:=ak ((HP.out.VD hra hrb HSH.out).weaken (T':=S3 l0 ys a b' (q+1)) (VJ l0 ys a b' q))
           have hral:ra<ys.length:=by have:=hra.lt.2;rw[HP.out.1]at this;exact this
           obtain⟨na,hna⟩:=Ls hra;obtain⟨nb,hnb⟩:=Ls hrb;have N1:=ak hna;have N2:=ak hnb;have HPL:=ak HP.out.1;clear hna hnb hra hrb HP
           go_wp2
           refine wp_region_still_lit (by kernel_rfl) (by kernel_rfl) ?_
           change wpStill _ _ wr.drew _ _ _
           repeat still_step
           still_call (GH U up.length cu up rfl z1 rc nc wr.drew HUR.out HU.out.2.1 M1.out (by rw[HUL.out];omega))
           repeat still_step
           still_call (GH U up.length cu up rfl z2 rc nd wr.drew HUR.out HU.out.2.1 M2.out (by rw[HUL.out];omega))
           repeat still_step
           refine wpStill_nil ?_
           change Exit.then _ _ _ _ wr.drew
           have a1:=ak (show Up wr.drew w4.heap.size v zs from HK.out);have HB2':=ak (FY HBW.out);clear HK HBW hca hcb;generalize wr.drew=w7 at a1 HB2'⊢;obtain⟨u,cap,hv,hbu,hcp,a0,hst⟩:=a1.out.laid (by rw[HPL.out];omega);rw[HPL.out]at hv;subst hv;have hcc:=a1.out.C;have b7:=ak hcc.1;have b8:=ak hcc.2.1;have hcra:=a0 ra (by rw[HPL.out];exact hral);have HST:=ak (hst ra (rb:Int) (by rw[HPL.out];exact hral));have HBU':=ak hbu
           have d7:(0:Int)<=(ra:Int):=by omega
           have d8:(ra:Int)<(ys.length:Int):=by omega
           clear hcc hcp a0 hst hbu
           go_wp2_with fail
           go_at_call 90
           refine(GH (some ⟨u,0,none⟩) ys.length cap zs HPL.out a ra na w7 b7.out b8.out N1.out (by rw[HPL.out];omega)).mono ?_;rintro e w8 ⟨rfl,hw⟩;obtain rfl:=hw.symm;clear hw
           go_wp2_with fail
           go_at_call 90
           refine(GH (some ⟨u,0,none⟩) ys.length cap zs HPL.out b' rb nb w7 b7.out b8.out N2.out (by rw[HPL.out];omega)).mono ?_;rintro e w8 ⟨rfl,hw⟩;obtain rfl:=hw.symm;clear hw
           go_wp2
           go_roundg gq
           case measure=>omega
           case rel=>exact⟨q+1,_,by have:=HKq.out;omega,by go_num,a7,HST,⟨BC HB2'.out HBU'.out⟩⟩
          ·
           have a7:=ak (HP.out.weaken (T':=S3 l0 ys a b' (q+1)) (Uz l0 ys a b' q (fun e=>hcr (HSAME.out.2 e))))
           have e1:((rc:Int)==(rd':Int))=false:=by rw[beq_eq_false_iff_ne];omega
           have e2:=decide_eq_false hcr;clear HP hcr
           go_wp2
           refine wp_region_still_lit (by kernel_rfl) (by kernel_rfl) ?_
           change wpStill _ _ wr.drew _ _ _
           repeat still_step
           still_call (GH U up.length cu up rfl z1 rc nc wr.drew HUR.out HU.out.2.1 M1.out (by rw[HUL.out];omega))
           repeat still_step
           still_call (GH U up.length cu up rfl z2 rd' nd wr.drew HUR.out HU.out.2.1 M2.out (by rw[HUL.out];omega))
           repeat still_step
           refine wpStill_nil ?_
           change Exit.then _ _ _ _ wr.drew
           have a1:=ak (show Up wr.drew w4.heap.size v zs from HK.out);have HB2':=ak (FY HBW.out);clear HK HBW hca hcb;generalize wr.drew=w7 at a1 HB2'⊢
           go_wp2
           go_roundg gq
           case measure=>omega
           case rel=>exact⟨q+1,_,by have:=HKq.out;omega,by go_num,a7,a1,HB2'⟩
end Go.Proofs.Ytlnddmkkgjlmbaa.QFnMoves
namespace Go.Proofs.Ytlnddmkkgjlmbaa.QFnMoves
open Go.Proofs.Ytlnddmkkgjlmbaa.Zip Go.RowKit Go.Proofs.YtlnddmkkgjlmbaaW.PrintWords Go.Proofs.YtlnddmkkgjlmbaaW.PrintLast Go.Proofs.YtlnddmkkgjlmbaaW.PrintMore Go.Proofs.Ytlnddmkkgjlmbaa.Com
attribute [local go_sem] CD CF CW CV Bl Bk CE CG
set_option linter.unusedVariables false
set_option linter.unusedSimpArgs false
def Fl:Nat->List Int->List Int
 |0,l=>l
 |n+1,l=>if 2<=l.length/\rd l 0=wrap64 (-(rd l ((l.length:Int)-1)))then Fl n ((l.drop 1).take (l.length-2))else l
theorem GA (n:Nat) (l:List Int):Fl (n+1) l=if 2<=l.length/\rd l 0=wrap64 (-(rd l ((l.length:Int)-1)))then Fl n ((l.drop 1).take (l.length-2))else l:=rfl
theorem Mk: ∀(n:Nat) (l:List Int),(Fl n l).length<=l.length
 |0,l=>Nat.le_refl _
 |n+1,l=>by
  unfold Fl
  split
  ·
   have:=Mk n ((l.drop 1).take (l.length-2));rw[List.length_take,List.length_drop]at this
   omega
  ·
   exact Nat.le_refl _
theorem XC (A:Option Addr) (c:Nat) (xs:List Int) (j:Nat) (hj:j+1=xs.length) (h1:1<=j) (hc:xs.length<=c):
 ∃A2:Option Addr,(∀W:World,(Instr.slice 47 (.slice A xs.length c) (some (.int .i64 1)) (some (.int .i64 (j:Int))) none).run Try.prog W= .ok (.slice A2 ((xs.drop 1).take (xs.length-2)).length (c-1)) W)/\
  (∀w:World,Kd.C (Kd.int .i64) w A xs.length xs->Kd.C (Kd.int .i64) w A2 ((xs.drop 1).take (xs.length-2)).length ((xs.drop 1).take (xs.length-2)))/\((xs.drop 1).take (xs.length-2)).length<=c-1:=by
 have hl:((xs.drop 1).take (xs.length-2)).length=xs.length-2:=by rw[List.length_take,List.length_drop];omega
 obtain⟨i0,hi,_,hsz,_⟩:=info_parts BT;refine⟨if c=1 then A else A.map (·.add 1),fun W=>?_,fun w h=>?_,by rw[hl];omega⟩
 ·
  have:=Ui (P:=Try.prog) 47 3 .i64 .i64 Try.underlying47 hi 1 hsz A xs.length c 1 (j:Int) (by omega) (by omega) (by omega) hc W;rw[hl];rw[this]
  have e1:((j:Int).toNat-(1:Int).toNat)=xs.length-2:=by omega
  rw[e1];rfl
 ·
  rw[hl];have h2:=(Kd.Cg (d:=(0:Int)) h).Ok 1 (by omega) hc;have h3:=h2.Ic (xs.length-2) (by omega);exact Kd.Cf (h1:=fun _=>rfl) h3
def Em.f (k:Nat) (l0:List Int):Option (List Int):=(BQ.f k l0).bind fun r=>if r.length<17592186044416 then some (Fl r.length r)else none
set_option maxHeartbeats 8000000 in
set_option maxRecDepth 100000 in
theorem Em.calls (k:Nat) (A0:Option Addr) (c0:Nat) (l0 r:List Int) (w:World) (a1:Kd.C (Kd.int .i64) w A0 l0.length l0) (a2:l0.length<=c0) (h:Em.f k l0=some r):
 Calls Try.prog 94 #[.slice A0 l0.length c0] w fun e w'=> ∃a3:Value,e= .returned (a3)/\Kd.R (Kd.int .i64) 3 w' w.heap.size (fun _=>True) a3 r/\Below w.heap.size w w':=by
 have b1:=ak a1;have b2:=ak a2;obtain⟨t,a4,H⟩:=Option.bind_eq_some_iff.mp h;have A1:=ak a4
 by_cases hl:t.length<17592186044416
 case neg=>rw[if_neg hl]at H;cases H
 rw[if_pos hl]at H;obtain rfl:=Option.some.inj H;have HTL:=ak hl;clear a4 h a1 a2 H hl
 go_enter Try.func94,Try.ntmps94
 go_wp2_with fail
 go_at_call 96
 refine(BQ.calls k A0 c0 l0 t w b1.out b2.out A1.out).mono ?_;rintro e w1 ⟨v1,rfl,hs,hb⟩;obtain⟨D,cd,rfl⟩:=Kd.Al hs;have a5:=ak hb;have HD:=ak (Kd.AN hs);clear hs hb
 go_wp2
 go_loopg [3] t.length (fun gk v3 w'=> ∃(xs:List Int) (A:Option Addr) (c:Nat),xs.length<=gk/\v3= .slice A xs.length c/\AJ (Kd.C (Kd.int .i64) w' A xs.length xs)/\AJ (xs.length<=c)/\AJ (xs.length<=t.length)/\AJ (Fl gk xs=Fl t.length t)/\AJ (Below w.heap.size w w'))
 case atStart=>exact⟨t,D,cd,Nat.le_refl _,rfl,⟨HD.out.2.2⟩,⟨HD.out.2.1⟩,⟨Nat.le_refl _⟩,⟨rfl⟩,a5⟩
 case round=>
  clear HD a5;obtain⟨xs,A,c,hk,rfl,HX,HXC,HXT,HE,HB⟩:=hrel
  by_cases h2:2<=xs.length
  case neg=>
   have c1:=decide_eq_false h2;have c2:decide ((2:Int)<=(xs.length:Int))=false:=decide_eq_false (by omega)
   have HV:=ak (show xs=Fl t.length t by
    rw[<-HE.out]
    cases gk with
    |zero=>rfl
    |succ g=>unfold Fl;rw[if_neg (fun e=>h2 e.1)])
   clear h2 hk
   go_wp2
   go_quiet (fail)
   go_wp2_with (first|((with_reducible refine Ar (N:=27) rfl ?_);refine Kd.DS (Kd.int .i64) _ 3 ?hg (N:=27) ?hd (xs:=([]:List Int)) (inner:=[]) (ok:=fun _=>True) (okp:=fun _=>True) ?hr ?hp (fun _ hk=>hk) trivial (Below.refl _ _) (Nat.le_refl _) (by simp) ?_;(case hd=>rfl);(case hg=>rfl);(case hr=>first|(go_simp;done)|(go_simp;rfl));(case hp=>exact(Av.none _ _));intro vl wl hol hbl hg_ hnew_;clear hg_ hnew_;have HOL:=ak (Kd.BA hol (AA Xp));have HXL:=ak (Kd.AM (by repeat(first|exact HX.out|(with_reducible refine Kd.Ao ?_ _))) hbl);have HBL:=ak (AG Xp hbl);clear hbl hol)|((with_reducible refine Ak (b:= .append) (xs:= #[.tmp 27,.tmp 28]) rfl ?_);at_builtin;refine Kd.Cv (Kd.int .i64) (w0:=w) w.heap.size rfl (.tmp 27) (.tmp 28) 47 3 (.int .i64 0) 8 rfl Try.underlying47 BT rfl (by decide) (by omega) vl ([]:List Int) xs _ _ _ (fun _=>True) (fun _=>False) rfl rfl ?aO ?aR (fun _ _ h=>h) (fun _ h=>h.elim) ?aF ?aB ?aS ?aL ?_;(case aR=>exact HXL.out);(case aB=>exact HBL.out);(case aF=>exact(fun _ _=>trivial));(case aO=>exact HOL.out);(case aS=>exact AA HBL.out);(case aL=>have:=HTL.out;have:=HXT.out;rw[List.length_nil];omega);intro va wa hoa hba hga hata;rw[List.nil_append]at hoa;have HOA:=ak hoa;have HBA:=ak hba;clear hoa hba hga hata))
   go_ret
   exact⟨_,rfl,by rw[<-HV.out];exact HOA.out,HBA.out⟩
  case pos=>
   cases gk with
   |zero=>omega
   |succ g=>
    obtain⟨j,hj⟩: ∃j:Nat,j+1=xs.length:=⟨xs.length-1,by omega⟩;have c1:=decide_eq_true h2;have c2:decide ((2:Int)<=(xs.length:Int))=true:=decide_eq_true (by omega)
    have t1:IntKind.i64.wrap ((xs.length:Int)-1)=(j:Int):=by have:=HXT.out;have:=HTL.out;rw[IntWalk.i64_in _ (by omega)];omega
    obtain⟨ad,hA,h0⟩:=Kd.Dk HX.out 0 (by omega) (by omega);subst hA;obtain⟨b4,b3,h1⟩:=Kd.Dk HX.out (j:Int) (by omega) (by omega);cases b3;obtain⟨y,hy⟩: ∃y:Int,wrap64 (-(rd xs (j:Int)))=y:=⟨_,rfl⟩;have t2:IntKind.i64.wrap (-(rd xs (j:Int)))=y:=(Dg _).trans hy;obtain⟨x,hx⟩: ∃x:Int,rd xs 0=x:=⟨_,rfl⟩
    have hjl:((xs.length:Int)-1)=(j:Int):=by omega
    have a0:=HE.out;rw[GA,hjl,hx,hy]at a0;rw[hx]at h0;rw[Int.toNat_natCast]at h1;rw[Int.toNat_zero,show ad.add 0=ad from by cases ad;simp[Addr.add]]at h0
    have h0z:(0:Int)<=0:=by omega
    have h0p:(0:Int)<(xs.length:Int):=by omega
    have h0n:0<xs.length:=by omega
    have h0e:(0<xs.length)=True:=eq_true h0n
    have b5:(0:Int)<=(j:Int):=by omega
    have b6:(j:Int)<(xs.length:Int):=by omega
    by_cases hxy:x=y
    ·
     rw[if_pos ⟨h2,hxy⟩]at a0;have c3:(x==y)=true:=beq_iff_eq.mpr hxy;obtain⟨A2,hcut,a6,a7⟩:=XC (some ad) c xs j hj (by omega) HXC.out;have a8:=ak (a6 wr HX.out);have a9:=ak a7;have b0:=ak a0
     have HM:=ak (show((xs.drop 1).take (xs.length-2)).length<=g/\((xs.drop 1).take (xs.length-2)).length<=t.length by
      have:=HXT.out
      rw[List.length_take,List.length_drop];omega)
     clear a6 a7 a0 hxy hx hy h2 hk hjl;generalize(xs.drop 1).take (xs.length-2)=zs at hcut a8 a9 b0 HM
     go_wp2
     go_quiet (fail)
     go_wp2
     go_roundg g
     case measure=>omega
     case rel=>exact⟨zs,A2,c-1,HM.out.1,rfl,⟨by repeat(first|exact a8.out|(with_reducible refine Kd.Ao ?_ _))⟩,a9,⟨HM.out.2⟩,b0,⟨Xp⟩⟩
    ·
     rw[if_neg (fun e=>hxy e.2)]at a0;have c3:(x==y)=false:=beq_eq_false_iff_ne.mpr hxy;have HV:=ak a0;clear a0 hxy hx hy h2 hk hjl
     go_wp2
     go_quiet (fail)
     go_wp2_with (first|((with_reducible refine Ar (N:=27) rfl ?_);refine Kd.DS (Kd.int .i64) _ 3 ?hg (N:=27) ?hd (xs:=([]:List Int)) (inner:=[]) (ok:=fun _=>True) (okp:=fun _=>True) ?hr ?hp (fun _ hk=>hk) trivial (Below.refl _ _) (Nat.le_refl _) (by simp) ?_;(case hd=>rfl);(case hg=>rfl);(case hr=>first|(go_simp;done)|(go_simp;rfl));(case hp=>exact(Av.none _ _));intro vl wl hol hbl hg_ hnew_;clear hg_ hnew_;have HOL:=ak (Kd.BA hol (AA Xp));have HXL:=ak (Kd.AM (by repeat(first|exact HX.out|(with_reducible refine Kd.Ao ?_ _))) hbl);have HBL:=ak (AG Xp hbl);clear hbl hol)|((with_reducible refine Ak (b:= .append) (xs:= #[.tmp 27,.tmp 28]) rfl ?_);at_builtin;refine Kd.Cv (Kd.int .i64) (w0:=w) w.heap.size rfl (.tmp 27) (.tmp 28) 47 3 (.int .i64 0) 8 rfl Try.underlying47 BT rfl (by decide) (by omega) vl ([]:List Int) xs _ _ _ (fun _=>True) (fun _=>False) rfl rfl ?aO ?aR (fun _ _ h=>h) (fun _ h=>h.elim) ?aF ?aB ?aS ?aL ?_;(case aR=>exact HXL.out);(case aB=>exact HBL.out);(case aF=>exact(fun _ _=>trivial));(case aO=>exact HOL.out);(case aS=>exact AA HBL.out);(case aL=>have:=HTL.out;have:=HXT.out;rw[List.length_nil];omega);intro va wa hoa hba hga hata;rw[List.nil_append]at hoa;have HOA:=ak hoa;have HBA:=ak hba;clear hoa hba hga hata))
     go_ret
     exact⟨_,rfl,by rw[<-HV.out];exact HOA.out,HBA.out⟩
def Bc.l0:Nat->List Int->List Int->Int->Option Bool
 |0,_,_,_=>none
 |k+1,a,b,x=>if x<(a.length:Int)then((Bs.f a x).bind fun t=>(CZ.f k t b).bind fun s=>if s=true then some true else Bc.l0 k a b (wrap64 (x+1)))else some (decide (a.length=0/\b.length=0))
def Bc.f (k:Nat) (l0 l1:List Int):Option Bool:=(Bn.f k l0).bind fun p=>if p=true then((Bn.f k l1).bind fun q=>if q=true then((Em.f k l0).bind fun a=>(Em.f k l1).bind fun b=>Bc.l0 k a b 0)else some false)else some false
set_option maxHeartbeats 8000000 in
set_option maxRecDepth 100000 in
theorem Bc.calls (k:Nat) (A0:Option Addr) (c0:Nat) (l0:List Int) (A1:Option Addr) (c1:Nat) (l1:List Int) (r:Bool) (w:World) (a9:Kd.C (Kd.int .i64) w A0 l0.length l0) (b0:l0.length<=c0) (b1:Kd.C (Kd.int .i64) w A1 l1.length l1) (b2:l1.length<=c1) (h:Bc.f k l0 l1=some r):
 Calls Try.prog 49 #[.slice A0 l0.length c0,.slice A1 l1.length c1] w fun e w'=>e= .returned (.bool r)/\Below w.heap.size w w':=by
 have a1:=ak a9;have a2:=ak b0;have a5:=ak b1;have a6:=ak b2;obtain⟨p,b3,H⟩:=Option.bind_eq_some_iff.mp h;have P1:=ak b3;clear b3 h a9 b0 b1 b2
 cases p with
 |false=>
  rw[if_neg Bool.false_ne_true]at H;obtain rfl:=Option.some.inj H
  go_enter Try.func49,Try.ntmps49
  go_wp2_with fail
  go_at_call 93
  refine(Bn.calls k A0 c0 l0 false _ a1.out a2.out P1.out).mono ?_;rintro e w1 ⟨rfl,hd⟩
  go_wp2
  go_ret
  exact⟨rfl,hd.below⟩
 |true=>
  rw[if_pos rfl]at H;obtain⟨q,b4,H⟩:=Option.bind_eq_some_iff.mp H;have P2:=ak b4;clear b4
  cases q with
  |false=>
   rw[if_neg Bool.false_ne_true]at H;obtain rfl:=Option.some.inj H
   go_enter Try.func49,Try.ntmps49
   go_wp2_with fail
   go_at_call 93
   refine(Bn.calls k A0 c0 l0 true _ a1.out a2.out P1.out).mono ?_;rintro e w1 ⟨rfl,hd⟩;have HB:=ak hd.below
   go_wp2_with fail
   go_at_call 93
   refine(Bn.calls k A1 c1 l1 false _ (Kd.AM a5.out HB.out) a6.out P2.out).mono ?_;rintro e w2 ⟨rfl,hd⟩;have a0:=ak (AG HB.out hd.below)
   go_wp2
   go_ret
   exact⟨rfl,a0.out⟩
  |true=>
   rw[if_pos rfl]at H;obtain⟨a,b5,H⟩:=Option.bind_eq_some_iff.mp H;obtain⟨b,b6,H⟩:=Option.bind_eq_some_iff.mp H;have P3:=ak b5;have P4:=ak b6;have HF:=ak H;clear b5 b6 H
   go_enter Try.func49,Try.ntmps49
   go_wp2_with fail
   go_at_call 93
   refine(Bn.calls k A0 c0 l0 true _ a1.out a2.out P1.out).mono ?_;rintro e w1 ⟨rfl,hd⟩;have HB:=ak hd.below
   go_wp2_with fail
   go_at_call 93
   refine(Bn.calls k A1 c1 l1 true _ (Kd.AM a5.out HB.out) a6.out P2.out).mono ?_;rintro e w2 ⟨rfl,hd⟩;have a0:=ak (AG HB.out hd.below);clear hd
   go_wp2_with fail
   go_at_call 94
   refine(Em.calls k A0 c0 l0 a _ (Kd.AM a1.out a0.out) a2.out P3.out).mono ?_;rintro e w3 ⟨va,rfl,hs,hb⟩;obtain⟨Da,ca,rfl⟩:=Kd.Al hs;have HDa:=ak (Kd.AN hs);have a7:=ak (AG a0.out hb);clear hs hb HB a0
   go_wp2_with fail
   go_at_call 94
   refine(Em.calls k A1 c1 l1 b _ (Kd.AM a5.out a7.out) a6.out P4.out).mono ?_;rintro e w4 ⟨vb,rfl,hs,hb⟩;obtain⟨Db,cb,rfl⟩:=Kd.Al hs;have HDb:=ak (Kd.AN hs);have HCa:=ak (Kd.AM HDa.out.2.2 hb);have a3:=ak (AG a7.out hb);clear hs hb a7
   go_wp2
   go_loopg [7] k (fun gk v7 w'=> ∃x:Int,v7= .int .i64 x/\AJ (Bc.l0 gk a b x=some r)/\AJ (gk<=k)/\AJ (Below w4.heap.size w4 w'))
   case atStart=>exact⟨0,rfl,HF,⟨Nat.le_refl _⟩,⟨Below.refl _ _⟩⟩
   case round=>
    clear HF;obtain⟨x,rfl,HF,HG,HB⟩:=hrel
    cases gk with
    |zero=>exact absurd HF.out (by simp[Bc.l0])
    |succ g=>
     have H:=HF.out;clear HF;unfold Bc.l0 at H
     by_cases c:x<(a.length:Int)
     ·
      rw[if_pos c]at H;have c5:=decide_eq_true c;obtain⟨t,b7,H⟩:=Option.bind_eq_some_iff.mp H;obtain⟨s,b8,H⟩:=Option.bind_eq_some_iff.mp H;have Q1:=ak b7;have Q2:=ak b8;clear b7 b8 c
      go_wp2_with fail
      go_at_call 69
      refine(Bs.calls Da ca a x t _ (Kd.AM HCa.out HB.out) HDa.out.2.1 Q1.out).mono ?_;rintro e w5 ⟨vt,rfl,hs,hb⟩;obtain⟨Dt,ct,rfl⟩:=Kd.Al hs;have HDt:=ak (Kd.AN hs);have a4:=ak (AG HB.out hb);clear hs hb
      cases s with
      |true=>
       rw[if_pos rfl]at H;obtain rfl:=Option.some.inj H
       go_wp2_with fail
       go_at_call 95
       refine(CZ.calls g Dt ct t Db cb b true _ HDt.out.2.2 HDt.out.2.1 (Kd.AM HDb.out.2.2 a4.out) HDb.out.2.1 Q2.out).mono ?_;rintro e w6 ⟨rfl,hd⟩;have a8:=ak (AG a4.out hd.below);clear hd
       go_wp2
       go_ret
       exact⟨rfl,AG a3.out a8.out⟩
      |false=>
       rw[if_neg Bool.false_ne_true]at H;have HF:=ak H;clear H
       go_wp2_with fail
       go_at_call 95
       refine(CZ.calls g Dt ct t Db cb b false _ HDt.out.2.2 HDt.out.2.1 (Kd.AM HDb.out.2.2 a4.out) HDb.out.2.1 Q2.out).mono ?_;rintro e w6 ⟨rfl,hd⟩;have a8:=ak (AG a4.out hd.below);clear hd
       go_wp2
       go_roundg g
       case measure=>omega
       case rel=>exact⟨wrap64 (x+1),by first|rfl|(simp;done)|(simp[*];done),HF,⟨by have:=HG.out;omega⟩,a8⟩
     ·
      rw[if_neg c]at H;have c5:=decide_eq_false c;clear c
      by_cases ha:a.length=0
      ·
       have c6:((a.length:Int)==0)=true:=by rw[beq_iff_eq];omega
       by_cases hb:b.length=0
       ·
        have c7:((b.length:Int)==0)=true:=by rw[beq_iff_eq];omega
        have e1:decide (a.length=0/\b.length=0)=true:=decide_eq_true ⟨ha,hb⟩;rw[e1]at H;obtain rfl:=Option.some.inj H;clear ha hb e1 H
        go_wp2
        go_ret
        exact⟨rfl,AG a3.out HB.out⟩
       ·
        have c7:((b.length:Int)==0)=false:=by rw[beq_eq_false_iff_ne];omega
        have e1:decide (a.length=0/\b.length=0)=false:=decide_eq_false fun e=>hb e.2
        rw[e1]at H;obtain rfl:=Option.some.inj H;clear ha hb e1 H
        go_wp2
        go_ret
        exact⟨rfl,AG a3.out HB.out⟩
      ·
       have c6:((a.length:Int)==0)=false:=by rw[beq_eq_false_iff_ne];omega
       have e1:decide (a.length=0/\b.length=0)=false:=decide_eq_false fun e=>ha e.1
       rw[e1]at H;obtain rfl:=Option.some.inj H;clear ha e1 H
       go_wp2
       go_ret
       exact⟨rfl,AG a3.out HB.out⟩
end Go.Proofs.Ytlnddmkkgjlmbaa.QFnMoves
