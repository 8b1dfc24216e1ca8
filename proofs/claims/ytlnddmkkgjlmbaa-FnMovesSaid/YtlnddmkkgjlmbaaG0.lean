/- Parts of this claim's walks and of its plain proof. No conditions of their own. -/
import Derived.Test.YtlnddmkkgjlmbaaZil
namespace Go.Proofs.Ytlnddmkkgjlmbaa.QFnMoves
open Go.Proofs.Ytlnddmkkgjlmbaa.Zip Go.RowKit Go.Proofs.YtlnddmkkgjlmbaaW.PrintWords Go.Proofs.YtlnddmkkgjlmbaaW.PrintLast Go.Proofs.YtlnddmkkgjlmbaaW.PrintMore
attribute [local go_sem] CD CF CW CV Bl Bk CE CG
set_option linter.unusedVariables false
set_option linter.unusedSimpArgs false
set_option maxHeartbeats 8000000
set_option maxRecDepth 100000
def BM.f (a0 a1 a2:Int):Option (Bool):=if a0>=a1 then(some (decide (a0<=a2)))else(some false)
theorem BM.calls (a0 a1 a2:Int) (r:Bool) (w:World) (h:BM.f a0 a1 a2=some r):
 Calls Try.prog 53 #[.int .i64 a0,.int .i64 a1,.int .i64 a2] w fun e w'=>e= .returned (.bool r)/\Cj w w':=by
 have H:=h;clear h;unfold BM.f at H
 by_cases c4:a0>=a1
 ·
  rw[if_pos c4]at H;have a3:=decide_eq_true c4;clear c4;obtain rfl:=Option.some.inj H
  go_enter Try.func53,Try.ntmps53
  go_wp2
  go_ret
  exact⟨by first|rfl|(simp;done)|(simp[*];done),z3⟩
 ·
  rw[if_neg c4]at H;have a3:=decide_eq_false c4;clear c4;obtain rfl:=Option.some.inj H
  go_enter Try.func53,Try.ntmps53
  go_wp2
  go_ret
  exact⟨by first|rfl|(simp;done)|(simp[*];done),z3⟩
def EC.f (a0:Int):Option (Bool):=(BM.f a0 1 8).bind fun t101=>(if t101=true then(some true)else((BM.f a0 (-8) (-1)).bind fun t102=>(some t102)))
theorem EC.calls (a0:Int) (r:Bool) (w:World) (h:EC.f a0=some r):
 Calls Try.prog 103 #[.int .i64 a0] w fun e w'=>e= .returned (.bool r)/\Cj w w':=by
 have H:=h;clear h;unfold EC.f at H;replace H:=gb H;obtain⟨t101,A2,H⟩:=H
 by_cases c3:t101=true
 ·
  subst c3;rw[if_pos rfl]at H;obtain rfl:=Option.some.inj H
  go_enter Try.func103,Try.ntmps103
  go_wp2_with (first|(refine zl (some 4) Try.func53 #[.int .i64 a0,.int .i64 1,.int .i64 8] ?_;(with_reducible refine(BM.calls a0 1 8 true _ A2.out).mono ?_);rintro e w' ⟨rfl,⟨nd,rfl⟩⟩;refine⟨_,rfl,?_⟩))
  go_ret
  exact⟨by first|rfl|(simp;done)|(simp[*];done),z3⟩
 ·
  replace c3:=Bool.eq_false_iff.mpr c3;subst c3;rw[if_neg (show¬(false=true) by decide)]at H;replace H:=gb H;obtain⟨t102,A4,H⟩:=H;obtain rfl:=Option.some.inj H
  go_enter Try.func103,Try.ntmps103
  go_wp2_with (first|(refine zl (some 4) Try.func53 #[.int .i64 a0,.int .i64 1,.int .i64 8] ?_;(with_reducible refine(BM.calls a0 1 8 false _ A2.out).mono ?_);rintro e w' ⟨rfl,⟨nd,rfl⟩⟩;refine⟨_,rfl,?_⟩)|(go_at_call 53;(with_reducible refine(BM.calls a0 (-8) (-1) t102 _ A4.out).mono ?_);rintro e w' ⟨rfl,⟨nd,rfl⟩⟩))
  go_ret
  exact⟨by first|rfl|(simp;done)|(simp[*];done),z3⟩
def Bn.l0:Nat->List Int->Int->Option (Bool)
 |0,_,_=>none
 |k+1,x0,x3=>if x3<(x0.length:Int)then(if 0<=x3 then((EC.f (rd x0 x3)).bind fun t104=>(if t104=true then(Bn.l0 k x0 (wrap64 (x3+1)))else(some false)))else(none))else(some (decide ((x0.length:Int)<=24)))
def Bn.f (k:Nat) (l0:List Int):Option (Bool):=Bn.l0 k l0 0
theorem Bn.calls (k:Nat) (A0:Option Addr) (c0:Nat) (l0:List Int) (r:Bool) (w:World) (a4:Kd.C (Kd.int .i64) w A0 l0.length l0) (a5:l0.length<=c0) (h:Bn.f k l0=some r):
 Calls Try.prog 93 #[.slice A0 l0.length c0] w fun e w'=>e= .returned (.bool r)/\Cj w w':=by
 have a6:=ak a4;have b2:=ak a5;clear a4 a5;have H:=h;clear h;unfold Bn.f at H;have H':=ak H;clear H
 go_enter Try.func93,Try.ntmps93
 go_wp2
 go_loopg [3] k (fun kq v3 w'=> ∃(a0:Int),v3= .int .i64 a0/\AJ (Bn.l0 kq l0 a0=some r)/\AJ (kq<=k)/\Cj w w')
 case atStart=>exact⟨(0),zd,H',⟨Nat.le_refl _⟩,z3⟩
 case round=>
  clear H';obtain⟨a0,rfl,HA,a7,⟨m1,rfl⟩⟩:=hrel
  cases gk with
  |zero=>exact absurd HA.out (by simp[Bn.l0])
  |succ k1=>
   have H:=HA.out;clear HA;simp only[Bn.l0]at H
   by_cases c2:a0<(l0.length:Int)
   ·
    rw[if_pos c2]at H;have a8:=decide_eq_true c2;clear c2;replace H:=gi H;obtain⟨c3,H⟩:=H;have b1:=decide_eq_true c3;clear c3;replace H:=gb H;obtain⟨t104,A4,H⟩:=H
    by_cases c5:t104=true
    ·
     subst c5;rw[if_pos rfl]at H;have H':=ak H;clear H;obtain⟨a3,a1,a2,a9,b0⟩:=ai a6.out a0;cases a1
     go_wp2_with (first|(refine zl (some 14) Try.func103 #[.int .i64 (rd l0 a0)] ?_;(with_reducible refine(EC.calls (rd l0 a0) true _ A4.out).mono ?_);rintro e w' ⟨rfl,⟨nd,rfl⟩⟩;refine⟨_,rfl,?_⟩))
     go_roundg k1
     case measure=>have:=a7.out;omega
     case rel=>exact⟨(wrap64 (a0+1)),zd,H',⟨by have:=a7.out;omega⟩,z3⟩
    ·
     replace c5:=Bool.eq_false_iff.mpr c5;subst c5;rw[if_neg (show¬(false=true) by decide)]at H;obtain rfl:=Option.some.inj H;obtain⟨a3,a1,a2,a9,b0⟩:=ai a6.out a0;cases a1
     go_wp2_with (first|(refine zl (some 14) Try.func103 #[.int .i64 (rd l0 a0)] ?_;(with_reducible refine(EC.calls (rd l0 a0) false _ A4.out).mono ?_);rintro e w' ⟨rfl,⟨nd,rfl⟩⟩;refine⟨_,rfl,?_⟩))
     go_ret
     exact⟨by first|rfl|(simp;done)|(simp[*];done),z3⟩
   ·
    rw[if_neg c2]at H;have a8:=decide_eq_false c2;clear c2;obtain rfl:=Option.some.inj H
    go_wp2
    go_ret
    exact⟨by first|rfl|(simp;done)|(simp[*];done),z3⟩
def Fb.f (a0 a1:Int):Option (Int):=if a0>a1 then(some a0)else(some a1)
theorem Fb.calls (a0 a1 r:Int) (w:World) (h:Fb.f a0 a1=some r):
 Calls Try.prog 104 #[.int .i64 a0,.int .i64 a1] w fun e w'=>e= .returned (.int .i64 r)/\Cj w w':=by
 have H:=h;clear h;unfold Fb.f at H
 by_cases c3:a0>a1
 ·
  rw[if_pos c3]at H;have a2:=decide_eq_true c3;clear c3;obtain rfl:=Option.some.inj H
  go_enter Try.func104,Try.ntmps104
  go_wp2
  go_ret
  exact⟨by first|rfl|(simp;done)|(simp[*];done),z3⟩
 ·
  rw[if_neg c3]at H;have a2:=decide_eq_false c3;clear c3;obtain rfl:=Option.some.inj H
  go_enter Try.func104,Try.ntmps104
  go_wp2
  go_ret
  exact⟨by first|rfl|(simp;done)|(simp[*];done),z3⟩
def BP.f (a0:Int):Option (Int):=(Fb.f a0 (wrap64 (-a0))).bind fun t105=>(some t105)
theorem BP.calls (a0 r:Int) (w:World) (h:BP.f a0=some r):
 Calls Try.prog 99 #[.int .i64 a0] w fun e w'=>e= .returned (.int .i64 r)/\Cj w w':=by
 have H:=h;clear h;unfold BP.f at H;replace H:=gb H;obtain⟨t105,A2,H⟩:=H;obtain rfl:=Option.some.inj H
 go_enter Try.func99,Try.ntmps99
 go_wp2_with (first|(refine zl (some 6) Try.func104 #[.int .i64 a0,.int .i64 (wrap64 (-a0))] ?_;(with_reducible refine(Fb.calls a0 (wrap64 (-a0)) t105 _ A2.out).mono ?_);rintro e w' ⟨rfl,⟨nd,rfl⟩⟩;refine⟨_,rfl,?_⟩))
 go_ret
 exact⟨by first|rfl|(simp;done)|(simp[*];done),z3⟩
mutual
def Au.l0:Nat->List (List Int)->List Int->Int->Option (List Int)
 |0,_,_,_=>none
 |k+1,x0,x3,x4=>if x4<(x0.length:Int)then(Au.l1 k x0 x3 x4 0)else(some x3)
def Au.l1:Nat->List (List Int)->List Int->Int->Int->Option (List Int)
 |0,_,_,_,_=>none
 |k+1,x0,x3,x4,x5=>if 0<=x4 then(if x4<(x0.length:Int)then(if x5<((AD x0 x4).length:Int)then(if 0<=x5 then((BP.f (rd (AD x0 x4) x5)).bind fun t112=>((BP.f (rd (AD x0 x4) x5)).bind fun t115=>(if 0<=t115 then(if t115<(x3.length:Int)then(if 0<=t112 then(if t112<(x3.length:Int)then(Au.l1 k x0 (x3.set (t112:Int).toNat (wrap64 ((rd x3 t115)+1))) x4 (wrap64 (x5+1)))else(none))else(none))else(none))else(none))))else(none))else(Au.l0 k x0 x3 (wrap64 (x4+1))))else(none))else(none)
end
def Au.f (k:Nat) (l0:List (List Int)):Option (List Int):=if 9<=35184372088832 then(Au.l0 k l0 (List.replicate 9 0) 0)else(none)
def Au.T8:Bool×List (List Nat×List Nat):=(true,[([],[]),([],[]),([],[]),([1,2],[1,2]),([3],[3]),([],[]),([4,5],[4,5]),([6],[6]),([7],[7]),([],[]),([],[]),([],[]),([10,11],[10,11]),([12],[12]),([],[]),([13,14],[13,14]),([15],[15]),([16,8],[16]),([9,17],[9,17]),([18],[18]),([19],[19]),([0,8,0,1,2,3,4,5,6,7,8,9,10,11,12,13,14,15,16,17,18,19,20],[0,8]),([21,20,17,0,1,2,3,4,5,6,7,8,9,10,11,12,13,14,15,16,17,18,19,20],[20,21])])
def Au.B8:List Nat:=[0,0,0,6,14,0,62,126,254,0,0,0,3072,7168,0,31744,64512,130558,262142,524286,1048574,2097151,4194303]
theorem Au.Sk:En .any (opsOf Try.f97 8)=Au.T8:=by kernel_rfl
theorem Au.Oi:DZ Au.T8.2 Au.B8=true:=by kernel_rfl
theorem Au.calls (k:Nat) (A0:Option Addr) (c0:Nat) (l0:List (List Int)) (r:List Int) (w:World) (h6:Kd.C (Kd.slice 3 (Kd.int .i64)) w A0 l0.length l0) (h7:l0.length<=c0) (h:Au.f k l0=some r):
 Calls Try.prog 97 #[.slice A0 l0.length c0] w fun e w'=> ∃h8:Value,e= .returned (h8)/\Kd.R (Kd.int .i64) 3 w' w.heap.size (fun _=>True) h8 r/\Below w.heap.size w w':=by
 have e7:=ak h6;have m8:=ak h7;clear h6 h7;have HB:=ak (Below.refl w.heap.size w);have H:=h;clear h;unfold Au.f at H;replace H:=gi H;obtain⟨c2,H⟩:=H;have f3:=eq_true c2;have f4:=decide_eq_true c2;clear c2;obtain⟨f5,d0⟩: ∃y_:List Int,y_=(List.replicate 9 0):=⟨_,rfl⟩;replace H:(Au.l0 k l0 f5 0)=some r:=zy d0 H;have e8:=ak d0;clear d0;have H':=ak H;clear H
 go_enter Try.func97,Try.ntmps97
 go_wp2_with (first|((with_reducible refine Ar (N:=6) rfl ?_);refine Kd.TE (Kd.int .i64) _ 3 rfl (N:=6) rfl 47 _ _ rfl 9 rfl rfl Try.underlying47 (.int .i64 0) 8 BT rfl (by decide) (by omega) 0 (ok:=fun _=>True) (okp:=fun _=>True) rfl (fun _ hk=>hk) trivial (by omega) (by omega) (Below.refl _ _) (Nat.le_refl _) ?_;intro f6 w3 d3 hb hg_ hnew_;clear hg_ hnew_;(first|rw[<-e8.out]at d3|(simp only[Int.reduceToNat]at d3;rw[<-e8.out]at d3));have g7:=ak (Kd.BA d3 (AA z0));replace HB:=ak (AG z0 hb);clear hb d3))
 go_loopg [4] k (fun kq v4 w'=> ∃(d1:List Int) (a0:Int),v4= .int .i64 a0/\AJ (Au.l0 kq l0 d1 a0=some r)/\AJ (kq<=k)/\AJ (Kd.R (Kd.int .i64) 3 w' w.heap.size (fun _=>True) f6 d1)/\AJ (Below w.heap.size w w'))
 case atStart=>exact⟨(f5),(0),zd,H',⟨Nat.le_refl _⟩,⟨zr g7.out⟩,⟨z0⟩⟩
 case round=>
  clear H';obtain⟨d1,a0,rfl,HA,e9,HO_3,HB⟩:=hrel
  cases gk with
  |zero=>exact absurd HA.out (by simp[Au.l0])
  |succ k1=>
   have H:=HA.out;clear HA;simp only[Au.l0]at H
   by_cases c5:a0<(l0.length:Int)
   ·
    rw[if_pos c5]at H;have f7:=decide_eq_true c5;clear c5;have H':=ak H;clear H
    go_wp2
    go_loopg [5] k1 (fun kq v5 w'=> ∃(a6:List Int) (a1:Int),v5= .int .i64 a1/\AJ (Au.l1 kq l0 a6 a0 a1=some r)/\AJ (kq<=k1)/\AJ (Kd.R (Kd.int .i64) 3 w' w.heap.size (fun _=>True) f6 a6)/\AJ (Below w.heap.size w w'))
    case atStart=>exact⟨(d1),(0),zd,H',⟨Nat.le_refl _⟩,⟨zr HO_3.out⟩,⟨z0⟩⟩
    case round=>
     clear H';obtain⟨a6,a1,rfl,HA,f0,HO_3,HB⟩:=hrel
     cases gk with
     |zero=>exact absurd HA.out (by simp[Au.l1])
     |succ k2=>
      have H:=HA.out;clear HA;simp only[Au.l1]at H;replace H:=gi H;obtain⟨c6,H⟩:=H;have m3:=decide_eq_true c6;clear c6;replace H:=gi H;obtain⟨c7,H⟩:=H;have m4:=decide_eq_true c7;clear c7
      by_cases c8:a1<((AD l0 a0).length:Int)
      ·
       rw[if_pos c8]at H;have i5:=decide_eq_true c8;clear c8;replace H:=gi H;obtain⟨c9,H⟩:=H;have m5:=decide_eq_true c9;clear c9;replace H:=gb H;obtain⟨t112,k7,H⟩:=H;replace H:=gb H;obtain⟨t115,k8,H⟩:=H;replace H:=gi H;obtain⟨h9,H⟩:=H;have l9:=decide_eq_true h9;clear h9;replace H:=gi H;obtain⟨i0,H⟩:=H;have m0:=decide_eq_true i0;clear i0;replace H:=gi H;obtain⟨i1,H⟩:=H;have m1:=decide_eq_true i1;clear i1;replace H:=gi H;obtain⟨i2,H⟩:=H;have m2:=decide_eq_true i2;clear i2;obtain⟨f8,d2⟩: ∃y_:List Int,y_=(a6.set (t112:Int).toNat (wrap64 ((rd a6 t115)+1))):=⟨_,rfl⟩;replace H:(Au.l1 k2 l0 f8 a0 (wrap64 (a1+1)))=some r:=zy d2 H;have g8:=ak d2;clear d2;have H':=ak H;clear H;obtain⟨b3,f9,g0,d5,a7,f1,f2,i6,i7⟩:=al e7.out a0;cases d5;replace a7:=zx HB a7
       try go_wp2
       have i3:=ak (Kd.BI HO_3.out);have i4:=ak (Ab HB.out);clear HO_3 HB;have HO_3:=i3;have HB:=i4;clear i3 i4;have d6:0<=(a0:Int):=za;have d7:a0<(l0.length:Int):=za;obtain⟨g9,k9,d4,i9,a8,b5,b6⟩:=Cl e7.out a0 d6 d7;have a2:=a8;obtain rfl:b3=g9:=(by injection i9);replace a8:=zx HB a8;have b7:=ak b6;have k5:=ak b5;clear b6 b5;replace d6:=eq_true d6;replace d7:=eq_true d7;have d8:0<=(a1:Int):=za;have d9:a1<((AD l0 a0).length:Int):=za;obtain⟨b4,j5,b1⟩:=Kd.Dk b7.out a1 d8 d9;have a3:=b1;cases j5;replace b1:=zx HB b1;replace d8:=eq_true d8;replace d9:=eq_true d9;have e0:0<=(a0:Int):=za;have e1:a0<(l0.length:Int):=za;obtain⟨h3,l5,l6,j6,a9,b8,b9⟩:=Cl e7.out a0 e0 e1;have a4:=a9;obtain rfl:b3=h3:=(by injection j6);replace a9:=zx HB a9;have c1:=ak b9;have k6:=ak b8;clear b9 b8;replace e0:=eq_true e0;replace e1:=eq_true e1;have ea_:=Option.some.inj (a8.symm.trans a9)
       injection ea_ with ea_ en_ ec_
       subst ea_;subst ec_;clear en_;have e2:0<=(a1:Int):=za;have e3:a1<((AD l0 a0).length:Int):=za;obtain⟨h4,j7,b2⟩:=Kd.Dk c1.out a1 e2 e3;have a5:=b2;obtain rfl:b4=h4:=(by injection j7);replace b2:=zx HB b2;replace e2:=eq_true e2;replace e3:=eq_true e3;obtain⟨g1,m6,g2,g3,j8,m7,g4⟩:=Kd.Hj HO_3.out (by have hj_:0<=(t115:Int):=za;have hk_:t115<((a6.length:Int):Int):=za;omega)
       (first|cases g2|(injection g2 with ea_ en_ ec_;(first|subst ea_|(injection ea_ with ea_;subst ea_));subst ec_;clear en_))
       have j9:=ak g3;have k0:=ak g4;clear g3 j8 g4;have e4:0<=(t115:Int):=za;have e5:t115<(a6.length:Int):=za;obtain⟨h5,k3,b0⟩:=Kd.Dk (Kd.AN HO_3.out).2.2 t115 e4 e5;obtain rfl:(⟨g1,0,none⟩:Addr)=h5:=(by injection k3)
       (first|simp only[add_plain]at b0|simp only[SE]at b0|simp only[Addr.add,Nat.zero_add]at b0|skip)
       replace e4:=eq_true e4;replace e5:=eq_true e5;refine Dp (n:=23) (S:=fun w'=>w'.cell? (b3.add (a0).toNat)=some (.slice (some b4) (AD l0 a0).length d4)/\w'.cell? (b4.add (a1).toNat)=some (.int .i64 (rd (AD l0 a0) a1))/\w'.cell? (b3.add (a0).toNat)=some (.slice (some b4) (AD l0 a0).length d4)/\w'.cell? (b4.add (a1).toNat)=some (.int .i64 (rd (AD l0 a0) a1))/\w'.cell? ⟨g1,(t115).toNat,none⟩=some (.int .i64 (rd a6 t115))) (ds:=[22]) #[false,false,false,false,false,false,false,false,false,false,false,false,false,false,false,false,false,false,false,false,false,false,false] (by kernel_rfl) rfl rfl ⟨((HB.out.cell (World.block_lt_of_cell? w _ a2)).trans a2),((HB.out.cell (World.block_lt_of_cell? w _ a3)).trans a3),((HB.out.cell (World.block_lt_of_cell? w _ a4)).trans a4),((HB.out.cell (World.block_lt_of_cell? w _ a5)).trans a5),b0⟩ (fun hHeld=>?_);refine CY Au.Sk Au.Oi (fun HT_ HW_=>?_);generalize wr.drew=m9 at HO_3 HB k0 b7 c1 a8 b1 a9 b2 b0 hHeld⊢;refine pz 0 22 ?_;refine pz 1 23 ?_;refine pz 2 24 ?_;refine pz 3 25 ?_;refine pz 5 27 ?_;refine pz 9 31 ?_;refine pz 10 32 ?_;refine pz 11 33 ?_;refine pz 12 34 ?_;refine pz 14 36 ?_;refine UC 4 26 hHeld ?_;refine pz 6 28 ?_;refine UC 7 29 hHeld ?_;refine UC 13 35 hHeld ?_;refine pz 15 37 ?_;refine UC 16 38 hHeld ?_;refine oz 8 30 (fun K hK=>?_);refine gz Try.func99 #[.int .i64 (rd (AD l0 a0) a1)] ?_
       with_reducible refine(BP.calls (rd (AD l0 a0) a1) t112 _ k7.out).mono ?_
       rintro e w' ⟨rfl,⟨nd,rfl⟩⟩;refine⟨_,rfl,?_⟩;refine hK.out _ _ ⟨((HB.out.cell (World.block_lt_of_cell? w _ a2)).trans a2),((HB.out.cell (World.block_lt_of_cell? w _ a3)).trans a3),((HB.out.cell (World.block_lt_of_cell? w _ a4)).trans a4),((HB.out.cell (World.block_lt_of_cell? w _ a5)).trans a5),hHeld.2.2.2.2⟩ (fun hHeld=>?_);clear hK K;refine nz 30 ?_;refine oz 17 39 (fun K hK=>?_);refine gz Try.func99 #[.int .i64 (rd (AD l0 a0) a1)] ?_
       with_reducible refine(BP.calls (rd (AD l0 a0) a1) t115 _ k8.out).mono ?_
       rintro e w' ⟨rfl,⟨nd,rfl⟩⟩;refine⟨_,rfl,?_⟩;have g5:0<=(t112:Int):=za;have g6:(t112:Int)<((a6.length:Int):Int):=za;obtain⟨l7,l8⟩:=Kd.EX 0 HO_3.out (t112:Int) g5 g6;replace g5:=eq_true g5;replace g6:=eq_true g6;have e6:=Kd.WS HO_3.out (t112:Int) (wrap64 ((rd a6 t115)+1));rw[<-g8.out]at e6;have k4:=ak e6;clear e6;refine hK.out _ _ ⟨((HB.out.cell (World.block_lt_of_cell? w _ a2)).trans a2),((HB.out.cell (World.block_lt_of_cell? w _ a3)).trans a3),((HB.out.cell (World.block_lt_of_cell? w _ a4)).trans a4),((HB.out.cell (World.block_lt_of_cell? w _ a5)).trans a5),hHeld.2.2.2.2⟩ (fun hHeld=>?_);clear hK K;refine nz 39 ?_;refine pz 18 40 ?_;refine UC 19 41 hHeld ?_;refine pz 20 42 ?_;refine pz 21 43 ?_;refine KC (i:=22) (N:=none) #[true,true,true,true,true,true,true,true,true,true,true,true,true,true,true,true,true,true,true,true,true,true,true] rfl rfl (Hc HT_.out (by kernel_rfl)) (by decide) (fun K hK=>?_);refine QU (w1:=?_) (by rfl) rfl ?_ ?_
       rotate_left
       ·
        go_simp
        rfl
       refine hK.out _ _ ?_;clear hK K;refine Ea (DI HT_.out (by kernel_rfl)) ?_
       try go_wp2
       go_roundg k2
       case measure=>have:=e9.out;have:=f0.out;omega
       case rel=>exact⟨(f8),(wrap64 (a1+1)),zd,H',⟨by have:=e9.out;have:=f0.out;omega⟩,⟨zr k4.out⟩,⟨by repeat(first|(with_reducible first|exact HB.out|apply Aq|apply AQ|apply Ab|refine BC ?_ j9.out)|exact HB.out)⟩⟩
      ·
       rw[if_neg c8]at H;have i5:=decide_eq_false c8;clear c8;have H':=ak H;clear H;obtain⟨b3,f9,g0,d5,a7,f1,f2,i6,i7⟩:=al e7.out a0;cases d5;replace a7:=zx HB a7
       go_wp2
       go_roundg k2
       case measure=>have:=e9.out;have:=f0.out;omega
       case rel=>exact⟨(a6),(wrap64 (a0+1)),zd,H',⟨by have:=e9.out;have:=f0.out;omega⟩,⟨zr HO_3.out⟩,⟨z0⟩⟩
   ·
    rw[if_neg c5]at H;have f7:=decide_eq_false c5;clear c5;obtain rfl:=Option.some.inj H
    go_wp2
    go_ret
    exact⟨_,ze,zr HO_3.out,z0⟩
mutual
def AL.l0:Nat->List (List Int)->Int->Int->Option (Bool)
 |0,_,_,_=>none
 |k+1,x0,x3,x4=>if x4<(x0.length:Int)then(if 0<=x4 then(if((AD x0 x4).length:Int)=0 then(some false)else((Bn.f k (AD x0 x4)).bind fun t120=>(if t120=true then(AL.l0 k x0 (wrap64 (x3+((AD x0 x4).length:Int))) (wrap64 (x4+1)))else(some false))))else(none))else((BM.f (x0.length:Int) 1 4).bind fun t122=>(if t122=true then(AL.j1 k x0 (decide (x3>20)))else(AL.j1 k x0 true)))
def AL.j1:Nat->List (List Int)->Bool->Option (Bool)
 |0,_,_=>none
 |k+1,x0,a0=>if a0=true then(some false)else((Au.f k x0).bind fun t123=>(AL.l1 k t123 0))
def AL.l1:Nat->List Int->Int->Option (Bool)
 |0,_,_=>none
 |k+1,x5,x6=>if x6<(x5.length:Int)then(if 0<=x6 then(if(rd x5 x6)>2 then(some false)else(AL.l1 k x5 (wrap64 (x6+1))))else(none))else(some true)
end
def AL.f (k:Nat) (l0:List (List Int)):Option (Bool):=AL.l0 k l0 0 0
theorem AL.calls (k:Nat) (A0:Option Addr) (c0:Nat) (l0:List (List Int)) (r:Bool) (w:World) (f5:Kd.C (Kd.slice 3 (Kd.int .i64)) w A0 l0.length l0) (f6:l0.length<=c0) (h:AL.f k l0=some r):
 Calls Try.prog 52 #[.slice A0 l0.length c0] w fun e w'=>e= .returned (.bool r)/\Below w.heap.size w w':=by
 have a9:=ak f5;have g9:=ak f6;clear f5 f6;have HB:=ak (Below.refl w.heap.size w);have H:=h;clear h;unfold AL.f at H;have H':=ak H;clear H
 go_enter Try.func52,Try.ntmps52
 go_wp2
 go_loopg [3,4] k (fun kq v3 v4 w'=> ∃(b0:Int) (a1:Int),v3= .int .i64 b0/\v4= .int .i64 a1/\AJ (AL.l0 kq l0 b0 a1=some r)/\AJ (kq<=k)/\AJ (Below w.heap.size w w'))
 case atStart=>exact⟨(0),(0),zd,zd,H',⟨Nat.le_refl _⟩,⟨z0⟩⟩
 case round=>
  clear H';obtain⟨b0,a1,rfl,rfl,HA,b4,HB⟩:=hrel
  cases gk with
  |zero=>exact absurd HA.out (by simp[AL.l0])
  |succ k1=>
   have H:=HA.out;clear HA;simp only[AL.l0]at H
   by_cases c2:a1<(l0.length:Int)
   ·
    rw[if_pos c2]at H;have d6:=decide_eq_true c2;clear c2;replace H:=gi H;obtain⟨c3,H⟩:=H;have e4:=decide_eq_true c3;clear c3
    by_cases c4:((AD l0 a1).length:Int)=0
    ·
     rw[if_pos c4]at H;have d7:(((AD l0 a1).length:Int)==0)=true:=beq_iff_eq.mpr c4;have d8:(((AD l0 a1).length:Int) != 0)=false:=bne_eq_false_iff_eq.mpr c4;clear c4;obtain rfl:=Option.some.inj H;obtain⟨a5,d4,d5,b1,a0,b5,b6,d1,d2⟩:=al a9.out a1;cases b1;replace a0:=zx HB a0
     go_wp2
     go_ret
     exact⟨ze,z0⟩
    ·
     rw[if_neg c4]at H;have d7:(((AD l0 a1).length:Int)==0)=false:=beq_eq_false_iff_ne.mpr c4;have d8:(((AD l0 a1).length:Int) != 0)=true:=bne_iff_ne.mpr c4
     have e5: ¬((AD l0 a1)=[]):=fun h_=>c4 (by rw[h_];rfl)
     replace H:=gb H;obtain⟨t120,A5,H⟩:=H
     by_cases c6:t120=true
     ·
      subst c6;rw[if_pos rfl]at H;have H':=ak H;clear H;obtain⟨a5,d4,d5,b1,a0,b5,b6,d1,d2⟩:=al a9.out a1;cases b1;replace a0:=zx HB a0;obtain⟨d3,e6,e7,d9,a2,a6,a7,e0,e1⟩:=al a9.out a1;obtain rfl:a5=d3:=(by injection d9);replace a2:=zx HB a2;have ea_:=Option.some.inj (a0.symm.trans a2)
      injection ea_ with ea_ en_ ec_
      subst ea_;subst ec_;clear en_
      go_wp2_with (first|(go_at_call 93;(with_reducible refine(Bn.calls k1 _ _ (AD l0 a1) true _ ?side1 ?side2 A5.out).mono ?_);(case side1=>exact zc (Kd.AM a7.out HB.out));(case side2=>exact a6.out);rintro e w' ⟨rfl,⟨nd,rfl⟩⟩;have b2:0<=(a1:Int):=za;have b3:a1<(l0.length:Int):=za;obtain⟨f0,h3,h4,g0,a3,b7,b8⟩:=Cl a9.out a1 b2 b3;obtain rfl:a5=f0:=(by injection g0);replace a3:=(HB.out.cell (World.block_lt_of_cell? w _ a3)).trans a3;have g7:=ak b8;have g8:=ak b7;clear b8 b7;replace b2:=eq_true b2;replace b3:=eq_true b3;have ea_:=Option.some.inj (a0.symm.trans a3);injection ea_ with ea_ en_ ec_;subst ea_;subst ec_;clear en_))
      go_roundg k1
      case measure=>have:=b4.out;omega
      case rel=>exact⟨(wrap64 (b0+((AD l0 a1).length:Int))),(wrap64 (a1+1)),zd,zd,H',⟨by have:=b4.out;omega⟩,⟨z0⟩⟩
     ·
      replace c6:=Bool.eq_false_iff.mpr c6;subst c6;rw[if_neg (show¬(false=true) by decide)]at H;obtain rfl:=Option.some.inj H;obtain⟨a5,d4,d5,b1,a0,b5,b6,d1,d2⟩:=al a9.out a1;cases b1;replace a0:=zx HB a0;obtain⟨d3,e6,e7,d9,a2,a6,a7,e0,e1⟩:=al a9.out a1;obtain rfl:a5=d3:=(by injection d9);replace a2:=zx HB a2;have ea_:=Option.some.inj (a0.symm.trans a2)
      injection ea_ with ea_ en_ ec_
      subst ea_;subst ec_;clear en_
      go_wp2_with (first|(go_at_call 93;(with_reducible refine(Bn.calls k1 _ _ (AD l0 a1) false _ ?side1 ?side2 A5.out).mono ?_);(case side1=>exact zc (Kd.AM a7.out HB.out));(case side2=>exact a6.out);rintro e w' ⟨rfl,⟨nd,rfl⟩⟩))
      go_ret
      exact⟨ze,z0⟩
   ·
    rw[if_neg c2]at H;have d6:=decide_eq_false c2;clear c2;have e8:=ak H;clear H
    go_upto_region 8 with(fail)
    go_cut [41] (fun h5 wc=> ∃(kq:Nat) (a8:Bool),h5= .bool a8/\AJ (AL.j1 kq l0 a8=some r)/\AJ (kq<=k1)/\AJ (Below w.heap.size w wc))
    case first=>
     have H:=e8.out;clear e8;replace H:=gb H;obtain⟨t122,A8,H⟩:=H
     by_cases c9:t122=true
     ·
      subst c9;rw[if_pos rfl]at H;have H':=ak H;clear H
      go_wp2_with (first|(refine zl (some 36) Try.func53 #[.int .i64 (l0.length:Int),.int .i64 1,.int .i64 4] ?_;(with_reducible refine(BM.calls (l0.length:Int) 1 4 true _ A8.out).mono ?_);rintro e w' ⟨rfl,⟨nd,rfl⟩⟩;refine⟨_,rfl,?_⟩))
      go_meet
      case rel=>exact⟨_,(decide (b0>20)),zd,H',⟨by have:=b4.out;first|omega|exact Nat.le_refl _⟩,⟨z0⟩⟩
     ·
      replace c9:=Bool.eq_false_iff.mpr c9;subst c9;rw[if_neg (show¬(false=true) by decide)]at H;have H':=ak H;clear H
      go_wp2_with (first|(refine zl (some 36) Try.func53 #[.int .i64 (l0.length:Int),.int .i64 1,.int .i64 4] ?_;(with_reducible refine(BM.calls (l0.length:Int) 1 4 false _ A8.out).mono ?_);rintro e w' ⟨rfl,⟨nd,rfl⟩⟩;refine⟨_,rfl,?_⟩))
      go_meet
      case rel=>exact⟨_,(true),zd,H',⟨by have:=b4.out;first|omega|exact Nat.le_refl _⟩,⟨z0⟩⟩
    case rest=>
     clear e8;obtain⟨kq,a8,rfl,HA,f7,HB⟩:=hcut
     cases kq with
     |zero=>exact absurd HA.out (by simp[AL.j1])
     |succ e9=>
      have H:=HA.out;clear HA;simp only[AL.j1]at H
      by_cases Du:a8=true
      ·
       subst Du;rw[if_pos rfl]at H;obtain rfl:=Option.some.inj H
       go_wp2
       go_ret
       exact⟨ze,z0⟩
      ·
       replace Du:=Bool.eq_false_iff.mpr Du;subst Du;rw[if_neg (show¬(false=true) by decide)]at H;replace H:=gb H;obtain⟨t123,h7,H⟩:=H;have H':=ak H;clear H
       go_wp2_with (first|(refine zl (some 43) Try.func97 #[.slice A0 l0.length c0] ?_;(with_reducible refine(Au.calls e9 _ _ l0 t123 _ ?side1 ?side2 h7.out).mono ?_);(case side1=>exact zc (Kd.AM a9.out HB.out));(case side2=>exact g9.out);rintro e i9 ⟨g1,rfl,h8,hb⟩;refine⟨_,rfl,?_⟩;have f1:=ak (Kd.BA h8 (AA z0));replace HB:=ak (AG z0 hb)))
       go_loopg [6] e9 (fun kq v6 w'=> ∃(a4:Int),v6= .int .i64 a4/\AJ (AL.l1 kq t123 a4=some r)/\AJ (kq<=e9)/\AJ (Kd.R (Kd.int .i64) 3 w' w.heap.size (fun _=>True) g1 t123)/\AJ (Below w.heap.size w w'))
       case atStart=>exact⟨(0),zd,H',⟨Nat.le_refl _⟩,⟨zr f1.out⟩,⟨z0⟩⟩
       case round=>
        clear H';obtain⟨a4,rfl,HA,f8,HO_5,HB⟩:=hrel
        cases gk with
        |zero=>exact absurd HA.out (by simp[AL.l1])
        |succ k3=>
         have H:=HA.out;clear HA;simp only[AL.l1]at H
         by_cases b9:a4<(t123.length:Int)
         ·
          rw[if_pos b9]at H;have f2:=decide_eq_true b9;clear b9;replace H:=gi H;obtain⟨f9,H⟩:=H;have h9:=decide_eq_true f9;clear f9
          by_cases d0:(rd t123 a4)>2
          ·
           rw[if_pos d0]at H;have f3:=decide_eq_true d0;clear d0;obtain rfl:=Option.some.inj H;obtain⟨i2,i3,g2⟩:=Kd.Al HO_5.out;subst g2;obtain⟨f4,e2,e3,g3,g4⟩:=ai (Kd.AN HO_5.out).2.2 a4;cases e2
           go_wp2
           go_ret
           exact⟨ze,z0⟩
          ·
           rw[if_neg d0]at H;have f3:=decide_eq_false d0;clear d0;have H':=ak H;clear H;obtain⟨i4,i5,g5⟩:=Kd.Al HO_5.out;subst g5;obtain⟨f4,e2,e3,g3,g4⟩:=ai (Kd.AN HO_5.out).2.2 a4;cases e2
           go_wp2
           go_roundg k3
           case measure=>have:=b4.out;have:=f7.out;have:=f8.out;omega
           case rel=>exact⟨(wrap64 (a4+1)),zd,H',⟨by have:=b4.out;have:=f7.out;have:=f8.out;omega⟩,⟨zr HO_5.out⟩,⟨z0⟩⟩
         ·
          rw[if_neg b9]at H;have f2:=decide_eq_false b9;clear b9;obtain rfl:=Option.some.inj H;obtain⟨i6,i7,g6⟩:=Kd.Al HO_5.out;subst g6
          go_wp2
          go_ret
          exact⟨ze,z0⟩
def Br.l0:Nat->List (List Int)->List (List Int)->Int->Option ((List (List Int)))
 |0,_,_,_=>none
 |k+1,x0,x3,x4=>if x4<(x0.length:Int)then((some (([]:List Int):List Int)).bind fun a0=>(if 0<=x4 then(if a0.length+(AD x0 x4).length<17592186044416 then(if x3.length<5864062014805 then(Br.l0 k x0 (x3++[(a0++(AD x0 x4))]) (wrap64 (x4+1)))else(none))else(none))else(none)))else(some x3)
def Br.f (k:Nat) (l0:List (List Int)):Option ((List (List Int))):=Br.l0 k l0 (([]:List (List Int))) 0
theorem Br.calls (k:Nat) (A0:Option Addr) (c0:Nat) (l0 r:List (List Int)) (w:World) (d9:Kd.C (Kd.slice 3 (Kd.int .i64)) w A0 l0.length l0) (e0:l0.length<=c0) (h:Br.f k l0=some r):
 Calls Try.prog 65 #[.slice A0 l0.length c0] w fun e w'=> ∃e1:Value,e= .returned (e1)/\Kd.S (Kd.slice 3 (Kd.int .i64)) 47 w' w.heap.size (fun _=>True) e1 r/\Below w.heap.size w w':=by
 have f1:=ak d9;have f9:=ak e0;clear d9 e0;have HB:=ak (Below.refl w.heap.size w);have H:=h;clear h;unfold Br.f at H;obtain⟨d1,a8⟩: ∃y_:List (List Int),y_=(([]:List (List Int))):=⟨_,rfl⟩;replace H:(Br.l0 k l0 d1 0)=some r:=zy a8 H;have b8:=ak a8;clear a8;have H':=ak H;clear H
 go_enter Try.func65,Try.ntmps65
 go_wp2_with (first|((with_reducible refine Ar (N:=5) rfl ?_);refine Kd.FO (Kd.slice 3 (Kd.int .i64)) _ 47 ?hg (N:=5) ?hd (xs:=([]:List (List Int))) (inner:=[]) (ok:=fun _=>True) (okp:=fun _=>True) ?hr ?hp (fun _ hk=>hk) trivial (Below.refl _ _) (Nat.le_refl _) (by simp) ?_;(case hd=>rfl);(case hg=>rfl);(case hr=>first|(go_simp;done)|(go_simp;rfl));(case hp=>exact(Av.none _ _));intro f5 w2 b3 hb hg_ hnew_;clear hg_ hnew_;(first|rw[<-b8.out]at b3|(simp only[Int.reduceToNat]at b3;rw[<-b8.out]at b3));have d5:=ak (Kd.BS b3 (AA z0));replace HB:=ak (AG z0 hb);clear hb b3))
 go_loopg [3,4] k (fun kq v3 v4 w'=> ∃(a1:List (List Int)) (a0:Int),v4= .int .i64 a0/\AJ (Br.l0 kq l0 a1 a0=some r)/\AJ (kq<=k)/\AJ (Kd.S (Kd.slice 3 (Kd.int .i64)) 47 w' w.heap.size (fun _=>True) v3 a1)/\AJ (Below w.heap.size w w'))
 case atStart=>exact⟨(d1),(0),zd,H',⟨Nat.le_refl _⟩,⟨zs d5.out⟩,⟨z0⟩⟩
 case round=>
  clear H';obtain⟨a1,a0,rfl,HA,e2,HO_3,HB⟩:=hrel
  cases gk with
  |zero=>exact absurd HA.out (by simp[Br.l0])
  |succ k1=>
   have H:=HA.out;clear HA;simp only[Br.l0]at H
   by_cases c4:a0<(l0.length:Int)
   ·
    rw[if_pos c4]at H;have e4:=decide_eq_true c4;clear c4;obtain⟨a9,b0⟩: ∃y_:List Int,y_=(([]:List Int)):=⟨_,rfl⟩;replace H:(if 0<=a0 then(if a9.length+(AD l0 a0).length<17592186044416 then(if a1.length<5864062014805 then(Br.l0 k1 l0 (a1++[(a9++(AD l0 a0))]) (wrap64 (a0+1)))else(none))else(none))else(none))=some r:=zy b0 H;have b9:=ak b0;clear b0;replace H:=gi H;obtain⟨c5,H⟩:=H;have f6:=decide_eq_true c5;clear c5;replace H:=gi H;obtain⟨c6,H⟩:=H;have e5:=ak c6;clear c6;obtain⟨a4,b1⟩: ∃y_:List Int,y_=(a9++(AD l0 a0)):=⟨_,rfl⟩;replace H:(if a1.length<5864062014805 then(Br.l0 k1 l0 (a1++[a4]) (wrap64 (a0+1)))else(none))=some r:=zy b1 H;have d6:=ak b1;clear b1;replace H:=gi H;obtain⟨c7,H⟩:=H;have e6:=ak c7;clear c7;obtain⟨d2,b2⟩: ∃y_:List (List Int),y_=(a1++[a4]):=⟨_,rfl⟩;replace H:(Br.l0 k1 l0 d2 (wrap64 (a0+1)))=some r:=zy b2 H;have d7:=ak b2;clear b2;have H':=ak H;clear H
    go_wp2_with (first|((with_reducible refine Ar (N:=13) rfl ?_);refine Kd.DS (Kd.int .i64) _ 3 ?hg (N:=13) ?hd (xs:=([]:List Int)) (inner:=[]) (ok:=fun _=>True) (okp:=fun _=>True) ?hr ?hp (fun _ hk=>hk) trivial (Below.refl _ _) (Nat.le_refl _) (by simp) ?_;(case hd=>rfl);(case hg=>rfl);(case hr=>first|(go_simp;done)|(go_simp;rfl));(case hp=>exact(Av.none _ _));intro e7 w8 a5 hb hg_ hnew_;clear hg_ hnew_;(first|rw[<-b9.out]at a5|(simp only[Int.reduceToNat]at a5;rw[<-b9.out]at a5));replace HO_3:=ak (Kd.Cq (zs HO_3.out) (Kd.CC a5) hb);have c1:=ak (Kd.BA a5 (AA z0));replace HB:=ak (AG z0 hb);clear hb a5;have b6:0<=(a0:Int):=za;have b7:a0<(l0.length:Int):=za;obtain⟨f4,f2,f3,e8,a2,a6,a7⟩:=Cl f1.out a0 b6 b7;cases e8;replace a2:=(HB.out.cell (World.block_lt_of_cell? w _ a2)).trans a2;have d0:=ak a7;have f0:=ak a6;clear a7 a6;replace b6:=eq_true b6;replace b7:=eq_true b7)|((with_reducible refine Ak (b:= .append) (xs:= #[.tmp 13,.tmp 17]) rfl ?_);at_builtin;refine Kd.Cv (Kd.int .i64) (w0:=w) w.heap.size rfl (.tmp 13) (.tmp 17) 47 3 (.int .i64 0) 8 rfl Try.underlying47 BT rfl (by decide) (by omega) e7 a9 (AD l0 a0) _ _ _ (fun _=>True) (fun _=>False) rfl rfl ?aO ?aR (fun _ _ h=>h) (fun _ h=>h.elim) ?aF ?aB ?aS ?aL ?_;(case aR=>exact zc (Kd.AM d0.out HB.out));(case aB=>exact z0);(case aF=>exact(fun _ _=>trivial));(case aO=>exact(zr c1.out));(case aS=>exact(AA z0));(case aL=>have:=e5.out;omega);intro f7 g0 ho hb hg hat;rw[<-d6.out]at ho;have b4:=ak (Kd.Ec (ok:=(fun _=>True)) (zs HO_3.out) hg hat);have b5:=ak (hb);have e3:=ak (ho);clear HO_3 HB c1;have HO_3:=b4;have HB:=b5;have a3:=e3;clear b4 b5 e3 ho hb hg hat;obtain⟨d3,d4,e9⟩:=Kd.Al a3.out;subst e9)|((with_reducible refine Ak (b:= .append) (xs:= #[.tmp 12,.tmp 19]) rfl ?_);at_builtin;refine Kd.Fq (Kd.slice 3 (Kd.int .i64)) (w0:=w) w.heap.size rfl (.tmp 12) (.tmp 19) 22 47 (.slice none 0 0) 24 rfl Try.underlying22 Hk rfl (by decide) (by omega) u3 a1 a4 [.slice d3 a4.length d4] (fun _=>True) (fun k_=>some k_=(.slice d3 a4.length d4:Value).ownBlock) rfl rfl ?aP (fun k_ hk_=>((Kd.AV (ok':=fun k_=>((fun _=>True)) k_/\some k_≠(u3:Value).ownBlock) (Kd.CI (a3.out) (Kd.CB HO_3.out) (by decide)) (fun k_ hk=>⟨trivial,hk.2⟩))).1 k_ hk_.symm) ?aF ?aO ?aB ?aS ?aL ?_;(case aP=>exact Kd.FP (Kd.AV (Kd.DV rfl (Kd.AV (ok':=fun k_=>((fun _=>True)) k_/\some k_≠(u3:Value).ownBlock) (Kd.CI (a3.out) (Kd.CB HO_3.out) (by decide)) (fun k_ hk=>⟨trivial,hk.2⟩))) (fun _ h_=>h_)));(case aB=>exact z0);(case aF=>exact(fun _ _=>trivial));(case aO=>exact(by(with_reducible repeat(first|apply Kd.Bj|apply Kd.Bh|apply Kd.Bx));exact Kd.Af HO_3.out (fun k_ hk=>⟨trivial,fun e_=>hk.2 e_⟩)));(case aS=>exact(AA z0));(case aL=>have:=e6.out;omega);intro f8 g1 ho hb hg hat;rw[<-d7.out]at ho;have b4:=ak (hb);have b5:=ak (ho);clear HB HO_3 a3;have HB:=b4;have d8:=b5;clear b4 b5 ho hb hg hat))
    go_roundg k1
    case measure=>have:=e2.out;omega
    case rel=>exact⟨(d2),(wrap64 (a0+1)),zd,H',⟨by have:=e2.out;omega⟩,⟨zs d8.out⟩,⟨z0⟩⟩
   ·
    rw[if_neg c4]at H;have e4:=decide_eq_false c4;clear c4;obtain rfl:=Option.some.inj H
    go_wp2
    go_ret
    exact⟨_,ze,zs HO_3.out,z0⟩
def CL.f (k:Nat) (l0:List (List Int)):Option ((List (List Int))×Bool):=(AL.f k l0).bind fun t140=>(if t140=true then(some (l0,true))else(some ((([]:List (List Int))),false)))
theorem CL.calls (k:Nat) (a4:Nat->Prop) (b_:Nat) (A0:Option Addr) (c0:Nat) (l0 r1:List (List Int)) (r2:Bool) (w:World) (hb_:b_<=w.heap.size) (a8:Kd.S (Kd.slice 3 (Kd.int .i64)) 47 w b_ (fun k_=>a4 k_) (.slice A0 l0.length c0) l0) (h:CL.f k l0=some (r1,r2)):
 Calls Try.prog 66 #[.slice A0 l0.length c0] w fun e w'=> ∃a6:Value,e= .returned (.tuple #[a6,.bool r2])/\Kd.S (Kd.slice 3 (Kd.int .i64)) 47 w' b_ (fun k_=>(a4 k_\/w.heap.size<=k_)) a6 r1/\Below w.heap.size w w':=by
 have a0:=ak (show Kd.S (Kd.slice 3 (Kd.int .i64)) 47 w b_ (fun k_=>(a4 k_\/w.heap.size<=k_)) (.slice A0 l0.length c0) l0 from Kd.Af a8 (fun k_ hk=> .inl hk));have HB:=ak (Below.refl w.heap.size w);have H:=h;clear h;unfold CL.f at H;replace H:=gb H;obtain⟨t140,A2,H⟩:=H
 by_cases c3:t140=true
 ·
  subst c3;rw[if_pos rfl]at H;simp only[Option.some.injEq,Prod.mk.injEq]at H;obtain⟨rfl,rfl⟩:=H
  go_enter Try.func66,Try.ntmps66
  go_wp2_with (first|(refine zl (some 5) Try.func52 #[.slice A0 l0.length c0] ?_;(with_reducible refine(AL.calls k _ _ l0 true _ ?side1 ?side2 A2.out).mono ?_);(case side1=>exact zc (Kd.Aa a0.out).2.2);(case side2=>exact(Kd.Aa a0.out).2.1);rintro e w4 ⟨rfl,hb⟩;refine⟨_,rfl,?_⟩;replace a0:=ak (Kd.DO (zs a0.out) hb);replace HB:=ak (AG z0 hb)))
  go_ret2
  exact⟨_,ze,zs a0.out,z0⟩
 ·
  replace c3:=Bool.eq_false_iff.mpr c3;subst c3;rw[if_neg (show¬(false=true) by decide)]at H;obtain⟨a7,a2⟩: ∃y_:List (List Int),y_=(([]:List (List Int))):=⟨_,rfl⟩;replace H:(some (a7,false))=some (r1,r2):=zy a2 H;have a3:=ak a2;clear a2;simp only[Option.some.injEq,Prod.mk.injEq]at H;obtain⟨rfl,rfl⟩:=H
  go_enter Try.func66,Try.ntmps66
  go_wp2_with (first|(refine zl (some 5) Try.func52 #[.slice A0 l0.length c0] ?_;(with_reducible refine(AL.calls k _ _ l0 false _ ?side1 ?side2 A2.out).mono ?_);(case side1=>exact zc (Kd.Aa a0.out).2.2);(case side2=>exact(Kd.Aa a0.out).2.1);rintro e w5 ⟨rfl,hb⟩;refine⟨_,rfl,?_⟩;replace a0:=ak (Kd.DO (zs a0.out) hb);replace HB:=ak (AG z0 hb))|((with_reducible refine Ar (N:=7) rfl ?_);refine Kd.FO (Kd.slice 3 (Kd.int .i64)) _ 47 ?hg (N:=7) ?hd (xs:=([]:List (List Int))) (inner:=[]) (ok:=fun _=>True) (okp:=fun _=>True) ?hr ?hp (fun _ hk=>hk) trivial (Below.refl _ _) (Nat.le_refl _) (by simp) ?_;(case hd=>rfl);(case hg=>rfl);(case hr=>first|(go_simp;done)|(go_simp;rfl));(case hp=>exact(Av.none _ _));intro a9 w6 a1 hb hg_ hnew_;clear hg_ hnew_;(first|rw[<-a3.out]at a1|(simp only[Int.reduceToNat]at a1;rw[<-a3.out]at a1));replace a0:=ak (Kd.Cq (zs a0.out) (Kd.PT a1) hb);have a5:=ak (Kd.BS (Kd.EM (M:=fun k_=>(w.heap.size<=k_)) a1 (AA z0) (fun k_ h_=>h_)) (AA z0));replace HB:=ak (AG z0 hb);clear hb a1))
  go_ret2
  exact⟨_,ze,Kd.BS (Kd.Af (by(with_reducible repeat(first|apply Kd.Bj|apply Kd.Bh|apply Kd.Bx));exact Kd.Af a5.out (fun _ hk=>hk.1)) (fun k_ hk=>by first|exact⟨(.inr (hk.1)),hk.2⟩|exact(.inr (hk)))) hb_,z0⟩
def Bp.f (k:Nat) (l0:List (List Int)) (a1:Int) (l2:List Int):Option ((List (List Int))×Bool):=(Br.f k l0).bind fun t144=>(if 0<=a1 then(if a1<(t144.length:Int)then((CL.f k (t144.set (a1:Int).toNat l2)).bind fun a0=>(some (a0.1,a0.2)))else(none))else(none))
theorem Bp.calls (k:Nat) (A0:Option Addr) (c0:Nat) (l0:List (List Int)) (a1:Int) (a0:Nat->Prop) (b_:Nat) (A2:Option Addr) (c2:Nat) (l2:List Int) (r1:List (List Int)) (r2:Bool) (w:World) (a6:Kd.C (Kd.slice 3 (Kd.int .i64)) w A0 l0.length l0) (a7:l0.length<=c0) (hb_:b_<=w.heap.size) (a8:Kd.R (Kd.int .i64) 3 w b_ (fun k_=>a0 k_) (.slice A2 l2.length c2) l2) (h:Bp.f k l0 a1 l2=some (r1,r2)):
 Calls Try.prog 54 #[.slice A0 l0.length c0,.int .i64 a1,.slice A2 l2.length c2] w fun e w'=> ∃a9:Value,e= .returned (.tuple #[a9,.bool r2])/\Kd.S (Kd.slice 3 (Kd.int .i64)) 47 w' b_ (fun k_=>(a0 k_\/w.heap.size<=k_)) a9 r1/\Below w.heap.size w w':=by
 have b8:=ak a6;have b9:=ak a7;have b0:=ak (Kd.AV (ok':=fun k_=>a0 k_/\k_<w.heap.size) (Kd.FB a8) (fun k_ h_=>⟨h_.1,h_.2.2.1⟩));have HBB:=ak hb_;clear a6 a7 a8 hb_;have HB:=ak (Below.refl w.heap.size w);unfold Bp.f at h;obtain⟨t169,b1,H⟩:=Option.bind_eq_some_iff.mp h;clear h
 by_cases c5:0<=a1
 case neg=>rw[if_neg c5]at H;exact absurd H (by simp)
 rw[if_pos c5]at H
 by_cases c6:a1<(t169.length:Int)
 case neg=>rw[if_neg c6]at H;exact absurd H (by simp)
 rw[if_pos c6]at H;obtain⟨⟨t173,t176⟩,b2,H⟩:=Option.bind_eq_some_iff.mp H;simp only[Option.some.injEq,Prod.mk.injEq]at H;obtain⟨rfl,rfl⟩:=H;have A4:=ak b1;have A8:=ak b2;clear b1 b2
 have hpos:0<t169.length:=by omega
 have C5:=ak c5;have C6:=ak c6;have HPOS:=ak hpos;have p7:(0<=(a1:Int))=True:=eq_true c5;have q7:((a1:Int)<(t169.length:Int))=True:=eq_true c6;clear c5 c6 hpos
 go_enter Try.func54,Try.ntmps54
 go_wp2_with fail
 go_at_call 65
 refine(Br.calls k _ _ l0 t169 _ (zc b8.out) b9.out A4.out).mono ?_;rintro e w9 ⟨b7,rfl,a4,hb⟩;have a2:=ak (show Kd.S (Kd.slice 3 (Kd.int .i64)) 47 w9 b_ (fun k_=>w.heap.size<=k_) b7 t169 from Kd.BS (Kd.Af (Kd.NP a4) (fun k_ h_=>h_.2.1)) HBB.out);have b3:=ak (Kd.Co (zr b0.out) hb);have nB:=ak (AG z0 hb);clear HB b0 hb a4;have HB:=nB;clear nB;obtain⟨a3,a5,c1,d0,d1,d7,d2⟩:=Kd.GP a2.out HPOS.out;subst c1;clear d0 d1 d2;have b4:=ak (show w.heap.size<=a3 from(Kd.SB a2.out).1 a3 rfl);obtain⟨oki,ce,hcl,hM,hcc,hfr,hoki,hH⟩:=Kd.FL (show Kd.S (Kd.slice 3 (Kd.int .i64)) 47 w9 b_ (fun k_=>(a0 k_\/w.heap.size<=k_)/\¬(a0 k_/\k_<w.heap.size)) (.slice (some ⟨a3,0,none⟩) t169.length a5) t169 from Kd.Af a2.out (fun k_ h_=>⟨.inr h_,fun g_=>by have:=g_.2;omega⟩)) ([]:List Int) (a1:Int) C5.out C6.out;obtain⟨ve,rfl,ge⟩:=hM;have HP:=Kd.JK (ok:=fun k_=>a0 k_\/w.heap.size<=k_) (okg:=fun k_=>a0 k_/\k_<w.heap.size) hH C5.out C6.out (seg:=[.slice A2 l2.length c2]) (j:=0) (show 1<=1 from by decide) (x':=l2) (okp:=fun k_=>a0 k_/\k_<w.heap.size) (Kd.FP b3.out) (fun _ hk=> .inr hk) (fun k_ hk=>⟨.inl hk.1,by rintro rfl;have:=hk.2;have:=b4.out;omega⟩);have d3:=hcc 0 _ rfl;have d4:=hfr 0
 (try simp only[show((Kd.slice 3 (Kd.int .i64))).sz=1 from rfl,Nat.mul_one,Nat.add_zero]at d3 d4 HP)
 have b5:=ak HP;clear hcl hcc hfr hoki hH HP ge
 go_wp2_with (first|((with_reducible refine Dm (t:=47) (p:=16) rfl ?_);refine DU (t:=47) (p:=16) (v:=?vo_w17) (w1:=(w9.setCell ⟨a3,(a1:Int).toNat,none⟩ (.slice A2 l2.length c2))) ?hg ?ho ?hn ?hr ?_;(case ho=>rfl);(case hg=>rfl);(case hn=>rfl);(case hr=>first|(go_simp;done)|(go_simp;rfl));intro b6 hw;have HS:=ak (show Kd.S (Kd.slice 3 (Kd.int .i64)) 47 b6 b_ (fun k_=>a0 k_\/w.heap.size<=k_) (.slice (some ⟨a3,0,none⟩) t169.length a5) (t169.set (a1:Int).toNat l2)from(by rw[hw];exact b5.out.1));have nB:=ak (show Below w.heap.size w b6 from(by rw[hw];exact BC HB.out b4.out));clear HB b5 a2 b3 hw;have HB:=nB;clear nB))
 go_at_call 66
 refine Eu (args':= #[.slice (some ⟨a3,0,none⟩) (t169.set (a1:Int).toNat l2).length a5]) (by rw[List.length_set]) ?_;refine(CL.calls k (fun k_=>a0 k_\/w.heap.size<=k_) b_ _ _ (t169.set (a1:Int).toNat l2) t173 t176 _ (Nat.le_trans HBB.out (AA z0)) (by rw[List.length_set];(with_reducible repeat(first|apply Kd.Bj|apply Kd.Bh|apply Kd.Bx));exact HS.out) A8.out).mono ?_;rintro e d8 ⟨d6,rfl,a4,hb⟩;have HT:=ak (Kd.Af (ok':=fun k_=>a0 k_\/w.heap.size<=k_) a4 (fun k_ h_=>Or.elim h_ id (fun d5=> .inr (Nat.le_trans (AA z0) d5))));have nB:=ak (AG z0 hb);clear HB HS hb a4;have HB:=nB;clear nB
 go_wp2
 go_ret2
 exact⟨_,ze,zs HT.out,z0⟩
def Bf.l0:Nat->List Int->List Int->Int->Option (List Int)
 |0,_,_,_=>none
 |k+1,x0,x3,x4=>if x4>=0 then(if 0<=x4 then(if x4<(x0.length:Int)then(if x3.length<17592186044416 then(Bf.l0 k x0 (x3++[wrap64 (-(rd x0 x4))]) (wrap64 (x4-1)))else(none))else(none))else(none))else(some x3)
def Bf.f (k:Nat) (l0:List Int):Option (List Int):=Bf.l0 k l0 (([]:List Int)) (wrap64 ((l0.length:Int)-1))
theorem Bf.calls (k:Nat) (A0:Option Addr) (c0:Nat) (l0 r:List Int) (w:World) (b2:Kd.C (Kd.int .i64) w A0 l0.length l0) (b3:l0.length<=c0) (h:Bf.f k l0=some r):
 Calls Try.prog 55 #[.slice A0 l0.length c0] w fun e w'=> ∃b4:Value,e= .returned (b4)/\Kd.R (Kd.int .i64) 3 w' w.heap.size (fun _=>True) b4 r/\Below w.heap.size w w':=by
 have d0:=ak b2;have d8:=ak b3;clear b2 b3;have HB:=ak (Below.refl w.heap.size w);have H:=h;clear h;unfold Bf.f at H;obtain⟨a7,a3⟩: ∃y_:List Int,y_=(([]:List Int)):=⟨_,rfl⟩;replace H:(Bf.l0 k l0 a7 (wrap64 ((l0.length:Int)-1)))=some r:=zy a3 H;have a6:=ak a3;clear a3;have H':=ak H;clear H
 go_enter Try.func55,Try.ntmps55
 go_wp2_with (first|((with_reducible refine Ar (N:=5) rfl ?_);refine Kd.DS (Kd.int .i64) _ 3 ?hg (N:=5) ?hd (xs:=([]:List Int)) (inner:=[]) (ok:=fun _=>True) (okp:=fun _=>True) ?hr ?hp (fun _ hk=>hk) trivial (Below.refl _ _) (Nat.le_refl _) (by simp) ?_;(case hd=>rfl);(case hg=>rfl);(case hr=>first|(go_simp;done)|(go_simp;rfl));(case hp=>exact(Av.none _ _));intro d2 w2 a5 hb hg_ hnew_;clear hg_ hnew_;(first|rw[<-a6.out]at a5|(simp only[Int.reduceToNat]at a5;rw[<-a6.out]at a5));have a9:=ak (Kd.BA a5 (AA z0));replace HB:=ak (AG z0 hb);clear hb a5))
 go_loopg [3,4] k (fun kq v3 v4 w'=> ∃(a1:List Int) (a0:Int),v4= .int .i64 a0/\AJ (Bf.l0 kq l0 a1 a0=some r)/\AJ (kq<=k)/\AJ (Kd.R (Kd.int .i64) 3 w' w.heap.size (fun _=>True) v3 a1)/\AJ (Below w.heap.size w w'))
 case atStart=>exact⟨(a7),(wrap64 ((l0.length:Int)-1)),zd,H',⟨Nat.le_refl _⟩,⟨zr a9.out⟩,⟨z0⟩⟩
 case round=>
  clear H';obtain⟨a1,a0,rfl,HA,b5,HO_3,HB⟩:=hrel
  cases gk with
  |zero=>exact absurd HA.out (by simp[Bf.l0])
  |succ k1=>
   have H:=HA.out;clear HA;simp only[Bf.l0]at H
   by_cases c4:a0>=0
   ·
    rw[if_pos c4]at H;have b8:=decide_eq_true c4;clear c4;replace H:=gi H;obtain⟨c5,H⟩:=H;have d3:=decide_eq_true c5;clear c5;replace H:=gi H;obtain⟨c6,H⟩:=H;have d4:=decide_eq_true c6;clear c6;replace H:=gi H;obtain⟨c7,H⟩:=H;have b9:=ak c7;clear c7;obtain⟨a8,a4⟩: ∃y_:List Int,y_=(a1++[wrap64 (-(rd l0 a0))]):=⟨_,rfl⟩;replace H:(Bf.l0 k1 l0 a8 (wrap64 (a0-1)))=some r:=zy a4 H;have b0:=ak a4;clear a4;have H':=ak H;clear H;obtain⟨d1,c1,a2,d5,d6⟩:=ai d0.out a0;cases c1;replace a2:=zx HB a2
    go_wp2_with (first|((with_reducible refine Ak (b:= .append) (xs:= #[.tmp 13,.tmp 19]) rfl ?_);at_builtin;refine Kd.Cy (Kd.int .i64) (w0:=w) w.heap.size rfl (.tmp 13) (.tmp 19) 47 3 (.int .i64 0) 8 rfl Try.underlying47 BT rfl (by decide) (by omega) u3 a1 (wrap64 (-(rd l0 a0))) [.int .i64 (wrap64 (-(rd l0 a0)))] (fun _=>True) (fun _=>False) rfl rfl ?aP (fun _ hk=>hk.elim) ?aF ?aO ?aB ?aS ?aL ?_;(case aP=>exact rfl);(case aB=>exact z0);(case aF=>exact(fun _ _=>trivial));(case aO=>exact(zr HO_3.out));(case aS=>exact(AA z0));(case aL=>have:=b9.out;omega);intro d7 w8 ho hb hg hat;rw[<-b0.out]at ho;have b6:=ak (hb);have b7:=ak (ho);clear HB HO_3;have HB:=b6;have b1:=b7;clear b6 b7 ho hb hg hat))
    go_roundg k1
    case measure=>have:=b5.out;omega
    case rel=>exact⟨(a8),(wrap64 (a0-1)),zd,H',⟨by have:=b5.out;omega⟩,⟨zr b1.out⟩,⟨z0⟩⟩
   ·
    rw[if_neg c4]at H;have b8:=decide_eq_false c4;clear c4;obtain rfl:=Option.some.inj H
    go_wp2
    go_ret
    exact⟨_,ze,zr HO_3.out,z0⟩
def Bi.j0:Nat->List (List Int)->Int->Bool->Option ((List (List Int))×Bool)
 |0,_,_,_=>none
 |k+1,x0,x1,a1=>if a1=true then(some ((([]:List (List Int))),false))else(if 0<=x1 then(if x1<(x0.length:Int)then((Bf.f k (AD x0 x1)).bind fun t165=>((Bp.f k x0 x1 t165).bind fun a0=>(some (a0.1,a0.2))))else(none))else(none))
def Bi.f (k:Nat) (l0:List (List Int)) (a1:Int):Option ((List (List Int))×Bool):=(AL.f k l0).bind fun t159=>(if t159=true then((BM.f a1 0 (wrap64 ((l0.length:Int)-1))).bind fun t160=>(Bi.j0 k l0 a1 (!t160)))else(Bi.j0 k l0 a1 true))
theorem Bi.calls (k:Nat) (A0:Option Addr) (c0:Nat) (l0:List (List Int)) (a1:Int) (r1:List (List Int)) (r2:Bool) (w:World) (d0:Kd.C (Kd.slice 3 (Kd.int .i64)) w A0 l0.length l0) (d1:l0.length<=c0) (h:Bi.f k l0 a1=some (r1,r2)):
 Calls Try.prog 13 #[.slice A0 l0.length c0,.int .i64 a1] w fun e w'=> ∃d2:Value,e= .returned (.tuple #[d2,.bool r2])/\Kd.S (Kd.slice 3 (Kd.int .i64)) 47 w' w.heap.size (fun k_=>(w.heap.size<=k_)) d2 r1/\Below w.heap.size w w':=by
 have a6:=ak d0;have b1:=ak d1;clear d0 d1;have HB:=ak (Below.refl w.heap.size w);have H:=h;clear h;unfold Bi.f at H;have b2:=ak H;clear H
 go_enter Try.func13,Try.ntmps13
 go_upto_region 1 with(fail)
 go_cut [18] (fun d9 wc=> ∃(kq:Nat) (a2:Bool),d9= .bool a2/\AJ (Bi.j0 kq l0 a1 a2=some (r1,r2))/\AJ (kq<=k)/\AJ (Below w.heap.size w wc))
 case first=>
  have H:=b2.out;clear b2;replace H:=gb H;obtain⟨t159,A4,H⟩:=H
  by_cases c5:t159=true
  ·
   subst c5;rw[if_pos rfl]at H;replace H:=gb H;obtain⟨t160,A6,H⟩:=H;have H':=ak H;clear H
   go_wp2_with (first|(refine zl (some 9) Try.func52 #[.slice A0 l0.length c0] ?_;(with_reducible refine(AL.calls k _ _ l0 true _ ?side1 ?side2 A4.out).mono ?_);(case side1=>exact zc (Kd.AM a6.out HB.out));(case side2=>exact b1.out);rintro e w7 ⟨rfl,hb⟩;refine⟨_,rfl,?_⟩;replace HB:=ak (AG z0 hb))|(go_at_call 53;(with_reducible refine(BM.calls a1 0 (wrap64 ((l0.length:Int)-1)) t160 _ A6.out).mono ?_);rintro e w' ⟨rfl,⟨nd,rfl⟩⟩))
   go_meet
   case rel=>exact⟨_,(!t160),zd,H',⟨by first|omega|exact Nat.le_refl _⟩,⟨z0⟩⟩
  ·
   replace c5:=Bool.eq_false_iff.mpr c5;subst c5;rw[if_neg (show¬(false=true) by decide)]at H;have H':=ak H;clear H
   go_wp2_with (first|(refine zl (some 9) Try.func52 #[.slice A0 l0.length c0] ?_;(with_reducible refine(AL.calls k _ _ l0 false _ ?side1 ?side2 A4.out).mono ?_);(case side1=>exact zc (Kd.AM a6.out HB.out));(case side2=>exact b1.out);rintro e w8 ⟨rfl,hb⟩;refine⟨_,rfl,?_⟩;replace HB:=ak (AG z0 hb)))
   go_meet
   case rel=>exact⟨_,(true),zd,H',⟨by first|omega|exact Nat.le_refl _⟩,⟨z0⟩⟩
 case rest=>
  clear b2;obtain⟨kq,a2,rfl,HA,e9,HB⟩:=hcut
  cases kq with
  |zero=>exact absurd HA.out (by simp[Bi.j0])
  |succ d3=>
   have H:=HA.out;clear HA;simp only[Bi.j0]at H
   by_cases c9:a2=true
   ·
    subst c9;rw[if_pos rfl]at H;obtain⟨d6,a5⟩: ∃y_:List (List Int),y_=(([]:List (List Int))):=⟨_,rfl⟩;replace H:(some (d6,false))=some (r1,r2):=zy a5 H;have a7:=ak a5;clear a5;simp only[Option.some.injEq,Prod.mk.injEq]at H;obtain⟨rfl,rfl⟩:=H
    go_wp2_with (first|((with_reducible refine Ar (N:=19) rfl ?_);(try(refine BR (by rfl) ?_;dsimp only));refine Kd.FO (Kd.slice 3 (Kd.int .i64)) _ 47 ?hg (N:=19) ?hd (xs:=([]:List (List Int))) (inner:=[]) (ok:=fun _=>True) (okp:=fun _=>True) ?hr ?hp (fun _ hk=>hk) trivial (Below.refl _ _) (Nat.le_refl _) (by simp) ?_;(case hd=>rfl);(case hg=>rfl);(case hr=>first|(go_simp;done)|(go_simp;rfl));(case hp=>exact(Av.none _ _));intro e4 f0 a3 hb hg_ hnew_;clear hg_ hnew_;(first|rw[<-a7.out]at a3|(simp only[Int.reduceToNat]at a3;rw[<-a7.out]at a3));have b7:=ak (Kd.BS (Kd.EM (M:=fun k_=>(w.heap.size<=k_)) a3 (AA z0) (fun k_ h_=>h_)) (AA z0));replace HB:=ak (AG z0 hb);clear hb a3))
    go_ret2
    exact⟨_,ze,EH (by(with_reducible repeat(first|apply Kd.Bj|apply Kd.Bh|apply Kd.Bx));exact Kd.Af b7.out (fun _ hk=>hk.1)),z0⟩
   ·
    replace c9:=Bool.eq_false_iff.mpr c9;subst c9;rw[if_neg (show¬(false=true) by decide)]at H;replace H:=gi H;obtain⟨d4,H⟩:=H;have e2:=decide_eq_true d4;clear d4;replace H:=gi H;obtain⟨d5,H⟩:=H;have e3:=decide_eq_true d5;clear d5;replace H:=gb H;obtain⟨t165,e0,H⟩:=H;replace H:=gb H;obtain⟨⟨t168,t171⟩,e1,H⟩:=H;dsimp only at H;simp only[Option.some.injEq,Prod.mk.injEq]at H;obtain⟨rfl,rfl⟩:=H;obtain⟨b8,b3,b4,d7,a4,a9,b0,e5,e6⟩:=al a6.out a1;cases d7;replace a4:=zx HB a4
    go_wp2_with (first|(refine zl (some 27) Try.func55 #[.slice b3 (AD l0 a1).length b4] ?_;(with_reducible refine(Bf.calls d3 _ _ (AD l0 a1) t165 _ ?side1 ?side2 e0.out).mono ?_);(case side1=>exact zc (Kd.AM b0.out HB.out));(case side2=>exact a9.out);rintro e f1 ⟨e7,rfl,a8,hb⟩;refine⟨_,rfl,?_⟩;have a0:=ak (Kd.BA (Kd.DX (M:=fun k_=>(w.heap.size<=k_)) a8 (AA z0) (fun k_ h_=>h_)) (AA z0));replace HB:=ak (AG z0 hb);obtain⟨b5,b6,d8⟩:=Kd.Al a0.out;subst d8)|(refine zl (some 28) Try.func54 #[.slice (some b8) l0.length c0,.int .i64 a1,.slice b5 t165.length b6] ?_;(with_reducible refine(Bp.calls d3 _ _ l0 a1 (fun k_=>some k_=(.slice b5 t165.length b6:Value).ownBlock) w.heap.size _ _ t165 t168 t171 _ ?side1 ?side2 (AA z0) ?side3 e1.out).mono ?_);(case side1=>exact zc (Kd.AM a6.out HB.out));(case side2=>exact b1.out);(case side3=>(with_reducible repeat(first|apply Kd.BV|apply Kd.BN|apply Kd.BI));exact Kd.DV rfl (a0.out));rintro e f3 ⟨e8,rfl,a8,hb⟩;refine⟨_,rfl,?_⟩;have b9:=ak (GI (Kd.Af (ok':=fun k_=>(w.heap.size<=k_)) a8 (fun k_ hk_=>Or.elim hk_ (fun hs_=>((a0.out).1 k_ hs_.symm).1) (fun hn_=>(Nat.le_trans (AA z0) hn_)))) (AA z0));replace a0:=ak (Kd.Co (zr a0.out) hb);replace HB:=ak (AG z0 hb)))
    go_ret2
    exact⟨_,ze,zs b9.out,z0⟩
def Ey.f (a0:Int):Option (Int):=some (mx a0 (wrap64 (-a0)))
theorem Ey.calls (a0 r:Int) (w:World) (h:Ey.f a0=some r):
 Calls Try.prog 79 #[.int .i64 a0] w fun e w'=>e= .returned (.int .i64 r)/\Below w.heap.size w w':=by
 have HB:=ak (Below.refl w.heap.size w);have H:=h;clear h;unfold Ey.f at H;obtain⟨a2,a1⟩: ∃j_:Int,(mx a0 (wrap64 (-a0)))=j_:=⟨_,rfl⟩
 replace H:(some a2)=some r:=by first|(rw[a1]at H;exact H)|(simp only[a1]at H⊢;exact H)
 have a3:(if a0<(wrap64 (-a0))then(wrap64 (-a0))else a0)=a2:=a1;obtain rfl:=Option.some.inj H
 go_enter Try.func79,Try.ntmps79
 go_wp2
 go_ret
 exact⟨by first|rfl|(simp[Bq,Bt]<;>rfl)|(simp only[<-a1];first|rfl|(simp[Bq,Bt]<;>rfl))|(simp[*,Bq,Bt]<;>rfl),z0⟩
mutual
def Aj.l0:Nat->List Int->List (List Int)->Int->Int->Option (List Int)
 |0,_,_,_,_=>none
 |k+1,x3,x9,a1,a0=>if a0<a1 then(if 0<=a0 then(if a0<(x9.length:Int)then(Aj.l1 k x3 x9 a1 a0 (AD x9 a0) ((AD x9 a0).length:Int) 0)else(none))else(none))else(some x3)
def Aj.l1:Nat->List Int->List (List Int)->Int->Int->List Int->Int->Int->Option (List Int)
 |0,_,_,_,_,_,_,_=>none
 |k+1,x3,x9,a2,a3,a1,a4,a0=>if a0<a4 then(if 0<=a0 then(if a0<(a1.length:Int)then((Ey.f (rd a1 a0)).bind fun t177=>(if 0<=t177 then(if t177<(x3.length:Int)then(Aj.l1 k (x3.set (t177:Int).toNat (wrap64 ((rd x3 t177)+1))) x9 a2 a3 a1 a4 (wrap64 (a0+1)))else(none))else(none)))else(none))else(none))else(Aj.l0 k x3 x9 a2 (wrap64 (a3+1)))
end
def Aj.f (k:Nat) (l0:List (List Int)):Option (List Int):=if 9<=35184372088832 then(Aj.l0 k (List.replicate 9 0) l0 (l0.length:Int) 0)else(none)
theorem Aj.calls (k:Nat) (A0:Option Addr) (c0:Nat) (l0:List (List Int)) (r:List Int) (w:World) (e2:Kd.C (Kd.slice 3 (Kd.int .i64)) w A0 l0.length l0) (e3:l0.length<=c0) (h:Aj.f k l0=some r):
 Calls Try.prog 67 #[.slice A0 l0.length c0] w fun e w'=> ∃e4:Value,e= .returned (e4)/\Kd.R (Kd.int .i64) 3 w' w.heap.size (fun _=>True) e4 r/\Below w.heap.size w w':=by
 have g1:=ak e2;have i7:=ak e3;clear e2 e3;have HB:=ak (Below.refl w.heap.size w);have H:=h;clear h;unfold Aj.f at H;replace H:=gi H;obtain⟨c2,H⟩:=H;have b9:=eq_true c2;have d0:=decide_eq_true c2;clear c2;obtain⟨d1,a5⟩: ∃y_:List Int,y_=(List.replicate 9 0):=⟨_,rfl⟩;replace H:(Aj.l0 k d1 l0 (l0.length:Int) 0)=some r:=zy a5 H;have b4:=ak a5;clear a5;have H':=ak H;clear H
 go_enter Try.func67,Try.ntmps67
 go_wp2_with (first|((with_reducible refine Ar (N:=8) rfl ?_);refine Kd.TE (Kd.int .i64) _ 3 rfl (N:=8) rfl 47 _ _ rfl 9 rfl rfl Try.underlying47 (.int .i64 0) 8 BT rfl (by decide) (by omega) 0 (ok:=fun _=>True) (okp:=fun _=>True) rfl (fun _ hk=>hk) trivial (by omega) (by omega) (Below.refl _ _) (Nat.le_refl _) ?_;intro d2 w3 a8 hb hg_ hnew_;clear hg_ hnew_;(first|rw[<-b4.out]at a8|(simp only[Int.reduceToNat]at a8;rw[<-b4.out]at a8));have e0:=ak (Kd.BA a8 (AA z0));replace HB:=ak (AG z0 hb);clear hb a8))
 go_loopg [11] k (fun kq g2 w'=> ∃(a6:List Int) (a0:Int),g2= .int .i64 a0/\AJ (Aj.l0 kq a6 l0 (l0.length:Int) a0=some r)/\AJ (kq<=k)/\AJ (Kd.R (Kd.int .i64) 3 w' w.heap.size (fun _=>True) d2 a6)/\AJ (Below w.heap.size w w'))
 case atStart=>exact⟨(d1),(0),zd,H',⟨Nat.le_refl _⟩,⟨zr e0.out⟩,⟨z0⟩⟩
 case round=>
  clear H';obtain⟨a6,a0,rfl,HA,b5,HO_3,HB⟩:=hrel
  cases gk with
  |zero=>exact absurd HA.out (by simp[Aj.l0])
  |succ k1=>
   have H:=HA.out;clear HA;simp only[Aj.l0]at H
   by_cases c5:a0<(l0.length:Int)
   ·
    rw[if_pos c5]at H;have d3:=decide_eq_true c5;clear c5;replace H:=gi H;obtain⟨c6,H⟩:=H;have e8:=decide_eq_true c6;clear c6;replace H:=gi H;obtain⟨c7,H⟩:=H;have e9:=decide_eq_true c7;clear c7;have H':=ak H;clear H;obtain⟨g9,g3,g4,f0,a3,g0,b7,f1,f2⟩:=al g1.out a0;cases f0;replace a3:=zx HB a3
    go_wp2
    go_loopg [17] k1 (fun kq g5 w'=> ∃(a2:List Int) (a1:Int),g5= .int .i64 a1/\AJ (Aj.l1 kq a2 l0 (l0.length:Int) a0 (AD l0 a0) ((AD l0 a0).length:Int) a1=some r)/\AJ (kq<=k1)/\AJ (Kd.R (Kd.int .i64) 3 w' w.heap.size (fun _=>True) d2 a2)/\AJ (Below w.heap.size w w'))
    case atStart=>exact⟨(a6),(0),zd,H',⟨Nat.le_refl _⟩,⟨zr HO_3.out⟩,⟨z0⟩⟩
    case round=>
     clear H';obtain⟨a2,a1,rfl,HA,b6,HO_3,HB⟩:=hrel
     cases gk with
     |zero=>exact absurd HA.out (by simp[Aj.l1])
     |succ k2=>
      have H:=HA.out;clear HA;simp only[Aj.l1]at H
      by_cases c8:a1<((AD l0 a0).length:Int)
      ·
       rw[if_pos c8]at H;have f3:=decide_eq_true c8;clear c8;replace H:=gi H;obtain⟨c9,H⟩:=H;have i0:=decide_eq_true c9;clear c9;replace H:=gi H;obtain⟨Du,H⟩:=H;have h3:=decide_eq_true Du;clear Du;replace H:=gb H;obtain⟨t177,g6,H⟩:=H;replace H:=gi H;obtain⟨e5,H⟩:=H;have h4:=decide_eq_true e5;clear e5;replace H:=gi H;obtain⟨e6,H⟩:=H;have h5:=decide_eq_true e6;clear e6;obtain⟨a9,a7⟩: ∃y_:List Int,y_=(a2.set (t177:Int).toNat (wrap64 ((rd a2 t177)+1))):=⟨_,rfl⟩;replace H:(Aj.l1 k2 a9 l0 (l0.length:Int) a0 (AD l0 a0) ((AD l0 a0).length:Int) (wrap64 (a1+1)))=some r:=zy a7 H;have e1:=ak a7;clear a7;have H':=ak H;clear H;obtain⟨h6,f4,a4,i1,i2⟩:=ai b7.out a1;cases f4;replace a4:=zx HB a4
       go_wp2_with (first|(refine zl (some 23) Try.func79 #[.int .i64 (rd (AD l0 a0) a1)] ?_;(with_reducible refine(Ey.calls (rd (AD l0 a0) a1) t177 _ g6.out).mono ?_);rintro e e7 ⟨rfl,hb⟩;refine⟨_,rfl,?_⟩;replace HO_3:=ak (Kd.Co (zr HO_3.out) hb);replace HB:=ak (AG z0 hb);obtain⟨i3,f5,f6⟩:=Kd.Al HO_3.out;subst f6;have b0:0<=(t177:Int):=za;have b1:t177<(a2.length:Int):=za;obtain⟨h7,f7,b8⟩:=Kd.Dk (Kd.AN HO_3.out).2.2 t177 b0 b1;cases f7;replace b0:=eq_true b0;replace b1:=eq_true b1;have d4:0<=(t177:Int):=za;have d5:(t177:Int)<((a2.length:Int):Int):=za;obtain⟨b2,i4,d6,d7,f8,i5,d8⟩:=Kd.Hj HO_3.out (by omega);(first|cases d6|(injection d6 with ea_ en_ ec_;(first|subst ea_|(injection ea_ with ea_;subst ea_));subst ec_;clear en_));have f9:=ak d7;have i6:=ak d8;clear d7 f8 d8;(first|simp only[add_plain]at b8|skip);obtain⟨g7,g8⟩:=Kd.EX 0 HO_3.out (t177:Int) d4 d5;replace d4:=eq_true d4;replace d5:=eq_true d5;obtain⟨h8,h9⟩:=Kd.EX 0 HO_3.out (t177:Int) (za) (za);have b3:=Kd.Ig HO_3.out (t177:Int) (wrap64 ((rd a2 t177)+1)))|((with_reducible refine Dm (t:=3) (p:=27) rfl ?_);refine DU (t:=3) (p:=27) (v:=?vo_w18) (w1:=(e7.setCell ⟨b2,(t177:Int).toNat,none⟩ (.int .i64 (wrap64 ((rd a2 t177)+1))))) ?hg ?ho ?hn ?hr ?_;(case ho=>rfl);(case hg=>rfl);(case hn=>rfl);(case hr=>first|(go_simp;done)|(go_simp;rfl));intro d9 hw;have hg:e7.grownBy d9 (some b2):=(by rw[hw];exact b3.2);have hp_:Kd.R (Kd.int .i64) 3 d9 w.heap.size (fun _=>True) (.slice (some ⟨b2,0,none⟩) a2.length f5) a9:=(by rw[hw,e1.out];exact b3.1);clear b3;replace HO_3:=ak (hp_);replace HB:=ak ((by rw[hw];exact BC (HB.out) f9.out:Below w.heap.size w d9));clear hg hw hp_))
       go_roundg k2
       case measure=>have:=b5.out;have:=b6.out;omega
       case rel=>exact⟨(a9),(wrap64 (a1+1)),zd,H',⟨by have:=b5.out;have:=b6.out;omega⟩,⟨zr HO_3.out⟩,⟨z0⟩⟩
      ·
       rw[if_neg c8]at H;have f3:=decide_eq_false c8;clear c8;have H':=ak H;clear H
       go_wp2
       go_roundg k2
       case measure=>have:=b5.out;have:=b6.out;omega
       case rel=>exact⟨(a2),(wrap64 (a0+1)),zd,H',⟨by have:=b5.out;have:=b6.out;omega⟩,⟨zr HO_3.out⟩,⟨z0⟩⟩
   ·
    rw[if_neg c5]at H;have d3:=decide_eq_false c5;clear c5;obtain rfl:=Option.some.inj H
    go_wp2
    go_ret
    exact⟨_,ze,zr HO_3.out,z0⟩
def Bd.f (a0 a1 a2:Int):Option (Bool):=if a0>=a1 then(some (decide (a0<=a2)))else(some false)
theorem Bd.calls (a0 a1 a2:Int) (r:Bool) (w:World) (h:Bd.f a0 a1 a2=some r):
 Calls Try.prog 73 #[.int .i64 a0,.int .i64 a1,.int .i64 a2] w fun e w'=>e= .returned (.bool r)/\Cj w w':=by
 have H:=h;clear h;unfold Bd.f at H
 by_cases c4:a0>=a1
 ·
  rw[if_pos c4]at H;have a3:=decide_eq_true c4;clear c4;obtain rfl:=Option.some.inj H
  go_enter Try.func73,Try.ntmps73
  go_wp2
  go_ret
  exact⟨by first|rfl|(simp;done)|(simp[*];done),z3⟩
 ·
  rw[if_neg c4]at H;have a3:=decide_eq_false c4;clear c4;obtain rfl:=Option.some.inj H
  go_enter Try.func73,Try.ntmps73
  go_wp2
  go_ret
  exact⟨by first|rfl|(simp;done)|(simp[*];done),z3⟩
def EB.f (a0:Int):Option (Bool):=if a0=0 then(some false)else((Bd.f a0 (-8) 8).bind fun t180=>(some t180))
theorem EB.calls (a0:Int) (r:Bool) (w:World) (h:EB.f a0=some r):
 Calls Try.prog 105 #[.int .i64 a0] w fun e w'=>e= .returned (.bool r)/\Cj w w':=by
 have H:=h;clear h;unfold EB.f at H
 by_cases c2:a0=0
 ·
  rw[if_pos c2]at H;have a1:(a0==0)=true:=beq_iff_eq.mpr c2;have a2:(a0 != 0)=false:=bne_eq_false_iff_eq.mpr c2;clear c2;obtain rfl:=Option.some.inj H
  go_enter Try.func105,Try.ntmps105
  go_wp2
  go_ret
  exact⟨by first|rfl|(simp;done)|(simp[*];done),z3⟩
 ·
  rw[if_neg c2]at H;have a1:(a0==0)=false:=beq_eq_false_iff_ne.mpr c2;have a2:(a0 != 0)=true:=bne_iff_ne.mpr c2;replace H:=gb H;obtain⟨t180,A3,H⟩:=H;obtain rfl:=Option.some.inj H
  go_enter Try.func105,Try.ntmps105
  go_wp2_with (first|(go_at_call 73;(with_reducible refine(Bd.calls a0 (-8) 8 t180 _ A3.out).mono ?_);rintro e w' ⟨rfl,⟨nd,rfl⟩⟩))
  go_ret
  exact⟨by first|rfl|(simp;done)|(simp[*];done),z3⟩
def Ck.l0:Nat->List Int->List Int->Int->Int->Option (Bool)
 |0,_,_,_,_=>none
 |k+1,x0,x5,x6,x7=>if x7<x6 then(if 0<=x7 then(if x7<(x5.length:Int)then((EB.f (rd x5 x7)).bind fun t182=>(if t182=true then(Ck.l0 k x0 x5 x6 (wrap64 (x7+1)))else(some false)))else(none))else(none))else(some (decide ((x0.length:Int)<=24)))
def Ck.f (k:Nat) (l0:List Int):Option (Bool):=Ck.l0 k l0 l0 (l0.length:Int) 0
theorem Ck.calls (k:Nat) (A0:Option Addr) (c0:Nat) (l0:List Int) (r:Bool) (w:World) (a4:Kd.C (Kd.int .i64) w A0 l0.length l0) (a5:l0.length<=c0) (h:Ck.f k l0=some r):
 Calls Try.prog 100 #[.slice A0 l0.length c0] w fun e w'=>e= .returned (.bool r)/\Cj w w':=by
 have a6:=ak a4;have b3:=ak a5;clear a4 a5;have H:=h;clear h;unfold Ck.f at H;have H':=ak H;clear H
 go_enter Try.func100,Try.ntmps100
 go_wp2
 go_loopg [7] k (fun kq v7 w'=> ∃(a0:Int),v7= .int .i64 a0/\AJ (Ck.l0 kq l0 l0 (l0.length:Int) a0=some r)/\AJ (kq<=k)/\Cj w w')
 case atStart=>exact⟨(0),zd,H',⟨Nat.le_refl _⟩,z3⟩
 case round=>
  clear H';obtain⟨a0,rfl,HA,a7,⟨m1,rfl⟩⟩:=hrel
  cases gk with
  |zero=>exact absurd HA.out (by simp[Ck.l0])
  |succ k1=>
   have H:=HA.out;clear HA;simp only[Ck.l0]at H
   by_cases c2:a0<(l0.length:Int)
   ·
    rw[if_pos c2]at H;have a8:=decide_eq_true c2;clear c2;replace H:=gi H;obtain⟨c3,H⟩:=H;have b1:=decide_eq_true c3;clear c3;replace H:=gi H;obtain⟨c4,H⟩:=H;have b2:=decide_eq_true c4;clear c4;replace H:=gb H;obtain⟨t182,A5,H⟩:=H
    by_cases c6:t182=true
    ·
     subst c6;rw[if_pos rfl]at H;have H':=ak H;clear H;obtain⟨a3,a1,a2,a9,b0⟩:=ai a6.out a0;cases a1
     go_wp2_with (first|(refine zl (some 12) Try.func105 #[.int .i64 (rd l0 a0)] ?_;(with_reducible refine(EB.calls (rd l0 a0) true _ A5.out).mono ?_);rintro e w' ⟨rfl,⟨nd,rfl⟩⟩;refine⟨_,rfl,?_⟩))
     go_roundg k1
     case measure=>have:=a7.out;omega
     case rel=>exact⟨(wrap64 (a0+1)),zd,H',⟨by have:=a7.out;omega⟩,z3⟩
    ·
     replace c6:=Bool.eq_false_iff.mpr c6;subst c6;rw[if_neg (show¬(false=true) by decide)]at H;obtain rfl:=Option.some.inj H;obtain⟨a3,a1,a2,a9,b0⟩:=ai a6.out a0;cases a1
     go_wp2_with (first|(refine zl (some 12) Try.func105 #[.int .i64 (rd l0 a0)] ?_;(with_reducible refine(EB.calls (rd l0 a0) false _ A5.out).mono ?_);rintro e w' ⟨rfl,⟨nd,rfl⟩⟩;refine⟨_,rfl,?_⟩))
     go_ret
     exact⟨by first|rfl|(simp;done)|(simp[*];done),z3⟩
   ·
    rw[if_neg c2]at H;have a8:=decide_eq_false c2;clear c2;obtain rfl:=Option.some.inj H
    go_wp2
    go_ret
    exact⟨by first|rfl|(simp;done)|(simp[*];done),z3⟩
mutual
def AW.l0:Nat->List (List Int)->Int->List (List Int)->Int->Int->Option (Bool)
 |0,_,_,_,_,_=>none
 |k+1,x0,x3,a1,a2,a0=>if a0<a2 then(if 0<=a0 then(if a0<(a1.length:Int)then(if((AD a1 a0).length:Int)=0 then(some false)else((Ck.f k (AD a1 a0)).bind fun t185=>(if t185=true then(AW.l0 k x0 (wrap64 (x3+((AD a1 a0).length:Int))) a1 a2 (wrap64 (a0+1)))else(some false))))else(none))else(none))else(if x3>20 then(some false)else((Aj.f k x0).bind fun t186=>(AW.l1 k t186 (t186.length:Int) 0)))
def AW.l1:Nat->List Int->Int->Int->Option (Bool)
 |0,_,_,_=>none
 |k+1,a1,a2,a0=>if a0<a2 then(if 0<=a0 then(if a0<(a1.length:Int)then(if(rd a1 a0)>2 then(some false)else(AW.l1 k a1 a2 (wrap64 (a0+1))))else(none))else(none))else(some true)
end
def AW.f (k:Nat) (l0:List (List Int)):Option (Bool):=(Bd.f (l0.length:Int) 1 4).bind fun t183=>(if t183=true then(AW.l0 k l0 0 l0 (l0.length:Int) 0)else(some false))
theorem AW.calls (k:Nat) (A0:Option Addr) (c0:Nat) (l0:List (List Int)) (r:Bool) (w:World) (d6:Kd.C (Kd.slice 3 (Kd.int .i64)) w A0 l0.length l0) (d7:l0.length<=c0) (h:AW.f k l0=some r):
 Calls Try.prog 72 #[.slice A0 l0.length c0] w fun e w'=>e= .returned (.bool r)/\Below w.heap.size w w':=by
 have b4:=ak d6;have f0:=ak d7;clear d6 d7;have HB:=ak (Below.refl w.heap.size w);have H:=h;clear h;unfold AW.f at H;replace H:=gb H;obtain⟨t183,A2,H⟩:=H
 by_cases c3:t183=true
 ·
  subst c3;rw[if_pos rfl]at H;have H':=ak H;clear H
  go_enter Try.func72,Try.ntmps72
  go_wp2_with (first|(refine zl (some 10) Try.func73 #[.int .i64 (l0.length:Int),.int .i64 1,.int .i64 4] ?_;(with_reducible refine(Bd.calls (l0.length:Int) 1 4 true _ A2.out).mono ?_);rintro e w' ⟨rfl,⟨nd,rfl⟩⟩;refine⟨_,rfl,?_⟩))
  go_loopg [3,14] k (fun kq v3 f1 w'=> ∃(a5:Int) (a0:Int),v3= .int .i64 a5/\f1= .int .i64 a0/\AJ (AW.l0 kq l0 a5 l0 (l0.length:Int) a0=some r)/\AJ (kq<=k)/\AJ (Below w.heap.size w w'))
  case atStart=>exact⟨(0),(0),zd,zd,H',⟨Nat.le_refl _⟩,⟨z0⟩⟩
  case round=>
   clear H';obtain⟨a5,a0,rfl,rfl,HA,b5,HB⟩:=hrel
   cases gk with
   |zero=>exact absurd HA.out (by simp[AW.l0])
   |succ k1=>
    have H:=HA.out;clear HA;simp only[AW.l0]at H
    by_cases c4:a0<(l0.length:Int)
    ·
     rw[if_pos c4]at H;have d0:=decide_eq_true c4;clear c4;replace H:=gi H;obtain⟨c5,H⟩:=H;have e2:=decide_eq_true c5;clear c5;replace H:=gi H;obtain⟨c6,H⟩:=H;have e3:=decide_eq_true c6;clear c6
     by_cases c7:((AD l0 a0).length:Int)=0
     ·
      rw[if_pos c7]at H;have d1:(((AD l0 a0).length:Int)==0)=true:=beq_iff_eq.mpr c7;have d2:(((AD l0 a0).length:Int) != 0)=false:=bne_eq_false_iff_eq.mpr c7;clear c7;obtain rfl:=Option.some.inj H;obtain⟨b6,a9,b0,a6,a1,a3,a4,b1,b2⟩:=al b4.out a0;cases a6;replace a1:=zx HB a1
      go_wp2
      go_ret
      exact⟨ze,z0⟩
     ·
      rw[if_neg c7]at H;have d1:(((AD l0 a0).length:Int)==0)=false:=beq_eq_false_iff_ne.mpr c7;have d2:(((AD l0 a0).length:Int) != 0)=true:=bne_iff_ne.mpr c7
      have e4: ¬((AD l0 a0)=[]):=fun h_=>c7 (by rw[h_];rfl)
      replace H:=gb H;obtain⟨t185,A8,H⟩:=H
      by_cases c9:t185=true
      ·
       subst c9;rw[if_pos rfl]at H;have H':=ak H;clear H;obtain⟨b6,a9,b0,a6,a1,a3,a4,b1,b2⟩:=al b4.out a0;cases a6;replace a1:=zx HB a1
       go_wp2_with (first|(go_at_call 100;(with_reducible refine(Ck.calls k1 _ _ (AD l0 a0) true _ ?side1 ?side2 A8.out).mono ?_);(case side1=>exact zc (Kd.AM a4.out HB.out));(case side2=>exact a3.out);rintro e w' ⟨rfl,⟨nd,rfl⟩⟩))
       go_roundg k1
       case measure=>have:=b5.out;omega
       case rel=>exact⟨(wrap64 (a5+((AD l0 a0).length:Int))),(wrap64 (a0+1)),zd,zd,H',⟨by have:=b5.out;omega⟩,⟨z0⟩⟩
      ·
       replace c9:=Bool.eq_false_iff.mpr c9;subst c9;rw[if_neg (show¬(false=true) by decide)]at H;obtain rfl:=Option.some.inj H;obtain⟨b6,a9,b0,a6,a1,a3,a4,b1,b2⟩:=al b4.out a0;cases a6;replace a1:=zx HB a1
       go_wp2_with (first|(go_at_call 100;(with_reducible refine(Ck.calls k1 _ _ (AD l0 a0) false _ ?side1 ?side2 A8.out).mono ?_);(case side1=>exact zc (Kd.AM a4.out HB.out));(case side2=>exact a3.out);rintro e w' ⟨rfl,⟨nd,rfl⟩⟩))
       go_ret
       exact⟨ze,z0⟩
    ·
     rw[if_neg c4]at H;have d0:=decide_eq_false c4;clear c4
     by_cases Du:a5>20
     ·
      rw[if_pos Du]at H;have b7:=decide_eq_true Du;clear Du;obtain rfl:=Option.some.inj H
      go_wp2
      go_ret
      exact⟨ze,z0⟩
     ·
      rw[if_neg Du]at H;have b7:=decide_eq_false Du;clear Du;replace H:=gb H;obtain⟨t186,f2,H⟩:=H;have H':=ak H;clear H
      go_wp2_with (first|(refine zl (some 34) Try.func67 #[.slice A0 l0.length c0] ?_;(with_reducible refine(Aj.calls k1 _ _ l0 t186 _ ?side1 ?side2 f2.out).mono ?_);(case side1=>exact zc (Kd.AM b4.out HB.out));(case side2=>exact f0.out);rintro e f7 ⟨f6,rfl,d8,hb⟩;refine⟨_,rfl,?_⟩;have b8:=ak (Kd.BA d8 (AA z0));replace HB:=ak (AG z0 hb);obtain⟨e5,e6,e7⟩:=Kd.Al b8.out;subst e7))
      go_loopg [36] k1 (fun kq f3 w'=> ∃(a2:Int),f3= .int .i64 a2/\AJ (AW.l1 kq t186 (t186.length:Int) a2=some r)/\AJ (kq<=k1)/\AJ (Kd.R (Kd.int .i64) 3 w' w.heap.size (fun _=>True) (.slice e5 t186.length e6) t186)/\AJ (Below w.heap.size w w'))
      case atStart=>exact⟨(0),zd,H',⟨Nat.le_refl _⟩,⟨zr b8.out⟩,⟨z0⟩⟩
      case round=>
       clear H';obtain⟨a2,rfl,HA,d9,HO_34,HB⟩:=hrel
       cases gk with
       |zero=>exact absurd HA.out (by simp[AW.l1])
       |succ k2=>
        have H:=HA.out;clear HA;simp only[AW.l1]at H
        by_cases a7:a2<(t186.length:Int)
        ·
         rw[if_pos a7]at H;have d3:=decide_eq_true a7;clear a7;replace H:=gi H;obtain⟨e0,H⟩:=H;have f4:=decide_eq_true e0;clear e0;replace H:=gi H;obtain⟨e1,H⟩:=H;have f5:=decide_eq_true e1;clear e1
         by_cases a8:(rd t186 a2)>2
         ·
          rw[if_pos a8]at H;have d4:=decide_eq_true a8;clear a8;obtain rfl:=Option.some.inj H;obtain⟨d5,b3,b9,e8,e9⟩:=ai (Kd.AN HO_34.out).2.2 a2;cases b3
          go_wp2
          go_ret
          exact⟨ze,z0⟩
         ·
          rw[if_neg a8]at H;have d4:=decide_eq_false a8;clear a8;have H':=ak H;clear H;obtain⟨d5,b3,b9,e8,e9⟩:=ai (Kd.AN HO_34.out).2.2 a2;cases b3
          go_wp2
          go_roundg k2
          case measure=>have:=b5.out;have:=d9.out;omega
          case rel=>exact⟨(wrap64 (a2+1)),zd,H',⟨by have:=b5.out;have:=d9.out;omega⟩,⟨zr HO_34.out⟩,⟨z0⟩⟩
        ·
         rw[if_neg a7]at H;have d3:=decide_eq_false a7;clear a7;obtain rfl:=Option.some.inj H
         go_wp2
         go_ret
         exact⟨ze,z0⟩
 ·
  replace c3:=Bool.eq_false_iff.mpr c3;subst c3;rw[if_neg (show¬(false=true) by decide)]at H;obtain rfl:=Option.some.inj H
  go_enter Try.func72,Try.ntmps72
  go_wp2_with (first|(refine zl (some 10) Try.func73 #[.int .i64 (l0.length:Int),.int .i64 1,.int .i64 4] ?_;(with_reducible refine(Bd.calls (l0.length:Int) 1 4 false _ A2.out).mono ?_);rintro e w' ⟨rfl,⟨nd,rfl⟩⟩;refine⟨_,rfl,?_⟩))
  go_ret
  exact⟨ze,z0⟩
def Ap.f (k:Nat) (l0:List (List Int)) (a1:Int):Option (Bool):=(AW.f k l0).bind fun t190=>(if t190=true then((Bd.f a1 0 (wrap64 ((l0.length:Int)-1))).bind fun t191=>(some t191))else(some false))
theorem Ap.calls (k:Nat) (A0:Option Addr) (c0:Nat) (l0:List (List Int)) (a1:Int) (r:Bool) (w:World) (a0:Kd.C (Kd.slice 3 (Kd.int .i64)) w A0 l0.length l0) (a2:l0.length<=c0) (h:Ap.f k l0 a1=some r):
 Calls Try.prog 57 #[.slice A0 l0.length c0,.int .i64 a1] w fun e w'=>e= .returned (.bool r)/\Below w.heap.size w w':=by
 have a3:=ak a0;have a4:=ak a2;clear a0 a2;have HB:=ak (Below.refl w.heap.size w);have H:=h;clear h;unfold Ap.f at H;replace H:=gb H;obtain⟨t190,A3,H⟩:=H
 by_cases c4:t190=true
 ·
  subst c4;rw[if_pos rfl]at H;replace H:=gb H;obtain⟨t191,A5,H⟩:=H;obtain rfl:=Option.some.inj H
  go_enter Try.func57,Try.ntmps57
  go_wp2_with (first|(refine zl (some 6) Try.func72 #[.slice A0 l0.length c0] ?_;(with_reducible refine(AW.calls k _ _ l0 true _ ?side1 ?side2 A3.out).mono ?_);(case side1=>exact zc a3.out);(case side2=>exact a4.out);rintro e w6 ⟨rfl,hb⟩;refine⟨_,rfl,?_⟩;replace HB:=ak (AG z0 hb))|(go_at_call 73;(with_reducible refine(Bd.calls a1 0 (wrap64 ((l0.length:Int)-1)) t191 _ A5.out).mono ?_);rintro e w' ⟨rfl,⟨nd,rfl⟩⟩))
  go_ret
  exact⟨ze,z0⟩
 ·
  replace c4:=Bool.eq_false_iff.mpr c4;subst c4;rw[if_neg (show¬(false=true) by decide)]at H;obtain rfl:=Option.some.inj H
  go_enter Try.func57,Try.ntmps57
  go_wp2_with (first|(refine zl (some 6) Try.func72 #[.slice A0 l0.length c0] ?_;(with_reducible refine(AW.calls k _ _ l0 false _ ?side1 ?side2 A3.out).mono ?_);(case side1=>exact zc a3.out);(case side2=>exact a4.out);rintro e w7 ⟨rfl,hb⟩;refine⟨_,rfl,?_⟩;replace HB:=ak (AG z0 hb)))
  go_ret
  exact⟨ze,z0⟩
def CO.f (l0:List Int):Option (List Int):=(some (([]:List Int):List Int)).bind fun a0=>(if a0.length+l0.length<17592186044416 then(some (a0++l0))else(none))
theorem CO.calls (A0:Option Addr) (c0:Nat) (l0 r:List Int) (w:World) (a8:Kd.C (Kd.int .i64) w A0 l0.length l0) (a9:l0.length<=c0) (h:CO.f l0=some r):
 Calls Try.prog 68 #[.slice A0 l0.length c0] w fun e w'=> ∃b0:Value,e= .returned (b0)/\Kd.R (Kd.int .i64) 3 w' w.heap.size (fun _=>True) b0 r/\Below w.heap.size w w':=by
 have b6:=ak a8;have b8:=ak a9;clear a8 a9;have HB:=ak (Below.refl w.heap.size w);have H:=h;clear h;unfold CO.f at H;obtain⟨a0,a1⟩: ∃y_:List Int,y_=(([]:List Int)):=⟨_,rfl⟩;replace H:(if a0.length+l0.length<17592186044416 then(some (a0++l0))else(none))=some r:=zy a1 H;have a4:=ak a1;clear a1;replace H:=gi H;obtain⟨c2,H⟩:=H;have b3:=ak c2;clear c2;obtain⟨b4,a2⟩: ∃y_:List Int,y_=(a0++l0):=⟨_,rfl⟩;replace H:(some b4)=some r:=zy a2 H;have a6:=ak a2;clear a2;obtain rfl:=Option.some.inj H
 go_enter Try.func68,Try.ntmps68
 go_wp2_with (first|((with_reducible refine Ar (N:=3) rfl ?_);refine Kd.DS (Kd.int .i64) _ 3 ?hg (N:=3) ?hd (xs:=([]:List Int)) (inner:=[]) (ok:=fun _=>True) (okp:=fun _=>True) ?hr ?hp (fun _ hk=>hk) trivial (Below.refl _ _) (Nat.le_refl _) (by simp) ?_;(case hd=>rfl);(case hg=>rfl);(case hr=>first|(go_simp;done)|(go_simp;rfl));(case hp=>exact(Av.none _ _));intro b5 w3 a3 hb hg_ hnew_;clear hg_ hnew_;(first|rw[<-a4.out]at a3|(simp only[Int.reduceToNat]at a3;rw[<-a4.out]at a3));have a5:=ak (Kd.BA a3 (AA z0));replace HB:=ak (AG z0 hb);clear hb a3)|((with_reducible refine Ak (b:= .append) (xs:= #[.tmp 3,.tmp 4]) rfl ?_);at_builtin;refine Kd.Cv (Kd.int .i64) (w0:=w) w.heap.size rfl (.tmp 3) (.tmp 4) 47 3 (.int .i64 0) 8 rfl Try.underlying47 BT rfl (by decide) (by omega) b5 a0 l0 _ _ _ (fun _=>True) (fun _=>False) rfl rfl ?aO ?aR (fun _ _ h=>h) (fun _ h=>h.elim) ?aF ?aB ?aS ?aL ?_;(case aR=>exact zc (Kd.AM b6.out HB.out));(case aB=>exact z0);(case aF=>exact(fun _ _=>trivial));(case aO=>exact(zr a5.out));(case aS=>exact(AA z0));(case aL=>have:=b3.out;omega);intro b7 w5 ho hb hg hat;rw[<-a6.out]at ho;have b1:=ak (hb);have b2:=ak (ho);clear HB a5;have HB:=b1;have a7:=b2;clear b1 b2 ho hb hg hat))
 go_ret
 exact⟨_,ze,zr a7.out,z0⟩
def Aw.l0:Nat->List (List Int)->List (List Int)->Int->Int->Option ((List (List Int)))
 |0,_,_,_,_=>none
 |k+1,x3,x7,x8,x9=>if x9<x8 then(if 0<=x9 then(if x9<(x7.length:Int)then((CO.f (AD x7 x9)).bind fun t202=>(if x3.length<5864062014805 then(Aw.l0 k (x3++[t202]) x7 x8 (wrap64 (x9+1)))else(none)))else(none))else(none))else(some x3)
def Aw.f (k:Nat) (l0:List (List Int)):Option ((List (List Int))):=Aw.l0 k (([]:List (List Int))) l0 (l0.length:Int) 0
theorem Aw.calls (k:Nat) (A0:Option Addr) (c0:Nat) (l0 r:List (List Int)) (w:World) (c1:Kd.C (Kd.slice 3 (Kd.int .i64)) w A0 l0.length l0) (d0:l0.length<=c0) (h:Aw.f k l0=some r):
 Calls Try.prog 58 #[.slice A0 l0.length c0] w fun e w'=> ∃d1:Value,e= .returned (d1)/\Kd.S (Kd.slice 3 (Kd.int .i64)) 47 w' w.heap.size (fun _=>True) d1 r/\Below w.heap.size w w':=by
 have d9:=ak c1;have e8:=ak d0;clear c1 d0;have HB:=ak (Below.refl w.heap.size w);have H:=h;clear h;unfold Aw.f at H;obtain⟨b0,a4⟩: ∃y_:List (List Int),y_=(([]:List (List Int))):=⟨_,rfl⟩;replace H:(Aw.l0 k b0 l0 (l0.length:Int) 0)=some r:=zy a4 H;have a7:=ak a4;clear a4;have H':=ak H;clear H
 go_enter Try.func58,Try.ntmps58
 go_wp2_with (first|((with_reducible refine Ar (N:=6) rfl ?_);refine Kd.FO (Kd.slice 3 (Kd.int .i64)) _ 47 ?hg (N:=6) ?hd (xs:=([]:List (List Int))) (inner:=[]) (ok:=fun _=>True) (okp:=fun _=>True) ?hr ?hp (fun _ hk=>hk) trivial (Below.refl _ _) (Nat.le_refl _) (by simp) ?_;(case hd=>rfl);(case hg=>rfl);(case hr=>first|(go_simp;done)|(go_simp;rfl));(case hp=>exact(Av.none _ _));intro e1 w2 a6 hb hg_ hnew_;clear hg_ hnew_;(first|rw[<-a7.out]at a6|(simp only[Int.reduceToNat]at a6;rw[<-a7.out]at a6));have b7:=ak (Kd.BS a6 (AA z0));replace HB:=ak (AG z0 hb);clear hb a6))
 go_loopg [3,9] k (fun kq v3 v9 w'=> ∃(a2:List (List Int)) (a0:Int),v9= .int .i64 a0/\AJ (Aw.l0 kq a2 l0 (l0.length:Int) a0=some r)/\AJ (kq<=k)/\AJ (Kd.S (Kd.slice 3 (Kd.int .i64)) 47 w' w.heap.size (fun _=>True) v3 a2)/\AJ (Below w.heap.size w w'))
 case atStart=>exact⟨(b0),(0),zd,H',⟨Nat.le_refl _⟩,⟨zs b7.out⟩,⟨z0⟩⟩
 case round=>
  clear H';obtain⟨a2,a0,rfl,HA,d2,HO_3,HB⟩:=hrel
  cases gk with
  |zero=>exact absurd HA.out (by simp[Aw.l0])
  |succ k1=>
   have H:=HA.out;clear HA;simp only[Aw.l0]at H
   by_cases c4:a0<(l0.length:Int)
   ·
    rw[if_pos c4]at H;have d5:=decide_eq_true c4;clear c4;replace H:=gi H;obtain⟨c5,H⟩:=H;have e2:=decide_eq_true c5;clear c5;replace H:=gi H;obtain⟨c6,H⟩:=H;have e3:=decide_eq_true c6;clear c6;replace H:=gb H;obtain⟨t202,A7,H⟩:=H;replace H:=gi H;obtain⟨c8,H⟩:=H;have d6:=ak c8;clear c8;obtain⟨b1,a5⟩: ∃y_:List (List Int),y_=(a2++[t202]):=⟨_,rfl⟩;replace H:(Aw.l0 k1 b1 l0 (l0.length:Int) (wrap64 (a0+1)))=some r:=zy a5 H;have b8:=ak a5;clear a5;have H':=ak H;clear H;obtain⟨e0,b2,b3,d7,a3,a8,a9,e4,e5⟩:=al d9.out a0;cases d7;replace a3:=zx HB a3
    go_wp2_with (first|(refine zl (some 15) Try.func68 #[.slice b2 (AD l0 a0).length b3] ?_;(with_reducible refine(CO.calls _ _ (AD l0 a0) t202 _ ?side1 ?side2 A7.out).mono ?_);(case side1=>exact zc (Kd.AM a9.out HB.out));(case side2=>exact a8.out);rintro e w9 ⟨e6,rfl,b4,hb⟩;refine⟨_,rfl,?_⟩;replace HO_3:=ak (Kd.Cq (zs HO_3.out) (Kd.CC b4) hb);have a1:=ak (Kd.BA b4 (AA z0));replace HB:=ak (AG z0 hb);obtain⟨b5,b6,d8⟩:=Kd.Al a1.out;subst d8)|((with_reducible refine Ak (b:= .append) (xs:= #[.tmp 13,.tmp 16]) rfl ?_);at_builtin;refine Kd.Fq (Kd.slice 3 (Kd.int .i64)) (w0:=w) w.heap.size rfl (.tmp 13) (.tmp 16) 22 47 (.slice none 0 0) 24 rfl Try.underlying22 Hk rfl (by decide) (by omega) u3 a2 t202 [.slice b5 t202.length b6] (fun _=>True) (fun k_=>some k_=(.slice b5 t202.length b6:Value).ownBlock) rfl rfl ?aP (fun k_ hk_=>((Kd.AV (ok':=fun k_=>((fun _=>True)) k_/\some k_≠(u3:Value).ownBlock) (Kd.CI (a1.out) (Kd.CB HO_3.out) (by decide)) (fun k_ hk=>⟨trivial,hk.2⟩))).1 k_ hk_.symm) ?aF ?aO ?aB ?aS ?aL ?_;(case aP=>exact Kd.FP (Kd.AV (Kd.DV rfl (Kd.AV (ok':=fun k_=>((fun _=>True)) k_/\some k_≠(u3:Value).ownBlock) (Kd.CI (a1.out) (Kd.CB HO_3.out) (by decide)) (fun k_ hk=>⟨trivial,hk.2⟩))) (fun _ h_=>h_)));(case aB=>exact z0);(case aF=>exact(fun _ _=>trivial));(case aO=>exact(by(with_reducible repeat(first|apply Kd.Bj|apply Kd.Bh|apply Kd.Bx));exact Kd.Af HO_3.out (fun k_ hk=>⟨trivial,fun e_=>hk.2 e_⟩)));(case aS=>exact(AA z0));(case aL=>have:=d6.out;omega);intro e7 f0 ho hb hg hat;rw[<-b8.out]at ho;have d3:=ak (hb);have d4:=ak (ho);clear HB HO_3 a1;have HB:=d3;have b9:=d4;clear d3 d4 ho hb hg hat))
    go_roundg k1
    case measure=>have:=d2.out;omega
    case rel=>exact⟨(b1),(wrap64 (a0+1)),zd,H',⟨by have:=d2.out;omega⟩,⟨zs b9.out⟩,⟨z0⟩⟩
   ·
    rw[if_neg c4]at H;have d5:=decide_eq_false c4;clear c4;obtain rfl:=Option.some.inj H
    go_wp2
    go_ret
    exact⟨_,ze,zs HO_3.out,z0⟩
def CM.l0:Nat->List Int->List Int->Int->Option (List Int)
 |0,_,_,_=>none
 |k+1,x0,x3,x4=>if x4>=0 then(if 0<=x4 then(if x4<(x0.length:Int)then(if x3.length<17592186044416 then(CM.l0 k x0 (x3++[wrap64 (-(rd x0 x4))]) (wrap64 (x4-1)))else(none))else(none))else(none))else(some x3)
def CM.f (k:Nat) (l0:List Int):Option (List Int):=CM.l0 k l0 (([]:List Int)) (wrap64 ((l0.length:Int)-1))
theorem CM.calls (k:Nat) (A0:Option Addr) (c0:Nat) (l0 r:List Int) (w:World) (b2:Kd.C (Kd.int .i64) w A0 l0.length l0) (b3:l0.length<=c0) (h:CM.f k l0=some r):
 Calls Try.prog 59 #[.slice A0 l0.length c0] w fun e w'=> ∃b4:Value,e= .returned (b4)/\Kd.R (Kd.int .i64) 3 w' w.heap.size (fun _=>True) b4 r/\Below w.heap.size w w':=by
 have d0:=ak b2;have d8:=ak b3;clear b2 b3;have HB:=ak (Below.refl w.heap.size w);have H:=h;clear h;unfold CM.f at H;obtain⟨a7,a3⟩: ∃y_:List Int,y_=(([]:List Int)):=⟨_,rfl⟩;replace H:(CM.l0 k l0 a7 (wrap64 ((l0.length:Int)-1)))=some r:=zy a3 H;have a6:=ak a3;clear a3;have H':=ak H;clear H
 go_enter Try.func59,Try.ntmps59
 go_wp2_with (first|((with_reducible refine Ar (N:=5) rfl ?_);refine Kd.DS (Kd.int .i64) _ 3 ?hg (N:=5) ?hd (xs:=([]:List Int)) (inner:=[]) (ok:=fun _=>True) (okp:=fun _=>True) ?hr ?hp (fun _ hk=>hk) trivial (Below.refl _ _) (Nat.le_refl _) (by simp) ?_;(case hd=>rfl);(case hg=>rfl);(case hr=>first|(go_simp;done)|(go_simp;rfl));(case hp=>exact(Av.none _ _));intro d2 w2 a5 hb hg_ hnew_;clear hg_ hnew_;(first|rw[<-a6.out]at a5|(simp only[Int.reduceToNat]at a5;rw[<-a6.out]at a5));have a9:=ak (Kd.BA a5 (AA z0));replace HB:=ak (AG z0 hb);clear hb a5))
 go_loopg [3,4] k (fun kq v3 v4 w'=> ∃(a1:List Int) (a0:Int),v4= .int .i64 a0/\AJ (CM.l0 kq l0 a1 a0=some r)/\AJ (kq<=k)/\AJ (Kd.R (Kd.int .i64) 3 w' w.heap.size (fun _=>True) v3 a1)/\AJ (Below w.heap.size w w'))
 case atStart=>exact⟨(a7),(wrap64 ((l0.length:Int)-1)),zd,H',⟨Nat.le_refl _⟩,⟨zr a9.out⟩,⟨z0⟩⟩
 case round=>
  clear H';obtain⟨a1,a0,rfl,HA,b5,HO_3,HB⟩:=hrel
  cases gk with
  |zero=>exact absurd HA.out (by simp[CM.l0])
  |succ k1=>
   have H:=HA.out;clear HA;simp only[CM.l0]at H
   by_cases c4:a0>=0
   ·
    rw[if_pos c4]at H;have b8:=decide_eq_true c4;clear c4;replace H:=gi H;obtain⟨c5,H⟩:=H;have d3:=decide_eq_true c5;clear c5;replace H:=gi H;obtain⟨c6,H⟩:=H;have d4:=decide_eq_true c6;clear c6;replace H:=gi H;obtain⟨c7,H⟩:=H;have b9:=ak c7;clear c7;obtain⟨a8,a4⟩: ∃y_:List Int,y_=(a1++[wrap64 (-(rd l0 a0))]):=⟨_,rfl⟩;replace H:(CM.l0 k1 l0 a8 (wrap64 (a0-1)))=some r:=zy a4 H;have b0:=ak a4;clear a4;have H':=ak H;clear H;obtain⟨d1,c1,a2,d5,d6⟩:=ai d0.out a0;cases c1;replace a2:=zx HB a2
    go_wp2_with (first|((with_reducible refine Ak (b:= .append) (xs:= #[.tmp 13,.tmp 19]) rfl ?_);at_builtin;refine Kd.Cy (Kd.int .i64) (w0:=w) w.heap.size rfl (.tmp 13) (.tmp 19) 47 3 (.int .i64 0) 8 rfl Try.underlying47 BT rfl (by decide) (by omega) u3 a1 (wrap64 (-(rd l0 a0))) [.int .i64 (wrap64 (-(rd l0 a0)))] (fun _=>True) (fun _=>False) rfl rfl ?aP (fun _ hk=>hk.elim) ?aF ?aO ?aB ?aS ?aL ?_;(case aP=>exact rfl);(case aB=>exact z0);(case aF=>exact(fun _ _=>trivial));(case aO=>exact(zr HO_3.out));(case aS=>exact(AA z0));(case aL=>have:=b9.out;omega);intro d7 w8 ho hb hg hat;rw[<-b0.out]at ho;have b6:=ak (hb);have b7:=ak (ho);clear HB HO_3;have HB:=b6;have b1:=b7;clear b6 b7 ho hb hg hat))
    go_roundg k1
    case measure=>have:=b5.out;omega
    case rel=>exact⟨(a8),(wrap64 (a0-1)),zd,H',⟨by have:=b5.out;omega⟩,⟨zr b1.out⟩,⟨z0⟩⟩
   ·
    rw[if_neg c4]at H;have b8:=decide_eq_false c4;clear c4;obtain rfl:=Option.some.inj H
    go_wp2
    go_ret
    exact⟨_,ze,zr HO_3.out,z0⟩
def BX.f (k:Nat) (l0:List (List Int)):Option ((List (List Int))×Bool):=(AW.f k l0).bind fun t215=>(if t215=true then(some (l0,true))else(some (([]:List (List Int)),false)))
theorem BX.calls (k:Nat) (a1:Nat->Prop) (b_:Nat) (A0:Option Addr) (c0:Nat) (l0 r1:List (List Int)) (r2:Bool) (w:World) (hb_:b_<=w.heap.size) (a3:Kd.S (Kd.slice 3 (Kd.int .i64)) 47 w b_ (fun k_=>a1 k_) (.slice A0 l0.length c0) l0) (h:BX.f k l0=some (r1,r2)):
 Calls Try.prog 60 #[.slice A0 l0.length c0] w fun e w'=> ∃a2:Value,e= .returned (.tuple #[a2,.bool r2])/\Kd.S (Kd.slice 3 (Kd.int .i64)) 47 w' b_ (fun k_=>(a1 k_\/w.heap.size<=k_)) a2 r1/\Below w.heap.size w w':=by
 have a0:=ak (show Kd.S (Kd.slice 3 (Kd.int .i64)) 47 w b_ (fun k_=>(a1 k_\/w.heap.size<=k_)) (.slice A0 l0.length c0) l0 from Kd.Af a3 (fun k_ hk=> .inl hk));have HB:=ak (Below.refl w.heap.size w);have H:=h;clear h;unfold BX.f at H;replace H:=gb H;obtain⟨t215,A2,H⟩:=H
 by_cases c3:t215=true
 ·
  subst c3;rw[if_pos rfl]at H;simp only[Option.some.injEq,Prod.mk.injEq]at H;obtain⟨rfl,rfl⟩:=H
  go_enter Try.func60,Try.ntmps60
  go_wp2_with (first|(refine zl (some 5) Try.func72 #[.slice A0 l0.length c0] ?_;(with_reducible refine(AW.calls k _ _ l0 true _ ?side1 ?side2 A2.out).mono ?_);(case side1=>exact zc (Kd.Aa a0.out).2.2);(case side2=>exact(Kd.Aa a0.out).2.1);rintro e w4 ⟨rfl,hb⟩;refine⟨_,rfl,?_⟩;replace a0:=ak (Kd.DO (zs a0.out) hb);replace HB:=ak (AG z0 hb)))
  go_ret2
  exact⟨_,ze,zs a0.out,z0⟩
 ·
  replace c3:=Bool.eq_false_iff.mpr c3;subst c3;rw[if_neg (show¬(false=true) by decide)]at H;simp only[Option.some.injEq,Prod.mk.injEq]at H;obtain⟨rfl,rfl⟩:=H
  go_enter Try.func60,Try.ntmps60
  go_wp2_with (first|(refine zl (some 5) Try.func72 #[.slice A0 l0.length c0] ?_;(with_reducible refine(AW.calls k _ _ l0 false _ ?side1 ?side2 A2.out).mono ?_);(case side1=>exact zc (Kd.Aa a0.out).2.2);(case side2=>exact(Kd.Aa a0.out).2.1);rintro e w5 ⟨rfl,hb⟩;refine⟨_,rfl,?_⟩;replace a0:=ak (Kd.DO (zs a0.out) hb);replace HB:=ak (AG z0 hb)))
  go_ret2
  exact⟨_,ze,(by first|exact Kd.Eg _ _ _ _ _|exact Kd.Ii _ _ _ _ _|exact Kd.Eg _ _ _ _ _|exact Kd.Iy _ _ _ _ _|exact Kd.Gn _ _ _ _ _),z0⟩
def DR.f (k:Nat) (l0:List (List Int)) (a1:Int):Option ((List (List Int))×Bool):=(Ap.f k l0 a1).bind fun t216=>(if t216=true then((Aw.f k l0).bind fun t217=>(if 0<=a1 then(if a1<(l0.length:Int)then((CM.f k (AD l0 a1)).bind fun t221=>(if a1<(t217.length:Int)then((BX.f k (t217.set (a1:Int).toNat t221)).bind fun a0=>(some (a0.1,a0.2)))else(none)))else(none))else(none)))else(some (([]:List (List Int)),false)))
theorem DR.calls (k:Nat) (A0:Option Addr) (c0:Nat) (l0:List (List Int)) (a1:Int) (r1:List (List Int)) (r2:Bool) (w:World) (f4:Kd.C (Kd.slice 3 (Kd.int .i64)) w A0 l0.length l0) (f5:l0.length<=c0) (h:DR.f k l0 a1=some (r1,r2)):
 Calls Try.prog 15 #[.slice A0 l0.length c0,.int .i64 a1] w fun e w'=> ∃f6:Value,e= .returned (.tuple #[f6,.bool r2])/\Kd.S (Kd.slice 3 (Kd.int .i64)) 47 w' w.heap.size (fun k_=>(w.heap.size<=k_)) f6 r1/\Below w.heap.size w w':=by
 have b5:=ak f4;have d2:=ak f5;clear f4 f5;have HB:=ak (Below.refl w.heap.size w);have H:=h;clear h;unfold DR.f at H;replace H:=gb H;obtain⟨t216,A3,H⟩:=H
 by_cases c4:t216=true
 ·
  subst c4;rw[if_pos rfl]at H;replace H:=gb H;obtain⟨t217,A5,H⟩:=H;replace H:=gi H;obtain⟨c6,H⟩:=H;have h4:=decide_eq_true c6;clear c6;replace H:=gi H;obtain⟨c7,H⟩:=H;have h5:=decide_eq_true c7;clear c7;replace H:=gb H;obtain⟨t221,A8,H⟩:=H;replace H:=gi H;obtain⟨c9,H⟩:=H;have h6:=decide_eq_true c9;clear c9;obtain⟨a3,a9⟩: ∃y_:List (List Int),y_=(t217.set (a1:Int).toNat t221):=⟨_,rfl⟩;replace H:((BX.f k a3).bind fun b6=>(some (b6.1,b6.2)))=some (r1,r2):=zy a9 H;have f0:=ak a9;clear a9;replace H:=gb H;obtain⟨⟨t225,t228⟩,g3,H⟩:=H;dsimp only at H;simp only[Option.some.injEq,Prod.mk.injEq]at H;obtain⟨rfl,rfl⟩:=H
  go_enter Try.func15,Try.ntmps15
  go_wp2_with (first|(refine zl (some 9) Try.func57 #[.slice A0 l0.length c0,.int .i64 a1] ?_;(with_reducible refine(Ap.calls k _ _ l0 a1 true _ ?side1 ?side2 A3.out).mono ?_);(case side1=>exact zc b5.out);(case side2=>exact d2.out);rintro e i3 ⟨rfl,hb⟩;refine⟨_,rfl,?_⟩;replace HB:=ak (AG z0 hb))|(refine zl (some 12) Try.func58 #[.slice A0 l0.length c0] ?_;(with_reducible refine(Aw.calls k _ _ l0 t217 _ ?side1 ?side2 A5.out).mono ?_);(case side1=>exact zc (Kd.AM b5.out HB.out));(case side2=>exact d2.out);rintro e i4 ⟨h7,rfl,a5,hb⟩;refine⟨_,rfl,?_⟩;have a0:=ak (Kd.BS (Kd.EM (M:=fun k_=>(w.heap.size<=k_)) a5 (AA z0) (fun k_ h_=>h_)) (AA z0));replace HB:=ak (AG z0 hb);have b2:0<=(a1:Int):=za;have b3:a1<(l0.length:Int):=za;obtain⟨g9,d3,d4,f9,a4,a7,a8⟩:=Cl b5.out a1 b2 b3;cases f9;replace a4:=(HB.out.cell (World.block_lt_of_cell? w _ a4)).trans a4;have d0:=ak a8;have d1:=ak a7;clear a8 a7;replace b2:=eq_true b2;replace b3:=eq_true b3)|(refine zl (some 19) Try.func59 #[.slice d3 (AD l0 a1).length d4] ?_;(with_reducible refine(CM.calls k _ _ (AD l0 a1) t221 _ ?side1 ?side2 A8.out).mono ?_);(case side1=>exact zc (Kd.AM d0.out HB.out));(case side2=>exact d1.out);rintro e d5 ⟨b0,rfl,a5,hb⟩;refine⟨_,rfl,?_⟩;replace a0:=ak (Kd.Cq (zs a0.out) (Kd.CC a5) hb);have a6:=ak (Kd.BA (Kd.DX (M:=fun k_=>(w.heap.size<=k_)) a5 (AA z0) (fun k_ h_=>h_)) (AA z0));replace HB:=ak (AG z0 hb);have d6:0<=(a1:Int):=za;have d7:(a1:Int)<((t217.length:Int):Int):=za;obtain⟨a2,b4,d8,d9,g0,h8,e0⟩:=Kd.GP a0.out (by omega);(first|cases d8|(injection d8 with ea_ en_ ec_;(first|subst ea_|(injection ea_ with ea_;subst ea_));subst ec_;clear en_));have g1:=ak d9;have h9:=ak e0;clear d9 g0 e0;obtain⟨_,i0,f1,e1,b7,b8,_,_⟩:=Kd.FL a0.out [] (a1:Int) d6 d7;obtain⟨g5,rfl,g6⟩:=e1;have e2:=b7 0 _ rfl;have e3:=b8 0;(try simp only[show((Kd.slice 3 (Kd.int .i64))).sz=1 from rfl,Nat.mul_one,Nat.add_zero]at e2);(try simp only[show((Kd.slice 3 (Kd.int .i64))).sz=1 from rfl,Nat.mul_one,Nat.add_zero]at e3);clear f1 b7 b8;replace d6:=eq_true d6;replace d7:=eq_true d7;have n_:=ak (Kd.Af (ok':=(fun k_=>(w.heap.size<=k_)/\some k_≠(b0:Value).ownBlock)) a0.out (fun k_ hk=>⟨hk.1.1,hk.2⟩));clear a0;have a0:=n_;clear n_;have g2:=ak (show Kd.S (Kd.slice 3 (Kd.int .i64)) 47 d5 w.heap.size (fun k_=>((fun k_=>(w.heap.size<=k_))) k_/\¬((fun k_=>some k_=(b0:Value).ownBlock)) k_) (.slice (some ⟨a2,0,none⟩) t217.length b4) t217 from(by(with_reducible repeat(first|apply Kd.Bj|apply Kd.Bh|apply Kd.Bx));exact Kd.Af a0.out (fun k_ hk=>⟨hk.1,fun e_=>hk.2 e_⟩)));obtain⟨h3,i1,f2,e4,b9,c1,e5,e6⟩:=Kd.FL g2.out [] (a1:Int) (za) (by have h_:(a1:Int)<((t217.length:Int):Int):=za;first|exact h_|(have e_:=(Kd.Aa a0.out).1;omega)|simpa using h_);obtain⟨g7,rfl,g8⟩:=e4;have b1:=Kd.JK e6 (za) (by have h_:(a1:Int)<((t217.length:Int):Int):=za;first|exact h_|(have e_:=(Kd.Aa a0.out).1;omega)|simpa using h_) (seg:=[b0]) (j:=0) (show 1<=1 from by decide) (x':=t221) (Kd.FP (Kd.AV (Kd.DV rfl (Kd.AV (ok':=fun k_=>((fun k_=>(w.heap.size<=k_))) k_/\k_≠a2) (Kd.CI (a6.out) (Kd.CB a0.out) (by decide)) (fun k_ hk=>⟨hk.1.1,fun e_=>(hk.2) (by rw[e_];rfl)⟩))) (fun _ h_=>Or.inr (h_)))) (fun _ hk=>hk) (fun k_ hk_=>((Kd.AV (ok':=fun k_=>((fun k_=>(w.heap.size<=k_))) k_/\k_≠a2) (Kd.CI (a6.out) (Kd.CB a0.out) (by decide)) (fun k_ hk=>⟨hk.1.1,fun e_=>(hk.2) (by rw[e_];rfl)⟩))).1 k_ hk_.symm);have e7:=b9 0 _ rfl;(try simp only[show((Kd.slice 3 (Kd.int .i64))).sz=1 from rfl,Nat.mul_one,Nat.add_zero]at e7);have e8:=c1 0;(try simp only[show((Kd.slice 3 (Kd.int .i64))).sz=1 from rfl,Nat.mul_one,Nat.add_zero]at e8);clear f2 b9 c1;(try simp only[show((Kd.slice 3 (Kd.int .i64))).sz=1 from rfl,Nat.mul_one,Nat.add_zero]at b1))|((with_reducible refine Dm (t:=47) (p:=20) rfl ?_);refine DU (t:=47) (p:=20) (v:=?vo_w16) (w1:=(d5.setCell ⟨a2,(a1:Int).toNat,none⟩ (b0))) ?hg ?ho ?hn ?hr ?_;(case ho=>rfl);(case hg=>rfl);(case hn=>rfl);(case hr=>first|(go_simp;done)|(go_simp;rfl)|(obtain⟨A_,c_,e_⟩:=Kd.Al a6.out;subst e_;first|(go_simp;done)|(go_simp;rfl)));intro e9 hw;have hg:d5.grownBy e9 (some a2):=(by rw[hw];exact b1.2);have hp_:Kd.S (Kd.slice 3 (Kd.int .i64)) 47 e9 w.heap.size (fun k_=>(w.heap.size<=k_)) (.slice (some ⟨a2,0,none⟩) t217.length b4) a3:=(by rw[hw,f0.out];exact b1.1);clear b1;have f7:=ak (hp_);have f8:=ak ((by rw[hw];exact BC (HB.out) g1.out:Below w.heap.size w e9));clear a0 HB a6;have a0:=f7;have HB:=f8;clear f7 f8 hg hw hp_)|((with_reducible refine zg 60 rfl ?_);refine OD (some 22) rfl rfl Try.func60 (by kernel_rfl) rfl #[.slice (some ⟨a2,0,none⟩) a3.length b4] rfl (by(try simp only[List.map_toArray,List.map_cons,List.map_nil]);first|done|(rw[show a3.length=t217.length from(Kd.Aa a0.out).1.symm]<;>rfl)|rfl|(simp only[List.length_drop,List.length_take];rfl)) ?_;(with_reducible refine(BX.calls k (fun k_=>(w.heap.size<=k_)) w.heap.size _ _ a3 t225 t228 _ (AA z0) ?side1 g3.out).mono ?_);(case side1=>rw[show a3.length=t217.length from(Kd.Aa a0.out).1.symm];exact EH (a0.out));rintro e i5 ⟨i2,rfl,a5,hb⟩;refine⟨_,rfl,?_⟩;replace a0:=ak (Kd.DO (zs a0.out) hb);have f3:=ak (GI (Kd.Af (ok':=fun k_=>(w.heap.size<=k_)) a5 (fun k_ hk_=>Or.elim hk_ (fun hs_=>hs_) (fun hn_=>(Nat.le_trans (AA z0) hn_)))) (AA z0));replace HB:=ak (AG z0 hb)))
  go_ret2
  exact⟨_,ze,zs f3.out,z0⟩
 ·
  replace c4:=Bool.eq_false_iff.mpr c4;subst c4;rw[if_neg (show¬(false=true) by decide)]at H;simp only[Option.some.injEq,Prod.mk.injEq]at H;obtain⟨rfl,rfl⟩:=H
  go_enter Try.func15,Try.ntmps15
  go_wp2_with (first|(refine zl (some 9) Try.func57 #[.slice A0 l0.length c0,.int .i64 a1] ?_;(with_reducible refine(Ap.calls k _ _ l0 a1 false _ ?side1 ?side2 A3.out).mono ?_);(case side1=>exact zc b5.out);(case side2=>exact d2.out);rintro e i6 ⟨rfl,hb⟩;refine⟨_,rfl,?_⟩;replace HB:=ak (AG z0 hb)))
  go_ret2
  exact⟨_,ze,EH (by first|exact Kd.Eg _ _ _ _ _|exact Kd.Ii _ _ _ _ _|exact Kd.Eg _ _ _ _ _|exact Kd.Iy _ _ _ _ _|exact Kd.Gn _ _ _ _ _),z0⟩
def CA.l0:Nat->List Int->Int->Option (Int)
 |0,_,_=>none
 |k+1,x3,x4=>if x4<(x3.length:Int)then(if 0<=x4 then(if(rd x3 x4)=0 then(some x4)else(CA.l0 k x3 (wrap64 (x4+1))))else(none))else(some 0)
def CA.f (k:Nat) (l0:List (List Int)):Option (Int):=(Au.f k l0).bind fun t229=>(CA.l0 k t229 1)
theorem CA.calls (k:Nat) (A0:Option Addr) (c0:Nat) (l0:List (List Int)) (r:Int) (w:World) (a5:Kd.C (Kd.slice 3 (Kd.int .i64)) w A0 l0.length l0) (a6:l0.length<=c0) (h:CA.f k l0=some r):
 Calls Try.prog 64 #[.slice A0 l0.length c0] w fun e w'=>e= .returned (.int .i64 r)/\Below w.heap.size w w':=by
 have b4:=ak a5;have b5:=ak a6;clear a5 a6;have HB:=ak (Below.refl w.heap.size w);have H:=h;clear h;unfold CA.f at H;replace H:=gb H;obtain⟨t229,A2,H⟩:=H;have H':=ak H;clear H
 go_enter Try.func64,Try.ntmps64
 go_wp2_with (first|(refine zl (some 6) Try.func97 #[.slice A0 l0.length c0] ?_;(with_reducible refine(Au.calls k _ _ l0 t229 _ ?side1 ?side2 A2.out).mono ?_);(case side1=>exact zc b4.out);(case side2=>exact b5.out);rintro e w3 ⟨a8,rfl,b6,hb⟩;refine⟨_,rfl,?_⟩;have a3:=ak (Kd.BA b6 (AA z0));replace HB:=ak (AG z0 hb)))
 go_loopg [4] k (fun kq v4 w'=> ∃(a0:Int),v4= .int .i64 a0/\AJ (CA.l0 kq t229 a0=some r)/\AJ (kq<=k)/\AJ (Kd.R (Kd.int .i64) 3 w' w.heap.size (fun _=>True) a8 t229)/\AJ (Below w.heap.size w w'))
 case atStart=>exact⟨(1),zd,H',⟨Nat.le_refl _⟩,⟨zr a3.out⟩,⟨z0⟩⟩
 case round=>
  clear H';obtain⟨a0,rfl,HA,a7,HO_3,HB⟩:=hrel
  cases gk with
  |zero=>exact absurd HA.out (by simp[CA.l0])
  |succ k1=>
   have H:=HA.out;clear HA;simp only[CA.l0]at H
   by_cases c4:a0<(t229.length:Int)
   ·
    rw[if_pos c4]at H;have a9:=decide_eq_true c4;clear c4;replace H:=gi H;obtain⟨c5,H⟩:=H;have c1:=decide_eq_true c5;clear c5
    by_cases c6:(rd t229 a0)=0
    ·
     rw[if_pos c6]at H;have b0:((rd t229 a0)==0)=true:=beq_iff_eq.mpr c6;have b1:((rd t229 a0) != 0)=false:=bne_eq_false_iff_eq.mpr c6;clear c6;obtain rfl:=Option.some.inj H;obtain⟨d0,d1,b7⟩:=Kd.Al HO_3.out;subst b7;obtain⟨a4,a1,a2,b2,b3⟩:=ai (Kd.AN HO_3.out).2.2 a0;cases a1
     go_wp2
     go_ret
     exact⟨ze,z0⟩
    ·
     rw[if_neg c6]at H;have b0:((rd t229 a0)==0)=false:=beq_eq_false_iff_ne.mpr c6;have b1:((rd t229 a0) != 0)=true:=bne_iff_ne.mpr c6;have H':=ak H;clear H;obtain⟨d2,d3,b8⟩:=Kd.Al HO_3.out;subst b8;obtain⟨a4,a1,a2,b2,b3⟩:=ai (Kd.AN HO_3.out).2.2 a0;cases a1
     go_wp2
     go_roundg k1
     case measure=>have:=a7.out;omega
     case rel=>exact⟨(wrap64 (a0+1)),zd,H',⟨by have:=a7.out;omega⟩,⟨zr HO_3.out⟩,⟨z0⟩⟩
   ·
    rw[if_neg c4]at H;have a9:=decide_eq_false c4;clear c4;obtain rfl:=Option.some.inj H;obtain⟨d4,d5,b9⟩:=Kd.Al HO_3.out;subst b9
    go_wp2
    go_ret
    exact⟨ze,z0⟩
def Ai.j0:Nat->List (List Int)->Int->Int->Int->Bool->Option ((List (List Int))×Bool)
 |0,_,_,_,_,_=>none
 |k+1,x0,x1,x2,x3,a6=>if a6=true then(some ((([]:List (List Int))),false))else((CA.f k x0).bind fun t241=>(if t241=0 then(some ((([]:List (List Int))),false))else((Br.f k x0).bind fun t245=>((some (([]:List Int):List Int)).bind fun a1=>(if 0<=x1 then(if x1<(x0.length:Int)then(if 0<=x2 then(if x2<=x3 then(if x3<=((AD x0 x1).length:Int)then(if a1.length+(((AD x0 x1).take (x3:Int).toNat).drop (x2:Int).toNat).length<17592186044416 then((some (a1++(((AD x0 x1).take (x3:Int).toNat).drop (x2:Int).toNat):List Int)).bind fun a2=>(if a2.length<17592186044416 then(if x1<(t245.length:Int)then((some (t245.set (x1:Int).toNat (a2++[t241]):List (List Int))).bind fun a3=>((some (([wrap64 (-t241)]:List Int):List Int)).bind fun a4=>(if 0<=x3 then(if a4.length+((AD x0 x1).drop (x3:Int).toNat).length<17592186044416 then((some (a4++((AD x0 x1).drop (x3:Int).toNat):List Int)).bind fun a5=>(if x2<=((AD x0 x1).length:Int)then(if a5.length+((AD x0 x1).take (x2:Int).toNat).length<17592186044416 then(if a3.length<5864062014805 then((CL.f k (a3++[(a5++((AD x0 x1).take (x2:Int).toNat))])).bind fun a0=>(some (a0.1,a0.2)))else(none))else(none))else(none)))else(none))else(none))))else(none))else(none)))else(none))else(none))else(none))else(none))else(none))else(none))))))
def Ai.f (k:Nat) (l0:List (List Int)) (a1 a2 a3:Int):Option ((List (List Int))×Bool):=(AL.f k l0).bind fun t233=>(if t233=true then((BM.f a1 0 (wrap64 ((l0.length:Int)-1))).bind fun t234=>(if t234=true then(if 0<=a1 then(if a1<(l0.length:Int)then((BM.f a3 0 (wrap64 (((AD l0 a1).length:Int)-1))).bind fun t236=>(if t236=true then((BM.f a2 0 (wrap64 (a3-1))).bind fun t237=>(Ai.j0 k l0 a1 a2 a3 (!t237)))else(Ai.j0 k l0 a1 a2 a3 true)))else(none))else(none))else(Ai.j0 k l0 a1 a2 a3 true)))else(Ai.j0 k l0 a1 a2 a3 true))
def Ai.T8:Bool×List (List Nat×List Nat):=(true,[([],[]),([0],[0]),([1],[1]),([],[]),([],[]),([3,4],[3,4]),([5],[5]),([],[]),([6,7],[6,7]),([2,8],[2,8]),([],[]),([],[]),([10,11],[10,11]),([12],[12]),([],[]),([13,14],[13,14]),([9,15,9],[9,15]),([16,16,0,1,2,3,4,5,6,7,8,9,10,11,12,13,14,15,16],[16])])
def Ai.B8:List Nat:=[0,1,3,0,0,24,56,0,248,511,0,0,3072,7168,0,31744,65535,131071]
theorem Ai.Sk:En .any (opsOf Try.f19 8)=Ai.T8:=by kernel_rfl
theorem Ai.Oi:DZ Ai.T8.2 Ai.B8=true:=by kernel_rfl
theorem Ai.calls (k:Nat) (A0:Option Addr) (c0:Nat) (l0:List (List Int)) (a1 a2 a3:Int) (r1:List (List Int)) (r2:Bool) (w:World) (t2:Kd.C (Kd.slice 3 (Kd.int .i64)) w A0 l0.length l0) (t3:l0.length<=c0) (h:Ai.f k l0 a1 a2 a3=some (r1,r2)):
 Calls Try.prog 19 #[.slice A0 l0.length c0,.int .i64 a1,.int .i64 a2,.int .i64 a3] w fun e w'=> ∃t4:Value,e= .returned (.tuple #[t4,.bool r2])/\Kd.S (Kd.slice 3 (Kd.int .i64)) 47 w' w.heap.size (fun k_=>(w.heap.size<=k_)) t4 r1/\Below w.heap.size w w':=by
 have b9:=ak t2;have e6:=ak t3;clear t2 t3;have HB:=ak (Below.refl w.heap.size w);have H:=h;clear h;unfold Ai.f at H;have m5:=ak H;clear H
 go_enter Try.func19,Try.ntmps19
 go_upto_region 1 with(fail)
 go_cut [43] (fun x3 wc=> ∃(kq:Nat) (d9:Bool),x3= .bool d9/\AJ (Ai.j0 kq l0 a1 a2 a3 d9=some (r1,r2))/\AJ (kq<=k)/\AJ (Below w.heap.size w wc))
 case first=>
  have H:=m5.out;clear m5;replace H:=gb H;obtain⟨t233,A6,H⟩:=H
  by_cases c7:t233=true
  ·
   subst c7;rw[if_pos rfl]at H;replace H:=gb H;obtain⟨t234,A8,H⟩:=H
   by_cases c9:t234=true
   ·
    subst c9;rw[if_pos rfl]at H;replace H:=gi H;obtain⟨Du,H⟩:=H;have g0:=decide_eq_true Du;clear Du
    (first|rw[g0]|(simp only[Dg,Ep];rw[g0])|skip)
    replace H:=gi H;obtain⟨m6,H⟩:=H;have q1:=decide_eq_true m6;clear m6;replace H:=gb H;obtain⟨t236,t5,H⟩:=H
    by_cases h7:t236=true
    ·
     subst h7;rw[if_pos rfl]at H;replace H:=gb H;obtain⟨t237,x4,H⟩:=H;have H':=ak H;clear H
     go_wp2_with (first|(refine zl (some 16) Try.func52 #[.slice A0 l0.length c0] ?_;(with_reducible refine(AL.calls k _ _ l0 true _ ?side1 ?side2 A6.out).mono ?_);(case side1=>exact zc (Kd.AM b9.out HB.out));(case side2=>exact e6.out);rintro e D2 ⟨rfl,hb⟩;refine⟨_,rfl,?_⟩;replace HB:=ak (AG z0 hb))|(go_at_call 53;(with_reducible refine(BM.calls a1 0 (wrap64 ((l0.length:Int)-1)) true _ A8.out).mono ?_);rintro e w' ⟨rfl,⟨nd,rfl⟩⟩;have d1:0<=(a1:Int):=za;have d2:a1<(l0.length:Int):=za;obtain⟨q3,m7,m8,h8,b0,b4,b5⟩:=Cl b9.out a1 d1 d2;cases h8;replace b0:=(HB.out.cell (World.block_lt_of_cell? w _ b0)).trans b0;have l9:=ak b5;have m0:=ak b4;clear b5 b4;replace d1:=eq_true d1;replace d2:=eq_true d2)|(go_at_call 53;(with_reducible refine(BM.calls a3 0 (wrap64 (((AD l0 a1).length:Int)-1)) true _ t5.out).mono ?_);rintro e w' ⟨rfl,⟨nd,rfl⟩⟩)|(go_at_call 53;(with_reducible refine(BM.calls a2 0 (wrap64 (a3-1)) t237 _ x4.out).mono ?_);rintro e w' ⟨rfl,⟨nd,rfl⟩⟩))
     go_meet
     case rel=>exact⟨_,(!t237),zd,H',⟨by first|omega|exact Nat.le_refl _⟩,⟨z0⟩⟩
    ·
     replace h7:=Bool.eq_false_iff.mpr h7;subst h7;rw[if_neg (show¬(false=true) by decide)]at H;have H':=ak H;clear H
     go_wp2_with (first|(refine zl (some 16) Try.func52 #[.slice A0 l0.length c0] ?_;(with_reducible refine(AL.calls k _ _ l0 true _ ?side1 ?side2 A6.out).mono ?_);(case side1=>exact zc (Kd.AM b9.out HB.out));(case side2=>exact e6.out);rintro e D3 ⟨rfl,hb⟩;refine⟨_,rfl,?_⟩;replace HB:=ak (AG z0 hb))|(go_at_call 53;(with_reducible refine(BM.calls a1 0 (wrap64 ((l0.length:Int)-1)) true _ A8.out).mono ?_);rintro e w' ⟨rfl,⟨nd,rfl⟩⟩;have d1:0<=(a1:Int):=za;have d2:a1<(l0.length:Int):=za;obtain⟨q3,m7,m8,h8,b0,b4,b5⟩:=Cl b9.out a1 d1 d2;cases h8;replace b0:=(HB.out.cell (World.block_lt_of_cell? w _ b0)).trans b0;have l9:=ak b5;have m0:=ak b4;clear b5 b4;replace d1:=eq_true d1;replace d2:=eq_true d2)|(go_at_call 53;(with_reducible refine(BM.calls a3 0 (wrap64 (((AD l0 a1).length:Int)-1)) false _ t5.out).mono ?_);rintro e w' ⟨rfl,⟨nd,rfl⟩⟩))
     go_meet
     case rel=>exact⟨_,(true),zd,H',⟨by first|omega|exact Nat.le_refl _⟩,⟨z0⟩⟩
   ·
    replace c9:=Bool.eq_false_iff.mpr c9;subst c9;rw[if_neg (show¬(false=true) by decide)]at H;have H':=ak H;clear H
    go_wp2_with (first|(refine zl (some 16) Try.func52 #[.slice A0 l0.length c0] ?_;(with_reducible refine(AL.calls k _ _ l0 true _ ?side1 ?side2 A6.out).mono ?_);(case side1=>exact zc (Kd.AM b9.out HB.out));(case side2=>exact e6.out);rintro e D4 ⟨rfl,hb⟩;refine⟨_,rfl,?_⟩;replace HB:=ak (AG z0 hb))|(go_at_call 53;(with_reducible refine(BM.calls a1 0 (wrap64 ((l0.length:Int)-1)) false _ A8.out).mono ?_);rintro e w' ⟨rfl,⟨nd,rfl⟩⟩))
    go_meet
    case rel=>exact⟨_,(true),zd,H',⟨by first|omega|exact Nat.le_refl _⟩,⟨z0⟩⟩
  ·
   replace c7:=Bool.eq_false_iff.mpr c7;subst c7;rw[if_neg (show¬(false=true) by decide)]at H;have H':=ak H;clear H
   go_wp2_with (first|(refine zl (some 16) Try.func52 #[.slice A0 l0.length c0] ?_;(with_reducible refine(AL.calls k _ _ l0 false _ ?side1 ?side2 A6.out).mono ?_);(case side1=>exact zc (Kd.AM b9.out HB.out));(case side2=>exact e6.out);rintro e D5 ⟨rfl,hb⟩;refine⟨_,rfl,?_⟩;replace HB:=ak (AG z0 hb)))
   go_meet
   case rel=>exact⟨_,(true),zd,H',⟨by first|omega|exact Nat.le_refl _⟩,⟨z0⟩⟩
 case rest=>
  clear m5;obtain⟨kq,d9,rfl,HA,D7,HB⟩:=hcut
  cases kq with
  |zero=>exact absurd HA.out (by simp[Ai.j0])
  |succ d0=>
   have H:=HA.out;clear HA;simp only[Ai.j0]at H
   by_cases i9:d9=true
   ·
    subst i9;rw[if_pos rfl]at H;obtain⟨v5,g1⟩: ∃y_:List (List Int),y_=(([]:List (List Int))):=⟨_,rfl⟩;replace H:(some (v5,false))=some (r1,r2):=zy g1 H;have j5:=ak g1;clear g1;simp only[Option.some.injEq,Prod.mk.injEq]at H;obtain⟨rfl,rfl⟩:=H
    go_wp2_with (first|((with_reducible refine Ar (N:=44) rfl ?_);(try(refine BR (by rfl) ?_;dsimp only));refine Kd.FO (Kd.slice 3 (Kd.int .i64)) _ 47 ?hg (N:=44) ?hd (xs:=([]:List (List Int))) (inner:=[]) (ok:=fun _=>True) (okp:=fun _=>True) ?hr ?hp (fun _ hk=>hk) trivial (Below.refl _ _) (Nat.le_refl _) (by simp) ?_;(case hd=>rfl);(case hg=>rfl);(case hr=>first|(go_simp;done)|(go_simp;rfl));(case hp=>exact(Av.none _ _));intro C2 D8 e7 hb hg_ hnew_;clear hg_ hnew_;(first|rw[<-j5.out]at e7|(simp only[Int.reduceToNat]at e7;rw[<-j5.out]at e7));have q4:=ak (Kd.BS (Kd.EM (M:=fun k_=>(w.heap.size<=k_)) e7 (AA z0) (fun k_ h_=>h_)) (AA z0));replace HB:=ak (AG z0 hb);clear hb e7))
    go_ret2
    exact⟨_,ze,EH (by(with_reducible repeat(first|apply Kd.Bj|apply Kd.Bh|apply Kd.Bx));exact Kd.Af q4.out (fun _ hk=>hk.1)),z0⟩
   ·
    replace i9:=Bool.eq_false_iff.mpr i9;subst i9;rw[if_neg (show¬(false=true) by decide)]at H;replace H:=gb H;obtain⟨t241,t6,H⟩:=H
    by_cases e8:t241=0
    ·
     rw[if_pos e8]at H;have q5:(t241==0)=true:=beq_iff_eq.mpr e8;have q6:(t241 != 0)=false:=bne_eq_false_iff_eq.mpr e8;clear e8;obtain⟨v6,g2⟩: ∃y_:List (List Int),y_=(([]:List (List Int))):=⟨_,rfl⟩;replace H:(some (v6,false))=some (r1,r2):=zy g2 H;have j6:=ak g2;clear g2;simp only[Option.some.injEq,Prod.mk.injEq]at H;obtain⟨rfl,rfl⟩:=H
     go_wp2_with (first|(refine zl (some 46) Try.func64 #[.slice A0 l0.length c0] ?_;(with_reducible refine(CA.calls d0 _ _ l0 t241 _ ?side1 ?side2 t6.out).mono ?_);(case side1=>exact zc (Kd.AM b9.out HB.out));(case side2=>exact e6.out);rintro e D9 ⟨rfl,hb⟩;refine⟨_,rfl,?_⟩;replace HB:=ak (AG z0 hb))|((with_reducible refine Ar (N:=49) rfl ?_);(try(refine BR (by rfl) ?_;dsimp only));refine Kd.FO (Kd.slice 3 (Kd.int .i64)) _ 47 ?hg (N:=49) ?hd (xs:=([]:List (List Int))) (inner:=[]) (ok:=fun _=>True) (okp:=fun _=>True) ?hr ?hp (fun _ hk=>hk) trivial (Below.refl _ _) (Nat.le_refl _) (by simp) ?_;(case hd=>rfl);(case hg=>rfl);(case hr=>first|(go_simp;done)|(go_simp;rfl));(case hp=>exact(Av.none _ _));intro C3 E0 e9 hb hg_ hnew_;clear hg_ hnew_;(first|rw[<-j6.out]at e9|(simp only[Int.reduceToNat]at e9;rw[<-j6.out]at e9));have q7:=ak (Kd.BS (Kd.EM (M:=fun k_=>(w.heap.size<=k_)) e9 (AA z0) (fun k_ h_=>h_)) (AA z0));replace HB:=ak (AG z0 hb);clear hb e9))
     go_ret2
     exact⟨_,ze,EH (by(with_reducible repeat(first|apply Kd.Bj|apply Kd.Bh|apply Kd.Bx));exact Kd.Af q7.out (fun _ hk=>hk.1)),z0⟩
    ·
     rw[if_neg e8]at H;have q5:(t241==0)=false:=beq_eq_false_iff_ne.mpr e8;have q6:(t241 != 0)=true:=bne_iff_ne.mpr e8;replace H:=gb H;obtain⟨t245,x5,H⟩:=H;obtain⟨g3,g4⟩: ∃y_:List Int,y_=(([]:List Int)):=⟨_,rfl⟩;replace H:(if 0<=a1 then(if a1<(l0.length:Int)then(if 0<=a2 then(if a2<=a3 then(if a3<=((AD l0 a1).length:Int)then(if g3.length+(((AD l0 a1).take (a3:Int).toNat).drop (a2:Int).toNat).length<17592186044416 then((some (g3++(((AD l0 a1).take (a3:Int).toNat).drop (a2:Int).toNat):List Int)).bind fun d3=>(if d3.length<17592186044416 then(if a1<(t245.length:Int)then((some (t245.set (a1:Int).toNat (d3++[t241]):List (List Int))).bind fun a5=>((some (([wrap64 (-t241)]:List Int):List Int)).bind fun a9=>(if 0<=a3 then(if a9.length+((AD l0 a1).drop (a3:Int).toNat).length<17592186044416 then((some (a9++((AD l0 a1).drop (a3:Int).toNat):List Int)).bind fun a6=>(if a2<=((AD l0 a1).length:Int)then(if a6.length+((AD l0 a1).take (a2:Int).toNat).length<17592186044416 then(if a5.length<5864062014805 then((CL.f d0 (a5++[(a6++((AD l0 a1).take (a2:Int).toNat))])).bind fun a4=>(some (a4.1,a4.2)))else(none))else(none))else(none)))else(none))else(none))))else(none))else(none)))else(none))else(none))else(none))else(none))else(none))else(none))=some (r1,r2):=zy g4 H;have j7:=ak g4;clear g4;replace H:=gi H;obtain⟨t7,H⟩:=H;have y6:=decide_eq_true t7;clear t7;replace H:=gi H;obtain⟨t8,H⟩:=H;have y7:=decide_eq_true t8;clear t8;replace H:=gi H;obtain⟨m9,H⟩:=H;have y8:=eq_true m9;have y9:=decide_eq_true m9;clear m9;replace H:=gi H;obtain⟨n0,H⟩:=H;have A1:=eq_true n0;have A2:=decide_eq_true n0;clear n0;replace H:=gi H;obtain⟨n1,H⟩:=H;have A3:=eq_true n1;have A4:=decide_eq_true n1;clear n1;replace H:=gi H;obtain⟨t9,H⟩:=H;have q8:=ak t9;clear t9;obtain⟨d3,g5⟩: ∃y_:List Int,y_=(g3++(((AD l0 a1).take (a3:Int).toNat).drop (a2:Int).toNat)):=⟨_,rfl⟩;replace H:(if d3.length<17592186044416 then(if a1<(t245.length:Int)then((some (t245.set (a1:Int).toNat (d3++[t241]):List (List Int))).bind fun a5=>((some (([wrap64 (-t241)]:List Int):List Int)).bind fun a9=>(if 0<=a3 then(if a9.length+((AD l0 a1).drop (a3:Int).toNat).length<17592186044416 then((some (a9++((AD l0 a1).drop (a3:Int).toNat):List Int)).bind fun a6=>(if a2<=((AD l0 a1).length:Int)then(if a6.length+((AD l0 a1).take (a2:Int).toNat).length<17592186044416 then(if a5.length<5864062014805 then((CL.f d0 (a5++[(a6++((AD l0 a1).take (a2:Int).toNat))])).bind fun a4=>(some (a4.1,a4.2)))else(none))else(none))else(none)))else(none))else(none))))else(none))else(none))=some (r1,r2):=zy g5 H;have q9:=ak g5;clear g5;replace H:=gi H;obtain⟨v0,H⟩:=H;have r0:=ak v0;clear v0;obtain⟨h9,g6⟩: ∃y_:List Int,y_=(d3++[t241]):=⟨_,rfl⟩;replace H:(if a1<(t245.length:Int)then((some (t245.set (a1:Int).toNat h9:List (List Int))).bind fun a5=>((some (([wrap64 (-t241)]:List Int):List Int)).bind fun a9=>(if 0<=a3 then(if a9.length+((AD l0 a1).drop (a3:Int).toNat).length<17592186044416 then((some (a9++((AD l0 a1).drop (a3:Int).toNat):List Int)).bind fun a6=>(if a2<=((AD l0 a1).length:Int)then(if a6.length+((AD l0 a1).take (a2:Int).toNat).length<17592186044416 then(if a5.length<5864062014805 then((CL.f d0 (a5++[(a6++((AD l0 a1).take (a2:Int).toNat))])).bind fun a4=>(some (a4.1,a4.2)))else(none))else(none))else(none)))else(none))else(none))))else(none))=some (r1,r2):=zy g6 H;have r3:=ak g6;clear g6;replace H:=gi H;obtain⟨v1,H⟩:=H;have A5:=decide_eq_true v1;clear v1;obtain⟨a5,g7⟩: ∃y_:List (List Int),y_=(t245.set (a1:Int).toNat h9):=⟨_,rfl⟩;replace H:((some (([wrap64 (-t241)]:List Int):List Int)).bind fun a9=>(if 0<=a3 then(if a9.length+((AD l0 a1).drop (a3:Int).toNat).length<17592186044416 then((some (a9++((AD l0 a1).drop (a3:Int).toNat):List Int)).bind fun a6=>(if a2<=((AD l0 a1).length:Int)then(if a6.length+((AD l0 a1).take (a2:Int).toNat).length<17592186044416 then(if a5.length<5864062014805 then((CL.f d0 (a5++[(a6++((AD l0 a1).take (a2:Int).toNat))])).bind fun a4=>(some (a4.1,a4.2)))else(none))else(none))else(none)))else(none))else(none)))=some (r1,r2):=zy g7 H;have r4:=ak g7;clear g7;obtain⟨a9,g8⟩: ∃y_:List Int,y_=(([wrap64 (-t241)]:List Int)):=⟨_,rfl⟩;replace H:(if 0<=a3 then(if a9.length+((AD l0 a1).drop (a3:Int).toNat).length<17592186044416 then((some (a9++((AD l0 a1).drop (a3:Int).toNat):List Int)).bind fun a6=>(if a2<=((AD l0 a1).length:Int)then(if a6.length+((AD l0 a1).take (a2:Int).toNat).length<17592186044416 then(if a5.length<5864062014805 then((CL.f d0 (a5++[(a6++((AD l0 a1).take (a2:Int).toNat))])).bind fun a4=>(some (a4.1,a4.2)))else(none))else(none))else(none)))else(none))else(none))=some (r1,r2):=zy g8 H;have j8:=ak g8;clear g8;replace H:=gi H;obtain⟨n2,H⟩:=H;have A7:=eq_true n2;have A9:=decide_eq_true n2;clear n2;have B0:=eq_true (za:a3<=((AD l0 a1).length:Int));replace H:=gi H;obtain⟨v2,H⟩:=H;have r5:=ak v2;clear v2;obtain⟨a6,g9⟩: ∃y_:List Int,y_=(a9++((AD l0 a1).drop (a3:Int).toNat)):=⟨_,rfl⟩;replace H:(if a2<=((AD l0 a1).length:Int)then(if a6.length+((AD l0 a1).take (a2:Int).toNat).length<17592186044416 then(if a5.length<5864062014805 then((CL.f d0 (a5++[(a6++((AD l0 a1).take (a2:Int).toNat))])).bind fun a4=>(some (a4.1,a4.2)))else(none))else(none))else(none))=some (r1,r2):=zy g9 H
     have r6:=ak g9;clear g9;have B1:=eq_true (za:0<=a2);replace H:=gi H;obtain⟨n3,H⟩:=H;have B2:=eq_true n3;have B3:=decide_eq_true n3;clear n3;replace H:=gi H;obtain⟨v3,H⟩:=H;have r7:=ak v3;clear v3;obtain⟨f0,h3⟩: ∃y_:List Int,y_=(a6++((AD l0 a1).take (a2:Int).toNat)):=⟨_,rfl⟩;replace H:(if a5.length<5864062014805 then((CL.f d0 (a5++[f0])).bind fun a4=>(some (a4.1,a4.2)))else(none))=some (r1,r2):=zy h3 H;have r8:=ak h3;clear h3;replace H:=gi H;obtain⟨v4,H⟩:=H;have r9:=ak v4;clear v4;obtain⟨i0,h4⟩: ∃y_:List (List Int),y_=(a5++[f0]):=⟨_,rfl⟩;replace H:((CL.f d0 i0).bind fun a4=>(some (a4.1,a4.2)))=some (r1,r2):=zy h4 H;have s6:=ak h4;clear h4;replace H:=gb H;obtain⟨⟨t276,t279⟩,x6,H⟩:=H;dsimp only at H;simp only[Option.some.injEq,Prod.mk.injEq]at H;obtain⟨rfl,rfl⟩:=H
     try go_wp2_with (first|(refine zl (some 46) Try.func64 #[.slice A0 l0.length c0] ?_;(with_reducible refine(CA.calls d0 _ _ l0 t241 _ ?side1 ?side2 t6.out).mono ?_);(case side1=>exact zc (Kd.AM b9.out HB.out));(case side2=>exact e6.out);rintro e E1 ⟨rfl,hb⟩;refine⟨_,rfl,?_⟩;replace HB:=ak (AG z0 hb))|(refine zl (some 51) Try.func65 #[.slice A0 l0.length c0] ?_;(with_reducible refine(Br.calls d0 _ _ l0 t245 _ ?side1 ?side2 x5.out).mono ?_);(case side1=>exact zc (Kd.AM b9.out HB.out));(case side2=>exact e6.out);rintro e E2 ⟨C4,rfl,n4,hb⟩;refine⟨_,rfl,?_⟩;have a0:=ak (Kd.BS (Kd.EM (M:=fun k_=>(w.heap.size<=k_)) n4 (AA z0) (fun k_ h_=>h_)) (AA z0));replace HB:=ak (AG z0 hb))|((with_reducible refine Ar (N:=54) rfl ?_);(try(refine BR (by rfl) ?_;dsimp only));refine Kd.DS (Kd.int .i64) _ 3 ?hg (N:=54) ?hd (xs:=([]:List Int)) (inner:=[]) (ok:=fun _=>True) (okp:=fun _=>True) ?hr ?hp (fun _ hk=>hk) trivial (Below.refl _ _) (Nat.le_refl _) (by simp) ?_;(case hd=>rfl);(case hg=>rfl);(case hr=>first|(go_simp;done)|(go_simp;rfl));(case hp=>exact(Av.none _ _));intro v7 E3 d6 hb hg_ hnew_;clear hg_ hnew_;(first|rw[<-j7.out]at d6|(simp only[Int.reduceToNat]at d6;rw[<-j7.out]at d6));replace a0:=ak (Kd.Cq (zs a0.out) (Kd.CC d6) hb);have j9:=ak (Kd.BA (Kd.DX (M:=fun k_=>(w.heap.size<=k_)) d6 (AA z0) (fun k_ h_=>h_)) (AA z0));replace HB:=ak (AG z0 hb);clear hb d6;have i1:0<=(a1:Int):=za;have i2:a1<(l0.length:Int):=za;obtain⟨e0,n5,n6,v8,d7,f2,f3⟩:=Cl b9.out a1 i1 i2;cases v8;replace d7:=(HB.out.cell (World.block_lt_of_cell? w _ d7)).trans d7;have m1:=ak f3;have m2:=ak f2;clear f3 f2;replace i1:=eq_true i1;replace i2:=eq_true i2;obtain⟨i049,k0,_,k1,_⟩:=info_parts BT;obtain⟨E4,x7,n7,n8⟩:=KD (P:=Try.prog) (Value.int .i64) 0 47 3 .i64 .i64 Try.underlying47 k0 k1 n5 n6 (AD l0 a1) a2 a3 (za) (by first|omega|exact za) (za) m2.out;have h5:=ak (Kd.Cf (h1:=fun _=>rfl) (n7 _ (Kd.Cg m1.out)));have B5:=ak n8;clear n7 n8 k0 k1)|((with_reducible refine Ak (b:= .append) (xs:= #[.tmp 54,.tmp 61]) rfl ?_);(try(refine BR (by rfl) ?_;dsimp only));at_builtin;refine Kd.Cv (Kd.int .i64) (w0:=w) w.heap.size rfl (.tmp 54) (.tmp 61) 47 3 (.int .i64 0) 8 rfl Try.underlying47 BT rfl (by decide) (by omega) v7 g3 (((AD l0 a1).take (a3:Int).toNat).drop (a2:Int).toNat) _ _ _ (fun k_=>(w.heap.size<=k_)) (fun _=>False) rfl rfl ?aO ?aR (fun _ _ h=>h) (fun _ h=>h.elim) ?aF ?aB ?aS ?aL ?_;(case aR=>first|(rw[<-show(((AD l0 a1).take (a3:Int).toNat).drop (a2:Int).toNat).length=(a3.toNat-a2.toNat)from(by rw[List.length_drop,List.length_take];have h_:(a3:Int)<=((AD l0 a1).length:Int):=za;omega)];(repeat(first|exact(Kd.AM h5.out HB.out)|(with_reducible refine Kd.Az ?_ _)|(with_reducible refine Kd.Ao ?_ _)|(with_reducible refine Kd.BL ?_)));done)|(refine(congrArg (fun n_=>CS _ _ _ _ n_ _) (show(((AD l0 a1).take (a3:Int).toNat).drop (a2:Int).toNat).length=(a3.toNat-a2.toNat)from(by rw[List.length_drop,List.length_take];have h_:(a3:Int)<=((AD l0 a1).length:Int):=za;omega))).mp ?_;(repeat(first|exact(Kd.AM h5.out HB.out)|(with_reducible refine Kd.Az ?_ _)|(with_reducible refine Kd.Ao ?_ _)|(with_reducible refine Kd.BL ?_)));done)|(repeat(first|exact(Kd.AM h5.out HB.out)|(with_reducible refine Kd.Az ?_ _)|(with_reducible refine Kd.Ao ?_ _)|(with_reducible refine Kd.BL ?_))));(case aB=>exact z0);(case aF=>exact(fun k_ hk=>(Nat.le_trans (AA z0) hk)));(case aO=>exact(by(with_reducible repeat(first|apply Kd.BV|apply Kd.BN|apply Kd.BI));exact Kd.AV j9.out (fun _ hk=>hk.1)));(case aS=>exact(AA z0));(case aL=>have:=q8.out;have hlx_:=(show(((AD l0 a1).take (a3:Int).toNat).drop (a2:Int).toNat).length=(a3.toNat-a2.toNat)from(by rw[List.length_drop,List.length_take];have h_:(a3:Int)<=((AD l0 a1).length:Int):=za;omega));omega);intro v9 E5 ho hb hg hat;rw[<-q9.out]at ho;have a7:=ak (Kd.Ec (ok:=(fun k_=>(w.heap.size<=k_))) (by(with_reducible repeat(first|apply Kd.Bj|apply Kd.Bh|apply Kd.Bx));exact Kd.Af a0.out (fun _ hk=>⟨hk.1.1,hk.2⟩)) hg hat);have a8:=ak (hb);have b3:=ak (ho);clear a0 HB j9;have a0:=a7;have HB:=a8;have k2:=b3;clear a7 a8 b3 ho hb hg hat)|((with_reducible refine Ak (b:= .append) (xs:= #[.tmp 62,.tmp 64]) rfl ?_);(try(refine BR (by rfl) ?_;dsimp only));at_builtin;refine Kd.Cy (Kd.int .i64) (w0:=w) w.heap.size rfl (.tmp 62) (.tmp 64) 47 3 (.int .i64 0) 8 rfl Try.underlying47 BT rfl (by decide) (by omega) v9 d3 t241 [.int .i64 t241] (fun k_=>(w.heap.size<=k_)) (fun _=>False) rfl rfl ?aP (fun _ hk=>hk.elim) ?aF ?aO ?aB ?aS ?aL ?_;(case aP=>exact rfl);(case aB=>exact z0);(case aF=>exact(fun k_ hk=>(Nat.le_trans (AA z0) hk)));(case aO=>exact(zr k2.out));(case aS=>exact(AA z0));(case aL=>have:=r0.out;omega);intro i3 n9 ho hb hg hat;rw[<-r3.out]at ho;have a7:=ak (Kd.Ec (ok:=(fun k_=>(w.heap.size<=k_))) (zs a0.out) hg hat);have a8:=ak (hb);have b3:=ak (ho);clear a0 HB k2;have a0:=a7;have HB:=a8;have e1:=b3;clear a7 a8 b3 ho hb hg hat;have o0:0<=(a1:Int):=za;have o1:(a1:Int)<((t245.length:Int):Int):=za;obtain⟨b8,f1,o2,o3,w2,C5,o4⟩:=Kd.GP a0.out (by omega);(first|cases o2|(injection o2 with ea_ en_ ec_;(first|subst ea_|(injection ea_ with ea_;subst ea_));subst ec_;clear en_));have w3:=ak o3;have C6:=ak o4;clear o3 w2 o4;obtain⟨_,C7,s7,o5,k3,k4,_,_⟩:=Kd.FL a0.out [] (a1:Int) o0 o1;obtain⟨x8,rfl,x9⟩:=o5;have o6:=k3 0 _ rfl;have o7:=k4 0;(try simp only[show((Kd.slice 3 (Kd.int .i64))).sz=1 from rfl,Nat.mul_one,Nat.add_zero]at o6);(try simp only[show((Kd.slice 3 (Kd.int .i64))).sz=1 from rfl,Nat.mul_one,Nat.add_zero]at o7);clear s7 k3 k4;replace o0:=eq_true o0;replace o1:=eq_true o1;have w4:=ak (show Kd.S (Kd.slice 3 (Kd.int .i64)) 47 n9 w.heap.size (fun k_=>((fun k_=>(w.heap.size<=k_))) k_/\¬((fun k_=>some k_=(i3:Value).ownBlock)) k_) (.slice (some ⟨b8,0,none⟩) t245.length f1) t245 from(by(with_reducible repeat(first|apply Kd.Bj|apply Kd.Bh|apply Kd.Bx));exact Kd.Af a0.out (fun k_ hk=>⟨hk.1,fun e_=>hk.2 e_⟩)));obtain⟨B7,C8,s8,o8,k5,k6,o9,p0⟩:=Kd.FL w4.out [] (a1:Int) (za) (by have h_:(a1:Int)<((t245.length:Int):Int):=za;first|exact h_|(have e_:=(Kd.Aa a0.out).1;omega)|simpa using h_);obtain⟨y0,rfl,y1⟩:=o8;have h6:=Kd.JK p0 (za) (by have h_:(a1:Int)<((t245.length:Int):Int):=za;first|exact h_|(have e_:=(Kd.Aa a0.out).1;omega)|simpa using h_) (seg:=[i3]) (j:=0) (show 1<=1 from by decide) (x':=h9) (Kd.FP (Kd.AV (Kd.DV rfl (Kd.AV (ok':=fun k_=>((fun k_=>(w.heap.size<=k_))) k_/\k_≠b8) (Kd.CI (e1.out) (Kd.CB a0.out) (by decide)) (fun k_ hk=>⟨hk.1,fun e_=>(hk.2) (by rw[e_];rfl)⟩))) (fun _ h_=>Or.inr (h_)))) (fun _ hk=>hk) (fun k_ hk_=>((Kd.AV (ok':=fun k_=>((fun k_=>(w.heap.size<=k_))) k_/\k_≠b8) (Kd.CI (e1.out) (Kd.CB a0.out) (by decide)) (fun k_ hk=>⟨hk.1,fun e_=>(hk.2) (by rw[e_];rfl)⟩))).1 k_ hk_.symm);have p1:=k5 0 _ rfl;(try simp only[show((Kd.slice 3 (Kd.int .i64))).sz=1 from rfl,Nat.mul_one,Nat.add_zero]at p1);have p3:=k6 0;(try simp only[show((Kd.slice 3 (Kd.int .i64))).sz=1 from rfl,Nat.mul_one,Nat.add_zero]at p3);clear s8 k5 k6;(try simp only[show((Kd.slice 3 (Kd.int .i64))).sz=1 from rfl,Nat.mul_one,Nat.add_zero]at h6))|((with_reducible refine Dm (t:=47) (p:=66) rfl ?_);refine DU (t:=47) (p:=66) (v:=?vo_w53) (w1:=(n9.setCell ⟨b8,(a1:Int).toNat,none⟩ (i3))) ?hg ?ho ?hn ?hr ?_;(case ho=>rfl);(case hg=>rfl);(case hn=>rfl);(case hr=>first|(go_simp;done)|(go_simp;rfl)|(obtain⟨A_,c_,e_⟩:=Kd.Al e1.out;subst e_;first|(go_simp;done)|(go_simp;rfl)));intro k7 hw;have hg:n9.grownBy k7 (some b8):=(by rw[hw];exact h6.2);have hp_:Kd.S (Kd.slice 3 (Kd.int .i64)) 47 k7 w.heap.size (fun k_=>(w.heap.size<=k_)) (.slice (some ⟨b8,0,none⟩) t245.length f1) a5:=(by rw[hw,r4.out];exact h6.1);clear h6;have a7:=ak (hp_);have a8:=ak ((by rw[hw];exact BC (HB.out) w3.out:Below w.heap.size w k7));clear a0 HB e1;have a0:=a7;have HB:=a8;clear a7 a8 hg hw hp_))
     have a7:=ak (Kd.Bx a0.out);have a8:=ak (Ab HB.out);clear a0 HB;have a0:=a7;have HB:=a8;clear a7 a8;have i4:0<=(a1:Int):=za;have i5:a1<(l0.length:Int):=za;obtain⟨s9,d4,d5,w5,b6,f4,f5⟩:=Cl b9.out a1 i4 i5;have b1:=b6;obtain rfl:e0=s9:=(by injection w5);replace b6:=zx HB b6;have f6:=ak f5;have m3:=ak f4;clear f5 f4;replace i4:=eq_true i4;replace i5:=eq_true i5;obtain⟨i055,k8,_,k9,_⟩:=info_parts BT;obtain⟨E6,y2,p4,p5⟩:=EA (P:=Try.prog) (Value.int .i64) 0 47 3 .i64 Try.underlying47 k8 k9 d4 d5 (AD l0 a1) a3 (za) (za) m3.out;have e2:=ak (Kd.Cf (h1:=fun _=>rfl) (p4 _ (Kd.Cg f6.out)));have C0:=ak p5;clear p4 p5 k8 k9;have i6:0<=(a1:Int):=za;have i7:a1<(l0.length:Int):=za;obtain⟨t0,y3,y4,w6,b7,f7,f8⟩:=Cl b9.out a1 i6 i7;have b2:=b7;obtain rfl:e0=t0:=(by injection w6);replace b7:=zx HB b7;have f9:=ak f8;have m4:=ak f7;clear f8 f7;replace i6:=eq_true i6;replace i7:=eq_true i7;have ea_:=Option.some.inj (b6.symm.trans b7)
     injection ea_ with ea_ en_ ec_
     subst ea_;subst ec_;clear en_;obtain⟨i056,l5,_,l6,_⟩:=info_parts BT;obtain⟨y5,p7,p8⟩:=ED (P:=Try.prog) (Value.int .i64) 0 47 3 .i64 Try.underlying47 l5 l6 d4 d5 (AD l0 a1) a2 (za) (za) m4.out;have e3:=ak (Kd.Cf (h1:=fun _=>rfl) (p7 _ (Kd.Cg f9.out)));have C1:=ak p8;clear p7 p8 l5 l6;refine Dp (n:=18) (S:=fun w'=>w'.cell? (e0.add (a1).toNat)=some (.slice d4 (AD l0 a1).length d5)/\w'.cell? (e0.add (a1).toNat)=some (.slice d4 (AD l0 a1).length d5)) (ds:=[]) #[false,false,false,false,false,false,false,false,false,false,false,false,false,false,false,false,false,false] (by kernel_rfl) rfl rfl ⟨((HB.out.cell (World.block_lt_of_cell? w _ b1)).trans b1),((HB.out.cell (World.block_lt_of_cell? w _ b2)).trans b2)⟩ (fun hHeld=>?_);refine CY Ai.Sk Ai.Oi (fun HT_ HW_=>?_);generalize k7.drew=E7 at a0 HB f6 e2 f9 e3 b6 b7 hHeld⊢;refine pz 0 67 ?_;refine pz 1 68 ?_;refine pz 3 70 ?_;refine pz 4 71 ?_;refine pz 5 72 ?_;refine pz 7 74 ?_;refine pz 10 77 ?_;refine pz 11 78 ?_;refine pz 12 79 ?_;refine pz 14 81 ?_;refine LL 6 73 hHeld ?_;refine pz 8 75 ?_;refine LL 13 80 hHeld ?_;refine pz 15 82 ?_;refine oz 2 69 (fun K hK=>?_);refine Kd.FG (Kd.int .i64) _ 3 ?hg (N:=69) ?hd (xs:=([wrap64 (-t241)]:List Int)) (inner:=[.int .i64 (wrap64 (-t241))]) (ok:=fun _=>True) (okp:=fun _=>True) ?hr ?hp (fun _ hk=>hk) trivial (Below.refl _ _) (Nat.le_refl _) (by simp) ?_;(case hd=>rfl);(case hg=>rfl);(case hr=>first|(go_simp;done)|(go_simp;rfl));(case hp=>exact(Av.one (show Kd.M (Kd.int .i64) _ _ _ (wrap64 (-t241)) [.int .i64 (wrap64 (-t241))]from rfl) (Av.none _ _)));intro w7 E8 d8 hb hg_ hnew_;clear hg_ hnew_
     (first|rw[<-j8.out]at d8|(simp only[Int.reduceToNat]at d8;rw[<-j8.out]at d8))
     have a7:=ak (Kd.Cq (zs a0.out) (Kd.CC d8) hb);have a8:=ak (Kd.BA (Kd.DX (M:=fun k_=>(w.heap.size<=k_)) d8 (AA z0) (fun k_ h_=>h_)) (AA z0));have b3:=ak (AG z0 hb);clear a0 HB;have a0:=a7;have l7:=a8;have HB:=b3;clear a7 a8 b3 hb d8;refine hK.out _ _ ⟨((HB.out.cell (World.block_lt_of_cell? w _ b1)).trans b1),((HB.out.cell (World.block_lt_of_cell? w _ b2)).trans b2)⟩ (fun hHeld=>?_);clear hK K;refine nz 69 ?_;refine oz 9 76 (fun K hK=>?_);refine Kd.BG (Kd.int .i64) (w0:=w) w.heap.size (by rfl) (.tmp 69) (.tmp 75) 47 3 (.int .i64 0) 8 rfl Try.underlying47 BT rfl (by decide) (by omega) w7 a9 ((AD l0 a1).drop (a3:Int).toNat) _ _ _ (fun k_=>(w.heap.size<=k_)) (fun _=>False) rfl rfl ?aO ?aR (fun _ _ h=>h) (fun _ h=>h.elim) ?aF ?aB ?aS ?aL ?_
     (case aR=>first|(rw[<-show((AD l0 a1).drop (a3:Int).toNat).length=((AD l0 a1).length-a3.toNat)from List.length_drop];(repeat(first|exact(Kd.AM e2.out HB.out)|(with_reducible refine Kd.Az ?_ _)|(with_reducible refine Kd.Ao ?_ _)|(with_reducible refine Kd.BL ?_)));done)|(refine(congrArg (fun n_=>CS _ _ _ _ n_ _) (show((AD l0 a1).drop (a3:Int).toNat).length=((AD l0 a1).length-a3.toNat)from List.length_drop)).mp ?_;(repeat(first|exact(Kd.AM e2.out HB.out)|(with_reducible refine Kd.Az ?_ _)|(with_reducible refine Kd.Ao ?_ _)|(with_reducible refine Kd.BL ?_)));done)|(repeat(first|exact(Kd.AM e2.out HB.out)|(with_reducible refine Kd.Az ?_ _)|(with_reducible refine Kd.Ao ?_ _)|(with_reducible refine Kd.BL ?_))))
     (case aB=>exact z0)
     (case aF=>exact(fun k_ hk=>(Nat.le_trans (AA z0) hk)))
     (case aO=>exact(by(with_reducible repeat(first|apply Kd.BV|apply Kd.BN|apply Kd.BI));exact Kd.AV l7.out (fun _ hk=>hk.1)))
     (case aS=>exact(AA z0))
     (case aL=>have:=r5.out;have hlx_:=(show((AD l0 a1).drop (a3:Int).toNat).length=((AD l0 a1).length-a3.toNat)from List.length_drop);omega)
     intro w8 E9 ho hb hg hat;rw[<-r6.out]at ho;have a7:=ak (Kd.Ec (ok:=(fun k_=>(w.heap.size<=k_))) (zs a0.out) hg hat);have a8:=ak (hb);have b3:=ak (ho);clear a0 HB l7;have a0:=a7;have HB:=a8;have l8:=b3;clear a7 a8 b3 ho hb hg hat;refine hK.out _ _ ⟨((HB.out.cell (World.block_lt_of_cell? w _ b1)).trans b1),((HB.out.cell (World.block_lt_of_cell? w _ b2)).trans b2)⟩ (fun hHeld=>?_);clear hK K;refine nz 76 ?_;refine oz 16 83 (fun K hK=>?_);refine Kd.BG (Kd.int .i64) (w0:=w) w.heap.size (by rfl) (.tmp 76) (.tmp 82) 47 3 (.int .i64 0) 8 rfl Try.underlying47 BT rfl (by decide) (by omega) w8 a6 ((AD l0 a1).take (a2:Int).toNat) _ _ _ (fun k_=>(w.heap.size<=k_)) (fun _=>False) rfl rfl ?aO ?aR (fun _ _ h=>h) (fun _ h=>h.elim) ?aF ?aB ?aS ?aL ?_
     (case aR=>first|(rw[<-show((AD l0 a1).take (a2:Int).toNat).length=a2.toNat from(by rw[List.length_take];have h_:(a2:Int)<=((AD l0 a1).length:Int):=za;omega)];(repeat(first|exact(Kd.AM e3.out HB.out)|(with_reducible refine Kd.Az ?_ _)|(with_reducible refine Kd.Ao ?_ _)|(with_reducible refine Kd.BL ?_)));done)|(refine(congrArg (fun n_=>CS _ _ _ _ n_ _) (show((AD l0 a1).take (a2:Int).toNat).length=a2.toNat from(by rw[List.length_take];have h_:(a2:Int)<=((AD l0 a1).length:Int):=za;omega))).mp ?_;(repeat(first|exact(Kd.AM e3.out HB.out)|(with_reducible refine Kd.Az ?_ _)|(with_reducible refine Kd.Ao ?_ _)|(with_reducible refine Kd.BL ?_)));done)|(repeat(first|exact(Kd.AM e3.out HB.out)|(with_reducible refine Kd.Az ?_ _)|(with_reducible refine Kd.Ao ?_ _)|(with_reducible refine Kd.BL ?_))))
     (case aB=>exact z0)
     (case aF=>exact(fun k_ hk=>(Nat.le_trans (AA z0) hk)))
     (case aO=>exact(zr l8.out))
     (case aS=>exact(AA z0))
     (case aL=>have:=r7.out;have hlx_:=(show((AD l0 a1).take (a2:Int).toNat).length=a2.toNat from(by rw[List.length_take];have h_:(a2:Int)<=((AD l0 a1).length:Int):=za;omega));omega)
     intro C9 F0 ho hb hg hat;rw[<-r8.out]at ho;have a7:=ak (Kd.Ec (ok:=(fun k_=>(w.heap.size<=k_))) (zs a0.out) hg hat);have a8:=ak (hb);have b3:=ak (ho);clear a0 HB l8;have a0:=a7;have HB:=a8;have e4:=b3;clear a7 a8 b3 ho hb hg hat;refine hK.out _ _ ⟨((HB.out.cell (World.block_lt_of_cell? w _ b1)).trans b1),((HB.out.cell (World.block_lt_of_cell? w _ b2)).trans b2)⟩ (fun hHeld=>?_);clear hK K;refine nz 83 ?_;refine pz 17 12 ?_;refine Ea (DI HT_.out (by kernel_rfl)) ?_;obtain⟨p9,q0,w9⟩:=Kd.Al e4.out;subst w9
     try go_wp2_with (first|((with_reducible refine Ak (b:= .append) (xs:= #[.tmp 84,.tmp 86]) rfl ?_);(try(refine BR (by rfl) ?_;dsimp only));at_builtin;refine Kd.Fq (Kd.slice 3 (Kd.int .i64)) (w0:=w) w.heap.size rfl (.tmp 84) (.tmp 86) 22 47 (.slice none 0 0) 24 rfl Try.underlying22 Hk rfl (by decide) (by omega) (.slice (some ⟨b8,0,none⟩) t245.length f1) a5 f0 [.slice p9 f0.length q0] (fun k_=>(w.heap.size<=k_)) (fun k_=>some k_=(.slice p9 f0.length q0:Value).ownBlock) rfl rfl ?aP (fun k_ hk_=>((Kd.AV (ok':=fun k_=>((fun k_=>(w.heap.size<=k_))) k_/\some k_≠(.slice (some ⟨b8,0,none⟩) t245.length f1:Value).ownBlock) (Kd.CI (e4.out) (Kd.CB a0.out) (by decide)) (fun k_ hk=>⟨hk.1,hk.2⟩))).1 k_ hk_.symm) ?aF ?aO ?aB ?aS ?aL ?_;(case aP=>exact Kd.FP (Kd.AV (Kd.DV rfl (Kd.AV (ok':=fun k_=>((fun k_=>(w.heap.size<=k_))) k_/\some k_≠(.slice (some ⟨b8,0,none⟩) t245.length f1:Value).ownBlock) (Kd.CI (e4.out) (Kd.CB a0.out) (by decide)) (fun k_ hk=>⟨hk.1,hk.2⟩))) (fun _ h_=>h_)));(case aB=>exact z0);(case aF=>exact(fun k_ hk=>(Nat.le_trans (AA z0) hk)));(case aO=>exact(by(with_reducible repeat(first|apply Kd.Bj|apply Kd.Bh|apply Kd.Bx));exact Kd.Af a0.out (fun k_ hk=>⟨hk.1,fun e_=>hk.2 e_⟩)));(case aS=>exact(AA z0));(case aL=>have:=r9.out;omega);intro D0 F1 ho hb hg hat;rw[<-s6.out]at ho;have a7:=ak (hb);have a8:=ak (ho);clear HB a0 e4;have HB:=a7;have e5:=a8;clear a7 a8 ho hb hg hat;obtain⟨x0,x1,x2⟩:=Kd.Bo e5.out;subst x2)|(refine zl (some 90) Try.func66 #[.slice x0 i0.length x1] ?_;(with_reducible refine(CL.calls d0 (fun k_=>(w.heap.size<=k_)) w.heap.size _ _ i0 t276 t279 _ (AA z0) ?side1 x6.out).mono ?_);(case side1=>exact EH (e5.out));rintro e Fa ⟨D1,rfl,n4,hb⟩;refine⟨_,rfl,?_⟩;replace e5:=ak (Kd.DO (zs e5.out) hb);have t1:=ak (GI (Kd.Af (ok':=fun k_=>(w.heap.size<=k_)) n4 (fun k_ hk_=>Or.elim hk_ (fun hs_=>hs_) (fun hn_=>(Nat.le_trans (AA z0) hn_)))) (AA z0));replace HB:=ak (AG z0 hb)))
     go_ret2
     exact⟨_,ze,zs t1.out,z0⟩
end Go.Proofs.Ytlnddmkkgjlmbaa.QFnMoves
namespace Go.Proofs.Ytlnddmkkgjlmbaa.QFnMoves
open Go.Proofs.Ytlnddmkkgjlmbaa.Zip Go.RowKit Go.Proofs.YtlnddmkkgjlmbaaW.PrintWords Go.Proofs.YtlnddmkkgjlmbaaW.PrintLast Go.Proofs.YtlnddmkkgjlmbaaW.PrintMore
attribute [local go_sem] CD CF CW CV Bl Bk CE CG
set_option linter.unusedVariables false
set_option linter.unusedSimpArgs false
mutual
def AU.j0:Nat->List (List Int)->Int->Int->Int->Bool->Option ((List (List Int))×Bool)
 |0,_,_,_,_,_=>none
 |k+1,x0,x1,x2,x3,a0=>if a0=true then(some (([]:List (List Int)),false))else((Aj.f k x0).bind fun t282=>(AU.l0 k x0 x1 x2 x3 1 t282))
def AU.j2:Nat->List (List Int)->Int->Int->Int->Int->Option ((List (List Int))×Bool)
 |0,_,_,_,_,_=>none
 |k+1,x0,x1,x2,x3,a1=>if a1>8 then(some (([]:List (List Int)),false))else((Aw.f k x0).bind fun t286=>(if 0<=x1 then(if x1<(x0.length:Int)then(if 0<=x2 then(if x2<=x3 then(if x3<=((AD x0 x1).length:Int)then((CO.f (((AD x0 x1).take (x3:Int).toNat).drop (x2:Int).toNat)).bind fun t291=>(if t291.length<17592186044416 then(if x1<(t286.length:Int)then((some (t286.set (x1:Int).toNat (t291++[a1]):List (List Int))).bind fun a2=>((some (([wrap64 (-a1)]:List Int):List Int)).bind fun a3=>(if 0<=x3 then(if a3.length+((AD x0 x1).drop (x3:Int).toNat).length<17592186044416 then((some (a3++((AD x0 x1).drop (x3:Int).toNat):List Int)).bind fun a4=>(if x2<=((AD x0 x1).length:Int)then(if a4.length+((AD x0 x1).take (x2:Int).toNat).length<17592186044416 then(if a2.length<5864062014805 then((BX.f k (a2++[(a4++((AD x0 x1).take (x2:Int).toNat))])).bind fun a0=>(some (a0.1,a0.2)))else(none))else(none))else(none)))else(none))else(none))))else(none))else(none)))else(none))else(none))else(none))else(none))else(none)))
def AU.l0:Nat->List (List Int)->Int->Int->Int->Int->List Int->Option ((List (List Int))×Bool)
 |0,_,_,_,_,_,_=>none
 |k+1,x0,x1,x2,x3,a0,a1=>if a0<=8 then(if 0<=a0 then(if a0<(a1.length:Int)then(if(rd a1 a0)>0 then(AU.l0 k x0 x1 x2 x3 (wrap64 (a0+1)) a1)else(AU.j2 k x0 x1 x2 x3 a0))else(none))else(none))else(AU.j2 k x0 x1 x2 x3 a0)
end
def AU.f (k:Nat) (l0:List (List Int)) (a1 a2 a3:Int):Option ((List (List Int))×Bool):=(Ap.f k l0 a1).bind fun t280=>(if t280=true then(if a2<0 then(AU.j0 k l0 a1 a2 a3 true)else(if a2>=a3 then(AU.j0 k l0 a1 a2 a3 true)else(if 0<=a1 then(if a1<(l0.length:Int)then(AU.j0 k l0 a1 a2 a3 (decide (a3>=((AD l0 a1).length:Int))))else(none))else(none))))else(AU.j0 k l0 a1 a2 a3 true))
set_option maxHeartbeats 8000000 in
set_option maxRecDepth 100000 in
theorem AU.calls (k:Nat) (A0:Option Addr) (c0:Nat) (l0:List (List Int)) (a1 a2 a3:Int) (r1:List (List Int)) (r2:Bool) (w:World) (t3:Kd.C (Kd.slice 3 (Kd.int .i64)) w A0 l0.length l0) (t4:l0.length<=c0) (h:AU.f k l0 a1 a2 a3=some (r1,r2)):
 Calls Try.prog 20 #[.slice A0 l0.length c0,.int .i64 a1,.int .i64 a2,.int .i64 a3] w fun e w'=> ∃t5:Value,e= .returned (.tuple #[t5,.bool r2])/\Kd.S (Kd.slice 3 (Kd.int .i64)) 47 w' w.heap.size (fun k_=>(w.heap.size<=k_)) t5 r1/\Below w.heap.size w w':=by
 have b7:=ak t3;have e5:=ak t4;clear t3 t4;have HB:=ak (Below.refl w.heap.size w);have H:=h;clear h;unfold AU.f at H;have m2:=ak H;clear H
 go_enter Try.func20,Try.ntmps20
 go_upto_region 1 with(fail)
 go_cut [35] (fun x6 wc=> ∃(kq:Nat) (d6:Bool),x6= .bool d6/\AJ (AU.j0 kq l0 a1 a2 a3 d6=some (r1,r2))/\AJ (kq<=k)/\AJ (Below w.heap.size w wc))
 case first=>
  have H:=m2.out;clear m2;replace H:=gb H;obtain⟨t280,A6,H⟩:=H
  by_cases c7:t280=true
  ·
   subst c7;rw[if_pos rfl]at H
   by_cases c8:a2<0
   ·
    rw[if_pos c8]at H;have b4:=decide_eq_true c8;clear c8
    (first|rw[b4]|(simp only[Dg,Ep];rw[b4])|skip)
    have H':=ak H;clear H
    go_wp2_with (first|(refine zl (some 16) Try.func57 #[.slice A0 l0.length c0,.int .i64 a1] ?_;(with_reducible refine(Ap.calls k _ _ l0 a1 true _ ?side1 ?side2 A6.out).mono ?_);(case side1=>exact zc (Kd.AM b7.out HB.out));(case side2=>exact e5.out);rintro e w9 ⟨rfl,hb⟩;refine⟨_,rfl,?_⟩;replace HB:=ak (AG z0 hb)))
    go_meet
    case rel=>exact⟨_,(true),zd,H',⟨by first|omega|exact Nat.le_refl _⟩,⟨z0⟩⟩
   ·
    rw[if_neg c8]at H;have b4:=decide_eq_false c8;clear c8
    (first|rw[b4]|(simp only[Dg,Ep];rw[b4])|skip)
    by_cases Du:a2>=a3
    ·
     rw[if_pos Du]at H;have d7:=decide_eq_true Du;clear Du;have H':=ak H;clear H
     go_wp2_with (first|(refine zl (some 16) Try.func57 #[.slice A0 l0.length c0,.int .i64 a1] ?_;(with_reducible refine(Ap.calls k _ _ l0 a1 true _ ?side1 ?side2 A6.out).mono ?_);(case side1=>exact zc (Kd.AM b7.out HB.out));(case side2=>exact e5.out);rintro e E0 ⟨rfl,hb⟩;refine⟨_,rfl,?_⟩;replace HB:=ak (AG z0 hb)))
     go_meet
     case rel=>exact⟨_,(true),zd,H',⟨by first|omega|exact Nat.le_refl _⟩,⟨z0⟩⟩
    ·
     rw[if_neg Du]at H;have d7:=decide_eq_false Du;clear Du;replace H:=gi H;obtain⟨g8,H⟩:=H;have f7:=decide_eq_true g8;clear g8;replace H:=gi H;obtain⟨g9,H⟩:=H;have f8:=decide_eq_true g9;clear g9;have H':=ak H;clear H
     go_wp2_with (first|(refine zl (some 16) Try.func57 #[.slice A0 l0.length c0,.int .i64 a1] ?_;(with_reducible refine(Ap.calls k _ _ l0 a1 true _ ?side1 ?side2 A6.out).mono ?_);(case side1=>exact zc (Kd.AM b7.out HB.out));(case side2=>exact e5.out);rintro e E1 ⟨rfl,hb⟩;refine⟨_,rfl,?_⟩;replace HB:=ak (AG z0 hb);have b9:0<=(a1:Int):=za;have d0:a1<(l0.length:Int):=za;obtain⟨A3,x8,x9,v4,a9,e6,e7⟩:=Cl b7.out a1 b9 d0;cases v4;replace a9:=(HB.out.cell (World.block_lt_of_cell? w _ a9)).trans a9;have x4:=ak e7;have x5:=ak e6;clear e7 e6;replace b9:=eq_true b9;replace d0:=eq_true d0))
     go_meet
     case rel=>exact⟨_,(decide (a3>=((AD l0 a1).length:Int))),zd,H',⟨by first|omega|exact Nat.le_refl _⟩,⟨z0⟩⟩
  ·
   replace c7:=Bool.eq_false_iff.mpr c7;subst c7;rw[if_neg (show¬(false=true) by decide)]at H;have H':=ak H;clear H
   go_wp2_with (first|(refine zl (some 16) Try.func57 #[.slice A0 l0.length c0,.int .i64 a1] ?_;(with_reducible refine(Ap.calls k _ _ l0 a1 false _ ?side1 ?side2 A6.out).mono ?_);(case side1=>exact zc (Kd.AM b7.out HB.out));(case side2=>exact e5.out);rintro e E2 ⟨rfl,hb⟩;refine⟨_,rfl,?_⟩;replace HB:=ak (AG z0 hb)))
   go_meet
   case rel=>exact⟨_,(true),zd,H',⟨by first|omega|exact Nat.le_refl _⟩,⟨z0⟩⟩
 case rest=>
  clear m2;obtain⟨kq,d6,rfl,HA,i5,HB⟩:=hcut
  cases kq with
  |zero=>exact absurd HA.out (by simp[AU.j0])
  |succ i6=>
   have H:=HA.out;clear HA;simp only[AU.j0]at H
   by_cases e8:d6=true
   ·
    subst e8;rw[if_pos rfl]at H;simp only[Option.some.injEq,Prod.mk.injEq]at H;obtain⟨rfl,rfl⟩:=H
    go_wp2
    go_ret2
    exact⟨_,ze,EH (by first|exact Kd.Eg _ _ _ _ _|exact Kd.Ii _ _ _ _ _|exact Kd.Eg _ _ _ _ _|exact Kd.Iy _ _ _ _ _|exact Kd.Gn _ _ _ _ _),z0⟩
   ·
    replace e8:=Bool.eq_false_iff.mpr e8;subst e8;rw[if_neg (show¬(false=true) by decide)]at H;replace H:=gb H;obtain⟨t282,y0,H⟩:=H;have h4:=ak H;clear H
    go_upto_block 0 with(first|(refine zl (some 37) Try.func67 #[.slice A0 l0.length c0] ?_;(with_reducible refine(Aj.calls i6 _ _ l0 t282 _ ?side1 ?side2 y0.out).mono ?_);(case side1=>exact zc (Kd.AM b7.out HB.out));(case side2=>exact e5.out);rintro e E3 ⟨v5,rfl,b8,hb⟩;refine⟨_,rfl,?_⟩;have q4:=ak (Kd.BA (Kd.DX (M:=fun k_=>(w.heap.size<=k_)) b8 (AA z0) (fun k_ h_=>h_)) (AA z0));replace HB:=ak (AG z0 hb)))
    (try simp only[Act.put,List.setIfInBounds_toArray,List.set_cons_zero,List.set_cons_succ])
    go_cut [10] (fun m3 wc=> ∃(kq:Nat) (a4:Int),m3= .int .i64 a4/\AJ (AU.j2 kq l0 a1 a2 a3 a4=some (r1,r2))/\AJ (kq<=i6)/\AJ (Below w.heap.size w wc))
    case first=>
     have H:=h4.out;clear h4;have H':=ak H;clear H
     go_wp2
     go_loopg [10] i6 (fun kq m3 w'=> ∃(a8:Int),m3= .int .i64 a8/\AJ (AU.l0 kq l0 a1 a2 a3 a8 t282=some (r1,r2))/\AJ (kq<=i6)/\AJ (Kd.R (Kd.int .i64) 3 w' w.heap.size (fun k_=>(w.heap.size<=k_)) v5 t282)/\AJ (Below w.heap.size w w'))
     case atStart=>exact⟨(1),zd,H',⟨Nat.le_refl _⟩,⟨by(with_reducible repeat(first|apply Kd.BV|apply Kd.BN|apply Kd.BI));exact Kd.AV q4.out (fun _ hk=>hk.1)⟩,⟨z0⟩⟩
     case round=>
      clear H';obtain⟨a8,rfl,HA,i7,HO_11,HB⟩:=hrel
      cases gk with
      |zero=>exact absurd HA.out (by simp[AU.l0])
      |succ k2=>
       have H:=HA.out;clear HA;simp only[AU.l0]at H
       by_cases e1:a8<=8
       ·
        rw[if_pos e1]at H;have b6:=decide_eq_true e1;clear e1
        (first|rw[b6]|(simp only[Dg,Ep];rw[b6])|skip)
        replace H:=gi H;obtain⟨m4,H⟩:=H;have q5:=decide_eq_true m4;clear m4;replace H:=gi H;obtain⟨m5,H⟩:=H;have q6:=decide_eq_true m5;clear m5
        by_cases e2:(rd t282 a8)>0
        ·
         rw[if_pos e2]at H;have i9:=decide_eq_true e2;clear e2;have H':=ak H;clear H;obtain⟨C7,C8,v6⟩:=Kd.Al HO_11.out;subst v6;obtain⟨q7,h5,e9,m6,m7⟩:=ai (Kd.AN HO_11.out).2.2 a8;cases h5
         go_wp2
         go_roundg k2
         case measure=>have:=i5.out;have:=i7.out;omega
         case rel=>exact⟨(wrap64 (a8+1)),zd,H',⟨by have:=i5.out;have:=i7.out;omega⟩,⟨zr HO_11.out⟩,⟨z0⟩⟩
        ·
         rw[if_neg e2]at H;have i9:=decide_eq_false e2;clear e2;have H':=ak H;clear H;obtain⟨C9,D0,v7⟩:=Kd.Al HO_11.out;subst v7;obtain⟨q7,h5,e9,m6,m7⟩:=ai (Kd.AN HO_11.out).2.2 a8;cases h5
         go_wp2
         go_meet
         case rel=>exact⟨_,(a8),zd,H',⟨by have:=i5.out;have:=i7.out;first|omega|exact Nat.le_refl _⟩,⟨z0⟩⟩
       ·
        rw[if_neg e1]at H;have b6:=decide_eq_false e1;clear e1
        (first|rw[b6]|(simp only[Dg,Ep];rw[b6])|skip)
        have H':=ak H;clear H
        go_wp2
        go_meet
        case rel=>exact⟨_,(a8),zd,H',⟨by have:=i5.out;have:=i7.out;first|omega|exact Nat.le_refl _⟩,⟨z0⟩⟩
    case rest=>
     clear h4;obtain⟨kq,a4,rfl,HA,D1,HB⟩:=hcut
     cases kq with
     |zero=>exact absurd HA.out (by simp[AU.j2])
     |succ b5=>
      have H:=HA.out;clear HA;simp only[AU.j2]at H
      by_cases f0:a4>8
      ·
       rw[if_pos f0]at H;have q8:=decide_eq_true f0;clear f0;simp only[Option.some.injEq,Prod.mk.injEq]at H;obtain⟨rfl,rfl⟩:=H
       go_wp2
       go_ret2
       exact⟨_,ze,EH (by first|exact Kd.Eg _ _ _ _ _|exact Kd.Ii _ _ _ _ _|exact Kd.Eg _ _ _ _ _|exact Kd.Iy _ _ _ _ _|exact Kd.Gn _ _ _ _ _),z0⟩
      ·
       rw[if_neg f0]at H;have q8:=decide_eq_false f0;clear f0;replace H:=gb H;obtain⟨t286,y1,H⟩:=H;replace H:=gi H;obtain⟨t7,H⟩:=H;have A4:=decide_eq_true t7;clear t7;replace H:=gi H;obtain⟨t8,H⟩:=H;have A5:=decide_eq_true t8;clear t8;replace H:=gi H;obtain⟨m8,H⟩:=H;have A7:=eq_true m8;have A8:=decide_eq_true m8;clear m8;replace H:=gi H;obtain⟨m9,H⟩:=H;have A9:=eq_true m9;have B0:=decide_eq_true m9;clear m9;replace H:=gi H;obtain⟨n0,H⟩:=H;have B1:=eq_true n0;have B2:=decide_eq_true n0;clear n0;replace H:=gb H;obtain⟨t291,y2,H⟩:=H;replace H:=gi H;obtain⟨t9,H⟩:=H;have q9:=ak t9;clear t9;obtain⟨h6,f9⟩: ∃y_:List Int,y_=(t291++[a4]):=⟨_,rfl⟩;replace H:(if a1<(t286.length:Int)then((some (t286.set (a1:Int).toNat h6:List (List Int))).bind fun a6=>((some (([wrap64 (-a4)]:List Int):List Int)).bind fun b2=>(if 0<=a3 then(if b2.length+((AD l0 a1).drop (a3:Int).toNat).length<17592186044416 then((some (b2++((AD l0 a1).drop (a3:Int).toNat):List Int)).bind fun a7=>(if a2<=((AD l0 a1).length:Int)then(if a7.length+((AD l0 a1).take (a2:Int).toNat).length<17592186044416 then(if a6.length<5864062014805 then((BX.f b5 (a6++[(a7++((AD l0 a1).take (a2:Int).toNat))])).bind fun a5=>(some (a5.1,a5.2)))else(none))else(none))else(none)))else(none))else(none))))else(none))=some (r1,r2):=zy f9 H;have r0:=ak f9;clear f9;replace H:=gi H;obtain⟨v0,H⟩:=H;have B3:=decide_eq_true v0;clear v0;obtain⟨a6,g0⟩: ∃y_:List (List Int),y_=(t286.set (a1:Int).toNat h6):=⟨_,rfl⟩;replace H:((some (([wrap64 (-a4)]:List Int):List Int)).bind fun b2=>(if 0<=a3 then(if b2.length+((AD l0 a1).drop (a3:Int).toNat).length<17592186044416 then((some (b2++((AD l0 a1).drop (a3:Int).toNat):List Int)).bind fun a7=>(if a2<=((AD l0 a1).length:Int)then(if a7.length+((AD l0 a1).take (a2:Int).toNat).length<17592186044416 then(if a6.length<5864062014805 then((BX.f b5 (a6++[(a7++((AD l0 a1).take (a2:Int).toNat))])).bind fun a5=>(some (a5.1,a5.2)))else(none))else(none))else(none)))else(none))else(none)))=some (r1,r2):=zy g0 H;have r3:=ak g0;clear g0;obtain⟨b2,g1⟩: ∃y_:List Int,y_=(([wrap64 (-a4)]:List Int)):=⟨_,rfl⟩;replace H:(if 0<=a3 then(if b2.length+((AD l0 a1).drop (a3:Int).toNat).length<17592186044416 then((some (b2++((AD l0 a1).drop (a3:Int).toNat):List Int)).bind fun a7=>(if a2<=((AD l0 a1).length:Int)then(if a7.length+((AD l0 a1).take (a2:Int).toNat).length<17592186044416 then(if a6.length<5864062014805 then((BX.f b5 (a6++[(a7++((AD l0 a1).take (a2:Int).toNat))])).bind fun a5=>(some (a5.1,a5.2)))else(none))else(none))else(none)))else(none))else(none))=some (r1,r2):=zy g1 H;have j5:=ak g1;clear g1;replace H:=gi H;obtain⟨n1,H⟩:=H;have B5:=eq_true n1;have B7:=decide_eq_true n1;clear n1;have C0:=eq_true (za:a3<=((AD l0 a1).length:Int));replace H:=gi H;obtain⟨v1,H⟩:=H;have r4:=ak v1;clear v1;obtain⟨a7,g2⟩: ∃y_:List Int,y_=(b2++((AD l0 a1).drop (a3:Int).toNat)):=⟨_,rfl⟩;replace H:(if a2<=((AD l0 a1).length:Int)then(if a7.length+((AD l0 a1).take (a2:Int).toNat).length<17592186044416 then(if a6.length<5864062014805 then((BX.f b5 (a6++[(a7++((AD l0 a1).take (a2:Int).toNat))])).bind fun a5=>(some (a5.1,a5.2)))else(none))else(none))else(none))=some (r1,r2):=zy g2 H;have r5:=ak g2;clear g2;have C1:=eq_true (za:0<=a2);replace H:=gi H;obtain⟨n2,H⟩:=H;have C2:=eq_true n2;have C3:=decide_eq_true n2;clear n2;replace H:=gi H;obtain⟨v2,H⟩:=H;have r6:=ak v2;clear v2;obtain⟨e3,g3⟩: ∃y_:List Int,y_=(a7++((AD l0 a1).take (a2:Int).toNat)):=⟨_,rfl⟩;replace H:(if a6.length<5864062014805 then((BX.f b5 (a6++[e3])).bind fun a5=>(some (a5.1,a5.2)))else(none))=some (r1,r2):=zy g3 H;have r7:=ak g3;clear g3;replace H:=gi H;obtain⟨v3,H⟩:=H;have r8:=ak v3;clear v3;obtain⟨h7,g4⟩: ∃y_:List (List Int),y_=(a6++[e3]):=⟨_,rfl⟩;replace H:((BX.f b5 h7).bind fun a5=>(some (a5.1,a5.2)))=some (r1,r2):=zy g4 H;have r9:=ak g4;clear g4;replace H:=gb H;obtain⟨⟨t314,t317⟩,y3,H⟩:=H;dsimp only at H;simp only[Option.some.injEq,Prod.mk.injEq]at H;obtain⟨rfl,rfl⟩:=H
       go_wp2_with (first|(refine zl (some 52) Try.func58 #[.slice A0 l0.length c0] ?_;(with_reducible refine(Aw.calls b5 _ _ l0 t286 _ ?side1 ?side2 y1.out).mono ?_);(case side1=>exact zc (Kd.AM b7.out HB.out));(case side2=>exact e5.out);rintro e E4 ⟨D2,rfl,b8,hb⟩;refine⟨_,rfl,?_⟩;have a0:=ak (Kd.BS (Kd.EM (M:=fun k_=>(w.heap.size<=k_)) b8 (AA z0) (fun k_ h_=>h_)) (AA z0));replace HB:=ak (AG z0 hb);have h8:0<=(a1:Int):=za;have h9:a1<(l0.length:Int):=za;obtain⟨j6,n3,h3,v8,d1,f1,f2⟩:=Cl b7.out a1 h8 h9;cases v8;replace d1:=(HB.out.cell (World.block_lt_of_cell? w _ d1)).trans d1;have l6:=ak f2;have l7:=ak f1;clear f2 f1;replace h8:=eq_true h8;replace h9:=eq_true h9;obtain⟨i046,j7,_,j8,_⟩:=info_parts BT;obtain⟨y4,y5,n4,n5⟩:=KD (P:=Try.prog) (Value.int .i64) 0 47 3 .i64 .i64 Try.underlying47 j7 j8 n3 h3 (AD l0 a1) a2 a3 (za) (by first|omega|exact za) (za) l7.out;have s6:=ak (Kd.Cf (h1:=fun _=>rfl) (n4 _ (Kd.Cg l6.out)));have s7:=ak n5;clear n4 n5 j7 j8)|((with_reducible refine zg 68 rfl ?_);refine OD (some 62) rfl rfl Try.func68 (by kernel_rfl) rfl #[.slice y4 (((AD l0 a1).take (a3:Int).toNat).drop (a2:Int).toNat).length (h3-a2.toNat)] rfl (by(try simp only[List.map_toArray,List.map_cons,List.map_nil]);first|done|(rw[show(((AD l0 a1).take (a3:Int).toNat).drop (a2:Int).toNat).length=(a3.toNat-a2.toNat)from(by rw[List.length_drop,List.length_take];have h_:(a3:Int)<=((AD l0 a1).length:Int):=za;omega)]<;>rfl)|rfl|(simp only[List.length_drop,List.length_take];rfl)) ?_;(with_reducible refine(CO.calls _ _ (((AD l0 a1).take (a3:Int).toNat).drop (a2:Int).toNat) t291 _ ?side1 ?side2 y2.out).mono ?_);(case side1=>exact zc (Kd.AM s6.out HB.out));(case side2=>exact s7.out);rintro e E5 ⟨v9,rfl,b8,hb⟩;refine⟨_,rfl,?_⟩;replace a0:=ak (Kd.Cq (zs a0.out) (Kd.CC b8) hb);have j9:=ak (Kd.BA (Kd.DX (M:=fun k_=>(w.heap.size<=k_)) b8 (AA z0) (fun k_ h_=>h_)) (AA z0));replace HB:=ak (AG z0 hb))|((with_reducible refine Ak (b:= .append) (xs:= #[.tmp 62,.tmp 64]) rfl ?_);(try(refine BR (by rfl) ?_;dsimp only));at_builtin;refine Kd.Cy (Kd.int .i64) (w0:=w) w.heap.size rfl (.tmp 62) (.tmp 64) 47 3 (.int .i64 0) 8 rfl Try.underlying47 BT rfl (by decide) (by omega) v9 t291 a4 [.int .i64 a4] (fun k_=>(w.heap.size<=k_)) (fun _=>False) rfl rfl ?aP (fun _ hk=>hk.elim) ?aF ?aO ?aB ?aS ?aL ?_;(case aP=>exact rfl);(case aB=>exact z0);(case aF=>exact(fun k_ hk=>(Nat.le_trans (AA z0) hk)));(case aO=>exact(by(with_reducible repeat(first|apply Kd.BV|apply Kd.BN|apply Kd.BI));exact Kd.AV j9.out (fun _ hk=>hk.1)));(case aS=>exact(AA z0));(case aL=>have:=q9.out;omega);intro i0 n6 ho hb hg hat;rw[<-r0.out]at ho;have b0:=ak (Kd.Ec (ok:=(fun k_=>(w.heap.size<=k_))) (by(with_reducible repeat(first|apply Kd.Bj|apply Kd.Bh|apply Kd.Bx));exact Kd.Af a0.out (fun _ hk=>⟨hk.1.1,hk.2⟩)) hg hat);have b1:=ak (hb);have d5:=ak (ho);clear a0 HB j9;have a0:=b0;have HB:=b1;have d8:=d5;clear b0 b1 d5 ho hb hg hat;have n7:0<=(a1:Int):=za;have n8:(a1:Int)<((t286.length:Int):Int):=za;obtain⟨b3,e4,n9,o0,w2,D3,o1⟩:=Kd.GP a0.out (by omega);(first|cases n9|(injection n9 with ea_ en_ ec_;(first|subst ea_|(injection ea_ with ea_;subst ea_));subst ec_;clear en_));have w3:=ak o0;have D4:=ak o1;clear o0 w2 o1;obtain⟨_,D5,s8,o2,k0,k1,_,_⟩:=Kd.FL a0.out [] (a1:Int) n7 n8;obtain⟨y6,rfl,y7⟩:=o2;have o3:=k0 0 _ rfl;have o4:=k1 0;(try simp only[show((Kd.slice 3 (Kd.int .i64))).sz=1 from rfl,Nat.mul_one,Nat.add_zero]at o3);(try simp only[show((Kd.slice 3 (Kd.int .i64))).sz=1 from rfl,Nat.mul_one,Nat.add_zero]at o4);clear s8 k0 k1;replace n7:=eq_true n7;replace n8:=eq_true n8;have w4:=ak (show Kd.S (Kd.slice 3 (Kd.int .i64)) 47 n6 w.heap.size (fun k_=>((fun k_=>(w.heap.size<=k_))) k_/\¬((fun k_=>some k_=(i0:Value).ownBlock)) k_) (.slice (some ⟨b3,0,none⟩) t286.length e4) t286 from(by(with_reducible repeat(first|apply Kd.Bj|apply Kd.Bh|apply Kd.Bx));exact Kd.Af a0.out (fun k_ hk=>⟨hk.1,fun e_=>hk.2 e_⟩)));obtain⟨C4,D6,s9,o5,k3,k4,o6,o7⟩:=Kd.FL w4.out [] (a1:Int) (za) (by have h_:(a1:Int)<((t286.length:Int):Int):=za;first|exact h_|(have e_:=(Kd.Aa a0.out).1;omega)|simpa using h_);obtain⟨y8,rfl,y9⟩:=o5;have g5:=Kd.JK o7 (za) (by have h_:(a1:Int)<((t286.length:Int):Int):=za;first|exact h_|(have e_:=(Kd.Aa a0.out).1;omega)|simpa using h_) (seg:=[i0]) (j:=0) (show 1<=1 from by decide) (x':=h6) (Kd.FP (Kd.AV (Kd.DV rfl (Kd.AV (ok':=fun k_=>((fun k_=>(w.heap.size<=k_))) k_/\k_≠b3) (Kd.CI (d8.out) (Kd.CB a0.out) (by decide)) (fun k_ hk=>⟨hk.1,fun e_=>(hk.2) (by rw[e_];rfl)⟩))) (fun _ h_=>Or.inr (h_)))) (fun _ hk=>hk) (fun k_ hk_=>((Kd.AV (ok':=fun k_=>((fun k_=>(w.heap.size<=k_))) k_/\k_≠b3) (Kd.CI (d8.out) (Kd.CB a0.out) (by decide)) (fun k_ hk=>⟨hk.1,fun e_=>(hk.2) (by rw[e_];rfl)⟩))).1 k_ hk_.symm);have o8:=k3 0 _ rfl;(try simp only[show((Kd.slice 3 (Kd.int .i64))).sz=1 from rfl,Nat.mul_one,Nat.add_zero]at o8);have o9:=k4 0;(try simp only[show((Kd.slice 3 (Kd.int .i64))).sz=1 from rfl,Nat.mul_one,Nat.add_zero]at o9);clear s9 k3 k4;(try simp only[show((Kd.slice 3 (Kd.int .i64))).sz=1 from rfl,Nat.mul_one,Nat.add_zero]at g5))|((with_reducible refine Dm (t:=47) (p:=66) rfl ?_);refine DU (t:=47) (p:=66) (v:=?vo_w50) (w1:=(n6.setCell ⟨b3,(a1:Int).toNat,none⟩ (i0))) ?hg ?ho ?hn ?hr ?_;(case ho=>rfl);(case hg=>rfl);(case hn=>rfl);(case hr=>first|(go_simp;done)|(go_simp;rfl)|(obtain⟨A_,c_,e_⟩:=Kd.Al d8.out;subst e_;first|(go_simp;done)|(go_simp;rfl)));intro p0 hw;have hg:n6.grownBy p0 (some b3):=(by rw[hw];exact g5.2);have hp_:Kd.S (Kd.slice 3 (Kd.int .i64)) 47 p0 w.heap.size (fun k_=>(w.heap.size<=k_)) (.slice (some ⟨b3,0,none⟩) t286.length e4) a6:=(by rw[hw,r3.out];exact g5.1);clear g5;have b0:=ak (hp_);have b1:=ak ((by rw[hw];exact BC (HB.out) w3.out:Below w.heap.size w p0));clear a0 HB d8;have a0:=b0;have HB:=b1;clear b0 b1 hg hw hp_)|((with_reducible refine Ar (N:=69) rfl ?_);(try(refine BR (by rfl) ?_;dsimp only));refine Kd.DS (Kd.int .i64) _ 3 ?hg (N:=69) ?hd (xs:=([wrap64 (-a4)]:List Int)) (inner:=[.int .i64 (wrap64 (-a4))]) (ok:=fun _=>True) (okp:=fun _=>True) ?hr ?hp (fun _ hk=>hk) trivial (Below.refl _ _) (Nat.le_refl _) (by simp) ?_;(case hd=>rfl);(case hg=>rfl);(case hr=>first|(go_simp;done)|(go_simp;rfl));(case hp=>exact(Av.one (show Kd.M (Kd.int .i64) _ _ _ (wrap64 (-a4)) [.int .i64 (wrap64 (-a4))]from rfl) (Av.none _ _)));intro w5 E6 d2 hb hg_ hnew_;clear hg_ hnew_;(first|rw[<-j5.out]at d2|(simp only[Int.reduceToNat]at d2;rw[<-j5.out]at d2));replace a0:=ak (Kd.Cq (zs a0.out) (Kd.CC d2) hb);have k5:=ak (Kd.BA (Kd.DX (M:=fun k_=>(w.heap.size<=k_)) d2 (AA z0) (fun k_ h_=>h_)) (AA z0));replace HB:=ak (AG z0 hb);clear hb d2;have i1:0<=(a1:Int):=za;have i2:a1<(l0.length:Int):=za;obtain⟨t0,p1,p3,w6,d3,f3,f4⟩:=Cl b7.out a1 i1 i2;obtain rfl:j6=t0:=(by injection w6);replace d3:=(HB.out.cell (World.block_lt_of_cell? w _ d3)).trans d3;have l8:=ak f4;have l9:=ak f3;clear f4 f3;replace i1:=eq_true i1;replace i2:=eq_true i2;obtain⟨i053,k6,_,k7,_⟩:=info_parts BT;obtain⟨E7,A1,p4,p5⟩:=EA (P:=Try.prog) (Value.int .i64) 0 47 3 .i64 Try.underlying47 k6 k7 p1 p3 (AD l0 a1) a3 (za) (za) l9.out;have g6:=ak (Kd.Cf (h1:=fun _=>rfl) (p4 _ (Kd.Cg l8.out)));have C5:=ak p5;clear p4 p5 k6 k7)|((with_reducible refine Ak (b:= .append) (xs:= #[.tmp 69,.tmp 75]) rfl ?_);(try(refine BR (by rfl) ?_;dsimp only));at_builtin;refine Kd.Cv (Kd.int .i64) (w0:=w) w.heap.size rfl (.tmp 69) (.tmp 75) 47 3 (.int .i64 0) 8 rfl Try.underlying47 BT rfl (by decide) (by omega) w5 b2 ((AD l0 a1).drop (a3:Int).toNat) _ _ _ (fun k_=>(w.heap.size<=k_)) (fun _=>False) rfl rfl ?aO ?aR (fun _ _ h=>h) (fun _ h=>h.elim) ?aF ?aB ?aS ?aL ?_;(case aR=>first|(rw[<-show((AD l0 a1).drop (a3:Int).toNat).length=((AD l0 a1).length-a3.toNat)from List.length_drop];(repeat(first|exact(Kd.AM g6.out HB.out)|(with_reducible refine Kd.Az ?_ _)|(with_reducible refine Kd.Ao ?_ _)|(with_reducible refine Kd.BL ?_)));done)|(refine(congrArg (fun n_=>CS _ _ _ _ n_ _) (show((AD l0 a1).drop (a3:Int).toNat).length=((AD l0 a1).length-a3.toNat)from List.length_drop)).mp ?_;(repeat(first|exact(Kd.AM g6.out HB.out)|(with_reducible refine Kd.Az ?_ _)|(with_reducible refine Kd.Ao ?_ _)|(with_reducible refine Kd.BL ?_)));done)|(repeat(first|exact(Kd.AM g6.out HB.out)|(with_reducible refine Kd.Az ?_ _)|(with_reducible refine Kd.Ao ?_ _)|(with_reducible refine Kd.BL ?_))));(case aB=>exact z0);(case aF=>exact(fun k_ hk=>(Nat.le_trans (AA z0) hk)));(case aO=>exact(by(with_reducible repeat(first|apply Kd.BV|apply Kd.BN|apply Kd.BI));exact Kd.AV k5.out (fun _ hk=>hk.1)));(case aS=>exact(AA z0));(case aL=>have:=r4.out;have hlx_:=(show((AD l0 a1).drop (a3:Int).toNat).length=((AD l0 a1).length-a3.toNat)from List.length_drop);omega);intro w7 E8 ho hb hg hat;rw[<-r5.out]at ho;have b0:=ak (Kd.Ec (ok:=(fun k_=>(w.heap.size<=k_))) (zs a0.out) hg hat);have b1:=ak (hb);have d5:=ak (ho);clear a0 HB k5;have a0:=b0;have HB:=b1;have k8:=d5;clear b0 b1 d5 ho hb hg hat;have i3:0<=(a1:Int):=za;have i4:a1<(l0.length:Int):=za;obtain⟨t1,p7,p8,w8,d4,f5,f6⟩:=Cl b7.out a1 i3 i4;obtain rfl:j6=t1:=(by injection w8);replace d4:=(HB.out.cell (World.block_lt_of_cell? w _ d4)).trans d4;have m0:=ak f6;have m1:=ak f5;clear f6 f5;replace i3:=eq_true i3;replace i4:=eq_true i4;obtain⟨i055,k9,_,l5,_⟩:=info_parts BT;obtain⟨A2,p9,q0⟩:=ED (P:=Try.prog) (Value.int .i64) 0 47 3 .i64 Try.underlying47 k9 l5 p7 p8 (AD l0 a1) a2 (za) (za) m1.out;have g7:=ak (Kd.Cf (h1:=fun _=>rfl) (p9 _ (Kd.Cg m0.out)));have C6:=ak q0;clear p9 q0 k9 l5)|((with_reducible refine Ak (b:= .append) (xs:= #[.tmp 78,.tmp 84]) rfl ?_);(try(refine BR (by rfl) ?_;dsimp only));at_builtin;refine Kd.Cv (Kd.int .i64) (w0:=w) w.heap.size rfl (.tmp 78) (.tmp 84) 47 3 (.int .i64 0) 8 rfl Try.underlying47 BT rfl (by decide) (by omega) w7 a7 ((AD l0 a1).take (a2:Int).toNat) _ _ _ (fun k_=>(w.heap.size<=k_)) (fun _=>False) rfl rfl ?aO ?aR (fun _ _ h=>h) (fun _ h=>h.elim) ?aF ?aB ?aS ?aL ?_;(case aR=>first|(rw[<-show((AD l0 a1).take (a2:Int).toNat).length=a2.toNat from(by rw[List.length_take];have h_:(a2:Int)<=((AD l0 a1).length:Int):=za;omega)];(repeat(first|exact(Kd.AM g7.out HB.out)|(with_reducible refine Kd.Az ?_ _)|(with_reducible refine Kd.Ao ?_ _)|(with_reducible refine Kd.BL ?_)));done)|(refine(congrArg (fun n_=>CS _ _ _ _ n_ _) (show((AD l0 a1).take (a2:Int).toNat).length=a2.toNat from(by rw[List.length_take];have h_:(a2:Int)<=((AD l0 a1).length:Int):=za;omega))).mp ?_;(repeat(first|exact(Kd.AM g7.out HB.out)|(with_reducible refine Kd.Az ?_ _)|(with_reducible refine Kd.Ao ?_ _)|(with_reducible refine Kd.BL ?_)));done)|(repeat(first|exact(Kd.AM g7.out HB.out)|(with_reducible refine Kd.Az ?_ _)|(with_reducible refine Kd.Ao ?_ _)|(with_reducible refine Kd.BL ?_))));(case aB=>exact z0);(case aF=>exact(fun k_ hk=>(Nat.le_trans (AA z0) hk)));(case aO=>exact(zr k8.out));(case aS=>exact(AA z0));(case aL=>have:=r6.out;have hlx_:=(show((AD l0 a1).take (a2:Int).toNat).length=a2.toNat from(by rw[List.length_take];have h_:(a2:Int)<=((AD l0 a1).length:Int):=za;omega));omega);intro D7 E9 ho hb hg hat;rw[<-r7.out]at ho;have b0:=ak (Kd.Ec (ok:=(fun k_=>(w.heap.size<=k_))) (zs a0.out) hg hat);have b1:=ak (hb);have d5:=ak (ho);clear a0 HB k8;have a0:=b0;have HB:=b1;have d9:=d5;clear b0 b1 d5 ho hb hg hat;obtain⟨q1,q3,x0⟩:=Kd.Al d9.out;subst x0)|((with_reducible refine Ak (b:= .append) (xs:= #[.tmp 77,.tmp 86]) rfl ?_);(try(refine BR (by rfl) ?_;dsimp only));at_builtin;refine Kd.Fq (Kd.slice 3 (Kd.int .i64)) (w0:=w) w.heap.size rfl (.tmp 77) (.tmp 86) 22 47 (.slice none 0 0) 24 rfl Try.underlying22 Hk rfl (by decide) (by omega) (.slice (some ⟨b3,0,none⟩) t286.length e4) a6 e3 [.slice q1 e3.length q3] (fun k_=>(w.heap.size<=k_)) (fun k_=>some k_=(.slice q1 e3.length q3:Value).ownBlock) rfl rfl ?aP (fun k_ hk_=>((Kd.AV (ok':=fun k_=>((fun k_=>(w.heap.size<=k_))) k_/\some k_≠(.slice (some ⟨b3,0,none⟩) t286.length e4:Value).ownBlock) (Kd.CI (d9.out) (Kd.CB a0.out) (by decide)) (fun k_ hk=>⟨hk.1,hk.2⟩))).1 k_ hk_.symm) ?aF ?aO ?aB ?aS ?aL ?_;(case aP=>exact Kd.FP (Kd.AV (Kd.DV rfl (Kd.AV (ok':=fun k_=>((fun k_=>(w.heap.size<=k_))) k_/\some k_≠(.slice (some ⟨b3,0,none⟩) t286.length e4:Value).ownBlock) (Kd.CI (d9.out) (Kd.CB a0.out) (by decide)) (fun k_ hk=>⟨hk.1,hk.2⟩))) (fun _ h_=>h_)));(case aB=>exact z0);(case aF=>exact(fun k_ hk=>(Nat.le_trans (AA z0) hk)));(case aO=>exact(by(with_reducible repeat(first|apply Kd.Bj|apply Kd.Bh|apply Kd.Bx));exact Kd.Af a0.out (fun k_ hk=>⟨hk.1,fun e_=>hk.2 e_⟩)));(case aS=>exact(AA z0));(case aL=>have:=r8.out;omega);intro D8 F0 ho hb hg hat;rw[<-r9.out]at ho;have b0:=ak (hb);have b1:=ak (ho);clear HB a0 d9;have HB:=b0;have e0:=b1;clear b0 b1 ho hb hg hat;obtain⟨x1,x2,x3⟩:=Kd.Bo e0.out;subst x3)|(refine zl (some 88) Try.func60 #[.slice x1 h7.length x2] ?_;(with_reducible refine(BX.calls b5 (fun k_=>(w.heap.size<=k_)) w.heap.size _ _ h7 t314 t317 _ (AA z0) ?side1 y3.out).mono ?_);(case side1=>exact EH (e0.out));rintro e F1 ⟨D9,rfl,b8,hb⟩;refine⟨_,rfl,?_⟩;replace e0:=ak (Kd.DO (zs e0.out) hb);have t2:=ak (GI (Kd.Af (ok':=fun k_=>(w.heap.size<=k_)) b8 (fun k_ hk_=>Or.elim hk_ (fun hs_=>hs_) (fun hn_=>(Nat.le_trans (AA z0) hn_)))) (AA z0));replace HB:=ak (AG z0 hb)))
       go_ret2
       exact⟨_,ze,zs t2.out,z0⟩
end Go.Proofs.Ytlnddmkkgjlmbaa.QFnMoves
namespace Go.Proofs.Ytlnddmkkgjlmbaa.QFnMoves
open Go.Proofs.Ytlnddmkkgjlmbaa.Zip Go.RowKit Go.Proofs.YtlnddmkkgjlmbaaW.PrintWords Go.Proofs.YtlnddmkkgjlmbaaW.PrintLast Go.Proofs.YtlnddmkkgjlmbaaW.PrintMore
attribute [local go_sem] CD CF CW CV Bl Bk CE CG
set_option linter.unusedVariables false
set_option linter.unusedSimpArgs false
set_option maxHeartbeats 8000000
set_option maxRecDepth 100000
def Bs.f (l0:List Int) (a1:Int):Option (List Int):=if(l0.length:Int)=0 then(some (([]:List Int)))else(if(Int.tmod a1 (l0.length:Int))<0 then((some (([]:List Int):List Int)).bind fun a0=>(if 0<=(wrap64 ((Int.tmod a1 (l0.length:Int))+(l0.length:Int)))then(if(wrap64 ((Int.tmod a1 (l0.length:Int))+(l0.length:Int)))<=(l0.length:Int)then(if a0.length+(l0.drop ((wrap64 ((Int.tmod a1 (l0.length:Int))+(l0.length:Int))):Int).toNat).length<17592186044416 then((some (a0++(l0.drop ((wrap64 ((Int.tmod a1 (l0.length:Int))+(l0.length:Int))):Int).toNat):List Int)).bind fun a2=>(if a2.length+(l0.take ((wrap64 ((Int.tmod a1 (l0.length:Int))+(l0.length:Int))):Int).toNat).length<17592186044416 then(some (a2++(l0.take ((wrap64 ((Int.tmod a1 (l0.length:Int))+(l0.length:Int))):Int).toNat)))else(none)))else(none))else(none))else(none)))else((some (([]:List Int):List Int)).bind fun a3=>(if 0<=(Int.tmod a1 (l0.length:Int))then(if(Int.tmod a1 (l0.length:Int))<=(l0.length:Int)then(if a3.length+(l0.drop ((Int.tmod a1 (l0.length:Int)):Int).toNat).length<17592186044416 then((some (a3++(l0.drop ((Int.tmod a1 (l0.length:Int)):Int).toNat):List Int)).bind fun a4=>(if a4.length+(l0.take ((Int.tmod a1 (l0.length:Int)):Int).toNat).length<17592186044416 then(some (a4++(l0.take ((Int.tmod a1 (l0.length:Int)):Int).toNat)))else(none)))else(none))else(none))else(none))))
def Bs.T6:Bool×List (List Nat×List Nat):=(true,[([],[]),([],[]),([],[]),([1,2],[1,2]),([0,3],[0,3]),([],[]),([],[]),([5,6],[5,6]),([4,7,4],[4,7]),([8,8,0,1,2,3,4,5,6,7,8],[8])])
def Bs.B6:List Nat:=[0,0,0,6,15,0,0,96,255,511]
theorem Bs.Ub:En .any (opsOf Try.f69 6)=Bs.T6:=by kernel_rfl
theorem Bs.QQ:DZ Bs.T6.2 Bs.B6=true:=by kernel_rfl
theorem Bs.calls (A0:Option Addr) (c0:Nat) (l0:List Int) (a1:Int) (r:List Int) (w:World) (h6:Kd.C (Kd.int .i64) w A0 l0.length l0) (h7:l0.length<=c0) (h:Bs.f l0 a1=some r):
 Calls Try.prog 69 #[.slice A0 l0.length c0,.int .i64 a1] w fun e w'=> ∃h8:Value,e= .returned (h8)/\Kd.R (Kd.int .i64) 3 w' w.heap.size (fun _=>True) h8 r/\Below w.heap.size w w':=by
 have d4:=ak h6;have d5:=ak h7;clear h6 h7;have HB:=ak (Below.refl w.heap.size w);have H:=h;clear h;unfold Bs.f at H
 by_cases c3:(l0.length:Int)=0
 ·
  rw[if_pos c3]at H;have i2:((l0.length:Int)==0)=true:=beq_iff_eq.mpr c3;have i3:((l0.length:Int) != 0)=false:=bne_eq_false_iff_eq.mpr c3;clear c3;obtain⟨i4,b6⟩: ∃y_:List Int,y_=(([]:List Int)):=⟨_,rfl⟩;replace H:(some i4)=some r:=zy b6 H;have d6:=ak b6;clear b6;obtain rfl:=Option.some.inj H
  go_enter Try.func69,Try.ntmps69
  go_wp2_with (first|((with_reducible refine Ar (N:=8) rfl ?_);refine Kd.DS (Kd.int .i64) _ 3 ?hg (N:=8) ?hd (xs:=([]:List Int)) (inner:=[]) (ok:=fun _=>True) (okp:=fun _=>True) ?hr ?hp (fun _ hk=>hk) trivial (Below.refl _ _) (Nat.le_refl _) (by simp) ?_;(case hd=>rfl);(case hg=>rfl);(case hr=>first|(go_simp;done)|(go_simp;rfl));(case hp=>exact(Av.none _ _));intro l8 w4 d3 hb hg_ hnew_;clear hg_ hnew_;(first|rw[<-d6.out]at d3|(simp only[Int.reduceToNat]at d3;rw[<-d6.out]at d3));have g2:=ak (Kd.BA d3 (AA z0));replace HB:=ak (AG z0 hb);clear hb d3))
  go_ret
  exact⟨_,ze,zr g2.out,z0⟩
 ·
  rw[if_neg c3]at H;have i2:((l0.length:Int)==0)=false:=beq_eq_false_iff_ne.mpr c3;have i3:((l0.length:Int) != 0)=true:=bne_iff_ne.mpr c3
  have l9: ¬(l0=[]):=fun h_=>c3 (by rw[h_];rfl)
  by_cases c6:(Int.tmod a1 (l0.length:Int))<0
  ·
   rw[if_pos c6]at H;have f1:=decide_eq_true c6;clear c6;obtain⟨a7,b7⟩: ∃y_:List Int,y_=(([]:List Int)):=⟨_,rfl⟩;replace H:(if 0<=(wrap64 ((Int.tmod a1 (l0.length:Int))+(l0.length:Int)))then(if(wrap64 ((Int.tmod a1 (l0.length:Int))+(l0.length:Int)))<=(l0.length:Int)then(if a7.length+(l0.drop ((wrap64 ((Int.tmod a1 (l0.length:Int))+(l0.length:Int))):Int).toNat).length<17592186044416 then((some (a7++(l0.drop ((wrap64 ((Int.tmod a1 (l0.length:Int))+(l0.length:Int))):Int).toNat):List Int)).bind fun a5=>(if a5.length+(l0.take ((wrap64 ((Int.tmod a1 (l0.length:Int))+(l0.length:Int))):Int).toNat).length<17592186044416 then(some (a5++(l0.take ((wrap64 ((Int.tmod a1 (l0.length:Int))+(l0.length:Int))):Int).toNat)))else(none)))else(none))else(none))else(none))=some r:=zy b7 H;have d7:=ak b7;clear b7;obtain⟨a2,b8⟩: ∃j_:Int,(wrap64 ((Int.tmod a1 (l0.length:Int))+(l0.length:Int)))=j_:=⟨_,rfl⟩
   replace H:(if 0<=(a2)then(if(a2)<=(l0.length:Int)then(if a7.length+(l0.drop ((a2):Int).toNat).length<17592186044416 then((some (a7++(l0.drop ((a2):Int).toNat):List Int)).bind fun a5=>(if a5.length+(l0.take ((a2):Int).toNat).length<17592186044416 then(some (a5++(l0.take ((a2):Int).toNat)))else(none)))else(none))else(none))else(none))=some r:=by first|(rw[b8]at H;exact H)|(simp only[b8]at H⊢;exact H)
   have hji7w:(IntKind.i64.wrap ((Int.tmod a1 (l0.length:Int))+(l0.length:Int)))=a2:=(Dg _).trans b8;replace H:=gi H;obtain⟨c8,H⟩:=H;have m0:=eq_true c8;have m1:=decide_eq_true c8;clear c8;replace H:=gi H;obtain⟨c9,H⟩:=H;have m2:=eq_true c9;have m3:=decide_eq_true c9;clear c9;replace H:=gi H;obtain⟨Du,H⟩:=H;have g3:=ak Du;clear Du;obtain⟨a5,b9⟩: ∃y_:List Int,y_=(a7++(l0.drop ((a2):Int).toNat)):=⟨_,rfl⟩;replace H:(if a5.length+(l0.take ((a2):Int).toNat).length<17592186044416 then(some (a5++(l0.take ((a2):Int).toNat)))else(none))=some r:=zy b9 H;have g4:=ak b9;clear b9;have k1:=eq_true (za:0<=(a2));have k2:=eq_true (za:(a2)<=(l0.length:Int));replace H:=gi H;obtain⟨h9,H⟩:=H;have g5:=ak h9;clear h9;obtain⟨i5,c1⟩: ∃y_:List Int,y_=(a5++(l0.take ((a2):Int).toNat)):=⟨_,rfl⟩;replace H:(some i5)=some r:=zy c1 H;have g6:=ak c1;clear c1;obtain rfl:=Option.some.inj H
   go_enter Try.func69,Try.ntmps69
   try go_wp2
   have a3:=ak (Ab HB.out);clear HB;have HB:=a3;clear a3;obtain⟨i015,d8,_,d9,_⟩:=info_parts BT;obtain⟨m6,j7,f2,f3⟩:=EA (P:=Try.prog) (Value.int .i64) 0 47 3 .i64 Try.underlying47 d8 d9 A0 c0 l0 (a2) (za) (za) d5.out;have a9:=ak (Kd.Cf (h1:=fun _=>rfl) (f2 _ (Kd.Cg d4.out)));have k3:=ak f3;clear f2 f3 d8 d9;obtain⟨i016,e0,_,e1,_⟩:=info_parts BT;obtain⟨j8,f4,f5⟩:=ED (P:=Try.prog) (Value.int .i64) 0 47 3 .i64 Try.underlying47 e0 e1 A0 c0 l0 (a2) (za) (za) d5.out;have b0:=ak (Kd.Cf (h1:=fun _=>rfl) (f4 _ (Kd.Cg d4.out)));have k4:=ak f5;clear f4 f5 e0 e1;refine Dp (n:=10) (S:=fun w'=>True) (ds:=[]) #[false,false,false,false,false,false,false,false,false,false] (by kernel_rfl) rfl rfl trivial (fun hHeld=>?_);refine CY Bs.Ub Bs.QQ (fun HT_ HW_=>?_);generalize w.drew=m7 at HB a9 b0 hHeld⊢;refine pz 1 20 ?_;refine pz 2 21 ?_;refine pz 3 22 ?_;refine pz 5 24 ?_;refine pz 6 25 ?_;refine pz 7 26 ?_;refine oz 0 19 (fun K hK=>?_);refine Kd.FG (Kd.int .i64) _ 3 ?hg (N:=19) ?hd (xs:=([]:List Int)) (inner:=[]) (ok:=fun _=>True) (okp:=fun _=>True) ?hr ?hp (fun _ hk=>hk) trivial (Below.refl _ _) (Nat.le_refl _) (by simp) ?_;(case hd=>rfl);(case hg=>rfl);(case hr=>first|(go_simp;done)|(go_simp;rfl));(case hp=>exact(Av.none _ _));intro i6 m8 b4 hb hg_ hnew_;clear hg_ hnew_
   (first|rw[<-d7.out]at b4|(simp only[Int.reduceToNat]at b4;rw[<-d7.out]at b4))
   have a3:=ak (Kd.BA b4 (AA z0));have a4:=ak (AG z0 hb);clear HB;have e2:=a3;have HB:=a4;clear a3 a4 hb b4;refine hK.out _ _ trivial (fun hHeld=>?_);clear hK K;refine nz 19 ?_;refine oz 4 23 (fun K hK=>?_);refine Kd.BG (Kd.int .i64) (w0:=w) w.heap.size (by rfl) (.tmp 19) (.tmp 22) 47 3 (.int .i64 0) 8 rfl Try.underlying47 BT rfl (by decide) (by omega) i6 a7 (l0.drop ((a2):Int).toNat) _ _ _ (fun _=>True) (fun _=>False) rfl rfl ?aO ?aR (fun _ _ h=>h) (fun _ h=>h.elim) ?aF ?aB ?aS ?aL ?_
   (case aR=>first|(rw[<-show(l0.drop ((a2):Int).toNat).length=(l0.length-(a2).toNat)from List.length_drop];(repeat(first|exact(Kd.AM a9.out HB.out)|(with_reducible refine Kd.Az ?_ _)|(with_reducible refine Kd.Ao ?_ _)|(with_reducible refine Kd.BL ?_)));done)|(refine(congrArg (fun n_=>CS _ _ _ _ n_ _) (show(l0.drop ((a2):Int).toNat).length=(l0.length-(a2).toNat)from List.length_drop)).mp ?_;(repeat(first|exact(Kd.AM a9.out HB.out)|(with_reducible refine Kd.Az ?_ _)|(with_reducible refine Kd.Ao ?_ _)|(with_reducible refine Kd.BL ?_)));done)|(repeat(first|exact(Kd.AM a9.out HB.out)|(with_reducible refine Kd.Az ?_ _)|(with_reducible refine Kd.Ao ?_ _)|(with_reducible refine Kd.BL ?_))))
   (case aB=>exact z0)
   (case aF=>exact(fun _ _=>trivial))
   (case aO=>exact(zr e2.out))
   (case aS=>exact(AA z0))
   (case aL=>have:=g3.out;have hlx_:=(show(l0.drop ((a2):Int).toNat).length=(l0.length-(a2).toNat)from List.length_drop);omega)
   intro i7 m9 ho hb hg hat;rw[<-g4.out]at ho;have a3:=ak (hb);have a4:=ak (ho);clear HB e2;have HB:=a3;have e3:=a4;clear a3 a4 ho hb hg hat;refine hK.out _ _ trivial (fun hHeld=>?_);clear hK K;refine nz 23 ?_;refine oz 8 27 (fun K hK=>?_);refine Kd.BG (Kd.int .i64) (w0:=w) w.heap.size (by rfl) (.tmp 23) (.tmp 26) 47 3 (.int .i64 0) 8 rfl Try.underlying47 BT rfl (by decide) (by omega) i7 a5 (l0.take ((a2):Int).toNat) _ _ _ (fun _=>True) (fun _=>False) rfl rfl ?aO ?aR (fun _ _ h=>h) (fun _ h=>h.elim) ?aF ?aB ?aS ?aL ?_
   (case aR=>first|(rw[<-show(l0.take ((a2):Int).toNat).length=(a2).toNat from(by rw[List.length_take];have h_:((a2):Int)<=(l0.length:Int):=za;omega)];(repeat(first|exact(Kd.AM b0.out HB.out)|(with_reducible refine Kd.Az ?_ _)|(with_reducible refine Kd.Ao ?_ _)|(with_reducible refine Kd.BL ?_)));done)|(refine(congrArg (fun n_=>CS _ _ _ _ n_ _) (show(l0.take ((a2):Int).toNat).length=(a2).toNat from(by rw[List.length_take];have h_:((a2):Int)<=(l0.length:Int):=za;omega))).mp ?_;(repeat(first|exact(Kd.AM b0.out HB.out)|(with_reducible refine Kd.Az ?_ _)|(with_reducible refine Kd.Ao ?_ _)|(with_reducible refine Kd.BL ?_)));done)|(repeat(first|exact(Kd.AM b0.out HB.out)|(with_reducible refine Kd.Az ?_ _)|(with_reducible refine Kd.Ao ?_ _)|(with_reducible refine Kd.BL ?_))))
   (case aB=>exact z0)
   (case aF=>exact(fun _ _=>trivial))
   (case aO=>exact(zr e3.out))
   (case aS=>exact(AA z0))
   (case aL=>have:=g5.out;have hlx_:=(show(l0.take ((a2):Int).toNat).length=(a2).toNat from(by rw[List.length_take];have h_:((a2):Int)<=(l0.length:Int):=za;omega));omega)
   intro m4 n0 ho hb hg hat;rw[<-g6.out]at ho;have a3:=ak (hb);have a4:=ak (ho);clear HB e3;have HB:=a3;have g7:=a4;clear a3 a4 ho hb hg hat;refine hK.out _ _ trivial (fun hHeld=>?_);clear hK K;refine nz 27 ?_;refine pz 9 4 ?_;refine Ea (DI HT_.out (by kernel_rfl)) ?_
   try go_wp2
   go_ret
   exact⟨_,by first|rfl|(simp[Bq,Bt]<;>rfl)|(simp only[<-b8];first|rfl|(simp[Bq,Bt]<;>rfl))|(simp[*,Bq,Bt]<;>rfl),zr g7.out,z0⟩
  ·
   rw[if_neg c6]at H;have f1:=decide_eq_false c6;clear c6;obtain⟨a8,d0⟩: ∃y_:List Int,y_=(([]:List Int)):=⟨_,rfl⟩;replace H:(if 0<=(Int.tmod a1 (l0.length:Int))then(if(Int.tmod a1 (l0.length:Int))<=(l0.length:Int)then(if a8.length+(l0.drop ((Int.tmod a1 (l0.length:Int)):Int).toNat).length<17592186044416 then((some (a8++(l0.drop ((Int.tmod a1 (l0.length:Int)):Int).toNat):List Int)).bind fun a6=>(if a6.length+(l0.take ((Int.tmod a1 (l0.length:Int)):Int).toNat).length<17592186044416 then(some (a6++(l0.take ((Int.tmod a1 (l0.length:Int)):Int).toNat)))else(none)))else(none))else(none))else(none))=some r:=zy d0 H;have e4:=ak d0;clear d0;obtain⟨a0,b1⟩: ∃j_:Int,(Int.tmod a1 (l0.length:Int))=j_:=⟨_,rfl⟩
   replace H:(if 0<=(a0)then(if(a0)<=(l0.length:Int)then(if a8.length+(l0.drop ((a0):Int).toNat).length<17592186044416 then((some (a8++(l0.drop ((a0):Int).toNat):List Int)).bind fun a6=>(if a6.length+(l0.take ((a0):Int).toNat).length<17592186044416 then(some (a6++(l0.take ((a0):Int).toNat)))else(none)))else(none))else(none))else(none))=some r:=by first|(rw[b1]at H;exact H)|(simp only[b1]at H⊢;exact H)
   (try rw[b1]at f1)
   replace H:=gi H;obtain⟨f6,H⟩:=H;have k5:=eq_true f6;have k6:=decide_eq_true f6;clear f6;replace H:=gi H;obtain⟨f7,H⟩:=H;have k7:=eq_true f7;have k8:=decide_eq_true f7;clear f7;replace H:=gi H;obtain⟨i0,H⟩:=H;have g8:=ak i0;clear i0;obtain⟨a6,d1⟩: ∃y_:List Int,y_=(a8++(l0.drop ((a0):Int).toNat)):=⟨_,rfl⟩;replace H:(if a6.length+(l0.take ((a0):Int).toNat).length<17592186044416 then(some (a6++(l0.take ((a0):Int).toNat)))else(none))=some r:=zy d1 H;have g9:=ak d1;clear d1;have k9:=eq_true (za:0<=(a0));have l5:=eq_true (za:(a0)<=(l0.length:Int));replace H:=gi H;obtain⟨i1,H⟩:=H;have h3:=ak i1;clear i1;obtain⟨i9,d2⟩: ∃y_:List Int,y_=(a6++(l0.take ((a0):Int).toNat)):=⟨_,rfl⟩;replace H:(some i9)=some r:=zy d2 H;have h4:=ak d2;clear d2;obtain rfl:=Option.some.inj H
   go_enter Try.func69,Try.ntmps69
   try go_wp2
   have a3:=ak (Ab HB.out);clear HB;have HB:=a3;clear a3;obtain⟨i029,e5,_,e6,_⟩:=info_parts BT;obtain⟨n1,j9,f8,f9⟩:=EA (P:=Try.prog) (Value.int .i64) 0 47 3 .i64 Try.underlying47 e5 e6 A0 c0 l0 (a0) (za) (za) d5.out;have b2:=ak (Kd.Cf (h1:=fun _=>rfl) (f8 _ (Kd.Cg d4.out)));have l6:=ak f9;clear f8 f9 e5 e6;obtain⟨i030,e7,_,e8,_⟩:=info_parts BT;obtain⟨k0,g0,g1⟩:=ED (P:=Try.prog) (Value.int .i64) 0 47 3 .i64 Try.underlying47 e7 e8 A0 c0 l0 (a0) (za) (za) d5.out;have b3:=ak (Kd.Cf (h1:=fun _=>rfl) (g0 _ (Kd.Cg d4.out)));have l7:=ak g1;clear g0 g1 e7 e8;refine Dp (n:=10) (S:=fun w'=>True) (ds:=[]) #[false,false,false,false,false,false,false,false,false,false] (by kernel_rfl) rfl rfl trivial (fun hHeld=>?_);refine CY Bs.Ub Bs.QQ (fun HT_ HW_=>?_);generalize w.drew=n2 at HB b2 b3 hHeld⊢;refine pz 1 20 ?_;refine pz 2 21 ?_;refine pz 3 22 ?_;refine pz 5 24 ?_;refine pz 6 25 ?_;refine pz 7 26 ?_;refine oz 0 19 (fun K hK=>?_);refine Kd.FG (Kd.int .i64) _ 3 ?hg (N:=19) ?hd (xs:=([]:List Int)) (inner:=[]) (ok:=fun _=>True) (okp:=fun _=>True) ?hr ?hp (fun _ hk=>hk) trivial (Below.refl _ _) (Nat.le_refl _) (by simp) ?_;(case hd=>rfl);(case hg=>rfl);(case hr=>first|(go_simp;done)|(go_simp;rfl));(case hp=>exact(Av.none _ _));intro j5 n3 b5 hb hg_ hnew_;clear hg_ hnew_
   (first|rw[<-e4.out]at b5|(simp only[Int.reduceToNat]at b5;rw[<-e4.out]at b5))
   have a3:=ak (Kd.BA b5 (AA z0));have a4:=ak (AG z0 hb);clear HB;have e9:=a3;have HB:=a4;clear a3 a4 hb b5;refine hK.out _ _ trivial (fun hHeld=>?_);clear hK K;refine nz 19 ?_;refine oz 4 23 (fun K hK=>?_);refine Kd.BG (Kd.int .i64) (w0:=w) w.heap.size (by rfl) (.tmp 19) (.tmp 22) 47 3 (.int .i64 0) 8 rfl Try.underlying47 BT rfl (by decide) (by omega) j5 a8 (l0.drop ((a0):Int).toNat) _ _ _ (fun _=>True) (fun _=>False) rfl rfl ?aO ?aR (fun _ _ h=>h) (fun _ h=>h.elim) ?aF ?aB ?aS ?aL ?_
   (case aR=>first|(rw[<-show(l0.drop ((a0):Int).toNat).length=(l0.length-(a0).toNat)from List.length_drop];(repeat(first|exact(Kd.AM b2.out HB.out)|(with_reducible refine Kd.Az ?_ _)|(with_reducible refine Kd.Ao ?_ _)|(with_reducible refine Kd.BL ?_)));done)|(refine(congrArg (fun n_=>CS _ _ _ _ n_ _) (show(l0.drop ((a0):Int).toNat).length=(l0.length-(a0).toNat)from List.length_drop)).mp ?_;(repeat(first|exact(Kd.AM b2.out HB.out)|(with_reducible refine Kd.Az ?_ _)|(with_reducible refine Kd.Ao ?_ _)|(with_reducible refine Kd.BL ?_)));done)|(repeat(first|exact(Kd.AM b2.out HB.out)|(with_reducible refine Kd.Az ?_ _)|(with_reducible refine Kd.Ao ?_ _)|(with_reducible refine Kd.BL ?_))))
   (case aB=>exact z0)
   (case aF=>exact(fun _ _=>trivial))
   (case aO=>exact(zr e9.out))
   (case aS=>exact(AA z0))
   (case aL=>have:=g8.out;have hlx_:=(show(l0.drop ((a0):Int).toNat).length=(l0.length-(a0).toNat)from List.length_drop);omega)
   intro j6 n4 ho hb hg hat;rw[<-g9.out]at ho;have a3:=ak (hb);have a4:=ak (ho);clear HB e9;have HB:=a3;have f0:=a4;clear a3 a4 ho hb hg hat;refine hK.out _ _ trivial (fun hHeld=>?_);clear hK K;refine nz 23 ?_;refine oz 8 27 (fun K hK=>?_);refine Kd.BG (Kd.int .i64) (w0:=w) w.heap.size (by rfl) (.tmp 23) (.tmp 26) 47 3 (.int .i64 0) 8 rfl Try.underlying47 BT rfl (by decide) (by omega) j6 a6 (l0.take ((a0):Int).toNat) _ _ _ (fun _=>True) (fun _=>False) rfl rfl ?aO ?aR (fun _ _ h=>h) (fun _ h=>h.elim) ?aF ?aB ?aS ?aL ?_
   (case aR=>first|(rw[<-show(l0.take ((a0):Int).toNat).length=(a0).toNat from(by rw[List.length_take];have h_:((a0):Int)<=(l0.length:Int):=za;omega)];(repeat(first|exact(Kd.AM b3.out HB.out)|(with_reducible refine Kd.Az ?_ _)|(with_reducible refine Kd.Ao ?_ _)|(with_reducible refine Kd.BL ?_)));done)|(refine(congrArg (fun n_=>CS _ _ _ _ n_ _) (show(l0.take ((a0):Int).toNat).length=(a0).toNat from(by rw[List.length_take];have h_:((a0):Int)<=(l0.length:Int):=za;omega))).mp ?_;(repeat(first|exact(Kd.AM b3.out HB.out)|(with_reducible refine Kd.Az ?_ _)|(with_reducible refine Kd.Ao ?_ _)|(with_reducible refine Kd.BL ?_)));done)|(repeat(first|exact(Kd.AM b3.out HB.out)|(with_reducible refine Kd.Az ?_ _)|(with_reducible refine Kd.Ao ?_ _)|(with_reducible refine Kd.BL ?_))))
   (case aB=>exact z0)
   (case aF=>exact(fun _ _=>trivial))
   (case aO=>exact(zr f0.out))
   (case aS=>exact(AA z0))
   (case aL=>have:=h3.out;have hlx_:=(show(l0.take ((a0):Int).toNat).length=(a0).toNat from(by rw[List.length_take];have h_:((a0):Int)<=(l0.length:Int):=za;omega));omega)
   intro m5 n5 ho hb hg hat;rw[<-h4.out]at ho;have a3:=ak (hb);have a4:=ak (ho);clear HB f0;have HB:=a3;have h5:=a4;clear a3 a4 ho hb hg hat;refine hK.out _ _ trivial (fun hHeld=>?_);clear hK K;refine nz 27 ?_;refine pz 9 4 ?_;refine Ea (DI HT_.out (by kernel_rfl)) ?_
   try go_wp2
   go_ret
   exact⟨_,by first|rfl|(simp[Bq,Bt]<;>rfl)|(simp only[<-b1];first|rfl|(simp[Bq,Bt]<;>rfl))|(simp[*,Bq,Bt]<;>rfl),zr h5.out,z0⟩
def Bw.j0:Nat->List (List Int)->Int->Int->Bool->Option ((List (List Int))×Bool)
 |0,_,_,_,_=>none
 |k+1,x0,x1,x2,a1=>if a1=true then(some ((([]:List (List Int))),false))else(if 0<=x1 then(if x1<(x0.length:Int)then((Bs.f (AD x0 x1) x2).bind fun t349=>((Bp.f k x0 x1 t349).bind fun a0=>(some (a0.1,a0.2))))else(none))else(none))
def Bw.f (k:Nat) (l0:List (List Int)) (a1 a2:Int):Option ((List (List Int))×Bool):=(AL.f k l0).bind fun t343=>(if t343=true then((BM.f a1 0 (wrap64 ((l0.length:Int)-1))).bind fun t344=>(Bw.j0 k l0 a1 a2 (!t344)))else(Bw.j0 k l0 a1 a2 true))
theorem Bw.calls (k:Nat) (A0:Option Addr) (c0:Nat) (l0:List (List Int)) (a1 a2:Int) (r1:List (List Int)) (r2:Bool) (w:World) (d0:Kd.C (Kd.slice 3 (Kd.int .i64)) w A0 l0.length l0) (d1:l0.length<=c0) (h:Bw.f k l0 a1 a2=some (r1,r2)):
 Calls Try.prog 21 #[.slice A0 l0.length c0,.int .i64 a1,.int .i64 a2] w fun e w'=> ∃d2:Value,e= .returned (.tuple #[d2,.bool r2])/\Kd.S (Kd.slice 3 (Kd.int .i64)) 47 w' w.heap.size (fun k_=>(w.heap.size<=k_)) d2 r1/\Below w.heap.size w w':=by
 have a7:=ak d0;have b2:=ak d1;clear d0 d1;have HB:=ak (Below.refl w.heap.size w);have H:=h;clear h;unfold Bw.f at H;have b3:=ak H;clear H
 go_enter Try.func21,Try.ntmps21
 go_upto_region 1 with(fail)
 go_cut [20] (fun d8 wc=> ∃(kq:Nat) (a3:Bool),d8= .bool a3/\AJ (Bw.j0 kq l0 a1 a2 a3=some (r1,r2))/\AJ (kq<=k)/\AJ (Below w.heap.size w wc))
 case first=>
  have H:=b3.out;clear b3;replace H:=gb H;obtain⟨t343,A5,H⟩:=H
  by_cases c6:t343=true
  ·
   subst c6;rw[if_pos rfl]at H;replace H:=gb H;obtain⟨t344,A7,H⟩:=H;have H':=ak H;clear H
   go_wp2_with (first|(refine zl (some 11) Try.func52 #[.slice A0 l0.length c0] ?_;(with_reducible refine(AL.calls k _ _ l0 true _ ?side1 ?side2 A5.out).mono ?_);(case side1=>exact zc (Kd.AM a7.out HB.out));(case side2=>exact b2.out);rintro e w8 ⟨rfl,hb⟩;refine⟨_,rfl,?_⟩;replace HB:=ak (AG z0 hb))|(go_at_call 53;(with_reducible refine(BM.calls a1 0 (wrap64 ((l0.length:Int)-1)) t344 _ A7.out).mono ?_);rintro e w' ⟨rfl,⟨nd,rfl⟩⟩))
   go_meet
   case rel=>exact⟨_,(!t344),zd,H',⟨by first|omega|exact Nat.le_refl _⟩,⟨z0⟩⟩
  ·
   replace c6:=Bool.eq_false_iff.mpr c6;subst c6;rw[if_neg (show¬(false=true) by decide)]at H;have H':=ak H;clear H
   go_wp2_with (first|(refine zl (some 11) Try.func52 #[.slice A0 l0.length c0] ?_;(with_reducible refine(AL.calls k _ _ l0 false _ ?side1 ?side2 A5.out).mono ?_);(case side1=>exact zc (Kd.AM a7.out HB.out));(case side2=>exact b2.out);rintro e w9 ⟨rfl,hb⟩;refine⟨_,rfl,?_⟩;replace HB:=ak (AG z0 hb)))
   go_meet
   case rel=>exact⟨_,(true),zd,H',⟨by first|omega|exact Nat.le_refl _⟩,⟨z0⟩⟩
 case rest=>
  clear b3;obtain⟨kq,a3,rfl,HA,e9,HB⟩:=hcut
  cases kq with
  |zero=>exact absurd HA.out (by simp[Bw.j0])
  |succ d9=>
   have H:=HA.out;clear HA;simp only[Bw.j0]at H
   by_cases Du:a3=true
   ·
    subst Du;rw[if_pos rfl]at H;obtain⟨d5,a6⟩: ∃y_:List (List Int),y_=(([]:List (List Int))):=⟨_,rfl⟩;replace H:(some (d5,false))=some (r1,r2):=zy a6 H;have a8:=ak a6;clear a6;simp only[Option.some.injEq,Prod.mk.injEq]at H;obtain⟨rfl,rfl⟩:=H
    go_wp2_with (first|((with_reducible refine Ar (N:=21) rfl ?_);(try(refine BR (by rfl) ?_;dsimp only));refine Kd.FO (Kd.slice 3 (Kd.int .i64)) _ 47 ?hg (N:=21) ?hd (xs:=([]:List (List Int))) (inner:=[]) (ok:=fun _=>True) (okp:=fun _=>True) ?hr ?hp (fun _ hk=>hk) trivial (Below.refl _ _) (Nat.le_refl _) (by simp) ?_;(case hd=>rfl);(case hg=>rfl);(case hr=>first|(go_simp;done)|(go_simp;rfl));(case hp=>exact(Av.none _ _));intro e4 f0 a4 hb hg_ hnew_;clear hg_ hnew_;(first|rw[<-a8.out]at a4|(simp only[Int.reduceToNat]at a4;rw[<-a8.out]at a4));have b8:=ak (Kd.BS (Kd.EM (M:=fun k_=>(w.heap.size<=k_)) a4 (AA z0) (fun k_ h_=>h_)) (AA z0));replace HB:=ak (AG z0 hb);clear hb a4))
    go_ret2
    exact⟨_,ze,EH (by(with_reducible repeat(first|apply Kd.Bj|apply Kd.Bh|apply Kd.Bx));exact Kd.Af b8.out (fun _ hk=>hk.1)),z0⟩
   ·
    replace Du:=Bool.eq_false_iff.mpr Du;subst Du;rw[if_neg (show¬(false=true) by decide)]at H;replace H:=gi H;obtain⟨d3,H⟩:=H;have e2:=decide_eq_true d3;clear d3;replace H:=gi H;obtain⟨d4,H⟩:=H;have e3:=decide_eq_true d4;clear d4;replace H:=gb H;obtain⟨t349,e0,H⟩:=H;replace H:=gb H;obtain⟨⟨t352,t355⟩,e1,H⟩:=H;dsimp only at H;simp only[Option.some.injEq,Prod.mk.injEq]at H;obtain⟨rfl,rfl⟩:=H;obtain⟨b9,b4,b5,d6,a5,b0,b1,e5,e6⟩:=al a7.out a1;cases d6;replace a5:=zx HB a5
    go_wp2_with (first|(refine zl (some 30) Try.func69 #[.slice b4 (AD l0 a1).length b5,.int .i64 a2] ?_;(with_reducible refine(Bs.calls _ _ (AD l0 a1) a2 t349 _ ?side1 ?side2 e0.out).mono ?_);(case side1=>exact zc (Kd.AM b1.out HB.out));(case side2=>exact b0.out);rintro e f1 ⟨e7,rfl,a9,hb⟩;refine⟨_,rfl,?_⟩;have a0:=ak (Kd.BA (Kd.DX (M:=fun k_=>(w.heap.size<=k_)) a9 (AA z0) (fun k_ h_=>h_)) (AA z0));replace HB:=ak (AG z0 hb);obtain⟨b6,b7,d7⟩:=Kd.Al a0.out;subst d7)|(refine zl (some 31) Try.func54 #[.slice (some b9) l0.length c0,.int .i64 a1,.slice b6 t349.length b7] ?_;(with_reducible refine(Bp.calls d9 _ _ l0 a1 (fun k_=>some k_=(.slice b6 t349.length b7:Value).ownBlock) w.heap.size _ _ t349 t352 t355 _ ?side1 ?side2 (AA z0) ?side3 e1.out).mono ?_);(case side1=>exact zc (Kd.AM a7.out HB.out));(case side2=>exact b2.out);(case side3=>(with_reducible repeat(first|apply Kd.BV|apply Kd.BN|apply Kd.BI));exact Kd.DV rfl (a0.out));rintro e f3 ⟨e8,rfl,a9,hb⟩;refine⟨_,rfl,?_⟩;have c1:=ak (GI (Kd.Af (ok':=fun k_=>(w.heap.size<=k_)) a9 (fun k_ hk_=>Or.elim hk_ (fun hs_=>((a0.out).1 k_ hs_.symm).1) (fun hn_=>(Nat.le_trans (AA z0) hn_)))) (AA z0));replace a0:=ak (Kd.Co (zr a0.out) hb);replace HB:=ak (AG z0 hb)))
    go_ret2
    exact⟨_,ze,zs c1.out,z0⟩
def Fp.f (a0 a1:Int):Option (Int):=if a1=0 then(none)else(if(Int.tmod a0 a1)<0 then(some (wrap64 ((Int.tmod a0 a1)+a1)))else(some (Int.tmod a0 a1)))
theorem Fp.calls (a0 a1 r:Int) (w:World) (h:Fp.f a0 a1=some r):
 Calls Try.prog 98 #[.int .i64 a0,.int .i64 a1] w fun e w'=>e= .returned (.int .i64 r)/\Below w.heap.size w w':=by
 have HB:=ak (Below.refl w.heap.size w);have H:=h;clear h;unfold Fp.f at H;replace H:=gn H;obtain⟨c3,H⟩:=H;have a3:(a1==0)=false:=beq_eq_false_iff_ne.mpr c3;have a4:(a1 != 0)=true:=bne_iff_ne.mpr c3
 by_cases c4:(Int.tmod a0 a1)<0
 ·
  rw[if_pos c4]at H;have a2:=decide_eq_true c4;clear c4;obtain rfl:=Option.some.inj H
  go_enter Try.func98,Try.ntmps98
  go_wp2
  go_ret
  exact⟨ze,z0⟩
 ·
  rw[if_neg c4]at H;have a2:=decide_eq_false c4;clear c4;obtain rfl:=Option.some.inj H
  go_enter Try.func98,Try.ntmps98
  go_wp2
  go_ret
  exact⟨ze,z0⟩
def DA.f (l0:List Int) (a1:Int):Option (List Int):=if(l0.length:Int)=0 then(some (([]:List Int)))else((Fp.f a1 (l0.length:Int)).bind fun t359=>(if 0<=t359 then(if t359<=(l0.length:Int)then((CO.f (l0.drop (t359:Int).toNat)).bind fun t361=>(if t361.length+(l0.take (t359:Int).toNat).length<17592186044416 then(some (t361++(l0.take (t359:Int).toNat)))else(none)))else(none))else(none)))
def DA.T4:Bool×List (List Nat×List Nat):=(true,[([],[]),([],[]),([0,1],[0,1]),([2],[2]),([],[]),([],[]),([4,5],[4,5]),([3,6,3],[3,6]),([7,7,0,1,2,3,4,5,6,7],[7])])
def DA.B4:List Nat:=[0,0,3,7,0,0,48,127,255]
theorem DA.Tp:En .any (opsOf Try.f70 4)=DA.T4:=by kernel_rfl
theorem DA.OV:DZ DA.T4.2 DA.B4=true:=by kernel_rfl
theorem DA.calls (A0:Option Addr) (c0:Nat) (l0:List Int) (a1:Int) (r:List Int) (w:World) (d2:Kd.C (Kd.int .i64) w A0 l0.length l0) (d3:l0.length<=c0) (h:DA.f l0 a1=some r):
 Calls Try.prog 70 #[.slice A0 l0.length c0,.int .i64 a1] w fun e w'=> ∃d4:Value,e= .returned (d4)/\Kd.R (Kd.int .i64) 3 w' w.heap.size (fun _=>True) d4 r/\Below w.heap.size w w':=by
 have d5:=ak d2;have d6:=ak d3;clear d2 d3;have HB:=ak (Below.refl w.heap.size w);have H:=h;clear h;unfold DA.f at H
 by_cases c3:(l0.length:Int)=0
 ·
  rw[if_pos c3]at H;have d9:((l0.length:Int)==0)=true:=beq_iff_eq.mpr c3;have e0:((l0.length:Int) != 0)=false:=bne_eq_false_iff_eq.mpr c3;clear c3;obtain⟨e1,a3⟩: ∃y_:List Int,y_=(([]:List Int)):=⟨_,rfl⟩;replace H:(some e1)=some r:=zy a3 H;have a7:=ak a3;clear a3;obtain rfl:=Option.some.inj H
  go_enter Try.func70,Try.ntmps70
  go_wp2_with (first|((with_reducible refine Ar (N:=8) rfl ?_);refine Kd.DS (Kd.int .i64) _ 3 ?hg (N:=8) ?hd (xs:=([]:List Int)) (inner:=[]) (ok:=fun _=>True) (okp:=fun _=>True) ?hr ?hp (fun _ hk=>hk) trivial (Below.refl _ _) (Nat.le_refl _) (by simp) ?_;(case hd=>rfl);(case hg=>rfl);(case hr=>first|(go_simp;done)|(go_simp;rfl));(case hp=>exact(Av.none _ _));intro f1 w4 a5 hb hg_ hnew_;clear hg_ hnew_;(first|rw[<-a7.out]at a5|(simp only[Int.reduceToNat]at a5;rw[<-a7.out]at a5));have b8:=ak (Kd.BA a5 (AA z0));replace HB:=ak (AG z0 hb);clear hb a5))
  go_ret
  exact⟨_,ze,zr b8.out,z0⟩
 ·
  rw[if_neg c3]at H;have d9:((l0.length:Int)==0)=false:=beq_eq_false_iff_ne.mpr c3;have e0:((l0.length:Int) != 0)=true:=bne_iff_ne.mpr c3
  have f2: ¬(l0=[]):=fun h_=>c3 (by rw[h_];rfl)
  replace H:=gb H;obtain⟨t359,A6,H⟩:=H;replace H:=gi H;obtain⟨c7,H⟩:=H;have f3:=eq_true c7;have f4:=decide_eq_true c7;clear c7;replace H:=gi H;obtain⟨c8,H⟩:=H;have f5:=eq_true c8;have f6:=decide_eq_true c8;clear c8;replace H:=gb H;obtain⟨t361,A9,H⟩:=H;have e8:=eq_true (za:0<=t359);have e9:=eq_true (za:t359<=(l0.length:Int));replace H:=gi H;obtain⟨d7,H⟩:=H;have b9:=ak d7;clear d7;obtain⟨e2,a4⟩: ∃y_:List Int,y_=(t361++(l0.take (t359:Int).toNat)):=⟨_,rfl⟩;replace H:(some e2)=some r:=zy a4 H;have c1:=ak a4;clear a4;obtain rfl:=Option.some.inj H
  go_enter Try.func70,Try.ntmps70
  try go_wp2_with (first|(refine zl (some 12) Try.func98 #[.int .i64 a1,.int .i64 (l0.length:Int)] ?_;(with_reducible refine(Fp.calls a1 (l0.length:Int) t359 _ A6.out).mono ?_);rintro e e4 ⟨rfl,hb⟩;refine⟨_,rfl,?_⟩;replace HB:=ak (AG z0 hb)))
  have a0:=ak (Ab HB.out);clear HB;have HB:=a0;clear a0;obtain⟨i015,a8,_,a9,_⟩:=info_parts BT;obtain⟨e5,e6,b4,b5⟩:=EA (P:=Try.prog) (Value.int .i64) 0 47 3 .i64 Try.underlying47 a8 a9 A0 c0 l0 t359 (za) (za) d6.out;have b0:=ak (Kd.Cf (h1:=fun _=>rfl) (b4 _ (Kd.Cg d5.out)));have d0:=ak b5;clear b4 b5 a8 a9;obtain⟨i016,b1,_,b2,_⟩:=info_parts BT;obtain⟨e7,b6,b7⟩:=ED (P:=Try.prog) (Value.int .i64) 0 47 3 .i64 Try.underlying47 b1 b2 A0 c0 l0 t359 (za) (za) d6.out;have a2:=ak (Kd.Cf (h1:=fun _=>rfl) (b6 _ (Kd.Cg d5.out)));have f0:=ak b7;clear b6 b7 b1 b2;refine Dp (n:=9) (S:=fun w'=>True) (ds:=[]) #[false,false,false,false,false,false,false,false,false] (by kernel_rfl) rfl rfl trivial (fun hHeld=>?_);refine CY DA.Tp DA.OV (fun HT_ HW_=>?_);generalize e4.drew=f8 at HB b0 a2 hHeld⊢;refine pz 0 13 ?_;refine pz 1 14 ?_;refine pz 2 15 ?_;refine pz 4 17 ?_;refine pz 5 18 ?_;refine pz 6 19 ?_;refine oz 3 16 (fun K hK=>?_);refine Qn Try.func68 (by kernel_rfl) rfl #[.slice e5 (l0.drop (t359:Int).toNat).length (c0-t359.toNat)] (by rfl) rfl rfl (by(try simp only[List.map_toArray,List.map_cons,List.map_nil]);first|done|(rw[show(l0.drop (t359:Int).toNat).length=(l0.length-t359.toNat)from List.length_drop]<;>rfl)|rfl|(simp only[List.length_drop,List.length_take];rfl)) ?_
  with_reducible refine(CO.calls _ _ (l0.drop (t359:Int).toNat) t361 _ ?side1 ?side2 A9.out).mono ?_
  (case side1=>exact zc (Kd.AM b0.out HB.out))
  (case side2=>exact d0.out)
  rintro e f9 ⟨e3,rfl,d8,hb⟩;refine⟨_,rfl,?_⟩;have a0:=ak (Kd.BA d8 (AA z0));have a6:=ak (AG z0 hb);clear HB;have b3:=a0;have HB:=a6;clear a0 a6
  (try clear hb)
  (try clear g0)
  (try clear hk)
  (try clear hi)
  (try clear d8)
  refine hK.out _ _ trivial (fun hHeld=>?_);clear hK K;refine nz 16 ?_;refine oz 7 20 (fun K hK=>?_);refine Kd.BG (Kd.int .i64) (w0:=w) w.heap.size (by rfl) (.tmp 16) (.tmp 19) 47 3 (.int .i64 0) 8 rfl Try.underlying47 BT rfl (by decide) (by omega) e3 t361 (l0.take (t359:Int).toNat) _ _ _ (fun _=>True) (fun _=>False) rfl rfl ?aO ?aR (fun _ _ h=>h) (fun _ h=>h.elim) ?aF ?aB ?aS ?aL ?_
  (case aR=>first|(rw[<-show(l0.take (t359:Int).toNat).length=t359.toNat from(by rw[List.length_take];have h_:(t359:Int)<=(l0.length:Int):=za;omega)];(repeat(first|exact(Kd.AM a2.out HB.out)|(with_reducible refine Kd.Az ?_ _)|(with_reducible refine Kd.Ao ?_ _)|(with_reducible refine Kd.BL ?_)));done)|(refine(congrArg (fun n_=>CS _ _ _ _ n_ _) (show(l0.take (t359:Int).toNat).length=t359.toNat from(by rw[List.length_take];have h_:(t359:Int)<=(l0.length:Int):=za;omega))).mp ?_;(repeat(first|exact(Kd.AM a2.out HB.out)|(with_reducible refine Kd.Az ?_ _)|(with_reducible refine Kd.Ao ?_ _)|(with_reducible refine Kd.BL ?_)));done)|(repeat(first|exact(Kd.AM a2.out HB.out)|(with_reducible refine Kd.Az ?_ _)|(with_reducible refine Kd.Ao ?_ _)|(with_reducible refine Kd.BL ?_))))
  (case aB=>exact z0)
  (case aF=>exact(fun _ _=>trivial))
  (case aO=>exact(zr b3.out))
  (case aS=>exact(AA z0))
  (case aL=>have:=b9.out;have hlx_:=(show(l0.take (t359:Int).toNat).length=t359.toNat from(by rw[List.length_take];have h_:(t359:Int)<=(l0.length:Int):=za;omega));omega)
  intro f7 g1 ho hb hg hat;rw[<-c1.out]at ho;have a0:=ak (hb);have a6:=ak (ho);clear HB b3;have HB:=a0;have d1:=a6;clear a0 a6 ho hb hg hat;refine hK.out _ _ trivial (fun hHeld=>?_);clear hK K;refine nz 20 ?_;refine pz 8 4 ?_;refine Ea (DI HT_.out (by kernel_rfl)) ?_
  try go_wp2
  go_ret
  exact⟨_,ze,zr d1.out,z0⟩
def Dl.f (k:Nat) (l0:List (List Int)) (a1 a2:Int):Option ((List (List Int))×Bool):=(Ap.f k l0 a1).bind fun t368=>(if t368=true then((Aw.f k l0).bind fun t369=>(if 0<=a1 then(if a1<(l0.length:Int)then((DA.f (AD l0 a1) a2).bind fun t373=>(if a1<(t369.length:Int)then((BX.f k (t369.set (a1:Int).toNat t373)).bind fun a0=>(some (a0.1,a0.2)))else(none)))else(none))else(none)))else(some (([]:List (List Int)),false)))
theorem Dl.calls (k:Nat) (A0:Option Addr) (c0:Nat) (l0:List (List Int)) (a1 a2:Int) (r1:List (List Int)) (r2:Bool) (w:World) (f5:Kd.C (Kd.slice 3 (Kd.int .i64)) w A0 l0.length l0) (f6:l0.length<=c0) (h:Dl.f k l0 a1 a2=some (r1,r2)):
 Calls Try.prog 22 #[.slice A0 l0.length c0,.int .i64 a1,.int .i64 a2] w fun e w'=> ∃f7:Value,e= .returned (.tuple #[f7,.bool r2])/\Kd.S (Kd.slice 3 (Kd.int .i64)) 47 w' w.heap.size (fun k_=>(w.heap.size<=k_)) f7 r1/\Below w.heap.size w w':=by
 have b6:=ak f5;have d3:=ak f6;clear f5 f6;have HB:=ak (Below.refl w.heap.size w);have H:=h;clear h;unfold Dl.f at H;replace H:=gb H;obtain⟨t368,A4,H⟩:=H
 by_cases c5:t368=true
 ·
  subst c5;rw[if_pos rfl]at H;replace H:=gb H;obtain⟨t369,A6,H⟩:=H;replace H:=gi H;obtain⟨c7,H⟩:=H;have h6:=decide_eq_true c7;clear c7;replace H:=gi H;obtain⟨c8,H⟩:=H;have h7:=decide_eq_true c8;clear c8;replace H:=gb H;obtain⟨t373,A9,H⟩:=H;replace H:=gi H;obtain⟨Du,H⟩:=H;have h3:=decide_eq_true Du;clear Du;obtain⟨a4,b0⟩: ∃y_:List (List Int),y_=(t369.set (a1:Int).toNat t373):=⟨_,rfl⟩;replace H:((BX.f k a4).bind fun b7=>(some (b7.1,b7.2)))=some (r1,r2):=zy b0 H;have f1:=ak b0;clear b0;replace H:=gb H;obtain⟨⟨t377,t380⟩,g4,H⟩:=H;dsimp only at H;simp only[Option.some.injEq,Prod.mk.injEq]at H;obtain⟨rfl,rfl⟩:=H
  go_enter Try.func22,Try.ntmps22
  go_wp2_with (first|(refine zl (some 11) Try.func57 #[.slice A0 l0.length c0,.int .i64 a1] ?_;(with_reducible refine(Ap.calls k _ _ l0 a1 true _ ?side1 ?side2 A4.out).mono ?_);(case side1=>exact zc b6.out);(case side2=>exact d3.out);rintro e i4 ⟨rfl,hb⟩;refine⟨_,rfl,?_⟩;replace HB:=ak (AG z0 hb))|(refine zl (some 14) Try.func58 #[.slice A0 l0.length c0] ?_;(with_reducible refine(Aw.calls k _ _ l0 t369 _ ?side1 ?side2 A6.out).mono ?_);(case side1=>exact zc (Kd.AM b6.out HB.out));(case side2=>exact d3.out);rintro e i5 ⟨h8,rfl,a6,hb⟩;refine⟨_,rfl,?_⟩;have a0:=ak (Kd.BS (Kd.EM (M:=fun k_=>(w.heap.size<=k_)) a6 (AA z0) (fun k_ h_=>h_)) (AA z0));replace HB:=ak (AG z0 hb);have b3:0<=(a1:Int):=za;have b4:a1<(l0.length:Int):=za;obtain⟨h4,d4,d5,g0,a5,a8,a9⟩:=Cl b6.out a1 b3 b4;cases g0;replace a5:=(HB.out.cell (World.block_lt_of_cell? w _ a5)).trans a5;have d1:=ak a9;have d2:=ak a8;clear a9 a8;replace b3:=eq_true b3;replace b4:=eq_true b4)|(refine zl (some 22) Try.func70 #[.slice d4 (AD l0 a1).length d5,.int .i64 a2] ?_;(with_reducible refine(DA.calls _ _ (AD l0 a1) a2 t373 _ ?side1 ?side2 A9.out).mono ?_);(case side1=>exact zc (Kd.AM d1.out HB.out));(case side2=>exact d2.out);rintro e d6 ⟨b1,rfl,a6,hb⟩;refine⟨_,rfl,?_⟩;replace a0:=ak (Kd.Cq (zs a0.out) (Kd.CC a6) hb);have a7:=ak (Kd.BA (Kd.DX (M:=fun k_=>(w.heap.size<=k_)) a6 (AA z0) (fun k_ h_=>h_)) (AA z0));replace HB:=ak (AG z0 hb);have d7:0<=(a1:Int):=za;have d8:(a1:Int)<((t369.length:Int):Int):=za;obtain⟨a3,b5,d9,e0,g1,h9,e1⟩:=Kd.GP a0.out (by omega);(first|cases d9|(injection d9 with ea_ en_ ec_;(first|subst ea_|(injection ea_ with ea_;subst ea_));subst ec_;clear en_));have g2:=ak e0;have i0:=ak e1;clear e0 g1 e1;obtain⟨_,i1,f2,e2,b8,b9,_,_⟩:=Kd.FL a0.out [] (a1:Int) d7 d8;obtain⟨g6,rfl,g7⟩:=e2;have e3:=b8 0 _ rfl;have e4:=b9 0;(try simp only[show((Kd.slice 3 (Kd.int .i64))).sz=1 from rfl,Nat.mul_one,Nat.add_zero]at e3);(try simp only[show((Kd.slice 3 (Kd.int .i64))).sz=1 from rfl,Nat.mul_one,Nat.add_zero]at e4);clear f2 b8 b9;replace d7:=eq_true d7;replace d8:=eq_true d8;have n_:=ak (Kd.Af (ok':=(fun k_=>(w.heap.size<=k_)/\some k_≠(b1:Value).ownBlock)) a0.out (fun k_ hk=>⟨hk.1.1,hk.2⟩));clear a0;have a0:=n_;clear n_;have g3:=ak (show Kd.S (Kd.slice 3 (Kd.int .i64)) 47 d6 w.heap.size (fun k_=>((fun k_=>(w.heap.size<=k_))) k_/\¬((fun k_=>some k_=(b1:Value).ownBlock)) k_) (.slice (some ⟨a3,0,none⟩) t369.length b5) t369 from(by(with_reducible repeat(first|apply Kd.Bj|apply Kd.Bh|apply Kd.Bx));exact Kd.Af a0.out (fun k_ hk=>⟨hk.1,fun e_=>hk.2 e_⟩)));obtain⟨h5,i2,f3,e5,c1,d0,e6,e7⟩:=Kd.FL g3.out [] (a1:Int) (za) (by have h_:(a1:Int)<((t369.length:Int):Int):=za;first|exact h_|(have e_:=(Kd.Aa a0.out).1;omega)|simpa using h_);obtain⟨g8,rfl,g9⟩:=e5;have b2:=Kd.JK e7 (za) (by have h_:(a1:Int)<((t369.length:Int):Int):=za;first|exact h_|(have e_:=(Kd.Aa a0.out).1;omega)|simpa using h_) (seg:=[b1]) (j:=0) (show 1<=1 from by decide) (x':=t373) (Kd.FP (Kd.AV (Kd.DV rfl (Kd.AV (ok':=fun k_=>((fun k_=>(w.heap.size<=k_))) k_/\k_≠a3) (Kd.CI (a7.out) (Kd.CB a0.out) (by decide)) (fun k_ hk=>⟨hk.1.1,fun e_=>(hk.2) (by rw[e_];rfl)⟩))) (fun _ h_=>Or.inr (h_)))) (fun _ hk=>hk) (fun k_ hk_=>((Kd.AV (ok':=fun k_=>((fun k_=>(w.heap.size<=k_))) k_/\k_≠a3) (Kd.CI (a7.out) (Kd.CB a0.out) (by decide)) (fun k_ hk=>⟨hk.1.1,fun e_=>(hk.2) (by rw[e_];rfl)⟩))).1 k_ hk_.symm);have e8:=c1 0 _ rfl;(try simp only[show((Kd.slice 3 (Kd.int .i64))).sz=1 from rfl,Nat.mul_one,Nat.add_zero]at e8);have e9:=d0 0;(try simp only[show((Kd.slice 3 (Kd.int .i64))).sz=1 from rfl,Nat.mul_one,Nat.add_zero]at e9);clear f3 c1 d0;(try simp only[show((Kd.slice 3 (Kd.int .i64))).sz=1 from rfl,Nat.mul_one,Nat.add_zero]at b2))|((with_reducible refine Dm (t:=47) (p:=23) rfl ?_);refine DU (t:=47) (p:=23) (v:=?vo_w17) (w1:=(d6.setCell ⟨a3,(a1:Int).toNat,none⟩ (b1))) ?hg ?ho ?hn ?hr ?_;(case ho=>rfl);(case hg=>rfl);(case hn=>rfl);(case hr=>first|(go_simp;done)|(go_simp;rfl)|(obtain⟨A_,c_,e_⟩:=Kd.Al a7.out;subst e_;first|(go_simp;done)|(go_simp;rfl)));intro f0 hw;have hg:d6.grownBy f0 (some a3):=(by rw[hw];exact b2.2);have hp_:Kd.S (Kd.slice 3 (Kd.int .i64)) 47 f0 w.heap.size (fun k_=>(w.heap.size<=k_)) (.slice (some ⟨a3,0,none⟩) t369.length b5) a4:=(by rw[hw,f1.out];exact b2.1);clear b2;have f8:=ak (hp_);have f9:=ak ((by rw[hw];exact BC (HB.out) g2.out:Below w.heap.size w f0));clear a0 HB a7;have a0:=f8;have HB:=f9;clear f8 f9 hg hw hp_)|((with_reducible refine zg 60 rfl ?_);refine OD (some 25) rfl rfl Try.func60 (by kernel_rfl) rfl #[.slice (some ⟨a3,0,none⟩) a4.length b5] rfl (by(try simp only[List.map_toArray,List.map_cons,List.map_nil]);first|done|(rw[show a4.length=t369.length from(Kd.Aa a0.out).1.symm]<;>rfl)|rfl|(simp only[List.length_drop,List.length_take];rfl)) ?_;(with_reducible refine(BX.calls k (fun k_=>(w.heap.size<=k_)) w.heap.size _ _ a4 t377 t380 _ (AA z0) ?side1 g4.out).mono ?_);(case side1=>rw[show a4.length=t369.length from(Kd.Aa a0.out).1.symm];exact EH (a0.out));rintro e i6 ⟨i3,rfl,a6,hb⟩;refine⟨_,rfl,?_⟩;replace a0:=ak (Kd.DO (zs a0.out) hb);have f4:=ak (GI (Kd.Af (ok':=fun k_=>(w.heap.size<=k_)) a6 (fun k_ hk_=>Or.elim hk_ (fun hs_=>hs_) (fun hn_=>(Nat.le_trans (AA z0) hn_)))) (AA z0));replace HB:=ak (AG z0 hb)))
  go_ret2
  exact⟨_,ze,zs f4.out,z0⟩
 ·
  replace c5:=Bool.eq_false_iff.mpr c5;subst c5;rw[if_neg (show¬(false=true) by decide)]at H;simp only[Option.some.injEq,Prod.mk.injEq]at H;obtain⟨rfl,rfl⟩:=H
  go_enter Try.func22,Try.ntmps22
  go_wp2_with (first|(refine zl (some 11) Try.func57 #[.slice A0 l0.length c0,.int .i64 a1] ?_;(with_reducible refine(Ap.calls k _ _ l0 a1 false _ ?side1 ?side2 A4.out).mono ?_);(case side1=>exact zc b6.out);(case side2=>exact d3.out);rintro e i7 ⟨rfl,hb⟩;refine⟨_,rfl,?_⟩;replace HB:=ak (AG z0 hb)))
  go_ret2
  exact⟨_,ze,EH (by first|exact Kd.Eg _ _ _ _ _|exact Kd.Ii _ _ _ _ _|exact Kd.Eg _ _ _ _ _|exact Kd.Iy _ _ _ _ _|exact Kd.Gn _ _ _ _ _),z0⟩
def BD.f (a0:Bool):Option (Int):=if a0=true then(some 1)else(some 0)
theorem BD.calls (a0:Bool) (r:Int) (w:World) (h:BD.f a0=some r):
 Calls Try.prog 83 #[.bool a0] w fun e w'=>e= .returned (.int .i64 r)/\Cj w w':=by
 have H:=h;clear h;unfold BD.f at H
 by_cases c2:a0=true
 ·
  subst c2;rw[if_pos rfl]at H;obtain rfl:=Option.some.inj H
  go_enter Try.func83,Try.ntmps83
  go_wp2
  go_ret
  exact⟨by first|rfl|(simp;done)|(simp[*];done),z3⟩
 ·
  replace c2:=Bool.eq_false_iff.mpr c2;subst c2;rw[if_neg (show¬(false=true) by decide)]at H;obtain rfl:=Option.some.inj H
  go_enter Try.func83,Try.ntmps83
  go_wp2
  go_ret
  exact⟨by first|rfl|(simp;done)|(simp[*];done),z3⟩
end Go.Proofs.Ytlnddmkkgjlmbaa.QFnMoves
namespace Go.Proofs.Ytlnddmkkgjlmbaa.QFnMoves
open Go.Proofs.Ytlnddmkkgjlmbaa.Zip Go.RowKit Go.Proofs.YtlnddmkkgjlmbaaW.PrintWords Go.Proofs.YtlnddmkkgjlmbaaW.PrintLast Go.Proofs.YtlnddmkkgjlmbaaW.PrintMore
attribute [local go_sem] CD CF CW CV Bl Bk CE CG
set_option linter.unusedVariables false
set_option linter.unusedSimpArgs false
def AR.j0:Nat->List (List Int)->Int->Int->Bool->Option ((List (List Int))×Bool)
 |0,_,_,_,_=>none
 |k+1,x0,x1,x2,a8=>if a8=true then(some ((([]:List (List Int))),false))else(if 0<=x1 then(if x1<(x0.length:Int)then((Bs.f (AD x0 x1) x2).bind fun t391=>(if 0<(t391.length:Int)then(if 1<(t391.length:Int)then(if(rd t391 0)=(wrap64 (-(rd t391 1)))then(if 2<=(t391.length:Int)then((some (t391.drop 2:List Int)).bind fun a2=>(if(wrap64 (x2+1))<((AD x0 x1).length:Int)then((some (([]:List Int):List Int)).bind fun a3=>(if 0<=x2 then(if x2<=((AD x0 x1).length:Int)then(if a3.length+((AD x0 x1).take (x2:Int).toNat).length<17592186044416 then((some (a3++((AD x0 x1).take (x2:Int).toNat):List Int)).bind fun a4=>(if 0<=(wrap64 (x2+2))then(if(wrap64 (x2+2))<=((AD x0 x1).length:Int)then(if a4.length+((AD x0 x1).drop ((wrap64 (x2+2)):Int).toNat).length<17592186044416 then((some (a4++((AD x0 x1).drop ((wrap64 (x2+2)):Int).toNat):List Int)).bind fun a5=>((some (([]:List Int):List Int)).bind fun a6=>(if a6.length+a5.length<17592186044416 then((Bp.f k x0 x1 (a6++a5)).bind fun a0=>(some (a0.1,a0.2)))else(none))))else(none))else(none))else(none)))else(none))else(none))else(none)))else((some (([]:List Int):List Int)).bind fun a7=>(if a7.length+a2.length<17592186044416 then((Bp.f k x0 x1 (a7++a2)).bind fun a1=>(some (a1.1,a1.2)))else(none)))))else(none))else(some ((([]:List (List Int))),false)))else(none))else(none)))else(none))else(none))
def AR.f (k:Nat) (l0:List (List Int)) (a1 a2:Int):Option ((List (List Int))×Bool):=(AL.f k l0).bind fun t382=>(if t382=true then((BM.f a1 0 (wrap64 ((l0.length:Int)-1))).bind fun t383=>(if t383=true then(if 0<=a1 then(if a1<(l0.length:Int)then(if((AD l0 a1).length:Int)<3 then(AR.j0 k l0 a1 a2 true)else((BM.f a2 0 (wrap64 (((AD l0 a1).length:Int)-1))).bind fun t386=>(AR.j0 k l0 a1 a2 (!t386))))else(none))else(none))else(AR.j0 k l0 a1 a2 true)))else(AR.j0 k l0 a1 a2 true))
def AR.T4:Bool×List (List Nat×List Nat):=(true,[([],[]),([0],[0]),([1],[1]),([],[]),([3],[3]),([4],[4]),([5],[5]),([2,6],[2,6])])
def AR.B4:List Nat:=[0,1,3,0,8,24,56,127]
theorem AR.Tp:En .any (opsOf Try.f27 4)=AR.T4:=by kernel_rfl
theorem AR.OV:DZ AR.T4.2 AR.B4=true:=by kernel_rfl
def AR.T8:Bool×List (List Nat×List Nat):=(true,[([],[]),([],[]),([],[]),([1,2],[1,2]),([3],[3]),([],[]),([4,5],[4,5]),([0,6],[0,6]),([],[]),([],[]),([8,9],[8,9]),([10],[10]),([],[]),([12],[12]),([11,13],[11,13]),([7,14,7],[7,14]),([15,15,0,1,2,3,4,5,6,7,8,9,10,11,12,13,14,15],[15])])
def AR.B8:List Nat:=[0,0,0,6,14,0,62,127,0,0,768,1792,0,4096,16128,32767,65535]
theorem AR.Sk:En .any (opsOf Try.f27 8)=AR.T8:=by kernel_rfl
theorem AR.Oi:DZ AR.T8.2 AR.B8=true:=by kernel_rfl
set_option maxHeartbeats 8000000 in
set_option maxRecDepth 100000 in
theorem AR.calls (k:Nat) (A0:Option Addr) (c0:Nat) (l0:List (List Int)) (a1 a2:Int) (r1:List (List Int)) (r2:Bool) (w:World) (y5:Kd.C (Kd.slice 3 (Kd.int .i64)) w A0 l0.length l0) (y6:l0.length<=c0) (h:AR.f k l0 a1 a2=some (r1,r2)):
 Calls Try.prog 27 #[.slice A0 l0.length c0,.int .i64 a1,.int .i64 a2] w fun e w'=> ∃y7:Value,e= .returned (.tuple #[y7,.bool r2])/\Kd.S (Kd.slice 3 (Kd.int .i64)) 47 w' w.heap.size (fun k_=>(w.heap.size<=k_)) y7 r1/\Below w.heap.size w w':=by
 have d2:=ak y5;have i7:=ak y6;clear y5 y6;have HB:=ak (Below.refl w.heap.size w);have H:=h;clear h;unfold AR.f at H;have r8:=ak H;clear H
 go_enter Try.func27,Try.ntmps27
 go_upto_region 1 with(fail)
 go_cut [41] (fun D4 wc=> ∃(kq:Nat) (h3:Bool),D4= .bool h3/\AJ (AR.j0 kq l0 a1 a2 h3=some (r1,r2))/\AJ (kq<=k)/\AJ (Below w.heap.size w wc))
 case first=>
  have H:=r8.out;clear r8;replace H:=gb H;obtain⟨t382,A5,H⟩:=H
  by_cases c6:t382=true
  ·
   subst c6;rw[if_pos rfl]at H;replace H:=gb H;obtain⟨t383,A7,H⟩:=H
   by_cases c8:t383=true
   ·
    subst c8;rw[if_pos rfl]at H;replace H:=gi H;obtain⟨c9,H⟩:=H;have n0:=decide_eq_true c9;clear c9
    (first|rw[n0]|(simp only[Dg,Ep];rw[n0])|skip)
    replace H:=gi H;obtain⟨Du,H⟩:=H;have w5:=decide_eq_true Du;clear Du
    by_cases h6:((AD l0 a1).length:Int)<3
    ·
     rw[if_pos h6]at H;have o1:=decide_eq_true h6;have o2:decide ((AD l0 a1).length<3)=true:=decide_eq_true (by omega);clear h6;have H':=ak H;clear H
     go_wp2_with (first|(refine zl (some 13) Try.func52 #[.slice A0 l0.length c0] ?_;(with_reducible refine(AL.calls k _ _ l0 true _ ?side1 ?side2 A5.out).mono ?_);(case side1=>exact zc (Kd.AM d2.out HB.out));(case side2=>exact i7.out);rintro e I5 ⟨rfl,hb⟩;refine⟨_,rfl,?_⟩;replace HB:=ak (AG z0 hb))|(go_at_call 53;(with_reducible refine(BM.calls a1 0 (wrap64 ((l0.length:Int)-1)) true _ A7.out).mono ?_);rintro e w' ⟨rfl,⟨nd,rfl⟩⟩;have f0:0<=(a1:Int):=za;have f1:a1<(l0.length:Int):=za;obtain⟨o3,r9,s6,n1,b2,e0,e1⟩:=Cl d2.out a1 f0 f1;cases n1;replace b2:=(HB.out.cell (World.block_lt_of_cell? w _ b2)).trans b2;have r0:=ak e1;have r3:=ak e0;clear e1 e0;replace f0:=eq_true f0;replace f1:=eq_true f1))
     go_meet
     case rel=>exact⟨_,(true),zd,H',⟨by first|omega|exact Nat.le_refl _⟩,⟨z0⟩⟩
    ·
     rw[if_neg h6]at H;have o1:=decide_eq_false h6;have o2:decide ((AD l0 a1).length<3)=false:=decide_eq_false (by omega);clear h6;replace H:=gb H;obtain⟨t386,D5,H⟩:=H;have H':=ak H;clear H
     go_wp2_with (first|(refine zl (some 13) Try.func52 #[.slice A0 l0.length c0] ?_;(with_reducible refine(AL.calls k _ _ l0 true _ ?side1 ?side2 A5.out).mono ?_);(case side1=>exact zc (Kd.AM d2.out HB.out));(case side2=>exact i7.out);rintro e I6 ⟨rfl,hb⟩;refine⟨_,rfl,?_⟩;replace HB:=ak (AG z0 hb))|(go_at_call 53;(with_reducible refine(BM.calls a1 0 (wrap64 ((l0.length:Int)-1)) true _ A7.out).mono ?_);rintro e w' ⟨rfl,⟨nd,rfl⟩⟩;have f0:0<=(a1:Int):=za;have f1:a1<(l0.length:Int):=za;obtain⟨o3,r9,s6,n1,b2,e0,e1⟩:=Cl d2.out a1 f0 f1;cases n1;replace b2:=(HB.out.cell (World.block_lt_of_cell? w _ b2)).trans b2;have r0:=ak e1;have r3:=ak e0;clear e1 e0;replace f0:=eq_true f0;replace f1:=eq_true f1;have k3:0<=(a1:Int):=za;have k4:a1<(l0.length:Int):=za;obtain⟨w6,D6,D7,B2,e2,i9,j5⟩:=Cl d2.out a1 k3 k4;obtain rfl:o3=w6:=(by injection B2);replace e2:=(HB.out.cell (World.block_lt_of_cell? w _ e2)).trans e2;have D2:=ak j5;have D3:=ak i9;clear j5 i9;replace k3:=eq_true k3;replace k4:=eq_true k4;have ea_:=Option.some.inj (b2.symm.trans e2);injection ea_ with ea_ en_ ec_;subst ea_;subst ec_;clear en_)|(go_at_call 53;(with_reducible refine(BM.calls a2 0 (wrap64 (((AD l0 a1).length:Int)-1)) t386 _ D5.out).mono ?_);rintro e w' ⟨rfl,⟨nd,rfl⟩⟩))
     go_meet
     case rel=>exact⟨_,(!t386),zd,H',⟨by first|omega|exact Nat.le_refl _⟩,⟨z0⟩⟩
   ·
    replace c8:=Bool.eq_false_iff.mpr c8;subst c8;rw[if_neg (show¬(false=true) by decide)]at H;have H':=ak H;clear H
    go_wp2_with (first|(refine zl (some 13) Try.func52 #[.slice A0 l0.length c0] ?_;(with_reducible refine(AL.calls k _ _ l0 true _ ?side1 ?side2 A5.out).mono ?_);(case side1=>exact zc (Kd.AM d2.out HB.out));(case side2=>exact i7.out);rintro e I7 ⟨rfl,hb⟩;refine⟨_,rfl,?_⟩;replace HB:=ak (AG z0 hb))|(go_at_call 53;(with_reducible refine(BM.calls a1 0 (wrap64 ((l0.length:Int)-1)) false _ A7.out).mono ?_);rintro e w' ⟨rfl,⟨nd,rfl⟩⟩))
    go_meet
    case rel=>exact⟨_,(true),zd,H',⟨by first|omega|exact Nat.le_refl _⟩,⟨z0⟩⟩
  ·
   replace c6:=Bool.eq_false_iff.mpr c6;subst c6;rw[if_neg (show¬(false=true) by decide)]at H;have H':=ak H;clear H
   go_wp2_with (first|(refine zl (some 13) Try.func52 #[.slice A0 l0.length c0] ?_;(with_reducible refine(AL.calls k _ _ l0 false _ ?side1 ?side2 A5.out).mono ?_);(case side1=>exact zc (Kd.AM d2.out HB.out));(case side2=>exact i7.out);rintro e I8 ⟨rfl,hb⟩;refine⟨_,rfl,?_⟩;replace HB:=ak (AG z0 hb)))
   go_meet
   case rel=>exact⟨_,(true),zd,H',⟨by first|omega|exact Nat.le_refl _⟩,⟨z0⟩⟩
 case rest=>
  clear r8;obtain⟨kq,h3,rfl,HA,J0,HB⟩:=hcut
  cases kq with
  |zero=>exact absurd HA.out (by simp[AR.j0])
  |succ e9=>
   have H:=HA.out;clear HA;simp only[AR.j0]at H
   by_cases o4:h3=true
   ·
    subst o4;rw[if_pos rfl]at H;obtain⟨B3,k5⟩: ∃y_:List (List Int),y_=(([]:List (List Int))):=⟨_,rfl⟩;replace H:(some (B3,false))=some (r1,r2):=zy k5 H;have o5:=ak k5;clear k5;simp only[Option.some.injEq,Prod.mk.injEq]at H;obtain⟨rfl,rfl⟩:=H
    go_wp2_with (first|((with_reducible refine Ar (N:=42) rfl ?_);(try(refine BR (by rfl) ?_;dsimp only));refine Kd.FO (Kd.slice 3 (Kd.int .i64)) _ 47 ?hg (N:=42) ?hd (xs:=([]:List (List Int))) (inner:=[]) (ok:=fun _=>True) (okp:=fun _=>True) ?hr ?hp (fun _ hk=>hk) trivial (Below.refl _ _) (Nat.le_refl _) (by simp) ?_;(case hd=>rfl);(case hg=>rfl);(case hr=>first|(go_simp;done)|(go_simp;rfl));(case hp=>exact(Av.none _ _));intro H2 J1 h7 hb hg_ hnew_;clear hg_ hnew_;(first|rw[<-o5.out]at h7|(simp only[Int.reduceToNat]at h7;rw[<-o5.out]at h7));have w7:=ak (Kd.BS (Kd.EM (M:=fun k_=>(w.heap.size<=k_)) h7 (AA z0) (fun k_ h_=>h_)) (AA z0));replace HB:=ak (AG z0 hb);clear hb h7))
    go_ret2
    exact⟨_,ze,EH (by(with_reducible repeat(first|apply Kd.Bj|apply Kd.Bh|apply Kd.Bx));exact Kd.Af w7.out (fun _ hk=>hk.1)),z0⟩
   ·
    replace o4:=Bool.eq_false_iff.mpr o4;subst o4;rw[if_neg (show¬(false=true) by decide)]at H;replace H:=gi H;obtain⟨y8,H⟩:=H;have F4:=decide_eq_true y8;clear y8;replace H:=gi H;obtain⟨y9,H⟩:=H;have F5:=decide_eq_true y9;clear y9;replace H:=gb H;obtain⟨t391,o6,H⟩:=H;replace H:=gi H;obtain⟨A2,H⟩:=H;have F6:=decide_eq_true A2;have F7:decide (0<t391.length)=true:=decide_eq_true (by omega);clear A2;replace H:=gi H;obtain⟨A3,H⟩:=H;have F8:=decide_eq_true A3;have F9:decide (1<t391.length)=true:=decide_eq_true (by omega);clear A3
    by_cases h8:(rd t391 0)=(wrap64 (-(rd t391 1)))
    ·
     rw[if_pos h8]at H;have w8:((rd t391 0)==(wrap64 (-(rd t391 1))))=true:=beq_iff_eq.mpr h8;have w9:((rd t391 0) != (wrap64 (-(rd t391 1))))=false:=bne_eq_false_iff_eq.mpr h8;clear h8;replace H:=gi H;obtain⟨s7,H⟩:=H;have G0:=eq_true s7;have G1:=decide_eq_true s7;clear s7;obtain⟨a7,k6⟩: ∃y_:List Int,y_=(t391.drop 2):=⟨_,rfl⟩;replace H:(if(wrap64 (a2+1))<((AD l0 a1).length:Int)then((some (([]:List Int):List Int)).bind fun f6=>(if 0<=a2 then(if a2<=((AD l0 a1).length:Int)then(if f6.length+((AD l0 a1).take (a2:Int).toNat).length<17592186044416 then((some (f6++((AD l0 a1).take (a2:Int).toNat):List Int)).bind fun d1=>(if 0<=(wrap64 (a2+2))then(if(wrap64 (a2+2))<=((AD l0 a1).length:Int)then(if d1.length+((AD l0 a1).drop ((wrap64 (a2+2)):Int).toNat).length<17592186044416 then((some (d1++((AD l0 a1).drop ((wrap64 (a2+2)):Int).toNat):List Int)).bind fun a8=>((some (([]:List Int):List Int)).bind fun b1=>(if b1.length+a8.length<17592186044416 then((Bp.f e9 l0 a1 (b1++a8)).bind fun a4=>(some (a4.1,a4.2)))else(none))))else(none))else(none))else(none)))else(none))else(none))else(none)))else((some (([]:List Int):List Int)).bind fun f7=>(if f7.length+a7.length<17592186044416 then((Bp.f e9 l0 a1 (f7++a7)).bind fun d7=>(some (d7.1,d7.2)))else(none))))=some (r1,r2):=zy k6 H;have d8:=ak k6;clear k6
     by_cases j6:(wrap64 (a2+1))<((AD l0 a1).length:Int)
     ·
      rw[if_pos j6]at H;have x0:=decide_eq_true j6;clear j6;obtain⟨f6,k7⟩: ∃y_:List Int,y_=(([]:List Int)):=⟨_,rfl⟩;replace H:(if 0<=a2 then(if a2<=((AD l0 a1).length:Int)then(if f6.length+((AD l0 a1).take (a2:Int).toNat).length<17592186044416 then((some (f6++((AD l0 a1).take (a2:Int).toNat):List Int)).bind fun d1=>(if 0<=(wrap64 (a2+2))then(if(wrap64 (a2+2))<=((AD l0 a1).length:Int)then(if d1.length+((AD l0 a1).drop ((wrap64 (a2+2)):Int).toNat).length<17592186044416 then((some (d1++((AD l0 a1).drop ((wrap64 (a2+2)):Int).toNat):List Int)).bind fun a8=>((some (([]:List Int):List Int)).bind fun b1=>(if b1.length+a8.length<17592186044416 then((Bp.f e9 l0 a1 (b1++a8)).bind fun a4=>(some (a4.1,a4.2)))else(none))))else(none))else(none))else(none)))else(none))else(none))else(none))=some (r1,r2):=zy k7 H;have o7:=ak k7;clear k7;replace H:=gi H;obtain⟨s8,H⟩:=H;have G2:=eq_true s8;have G3:=decide_eq_true s8;clear s8;replace H:=gi H;obtain⟨s9,H⟩:=H;have G4:=eq_true s9;have G5:=decide_eq_true s9;clear s9;replace H:=gi H;obtain⟨A4,H⟩:=H;have x1:=ak A4;clear A4;obtain⟨d1,k8⟩: ∃y_:List Int,y_=(f6++((AD l0 a1).take (a2:Int).toNat)):=⟨_,rfl⟩;replace H:(if 0<=(wrap64 (a2+2))then(if(wrap64 (a2+2))<=((AD l0 a1).length:Int)then(if d1.length+((AD l0 a1).drop ((wrap64 (a2+2)):Int).toNat).length<17592186044416 then((some (d1++((AD l0 a1).drop ((wrap64 (a2+2)):Int).toNat):List Int)).bind fun a8=>((some (([]:List Int):List Int)).bind fun b1=>(if b1.length+a8.length<17592186044416 then((Bp.f e9 l0 a1 (b1++a8)).bind fun a4=>(some (a4.1,a4.2)))else(none))))else(none))else(none))else(none))=some (r1,r2):=zy k8 H;have x2:=ak k8;clear k8;obtain⟨b7,f9⟩: ∃j_:Int,(wrap64 (a2+2))=j_:=⟨_,rfl⟩
      replace H:(if 0<=(b7)then(if(b7)<=((AD l0 a1).length:Int)then(if d1.length+((AD l0 a1).drop ((b7):Int).toNat).length<17592186044416 then((some (d1++((AD l0 a1).drop ((b7):Int).toNat):List Int)).bind fun a8=>((some (([]:List Int):List Int)).bind fun b1=>(if b1.length+a8.length<17592186044416 then((Bp.f e9 l0 a1 (b1++a8)).bind fun a4=>(some (a4.1,a4.2)))else(none))))else(none))else(none))else(none))=some (r1,r2):=by first|(rw[f9]at H;exact H)|(simp only[f9]at H⊢;exact H)
      (try rw[f9]at o6)
      have hji31w:(IntKind.i64.wrap (a2+2))=b7:=(Dg _).trans f9;replace H:=gi H;obtain⟨t0,H⟩:=H;have G6:=eq_true t0;have G7:=decide_eq_true t0;clear t0;replace H:=gi H;obtain⟨t1,H⟩:=H;have G8:=eq_true t1;have G9:=decide_eq_true t1;clear t1;replace H:=gi H;obtain⟨A6,H⟩:=H;have x3:=ak A6;clear A6;obtain⟨a8,k9⟩: ∃y_:List Int,y_=(d1++((AD l0 a1).drop ((b7):Int).toNat)):=⟨_,rfl⟩;replace H:((some (([]:List Int):List Int)).bind fun b1=>(if b1.length+a8.length<17592186044416 then((Bp.f e9 l0 a1 (b1++a8)).bind fun a4=>(some (a4.1,a4.2)))else(none)))=some (r1,r2):=zy k9 H;have x4:=ak k9;clear k9;obtain⟨b1,l5⟩: ∃y_:List Int,y_=(([]:List Int)):=⟨_,rfl⟩;replace H:(if b1.length+a8.length<17592186044416 then((Bp.f e9 l0 a1 (b1++a8)).bind fun a4=>(some (a4.1,a4.2)))else(none))=some (r1,r2):=zy l5 H;have o8:=ak l5;clear l5;replace H:=gi H;obtain⟨A8,H⟩:=H;have x5:=ak A8;clear A8;obtain⟨l6,l7⟩: ∃y_:List Int,y_=(b1++a8):=⟨_,rfl⟩;replace H:((Bp.f e9 l0 a1 l6).bind fun a4=>(some (a4.1,a4.2)))=some (r1,r2):=zy l7 H;have x6:=ak l7;clear l7;replace H:=gb H;obtain⟨⟨t420,t423⟩,D8,H⟩:=H;dsimp only at H;simp only[Option.some.injEq,Prod.mk.injEq]at H;obtain⟨rfl,rfl⟩:=H;obtain⟨b9,f2,f3,h9,b4,e3,e4,t2,t3⟩:=al d2.out a1;cases h9;replace b4:=zx HB b4
      try go_wp2_with (first|(refine zl (some 48) Try.func69 #[.slice f2 (AD l0 a1).length f3,.int .i64 a2] ?_;(with_reducible refine(Bs.calls _ _ (AD l0 a1) a2 t391 _ ?side1 ?side2 o6.out).mono ?_);(case side1=>exact zc (Kd.AM e4.out HB.out));(case side2=>exact e3.out);rintro e D9 ⟨t4,rfl,g0,hb⟩;refine⟨_,rfl,?_⟩;have a0:=ak (Kd.BA (Kd.DX (M:=fun k_=>(w.heap.size<=k_)) g0 (AA z0) (fun k_ h_=>h_)) (AA z0));replace HB:=ak (AG z0 hb)))
      have a9:=ak (Kd.BI a0.out);have b0:=ak (Ab HB.out);clear a0 HB;have a0:=a9;have HB:=b0;clear a9 b0;obtain⟨H3,b8,t5⟩:=Kd.Al a0.out
      (first|subst t5|(injection t5 with g8 m7 g9;have m8:=g8.symm;have m9:=g9.symm;clear g8 m7 g9;subst m8;subst m9))
      have d3:0<=(0:Int):=(by omega);have d4:0<(t391.length:Int):=za;obtain⟨a3,i0,a5⟩:=Kd.Dk (Kd.AN a0.out).2.2 0 d3 d4;cases i0;have o9:(0<t391.length)=True:=eq_true (by omega)
      (try rw[show((0:Int)).toNat=0 from rfl]at a5)
      (try rw[Addr.add_zero']at a5)
      replace d3:=eq_true d3;replace d4:=eq_true d4;have d5:0<=(1:Int):=(by omega);have d6:1<(t391.length:Int):=za;obtain⟨g1,i1,a6⟩:=Kd.Dk (Kd.AN a0.out).2.2 1 d5 d6;obtain rfl:a3=g1:=(by injection i1)
      (try simp only[show(1:Int).toNat=1 from rfl,Nat.reduceMul,Nat.reduceEqDiff,Go.Addr.add,↓reduceIte]at a6)
      have p0:(1<t391.length)=True:=eq_true (by omega)
      (try rw[show((1:Int)).toNat=1 from rfl]at a6)
      replace d5:=eq_true d5;replace d6:=eq_true d6;refine Dp (n:=8) (S:=fun w'=>w'.cell? a3=some (.int .i64 (rd t391 0))/\w'.cell? ⟨a3.block,a3.off+1,none⟩=some (.int .i64 (rd t391 1))) (ds:=[]) #[false,false,false,false,false,false,false,false] (by kernel_rfl) rfl rfl ⟨a5,a6⟩ (fun hHeld=>?_);refine CY AR.Tp AR.OV (fun HT_ HW_=>?_);generalize D9.drew=E0 at a0 HB a5 a6 hHeld⊢;refine pz 0 49 ?_;refine pz 1 50 ?_;refine pz 3 52 ?_;refine pz 4 53 ?_;refine LL 2 51 hHeld ?_;refine LL 5 54 hHeld ?_;refine pz 6 55 ?_;refine pz 7 56 ?_;refine Ea (DI HT_.out (by kernel_rfl)) ?_;have t6:(2:Int)<=((t391.length:Int):Int):=za;obtain⟨i040,p1,_,p4,_⟩:=info_parts BT;have g4:t391.length<=b8:=(Kd.AN a0.out).2.1;have t7:Kd.C (Kd.int .i64) _ (some a3) t391.length t391:=(Kd.AN a0.out).2.2;have t8:=Gi (P:=Try.prog) 47 3 .i64 Try.underlying47 p1 1 p4 (some a3) t391.length b8 2 (by omega) t6;have i2:=Kd.ET (m:=(2:Int).toNat) (c:=b8) t7 (by omega) g4;obtain⟨p5,l8⟩: ∃A1,A1=(if b8=(2:Int).toNat then(some a3)else((some a3):Option Addr).map (·.add ((2:Int).toNat*1))):=⟨_,rfl⟩;obtain⟨E1,n2⟩: ∃c1,c1=b8-(2:Int).toNat:=⟨_,rfl⟩;have l9:a7.length=t391.length-(2:Int).toNat:=(by rw[d8.out,List.length_drop]<;>omega);rw[show(t391).drop (2:Int).toNat=a7 from d8.out.symm]at i2;replace i2:Kd.C (Kd.int .i64) _ p5 a7.length a7:=(by rw[l8];exact i2);rw[<-l9,<-l8,<-n2]at t8;have HR399:=ak i2;have x7:=ak (show a7.length<=E1 from by rw[l9,n2];exact Nat.sub_le_sub_right g4 _);clear i2 t7 g4 p1 p4 n2;have H4:=ak l9;have n3:=ak l8;clear l9 l8;have n4:=ak (show 2<=t391.length from by omega);replace t6:=eq_true t6;obtain⟨m0,t9,v0,n5,e5,r4,r5,B5,B7⟩:=al d2.out a1;obtain rfl:b9=m0:=(by injection n5);replace e5:=zx HB e5
      try go_wp2
      have a9:=ak (Kd.BI a0.out);have b0:=ak (Kd.BL HR399.out);have d0:=ak (Ab HB.out);clear a0 HR399 HB;have a0:=a9;have HR399:=b0;have HB:=d0;clear a9 b0 d0;have n6:0<=(a1:Int):=za;have n7:a1<(l0.length:Int):=za;obtain⟨x8,g2,g3,C0,e6,j7,j8⟩:=Cl d2.out a1 n6 n7;have b5:=e6;obtain rfl:b9=x8:=(by injection C0);replace e6:=zx HB e6;have j9:=ak j8;have r6:=ak j7;clear j8 j7;replace n6:=eq_true n6;replace n7:=eq_true n7;obtain⟨i042,p7,_,p8,_⟩:=info_parts BT;obtain⟨E2,v1,v2⟩:=ED (P:=Try.prog) (Value.int .i64) 0 47 3 .i64 Try.underlying47 p7 p8 g2 g3 (AD l0 a1) a2 (za) (za) r6.out;have h4:=ak (Kd.Cf (h1:=fun _=>rfl) (v1 _ (Kd.Cg j9.out)));have H0:=ak v2;clear v1 v2 p7 p8;have n8:0<=(a1:Int):=za;have n9:a1<(l0.length:Int):=za;obtain⟨x9,E3,E4,C1,e7,k0,k1⟩:=Cl d2.out a1 n8 n9;have b6:=e7;obtain rfl:b9=x9:=(by injection C1);replace e7:=zx HB e7;have k2:=ak k1;have r7:=ak k0;clear k1 k0;replace n8:=eq_true n8;replace n9:=eq_true n9;have ea_:=Option.some.inj (e6.symm.trans e7)
      injection ea_ with ea_ en_ ec_
      subst ea_;subst ec_;clear en_;obtain⟨i043,p9,_,q0,_⟩:=info_parts BT;obtain⟨J2,E5,v3,v4⟩:=EA (P:=Try.prog) (Value.int .i64) 0 47 3 .i64 Try.underlying47 p9 q0 g2 g3 (AD l0 a1) (b7) (za) (za) r7.out;have h5:=ak (Kd.Cf (h1:=fun _=>rfl) (v3 _ (Kd.Cg k2.out)));have H1:=ak v4;clear v3 v4 p9 q0;refine Dp (n:=17) (S:=fun w'=>w'.cell? (b9.add (a1).toNat)=some (.slice g2 (AD l0 a1).length g3)/\w'.cell? (b9.add (a1).toNat)=some (.slice g2 (AD l0 a1).length g3)) (ds:=[]) #[false,false,false,false,false,false,false,false,false,false,false,false,false,false,false,false,false] (by kernel_rfl) rfl rfl ⟨((HB.out.cell (World.block_lt_of_cell? w _ b5)).trans b5),((HB.out.cell (World.block_lt_of_cell? w _ b6)).trans b6)⟩ (fun hHeld=>?_);refine CY AR.Sk AR.Oi (fun HT_ HW_=>?_);generalize E0.drew=J3 at a0 HR399 HB j9 h4 k2 h5 e6 e7 hHeld⊢;refine pz 1 69 ?_;refine pz 2 70 ?_;refine pz 3 71 ?_;refine pz 5 73 ?_;refine pz 8 76 ?_;refine pz 9 77 ?_;refine pz 10 78 ?_;refine pz 12 80 ?_;refine pz 13 81 ?_;refine LL 4 72 hHeld ?_;refine pz 6 74 ?_;refine LL 11 79 hHeld ?_;refine pz 14 82 ?_;refine oz 0 68 (fun K hK=>?_);refine Kd.FG (Kd.int .i64) _ 3 ?hg (N:=68) ?hd (xs:=([]:List Int)) (inner:=[]) (ok:=fun _=>True) (okp:=fun _=>True) ?hr ?hp (fun _ hk=>hk) trivial (Below.refl _ _) (Nat.le_refl _) (by simp) ?_;(case hd=>rfl);(case hg=>rfl);(case hr=>first|(go_simp;done)|(go_simp;rfl));(case hp=>exact(Av.none _ _));intro C2 J4 g5 hb hg_ hnew_;clear hg_ hnew_
      (first|rw[<-o7.out]at g5|(simp only[Int.reduceToNat]at g5;rw[<-o7.out]at g5))
      have a9:=ak (Kd.CP (zr a0.out) (Kd.CC g5) hb);have b0:=ak (Kd.BA (Kd.DJ (Kd.DX (M:=fun k_=>(w.heap.size<=k_)) g5 (AA z0) (fun k_ h_=>h_)) (Kd.Ce (zr a0.out))) (AA z0));have d0:=ak (Kd.AM XJ hb);have d9:=ak (AG z0 hb);clear a0 HR399 HB;have a0:=a9;have q1:=b0;have HR399:=d0;have HB:=d9;clear a9 b0 d0 d9 hb g5;refine hK.out _ _ ⟨((HB.out.cell (World.block_lt_of_cell? w _ b5)).trans b5),((HB.out.cell (World.block_lt_of_cell? w _ b6)).trans b6)⟩ (fun hHeld=>?_);clear hK K;refine nz 68 ?_;refine oz 7 75 (fun K hK=>?_);refine Kd.BG (Kd.int .i64) (w0:=w) w.heap.size (by rfl) (.tmp 68) (.tmp 74) 47 3 (.int .i64 0) 8 rfl Try.underlying47 BT rfl (by decide) (by omega) C2 f6 ((AD l0 a1).take (a2:Int).toNat) _ _ _ (fun k_=>(w.heap.size<=k_)/\some k_≠(.slice (some a3) t391.length b8:Value).ownBlock) (fun _=>False) rfl rfl ?aO ?aR (fun _ _ h=>h) (fun _ h=>h.elim) ?aF ?aB ?aS ?aL ?_
      (case aR=>first|(rw[<-show((AD l0 a1).take (a2:Int).toNat).length=a2.toNat from(by rw[List.length_take];have h_:(a2:Int)<=((AD l0 a1).length:Int):=za;omega)];(repeat(first|exact(Kd.AM h4.out HB.out)|(with_reducible refine Kd.Az ?_ _)|(with_reducible refine Kd.Ao ?_ _)|(with_reducible refine Kd.BL ?_)));done)|(refine(congrArg (fun n_=>CS _ _ _ _ n_ _) (show((AD l0 a1).take (a2:Int).toNat).length=a2.toNat from(by rw[List.length_take];have h_:(a2:Int)<=((AD l0 a1).length:Int):=za;omega))).mp ?_;(repeat(first|exact(Kd.AM h4.out HB.out)|(with_reducible refine Kd.Az ?_ _)|(with_reducible refine Kd.Ao ?_ _)|(with_reducible refine Kd.BL ?_)));done)|(repeat(first|exact(Kd.AM h4.out HB.out)|(with_reducible refine Kd.Az ?_ _)|(with_reducible refine Kd.Ao ?_ _)|(with_reducible refine Kd.BL ?_))))
      (case aB=>exact z0)
      (case aF=>exact(fun k_ hk=>⟨(Nat.le_trans (AA z0) hk),Kd.CN (Kd.Ce (zr a0.out)) k_ hk⟩))
      (case aO=>exact(by(with_reducible repeat(first|apply Kd.BV|apply Kd.BN|apply Kd.BI));exact Kd.AV q1.out (fun _ hk=>⟨hk.1.1,hk.2⟩)))
      (case aS=>exact(AA z0))
      (case aL=>have:=x1.out;have hlx_:=(show((AD l0 a1).take (a2:Int).toNat).length=a2.toNat from(by rw[List.length_take];have h_:(a2:Int)<=((AD l0 a1).length:Int):=za;omega));omega)
      intro C3 E6 ho hb hg hat;rw[<-x2.out]at ho;have a9:=ak (Kd.BO (ok:=(fun k_=>(w.heap.size<=k_))) (by(with_reducible repeat(first|apply Kd.BV|apply Kd.BN|apply Kd.BI));exact Kd.AV a0.out (fun _ hk=>⟨hk.1.1,hk.2⟩)) hg hat);have b0:=ak (hb);have d0:=ak ((show Kd.C (Kd.int .i64) E6 p5 a7.length a7 from by rw[d8.out,n3.out];exact Kd.ET (m:=2) (c:=b8) ((Kd.AN (Kd.BO (ok:=(fun k_=>(w.heap.size<=k_))) (by(with_reducible repeat(first|apply Kd.BV|apply Kd.BN|apply Kd.BI));exact Kd.AV a0.out (fun _ hk=>⟨hk.1.1,hk.2⟩)) hg hat)).2.2) n4.out ((Kd.AN (Kd.BO (ok:=(fun k_=>(w.heap.size<=k_))) (by(with_reducible repeat(first|apply Kd.BV|apply Kd.BN|apply Kd.BI));exact Kd.AV a0.out (fun _ hk=>⟨hk.1.1,hk.2⟩)) hg hat)).2.1)));have d9:=ak (ho);clear a0 HB HR399 q1;have a0:=a9;have HB:=b0;have HR399:=d0;have q2:=d9;clear a9 b0 d0 d9 ho hb hg hat;refine hK.out _ _ ⟨((HB.out.cell (World.block_lt_of_cell? w _ b5)).trans b5),((HB.out.cell (World.block_lt_of_cell? w _ b6)).trans b6)⟩ (fun hHeld=>?_);clear hK K;refine nz 75 ?_;refine oz 15 83 (fun K hK=>?_);refine Kd.BG (Kd.int .i64) (w0:=w) w.heap.size (by rfl) (.tmp 75) (.tmp 82) 47 3 (.int .i64 0) 8 rfl Try.underlying47 BT rfl (by decide) (by omega) C3 d1 ((AD l0 a1).drop ((b7):Int).toNat) _ _ _ (fun k_=>(w.heap.size<=k_)/\some k_≠(.slice (some a3) t391.length b8:Value).ownBlock) (fun _=>False) rfl rfl ?aO ?aR (fun _ _ h=>h) (fun _ h=>h.elim) ?aF ?aB ?aS ?aL ?_
      (case aR=>first|(rw[<-show((AD l0 a1).drop ((b7):Int).toNat).length=((AD l0 a1).length-(b7).toNat)from List.length_drop];(repeat(first|exact(Kd.AM h5.out HB.out)|(with_reducible refine Kd.Az ?_ _)|(with_reducible refine Kd.Ao ?_ _)|(with_reducible refine Kd.BL ?_)));done)|(refine(congrArg (fun n_=>CS _ _ _ _ n_ _) (show((AD l0 a1).drop ((b7):Int).toNat).length=((AD l0 a1).length-(b7).toNat)from List.length_drop)).mp ?_;(repeat(first|exact(Kd.AM h5.out HB.out)|(with_reducible refine Kd.Az ?_ _)|(with_reducible refine Kd.Ao ?_ _)|(with_reducible refine Kd.BL ?_)));done)|(repeat(first|exact(Kd.AM h5.out HB.out)|(with_reducible refine Kd.Az ?_ _)|(with_reducible refine Kd.Ao ?_ _)|(with_reducible refine Kd.BL ?_))))
      (case aB=>exact z0)
      (case aF=>exact(fun k_ hk=>⟨(Nat.le_trans (AA z0) hk),Kd.CN (Kd.Ce (zr a0.out)) k_ hk⟩))
      (case aO=>exact(zr q2.out))
      (case aS=>exact(AA z0))
      (case aL=>have:=x3.out;have hlx_:=(show((AD l0 a1).drop ((b7):Int).toNat).length=((AD l0 a1).length-(b7).toNat)from List.length_drop);omega)
      intro H5 E7 ho hb hg hat;rw[<-x4.out]at ho;have a9:=ak (Kd.BO (ok:=(fun k_=>(w.heap.size<=k_))) (zr a0.out) hg hat);have b0:=ak (hb);have d0:=ak ((show Kd.C (Kd.int .i64) E7 p5 a7.length a7 from by rw[d8.out,n3.out];exact Kd.ET (m:=2) (c:=b8) ((Kd.AN (Kd.BO (ok:=(fun k_=>(w.heap.size<=k_))) (zr a0.out) hg hat)).2.2) n4.out ((Kd.AN (Kd.BO (ok:=(fun k_=>(w.heap.size<=k_))) (zr a0.out) hg hat)).2.1)));have d9:=ak (ho);clear a0 HB HR399 q2;have a0:=a9;have HB:=b0;have HR399:=d0;have b3:=d9;clear a9 b0 d0 d9 ho hb hg hat;refine hK.out _ _ ⟨((HB.out.cell (World.block_lt_of_cell? w _ b5)).trans b5),((HB.out.cell (World.block_lt_of_cell? w _ b6)).trans b6)⟩ (fun hHeld=>?_);clear hK K;refine nz 83 ?_;refine pz 16 9 ?_;refine Ea (DI HT_.out (by kernel_rfl)) ?_
      try go_wp2_with (first|((with_reducible refine Ar (N:=87) rfl ?_);(try(refine BR (by rfl) ?_;dsimp only));refine Kd.DS (Kd.int .i64) _ 3 ?hg (N:=87) ?hd (xs:=([]:List Int)) (inner:=[]) (ok:=fun _=>True) (okp:=fun _=>True) ?hr ?hp (fun _ hk=>hk) trivial (Below.refl _ _) (Nat.le_refl _) (by simp) ?_;(case hd=>rfl);(case hg=>rfl);(case hr=>first|(go_simp;done)|(go_simp;rfl));(case hp=>exact(Av.none _ _));intro C4 J5 f8 hb hg_ hnew_;clear hg_ hnew_;(first|rw[<-o8.out]at f8|(simp only[Int.reduceToNat]at f8;rw[<-o8.out]at f8));have q4:=ak (Kd.BA (Kd.DJ (Kd.DJ (Kd.DX (M:=fun k_=>(w.heap.size<=k_)) f8 (AA z0) (fun k_ h_=>h_)) (Kd.Ce (zr a0.out))) (Kd.Ce (zr b3.out))) (AA z0));replace a0:=ak (Kd.CP (zr a0.out) (Kd.CC f8) hb);replace b3:=ak (Kd.CP (zr b3.out) (Kd.CC f8) hb);replace HR399:=ak (Kd.AM XJ hb);replace HB:=ak (AG z0 hb);clear hb f8;obtain⟨i3,i4,C5⟩:=Kd.Al b3.out;subst C5)|((with_reducible refine Ak (b:= .append) (xs:= #[.tmp 87,.tmp 88]) rfl ?_);(try(refine BR (by rfl) ?_;dsimp only));at_builtin;refine Kd.Cv (Kd.int .i64) (w0:=w) w.heap.size rfl (.tmp 87) (.tmp 88) 47 3 (.int .i64 0) 8 rfl Try.underlying47 BT rfl (by decide) (by omega) C4 b1 a8 _ _ _ (fun k_=>(w.heap.size<=k_)/\some k_≠(.slice (some a3) t391.length b8:Value).ownBlock/\some k_≠(.slice i3 a8.length i4:Value).ownBlock) (fun _=>False) rfl rfl ?aO ?aR (fun _ _ h=>h) (fun _ h=>h.elim) ?aF ?aB ?aS ?aL ?_;(case aR=>exact zc (Kd.AN b3.out).2.2);(case aB=>exact z0);(case aF=>exact(fun k_ hk=>⟨(Nat.le_trans (AA z0) hk),Kd.CN (Kd.Ce (zr a0.out)) k_ hk,Kd.CN (Kd.Ce (zr b3.out)) k_ hk⟩));(case aO=>exact(by(with_reducible repeat(first|apply Kd.BV|apply Kd.BN|apply Kd.BI));exact Kd.AV q4.out (fun _ hk=>⟨hk.1.1.1,⟨hk.1.2,hk.2⟩⟩)));(case aS=>exact(AA z0));(case aL=>have:=x5.out;omega);intro H6 E8 ho hb hg hat;rw[<-x6.out]at ho;have a9:=ak (Kd.BO (ok:=(fun k_=>(w.heap.size<=k_)/\some k_≠(.slice i3 a8.length i4:Value).ownBlock)) (zr a0.out) hg hat);have b0:=ak (Kd.BO (ok:=(fun k_=>(w.heap.size<=k_)/\some k_≠(.slice (some a3) t391.length b8:Value).ownBlock)) (zr b3.out) hg hat);have d0:=ak (hb);have d9:=ak ((show Kd.C (Kd.int .i64) E8 p5 a7.length a7 from by rw[d8.out,n3.out];exact Kd.ET (m:=2) (c:=b8) ((Kd.AN (Kd.BO (ok:=(fun k_=>(w.heap.size<=k_)/\some k_≠(.slice i3 a8.length i4:Value).ownBlock)) (zr a0.out) hg hat)).2.2) n4.out ((Kd.AN (Kd.BO (ok:=(fun k_=>(w.heap.size<=k_)/\some k_≠(.slice i3 a8.length i4:Value).ownBlock)) (zr a0.out) hg hat)).2.1)));have A9:=ak (ho);clear a0 b3 HB HR399 q4;have a0:=a9;have b3:=b0;have HB:=d0;have HR399:=d9;have e8:=A9;clear a9 b0 d0 d9 A9 ho hb hg hat;obtain⟨v5,v6,C6⟩:=Kd.Al e8.out;subst C6)|(refine zl (some 90) Try.func54 #[.slice (some b9) l0.length c0,.int .i64 a1,.slice v5 l6.length v6] ?_;(with_reducible refine(Bp.calls e9 _ _ l0 a1 (fun k_=>some k_=(.slice v5 l6.length v6:Value).ownBlock) w.heap.size _ _ l6 t420 t423 _ ?side1 ?side2 (AA z0) ?side3 D8.out).mono ?_);(case side1=>exact zc (Kd.AM d2.out HB.out));(case side2=>exact i7.out);(case side3=>(with_reducible repeat(first|apply Kd.BV|apply Kd.BN|apply Kd.BI));exact Kd.DV rfl (e8.out));rintro e J6 ⟨H7,rfl,g0,hb⟩;refine⟨_,rfl,?_⟩;have y0:=ak (GI (Kd.Af (ok':=fun k_=>(w.heap.size<=k_)/\some k_≠(.slice (some a3) t391.length b8:Value).ownBlock/\some k_≠(.slice i3 a8.length i4:Value).ownBlock) g0 (fun k_ hk_=>⟨Or.elim hk_ (fun hs_=>((e8.out).1 k_ hs_.symm).1) (fun hn_=>(Nat.le_trans (AA z0) hn_)),Or.elim hk_ (fun hs_=>((e8.out).1 k_ hs_.symm).2.1) (fun hn_=>(Kd.CN (Kd.Ce (zr a0.out)) k_ hn_)),Or.elim hk_ (fun hs_=>((e8.out).1 k_ hs_.symm).2.2) (fun hn_=>(Kd.CN (Kd.Ce (zr b3.out)) k_ hn_))⟩)) (AA z0));replace a0:=ak (Kd.Co (zr a0.out) hb);replace b3:=ak (Kd.Co (zr b3.out) hb);replace e8:=ak (Kd.Co (zr e8.out) hb);replace HR399:=ak (Kd.AM XJ hb);replace HB:=ak (AG z0 hb)))
      go_ret2
      exact⟨_,by first|rfl|(simp[Bq,Bt]<;>rfl)|(simp only[<-f9];first|rfl|(simp[Bq,Bt]<;>rfl))|(simp[*,Bq,Bt]<;>rfl),by(with_reducible repeat(first|apply Kd.Bj|apply Kd.Bh|apply Kd.Bx));exact Kd.Af y0.out (fun _ hk=>hk.1),z0⟩
     ·
      rw[if_neg j6]at H;have x0:=decide_eq_false j6;clear j6;obtain⟨f7,m1⟩: ∃y_:List Int,y_=(([]:List Int)):=⟨_,rfl⟩;replace H:(if f7.length+a7.length<17592186044416 then((Bp.f e9 l0 a1 (f7++a7)).bind fun d7=>(some (d7.1,d7.2)))else(none))=some (r1,r2):=zy m1 H;have q5:=ak m1;clear m1;replace H:=gi H;obtain⟨B0,H⟩:=H;have y1:=ak B0;clear B0;obtain⟨m2,m3⟩: ∃y_:List Int,y_=(f7++a7):=⟨_,rfl⟩;replace H:((Bp.f e9 l0 a1 m2).bind fun d7=>(some (d7.1,d7.2)))=some (r1,r2):=zy m3 H;have y2:=ak m3;clear m3;replace H:=gb H;obtain⟨⟨t430,t433⟩,E9,H⟩:=H;dsimp only at H;simp only[Option.some.injEq,Prod.mk.injEq]at H;obtain⟨rfl,rfl⟩:=H;obtain⟨b9,f2,f3,h9,b4,e3,e4,t2,t3⟩:=al d2.out a1;cases h9;replace b4:=zx HB b4
      try go_wp2_with (first|(refine zl (some 48) Try.func69 #[.slice f2 (AD l0 a1).length f3,.int .i64 a2] ?_;(with_reducible refine(Bs.calls _ _ (AD l0 a1) a2 t391 _ ?side1 ?side2 o6.out).mono ?_);(case side1=>exact zc (Kd.AM e4.out HB.out));(case side2=>exact e3.out);rintro e F0 ⟨t4,rfl,g0,hb⟩;refine⟨_,rfl,?_⟩;have a0:=ak (Kd.BA (Kd.DX (M:=fun k_=>(w.heap.size<=k_)) g0 (AA z0) (fun k_ h_=>h_)) (AA z0));replace HB:=ak (AG z0 hb)))
      have a9:=ak (Kd.BI a0.out);have b0:=ak (Ab HB.out);clear a0 HB;have a0:=a9;have HB:=b0;clear a9 b0;obtain⟨H8,f4,v7⟩:=Kd.Al a0.out
      (first|subst v7|(injection v7 with g8 m7 g9;have m8:=g8.symm;have m9:=g9.symm;clear g8 m7 g9;subst m8;subst m9))
      have d3:0<=(0:Int):=(by omega);have d4:0<(t391.length:Int):=za;obtain⟨a3,i0,a5⟩:=Kd.Dk (Kd.AN a0.out).2.2 0 d3 d4;cases i0;have o9:(0<t391.length)=True:=eq_true (by omega)
      (try rw[show((0:Int)).toNat=0 from rfl]at a5)
      (try rw[Addr.add_zero']at a5)
      replace d3:=eq_true d3;replace d4:=eq_true d4;have d5:0<=(1:Int):=(by omega);have d6:1<(t391.length:Int):=za;obtain⟨g1,i1,a6⟩:=Kd.Dk (Kd.AN a0.out).2.2 1 d5 d6;obtain rfl:a3=g1:=(by injection i1)
      (try simp only[show(1:Int).toNat=1 from rfl,Nat.reduceMul,Nat.reduceEqDiff,Go.Addr.add,↓reduceIte]at a6)
      have p0:(1<t391.length)=True:=eq_true (by omega)
      (try rw[show((1:Int)).toNat=1 from rfl]at a6)
      replace d5:=eq_true d5;replace d6:=eq_true d6;refine Dp (n:=8) (S:=fun w'=>w'.cell? a3=some (.int .i64 (rd t391 0))/\w'.cell? ⟨a3.block,a3.off+1,none⟩=some (.int .i64 (rd t391 1))) (ds:=[]) #[false,false,false,false,false,false,false,false] (by kernel_rfl) rfl rfl ⟨a5,a6⟩ (fun hHeld=>?_);refine CY AR.Tp AR.OV (fun HT_ HW_=>?_);generalize F0.drew=J7 at a0 HB a5 a6 hHeld⊢;refine pz 0 49 ?_;refine pz 1 50 ?_;refine pz 3 52 ?_;refine pz 4 53 ?_;refine LL 2 51 hHeld ?_;refine LL 5 54 hHeld ?_;refine pz 6 55 ?_;refine pz 7 56 ?_;refine Ea (DI HT_.out (by kernel_rfl)) ?_;have v8:(2:Int)<=((t391.length:Int):Int):=za;obtain⟨i059,q6,_,q7,_⟩:=info_parts BT;have g6:t391.length<=f4:=(Kd.AN a0.out).2.1;have v9:Kd.C (Kd.int .i64) _ (some a3) t391.length t391:=(Kd.AN a0.out).2.2;have w1:=Gi (P:=Try.prog) 47 3 .i64 Try.underlying47 q6 1 q7 (some a3) t391.length f4 2 (by omega) v8;have i5:=Kd.ET (m:=(2:Int).toNat) (c:=f4) v9 (by omega) g6;obtain⟨B1,m4⟩: ∃A1,A1=(if f4=(2:Int).toNat then(some a3)else((some a3):Option Addr).map (·.add ((2:Int).toNat*1))):=⟨_,rfl⟩;obtain⟨F1,o0⟩: ∃c1,c1=f4-(2:Int).toNat:=⟨_,rfl⟩;have m5:a7.length=t391.length-(2:Int).toNat:=(by rw[d8.out,List.length_drop]<;>omega);rw[show(t391).drop (2:Int).toNat=a7 from d8.out.symm]at i5;replace i5:Kd.C (Kd.int .i64) _ B1 a7.length a7:=(by rw[m4];exact i5);rw[<-m5,<-m4,<-o0]at w1;have HR399:=ak i5;have x7:=ak (show a7.length<=F1 from by rw[m5,o0];exact Nat.sub_le_sub_right g6 _);clear i5 v9 g6 q6 q7 o0;have H9:=ak m5;have C7:=ak m4;clear m5 m4;have C8:=ak (show 2<=t391.length from by omega);replace v8:=eq_true v8;obtain⟨m0,t9,v0,n5,e5,r4,r5,B5,B7⟩:=al d2.out a1;obtain rfl:b9=m0:=(by injection n5);replace e5:=zx HB e5
      try go_wp2_with (first|((with_reducible refine Ar (N:=87) rfl ?_);(try(refine BR (by rfl) ?_;dsimp only));refine Kd.DS (Kd.int .i64) _ 3 ?hg (N:=87) ?hd (xs:=([]:List Int)) (inner:=[]) (ok:=fun _=>True) (okp:=fun _=>True) ?hr ?hp (fun _ hk=>hk) trivial (Below.refl _ _) (Nat.le_refl _) (by simp) ?_;(case hd=>rfl);(case hg=>rfl);(case hr=>first|(go_simp;done)|(go_simp;rfl));(case hp=>exact(Av.none _ _));intro C9 J8 g7 hb hg_ hnew_;clear hg_ hnew_;(first|rw[<-q5.out]at g7|(simp only[Int.reduceToNat]at g7;rw[<-q5.out]at g7));have q8:=ak (Kd.BA (Kd.DJ (Kd.DX (M:=fun k_=>(w.heap.size<=k_)) g7 (AA z0) (fun k_ h_=>h_)) (Kd.Ce (zr a0.out))) (AA z0));replace a0:=ak (Kd.CP (zr a0.out) (Kd.CC g7) hb);replace HR399:=ak (Kd.AM XJ hb);replace HB:=ak (AG z0 hb);clear hb g7)|((with_reducible refine Ak (b:= .append) (xs:= #[.tmp 87,.tmp 88]) rfl ?_);(try(refine BR (by rfl) ?_;dsimp only));at_builtin;refine Kd.Cv (Kd.int .i64) (w0:=w) w.heap.size rfl (.tmp 87) (.tmp 88) 47 3 (.int .i64 0) 8 rfl Try.underlying47 BT rfl (by decide) (by omega) C9 f7 a7 _ _ _ (fun k_=>(w.heap.size<=k_)/\some k_≠(.slice (some a3) t391.length f4:Value).ownBlock) (fun _=>False) rfl rfl ?aO ?aR (fun _ _ h=>h) (fun _ h=>h.elim) ?aF ?aB ?aS ?aL ?_;(case aR=>repeat(first|exact XJ|(with_reducible refine Kd.Az ?_ _)|(with_reducible refine Kd.Ao ?_ _)|(with_reducible refine Kd.BL ?_)));(case aB=>exact z0);(case aF=>exact(fun k_ hk=>⟨(Nat.le_trans (AA z0) hk),Kd.CN (Kd.Ce (zr a0.out)) k_ hk⟩));(case aO=>exact(by(with_reducible repeat(first|apply Kd.BV|apply Kd.BN|apply Kd.BI));exact Kd.AV q8.out (fun _ hk=>⟨hk.1.1,hk.2⟩)));(case aS=>exact(AA z0));(case aL=>have:=y1.out;omega);intro I0 F2 ho hb hg hat;rw[<-y2.out]at ho;have a9:=ak (Kd.BO (ok:=(fun k_=>(w.heap.size<=k_))) (by(with_reducible repeat(first|apply Kd.BV|apply Kd.BN|apply Kd.BI));exact Kd.AV a0.out (fun _ hk=>⟨hk.1.1,hk.2⟩)) hg hat);have b0:=ak (hb);have d0:=ak ((show Kd.C (Kd.int .i64) F2 B1 a7.length a7 from by rw[d8.out,C7.out];exact Kd.ET (m:=2) (c:=f4) ((Kd.AN (Kd.BO (ok:=(fun k_=>(w.heap.size<=k_))) (by(with_reducible repeat(first|apply Kd.BV|apply Kd.BN|apply Kd.BI));exact Kd.AV a0.out (fun _ hk=>⟨hk.1.1,hk.2⟩)) hg hat)).2.2) C8.out ((Kd.AN (Kd.BO (ok:=(fun k_=>(w.heap.size<=k_))) (by(with_reducible repeat(first|apply Kd.BV|apply Kd.BN|apply Kd.BI));exact Kd.AV a0.out (fun _ hk=>⟨hk.1.1,hk.2⟩)) hg hat)).2.1)));have d9:=ak (ho);clear a0 HB HR399 q8;have a0:=a9;have HB:=b0;have HR399:=d0;have f5:=d9;clear a9 b0 d0 d9 ho hb hg hat;obtain⟨w2,w3,D0⟩:=Kd.Al f5.out;subst D0)|(refine zl (some 90) Try.func54 #[.slice (some b9) l0.length c0,.int .i64 a1,.slice w2 m2.length w3] ?_;(with_reducible refine(Bp.calls e9 _ _ l0 a1 (fun k_=>some k_=(.slice w2 m2.length w3:Value).ownBlock) w.heap.size _ _ m2 t430 t433 _ ?side1 ?side2 (AA z0) ?side3 E9.out).mono ?_);(case side1=>exact zc (Kd.AM d2.out HB.out));(case side2=>exact i7.out);(case side3=>(with_reducible repeat(first|apply Kd.BV|apply Kd.BN|apply Kd.BI));exact Kd.DV rfl (f5.out));rintro e Fa ⟨I1,rfl,g0,hb⟩;refine⟨_,rfl,?_⟩;have y3:=ak (GI (Kd.Af (ok':=fun k_=>(w.heap.size<=k_)/\some k_≠(.slice (some a3) t391.length f4:Value).ownBlock) g0 (fun k_ hk_=>⟨Or.elim hk_ (fun hs_=>((f5.out).1 k_ hs_.symm).1) (fun hn_=>(Nat.le_trans (AA z0) hn_)),Or.elim hk_ (fun hs_=>((f5.out).1 k_ hs_.symm).2) (fun hn_=>(Kd.CN (Kd.Ce (zr a0.out)) k_ hn_))⟩)) (AA z0));replace a0:=ak (Kd.Co (zr a0.out) hb);replace f5:=ak (Kd.Co (zr f5.out) hb);replace HR399:=ak (Kd.AM XJ hb);replace HB:=ak (AG z0 hb)))
      go_ret2
      exact⟨_,ze,by(with_reducible repeat(first|apply Kd.Bj|apply Kd.Bh|apply Kd.Bx));exact Kd.Af y3.out (fun _ hk=>hk.1),z0⟩
    ·
     rw[if_neg h8]at H;have w8:((rd t391 0)==(wrap64 (-(rd t391 1))))=false:=beq_eq_false_iff_ne.mpr h8;have w9:((rd t391 0) != (wrap64 (-(rd t391 1))))=true:=bne_iff_ne.mpr h8;obtain⟨D1,m6⟩: ∃y_:List (List Int),y_=(([]:List (List Int))):=⟨_,rfl⟩;replace H:(some (D1,false))=some (r1,r2):=zy m6 H;have q9:=ak m6;clear m6;simp only[Option.some.injEq,Prod.mk.injEq]at H;obtain⟨rfl,rfl⟩:=H;obtain⟨b9,f2,f3,h9,b4,e3,e4,t2,t3⟩:=al d2.out a1;cases h9;replace b4:=zx HB b4
     try go_wp2_with (first|(refine zl (some 48) Try.func69 #[.slice f2 (AD l0 a1).length f3,.int .i64 a2] ?_;(with_reducible refine(Bs.calls _ _ (AD l0 a1) a2 t391 _ ?side1 ?side2 o6.out).mono ?_);(case side1=>exact zc (Kd.AM e4.out HB.out));(case side2=>exact e3.out);rintro e F3 ⟨t4,rfl,g0,hb⟩;refine⟨_,rfl,?_⟩;have a0:=ak (Kd.BA (Kd.DX (M:=fun k_=>(w.heap.size<=k_)) g0 (AA z0) (fun k_ h_=>h_)) (AA z0));replace HB:=ak (AG z0 hb)))
     have a9:=ak (Kd.BI a0.out);have b0:=ak (Ab HB.out);clear a0 HB;have a0:=a9;have HB:=b0;clear a9 b0;obtain⟨I2,I3,w4⟩:=Kd.Al a0.out
     (first|subst w4|(injection w4 with g8 m7 g9;have m8:=g8.symm;have m9:=g9.symm;clear g8 m7 g9;subst m8;subst m9))
     have d3:0<=(0:Int):=(by omega);have d4:0<(t391.length:Int):=za;obtain⟨a3,i0,a5⟩:=Kd.Dk (Kd.AN a0.out).2.2 0 d3 d4;cases i0;have o9:(0<t391.length)=True:=eq_true (by omega)
     (try rw[show((0:Int)).toNat=0 from rfl]at a5)
     (try rw[Addr.add_zero']at a5)
     replace d3:=eq_true d3;replace d4:=eq_true d4;have d5:0<=(1:Int):=(by omega);have d6:1<(t391.length:Int):=za;obtain⟨g1,i1,a6⟩:=Kd.Dk (Kd.AN a0.out).2.2 1 d5 d6;obtain rfl:a3=g1:=(by injection i1)
     (try simp only[show(1:Int).toNat=1 from rfl,Nat.reduceMul,Nat.reduceEqDiff,Go.Addr.add,↓reduceIte]at a6)
     have p0:(1<t391.length)=True:=eq_true (by omega)
     (try rw[show((1:Int)).toNat=1 from rfl]at a6)
     replace d5:=eq_true d5;replace d6:=eq_true d6;refine Dp (n:=8) (S:=fun w'=>w'.cell? a3=some (.int .i64 (rd t391 0))/\w'.cell? ⟨a3.block,a3.off+1,none⟩=some (.int .i64 (rd t391 1))) (ds:=[]) #[false,false,false,false,false,false,false,false] (by kernel_rfl) rfl rfl ⟨a5,a6⟩ (fun hHeld=>?_);refine CY AR.Tp AR.OV (fun HT_ HW_=>?_);generalize F3.drew=J9 at a0 HB a5 a6 hHeld⊢;refine pz 0 49 ?_;refine pz 1 50 ?_;refine pz 3 52 ?_;refine pz 4 53 ?_;refine LL 2 51 hHeld ?_;refine LL 5 54 hHeld ?_;refine pz 6 55 ?_;refine pz 7 56 ?_;refine Ea (DI HT_.out (by kernel_rfl)) ?_
     try go_wp2_with (first|((with_reducible refine Ar (N:=57) rfl ?_);(try(refine BR (by rfl) ?_;dsimp only));refine Kd.FO (Kd.slice 3 (Kd.int .i64)) _ 47 ?hg (N:=57) ?hd (xs:=([]:List (List Int))) (inner:=[]) (ok:=fun _=>True) (okp:=fun _=>True) ?hr ?hp (fun _ hk=>hk) trivial (Below.refl _ _) (Nat.le_refl _) (by simp) ?_;(case hd=>rfl);(case hg=>rfl);(case hr=>first|(go_simp;done)|(go_simp;rfl));(case hp=>exact(Av.none _ _));intro I4 K0 i6 hb hg_ hnew_;clear hg_ hnew_;(first|rw[<-q9.out]at i6|(simp only[Int.reduceToNat]at i6;rw[<-q9.out]at i6));have y4:=ak (Kd.BS (Kd.Hi (Kd.EM (M:=fun k_=>(w.heap.size<=k_)) i6 (AA z0) (fun k_ h_=>h_)) (Kd.Ce (zr a0.out))) (AA z0));replace a0:=ak (Kd.Co (zr a0.out) hb);replace HB:=ak (AG z0 hb);clear hb i6))
     go_ret2
     exact⟨_,ze,EH (by(with_reducible repeat(first|apply Kd.Bj|apply Kd.Bh|apply Kd.Bx));exact Kd.Af y4.out (fun _ hk=>hk.1.1)),z0⟩
end Go.Proofs.Ytlnddmkkgjlmbaa.QFnMoves
namespace Go.Proofs.Ytlnddmkkgjlmbaa.QFnMoves
open Go.Proofs.Ytlnddmkkgjlmbaa.Zip Go.RowKit Go.Proofs.YtlnddmkkgjlmbaaW.PrintWords Go.Proofs.YtlnddmkkgjlmbaaW.PrintLast Go.Proofs.YtlnddmkkgjlmbaaW.PrintMore
attribute [local go_sem] CD CF CW CV Bl Bk CE CG
set_option linter.unusedVariables false
set_option linter.unusedSimpArgs false
set_option maxHeartbeats 8000000
set_option maxRecDepth 100000
mutual
def Ac.j0:Nat->List (List Int)->Int->Int->Bool->Option ((List (List Int))×Bool)
 |0,_,_,_,_=>none
 |k+1,x0,x1,x2,a0=>if a0=true then(some (([]:List (List Int)),false))else(if 0<=x1 then(if x1<(x0.length:Int)then(if((AD x0 x1).length:Int)=0 then(none)else(if 0<=x2 then(if x2<((AD x0 x1).length:Int)then(if 0<=(Int.tmod (wrap64 (x2+1)) ((AD x0 x1).length:Int))then(if(Int.tmod (wrap64 (x2+1)) ((AD x0 x1).length:Int))<((AD x0 x1).length:Int)then(if(rd (AD x0 x1) x2)=(wrap64 (-(rd (AD x0 x1) (Int.tmod (wrap64 (x2+1)) ((AD x0 x1).length:Int)))))then((Aw.f k x0).bind fun t446=>(Ac.l0 k x1 x2 (Int.tmod (wrap64 (x2+1)) ((AD x0 x1).length:Int)) t446 (([]:List Int)) (AD x0 x1) ((AD x0 x1).length:Int) 0))else(some (([]:List (List Int)),false)))else(none))else(none))else(none))else(none)))else(none))else(none))
def Ac.l0:Nat->Int->Int->Int->List (List Int)->List Int->List Int->Int->Int->Option ((List (List Int))×Bool)
 |0,_,_,_,_,_,_,_,_=>none
 |k+1,x1,x2,x8,x9,a1,a2,a3,a0=>if a0<a3 then(if 0<=a0 then(if a0<(a2.length:Int)then(if a0=x2 then(Ac.l0 k x1 x2 x8 x9 a1 a2 a3 (wrap64 (a0+1)))else(if a0=x8 then(Ac.l0 k x1 x2 x8 x9 a1 a2 a3 (wrap64 (a0+1)))else(if a1.length<17592186044416 then(Ac.l0 k x1 x2 x8 x9 (a1++[rd a2 a0]) a2 a3 (wrap64 (a0+1)))else(none))))else(none))else(none))else(if 0<=x1 then(if x1<(x9.length:Int)then((BX.f k (x9.set (x1:Int).toNat a1)).bind fun a4=>(some (a4.1,a4.2)))else(none))else(none))
end
def Ac.f (k:Nat) (l0:List (List Int)) (a1 a2:Int):Option ((List (List Int))×Bool):=(Ap.f k l0 a1).bind fun t437=>(if t437=true then(if 0<=a1 then(if a1<(l0.length:Int)then((Bd.f a2 0 (wrap64 (((AD l0 a1).length:Int)-1))).bind fun t439=>(if t439=true then(Ac.j0 k l0 a1 a2 (decide (((AD l0 a1).length:Int)<3)))else(Ac.j0 k l0 a1 a2 true)))else(none))else(none))else(Ac.j0 k l0 a1 a2 true))
theorem Ac.calls (k:Nat) (A0:Option Addr) (c0:Nat) (l0:List (List Int)) (a1 a2:Int) (r1:List (List Int)) (r2:Bool) (w:World) (w3:Kd.C (Kd.slice 3 (Kd.int .i64)) w A0 l0.length l0) (w4:l0.length<=c0) (h:Ac.f k l0 a1 a2=some (r1,r2)):
 Calls Try.prog 28 #[.slice A0 l0.length c0,.int .i64 a1,.int .i64 a2] w fun e w'=> ∃w5:Value,e= .returned (.tuple #[w5,.bool r2])/\Kd.S (Kd.slice 3 (Kd.int .i64)) 47 w' w.heap.size (fun k_=>(w.heap.size<=k_)) w5 r1/\Below w.heap.size w w':=by
 have b0:=ak w3;have f6:=ak w4;clear w3 w4;have HB:=ak (Below.refl w.heap.size w);have H:=h;clear h;unfold Ac.f at H;have o3:=ak H;clear H
 go_enter Try.func28,Try.ntmps28
 go_upto_region 1 with(fail)
 repeat(go_quiet (fail);go_upto_region 1 with(fail))
 go_cut [35] (fun y0 wc=> ∃(kq:Nat) (h6:Bool),y0= .bool h6/\AJ (Ac.j0 kq l0 a1 a2 h6=some (r1,r2))/\AJ (kq<=k)/\AJ (Below w.heap.size w wc))
 case first=>
  have H:=o3.out;clear o3;replace H:=gb H;obtain⟨t437,A5,H⟩:=H
  by_cases c6:t437=true
  ·
   subst c6;rw[if_pos rfl]at H;replace H:=gi H;obtain⟨c7,H⟩:=H;have j7:=decide_eq_true c7;clear c7
   (first|rw[j7]|(simp only[Dg,Ep];rw[j7])|skip)
   replace H:=gi H;obtain⟨c8,H⟩:=H;have o4:=decide_eq_true c8;clear c8;replace H:=gb H;obtain⟨t439,A9,H⟩:=H
   by_cases Du:t439=true
   ·
    subst Du;rw[if_pos rfl]at H;have H':=ak H;clear H
    go_wp2_with (first|(go_at_call 57;(with_reducible refine(Ap.calls k _ _ l0 a1 true _ ?side1 ?side2 A5.out).mono ?_);(case side1=>exact zc (Kd.AM b0.out HB.out));(case side2=>exact f6.out);rintro e w6 ⟨rfl,hb⟩;replace HB:=ak (AG z0 hb);have a7:0<=(a1:Int):=za;have a8:a1<(l0.length:Int):=za;obtain⟨e9,f7,f8,e6,a0,a4,a5⟩:=Cl b0.out a1 a7 a8;cases e6;replace a0:=(HB.out.cell (World.block_lt_of_cell? w _ a0)).trans a0;have f2:=ak a5;have f3:=ak a4;clear a5 a4;replace a7:=eq_true a7;replace a8:=eq_true a8)|(go_at_call 73;(with_reducible refine(Bd.calls a2 0 (wrap64 (((AD l0 a1).length:Int)-1)) true _ A9.out).mono ?_);rintro e w' ⟨rfl,⟨nd,rfl⟩⟩;(try first|exact⟨rfl,_,World.drewN_drewN _ _ _⟩|exact⟨rfl,_,Eq.trans (World.drewN_drewN _ _ _) (congrArg (World.drewN _) (Nat.add_assoc _ _ _))⟩);have d9:0<=(a1:Int):=za;have e0:a1<(l0.length:Int):=za;obtain⟨g5,l9,m0,h8,a6,d0,d1⟩:=Cl b0.out a1 d9 e0;obtain rfl:e9=g5:=(by injection h8);replace a6:=(HB.out.cell (World.block_lt_of_cell? w _ a6)).trans a6;have i5:=ak d1;have i6:=ak d0;clear d1 d0;replace d9:=eq_true d9;replace e0:=eq_true e0;have ea_:=Option.some.inj (a0.symm.trans a6);injection ea_ with ea_ en_ ec_;subst ea_;subst ec_;clear en_))
    repeat(go_quiet (first|(go_at_call 57;(with_reducible refine(Ap.calls k _ _ l0 a1 true _ ?side1 ?side2 A5.out).mono ?_);(case side1=>exact zc (Kd.AM b0.out HB.out));(case side2=>exact f6.out);rintro e w6 ⟨rfl,hb⟩;replace HB:=ak (AG z0 hb);have a7:0<=(a1:Int):=za;have a8:a1<(l0.length:Int):=za;obtain⟨e9,f7,f8,e6,a0,a4,a5⟩:=Cl b0.out a1 a7 a8;cases e6;replace a0:=(HB.out.cell (World.block_lt_of_cell? w _ a0)).trans a0;have f2:=ak a5;have f3:=ak a4;clear a5 a4;replace a7:=eq_true a7;replace a8:=eq_true a8)|(go_at_call 73;(with_reducible refine(Bd.calls a2 0 (wrap64 (((AD l0 a1).length:Int)-1)) true _ A9.out).mono ?_);rintro e w' ⟨rfl,⟨nd,rfl⟩⟩;(try first|exact⟨rfl,_,World.drewN_drewN _ _ _⟩|exact⟨rfl,_,Eq.trans (World.drewN_drewN _ _ _) (congrArg (World.drewN _) (Nat.add_assoc _ _ _))⟩);have d9:0<=(a1:Int):=za;have e0:a1<(l0.length:Int):=za;obtain⟨g5,l9,m0,h8,a6,d0,d1⟩:=Cl b0.out a1 d9 e0;obtain rfl:e9=g5:=(by injection h8);replace a6:=(HB.out.cell (World.block_lt_of_cell? w _ a6)).trans a6;have i5:=ak d1;have i6:=ak d0;clear d1 d0;replace d9:=eq_true d9;replace e0:=eq_true e0;have ea_:=Option.some.inj (a0.symm.trans a6);injection ea_ with ea_ en_ ec_;subst ea_;subst ec_;clear en_));try go_wp2_with (first|(go_at_call 57;(with_reducible refine(Ap.calls k _ _ l0 a1 true _ ?side1 ?side2 A5.out).mono ?_);(case side1=>exact zc (Kd.AM b0.out HB.out));(case side2=>exact f6.out);rintro e w6 ⟨rfl,hb⟩;replace HB:=ak (AG z0 hb);have a7:0<=(a1:Int):=za;have a8:a1<(l0.length:Int):=za;obtain⟨e9,f7,f8,e6,a0,a4,a5⟩:=Cl b0.out a1 a7 a8;cases e6;replace a0:=(HB.out.cell (World.block_lt_of_cell? w _ a0)).trans a0;have f2:=ak a5;have f3:=ak a4;clear a5 a4;replace a7:=eq_true a7;replace a8:=eq_true a8)|(go_at_call 73;(with_reducible refine(Bd.calls a2 0 (wrap64 (((AD l0 a1).length:Int)-1)) true _ A9.out).mono ?_);rintro e w' ⟨rfl,⟨nd,rfl⟩⟩;(try first|exact⟨rfl,_,World.drewN_drewN _ _ _⟩|exact⟨rfl,_,Eq.trans (World.drewN_drewN _ _ _) (congrArg (World.drewN _) (Nat.add_assoc _ _ _))⟩);have d9:0<=(a1:Int):=za;have e0:a1<(l0.length:Int):=za;obtain⟨g5,l9,m0,h8,a6,d0,d1⟩:=Cl b0.out a1 d9 e0;obtain rfl:e9=g5:=(by injection h8);replace a6:=(HB.out.cell (World.block_lt_of_cell? w _ a6)).trans a6;have i5:=ak d1;have i6:=ak d0;clear d1 d0;replace d9:=eq_true d9;replace e0:=eq_true e0;have ea_:=Option.some.inj (a0.symm.trans a6);injection ea_ with ea_ en_ ec_;subst ea_;subst ec_;clear en_)))
    go_meet
    case rel=>exact⟨_,(decide (((AD l0 a1).length:Int)<3)),zd,H',⟨by first|omega|exact Nat.le_refl _⟩,⟨z0⟩⟩
   ·
    replace Du:=Bool.eq_false_iff.mpr Du;subst Du;rw[if_neg (show¬(false=true) by decide)]at H;have H':=ak H;clear H
    go_wp2_with (first|(go_at_call 57;(with_reducible refine(Ap.calls k _ _ l0 a1 true _ ?side1 ?side2 A5.out).mono ?_);(case side1=>exact zc (Kd.AM b0.out HB.out));(case side2=>exact f6.out);rintro e w7 ⟨rfl,hb⟩;replace HB:=ak (AG z0 hb);have a7:0<=(a1:Int):=za;have a8:a1<(l0.length:Int):=za;obtain⟨e9,f7,f8,e6,a0,a4,a5⟩:=Cl b0.out a1 a7 a8;cases e6;replace a0:=(HB.out.cell (World.block_lt_of_cell? w _ a0)).trans a0;have f2:=ak a5;have f3:=ak a4;clear a5 a4;replace a7:=eq_true a7;replace a8:=eq_true a8)|(go_at_call 73;(with_reducible refine(Bd.calls a2 0 (wrap64 (((AD l0 a1).length:Int)-1)) false _ A9.out).mono ?_);rintro e w' ⟨rfl,⟨nd,rfl⟩⟩;(try first|exact⟨rfl,_,World.drewN_drewN _ _ _⟩|exact⟨rfl,_,Eq.trans (World.drewN_drewN _ _ _) (congrArg (World.drewN _) (Nat.add_assoc _ _ _))⟩)))
    repeat(go_quiet (first|(go_at_call 57;(with_reducible refine(Ap.calls k _ _ l0 a1 true _ ?side1 ?side2 A5.out).mono ?_);(case side1=>exact zc (Kd.AM b0.out HB.out));(case side2=>exact f6.out);rintro e w7 ⟨rfl,hb⟩;replace HB:=ak (AG z0 hb);have a7:0<=(a1:Int):=za;have a8:a1<(l0.length:Int):=za;obtain⟨e9,f7,f8,e6,a0,a4,a5⟩:=Cl b0.out a1 a7 a8;cases e6;replace a0:=(HB.out.cell (World.block_lt_of_cell? w _ a0)).trans a0;have f2:=ak a5;have f3:=ak a4;clear a5 a4;replace a7:=eq_true a7;replace a8:=eq_true a8)|(go_at_call 73;(with_reducible refine(Bd.calls a2 0 (wrap64 (((AD l0 a1).length:Int)-1)) false _ A9.out).mono ?_);rintro e w' ⟨rfl,⟨nd,rfl⟩⟩;(try first|exact⟨rfl,_,World.drewN_drewN _ _ _⟩|exact⟨rfl,_,Eq.trans (World.drewN_drewN _ _ _) (congrArg (World.drewN _) (Nat.add_assoc _ _ _))⟩)));try go_wp2_with (first|(go_at_call 57;(with_reducible refine(Ap.calls k _ _ l0 a1 true _ ?side1 ?side2 A5.out).mono ?_);(case side1=>exact zc (Kd.AM b0.out HB.out));(case side2=>exact f6.out);rintro e w7 ⟨rfl,hb⟩;replace HB:=ak (AG z0 hb);have a7:0<=(a1:Int):=za;have a8:a1<(l0.length:Int):=za;obtain⟨e9,f7,f8,e6,a0,a4,a5⟩:=Cl b0.out a1 a7 a8;cases e6;replace a0:=(HB.out.cell (World.block_lt_of_cell? w _ a0)).trans a0;have f2:=ak a5;have f3:=ak a4;clear a5 a4;replace a7:=eq_true a7;replace a8:=eq_true a8)|(go_at_call 73;(with_reducible refine(Bd.calls a2 0 (wrap64 (((AD l0 a1).length:Int)-1)) false _ A9.out).mono ?_);rintro e w' ⟨rfl,⟨nd,rfl⟩⟩;(try first|exact⟨rfl,_,World.drewN_drewN _ _ _⟩|exact⟨rfl,_,Eq.trans (World.drewN_drewN _ _ _) (congrArg (World.drewN _) (Nat.add_assoc _ _ _))⟩))))
    go_meet
    case rel=>exact⟨_,(true),zd,H',⟨by first|omega|exact Nat.le_refl _⟩,⟨z0⟩⟩
  ·
   replace c6:=Bool.eq_false_iff.mpr c6;subst c6;rw[if_neg (show¬(false=true) by decide)]at H;have H':=ak H;clear H
   go_wp2_with (first|(go_at_call 57;(with_reducible refine(Ap.calls k _ _ l0 a1 false _ ?side1 ?side2 A5.out).mono ?_);(case side1=>exact zc (Kd.AM b0.out HB.out));(case side2=>exact f6.out);rintro e w8 ⟨rfl,hb⟩;replace HB:=ak (AG z0 hb)))
   repeat(go_quiet (first|(go_at_call 57;(with_reducible refine(Ap.calls k _ _ l0 a1 false _ ?side1 ?side2 A5.out).mono ?_);(case side1=>exact zc (Kd.AM b0.out HB.out));(case side2=>exact f6.out);rintro e w8 ⟨rfl,hb⟩;replace HB:=ak (AG z0 hb)));try go_wp2_with (first|(go_at_call 57;(with_reducible refine(Ap.calls k _ _ l0 a1 false _ ?side1 ?side2 A5.out).mono ?_);(case side1=>exact zc (Kd.AM b0.out HB.out));(case side2=>exact f6.out);rintro e w8 ⟨rfl,hb⟩;replace HB:=ak (AG z0 hb))))
   go_meet
   case rel=>exact⟨_,(true),zd,H',⟨by first|omega|exact Nat.le_refl _⟩,⟨z0⟩⟩
 case rest=>
  clear o3;obtain⟨kq,h6,rfl,HA,i7,HB⟩:=hcut
  cases kq with
  |zero=>exact absurd HA.out (by simp[Ac.j0])
  |succ h3=>
   have H:=HA.out;clear HA;simp only[Ac.j0]at H
   by_cases m1:h6=true
   ·
    subst m1;rw[if_pos rfl]at H;simp only[Option.some.injEq,Prod.mk.injEq]at H;obtain⟨rfl,rfl⟩:=H
    go_wp2
    repeat(go_quiet (fail);try go_wp2)
    go_ret2
    exact⟨_,ze,EH (by first|exact Kd.Eg _ _ _ _ _|exact Kd.Ii _ _ _ _ _|exact Kd.Eg _ _ _ _ _|exact Kd.Iy _ _ _ _ _|exact Kd.Gn _ _ _ _ _),z0⟩
   ·
    replace m1:=Bool.eq_false_iff.mpr m1;subst m1;rw[if_neg (show¬(false=true) by decide)]at H;replace H:=gi H;obtain⟨o5,H⟩:=H;have t6:=decide_eq_true o5;clear o5;replace H:=gi H;obtain⟨o6,H⟩:=H;have t7:=decide_eq_true o6;clear o6;replace H:=gn H;obtain⟨n2,H⟩:=H;have t8:(((AD l0 a1).length:Int)==0)=false:=beq_eq_false_iff_ne.mpr n2;have t9:(((AD l0 a1).length:Int) != 0)=true:=bne_iff_ne.mpr n2
    have v0: ¬((AD l0 a1)=[]):=fun h_=>n2 (by rw[h_];rfl)
    replace H:=gi H;obtain⟨o7,H⟩:=H;have v1:=decide_eq_true o7;clear o7;replace H:=gi H;obtain⟨o8,H⟩:=H;have v2:=decide_eq_true o8;clear o8;obtain⟨b5,h7⟩: ∃j_:Int,(Int.tmod (wrap64 (a2+1)) ((AD l0 a1).length:Int))=j_:=⟨_,rfl⟩
    replace H:(if 0<=(b5)then(if(b5)<((AD l0 a1).length:Int)then(if(rd (AD l0 a1) a2)=(wrap64 (-(rd (AD l0 a1) (b5))))then((Aw.f h3 l0).bind fun t446=>(Ac.l0 h3 a1 a2 b5 t446 (([]:List Int)) (AD l0 a1) ((AD l0 a1).length:Int) 0))else(some (([]:List (List Int)),false)))else(none))else(none))=some (r1,r2):=by first|(rw[h7]at H;exact H)|(simp only[h7]at H⊢;exact H)
    replace H:=gi H;obtain⟨o9,H⟩:=H;have v3:=decide_eq_true o9;clear o9;replace H:=gi H;obtain⟨p0,H⟩:=H;have v4:=decide_eq_true p0;clear p0
    by_cases h4:(rd (AD l0 a1) a2)=(wrap64 (-(rd (AD l0 a1) (b5))))
    ·
     rw[if_pos h4]at H;have n3:((rd (AD l0 a1) a2)==(wrap64 (-(rd (AD l0 a1) (b5)))))=true:=beq_iff_eq.mpr h4;have n4:((rd (AD l0 a1) a2) != (wrap64 (-(rd (AD l0 a1) (b5)))))=false:=bne_eq_false_iff_eq.mpr h4;clear h4;replace H:=gb H;obtain⟨t446,p1,H⟩:=H;obtain⟨p3,j8⟩: ∃y_:List Int,y_=(([]:List Int)):=⟨_,rfl⟩;replace H:(Ac.l0 h3 a1 a2 b5 t446 p3 (AD l0 a1) ((AD l0 a1).length:Int) 0)=some (r1,r2):=zy j8 H;have g3:=ak j8;clear j8;have H':=ak H;clear H;obtain⟨f0,p5,p7,m4,b6,n9,o0,p8,p9⟩:=al b0.out a1;cases m4;replace b6:=zx HB b6;obtain⟨j9,q0,q1,m5,d2,o1,g8,q2,q3⟩:=al b0.out a1;obtain rfl:f0=j9:=(by injection m5);replace d2:=zx HB d2;have ea_:=Option.some.inj (b6.symm.trans d2)
     injection ea_ with ea_ en_ ec_
     subst ea_;subst ec_;clear en_;obtain⟨k0,m6,e4,q5,q6⟩:=ai g8.out a2;cases m6;replace e4:=zx HB e4;obtain⟨k1,q7,q8,m7,d3,o2,g9,q9,r0⟩:=al b0.out a1;obtain rfl:f0=k1:=(by injection m7);replace d3:=zx HB d3;have ea_:=Option.some.inj (b6.symm.trans d3)
     injection ea_ with ea_ en_ ec_
     subst ea_;subst ec_;clear en_;obtain⟨k3,m8,e5,r3,r4⟩:=ai g9.out (b5);obtain rfl:k0=k3:=(by injection m8);replace e5:=zx HB e5
     go_wp2_with (first|(go_at_call 58;(with_reducible refine(Aw.calls h3 _ _ l0 t446 _ ?side1 ?side2 p1.out).mono ?_);(case side1=>exact zc (Kd.AM b0.out HB.out));(case side2=>exact f6.out);rintro e w9 ⟨m9,rfl,f9,hb⟩;have e3:=ak (Kd.BS (Kd.EM (M:=fun k_=>(w.heap.size<=k_)) f9 (AA z0) (fun k_ h_=>h_)) (AA z0));replace HB:=ak (AG z0 hb))|((with_reducible refine Ar (N:=62) rfl ?_);(try(refine BR (by rfl) ?_;dsimp only));refine Kd.DS (Kd.int .i64) _ 3 ?hg (N:=62) ?hd (xs:=([]:List Int)) (inner:=[]) (ok:=fun _=>True) (okp:=fun _=>True) ?hr ?hp (fun _ hk=>hk) trivial (Below.refl _ _) (Nat.le_refl _) (by simp) ?_;(case hd=>rfl);(case hg=>rfl);(case hr=>first|(go_simp;done)|(go_simp;rfl));(case hp=>exact(Av.none _ _));intro r5 x0 b2 hb hg_ hnew_;clear hg_ hnew_;(first|rw[<-g3.out]at b2|(simp only[Int.reduceToNat]at b2;rw[<-g3.out]at b2));replace e3:=ak (Kd.Cq (zs e3.out) (Kd.CC b2) hb);have k4:=ak (Kd.BA (Kd.DX (M:=fun k_=>(w.heap.size<=k_)) b2 (AA z0) (fun k_ h_=>h_)) (AA z0));replace HB:=ak (AG z0 hb);clear hb b2;have e1:0<=(a1:Int):=za;have e2:a1<(l0.length:Int):=za;obtain⟨g6,m2,m3,h9,b1,d4,d5⟩:=Cl b0.out a1 e1 e2;obtain rfl:f0=g6:=(by injection h9);replace b1:=(HB.out.cell (World.block_lt_of_cell? w _ b1)).trans b1;have f4:=ak d5;have i9:=ak d4;clear d5 d4;replace e1:=eq_true e1;replace e2:=eq_true e2))
     repeat(go_quiet (first|(go_at_call 58;(with_reducible refine(Aw.calls h3 _ _ l0 t446 _ ?side1 ?side2 p1.out).mono ?_);(case side1=>exact zc (Kd.AM b0.out HB.out));(case side2=>exact f6.out);rintro e w9 ⟨m9,rfl,f9,hb⟩;have e3:=ak (Kd.BS (Kd.EM (M:=fun k_=>(w.heap.size<=k_)) f9 (AA z0) (fun k_ h_=>h_)) (AA z0));replace HB:=ak (AG z0 hb))|((with_reducible refine Ar (N:=62) rfl ?_);(try(refine BR (by rfl) ?_;dsimp only));refine Kd.DS (Kd.int .i64) _ 3 ?hg (N:=62) ?hd (xs:=([]:List Int)) (inner:=[]) (ok:=fun _=>True) (okp:=fun _=>True) ?hr ?hp (fun _ hk=>hk) trivial (Below.refl _ _) (Nat.le_refl _) (by simp) ?_;(case hd=>rfl);(case hg=>rfl);(case hr=>first|(go_simp;done)|(go_simp;rfl));(case hp=>exact(Av.none _ _));intro r5 x0 b2 hb hg_ hnew_;clear hg_ hnew_;(first|rw[<-g3.out]at b2|(simp only[Int.reduceToNat]at b2;rw[<-g3.out]at b2));replace e3:=ak (Kd.Cq (zs e3.out) (Kd.CC b2) hb);have k4:=ak (Kd.BA (Kd.DX (M:=fun k_=>(w.heap.size<=k_)) b2 (AA z0) (fun k_ h_=>h_)) (AA z0));replace HB:=ak (AG z0 hb);clear hb b2;have e1:0<=(a1:Int):=za;have e2:a1<(l0.length:Int):=za;obtain⟨g6,m2,m3,h9,b1,d4,d5⟩:=Cl b0.out a1 e1 e2;obtain rfl:f0=g6:=(by injection h9);replace b1:=(HB.out.cell (World.block_lt_of_cell? w _ b1)).trans b1;have f4:=ak d5;have i9:=ak d4;clear d5 d4;replace e1:=eq_true e1;replace e2:=eq_true e2));try go_wp2_with (first|(go_at_call 58;(with_reducible refine(Aw.calls h3 _ _ l0 t446 _ ?side1 ?side2 p1.out).mono ?_);(case side1=>exact zc (Kd.AM b0.out HB.out));(case side2=>exact f6.out);rintro e w9 ⟨m9,rfl,f9,hb⟩;have e3:=ak (Kd.BS (Kd.EM (M:=fun k_=>(w.heap.size<=k_)) f9 (AA z0) (fun k_ h_=>h_)) (AA z0));replace HB:=ak (AG z0 hb))|((with_reducible refine Ar (N:=62) rfl ?_);(try(refine BR (by rfl) ?_;dsimp only));refine Kd.DS (Kd.int .i64) _ 3 ?hg (N:=62) ?hd (xs:=([]:List Int)) (inner:=[]) (ok:=fun _=>True) (okp:=fun _=>True) ?hr ?hp (fun _ hk=>hk) trivial (Below.refl _ _) (Nat.le_refl _) (by simp) ?_;(case hd=>rfl);(case hg=>rfl);(case hr=>first|(go_simp;done)|(go_simp;rfl));(case hp=>exact(Av.none _ _));intro r5 x0 b2 hb hg_ hnew_;clear hg_ hnew_;(first|rw[<-g3.out]at b2|(simp only[Int.reduceToNat]at b2;rw[<-g3.out]at b2));replace e3:=ak (Kd.Cq (zs e3.out) (Kd.CC b2) hb);have k4:=ak (Kd.BA (Kd.DX (M:=fun k_=>(w.heap.size<=k_)) b2 (AA z0) (fun k_ h_=>h_)) (AA z0));replace HB:=ak (AG z0 hb);clear hb b2;have e1:0<=(a1:Int):=za;have e2:a1<(l0.length:Int):=za;obtain⟨g6,m2,m3,h9,b1,d4,d5⟩:=Cl b0.out a1 e1 e2;obtain rfl:f0=g6:=(by injection h9);replace b1:=(HB.out.cell (World.block_lt_of_cell? w _ b1)).trans b1;have f4:=ak d5;have i9:=ak d4;clear d5 d4;replace e1:=eq_true e1;replace e2:=eq_true e2)))
     go_loopg [10,68] h3 (fun kq x1 y2 w'=> ∃(b7:List Int) (a3:Int),y2= .int .i64 a3/\AJ (Ac.l0 kq a1 a2 b5 t446 b7 (AD l0 a1) ((AD l0 a1).length:Int) a3=some (r1,r2))/\AJ (kq<=h3)/\AJ (Kd.S (Kd.slice 3 (Kd.int .i64)) 47 w' w.heap.size (fun k_=>(w.heap.size<=k_)/\some k_≠(x1:Value).ownBlock) m9 t446)/\AJ (Kd.R (Kd.int .i64) 3 w' w.heap.size (fun k_=>(w.heap.size<=k_)) x1 b7)/\AJ (Below w.heap.size w w'))
     case atStart=>exact⟨(p3),(0),zd,H',⟨Nat.le_refl _⟩,⟨by(with_reducible repeat(first|apply Kd.Bj|apply Kd.Bh|apply Kd.Bx));exact Kd.Af e3.out (fun _ hk=>⟨hk.1.1,hk.2⟩)⟩,⟨by(with_reducible repeat(first|apply Kd.BV|apply Kd.BN|apply Kd.BI));exact Kd.AV k4.out (fun _ hk=>hk.1)⟩,⟨z0⟩⟩
     case round=>
      clear H';obtain⟨b7,a3,rfl,HA,j5,HO_9,HO_10,HB⟩:=hrel
      cases gk with
      |zero=>exact absurd HA.out (by simp[Ac.l0])
      |succ k2=>
       have H:=HA.out;clear HA;simp only[Ac.l0]at H
       by_cases j6:a3<((AD l0 a1).length:Int)
       ·
        rw[if_pos j6]at H;have v5:=decide_eq_true j6;clear j6;replace H:=gi H;obtain⟨x2,H⟩:=H;have y5:=decide_eq_true x2;clear x2;replace H:=gi H;obtain⟨x3,H⟩:=H;have y6:=decide_eq_true x3;clear x3
        by_cases i0:a3=a2
        ·
         rw[if_pos i0]at H;have v6:(a3==a2)=true:=beq_iff_eq.mpr i0;have v7:(a3 != a2)=false:=bne_eq_false_iff_eq.mpr i0;clear i0;have H':=ak H;clear H;obtain⟨n5,i1,d6,r6,r7⟩:=ai f4.out a3;cases i1;replace d6:=zx HB d6
         go_wp2
         repeat(go_quiet (fail);try go_wp2)
         go_roundg k2
         case measure=>have:=i7.out;have:=j5.out;omega
         case rel=>exact⟨(b7),(wrap64 (a3+1)),zd,H',⟨by have:=i7.out;have:=j5.out;omega⟩,⟨zs HO_9.out⟩,⟨zr HO_10.out⟩,⟨z0⟩⟩
        ·
         rw[if_neg i0]at H;have v6:(a3==a2)=false:=beq_eq_false_iff_ne.mpr i0;have v7:(a3 != a2)=true:=bne_iff_ne.mpr i0
         by_cases i2:a3=b5
         ·
          rw[if_pos i2]at H;have v8:(a3==b5)=true:=beq_iff_eq.mpr i2;have v9:(a3 != b5)=false:=bne_eq_false_iff_eq.mpr i2;clear i2;have H':=ak H;clear H;obtain⟨n5,i1,d6,r6,r7⟩:=ai f4.out a3;cases i1;replace d6:=zx HB d6
          go_wp2
          repeat(go_quiet (fail);try go_wp2)
          go_roundg k2
          case measure=>have:=i7.out;have:=j5.out;omega
          case rel=>exact⟨(b7),(wrap64 (a3+1)),zd,H',⟨by have:=i7.out;have:=j5.out;omega⟩,⟨zs HO_9.out⟩,⟨zr HO_10.out⟩,⟨z0⟩⟩
         ·
          rw[if_neg i2]at H;have v8:(a3==b5)=false:=beq_eq_false_iff_ne.mpr i2;have v9:(a3 != b5)=true:=bne_iff_ne.mpr i2;replace H:=gi H;obtain⟨x4,H⟩:=H;have k5:=ak x4;clear x4;obtain⟨r8,k6⟩: ∃y_:List Int,y_=(b7++[rd (AD l0 a1) a3]):=⟨_,rfl⟩;replace H:(Ac.l0 k2 a1 a2 b5 t446 r8 (AD l0 a1) ((AD l0 a1).length:Int) (wrap64 (a3+1)))=some (r1,r2):=zy k6 H;have k7:=ak k6;clear k6;have H':=ak H;clear H;obtain⟨n5,i1,d6,r6,r7⟩:=ai f4.out a3;cases i1;replace d6:=zx HB d6
          go_wp2_with (first|((with_reducible refine Ak (b:= .append) (xs:= #[.tmp 81,.tmp 83]) rfl ?_);(try(refine BR (by rfl) ?_;dsimp only));at_builtin;refine Kd.Cy (Kd.int .i64) (w0:=w) w.heap.size rfl (.tmp 81) (.tmp 83) 47 3 (.int .i64 0) 8 rfl Try.underlying47 BT rfl (by decide) (by omega) u10 b7 (rd (AD l0 a1) a3) [.int .i64 (rd (AD l0 a1) a3)] (fun k_=>(w.heap.size<=k_)) (fun _=>False) rfl rfl ?aP (fun _ hk=>hk.elim) ?aF ?aO ?aB ?aS ?aL ?_;(case aP=>exact rfl);(case aB=>exact z0);(case aF=>exact(fun k_ hk=>(Nat.le_trans (AA z0) hk)));(case aO=>exact(zr HO_10.out));(case aS=>exact(AA z0));(case aL=>have:=k5.out;omega);intro r9 x5 ho hb hg hat;rw[<-k7.out]at ho;have b3:=ak (Kd.Ec (ok:=(fun k_=>(w.heap.size<=k_))) (zs HO_9.out) hg hat);have b4:=ak (hb);have h5:=ak (ho);clear HO_9 HB HO_10;have HO_9:=b3;have HB:=b4;have k8:=h5;clear b3 b4 h5 ho hb hg hat))
          repeat(go_quiet (first|((with_reducible refine Ak (b:= .append) (xs:= #[.tmp 81,.tmp 83]) rfl ?_);(try(refine BR (by rfl) ?_;dsimp only));at_builtin;refine Kd.Cy (Kd.int .i64) (w0:=w) w.heap.size rfl (.tmp 81) (.tmp 83) 47 3 (.int .i64 0) 8 rfl Try.underlying47 BT rfl (by decide) (by omega) u10 b7 (rd (AD l0 a1) a3) [.int .i64 (rd (AD l0 a1) a3)] (fun k_=>(w.heap.size<=k_)) (fun _=>False) rfl rfl ?aP (fun _ hk=>hk.elim) ?aF ?aO ?aB ?aS ?aL ?_;(case aP=>exact rfl);(case aB=>exact z0);(case aF=>exact(fun k_ hk=>(Nat.le_trans (AA z0) hk)));(case aO=>exact(zr HO_10.out));(case aS=>exact(AA z0));(case aL=>have:=k5.out;omega);intro r9 x5 ho hb hg hat;rw[<-k7.out]at ho;have b3:=ak (Kd.Ec (ok:=(fun k_=>(w.heap.size<=k_))) (zs HO_9.out) hg hat);have b4:=ak (hb);have h5:=ak (ho);clear HO_9 HB HO_10;have HO_9:=b3;have HB:=b4;have k8:=h5;clear b3 b4 h5 ho hb hg hat));try go_wp2_with (first|((with_reducible refine Ak (b:= .append) (xs:= #[.tmp 81,.tmp 83]) rfl ?_);(try(refine BR (by rfl) ?_;dsimp only));at_builtin;refine Kd.Cy (Kd.int .i64) (w0:=w) w.heap.size rfl (.tmp 81) (.tmp 83) 47 3 (.int .i64 0) 8 rfl Try.underlying47 BT rfl (by decide) (by omega) u10 b7 (rd (AD l0 a1) a3) [.int .i64 (rd (AD l0 a1) a3)] (fun k_=>(w.heap.size<=k_)) (fun _=>False) rfl rfl ?aP (fun _ hk=>hk.elim) ?aF ?aO ?aB ?aS ?aL ?_;(case aP=>exact rfl);(case aB=>exact z0);(case aF=>exact(fun k_ hk=>(Nat.le_trans (AA z0) hk)));(case aO=>exact(zr HO_10.out));(case aS=>exact(AA z0));(case aL=>have:=k5.out;omega);intro r9 x5 ho hb hg hat;rw[<-k7.out]at ho;have b3:=ak (Kd.Ec (ok:=(fun k_=>(w.heap.size<=k_))) (zs HO_9.out) hg hat);have b4:=ak (hb);have h5:=ak (ho);clear HO_9 HB HO_10;have HO_9:=b3;have HB:=b4;have k8:=h5;clear b3 b4 h5 ho hb hg hat)))
          go_roundg k2
          case measure=>have:=i7.out;have:=j5.out;omega
          case rel=>exact⟨(r8),(wrap64 (a3+1)),zd,H',⟨by have:=i7.out;have:=j5.out;omega⟩,⟨zs HO_9.out⟩,⟨zr k8.out⟩,⟨z0⟩⟩
       ·
        rw[if_neg j6]at H;have v5:=decide_eq_false j6;clear j6;replace H:=gi H;obtain⟨x6,H⟩:=H;have y7:=decide_eq_true x6;clear x6;replace H:=gi H;obtain⟨x7,H⟩:=H;have y8:=decide_eq_true x7;clear x7;obtain⟨b8,k9⟩: ∃y_:List (List Int),y_=(t446.set (a1:Int).toNat b7):=⟨_,rfl⟩;replace H:((BX.f k2 b8).bind fun n6=>(some (n6.1,n6.2)))=some (r1,r2):=zy k9 H;have l5:=ak k9;clear k9;replace H:=gb H;obtain⟨⟨t458,t461⟩,s6,H⟩:=H;dsimp only at H;simp only[Option.some.injEq,Prod.mk.injEq]at H;obtain⟨rfl,rfl⟩:=H;have s7:0<=(a1:Int):=za;have s8:(a1:Int)<((t446.length:Int):Int):=za;obtain⟨a9,f1,s9,t0,x9,y9,t1⟩:=Kd.GP HO_9.out (by omega)
        (first|cases s9|(injection s9 with ea_ en_ ec_;(first|subst ea_|(injection ea_ with ea_;subst ea_));subst ec_;clear en_))
        have n0:=ak t0;have A1:=ak t1;clear t0 x9 t1;obtain⟨_,A2,w2,t2,n7,n8,_,_⟩:=Kd.FL HO_9.out [] (a1:Int) s7 s8;obtain⟨y3,rfl,y4⟩:=t2;have t3:=n7 0 _ rfl;have t4:=n8 0
        (try simp only[show((Kd.slice 3 (Kd.int .i64))).sz=1 from rfl,Nat.mul_one,Nat.add_zero]at t3)
        (try simp only[show((Kd.slice 3 (Kd.int .i64))).sz=1 from rfl,Nat.mul_one,Nat.add_zero]at t4)
        clear w2 n7 n8;replace s7:=eq_true s7;replace s8:=eq_true s8;have g4:=ak (show Kd.S (Kd.slice 3 (Kd.int .i64)) 47 wr w.heap.size (fun k_=>((fun k_=>(w.heap.size<=k_))) k_/\¬((fun k_=>some k_=(u10:Value).ownBlock)) k_) (.slice (some ⟨a9,0,none⟩) t446.length f1) t446 from(by(with_reducible repeat(first|apply Kd.Bj|apply Kd.Bh|apply Kd.Bx));exact Kd.Af HO_9.out (fun k_ hk=>⟨hk.1,fun e_=>hk.2 e_⟩)));obtain⟨l6,n1,f5,g0,d7,d8,g7,g1⟩:=Kd.FL g4.out [] (a1:Int) (za) (by have h_:(a1:Int)<((t446.length:Int):Int):=za;first|exact h_|(have e_:=(Kd.Aa HO_9.out).1;omega)|simpa using h_);obtain⟨i3,rfl,i4⟩:=g0;have b9:=Kd.JK g1 (za) (by have h_:(a1:Int)<((t446.length:Int):Int):=za;first|exact h_|(have e_:=(Kd.Aa HO_9.out).1;omega)|simpa using h_) (seg:=[u10]) (j:=0) (show 1<=1 from by decide) (x':=b7) (Kd.FP (Kd.AV (Kd.DV rfl (Kd.AV (ok':=fun k_=>((fun k_=>(w.heap.size<=k_))) k_/\k_≠a9) (Kd.CI (HO_10.out) (Kd.CB HO_9.out) (by decide)) (fun k_ hk=>⟨hk.1,fun e_=>(hk.2) (by rw[e_];rfl)⟩))) (fun _ h_=>Or.inr (h_)))) (fun _ hk=>hk) (fun k_ hk_=>((Kd.AV (ok':=fun k_=>((fun k_=>(w.heap.size<=k_))) k_/\k_≠a9) (Kd.CI (HO_10.out) (Kd.CB HO_9.out) (by decide)) (fun k_ hk=>⟨hk.1,fun e_=>(hk.2) (by rw[e_];rfl)⟩))).1 k_ hk_.symm);have e7:=d7 0 _ rfl
        (try simp only[show((Kd.slice 3 (Kd.int .i64))).sz=1 from rfl,Nat.mul_one,Nat.add_zero]at e7)
        have e8:=d8 0
        (try simp only[show((Kd.slice 3 (Kd.int .i64))).sz=1 from rfl,Nat.mul_one,Nat.add_zero]at e8)
        clear f5 d7 d8
        (try simp only[show((Kd.slice 3 (Kd.int .i64))).sz=1 from rfl,Nat.mul_one,Nat.add_zero]at b9)
        go_wp2_with (first|((with_reducible refine Dm (t:=47) (p:=89) rfl ?_);(try(rw[EO wr];generalize hq_:World.drewN wr _=wr;have b3:=ak (Kd.Wi hq_ HO_9.out);have b4:=ak (IA hq_ HB.out);clear hq_ HO_9 HB;have HO_9:=b3;have HB:=b4;clear b3 b4;(try(have g4:=ak (show Kd.S (Kd.slice 3 (Kd.int .i64)) 47 wr w.heap.size (fun k_=>((fun k_=>(w.heap.size<=k_))) k_/\¬((fun k_=>some k_=(u10:Value).ownBlock)) k_) (.slice (some ⟨a9,0,none⟩) t446.length f1) t446 from(by(with_reducible repeat(first|apply Kd.Bj|apply Kd.Bh|apply Kd.Bx));exact Kd.Af HO_9.out (fun k_ hk=>⟨hk.1,fun e_=>hk.2 e_⟩)))));(try(obtain⟨l6,n1,f5,g0,d7,d8,g7,g1⟩:=Kd.FL g4.out [] (a1:Int) (za) (by have h_:(a1:Int)<((t446.length:Int):Int):=za;first|exact h_|(have e_:=(Kd.Aa HO_9.out).1;omega)|simpa using h_)));(try(obtain⟨i3,rfl,i4⟩:=g0));(try(have b9:=Kd.JK g1 (za) (by have h_:(a1:Int)<((t446.length:Int):Int):=za;first|exact h_|(have e_:=(Kd.Aa HO_9.out).1;omega)|simpa using h_) (seg:=[u10]) (j:=0) (show 1<=1 from by decide) (x':=b7) (Kd.FP (Kd.AV (Kd.DV rfl (Kd.AV (ok':=fun k_=>((fun k_=>(w.heap.size<=k_))) k_/\k_≠a9) (Kd.CI (HO_10.out) (Kd.CB HO_9.out) (by decide)) (fun k_ hk=>⟨hk.1,fun e_=>(hk.2) (by rw[e_];rfl)⟩))) (fun _ h_=>Or.inr (h_)))) (fun _ hk=>hk) (fun k_ hk_=>((Kd.AV (ok':=fun k_=>((fun k_=>(w.heap.size<=k_))) k_/\k_≠a9) (Kd.CI (HO_10.out) (Kd.CB HO_9.out) (by decide)) (fun k_ hk=>⟨hk.1,fun e_=>(hk.2) (by rw[e_];rfl)⟩))).1 k_ hk_.symm)));(try(have e7:=d7 0 _ rfl));(try(try simp only[show((Kd.slice 3 (Kd.int .i64))).sz=1 from rfl,Nat.mul_one,Nat.add_zero]at e7));(try(have e8:=d8 0));(try(try simp only[show((Kd.slice 3 (Kd.int .i64))).sz=1 from rfl,Nat.mul_one,Nat.add_zero]at e8));(try(clear f5 d7 d8));(try(try simp only[show((Kd.slice 3 (Kd.int .i64))).sz=1 from rfl,Nat.mul_one,Nat.add_zero]at b9))));refine DU (t:=47) (p:=89) (v:=?vo_w40) (w1:=(wr.setCell ⟨a9,(a1:Int).toNat,none⟩ (u10))) ?hg ?ho ?hn ?hr ?_;(case ho=>rfl);(case hg=>rfl);(case hn=>rfl);(case hr=>first|(go_simp;done)|(go_simp;rfl)|(obtain⟨A_,c_,e_⟩:=Kd.Al HO_10.out;subst e_;first|(go_simp;done)|(go_simp;rfl)));intro g2 hw;have hg:wr.grownBy g2 (some a9):=(by rw[hw];exact b9.2);have hp_:Kd.S (Kd.slice 3 (Kd.int .i64)) 47 g2 w.heap.size (fun k_=>(w.heap.size<=k_)) (.slice (some ⟨a9,0,none⟩) t446.length f1) b8:=(by rw[hw,l5.out];exact b9.1);clear b9;have b3:=ak (hp_);have b4:=ak ((by rw[hw];exact BC (HB.out) n0.out:Below w.heap.size w g2));clear HO_9 HB HO_10;have HO_9:=b3;have HB:=b4;clear b3 b4 hg hw hp_)|(go_at_call 60;refine Eu (args':= #[.slice (some ⟨a9,0,none⟩) b8.length f1]) (by first|(rw[show b8.length=t446.length from(Kd.Aa HO_9.out).1.symm]<;>rfl)|rfl) ?_;(with_reducible refine(BX.calls k2 (fun k_=>(w.heap.size<=k_)) w.heap.size _ _ b8 t458 t461 _ (AA z0) ?side1 s6.out).mono ?_);(case side1=>rw[show b8.length=t446.length from(Kd.Aa HO_9.out).1.symm];exact EH (HO_9.out));rintro e x8 ⟨t5,rfl,f9,hb⟩;replace HO_9:=ak (Kd.DO (zs HO_9.out) hb);have l7:=ak (GI (Kd.Af (ok':=fun k_=>(w.heap.size<=k_)) f9 (fun k_ hk_=>Or.elim hk_ (fun hs_=>hs_) (fun hn_=>(Nat.le_trans (AA z0) hn_)))) (AA z0));replace HB:=ak (AG z0 hb)))
        repeat(go_quiet (first|((with_reducible refine Dm (t:=47) (p:=89) rfl ?_);(try(rw[EO wr];generalize hq_:World.drewN wr _=wr;have b3:=ak (Kd.Wi hq_ HO_9.out);have b4:=ak (IA hq_ HB.out);clear hq_ HO_9 HB;have HO_9:=b3;have HB:=b4;clear b3 b4;(try(have g4:=ak (show Kd.S (Kd.slice 3 (Kd.int .i64)) 47 wr w.heap.size (fun k_=>((fun k_=>(w.heap.size<=k_))) k_/\¬((fun k_=>some k_=(u10:Value).ownBlock)) k_) (.slice (some ⟨a9,0,none⟩) t446.length f1) t446 from(by(with_reducible repeat(first|apply Kd.Bj|apply Kd.Bh|apply Kd.Bx));exact Kd.Af HO_9.out (fun k_ hk=>⟨hk.1,fun e_=>hk.2 e_⟩)))));(try(obtain⟨l6,n1,f5,g0,d7,d8,g7,g1⟩:=Kd.FL g4.out [] (a1:Int) (za) (by have h_:(a1:Int)<((t446.length:Int):Int):=za;first|exact h_|(have e_:=(Kd.Aa HO_9.out).1;omega)|simpa using h_)));(try(obtain⟨i3,rfl,i4⟩:=g0));(try(have b9:=Kd.JK g1 (za) (by have h_:(a1:Int)<((t446.length:Int):Int):=za;first|exact h_|(have e_:=(Kd.Aa HO_9.out).1;omega)|simpa using h_) (seg:=[u10]) (j:=0) (show 1<=1 from by decide) (x':=b7) (Kd.FP (Kd.AV (Kd.DV rfl (Kd.AV (ok':=fun k_=>((fun k_=>(w.heap.size<=k_))) k_/\k_≠a9) (Kd.CI (HO_10.out) (Kd.CB HO_9.out) (by decide)) (fun k_ hk=>⟨hk.1,fun e_=>(hk.2) (by rw[e_];rfl)⟩))) (fun _ h_=>Or.inr (h_)))) (fun _ hk=>hk) (fun k_ hk_=>((Kd.AV (ok':=fun k_=>((fun k_=>(w.heap.size<=k_))) k_/\k_≠a9) (Kd.CI (HO_10.out) (Kd.CB HO_9.out) (by decide)) (fun k_ hk=>⟨hk.1,fun e_=>(hk.2) (by rw[e_];rfl)⟩))).1 k_ hk_.symm)));(try(have e7:=d7 0 _ rfl));(try(try simp only[show((Kd.slice 3 (Kd.int .i64))).sz=1 from rfl,Nat.mul_one,Nat.add_zero]at e7));(try(have e8:=d8 0));(try(try simp only[show((Kd.slice 3 (Kd.int .i64))).sz=1 from rfl,Nat.mul_one,Nat.add_zero]at e8));(try(clear f5 d7 d8));(try(try simp only[show((Kd.slice 3 (Kd.int .i64))).sz=1 from rfl,Nat.mul_one,Nat.add_zero]at b9))));refine DU (t:=47) (p:=89) (v:=?vo_w40) (w1:=(wr.setCell ⟨a9,(a1:Int).toNat,none⟩ (u10))) ?hg ?ho ?hn ?hr ?_;(case ho=>rfl);(case hg=>rfl);(case hn=>rfl);(case hr=>first|(go_simp;done)|(go_simp;rfl)|(obtain⟨A_,c_,e_⟩:=Kd.Al HO_10.out;subst e_;first|(go_simp;done)|(go_simp;rfl)));intro g2 hw;have hg:wr.grownBy g2 (some a9):=(by rw[hw];exact b9.2);have hp_:Kd.S (Kd.slice 3 (Kd.int .i64)) 47 g2 w.heap.size (fun k_=>(w.heap.size<=k_)) (.slice (some ⟨a9,0,none⟩) t446.length f1) b8:=(by rw[hw,l5.out];exact b9.1);clear b9;have b3:=ak (hp_);have b4:=ak ((by rw[hw];exact BC (HB.out) n0.out:Below w.heap.size w g2));clear HO_9 HB HO_10;have HO_9:=b3;have HB:=b4;clear b3 b4 hg hw hp_)|(go_at_call 60;refine Eu (args':= #[.slice (some ⟨a9,0,none⟩) b8.length f1]) (by first|(rw[show b8.length=t446.length from(Kd.Aa HO_9.out).1.symm]<;>rfl)|rfl) ?_;(with_reducible refine(BX.calls k2 (fun k_=>(w.heap.size<=k_)) w.heap.size _ _ b8 t458 t461 _ (AA z0) ?side1 s6.out).mono ?_);(case side1=>rw[show b8.length=t446.length from(Kd.Aa HO_9.out).1.symm];exact EH (HO_9.out));rintro e x8 ⟨t5,rfl,f9,hb⟩;replace HO_9:=ak (Kd.DO (zs HO_9.out) hb);have l7:=ak (GI (Kd.Af (ok':=fun k_=>(w.heap.size<=k_)) f9 (fun k_ hk_=>Or.elim hk_ (fun hs_=>hs_) (fun hn_=>(Nat.le_trans (AA z0) hn_)))) (AA z0));replace HB:=ak (AG z0 hb)));try go_wp2_with (first|((with_reducible refine Dm (t:=47) (p:=89) rfl ?_);(try(rw[EO wr];generalize hq_:World.drewN wr _=wr;have b3:=ak (Kd.Wi hq_ HO_9.out);have b4:=ak (IA hq_ HB.out);clear hq_ HO_9 HB;have HO_9:=b3;have HB:=b4;clear b3 b4;(try(have g4:=ak (show Kd.S (Kd.slice 3 (Kd.int .i64)) 47 wr w.heap.size (fun k_=>((fun k_=>(w.heap.size<=k_))) k_/\¬((fun k_=>some k_=(u10:Value).ownBlock)) k_) (.slice (some ⟨a9,0,none⟩) t446.length f1) t446 from(by(with_reducible repeat(first|apply Kd.Bj|apply Kd.Bh|apply Kd.Bx));exact Kd.Af HO_9.out (fun k_ hk=>⟨hk.1,fun e_=>hk.2 e_⟩)))));(try(obtain⟨l6,n1,f5,g0,d7,d8,g7,g1⟩:=Kd.FL g4.out [] (a1:Int) (za) (by have h_:(a1:Int)<((t446.length:Int):Int):=za;first|exact h_|(have e_:=(Kd.Aa HO_9.out).1;omega)|simpa using h_)));(try(obtain⟨i3,rfl,i4⟩:=g0));(try(have b9:=Kd.JK g1 (za) (by have h_:(a1:Int)<((t446.length:Int):Int):=za;first|exact h_|(have e_:=(Kd.Aa HO_9.out).1;omega)|simpa using h_) (seg:=[u10]) (j:=0) (show 1<=1 from by decide) (x':=b7) (Kd.FP (Kd.AV (Kd.DV rfl (Kd.AV (ok':=fun k_=>((fun k_=>(w.heap.size<=k_))) k_/\k_≠a9) (Kd.CI (HO_10.out) (Kd.CB HO_9.out) (by decide)) (fun k_ hk=>⟨hk.1,fun e_=>(hk.2) (by rw[e_];rfl)⟩))) (fun _ h_=>Or.inr (h_)))) (fun _ hk=>hk) (fun k_ hk_=>((Kd.AV (ok':=fun k_=>((fun k_=>(w.heap.size<=k_))) k_/\k_≠a9) (Kd.CI (HO_10.out) (Kd.CB HO_9.out) (by decide)) (fun k_ hk=>⟨hk.1,fun e_=>(hk.2) (by rw[e_];rfl)⟩))).1 k_ hk_.symm)));(try(have e7:=d7 0 _ rfl));(try(try simp only[show((Kd.slice 3 (Kd.int .i64))).sz=1 from rfl,Nat.mul_one,Nat.add_zero]at e7));(try(have e8:=d8 0));(try(try simp only[show((Kd.slice 3 (Kd.int .i64))).sz=1 from rfl,Nat.mul_one,Nat.add_zero]at e8));(try(clear f5 d7 d8));(try(try simp only[show((Kd.slice 3 (Kd.int .i64))).sz=1 from rfl,Nat.mul_one,Nat.add_zero]at b9))));refine DU (t:=47) (p:=89) (v:=?vo_w40) (w1:=(wr.setCell ⟨a9,(a1:Int).toNat,none⟩ (u10))) ?hg ?ho ?hn ?hr ?_;(case ho=>rfl);(case hg=>rfl);(case hn=>rfl);(case hr=>first|(go_simp;done)|(go_simp;rfl)|(obtain⟨A_,c_,e_⟩:=Kd.Al HO_10.out;subst e_;first|(go_simp;done)|(go_simp;rfl)));intro g2 hw;have hg:wr.grownBy g2 (some a9):=(by rw[hw];exact b9.2);have hp_:Kd.S (Kd.slice 3 (Kd.int .i64)) 47 g2 w.heap.size (fun k_=>(w.heap.size<=k_)) (.slice (some ⟨a9,0,none⟩) t446.length f1) b8:=(by rw[hw,l5.out];exact b9.1);clear b9;have b3:=ak (hp_);have b4:=ak ((by rw[hw];exact BC (HB.out) n0.out:Below w.heap.size w g2));clear HO_9 HB HO_10;have HO_9:=b3;have HB:=b4;clear b3 b4 hg hw hp_)|(go_at_call 60;refine Eu (args':= #[.slice (some ⟨a9,0,none⟩) b8.length f1]) (by first|(rw[show b8.length=t446.length from(Kd.Aa HO_9.out).1.symm]<;>rfl)|rfl) ?_;(with_reducible refine(BX.calls k2 (fun k_=>(w.heap.size<=k_)) w.heap.size _ _ b8 t458 t461 _ (AA z0) ?side1 s6.out).mono ?_);(case side1=>rw[show b8.length=t446.length from(Kd.Aa HO_9.out).1.symm];exact EH (HO_9.out));rintro e x8 ⟨t5,rfl,f9,hb⟩;replace HO_9:=ak (Kd.DO (zs HO_9.out) hb);have l7:=ak (GI (Kd.Af (ok':=fun k_=>(w.heap.size<=k_)) f9 (fun k_ hk_=>Or.elim hk_ (fun hs_=>hs_) (fun hn_=>(Nat.le_trans (AA z0) hn_)))) (AA z0));replace HB:=ak (AG z0 hb))))
        go_ret2
        exact⟨_,by first|rfl|(simp[Bq,Bt]<;>rfl)|(simp only[<-h7];first|rfl|(simp[Bq,Bt]<;>rfl))|(simp[*,Bq,Bt]<;>rfl),zs l7.out,z0⟩
    ·
     rw[if_neg h4]at H;have n3:((rd (AD l0 a1) a2)==(wrap64 (-(rd (AD l0 a1) (b5)))))=false:=beq_eq_false_iff_ne.mpr h4;have n4:((rd (AD l0 a1) a2) != (wrap64 (-(rd (AD l0 a1) (b5)))))=true:=bne_iff_ne.mpr h4;simp only[Option.some.injEq,Prod.mk.injEq]at H;obtain⟨rfl,rfl⟩:=H;obtain⟨f0,p5,p7,m4,b6,n9,o0,p8,p9⟩:=al b0.out a1;cases m4;replace b6:=zx HB b6;obtain⟨j9,q0,q1,m5,d2,o1,g8,q2,q3⟩:=al b0.out a1;obtain rfl:f0=j9:=(by injection m5);replace d2:=zx HB d2;have ea_:=Option.some.inj (b6.symm.trans d2)
     injection ea_ with ea_ en_ ec_
     subst ea_;subst ec_;clear en_;obtain⟨k0,m6,e4,q5,q6⟩:=ai g8.out a2;cases m6;replace e4:=zx HB e4;obtain⟨k1,q7,q8,m7,d3,o2,g9,q9,r0⟩:=al b0.out a1;obtain rfl:f0=k1:=(by injection m7);replace d3:=zx HB d3;have ea_:=Option.some.inj (b6.symm.trans d3)
     injection ea_ with ea_ en_ ec_
     subst ea_;subst ec_;clear en_;obtain⟨k3,m8,e5,r3,r4⟩:=ai g9.out (b5);obtain rfl:k0=k3:=(by injection m8);replace e5:=zx HB e5
     go_wp2
     repeat(go_quiet (fail);try go_wp2)
     go_ret2
     exact⟨_,by first|rfl|(simp[Bq,Bt]<;>rfl)|(simp only[<-h7];first|rfl|(simp[Bq,Bt]<;>rfl))|(simp[*,Bq,Bt]<;>rfl),EH (by first|exact Kd.Eg _ _ _ _ _|exact Kd.Ii _ _ _ _ _|exact Kd.Eg _ _ _ _ _|exact Kd.Iy _ _ _ _ _|exact Kd.Gn _ _ _ _ _),z0⟩
def CQ.l0:Nat->List Int->Int->Int->Int->Option (Int)
 |0,_,_,_,_=>none
 |k+1,x0,x1,x5,x6=>if x6<(x0.length:Int)then(if 0<=x6 then((BP.f (rd x0 x6)).bind fun t463=>((BD.f (t463==x1)).bind fun t464=>(CQ.l0 k x0 x1 (wrap64 (x5+t464)) (wrap64 (x6+1)))))else(none))else(some x5)
def CQ.f (k:Nat) (l0:List Int) (a1:Int):Option (Int):=CQ.l0 k l0 a1 0 0
theorem CQ.calls (k:Nat) (A0:Option Addr) (c0:Nat) (l0:List Int) (a1 r:Int) (w:World) (a3:Kd.C (Kd.int .i64) w A0 l0.length l0) (a4:l0.length<=c0) (h:CQ.f k l0 a1=some r):
 Calls Try.prog 77 #[.slice A0 l0.length c0,.int .i64 a1] w fun e w'=>e= .returned (.int .i64 r)/\Cj w w':=by
 have a9:=ak a3;have b4:=ak a4;clear a3 a4;have H:=h;clear h;unfold CQ.f at H;have H':=ak H;clear H
 go_enter Try.func77,Try.ntmps77
 go_wp2
 go_loopg [5,6] k (fun kq v5 v6 w'=> ∃(a2:Int) (a0:Int),v5= .int .i64 a2/\v6= .int .i64 a0/\AJ (CQ.l0 kq l0 a1 a2 a0=some r)/\AJ (kq<=k)/\Cj w w')
 case atStart=>exact⟨(0),(0),zd,zd,H',⟨Nat.le_refl _⟩,z3⟩
 case round=>
  clear H';obtain⟨a2,a0,rfl,rfl,HA,a5,⟨m1,rfl⟩⟩:=hrel
  cases gk with
  |zero=>exact absurd HA.out (by simp[CQ.l0])
  |succ k1=>
   have H:=HA.out;clear HA;simp only[CQ.l0]at H
   by_cases c3:a0<(l0.length:Int)
   ·
    rw[if_pos c3]at H;have a6:=decide_eq_true c3;clear c3;replace H:=gi H;obtain⟨c4,H⟩:=H;have b1:=decide_eq_true c4;clear c4;replace H:=gb H;obtain⟨t463,A5,H⟩:=H;replace H:=gb H;obtain⟨t464,A6,H⟩:=H;have H':=ak H;clear H;obtain⟨b0,a7,a8,b2,b3⟩:=ai a9.out a0;cases a7
    go_wp2_with (first|(refine zl (some 18) Try.func99 #[.int .i64 (rd l0 a0)] ?_;(with_reducible refine(BP.calls (rd l0 a0) t463 _ A5.out).mono ?_);rintro e w' ⟨rfl,⟨nd,rfl⟩⟩;refine⟨_,rfl,?_⟩)|(refine zl (some 21) Try.func83 #[.bool (t463==a1)] ?_;(with_reducible refine(BD.calls (t463==a1) t464 _ A6.out).mono ?_);rintro e w' ⟨rfl,⟨nd,rfl⟩⟩;refine⟨_,rfl,?_⟩))
    go_roundg k1
    case measure=>have:=a5.out;omega
    case rel=>exact⟨(wrap64 (a2+t464)),(wrap64 (a0+1)),zd,zd,H',⟨by have:=a5.out;omega⟩,z3⟩
   ·
    rw[if_neg c3]at H;have a6:=decide_eq_false c3;clear c3;obtain rfl:=Option.some.inj H
    go_wp2
    go_ret
    exact⟨by first|rfl|(simp;done)|(simp[*];done),z3⟩
def Ch.l0:Nat->List Int->Int->Int->Option (Int)
 |0,_,_,_=>none
 |k+1,x0,x1,x5=>if x5<(x0.length:Int)then(if 0<=x5 then((BP.f (rd x0 x5)).bind fun t466=>(if t466=x1 then(some x5)else(Ch.l0 k x0 x1 (wrap64 (x5+1)))))else(none))else(some (-1))
def Ch.f (k:Nat) (l0:List Int) (a1:Int):Option (Int):=Ch.l0 k l0 a1 0
theorem Ch.calls (k:Nat) (A0:Option Addr) (c0:Nat) (l0:List Int) (a1 r:Int) (w:World) (a5:Kd.C (Kd.int .i64) w A0 l0.length l0) (a6:l0.length<=c0) (h:Ch.f k l0 a1=some r):
 Calls Try.prog 78 #[.slice A0 l0.length c0,.int .i64 a1] w fun e w'=>e= .returned (.int .i64 r)/\Cj w w':=by
 have a7:=ak a5;have b5:=ak a6;clear a5 a6;have H:=h;clear h;unfold Ch.f at H;have H':=ak H;clear H
 go_enter Try.func78,Try.ntmps78
 go_wp2
 go_loopg [5] k (fun kq v5 w'=> ∃(a0:Int),v5= .int .i64 a0/\AJ (Ch.l0 kq l0 a1 a0=some r)/\AJ (kq<=k)/\Cj w w')
 case atStart=>exact⟨(0),zd,H',⟨Nat.le_refl _⟩,z3⟩
 case round=>
  clear H';obtain⟨a0,rfl,HA,a8,⟨m1,rfl⟩⟩:=hrel
  cases gk with
  |zero=>exact absurd HA.out (by simp[Ch.l0])
  |succ k1=>
   have H:=HA.out;clear HA;simp only[Ch.l0]at H
   by_cases c3:a0<(l0.length:Int)
   ·
    rw[if_pos c3]at H;have a9:=decide_eq_true c3;clear c3;replace H:=gi H;obtain⟨c4,H⟩:=H;have b4:=decide_eq_true c4;clear c4;replace H:=gb H;obtain⟨t466,A5,H⟩:=H
    by_cases c6:t466=a1
    ·
     rw[if_pos c6]at H;have b0:(t466==a1)=true:=beq_iff_eq.mpr c6;have b1:(t466 != a1)=false:=bne_eq_false_iff_eq.mpr c6;clear c6;obtain rfl:=Option.some.inj H;obtain⟨a4,a2,a3,b2,b3⟩:=ai a7.out a0;cases a2
     go_wp2_with (first|(refine zl (some 16) Try.func99 #[.int .i64 (rd l0 a0)] ?_;(with_reducible refine(BP.calls (rd l0 a0) t466 _ A5.out).mono ?_);rintro e w' ⟨rfl,⟨nd,rfl⟩⟩;refine⟨_,rfl,?_⟩))
     go_ret
     exact⟨by first|rfl|(simp;done)|(simp[*];done),z3⟩
    ·
     rw[if_neg c6]at H;have b0:(t466==a1)=false:=beq_eq_false_iff_ne.mpr c6;have b1:(t466 != a1)=true:=bne_iff_ne.mpr c6;have H':=ak H;clear H;obtain⟨a4,a2,a3,b2,b3⟩:=ai a7.out a0;cases a2
     go_wp2_with (first|(refine zl (some 16) Try.func99 #[.int .i64 (rd l0 a0)] ?_;(with_reducible refine(BP.calls (rd l0 a0) t466 _ A5.out).mono ?_);rintro e w' ⟨rfl,⟨nd,rfl⟩⟩;refine⟨_,rfl,?_⟩))
     go_roundg k1
     case measure=>have:=a8.out;omega
     case rel=>exact⟨(wrap64 (a0+1)),zd,H',⟨by have:=a8.out;omega⟩,z3⟩
   ·
    rw[if_neg c3]at H;have a9:=decide_eq_false c3;clear c3;obtain rfl:=Option.some.inj H
    go_wp2
    go_ret
    exact⟨by first|rfl|(simp;done)|(simp[*];done),z3⟩
end Go.Proofs.Ytlnddmkkgjlmbaa.QFnMoves
