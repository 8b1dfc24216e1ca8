/- Parts of this claim's walks and of its plain proof. No conditions of their own. -/
import Derived.Test.YtlnddmkkgjlmbaaG1
namespace Go.Proofs.Ytlnddmkkgjlmbaa.QFnMoves
open Go.Proofs.Ytlnddmkkgjlmbaa.Zip Go.RowKit Go.Proofs.YtlnddmkkgjlmbaaW.PrintWords Go.Proofs.YtlnddmkkgjlmbaaW.PrintLast Go.Proofs.YtlnddmkkgjlmbaaW.PrintMore
attribute [local go_sem] CD CF CW CV Bl Bk CE CG
set_option linter.unusedVariables false
set_option linter.unusedSimpArgs false
set_option maxHeartbeats 8000000
set_option maxRecDepth 100000
def BF.l0:Nat->List (List Int)->Int->List Int->Int->Int->Option ((List (List Int))×Int)
 |0,_,_,_,_,_=>none
 |k+1,x5,x6,a0,a1,a2=>if x6<=8 then((AH.f k x5 x6).bind fun a4=>(if a4.2=true then((CH.f a0 a1 a2 2).bind fun a3=>(if a3.1=true then(some (x5,x6))else(BF.l0 k x5 (wrap64 (x6+1)) a0 a3.2.1 a3.2.2)))else(BF.l0 k x5 (wrap64 (x6+1)) a0 a1 a2)))else((Ad.f a0 a1 a2 10).bind fun a5=>(some (x5,a5.1)))
def BF.f (k:Nat) (l0:List Int):Option ((List (List Int))×Int):=(Bv.f k l0).bind fun a0=>((BW.f k a0.1 a0.2.1 a0.2.2).bind fun a1=>(BF.l0 k a1.1 1 a0.1 a1.2.1 a1.2.2))
theorem BF.calls (k:Nat) (A0:Option Addr) (c0:Nat) (l0:List Int) (r1:List (List Int)) (r2:Int) (w:World) (b5:Kd.C (Kd.int .u8) w A0 l0.length l0) (b6:l0.length<=c0) (h:BF.f k l0=some (r1,r2)):
 Calls Try.prog 35 #[.slice A0 l0.length c0] w fun e w'=> ∃b7:Value,e= .returned (.tuple #[b7,.int .i64 r2])/\Kd.S (Kd.slice 3 (Kd.int .i64)) 47 w' w.heap.size (fun _=>True) b7 r1/\Below w.heap.size w w':=by
 have d2:=ak b5;have d3:=ak b6;clear b5 b6;have HB:=ak (Below.refl w.heap.size w);have H:=h;clear h;unfold BF.f at H;replace H:=gb H;obtain⟨⟨t817,t818,t819⟩,A2,H⟩:=H;dsimp only at H;replace H:=gb H;obtain⟨⟨t821,t824,t825⟩,A3,H⟩:=H;dsimp only at H;have H':=ak H;clear H
 go_enter Try.func35,Try.ntmps35
 go_wp2_with (first|(refine zl (some 10) Try.func80 #[.slice A0 l0.length c0] ?_;(with_reducible refine(Bv.calls k _ _ l0 t817 t818 t819 w _ ?side1 ?side2 ?side3 A2.out).mono ?_);(case side1=>exact z0);(case side2=>exact d2.out);(case side3=>exact d3.out);rintro e w4 ⟨a2,rfl,hi,hb,d5⟩;refine⟨_,rfl,?_⟩;replace HB:=ak (hb);have HI820:=ak (hi))|(refine zl (some 12) Try.func81 #[.pointer (some ⟨a2,0,none⟩)] ?_;(with_reducible refine(BW.calls k a2 t817 t818 t819 t821 t824 t825 w _ ?side1 ?side2 A3.out).mono ?_);(case side1=>exact z8);(case side2=>exact z7);rintro e w5 ⟨b8,rfl,a5,hi,hb,hk⟩;refine⟨_,rfl,?_⟩;have b4:=ak (Kd.BS a5 (AA z7));replace HB:=ak (hb);replace HI820:=ak (hi)))
 go_loopg [6] k (fun kq v6 w'=> ∃(a3:Int) (a0:Int) (a1:Int),v6= .int .i64 a3/\AJ (BF.l0 kq t821 a3 t817 a0 a1=some (r1,r2))/\AJ (kq<=k)/\AJ (Kd.S (Kd.slice 3 (Kd.int .i64)) 47 w' w.heap.size (fun _=>True) b8 t821)/\AJ (AK w w' a2 t817 a0 a1)/\AJ (Below w.heap.size w w'))
 case atStart=>exact⟨(1),(t824),(t825),zd,H',⟨Nat.le_refl _⟩,⟨zs b4.out⟩,⟨z8⟩,⟨z7⟩⟩
 case round=>
  clear H';obtain⟨a3,a0,a1,rfl,HA,b0,HO_5,HI820,HB⟩:=hrel
  cases gk with
  |zero=>exact absurd HA.out (by simp[BF.l0])
  |succ k1=>
   have H:=HA.out;clear HA;simp only[BF.l0]at H
   by_cases c6:a3<=8
   ·
    rw[if_pos c6]at H;have b9:=decide_eq_true c6;clear c6;replace H:=gb H;obtain⟨⟨t829,t832⟩,A7,H⟩:=H;dsimp only at H
    by_cases c8:t832=true
    ·
     subst c8;rw[if_pos rfl]at H;replace H:=gb H;obtain⟨⟨t833,t834,t835⟩,A9,H⟩:=H;dsimp only at H
     by_cases Du:t833=true
     ·
      subst Du;rw[if_pos rfl]at H;simp only[Option.some.injEq,Prod.mk.injEq]at H;obtain⟨rfl,rfl⟩:=H;obtain⟨a6,a7,c1⟩:=Kd.Bo HO_5.out;subst c1
      go_wp2_with (first|(refine zl (some 20) Try.func29 #[.slice a6 t821.length a7,.int .i64 a3] ?_;(with_reducible refine(AH.calls k1 _ _ t821 a3 t829 true _ ?side1 ?side2 A7.out).mono ?_);(case side1=>exact zc (Kd.Aa HO_5.out).2.2);(case side2=>exact(Kd.Aa HO_5.out).2.1);rintro e d6 ⟨b1,rfl,a5,hb⟩;refine⟨_,rfl,?_⟩;have a4:=ak (Kd.BS (Kd.Af (ok':=fun k_=>some k_≠(.slice a6 t821.length a7:Value).ownBlock/\k_≠a2) a5 (fun k_ hk_=>⟨(Kd.CN (Kd.QA (zs HO_5.out)) k_ hk_),(AK.fresh z8 k_ hk_)⟩)) (AA z7));replace HO_5:=ak (Kd.DO (zs HO_5.out) hb);replace HB:=ak (AG z7 hb);replace HI820:=ak (AK.below z8 hb))|(go_at_call 84;(with_reducible refine(CH.calls a2 t817 a0 a1 2 true t834 t835 w _ ?side1 ?side2 A9.out).mono ?_);(case side1=>exact z8);(case side2=>exact z7);rintro e d7 ⟨rfl,hi,hb,hk⟩;replace HO_5:=ak (Kd.Af (Kd.DL (AK.Dd (show AK w _ a2 t817 a0 a1 from z8) (zs HO_5.out) (by decide)) hk (fun _ h=>h.2)) (fun _ h=>h.1));replace a4:=ak (Kd.Af (Kd.DL (Kd.Af (ok:=fun k_=>(some k_≠(.slice a6 t821.length a7:Value).ownBlock/\k_≠a2)) (zs a4.out) (fun k_ hk_=>(⟨hk_,hk_.2⟩:_/\k_≠a2))) hk (fun _ h=>h.2)) (fun _ h=>h.1));replace HB:=ak (hb);replace HI820:=ak (hi)))
      go_ret2
      exact⟨_,ze,zs HO_5.out,z7⟩
     ·
      replace Du:=Bool.eq_false_iff.mpr Du;subst Du;rw[if_neg (show¬(false=true) by decide)]at H;have H':=ak H;clear H;obtain⟨a8,a9,d0⟩:=Kd.Bo HO_5.out;subst d0
      go_wp2_with (first|(refine zl (some 20) Try.func29 #[.slice a8 t821.length a9,.int .i64 a3] ?_;(with_reducible refine(AH.calls k1 _ _ t821 a3 t829 true _ ?side1 ?side2 A7.out).mono ?_);(case side1=>exact zc (Kd.Aa HO_5.out).2.2);(case side2=>exact(Kd.Aa HO_5.out).2.1);rintro e d8 ⟨b1,rfl,a5,hb⟩;refine⟨_,rfl,?_⟩;have a4:=ak (Kd.BS (Kd.Af (ok':=fun k_=>some k_≠(.slice a8 t821.length a9:Value).ownBlock/\k_≠a2) a5 (fun k_ hk_=>⟨(Kd.CN (Kd.QA (zs HO_5.out)) k_ hk_),(AK.fresh z8 k_ hk_)⟩)) (AA z7));replace HO_5:=ak (Kd.DO (zs HO_5.out) hb);replace HB:=ak (AG z7 hb);replace HI820:=ak (AK.below z8 hb))|(go_at_call 84;(with_reducible refine(CH.calls a2 t817 a0 a1 2 false t834 t835 w _ ?side1 ?side2 A9.out).mono ?_);(case side1=>exact z8);(case side2=>exact z7);rintro e d9 ⟨rfl,hi,hb,hk⟩;replace HO_5:=ak (Kd.Af (Kd.DL (AK.Dd (show AK w _ a2 t817 a0 a1 from z8) (zs HO_5.out) (by decide)) hk (fun _ h=>h.2)) (fun _ h=>h.1));replace a4:=ak (Kd.Af (Kd.DL (Kd.Af (ok:=fun k_=>(some k_≠(.slice a8 t821.length a9:Value).ownBlock/\k_≠a2)) (zs a4.out) (fun k_ hk_=>(⟨hk_,hk_.2⟩:_/\k_≠a2))) hk (fun _ h=>h.2)) (fun _ h=>h.1));replace HB:=ak (hb);replace HI820:=ak (hi)))
      go_roundg k1
      case measure=>have:=b0.out;omega
      case rel=>exact⟨(wrap64 (a3+1)),(t834),(t835),zd,H',⟨by have:=b0.out;omega⟩,⟨zs HO_5.out⟩,⟨z8⟩,⟨z7⟩⟩
    ·
     replace c8:=Bool.eq_false_iff.mpr c8;subst c8;rw[if_neg (show¬(false=true) by decide)]at H;have H':=ak H;clear H;obtain⟨b2,b3,d1⟩:=Kd.Bo HO_5.out;subst d1
     go_wp2_with (first|(refine zl (some 20) Try.func29 #[.slice b2 t821.length b3,.int .i64 a3] ?_;(with_reducible refine(AH.calls k1 _ _ t821 a3 t829 false _ ?side1 ?side2 A7.out).mono ?_);(case side1=>exact zc (Kd.Aa HO_5.out).2.2);(case side2=>exact(Kd.Aa HO_5.out).2.1);rintro e e0 ⟨b1,rfl,a5,hb⟩;refine⟨_,rfl,?_⟩;have a4:=ak (Kd.BS (Kd.Af (ok':=fun k_=>some k_≠(.slice b2 t821.length b3:Value).ownBlock/\k_≠a2) a5 (fun k_ hk_=>⟨(Kd.CN (Kd.QA (zs HO_5.out)) k_ hk_),(AK.fresh z8 k_ hk_)⟩)) (AA z7));replace HO_5:=ak (Kd.DO (zs HO_5.out) hb);replace HB:=ak (AG z7 hb);replace HI820:=ak (AK.below z8 hb)))
     go_roundg k1
     case measure=>have:=b0.out;omega
     case rel=>exact⟨(wrap64 (a3+1)),(a0),(a1),zd,H',⟨by have:=b0.out;omega⟩,⟨zs HO_5.out⟩,⟨z8⟩,⟨z7⟩⟩
   ·
    rw[if_neg c6]at H;have b9:=decide_eq_false c6;clear c6;replace H:=gb H;obtain⟨⟨t826,t827,t828⟩,d4,H⟩:=H;dsimp only at H;simp only[Option.some.injEq,Prod.mk.injEq]at H;obtain⟨rfl,rfl⟩:=H
    go_wp2_with (first|(refine zl (some 32) Try.func82 #[.pointer (some ⟨a2,0,none⟩),.int .i64 10] ?_;(with_reducible refine(Ad.calls a2 t817 a0 a1 10 t826 t827 t828 w _ ?side1 ?side2 d4.out).mono ?_);(case side1=>exact z8);(case side2=>exact z7);rintro e e1 ⟨rfl,hi,hb,hk⟩;refine⟨_,rfl,?_⟩;replace HO_5:=ak (Kd.Af (Kd.DL (AK.Dd (show AK w _ a2 t817 a0 a1 from z8) (zs HO_5.out) (by decide)) hk (fun _ h=>h.2)) (fun _ h=>h.1));replace HB:=ak (hb);replace HI820:=ak (hi)))
    go_ret2
    exact⟨_,ze,zs HO_5.out,z7⟩
def DE.f (k:Nat) (l0:List Int):Option ((List (List Int))×Int×Int):=(Bv.f k l0).bind fun a0=>((BW.f k a0.1 a0.2.1 a0.2.2).bind fun a1=>((Ad.f a0.1 a1.2.1 a1.2.2 (wrap64 ((a1.1.length:Int)+1))).bind fun a2=>((CH.f a0.1 a2.2.1 a2.2.2 14).bind fun a3=>((BD.f a3.1).bind fun t851=>((Bm.f a0.1 a3.2.1 a3.2.2 (([0,1,2,(-1),9]:List Int))).bind fun a4=>(some (a1.1,wrap64 (a2.1-t851),a4.1)))))))
theorem DE.calls (k:Nat) (A0:Option Addr) (c0:Nat) (l0:List Int) (r1:List (List Int)) (r2 r3:Int) (w:World) (a8:Kd.C (Kd.int .u8) w A0 l0.length l0) (a9:l0.length<=c0) (h:DE.f k l0=some (r1,r2,r3)):
 Calls Try.prog 36 #[.slice A0 l0.length c0] w fun e w'=> ∃b0:Value,e= .returned (.tuple #[b0,.int .i64 r2,.int .i64 r3])/\Kd.S (Kd.slice 3 (Kd.int .i64)) 47 w' w.heap.size (fun _=>True) b0 r1/\Below w.heap.size w w':=by
 have b6:=ak a8;have b7:=ak a9;clear a8 a9;have HB:=ak (Below.refl w.heap.size w);have H:=h;clear h;unfold DE.f at H;replace H:=gb H;obtain⟨⟨t836,t837,t838⟩,A2,H⟩:=H;dsimp only at H;replace H:=gb H;obtain⟨⟨t840,t843,t844⟩,A3,H⟩:=H;dsimp only at H;replace H:=gb H;obtain⟨⟨t845,t846,t847⟩,A4,H⟩:=H;dsimp only at H;replace H:=gb H;obtain⟨⟨t848,t849,t850⟩,A5,H⟩:=H;dsimp only at H;replace H:=gb H;obtain⟨t851,A6,H⟩:=H;obtain⟨a5,a4⟩: ∃y_:List Int,y_=(([0,1,2,(-1),9]:List Int)):=⟨_,rfl⟩;replace H:((Bm.f t836 t849 t850 a5).bind fun a7=>(some (t840,wrap64 (t845-t851),a7.1)))=some (r1,r2,r3):=zy a4 H;have a6:=ak a4;clear a4;replace H:=gb H;obtain⟨⟨t855,t856,t857⟩,A7,H⟩:=H;dsimp only at H;simp only[Option.some.injEq,Prod.mk.injEq]at H;obtain⟨rfl,rfl,rfl⟩:=H
 go_enter Try.func36,Try.ntmps36
 go_wp2_with (first|(refine zl (some 8) Try.func80 #[.slice A0 l0.length c0] ?_;(with_reducible refine(Bv.calls k _ _ l0 t836 t837 t838 w _ ?side1 ?side2 ?side3 A2.out).mono ?_);(case side1=>exact z0);(case side2=>exact b6.out);(case side3=>exact b7.out);rintro e w8 ⟨a1,rfl,hi,hb,b8⟩;refine⟨_,rfl,?_⟩;replace HB:=ak (hb);have HI839:=ak (hi))|(refine zl (some 10) Try.func81 #[.pointer (some ⟨a1,0,none⟩)] ?_;(with_reducible refine(BW.calls k a1 t836 t837 t838 t840 t843 t844 w _ ?side1 ?side2 A3.out).mono ?_);(case side1=>exact VB);(case side2=>exact Vb);rintro e w9 ⟨b9,rfl,b1,hi,hb,hk⟩;refine⟨_,rfl,?_⟩;have a0:=ak (Kd.BS b1 (AA Vb));replace HB:=ak (hb);replace HI839:=ak (hi);obtain⟨c1,d0,b2⟩:=Kd.Bo a0.out;subst b2)|(refine zl (some 16) Try.func82 #[.pointer (some ⟨a1,0,none⟩),.int .i64 (wrap64 ((t840.length:Int)+1))] ?_;(with_reducible refine(Ad.calls a1 t836 t843 t844 (wrap64 ((t840.length:Int)+1)) t845 t846 t847 w _ ?side1 ?side2 A4.out).mono ?_);(case side1=>exact VB);(case side2=>exact Vb);rintro e d2 ⟨rfl,hi,hb,hk⟩;refine⟨_,rfl,?_⟩;replace a0:=ak (Kd.Af (Kd.DL (AK.Dd (show AK w _ a1 t836 t843 t844 from VB) (zs a0.out) (by decide)) hk (fun _ h=>h.2)) (fun _ h=>h.1));replace HB:=ak (hb);replace HI839:=ak (hi))|(refine zl (some 18) Try.func84 #[.pointer (some ⟨a1,0,none⟩),.int .i64 14] ?_;(with_reducible refine(CH.calls a1 t836 t846 t847 14 t848 t849 t850 w _ ?side1 ?side2 A5.out).mono ?_);(case side1=>exact VB);(case side2=>exact Vb);rintro e d3 ⟨rfl,hi,hb,hk⟩;refine⟨_,rfl,?_⟩;replace a0:=ak (Kd.Af (Kd.DL (AK.Dd (show AK w _ a1 t836 t846 t847 from VB) (zs a0.out) (by decide)) hk (fun _ h=>h.2)) (fun _ h=>h.1));replace HB:=ak (hb);replace HI839:=ak (hi))|(refine zl (some 19) Try.func83 #[.bool t848] ?_;(with_reducible refine(BD.calls t848 t851 _ A6.out).mono ?_);rintro e w' ⟨rfl,⟨nd,rfl⟩⟩;refine⟨_,rfl,?_⟩)|((with_reducible refine Ar (N:=22) rfl ?_);refine Kd.DS (Kd.int .i64) _ 3 ?hg (N:=22) ?hd (xs:=([0,1,2,(-1),9]:List Int)) (inner:=[.int .i64 0,.int .i64 1,.int .i64 2,.int .i64 (-1),.int .i64 9]) (ok:=fun _=>True) (okp:=fun _=>True) ?hr ?hp (fun _ hk=>hk) trivial (Below.refl _ _) (Nat.le_refl _) (by simp) ?_;(case hd=>rfl);(case hg=>rfl);(case hr=>first|(go_simp;done)|(go_simp;rfl));(case hp=>exact(Av.one (show Kd.M (Kd.int .i64) _ _ _ 0 [.int .i64 0]from rfl) (Av.one (show Kd.M (Kd.int .i64) _ _ _ 1 [.int .i64 1]from rfl) (Av.one (show Kd.M (Kd.int .i64) _ _ _ 2 [.int .i64 2]from rfl) (Av.one (show Kd.M (Kd.int .i64) _ _ _ (-1) [.int .i64 (-1)]from rfl) (Av.one (show Kd.M (Kd.int .i64) _ _ _ 9 [.int .i64 9]from rfl) (Av.none _ _)))))));intro d1 d4 a3 hb hg_ hnew_;clear hg_ hnew_;(first|rw[<-a6.out]at a3|(simp only[Int.reduceToNat]at a3;rw[<-a6.out]at a3));replace a0:=ak (Kd.Cq (zs a0.out) (Kd.CC a3) hb);have a2:=ak (Kd.BA a3 (AA Vb));replace HB:=ak (AG Vb hb);replace HI839:=ak (AK.below VB hb);clear hb a3;obtain⟨b3,b4,b5⟩:=Kd.Al a2.out;subst b5)|(refine zl (some 23) Try.func85 #[.pointer (some ⟨a1,0,none⟩),.slice b3 a5.length b4] ?_;(with_reducible refine(Bm.calls a1 t836 t849 t850 _ _ a5 t855 t856 t857 w _ ?side1 ?side2 ?side3 ?side4 ?side5 A7.out).mono ?_);(case side1=>exact VB);(case side2=>exact Vb);(case side3=>exact zc (Kd.AN a2.out).2.2);(case side4=>exact(Kd.AN a2.out).2.1);(case side5=>exact Hr (AK.Dc HI839.out a2.out (by decide)));rintro e d5 ⟨rfl,hi,hb,hk⟩;refine⟨_,rfl,?_⟩;replace a0:=ak (Kd.Af (Kd.DL (AK.Dd (show AK w _ a1 t836 t849 t850 from VB) (zs a0.out) (by decide)) hk (fun _ h=>h.2)) (fun _ h=>h.1));replace a2:=ak (Kd.AV (Kd.EU (AK.apart (show AK w _ a1 t836 t849 t850 from VB) (zr a2.out) (by decide)) hk (fun _ h=>h.2)) (fun _ h=>h.1));replace HB:=ak (hb);replace HI839:=ak (hi)))
 go_ret3
 exact⟨_,ze,by(with_reducible repeat(first|apply Kd.Bj|apply Kd.Bh|apply Kd.Bx));exact Kd.Af a0.out (fun _ hk=>trivial),Vb⟩
def Cr.f (k:Nat) (l0:List Int):Option ((List (List Int))×Int):=(Bv.f k l0).bind fun a0=>((BW.f k a0.1 a0.2.1 a0.2.2).bind fun a1=>((Ad.f a0.1 a1.2.1 a1.2.2 (wrap64 ((a1.1.length:Int)+1))).bind fun a2=>((CH.f a0.1 a2.2.1 a2.2.2 14).bind fun a3=>((BD.f a3.1).bind fun t873=>(some (a1.1,wrap64 (a2.1-t873)))))))
theorem Cr.calls (k:Nat) (A0:Option Addr) (c0:Nat) (l0:List Int) (r1:List (List Int)) (r2:Int) (w:World) (a3:Kd.C (Kd.int .u8) w A0 l0.length l0) (a4:l0.length<=c0) (h:Cr.f k l0=some (r1,r2)):
 Calls Try.prog 37 #[.slice A0 l0.length c0] w fun e w'=> ∃a5:Value,e= .returned (.tuple #[a5,.int .i64 r2])/\Kd.S (Kd.slice 3 (Kd.int .i64)) 47 w' w.heap.size (fun _=>True) a5 r1/\Below w.heap.size w w':=by
 have a7:=ak a3;have a8:=ak a4;clear a3 a4;have HB:=ak (Below.refl w.heap.size w);have H:=h;clear h;unfold Cr.f at H;replace H:=gb H;obtain⟨⟨t858,t859,t860⟩,A2,H⟩:=H;dsimp only at H;replace H:=gb H;obtain⟨⟨t862,t865,t866⟩,A3,H⟩:=H;dsimp only at H;replace H:=gb H;obtain⟨⟨t867,t868,t869⟩,A4,H⟩:=H;dsimp only at H;replace H:=gb H;obtain⟨⟨t870,t871,t872⟩,A5,H⟩:=H;dsimp only at H;replace H:=gb H;obtain⟨t873,A6,H⟩:=H;simp only[Option.some.injEq,Prod.mk.injEq]at H;obtain⟨rfl,rfl⟩:=H
 go_enter Try.func37,Try.ntmps37
 go_wp2_with (first|(refine zl (some 7) Try.func80 #[.slice A0 l0.length c0] ?_;(with_reducible refine(Bv.calls k _ _ l0 t858 t859 t860 w _ ?side1 ?side2 ?side3 A2.out).mono ?_);(case side1=>exact z0);(case side2=>exact a7.out);(case side3=>exact a8.out);rintro e w7 ⟨a1,rfl,hi,hb,a9⟩;refine⟨_,rfl,?_⟩;replace HB:=ak (hb);have a0:=ak (hi))|(refine zl (some 9) Try.func81 #[.pointer (some ⟨a1,0,none⟩)] ?_;(with_reducible refine(BW.calls k a1 t858 t859 t860 t862 t865 t866 w _ ?side1 ?side2 A3.out).mono ?_);(case side1=>repeat(first|(with_reducible first|exact a0.out|apply AK.alloc|apply AK.drewN|apply AK.drew|apply AK.GS|apply AK.GU)|exact a0.out));(case side2=>repeat(first|(with_reducible first|exact HB.out|apply Aq|apply AQ|apply Ab|refine BC ?_ (AK.ge a0.out))|exact HB.out));rintro e w8 ⟨b1,rfl,a6,hi,hb,hk⟩;refine⟨_,rfl,?_⟩;have a2:=ak (Kd.BS a6 (AA (by repeat(first|(with_reducible first|exact HB.out|apply Aq|apply AQ|apply Ab|refine BC ?_ (AK.ge a0.out))|exact HB.out))));replace HB:=ak (hb);replace a0:=ak (hi);obtain⟨b2,b3,b0⟩:=Kd.Bo a2.out;subst b0)|(refine zl (some 15) Try.func82 #[.pointer (some ⟨a1,0,none⟩),.int .i64 (wrap64 ((t862.length:Int)+1))] ?_;(with_reducible refine(Ad.calls a1 t858 t865 t866 (wrap64 ((t862.length:Int)+1)) t867 t868 t869 w _ ?side1 ?side2 A4.out).mono ?_);(case side1=>repeat(first|(with_reducible first|exact a0.out|apply AK.alloc|apply AK.drewN|apply AK.drew|apply AK.GS|apply AK.GU)|exact a0.out));(case side2=>repeat(first|(with_reducible first|exact HB.out|apply Aq|apply AQ|apply Ab|refine BC ?_ (AK.ge a0.out))|exact HB.out));rintro e b4 ⟨rfl,hi,hb,hk⟩;refine⟨_,rfl,?_⟩;replace a2:=ak (Kd.Af (Kd.DL (AK.Dd (show AK w _ a1 t858 t865 t866 from by repeat(first|(with_reducible first|exact a0.out|apply AK.alloc|apply AK.drewN|apply AK.drew|apply AK.GS|apply AK.GU)|exact a0.out)) (zs a2.out) (by decide)) hk (fun _ h=>h.2)) (fun _ h=>h.1));replace HB:=ak (hb);replace a0:=ak (hi))|(refine zl (some 17) Try.func84 #[.pointer (some ⟨a1,0,none⟩),.int .i64 14] ?_;(with_reducible refine(CH.calls a1 t858 t868 t869 14 t870 t871 t872 w _ ?side1 ?side2 A5.out).mono ?_);(case side1=>repeat(first|(with_reducible first|exact a0.out|apply AK.alloc|apply AK.drewN|apply AK.drew|apply AK.GS|apply AK.GU)|exact a0.out));(case side2=>repeat(first|(with_reducible first|exact HB.out|apply Aq|apply AQ|apply Ab|refine BC ?_ (AK.ge a0.out))|exact HB.out));rintro e b5 ⟨rfl,hi,hb,hk⟩;refine⟨_,rfl,?_⟩;replace a2:=ak (Kd.Af (Kd.DL (AK.Dd (show AK w _ a1 t858 t868 t869 from by repeat(first|(with_reducible first|exact a0.out|apply AK.alloc|apply AK.drewN|apply AK.drew|apply AK.GS|apply AK.GU)|exact a0.out)) (zs a2.out) (by decide)) hk (fun _ h=>h.2)) (fun _ h=>h.1));replace HB:=ak (hb);replace a0:=ak (hi))|(refine zl (some 18) Try.func83 #[.bool t870] ?_;(with_reducible refine(BD.calls t870 t873 _ A6.out).mono ?_);rintro e w' ⟨rfl,⟨nd,rfl⟩⟩;refine⟨_,rfl,?_⟩))
 go_ret2
 exact⟨_,ze,zs a2.out,by repeat(first|(with_reducible first|exact HB.out|apply Aq|apply AQ|apply Ab|refine BC ?_ (AK.ge a0.out))|exact HB.out)⟩
def DC.f (k:Nat) (l0:List Int):Option ((List (List Int))×Int×Int):=(Bv.f k l0).bind fun a0=>((BW.f k a0.1 a0.2.1 a0.2.2).bind fun a1=>((Ad.f a0.1 a1.2.1 a1.2.2 8).bind fun a2=>((Bm.f a0.1 a2.2.1 a2.2.2 (([1,2,3,8,0,9]:List Int))).bind fun a3=>(some (a1.1,wrap64 (1+a2.1),a3.1)))))
theorem DC.calls (k:Nat) (A0:Option Addr) (c0:Nat) (l0:List Int) (r1:List (List Int)) (r2 r3:Int) (w:World) (a8:Kd.C (Kd.int .u8) w A0 l0.length l0) (a9:l0.length<=c0) (h:DC.f k l0=some (r1,r2,r3)):
 Calls Try.prog 38 #[.slice A0 l0.length c0] w fun e w'=> ∃b0:Value,e= .returned (.tuple #[b0,.int .i64 r2,.int .i64 r3])/\Kd.S (Kd.slice 3 (Kd.int .i64)) 47 w' w.heap.size (fun _=>True) b0 r1/\Below w.heap.size w w':=by
 have b4:=ak a8;have b5:=ak a9;clear a8 a9;have HB:=ak (Below.refl w.heap.size w);have H:=h;clear h;unfold DC.f at H;replace H:=gb H;obtain⟨⟨t874,t875,t876⟩,A2,H⟩:=H;dsimp only at H;replace H:=gb H;obtain⟨⟨t878,t881,t882⟩,A3,H⟩:=H;dsimp only at H;replace H:=gb H;obtain⟨⟨t883,t884,t885⟩,A4,H⟩:=H;dsimp only at H;obtain⟨a5,a4⟩: ∃y_:List Int,y_=(([1,2,3,8,0,9]:List Int)):=⟨_,rfl⟩;replace H:((Bm.f t874 t884 t885 a5).bind fun a7=>(some (t878,wrap64 (1+t883),a7.1)))=some (r1,r2,r3):=zy a4 H;have a6:=ak a4;clear a4;replace H:=gb H;obtain⟨⟨t889,t890,t891⟩,A5,H⟩:=H;dsimp only at H;simp only[Option.some.injEq,Prod.mk.injEq]at H;obtain⟨rfl,rfl,rfl⟩:=H
 go_enter Try.func38,Try.ntmps38
 go_wp2_with (first|(refine zl (some 7) Try.func80 #[.slice A0 l0.length c0] ?_;(with_reducible refine(Bv.calls k _ _ l0 t874 t875 t876 w _ ?side1 ?side2 ?side3 A2.out).mono ?_);(case side1=>exact z0);(case side2=>exact b4.out);(case side3=>exact b5.out);rintro e w6 ⟨a0,rfl,hi,hb,b9⟩;refine⟨_,rfl,?_⟩;replace HB:=ak (hb);have HI877:=ak (hi))|(refine zl (some 9) Try.func81 #[.pointer (some ⟨a0,0,none⟩)] ?_;(with_reducible refine(BW.calls k a0 t874 t875 t876 t878 t881 t882 w _ ?side1 ?side2 A3.out).mono ?_);(case side1=>exact Wv);(case side2=>exact WO);rintro e w7 ⟨b7,rfl,b6,hi,hb,hk⟩;refine⟨_,rfl,?_⟩;have a1:=ak (Kd.BS b6 (AA WO));replace HB:=ak (hb);replace HI877:=ak (hi))|(refine zl (some 11) Try.func82 #[.pointer (some ⟨a0,0,none⟩),.int .i64 8] ?_;(with_reducible refine(Ad.calls a0 t874 t881 t882 8 t883 t884 t885 w _ ?side1 ?side2 A4.out).mono ?_);(case side1=>exact Wv);(case side2=>exact WO);rintro e w8 ⟨rfl,hi,hb,hk⟩;refine⟨_,rfl,?_⟩;replace a1:=ak (Kd.Af (Kd.DL (AK.Dd (show AK w _ a0 t874 t881 t882 from Wv) (zs a1.out) (by decide)) hk (fun _ h=>h.2)) (fun _ h=>h.1));replace HB:=ak (hb);replace HI877:=ak (hi))|((with_reducible refine Ar (N:=14) rfl ?_);refine Kd.DS (Kd.int .i64) _ 3 ?hg (N:=14) ?hd (xs:=([1,2,3,8,0,9]:List Int)) (inner:=[.int .i64 1,.int .i64 2,.int .i64 3,.int .i64 8,.int .i64 0,.int .i64 9]) (ok:=fun _=>True) (okp:=fun _=>True) ?hr ?hp (fun _ hk=>hk) trivial (Below.refl _ _) (Nat.le_refl _) (by simp) ?_;(case hd=>rfl);(case hg=>rfl);(case hr=>first|(go_simp;done)|(go_simp;rfl));(case hp=>exact(Av.one (show Kd.M (Kd.int .i64) _ _ _ 1 [.int .i64 1]from rfl) (Av.one (show Kd.M (Kd.int .i64) _ _ _ 2 [.int .i64 2]from rfl) (Av.one (show Kd.M (Kd.int .i64) _ _ _ 3 [.int .i64 3]from rfl) (Av.one (show Kd.M (Kd.int .i64) _ _ _ 8 [.int .i64 8]from rfl) (Av.one (show Kd.M (Kd.int .i64) _ _ _ 0 [.int .i64 0]from rfl) (Av.one (show Kd.M (Kd.int .i64) _ _ _ 9 [.int .i64 9]from rfl) (Av.none _ _))))))));intro b8 w9 a3 hb hg_ hnew_;clear hg_ hnew_;(first|rw[<-a6.out]at a3|(simp only[Int.reduceToNat]at a3;rw[<-a6.out]at a3));replace a1:=ak (Kd.Cq (zs a1.out) (Kd.CC a3) hb);have a2:=ak (Kd.BA a3 (AA WO));replace HB:=ak (AG WO hb);replace HI877:=ak (AK.below Wv hb);clear hb a3;obtain⟨b1,b2,b3⟩:=Kd.Al a2.out;subst b3)|(refine zl (some 15) Try.func85 #[.pointer (some ⟨a0,0,none⟩),.slice b1 a5.length b2] ?_;(with_reducible refine(Bm.calls a0 t874 t884 t885 _ _ a5 t889 t890 t891 w _ ?side1 ?side2 ?side3 ?side4 ?side5 A5.out).mono ?_);(case side1=>exact Wv);(case side2=>exact WO);(case side3=>exact zc (Kd.AN a2.out).2.2);(case side4=>exact(Kd.AN a2.out).2.1);(case side5=>exact Hr (AK.Dc HI877.out a2.out (by decide)));rintro e c1 ⟨rfl,hi,hb,hk⟩;refine⟨_,rfl,?_⟩;replace a1:=ak (Kd.Af (Kd.DL (AK.Dd (show AK w _ a0 t874 t884 t885 from Wv) (zs a1.out) (by decide)) hk (fun _ h=>h.2)) (fun _ h=>h.1));replace a2:=ak (Kd.AV (Kd.EU (AK.apart (show AK w _ a0 t874 t884 t885 from Wv) (zr a2.out) (by decide)) hk (fun _ h=>h.2)) (fun _ h=>h.1));replace HB:=ak (hb);replace HI877:=ak (hi)))
 go_ret3
 exact⟨_,ze,by(with_reducible repeat(first|apply Kd.Bj|apply Kd.Bh|apply Kd.Bx));exact Kd.Af a1.out (fun _ hk=>trivial),WO⟩
def Ct.f (k:Nat) (l0:List Int):Option ((List (List Int))×Int):=(Bv.f k l0).bind fun a0=>((BW.f k a0.1 a0.2.1 a0.2.2).bind fun a1=>((Bm.f a0.1 a1.2.1 a1.2.2 (([1,2,3,4,8,0,9]:List Int))).bind fun a2=>(some (a1.1,a2.1))))
theorem Ct.calls (k:Nat) (A0:Option Addr) (c0:Nat) (l0:List Int) (r1:List (List Int)) (r2:Int) (w:World) (a8:Kd.C (Kd.int .u8) w A0 l0.length l0) (a9:l0.length<=c0) (h:Ct.f k l0=some (r1,r2)):
 Calls Try.prog 39 #[.slice A0 l0.length c0] w fun e w'=> ∃b0:Value,e= .returned (.tuple #[b0,.int .i64 r2])/\Kd.S (Kd.slice 3 (Kd.int .i64)) 47 w' w.heap.size (fun _=>True) b0 r1/\Below w.heap.size w w':=by
 have b1:=ak a8;have b2:=ak a9;clear a8 a9;have HB:=ak (Below.refl w.heap.size w);have H:=h;clear h;unfold Ct.f at H;replace H:=gb H;obtain⟨⟨t892,t893,t894⟩,A2,H⟩:=H;dsimp only at H;replace H:=gb H;obtain⟨⟨t896,t899,t900⟩,A3,H⟩:=H;dsimp only at H;obtain⟨a5,a4⟩: ∃y_:List Int,y_=(([1,2,3,4,8,0,9]:List Int)):=⟨_,rfl⟩;replace H:((Bm.f t892 t899 t900 a5).bind fun a7=>(some (t896,a7.1)))=some (r1,r2):=zy a4 H;have a6:=ak a4;clear a4;replace H:=gb H;obtain⟨⟨t904,t905,t906⟩,A4,H⟩:=H;dsimp only at H;simp only[Option.some.injEq,Prod.mk.injEq]at H;obtain⟨rfl,rfl⟩:=H
 go_enter Try.func39,Try.ntmps39
 go_wp2_with (first|(refine zl (some 6) Try.func80 #[.slice A0 l0.length c0] ?_;(with_reducible refine(Bv.calls k _ _ l0 t892 t893 t894 w _ ?side1 ?side2 ?side3 A2.out).mono ?_);(case side1=>exact z0);(case side2=>exact b1.out);(case side3=>exact b2.out);rintro e w5 ⟨a2,rfl,hi,hb,b9⟩;refine⟨_,rfl,?_⟩;replace HB:=ak (hb);have HI895:=ak (hi))|(refine zl (some 8) Try.func81 #[.pointer (some ⟨a2,0,none⟩)] ?_;(with_reducible refine(BW.calls k a2 t892 t893 t894 t896 t899 t900 w _ ?side1 ?side2 A3.out).mono ?_);(case side1=>exact XS);(case side2=>exact XN);rintro e w6 ⟨b7,rfl,b3,hi,hb,hk⟩;refine⟨_,rfl,?_⟩;have a1:=ak (Kd.BS b3 (AA XN));replace HB:=ak (hb);replace HI895:=ak (hi))|((with_reducible refine Ar (N:=10) rfl ?_);refine Kd.DS (Kd.int .i64) _ 3 ?hg (N:=10) ?hd (xs:=([1,2,3,4,8,0,9]:List Int)) (inner:=[.int .i64 1,.int .i64 2,.int .i64 3,.int .i64 4,.int .i64 8,.int .i64 0,.int .i64 9]) (ok:=fun _=>True) (okp:=fun _=>True) ?hr ?hp (fun _ hk=>hk) trivial (Below.refl _ _) (Nat.le_refl _) (by simp) ?_;(case hd=>rfl);(case hg=>rfl);(case hr=>first|(go_simp;done)|(go_simp;rfl));(case hp=>exact(Av.one (show Kd.M (Kd.int .i64) _ _ _ 1 [.int .i64 1]from rfl) (Av.one (show Kd.M (Kd.int .i64) _ _ _ 2 [.int .i64 2]from rfl) (Av.one (show Kd.M (Kd.int .i64) _ _ _ 3 [.int .i64 3]from rfl) (Av.one (show Kd.M (Kd.int .i64) _ _ _ 4 [.int .i64 4]from rfl) (Av.one (show Kd.M (Kd.int .i64) _ _ _ 8 [.int .i64 8]from rfl) (Av.one (show Kd.M (Kd.int .i64) _ _ _ 0 [.int .i64 0]from rfl) (Av.one (show Kd.M (Kd.int .i64) _ _ _ 9 [.int .i64 9]from rfl) (Av.none _ _)))))))));intro b8 w7 a3 hb hg_ hnew_;clear hg_ hnew_;(first|rw[<-a6.out]at a3|(simp only[Int.reduceToNat]at a3;rw[<-a6.out]at a3));replace a1:=ak (Kd.Cq (zs a1.out) (Kd.CC a3) hb);have a0:=ak (Kd.BA a3 (AA XN));replace HB:=ak (AG XN hb);replace HI895:=ak (AK.below XS hb);clear hb a3;obtain⟨b4,b5,b6⟩:=Kd.Al a0.out;subst b6)|(refine zl (some 11) Try.func85 #[.pointer (some ⟨a2,0,none⟩),.slice b4 a5.length b5] ?_;(with_reducible refine(Bm.calls a2 t892 t899 t900 _ _ a5 t904 t905 t906 w _ ?side1 ?side2 ?side3 ?side4 ?side5 A4.out).mono ?_);(case side1=>exact XS);(case side2=>exact XN);(case side3=>exact zc (Kd.AN a0.out).2.2);(case side4=>exact(Kd.AN a0.out).2.1);(case side5=>exact Hr (AK.Dc HI895.out a0.out (by decide)));rintro e c1 ⟨rfl,hi,hb,hk⟩;refine⟨_,rfl,?_⟩;replace a1:=ak (Kd.Af (Kd.DL (AK.Dd (show AK w _ a2 t892 t899 t900 from XS) (zs a1.out) (by decide)) hk (fun _ h=>h.2)) (fun _ h=>h.1));replace a0:=ak (Kd.AV (Kd.EU (AK.apart (show AK w _ a2 t892 t899 t900 from XS) (zr a0.out) (by decide)) hk (fun _ h=>h.2)) (fun _ h=>h.1));replace HB:=ak (hb);replace HI895:=ak (hi)))
 go_ret2
 exact⟨_,ze,by(with_reducible repeat(first|apply Kd.Bj|apply Kd.Bh|apply Kd.Bx));exact Kd.Af a1.out (fun _ hk=>trivial),XN⟩
mutual
def AZ.l0:Nat->List (List Int)->Int->List Int->Int->Int->Option ((List (List Int))×Int×Int)
 |0,_,_,_,_,_=>none
 |k+1,x6,x7,a0,a1,a2=>if x7<(x6.length:Int)then(AZ.l1 k x6 x7 0 a0 a1 a2)else((Ad.f a0 a1 a2 (wrap64 ((x6.length:Int)+1))).bind fun a3=>((CH.f a0 a3.2.1 a3.2.2 14).bind fun a4=>((BD.f a4.1).bind fun t930=>((Ad.f a0 a4.2.1 a4.2.2 5).bind fun a5=>(some (x6,wrap64 (a3.1-t930),a5.1))))))
def AZ.l1:Nat->List (List Int)->Int->Int->List Int->Int->Int->Option ((List (List Int))×Int×Int)
 |0,_,_,_,_,_,_=>none
 |k+1,x6,x7,x8,a0,a1,a2=>if 0<=x7 then(if x7<(x6.length:Int)then(if x8<((AD x6 x7).length:Int)then((AR.f k x6 x7 x8).bind fun a4=>(if a4.2=true then((CH.f a0 a1 a2 2).bind fun a3=>(if a3.1=true then(some (x6,x7,x8))else(AZ.l1 k x6 x7 (wrap64 (x8+1)) a0 a3.2.1 a3.2.2)))else(AZ.l1 k x6 x7 (wrap64 (x8+1)) a0 a1 a2)))else(AZ.l0 k x6 (wrap64 (x7+1)) a0 a1 a2))else(none))else(none)
end
def AZ.f (k:Nat) (l0:List Int):Option ((List (List Int))×Int×Int):=(Bv.f k l0).bind fun a0=>((BW.f k a0.1 a0.2.1 a0.2.2).bind fun a1=>(AZ.l0 k a1.1 0 a0.1 a1.2.1 a1.2.2))
theorem AZ.calls (k:Nat) (A0:Option Addr) (c0:Nat) (l0:List Int) (r1:List (List Int)) (r2 r3:Int) (w:World) (e6:Kd.C (Kd.int .u8) w A0 l0.length l0) (e7:l0.length<=c0) (h:AZ.f k l0=some (r1,r2,r3)):
 Calls Try.prog 40 #[.slice A0 l0.length c0] w fun e w'=> ∃e8:Value,e= .returned (.tuple #[e8,.int .i64 r2,.int .i64 r3])/\Kd.S (Kd.slice 3 (Kd.int .i64)) 47 w' w.heap.size (fun _=>True) e8 r1/\Below w.heap.size w w':=by
 have f2:=ak e6;have f3:=ak e7;clear e6 e7;have HB:=ak (Below.refl w.heap.size w);have H:=h;clear h;unfold AZ.f at H;replace H:=gb H;obtain⟨⟨t907,t908,t909⟩,A2,H⟩:=H;dsimp only at H;replace H:=gb H;obtain⟨⟨t911,t914,t915⟩,A3,H⟩:=H;dsimp only at H;have H':=ak H;clear H
 go_enter Try.func40,Try.ntmps40
 go_wp2_with (first|(refine zl (some 12) Try.func80 #[.slice A0 l0.length c0] ?_;(with_reducible refine(Bv.calls k _ _ l0 t907 t908 t909 w _ ?side1 ?side2 ?side3 A2.out).mono ?_);(case side1=>exact z0);(case side2=>exact f2.out);(case side3=>exact f3.out);rintro e w4 ⟨a3,rfl,hi,hb,g4⟩;refine⟨_,rfl,?_⟩;replace HB:=ak (hb);have HI910:=ak (hi))|(refine zl (some 14) Try.func81 #[.pointer (some ⟨a3,0,none⟩)] ?_;(with_reducible refine(BW.calls k a3 t907 t908 t909 t911 t914 t915 w _ ?side1 ?side2 A3.out).mono ?_);(case side1=>exact z5);(case side2=>exact z6);rintro e w5 ⟨f0,rfl,d3,hi,hb,hk⟩;refine⟨_,rfl,?_⟩;have e4:=ak (Kd.BS d3 (AA z6));replace HB:=ak (hb);replace HI910:=ak (hi)))
 go_loopg [7] k (fun kq v7 w'=> ∃(a1:Int) (b2:Int) (b3:Int),v7= .int .i64 a1/\AJ (AZ.l0 kq t911 a1 t907 b2 b3=some (r1,r2,r3))/\AJ (kq<=k)/\AJ (Kd.S (Kd.slice 3 (Kd.int .i64)) 47 w' w.heap.size (fun _=>True) f0 t911)/\AJ (AK w w' a3 t907 b2 b3)/\AJ (Below w.heap.size w w'))
 case atStart=>exact⟨(0),(t914),(t915),zd,H',⟨Nat.le_refl _⟩,⟨zs e4.out⟩,⟨z5⟩,⟨z6⟩⟩
 case round=>
  clear H';obtain⟨a1,b2,b3,rfl,HA,d6,HO_6,HI910,HB⟩:=hrel
  cases gk with
  |zero=>exact absurd HA.out (by simp[AZ.l0])
  |succ k1=>
   have H:=HA.out;clear HA;simp only[AZ.l0]at H
   by_cases c6:a1<(t911.length:Int)
   ·
    rw[if_pos c6]at H;have e1:=decide_eq_true c6;clear c6;have H':=ak H;clear H;obtain⟨f4,d0,f5⟩:=Kd.Bo HO_6.out;subst f5
    go_wp2
    go_loopg [8] k1 (fun kq v8 w'=> ∃(b6:Int) (a4:Int) (a5:Int),v8= .int .i64 b6/\AJ (AZ.l1 kq t911 a1 b6 t907 a4 a5=some (r1,r2,r3))/\AJ (kq<=k1)/\AJ (Kd.S (Kd.slice 3 (Kd.int .i64)) 47 w' w.heap.size (fun _=>True) (.slice f4 t911.length d0) t911)/\AJ (AK w w' a3 t907 a4 a5)/\AJ (Below w.heap.size w w'))
    case atStart=>exact⟨(0),(b2),(b3),zd,H',⟨Nat.le_refl _⟩,⟨zs HO_6.out⟩,⟨z5⟩,⟨z6⟩⟩
    case round=>
     clear H';obtain⟨b6,a4,a5,rfl,HA,d7,HO_6,HI910,HB⟩:=hrel
     cases gk with
     |zero=>exact absurd HA.out (by simp[AZ.l1])
     |succ k2=>
      have H:=HA.out;clear HA;simp only[AZ.l1]at H;replace H:=gi H;obtain⟨c8,H⟩:=H;have g0:=decide_eq_true c8;clear c8;replace H:=gi H;obtain⟨c9,H⟩:=H;have g1:=decide_eq_true c9;clear c9
      by_cases Du:b6<((AD t911 a1).length:Int)
      ·
       rw[if_pos Du]at H;have e5:=decide_eq_true Du;clear Du;replace H:=gb H;obtain⟨⟨t917,t920⟩,e2,H⟩:=H;dsimp only at H
       by_cases d9:t920=true
       ·
        subst d9;rw[if_pos rfl]at H;replace H:=gb H;obtain⟨⟨t921,t922,t923⟩,e9,H⟩:=H;dsimp only at H
        by_cases e0:t921=true
        ·
         subst e0;rw[if_pos rfl]at H;simp only[Option.some.injEq,Prod.mk.injEq]at H;obtain⟨rfl,rfl,rfl⟩:=H;have a9:0<=(a1:Int):=za;have b0:a1<(t911.length:Int):=za;obtain⟨b4,d4,d5,c1,b5,a7,a8⟩:=Cl (Kd.Aa HO_6.out).2.2 a1 a9 b0;cases c1;obtain⟨d8,b7,b8,b1⟩:=Kd.ID HO_6.out [] a1 a9 (by first|exact b0|exact za|(have e_:=(Kd.Aa HO_6.out).1;omega));obtain⟨d1,rfl,a2⟩:=b8;have a0:=b1 0 _ rfl;rw[Nat.add_zero,show((Kd.slice 3 (Kd.int .i64))).sz=1 from rfl,Nat.mul_one]at a0;replace a0:=Option.some.inj (a0.symm.trans b5);rw[a0]at a2;have a6:=ak (show Kd.R (Kd.int .i64) 3 _ _ _ _ (AD t911 a1)from a2);clear a0 a2 b1 b7;have HR916_0:=ak a8;have d2:=ak a7;clear a8 a7;replace a9:=eq_true a9;replace b0:=eq_true b0
         go_wp2_with (first|(refine zl (some 34) Try.func27 #[.slice (some b4) t911.length d0,.int .i64 a1,.int .i64 b6] ?_;(with_reducible refine(AR.calls k2 _ _ t911 a1 b6 t917 true _ ?side1 ?side2 e2.out).mono ?_);(case side1=>exact zc (Kd.Aa HO_6.out).2.2);(case side2=>exact(Kd.Aa HO_6.out).2.1);rintro e g5 ⟨e3,rfl,d3,hb⟩;refine⟨_,rfl,?_⟩;replace a6:=ak (Kd.Co (zr a6.out) hb);have b9:=ak (Kd.BS (Kd.Af (ok':=fun k_=>some k_≠(.slice (some b4) t911.length d0:Value).ownBlock/\k_≠a3) d3 (fun k_ hk_=>⟨(Kd.CN (Kd.QA (zs HO_6.out)) k_ hk_),(AK.fresh z5 k_ hk_)⟩)) (AA z6));replace HO_6:=ak (Kd.DO (zs HO_6.out) hb);replace HR916_0:=ak (Kd.AM z21 hb);replace HB:=ak (AG z6 hb);replace HI910:=ak (AK.below z5 hb))|(go_at_call 84;(with_reducible refine(CH.calls a3 t907 a4 a5 2 true t922 t923 w _ ?side1 ?side2 e9.out).mono ?_);(case side1=>exact z5);(case side2=>exact z6);rintro e g6 ⟨rfl,hi,hb,hk⟩;replace HO_6:=ak (Kd.Af (Kd.DL (AK.Dd (show AK w _ a3 t907 a4 a5 from z5) (zs HO_6.out) (by decide)) hk (fun _ h=>h.2)) (fun _ h=>h.1));replace a6:=ak (Kd.AV (Kd.EU (AK.apart (show AK w _ a3 t907 a4 a5 from z5) (zr a6.out) (by decide)) hk (fun _ h=>h.2)) (fun _ h=>h.1));replace b9:=ak (Kd.Af (Kd.DL (Kd.Af (ok:=fun k_=>(some k_≠(.slice (some b4) t911.length d0:Value).ownBlock/\k_≠a3)) (zs b9.out) (fun k_ hk_=>(⟨hk_,hk_.2⟩:_/\k_≠a3))) hk (fun _ h=>h.2)) (fun _ h=>h.1));replace HB:=ak (hb);replace HI910:=ak (hi)))
         go_ret3
         exact⟨_,ze,zs HO_6.out,z6⟩
        ·
         replace e0:=Bool.eq_false_iff.mpr e0;subst e0;rw[if_neg (show¬(false=true) by decide)]at H;have H':=ak H;clear H;have a9:0<=(a1:Int):=za;have b0:a1<(t911.length:Int):=za;obtain⟨b4,d4,d5,c1,b5,a7,a8⟩:=Cl (Kd.Aa HO_6.out).2.2 a1 a9 b0;cases c1;obtain⟨d8,b7,b8,b1⟩:=Kd.ID HO_6.out [] a1 a9 (by first|exact b0|exact za|(have e_:=(Kd.Aa HO_6.out).1;omega));obtain⟨d1,rfl,a2⟩:=b8;have a0:=b1 0 _ rfl;rw[Nat.add_zero,show((Kd.slice 3 (Kd.int .i64))).sz=1 from rfl,Nat.mul_one]at a0;replace a0:=Option.some.inj (a0.symm.trans b5);rw[a0]at a2;have a6:=ak (show Kd.R (Kd.int .i64) 3 _ _ _ _ (AD t911 a1)from a2);clear a0 a2 b1 b7;have HR916_0:=ak a8;have d2:=ak a7;clear a8 a7;replace a9:=eq_true a9;replace b0:=eq_true b0
         go_wp2_with (first|(refine zl (some 34) Try.func27 #[.slice (some b4) t911.length d0,.int .i64 a1,.int .i64 b6] ?_;(with_reducible refine(AR.calls k2 _ _ t911 a1 b6 t917 true _ ?side1 ?side2 e2.out).mono ?_);(case side1=>exact zc (Kd.Aa HO_6.out).2.2);(case side2=>exact(Kd.Aa HO_6.out).2.1);rintro e g7 ⟨e3,rfl,d3,hb⟩;refine⟨_,rfl,?_⟩;replace a6:=ak (Kd.Co (zr a6.out) hb);have b9:=ak (Kd.BS (Kd.Af (ok':=fun k_=>some k_≠(.slice (some b4) t911.length d0:Value).ownBlock/\k_≠a3) d3 (fun k_ hk_=>⟨(Kd.CN (Kd.QA (zs HO_6.out)) k_ hk_),(AK.fresh z5 k_ hk_)⟩)) (AA z6));replace HO_6:=ak (Kd.DO (zs HO_6.out) hb);replace HR916_0:=ak (Kd.AM z21 hb);replace HB:=ak (AG z6 hb);replace HI910:=ak (AK.below z5 hb))|(go_at_call 84;(with_reducible refine(CH.calls a3 t907 a4 a5 2 false t922 t923 w _ ?side1 ?side2 e9.out).mono ?_);(case side1=>exact z5);(case side2=>exact z6);rintro e g8 ⟨rfl,hi,hb,hk⟩;replace HO_6:=ak (Kd.Af (Kd.DL (AK.Dd (show AK w _ a3 t907 a4 a5 from z5) (zs HO_6.out) (by decide)) hk (fun _ h=>h.2)) (fun _ h=>h.1));replace a6:=ak (Kd.AV (Kd.EU (AK.apart (show AK w _ a3 t907 a4 a5 from z5) (zr a6.out) (by decide)) hk (fun _ h=>h.2)) (fun _ h=>h.1));replace b9:=ak (Kd.Af (Kd.DL (Kd.Af (ok:=fun k_=>(some k_≠(.slice (some b4) t911.length d0:Value).ownBlock/\k_≠a3)) (zs b9.out) (fun k_ hk_=>(⟨hk_,hk_.2⟩:_/\k_≠a3))) hk (fun _ h=>h.2)) (fun _ h=>h.1));replace HB:=ak (hb);replace HI910:=ak (hi)))
         go_roundg k2
         case measure=>have:=d6.out;have:=d7.out;omega
         case rel=>exact⟨(wrap64 (b6+1)),(t922),(t923),zd,H',⟨by have:=d6.out;have:=d7.out;omega⟩,⟨zs HO_6.out⟩,⟨z5⟩,⟨z6⟩⟩
       ·
        replace d9:=Bool.eq_false_iff.mpr d9;subst d9;rw[if_neg (show¬(false=true) by decide)]at H;have H':=ak H;clear H;have a9:0<=(a1:Int):=za;have b0:a1<(t911.length:Int):=za;obtain⟨b4,d4,d5,c1,b5,a7,a8⟩:=Cl (Kd.Aa HO_6.out).2.2 a1 a9 b0;cases c1;obtain⟨d8,b7,b8,b1⟩:=Kd.ID HO_6.out [] a1 a9 (by first|exact b0|exact za|(have e_:=(Kd.Aa HO_6.out).1;omega));obtain⟨d1,rfl,a2⟩:=b8;have a0:=b1 0 _ rfl;rw[Nat.add_zero,show((Kd.slice 3 (Kd.int .i64))).sz=1 from rfl,Nat.mul_one]at a0;replace a0:=Option.some.inj (a0.symm.trans b5);rw[a0]at a2;have a6:=ak (show Kd.R (Kd.int .i64) 3 _ _ _ _ (AD t911 a1)from a2);clear a0 a2 b1 b7;have HR916_0:=ak a8;have d2:=ak a7;clear a8 a7;replace a9:=eq_true a9;replace b0:=eq_true b0
        go_wp2_with (first|(refine zl (some 34) Try.func27 #[.slice (some b4) t911.length d0,.int .i64 a1,.int .i64 b6] ?_;(with_reducible refine(AR.calls k2 _ _ t911 a1 b6 t917 false _ ?side1 ?side2 e2.out).mono ?_);(case side1=>exact zc (Kd.Aa HO_6.out).2.2);(case side2=>exact(Kd.Aa HO_6.out).2.1);rintro e g9 ⟨e3,rfl,d3,hb⟩;refine⟨_,rfl,?_⟩;replace a6:=ak (Kd.Co (zr a6.out) hb);have b9:=ak (Kd.BS (Kd.Af (ok':=fun k_=>some k_≠(.slice (some b4) t911.length d0:Value).ownBlock/\k_≠a3) d3 (fun k_ hk_=>⟨(Kd.CN (Kd.QA (zs HO_6.out)) k_ hk_),(AK.fresh z5 k_ hk_)⟩)) (AA z6));replace HO_6:=ak (Kd.DO (zs HO_6.out) hb);replace HR916_0:=ak (Kd.AM z21 hb);replace HB:=ak (AG z6 hb);replace HI910:=ak (AK.below z5 hb)))
        go_roundg k2
        case measure=>have:=d6.out;have:=d7.out;omega
        case rel=>exact⟨(wrap64 (b6+1)),(a4),(a5),zd,H',⟨by have:=d6.out;have:=d7.out;omega⟩,⟨zs HO_6.out⟩,⟨z5⟩,⟨z6⟩⟩
      ·
       rw[if_neg Du]at H;have e5:=decide_eq_false Du;clear Du;have H':=ak H;clear H;have a9:0<=(a1:Int):=za;have b0:a1<(t911.length:Int):=za;obtain⟨b4,d4,d5,c1,b5,a7,a8⟩:=Cl (Kd.Aa HO_6.out).2.2 a1 a9 b0;cases c1;obtain⟨d8,b7,b8,b1⟩:=Kd.ID HO_6.out [] a1 a9 (by first|exact b0|exact za|(have e_:=(Kd.Aa HO_6.out).1;omega));obtain⟨d1,rfl,a2⟩:=b8;have a0:=b1 0 _ rfl;rw[Nat.add_zero,show((Kd.slice 3 (Kd.int .i64))).sz=1 from rfl,Nat.mul_one]at a0;replace a0:=Option.some.inj (a0.symm.trans b5);rw[a0]at a2;have a6:=ak (show Kd.R (Kd.int .i64) 3 _ _ _ _ (AD t911 a1)from a2);clear a0 a2 b1 b7;have HR916_0:=ak a8;have d2:=ak a7;clear a8 a7;replace a9:=eq_true a9;replace b0:=eq_true b0
       go_wp2
       go_roundg k2
       case measure=>have:=d6.out;have:=d7.out;omega
       case rel=>exact⟨(wrap64 (a1+1)),(a4),(a5),zd,H',⟨by have:=d6.out;have:=d7.out;omega⟩,⟨zs HO_6.out⟩,⟨z5⟩,⟨z6⟩⟩
   ·
    rw[if_neg c6]at H;have e1:=decide_eq_false c6;clear c6;replace H:=gb H;obtain⟨⟨t924,t925,t926⟩,f6,H⟩:=H;dsimp only at H;replace H:=gb H;obtain⟨⟨t927,t928,t929⟩,f7,H⟩:=H;dsimp only at H;replace H:=gb H;obtain⟨t930,f8,H⟩:=H;replace H:=gb H;obtain⟨⟨t931,t932,t933⟩,f9,H⟩:=H;dsimp only at H;simp only[Option.some.injEq,Prod.mk.injEq]at H;obtain⟨rfl,rfl,rfl⟩:=H;obtain⟨g2,g3,f1⟩:=Kd.Bo HO_6.out;subst f1
    go_wp2_with (first|(refine zl (some 50) Try.func82 #[.pointer (some ⟨a3,0,none⟩),.int .i64 (wrap64 ((t911.length:Int)+1))] ?_;(with_reducible refine(Ad.calls a3 t907 b2 b3 (wrap64 ((t911.length:Int)+1)) t924 t925 t926 w _ ?side1 ?side2 f6.out).mono ?_);(case side1=>exact z5);(case side2=>exact z6);rintro e h3 ⟨rfl,hi,hb,hk⟩;refine⟨_,rfl,?_⟩;replace HO_6:=ak (Kd.Af (Kd.DL (AK.Dd (show AK w _ a3 t907 b2 b3 from z5) (zs HO_6.out) (by decide)) hk (fun _ h=>h.2)) (fun _ h=>h.1));replace HB:=ak (hb);replace HI910:=ak (hi))|(refine zl (some 52) Try.func84 #[.pointer (some ⟨a3,0,none⟩),.int .i64 14] ?_;(with_reducible refine(CH.calls a3 t907 t925 t926 14 t927 t928 t929 w _ ?side1 ?side2 f7.out).mono ?_);(case side1=>exact z5);(case side2=>exact z6);rintro e h4 ⟨rfl,hi,hb,hk⟩;refine⟨_,rfl,?_⟩;replace HO_6:=ak (Kd.Af (Kd.DL (AK.Dd (show AK w _ a3 t907 t925 t926 from z5) (zs HO_6.out) (by decide)) hk (fun _ h=>h.2)) (fun _ h=>h.1));replace HB:=ak (hb);replace HI910:=ak (hi))|(refine zl (some 53) Try.func83 #[.bool t927] ?_;(with_reducible refine(BD.calls t927 t930 _ f8.out).mono ?_);rintro e w' ⟨rfl,⟨nd,rfl⟩⟩;refine⟨_,rfl,?_⟩)|(refine zl (some 56) Try.func82 #[.pointer (some ⟨a3,0,none⟩),.int .i64 5] ?_;(with_reducible refine(Ad.calls a3 t907 t928 t929 5 t931 t932 t933 w _ ?side1 ?side2 f9.out).mono ?_);(case side1=>exact z5);(case side2=>exact z6);rintro e h5 ⟨rfl,hi,hb,hk⟩;refine⟨_,rfl,?_⟩;replace HO_6:=ak (Kd.Af (Kd.DL (AK.Dd (show AK w _ a3 t907 t928 t929 from z5) (zs HO_6.out) (by decide)) hk (fun _ h=>h.2)) (fun _ h=>h.1));replace HB:=ak (hb);replace HI910:=ak (hi)))
    go_ret3
    exact⟨_,ze,zs HO_6.out,z6⟩
def DK.f (k:Nat) (l0:List Int):Option ((List (List Int))):=(Bv.f k l0).bind fun a0=>((BW.f k a0.1 a0.2.1 a0.2.2).bind fun a1=>(some a1.1))
theorem DK.calls (k:Nat) (A0:Option Addr) (c0:Nat) (l0:List Int) (r:List (List Int)) (w:World) (a3:Kd.C (Kd.int .u8) w A0 l0.length l0) (a4:l0.length<=c0) (h:DK.f k l0=some r):
 Calls Try.prog 41 #[.slice A0 l0.length c0] w fun e w'=> ∃a5:Value,e= .returned (a5)/\Kd.S (Kd.slice 3 (Kd.int .i64)) 47 w' w.heap.size (fun _=>True) a5 r/\Below w.heap.size w w':=by
 have a6:=ak a3;have a7:=ak a4;clear a3 a4;have HB:=ak (Below.refl w.heap.size w);have H:=h;clear h;unfold DK.f at H;replace H:=gb H;obtain⟨⟨t934,t935,t936⟩,A2,H⟩:=H;dsimp only at H;replace H:=gb H;obtain⟨⟨t938,t941,t942⟩,A3,H⟩:=H;dsimp only at H;obtain rfl:=Option.some.inj H
 go_enter Try.func41,Try.ntmps41
 go_wp2_with (first|(refine zl (some 4) Try.func80 #[.slice A0 l0.length c0] ?_;(with_reducible refine(Bv.calls k _ _ l0 t934 t935 t936 w _ ?side1 ?side2 ?side3 A2.out).mono ?_);(case side1=>exact z0);(case side2=>exact a6.out);(case side3=>exact a7.out);rintro e w4 ⟨a1,rfl,hi,hb,b0⟩;refine⟨_,rfl,?_⟩;replace HB:=ak (hb);have a0:=ak (hi))|(refine zl (some 5) Try.func81 #[.pointer (some ⟨a1,0,none⟩)] ?_;(with_reducible refine(BW.calls k a1 t934 t935 t936 t938 t941 t942 w _ ?side1 ?side2 A3.out).mono ?_);(case side1=>repeat(first|(with_reducible first|exact a0.out|apply AK.alloc|apply AK.drewN|apply AK.drew|apply AK.GS|apply AK.GU)|exact a0.out));(case side2=>repeat(first|(with_reducible first|exact HB.out|apply Aq|apply AQ|apply Ab|refine BC ?_ (AK.ge a0.out))|exact HB.out));rintro e w5 ⟨a9,rfl,a8,hi,hb,hk⟩;refine⟨_,rfl,?_⟩;have a2:=ak (Kd.BS a8 (AA (by repeat(first|(with_reducible first|exact HB.out|apply Aq|apply AQ|apply Ab|refine BC ?_ (AK.ge a0.out))|exact HB.out))));replace HB:=ak (hb);replace a0:=ak (hi)))
 go_ret
 exact⟨_,ze,zs a2.out,by repeat(first|(with_reducible first|exact HB.out|apply Aq|apply AQ|apply Ab|refine BC ?_ (AK.ge a0.out))|exact HB.out)⟩
def Bg.l0:Nat->List Int->List Int->Int->Option (Bool)
 |0,_,_,_=>none
 |k+1,x0,x1,x5=>if x5<(x0.length:Int)then(if 0<=x5 then(if x5<(x1.length:Int)then(if(rd x0 x5)=(rd x1 x5)then(Bg.l0 k x0 x1 (wrap64 (x5+1)))else(some false))else(none))else(none))else(some true)
def Bg.f (k:Nat) (l0 l1:List Int):Option (Bool):=if(l0.length:Int)=(l1.length:Int)then(Bg.l0 k l0 l1 0)else(some false)
theorem Bg.calls (k:Nat) (A0:Option Addr) (c0:Nat) (l0:List Int) (A1:Option Addr) (c1:Nat) (l1:List Int) (r:Bool) (w:World) (b0:Kd.C (Kd.int .i64) w A0 l0.length l0) (b1:l0.length<=c0) (b2:Kd.C (Kd.int .i64) w A1 l1.length l1) (b3:l1.length<=c1) (h:Bg.f k l0 l1=some r):
 Calls Try.prog 86 #[.slice A0 l0.length c0,.slice A1 l1.length c1] w fun e w'=>e= .returned (.bool r)/\Cj w w':=by
 have b4:=ak b0;have d6:=ak b1;clear b0 b1;have b5:=ak b2;have d7:=ak b3;clear b2 b3;have H:=h;clear h;unfold Bg.f at H
 by_cases c3:(l0.length:Int)=(l1.length:Int)
 ·
  rw[if_pos c3]at H;have a5:((l0.length:Int)==(l1.length:Int))=true:=beq_iff_eq.mpr c3;have a6:((l0.length:Int) != (l1.length:Int))=false:=bne_eq_false_iff_eq.mpr c3
  have a7:(l0.length==l1.length)=true:=by first|simpa using c3|(simp at c3⊢;omega)
  clear c3;have H':=ak H;clear H
  go_enter Try.func86,Try.ntmps86
  go_wp2
  repeat(go_quiet (fail);try go_wp2)
  go_loopg [5] k (fun kq v5 w'=> ∃(a0:Int),v5= .int .i64 a0/\AJ (Bg.l0 kq l0 l1 a0=some r)/\AJ (kq<=k)/\Cj w w')
  case atStart=>exact⟨(0),zd,H',⟨Nat.le_refl _⟩,z3⟩
  case round=>
   clear H';obtain⟨a0,rfl,HA,b6,⟨m1,rfl⟩⟩:=hrel
   cases gk with
   |zero=>exact absurd HA.out (by simp[Bg.l0])
   |succ k1=>
    have H:=HA.out;clear HA;simp only[Bg.l0]at H
    by_cases c4:a0<(l0.length:Int)
    ·
     rw[if_pos c4]at H;have b7:=decide_eq_true c4;clear c4;replace H:=gi H;obtain⟨c5,H⟩:=H;have d4:=decide_eq_true c5;clear c5;replace H:=gi H;obtain⟨c6,H⟩:=H;have d5:=decide_eq_true c6;clear c6
     by_cases c7:(rd l0 a0)=(rd l1 a0)
     ·
      rw[if_pos c7]at H;have b8:((rd l0 a0)==(rd l1 a0))=true:=beq_iff_eq.mpr c7;have b9:((rd l0 a0) != (rd l1 a0))=false:=bne_eq_false_iff_eq.mpr c7;clear c7;have H':=ak H;clear H;obtain⟨a8,a1,a3,d0,d1⟩:=ai b4.out a0;cases a1;obtain⟨a9,a2,a4,d2,d3⟩:=ai b5.out a0;cases a2
      go_wp2
      repeat(go_quiet (fail);try go_wp2)
      go_roundg k1
      case measure=>have:=b6.out;omega
      case rel=>exact⟨(wrap64 (a0+1)),zd,H',⟨by have:=b6.out;omega⟩,z3⟩
     ·
      rw[if_neg c7]at H;have b8:((rd l0 a0)==(rd l1 a0))=false:=beq_eq_false_iff_ne.mpr c7;have b9:((rd l0 a0) != (rd l1 a0))=true:=bne_iff_ne.mpr c7;obtain rfl:=Option.some.inj H;obtain⟨a8,a1,a3,d0,d1⟩:=ai b4.out a0;cases a1;obtain⟨a9,a2,a4,d2,d3⟩:=ai b5.out a0;cases a2
      go_wp2
      repeat(go_quiet (fail);try go_wp2)
      go_ret
      exact⟨by first|rfl|(simp;done)|(simp[*];done),z3⟩
    ·
     rw[if_neg c4]at H;have b7:=decide_eq_false c4;clear c4;obtain rfl:=Option.some.inj H
     go_wp2
     repeat(go_quiet (fail);try go_wp2)
     go_ret
     exact⟨by first|rfl|(simp;done)|(simp[*];done),z3⟩
 ·
  rw[if_neg c3]at H;have a5:((l0.length:Int)==(l1.length:Int))=false:=beq_eq_false_iff_ne.mpr c3;have a6:((l0.length:Int) != (l1.length:Int))=true:=bne_iff_ne.mpr c3
  have a7:(l0.length==l1.length)=false:=by first|simpa using c3|(simp at c3⊢;omega)
  obtain rfl:=Option.some.inj H
  go_enter Try.func86,Try.ntmps86
  go_wp2
  repeat(go_quiet (fail);try go_wp2)
  go_ret
  exact⟨by first|rfl|(simp;done)|(simp[*];done),z3⟩
def BE.l0:Nat->List (List Int)->List (List Int)->Int->Option (Bool)
 |0,_,_,_=>none
 |k+1,x0,x1,x5=>if x5<(x0.length:Int)then(if 0<=x5 then(if x5<(x1.length:Int)then((Bg.f k (AD x0 x5) (AD x1 x5)).bind fun t947=>(if t947=true then(BE.l0 k x0 x1 (wrap64 (x5+1)))else(some false)))else(none))else(none))else(some true)
def BE.f (k:Nat) (l0 l1:List (List Int)):Option (Bool):=if(l0.length:Int)=(l1.length:Int)then(BE.l0 k l0 l1 0)else(some false)
theorem BE.calls (k:Nat) (A0:Option Addr) (c0:Nat) (l0:List (List Int)) (A1:Option Addr) (c1:Nat) (l1:List (List Int)) (r:Bool) (w:World) (b8:Kd.C (Kd.slice 3 (Kd.int .i64)) w A0 l0.length l0) (b9:l0.length<=c0) (d0:Kd.C (Kd.slice 3 (Kd.int .i64)) w A1 l1.length l1) (d1:l1.length<=c1) (h:BE.f k l0 l1=some r):
 Calls Try.prog 42 #[.slice A0 l0.length c0,.slice A1 l1.length c1] w fun e w'=>e= .returned (.bool r)/\Cj w w':=by
 have d2:=ak b8;have e2:=ak b9;clear b8 b9;have d3:=ak d0;have e3:=ak d1;clear d0 d1;have H:=h;clear h;unfold BE.f at H
 by_cases c3:(l0.length:Int)=(l1.length:Int)
 ·
  rw[if_pos c3]at H;have a9:((l0.length:Int)==(l1.length:Int))=true:=beq_iff_eq.mpr c3;have b0:((l0.length:Int) != (l1.length:Int))=false:=bne_eq_false_iff_eq.mpr c3
  have b1:(l0.length==l1.length)=true:=by first|simpa using c3|(simp at c3⊢;omega)
  clear c3;have H':=ak H;clear H
  go_enter Try.func42,Try.ntmps42
  go_wp2
  repeat(go_quiet (fail);try go_wp2)
  go_loopg [5] k (fun kq v5 w'=> ∃(a0:Int),v5= .int .i64 a0/\AJ (BE.l0 kq l0 l1 a0=some r)/\AJ (kq<=k)/\Cj w w')
  case atStart=>exact⟨(0),zd,H',⟨Nat.le_refl _⟩,z3⟩
  case round=>
   clear H';obtain⟨a0,rfl,HA,d4,⟨m1,rfl⟩⟩:=hrel
   cases gk with
   |zero=>exact absurd HA.out (by simp[BE.l0])
   |succ k1=>
    have H:=HA.out;clear HA;simp only[BE.l0]at H
    by_cases c4:a0<(l0.length:Int)
    ·
     rw[if_pos c4]at H;have d5:=decide_eq_true c4;clear c4;replace H:=gi H;obtain⟨c5,H⟩:=H;have e0:=decide_eq_true c5;clear c5;replace H:=gi H;obtain⟨c6,H⟩:=H;have e1:=decide_eq_true c6;clear c6;replace H:=gb H;obtain⟨t947,A7,H⟩:=H
     by_cases c8:t947=true
     ·
      subst c8;rw[if_pos rfl]at H;have H':=ak H;clear H;obtain⟨b6,b2,b3,a5,a7,a1,a2,d6,d7⟩:=al d2.out a0;cases a5;obtain⟨b7,b4,b5,a6,a8,a3,a4,d8,d9⟩:=al d3.out a0;cases a6
      go_wp2_with (first|(go_at_call 86;(with_reducible refine(Bg.calls k1 _ _ (AD l0 a0) _ _ (AD l1 a0) true _ ?side1 ?side2 ?side3 ?side4 A7.out).mono ?_);(case side1=>exact zc a2.out);(case side2=>exact a1.out);(case side3=>exact zc a4.out);(case side4=>exact a3.out);rintro e w' ⟨rfl,⟨nd,rfl⟩⟩;(try first|exact⟨rfl,_,World.drewN_drewN _ _ _⟩|exact⟨rfl,_,Eq.trans (World.drewN_drewN _ _ _) (congrArg (World.drewN _) (Nat.add_assoc _ _ _))⟩)))
      repeat(go_quiet (first|(go_at_call 86;(with_reducible refine(Bg.calls k1 _ _ (AD l0 a0) _ _ (AD l1 a0) true _ ?side1 ?side2 ?side3 ?side4 A7.out).mono ?_);(case side1=>exact zc a2.out);(case side2=>exact a1.out);(case side3=>exact zc a4.out);(case side4=>exact a3.out);rintro e w' ⟨rfl,⟨nd,rfl⟩⟩;(try first|exact⟨rfl,_,World.drewN_drewN _ _ _⟩|exact⟨rfl,_,Eq.trans (World.drewN_drewN _ _ _) (congrArg (World.drewN _) (Nat.add_assoc _ _ _))⟩)));try go_wp2_with (first|(go_at_call 86;(with_reducible refine(Bg.calls k1 _ _ (AD l0 a0) _ _ (AD l1 a0) true _ ?side1 ?side2 ?side3 ?side4 A7.out).mono ?_);(case side1=>exact zc a2.out);(case side2=>exact a1.out);(case side3=>exact zc a4.out);(case side4=>exact a3.out);rintro e w' ⟨rfl,⟨nd,rfl⟩⟩;(try first|exact⟨rfl,_,World.drewN_drewN _ _ _⟩|exact⟨rfl,_,Eq.trans (World.drewN_drewN _ _ _) (congrArg (World.drewN _) (Nat.add_assoc _ _ _))⟩))))
      go_roundg k1
      case measure=>have:=d4.out;omega
      case rel=>exact⟨(wrap64 (a0+1)),zd,H',⟨by have:=d4.out;omega⟩,z3⟩
     ·
      replace c8:=Bool.eq_false_iff.mpr c8;subst c8;rw[if_neg (show¬(false=true) by decide)]at H;obtain rfl:=Option.some.inj H;obtain⟨b6,b2,b3,a5,a7,a1,a2,d6,d7⟩:=al d2.out a0;cases a5;obtain⟨b7,b4,b5,a6,a8,a3,a4,d8,d9⟩:=al d3.out a0;cases a6
      go_wp2_with (first|(go_at_call 86;(with_reducible refine(Bg.calls k1 _ _ (AD l0 a0) _ _ (AD l1 a0) false _ ?side1 ?side2 ?side3 ?side4 A7.out).mono ?_);(case side1=>exact zc a2.out);(case side2=>exact a1.out);(case side3=>exact zc a4.out);(case side4=>exact a3.out);rintro e w' ⟨rfl,⟨nd,rfl⟩⟩;(try first|exact⟨rfl,_,World.drewN_drewN _ _ _⟩|exact⟨rfl,_,Eq.trans (World.drewN_drewN _ _ _) (congrArg (World.drewN _) (Nat.add_assoc _ _ _))⟩)))
      repeat(go_quiet (first|(go_at_call 86;(with_reducible refine(Bg.calls k1 _ _ (AD l0 a0) _ _ (AD l1 a0) false _ ?side1 ?side2 ?side3 ?side4 A7.out).mono ?_);(case side1=>exact zc a2.out);(case side2=>exact a1.out);(case side3=>exact zc a4.out);(case side4=>exact a3.out);rintro e w' ⟨rfl,⟨nd,rfl⟩⟩;(try first|exact⟨rfl,_,World.drewN_drewN _ _ _⟩|exact⟨rfl,_,Eq.trans (World.drewN_drewN _ _ _) (congrArg (World.drewN _) (Nat.add_assoc _ _ _))⟩)));try go_wp2_with (first|(go_at_call 86;(with_reducible refine(Bg.calls k1 _ _ (AD l0 a0) _ _ (AD l1 a0) false _ ?side1 ?side2 ?side3 ?side4 A7.out).mono ?_);(case side1=>exact zc a2.out);(case side2=>exact a1.out);(case side3=>exact zc a4.out);(case side4=>exact a3.out);rintro e w' ⟨rfl,⟨nd,rfl⟩⟩;(try first|exact⟨rfl,_,World.drewN_drewN _ _ _⟩|exact⟨rfl,_,Eq.trans (World.drewN_drewN _ _ _) (congrArg (World.drewN _) (Nat.add_assoc _ _ _))⟩))))
      go_ret
      exact⟨by first|rfl|(simp;done)|(simp[*];done),z3⟩
    ·
     rw[if_neg c4]at H;have d5:=decide_eq_false c4;clear c4;obtain rfl:=Option.some.inj H
     go_wp2
     repeat(go_quiet (fail);try go_wp2)
     go_ret
     exact⟨by first|rfl|(simp;done)|(simp[*];done),z3⟩
 ·
  rw[if_neg c3]at H;have a9:((l0.length:Int)==(l1.length:Int))=false:=beq_eq_false_iff_ne.mpr c3;have b0:((l0.length:Int) != (l1.length:Int))=true:=bne_iff_ne.mpr c3
  have b1:(l0.length==l1.length)=false:=by first|simpa using c3|(simp at c3⊢;omega)
  obtain rfl:=Option.some.inj H
  go_enter Try.func42,Try.ntmps42
  go_wp2
  repeat(go_quiet (fail);try go_wp2)
  go_ret
  exact⟨by first|rfl|(simp;done)|(simp[*];done),z3⟩
def BK.l0:Nat->Int->Int->List Int->List Int->Int->Option (List Int)
 |0,_,_,_,_,_=>none
 |k+1,x1,x2,x7,x8,x9=>if x9<(x8.length:Int)then(if 0<=x9 then((BM.f (rd x8 x9) x1 x2).bind fun t955=>(if t955=true then(if x7.length<17592186044416 then(BK.l0 k x1 x2 (x7++[x9]) x8 (wrap64 (x9+1)))else(none))else(BK.l0 k x1 x2 x7 x8 (wrap64 (x9+1)))))else(none))else(some x7)
def BK.f (k:Nat) (l0:List (List Int)) (a1 a2:Int):Option (List Int):=(Au.f k l0).bind fun t951=>(BK.l0 k a1 a2 (([]:List Int)) t951 1)
theorem BK.calls (k:Nat) (A0:Option Addr) (c0:Nat) (l0:List (List Int)) (a1 a2:Int) (r:List Int) (w:World) (d0:Kd.C (Kd.slice 3 (Kd.int .i64)) w A0 l0.length l0) (d1:l0.length<=c0) (h:BK.f k l0 a1 a2=some r):
 Calls Try.prog 88 #[.slice A0 l0.length c0,.int .i64 a1,.int .i64 a2] w fun e w'=> ∃d2:Value,e= .returned (d2)/\Kd.R (Kd.int .i64) 3 w' w.heap.size (fun _=>True) d2 r/\Below w.heap.size w w':=by
 have e6:=ak d0;have e7:=ak d1;clear d0 d1;have HB:=ak (Below.refl w.heap.size w);have H:=h;clear h;unfold BK.f at H;obtain⟨b4,a5⟩: ∃y_:List Int,y_=(([]:List Int)):=⟨_,rfl⟩;replace H:((Au.f k l0).bind fun t951=>(BK.l0 k a1 a2 b4 t951 1))=some r:=zy a5 H;have a9:=ak a5;clear a5;replace H:=gb H;obtain⟨t951,A4,H⟩:=H;have H':=ak H;clear H
 go_enter Try.func88,Try.ntmps88
 go_wp2_with (first|((with_reducible refine Ar (N:=10) rfl ?_);refine Kd.DS (Kd.int .i64) _ 3 ?hg (N:=10) ?hd (xs:=([]:List Int)) (inner:=[]) (ok:=fun _=>True) (okp:=fun _=>True) ?hr ?hp (fun _ hk=>hk) trivial (Below.refl _ _) (Nat.le_refl _) (by simp) ?_;(case hd=>rfl);(case hg=>rfl);(case hr=>first|(go_simp;done)|(go_simp;rfl));(case hp=>exact(Av.none _ _));intro e8 w5 a7 hb hg_ hnew_;clear hg_ hnew_;(first|rw[<-a9.out]at a7|(simp only[Int.reduceToNat]at a7;rw[<-a9.out]at a7));have a4:=ak (Kd.BA a7 (AA z0));replace HB:=ak (AG z0 hb);clear hb a7)|(refine zl (some 12) Try.func97 #[.slice A0 l0.length c0] ?_;(with_reducible refine(Au.calls k _ _ l0 t951 _ ?side1 ?side2 A4.out).mono ?_);(case side1=>exact zc (Kd.AM e6.out HB.out));(case side2=>exact e7.out);rintro e w7 ⟨b5,rfl,d3,hb⟩;refine⟨_,rfl,?_⟩;have b7:=ak (Kd.BA (Kd.DJ d3 (Kd.Ce (zr a4.out))) (AA z0));replace a4:=ak (Kd.CP (zr a4.out) (Kd.CC d3) hb);replace HB:=ak (AG z0 hb)))
 go_loopg [7,9] k (fun kq v7 v9 w'=> ∃(a3:List Int) (a0:Int),v9= .int .i64 a0/\AJ (BK.l0 kq a1 a2 a3 t951 a0=some r)/\AJ (kq<=k)/\AJ (Kd.R (Kd.int .i64) 3 w' w.heap.size (fun k_=>some k_≠(b5:Value).ownBlock) v7 a3)/\AJ (Kd.R (Kd.int .i64) 3 w' w.heap.size (fun k_=>some k_≠(v7:Value).ownBlock) b5 t951)/\AJ (Below w.heap.size w w'))
 case atStart=>exact⟨(b4),(1),zd,H',⟨Nat.le_refl _⟩,⟨by(with_reducible repeat(first|apply Kd.BV|apply Kd.BN|apply Kd.BI));exact Kd.AV a4.out (fun _ hk=>hk.2)⟩,⟨by(with_reducible repeat(first|apply Kd.BV|apply Kd.BN|apply Kd.BI));exact Kd.AV b7.out (fun _ hk=>hk.2)⟩,⟨z0⟩⟩
 case round=>
  clear H';obtain⟨a3,a0,rfl,HA,b0,HO_7,HO_8,HB⟩:=hrel
  cases gk with
  |zero=>exact absurd HA.out (by simp[BK.l0])
  |succ k1=>
   have H:=HA.out;clear HA;simp only[BK.l0]at H
   by_cases c8:a0<(t951.length:Int)
   ·
    rw[if_pos c8]at H;have d9:=decide_eq_true c8;clear c8;replace H:=gi H;obtain⟨c9,H⟩:=H;have e9:=decide_eq_true c9;clear c9;replace H:=gb H;obtain⟨t955,d4,H⟩:=H
    by_cases b1:t955=true
    ·
     subst b1;rw[if_pos rfl]at H;replace H:=gi H;obtain⟨d5,H⟩:=H;have b8:=ak d5;clear d5;obtain⟨b6,a6⟩: ∃y_:List Int,y_=(a3++[a0]):=⟨_,rfl⟩;replace H:(BK.l0 k1 a1 a2 b6 t951 (wrap64 (a0+1)))=some r:=zy a6 H;have b9:=ak a6;clear a6;have H':=ak H;clear H;obtain⟨f0,e0,e1⟩:=Kd.Al HO_8.out;subst e1;obtain⟨b2,a8,b3,e2,e3⟩:=ai (Kd.AN HO_8.out).2.2 a0;cases a8
     go_wp2_with (first|(refine zl (some 25) Try.func53 #[.int .i64 (rd t951 a0),.int .i64 a1,.int .i64 a2] ?_;(with_reducible refine(BM.calls (rd t951 a0) a1 a2 true _ d4.out).mono ?_);rintro e w' ⟨rfl,⟨nd,rfl⟩⟩;refine⟨_,rfl,?_⟩)|((with_reducible refine Ak (b:= .append) (xs:= #[.tmp 26,.tmp 28]) rfl ?_);at_builtin;refine Kd.Cy (Kd.int .i64) (w0:=w) w.heap.size rfl (.tmp 26) (.tmp 28) 47 3 (.int .i64 0) 8 rfl Try.underlying47 BT rfl (by decide) (by omega) u7 a3 a0 [.int .i64 a0] (fun k_=>some k_≠(.slice (some b2) t951.length e0:Value).ownBlock) (fun _=>False) rfl rfl ?aP (fun _ hk=>hk.elim) ?aF ?aO ?aB ?aS ?aL ?_;(case aP=>exact rfl);(case aB=>exact z0);(case aF=>exact(fun k_ hk=>Kd.CN (Kd.Ce (zr HO_8.out)) k_ hk));(case aO=>exact(zr HO_7.out));(case aS=>exact(AA z0));(case aL=>have:=b8.out;omega);intro f1 f6 ho hb hg hat;rw[<-b9.out]at ho;have d6:=ak (Kd.BO (ok:=(fun _=>True)) (by(with_reducible repeat(first|apply Kd.BV|apply Kd.BN|apply Kd.BI));exact Kd.AV HO_8.out (fun _ hk=>⟨trivial,hk⟩)) hg hat);have d7:=ak (hb);have d8:=ak (ho);clear HO_8 HB HO_7;have HO_8:=d6;have HB:=d7;have c1:=d8;clear d6 d7 d8 ho hb hg hat))
     go_roundg k1
     case measure=>have:=b0.out;omega
     case rel=>exact⟨(b6),(wrap64 (a0+1)),zd,H',⟨by have:=b0.out;omega⟩,⟨zr c1.out⟩,⟨by(with_reducible repeat(first|apply Kd.BV|apply Kd.BN|apply Kd.BI));exact Kd.AV HO_8.out (fun _ hk=>hk.2)⟩,⟨z0⟩⟩
    ·
     replace b1:=Bool.eq_false_iff.mpr b1;subst b1;rw[if_neg (show¬(false=true) by decide)]at H;have H':=ak H;clear H;obtain⟨f2,f3,e4⟩:=Kd.Al HO_8.out;subst e4;obtain⟨b2,a8,b3,e2,e3⟩:=ai (Kd.AN HO_8.out).2.2 a0;cases a8
     go_wp2_with (first|(refine zl (some 25) Try.func53 #[.int .i64 (rd t951 a0),.int .i64 a1,.int .i64 a2] ?_;(with_reducible refine(BM.calls (rd t951 a0) a1 a2 false _ d4.out).mono ?_);rintro e w' ⟨rfl,⟨nd,rfl⟩⟩;refine⟨_,rfl,?_⟩))
     go_roundg k1
     case measure=>have:=b0.out;omega
     case rel=>exact⟨(a3),(wrap64 (a0+1)),zd,H',⟨by have:=b0.out;omega⟩,⟨zr HO_7.out⟩,⟨zr HO_8.out⟩,⟨z0⟩⟩
   ·
    rw[if_neg c8]at H;have d9:=decide_eq_false c8;clear c8;obtain rfl:=Option.some.inj H;obtain⟨f4,f5,e5⟩:=Kd.Al HO_8.out;subst e5
    go_wp2
    go_ret
    exact⟨_,ze,by(with_reducible repeat(first|apply Kd.BV|apply Kd.BN|apply Kd.BI));exact Kd.AV HO_7.out (fun _ hk=>trivial),z0⟩
def Be.l0:Nat->List Int->Int->Option (Int)
 |0,_,_=>none
 |k+1,x0,x1=>if 0<=x1 then(if x1<(x0.length:Int)then(if(rd x0 x1)=x1 then(some x1)else(Be.l0 k x0 (rd x0 x1)))else(none))else(none)
def Be.f (k:Nat) (l0:List Int) (a1:Int):Option (Int):=Be.l0 k l0 a1
theorem Be.calls (k:Nat) (A0:Option Addr) (c0:Nat) (l0:List Int) (a1 r:Int) (w:World) (a7:Kd.C (Kd.int .i64) w A0 l0.length l0) (a8:l0.length<=c0) (h:Be.f k l0 a1=some r):
 Calls Try.prog 90 #[.slice A0 l0.length c0,.int .i64 a1] w fun e w'=>e= .returned (.int .i64 r)/\Cj w w':=by
 have a5:=ak a7;have c1:=ak a8;clear a7 a8;have H:=h;clear h;unfold Be.f at H;have H':=ak H;clear H
 go_enter Try.func90,Try.ntmps90
 go_wp2
 go_loopg [1] k (fun kq v1 w'=> ∃(a0:Int),v1= .int .i64 a0/\AJ (Be.l0 kq l0 a0=some r)/\AJ (kq<=k)/\Cj w w')
 case atStart=>exact⟨(a1),zd,H',⟨Nat.le_refl _⟩,z3⟩
 case round=>
  clear H';obtain⟨a0,rfl,HA,a9,⟨m1,rfl⟩⟩:=hrel
  cases gk with
  |zero=>exact absurd HA.out (by simp[Be.l0])
  |succ k1=>
   have H:=HA.out;clear HA;simp only[Be.l0]at H;replace H:=gi H;obtain⟨c3,H⟩:=H;have b6:=decide_eq_true c3;clear c3;replace H:=gi H;obtain⟨c4,H⟩:=H;have b7:=decide_eq_true c4;clear c4
   by_cases c5:(rd l0 a0)=a0
   ·
    rw[if_pos c5]at H;have b0:((rd l0 a0)==a0)=true:=beq_iff_eq.mpr c5;have b1:((rd l0 a0) != a0)=false:=bne_eq_false_iff_eq.mpr c5;clear c5;obtain rfl:=Option.some.inj H;obtain⟨a3,a2,a4,b2,b3⟩:=ai a5.out a0;cases a2
    go_wp2
    go_ret
    exact⟨by first|rfl|(simp;done)|(simp[*];done),z3⟩
   ·
    rw[if_neg c5]at H;have b0:((rd l0 a0)==a0)=false:=beq_eq_false_iff_ne.mpr c5;have b1:((rd l0 a0) != a0)=true:=bne_iff_ne.mpr c5;have H':=ak H;clear H;obtain⟨a3,a2,a4,b2,b3⟩:=ai a5.out a0;cases a2;obtain⟨a6,b4,b5,b8,b9⟩:=ai a5.out a0;obtain rfl:a3=a6:=(by injection b4)
    go_wp2
    go_roundg k1
    case measure=>have:=a9.out;omega
    case rel=>exact⟨(rd l0 a0),zd,H',⟨by have:=a9.out;omega⟩,z3⟩
end Go.Proofs.Ytlnddmkkgjlmbaa.QFnMoves
namespace Go.Proofs.Ytlnddmkkgjlmbaa.QFnMoves
open Go.Proofs.Ytlnddmkkgjlmbaa.Zip Go.RowKit Go.Proofs.YtlnddmkkgjlmbaaW.PrintWords Go.Proofs.YtlnddmkkgjlmbaaW.PrintLast Go.Proofs.YtlnddmkkgjlmbaaW.PrintMore
attribute [local go_sem] CD CF CW CV Bl Bk CE CG
set_option linter.unusedVariables false
set_option linter.unusedSimpArgs false
mutual
def BB.l0:Nat->List (List Int)->List Int->Int->Option (List Int)
 |0,_,_,_=>none
 |k+1,x0,x3,x4=>if x4<=17 then(if x3.length<17592186044416 then(BB.l0 k x0 (x3++[x4]) (wrap64 (x4+1)))else(none))else(BB.l1 k x0 x3 0)
def BB.l1:Nat->List (List Int)->List Int->Int->Option (List Int)
 |0,_,_,_=>none
 |k+1,x0,x3,x5=>if x5<(x0.length:Int)then(BB.l2 k x0 x3 x5 0)else(some x3)
def BB.l2:Nat->List (List Int)->List Int->Int->Int->Option (List Int)
 |0,_,_,_,_=>none
 |k+1,x0,x3,x5,x6=>if 0<=x5 then(if x5<(x0.length:Int)then(if x6<((AD x0 x5).length:Int)then(if 0<=x6 then(if((AD x0 x5).length:Int)=0 then(none)else(if 0<=(Int.tmod (wrap64 (x6+1)) ((AD x0 x5).length:Int))then(if(Int.tmod (wrap64 (x6+1)) ((AD x0 x5).length:Int))<((AD x0 x5).length:Int)then((BP.f (rd (AD x0 x5) x6)).bind fun t973=>((BD.f (decide ((rd (AD x0 x5) x6)>0))).bind fun t974=>((Be.f k x3 (wrap64 ((wrap64 (2*t973))+t974))).bind fun t975=>((BP.f (rd (AD x0 x5) (Int.tmod (wrap64 (x6+1)) ((AD x0 x5).length:Int)))).bind fun t976=>((BD.f (decide ((rd (AD x0 x5) (Int.tmod (wrap64 (x6+1)) ((AD x0 x5).length:Int)))<0))).bind fun t977=>((Be.f k x3 (wrap64 ((wrap64 (2*t976))+t977))).bind fun t978=>(if 0<=t975 then(if t975<(x3.length:Int)then(BB.l2 k x0 (x3.set (t975:Int).toNat t978) x5 (wrap64 (x6+1)))else(none))else(none))))))))else(none))else(none)))else(none))else(BB.l1 k x0 x3 (wrap64 (x5+1))))else(none))else(none)
end
def BB.f (k:Nat) (l0:List (List Int)):Option (List Int):=BB.l0 k l0 (([]:List Int)) 0
set_option maxHeartbeats 8000000 in
set_option maxRecDepth 100000 in
theorem BB.calls (k:Nat) (A0:Option Addr) (c0:Nat) (l0:List (List Int)) (r:List Int) (w:World) (j6:Kd.C (Kd.slice 3 (Kd.int .i64)) w A0 l0.length l0) (j7:l0.length<=c0) (h:BB.f k l0=some r):
 Calls Try.prog 89 #[.slice A0 l0.length c0] w fun e w'=> ∃j8:Value,e= .returned (j8)/\Kd.R (Kd.int .i64) 3 w' w.heap.size (fun _=>True) j8 r/\Below w.heap.size w w':=by
 have f0:=ak j6;have o9:=ak j7;clear j6 j7;have HB:=ak (Below.refl w.heap.size w);have H:=h;clear h;unfold BB.f at H;obtain⟨g3,e2⟩: ∃y_:List Int,y_=(([]:List Int)):=⟨_,rfl⟩;replace H:(BB.l0 k l0 g3 0)=some r:=zy e2 H;have b8:=ak e2;clear e2;have H':=ak H;clear H
 go_enter Try.func89,Try.ntmps89
 go_wp2_with (first|((with_reducible refine Ar (N:=11) rfl ?_);refine Kd.DS (Kd.int .i64) _ 3 ?hg (N:=11) ?hd (xs:=([]:List Int)) (inner:=[]) (ok:=fun _=>True) (okp:=fun _=>True) ?hr ?hp (fun _ hk=>hk) trivial (Below.refl _ _) (Nat.le_refl _) (by simp) ?_;(case hd=>rfl);(case hg=>rfl);(case hr=>first|(go_simp;done)|(go_simp;rfl));(case hp=>exact(Av.none _ _));intro g4 w2 a6 hb hg_ hnew_;clear hg_ hnew_;(first|rw[<-b8.out]at a6|(simp only[Int.reduceToNat]at a6;rw[<-b8.out]at a6));have e3:=ak (Kd.BA a6 (AA z0));replace HB:=ak (AG z0 hb);clear hb a6))
 repeat(go_quiet (first|((with_reducible refine Ar (N:=11) rfl ?_);refine Kd.DS (Kd.int .i64) _ 3 ?hg (N:=11) ?hd (xs:=([]:List Int)) (inner:=[]) (ok:=fun _=>True) (okp:=fun _=>True) ?hr ?hp (fun _ hk=>hk) trivial (Below.refl _ _) (Nat.le_refl _) (by simp) ?_;(case hd=>rfl);(case hg=>rfl);(case hr=>first|(go_simp;done)|(go_simp;rfl));(case hp=>exact(Av.none _ _));intro g4 w2 a6 hb hg_ hnew_;clear hg_ hnew_;(first|rw[<-b8.out]at a6|(simp only[Int.reduceToNat]at a6;rw[<-b8.out]at a6));have e3:=ak (Kd.BA a6 (AA z0));replace HB:=ak (AG z0 hb);clear hb a6));try go_wp2_with (first|((with_reducible refine Ar (N:=11) rfl ?_);refine Kd.DS (Kd.int .i64) _ 3 ?hg (N:=11) ?hd (xs:=([]:List Int)) (inner:=[]) (ok:=fun _=>True) (okp:=fun _=>True) ?hr ?hp (fun _ hk=>hk) trivial (Below.refl _ _) (Nat.le_refl _) (by simp) ?_;(case hd=>rfl);(case hg=>rfl);(case hr=>first|(go_simp;done)|(go_simp;rfl));(case hp=>exact(Av.none _ _));intro g4 w2 a6 hb hg_ hnew_;clear hg_ hnew_;(first|rw[<-b8.out]at a6|(simp only[Int.reduceToNat]at a6;rw[<-b8.out]at a6));have e3:=ak (Kd.BA a6 (AA z0));replace HB:=ak (AG z0 hb);clear hb a6)))
 go_loopg [3,4] k (fun kq v3 v4 w'=> ∃(b1:List Int) (a5:Int),v4= .int .i64 a5/\AJ (BB.l0 kq l0 b1 a5=some r)/\AJ (kq<=k)/\AJ (Kd.R (Kd.int .i64) 3 w' w.heap.size (fun _=>True) v3 b1)/\AJ (Below w.heap.size w w'))
 case atStart=>exact⟨(g3),(0),zd,H',⟨Nat.le_refl _⟩,⟨zr e3.out⟩,⟨z0⟩⟩
 case round=>
  clear H';obtain⟨b1,a5,rfl,HA,d9,HO_3,HB⟩:=hrel
  cases gk with
  |zero=>exact absurd HA.out (by simp[BB.l0])
  |succ k1=>
   have H:=HA.out;clear HA;simp only[BB.l0]at H
   by_cases c4:a5<=17
   ·
    rw[if_pos c4]at H;have f3:=decide_eq_true c4;clear c4;replace H:=gi H;obtain⟨c5,H⟩:=H;have f4:=ak c5;clear c5;obtain⟨g5,e4⟩: ∃y_:List Int,y_=(b1++[a5]):=⟨_,rfl⟩;replace H:(BB.l0 k1 l0 g5 (wrap64 (a5+1)))=some r:=zy e4 H;have e5:=ak e4;clear e4;have H':=ak H;clear H
    go_wp2_with (first|((with_reducible refine Ak (b:= .append) (xs:= #[.tmp 16,.tmp 18]) rfl ?_);at_builtin;refine Kd.Cy (Kd.int .i64) (w0:=w) w.heap.size rfl (.tmp 16) (.tmp 18) 47 3 (.int .i64 0) 8 rfl Try.underlying47 BT rfl (by decide) (by omega) u3 b1 a5 [.int .i64 a5] (fun _=>True) (fun _=>False) rfl rfl ?aP (fun _ hk=>hk.elim) ?aF ?aO ?aB ?aS ?aL ?_;(case aP=>exact rfl);(case aB=>exact z0);(case aF=>exact(fun _ _=>trivial));(case aO=>exact(zr HO_3.out));(case aS=>exact(AA z0));(case aL=>have:=f4.out;omega);intro g6 w6 ho hb hg hat;rw[<-e5.out]at ho;have a7:=ak (hb);have a8:=ak (ho);clear HB HO_3;have HB:=a7;have e6:=a8;clear a7 a8 ho hb hg hat))
    repeat(go_quiet (first|((with_reducible refine Ak (b:= .append) (xs:= #[.tmp 16,.tmp 18]) rfl ?_);at_builtin;refine Kd.Cy (Kd.int .i64) (w0:=w) w.heap.size rfl (.tmp 16) (.tmp 18) 47 3 (.int .i64 0) 8 rfl Try.underlying47 BT rfl (by decide) (by omega) u3 b1 a5 [.int .i64 a5] (fun _=>True) (fun _=>False) rfl rfl ?aP (fun _ hk=>hk.elim) ?aF ?aO ?aB ?aS ?aL ?_;(case aP=>exact rfl);(case aB=>exact z0);(case aF=>exact(fun _ _=>trivial));(case aO=>exact(zr HO_3.out));(case aS=>exact(AA z0));(case aL=>have:=f4.out;omega);intro g6 w6 ho hb hg hat;rw[<-e5.out]at ho;have a7:=ak (hb);have a8:=ak (ho);clear HB HO_3;have HB:=a7;have e6:=a8;clear a7 a8 ho hb hg hat));try go_wp2_with (first|((with_reducible refine Ak (b:= .append) (xs:= #[.tmp 16,.tmp 18]) rfl ?_);at_builtin;refine Kd.Cy (Kd.int .i64) (w0:=w) w.heap.size rfl (.tmp 16) (.tmp 18) 47 3 (.int .i64 0) 8 rfl Try.underlying47 BT rfl (by decide) (by omega) u3 b1 a5 [.int .i64 a5] (fun _=>True) (fun _=>False) rfl rfl ?aP (fun _ hk=>hk.elim) ?aF ?aO ?aB ?aS ?aL ?_;(case aP=>exact rfl);(case aB=>exact z0);(case aF=>exact(fun _ _=>trivial));(case aO=>exact(zr HO_3.out));(case aS=>exact(AA z0));(case aL=>have:=f4.out;omega);intro g6 w6 ho hb hg hat;rw[<-e5.out]at ho;have a7:=ak (hb);have a8:=ak (ho);clear HB HO_3;have HB:=a7;have e6:=a8;clear a7 a8 ho hb hg hat)))
    go_roundg k1
    case measure=>have:=d9.out;omega
    case rel=>exact⟨(g5),(wrap64 (a5+1)),zd,H',⟨by have:=d9.out;omega⟩,⟨zr e6.out⟩,⟨z0⟩⟩
   ·
    rw[if_neg c4]at H;have f3:=decide_eq_false c4;clear c4;have H':=ak H;clear H
    go_wp2
    repeat(go_quiet (fail);try go_wp2)
    go_loopg [5] k1 (fun kq v5 w'=> ∃(e7:List Int) (a0:Int),v5= .int .i64 a0/\AJ (BB.l1 kq l0 e7 a0=some r)/\AJ (kq<=k1)/\AJ (Kd.R (Kd.int .i64) 3 w' w.heap.size (fun _=>True) u3 e7)/\AJ (Below w.heap.size w w'))
    case atStart=>exact⟨(b1),(0),zd,H',⟨Nat.le_refl _⟩,⟨zr HO_3.out⟩,⟨z0⟩⟩
    case round=>
     clear H';obtain⟨e7,a0,rfl,HA,f6,HO_3,HB⟩:=hrel
     cases gk with
     |zero=>exact absurd HA.out (by simp[BB.l1])
     |succ k2=>
      have H:=HA.out;clear HA;simp only[BB.l1]at H
      by_cases c7:a0<(l0.length:Int)
      ·
       rw[if_pos c7]at H;have g7:=decide_eq_true c7;clear c7;have H':=ak H;clear H
       go_wp2
       repeat(go_quiet (fail);try go_wp2)
       go_loopg [6] k2 (fun kq v6 w'=> ∃(a1:List Int) (a2:Int),v6= .int .i64 a2/\AJ (BB.l2 kq l0 a1 a0 a2=some r)/\AJ (kq<=k2)/\AJ (Kd.R (Kd.int .i64) 3 w' w.heap.size (fun _=>True) u3 a1)/\AJ (Below w.heap.size w w'))
       case atStart=>exact⟨(e7),(0),zd,H',⟨Nat.le_refl _⟩,⟨zr HO_3.out⟩,⟨z0⟩⟩
       case round=>
        clear H';obtain⟨a1,a2,rfl,HA,f7,HO_3,HB⟩:=hrel
        cases gk with
        |zero=>exact absurd HA.out (by simp[BB.l2])
        |succ k3=>
         have H:=HA.out;clear HA;simp only[BB.l2]at H;replace H:=gi H;obtain⟨c8,H⟩:=H;have n7:=decide_eq_true c8;clear c8;replace H:=gi H;obtain⟨c9,H⟩:=H;have n8:=decide_eq_true c9;clear c9
         by_cases Du:a2<((AD l0 a0).length:Int)
         ·
          rw[if_pos Du]at H;have i4:=decide_eq_true Du;clear Du;replace H:=gi H;obtain⟨j9,H⟩:=H;have m9:=decide_eq_true j9;clear j9;replace H:=gn H;obtain⟨g8,H⟩:=H;have n0:(((AD l0 a0).length:Int)==0)=false:=beq_eq_false_iff_ne.mpr g8;have n1:(((AD l0 a0).length:Int) != 0)=true:=bne_iff_ne.mpr g8
          have n2: ¬((AD l0 a0)=[]):=fun h_=>g8 (by rw[h_];rfl)
          obtain⟨a9,f8⟩: ∃j_:Int,(Int.tmod (wrap64 (a2+1)) ((AD l0 a0).length:Int))=j_:=⟨_,rfl⟩
          replace H:(if 0<=(a9)then(if(a9)<((AD l0 a0).length:Int)then((BP.f (rd (AD l0 a0) a2)).bind fun t973=>((BD.f (decide ((rd (AD l0 a0) a2)>0))).bind fun t974=>((Be.f k3 a1 (wrap64 ((wrap64 (2*t973))+t974))).bind fun t975=>((BP.f (rd (AD l0 a0) (a9))).bind fun t976=>((BD.f (decide ((rd (AD l0 a0) (a9))<0))).bind fun t977=>((Be.f k3 a1 (wrap64 ((wrap64 (2*t976))+t977))).bind fun t978=>(if 0<=t975 then(if t975<(a1.length:Int)then(BB.l2 k3 l0 (a1.set (t975:Int).toNat t978) a0 (wrap64 (a2+1)))else(none))else(none))))))))else(none))else(none))=some r:=by first|(rw[f8]at H;exact H)|(simp only[f8]at H⊢;exact H)
          replace H:=gi H;obtain⟨k0,H⟩:=H;have n3:=decide_eq_true k0;clear k0;replace H:=gi H;obtain⟨k4,H⟩:=H;have n4:=decide_eq_true k4;clear k4;replace H:=gb H;obtain⟨t973,g9,H⟩:=H;replace H:=gb H;obtain⟨t974,h3,H⟩:=H;replace H:=gb H;obtain⟨t975,h4,H⟩:=H;replace H:=gb H;obtain⟨t976,h5,H⟩:=H;replace H:=gb H;obtain⟨t977,h6,H⟩:=H;replace H:=gb H;obtain⟨t978,h7,H⟩:=H;replace H:=gi H;obtain⟨k5,H⟩:=H;have n5:=decide_eq_true k5;clear k5;replace H:=gi H;obtain⟨k6,H⟩:=H;have n6:=decide_eq_true k6;clear k6;obtain⟨d4,e8⟩: ∃y_:List Int,y_=(a1.set (t975:Int).toNat t978):=⟨_,rfl⟩;replace H:(BB.l2 k3 l0 d4 a0 (wrap64 (a2+1)))=some r:=zy e8 H;have e9:=ak e8;clear e8;have H':=ak H;clear H;obtain⟨d3,h8,h9,f5,a3,f9,g0,k7,k8⟩:=al f0.out a0;cases f5;replace a3:=zx HB a3;obtain⟨i5,m3,m4,k9,d0,l9,g1,n9,o0⟩:=al f0.out a0;obtain rfl:d3=i5:=(by injection k9);replace d0:=zx HB d0;have ea_:=Option.some.inj (a3.symm.trans d0)
          injection ea_ with ea_ en_ ec_
          subst ea_;subst ec_;clear en_;obtain⟨i6,l5,e0,o1,o2⟩:=ai g1.out a2;cases l5;replace e0:=zx HB e0;obtain⟨i7,m5,m6,l6,d1,m0,g2,o3,o4⟩:=al f0.out a0;obtain rfl:d3=i7:=(by injection l6);replace d1:=zx HB d1;have ea_:=Option.some.inj (a3.symm.trans d1)
          injection ea_ with ea_ en_ ec_
          subst ea_;subst ec_;clear en_;obtain⟨i9,m7,m8,l7,d2,m1,m2,o5,o6⟩:=al f0.out a0;obtain rfl:d3=i9:=(by injection l7);replace d2:=zx HB d2;have ea_:=Option.some.inj (a3.symm.trans d2)
          injection ea_ with ea_ en_ ec_
          subst ea_;subst ec_;clear en_;obtain⟨j5,l8,e1,o7,o8⟩:=ai g2.out (a9);obtain rfl:i6=j5:=(by injection l8);replace e1:=zx HB e1
          go_wp2_with (first|(go_at_call 99;(with_reducible refine(BP.calls (rd (AD l0 a0) a2) t973 _ g9.out).mono ?_);rintro e w' ⟨rfl,⟨nd,rfl⟩⟩;(try first|exact⟨rfl,_,World.drewN_drewN _ _ _⟩|exact⟨rfl,_,Eq.trans (World.drewN_drewN _ _ _) (congrArg (World.drewN _) (Nat.add_assoc _ _ _))⟩))|(go_at_call 83;(with_reducible refine(BD.calls (decide ((rd (AD l0 a0) a2)>0)) t974 _ h3.out).mono ?_);rintro e w' ⟨rfl,⟨nd,rfl⟩⟩;(try first|exact⟨rfl,_,World.drewN_drewN _ _ _⟩|exact⟨rfl,_,Eq.trans (World.drewN_drewN _ _ _) (congrArg (World.drewN _) (Nat.add_assoc _ _ _))⟩);obtain⟨i0,d5,d6⟩:=Kd.Al HO_3.out;subst d6)|(go_at_call 90;(with_reducible refine(Be.calls k3 _ _ a1 (wrap64 ((wrap64 (2*t973))+t974)) t975 _ ?side1 ?side2 h4.out).mono ?_);(case side1=>exact zc (Kd.AN HO_3.out).2.2);(case side2=>exact(Kd.AN HO_3.out).2.1);rintro e w' ⟨rfl,⟨nd,rfl⟩⟩;(try first|exact⟨rfl,_,World.drewN_drewN _ _ _⟩|exact⟨rfl,_,Eq.trans (World.drewN_drewN _ _ _) (congrArg (World.drewN _) (Nat.add_assoc _ _ _))⟩))|(go_at_call 99;(with_reducible refine(BP.calls (rd (AD l0 a0) (a9)) t976 _ h5.out).mono ?_);rintro e w' ⟨rfl,⟨nd,rfl⟩⟩;(try first|exact⟨rfl,_,World.drewN_drewN _ _ _⟩|exact⟨rfl,_,Eq.trans (World.drewN_drewN _ _ _) (congrArg (World.drewN _) (Nat.add_assoc _ _ _))⟩))|(go_at_call 83;(with_reducible refine(BD.calls (decide ((rd (AD l0 a0) (a9))<0)) t977 _ h6.out).mono ?_);rintro e w' ⟨rfl,⟨nd,rfl⟩⟩;(try first|exact⟨rfl,_,World.drewN_drewN _ _ _⟩|exact⟨rfl,_,Eq.trans (World.drewN_drewN _ _ _) (congrArg (World.drewN _) (Nat.add_assoc _ _ _))⟩))|(go_at_call 90;(with_reducible refine(Be.calls k3 _ _ a1 (wrap64 ((wrap64 (2*t976))+t977)) t978 _ ?side1 ?side2 h7.out).mono ?_);(case side1=>exact zc (Kd.AN HO_3.out).2.2);(case side2=>exact(Kd.AN HO_3.out).2.1);rintro e w' ⟨rfl,⟨nd,rfl⟩⟩;(try first|exact⟨rfl,_,World.drewN_drewN _ _ _⟩|exact⟨rfl,_,Eq.trans (World.drewN_drewN _ _ _) (congrArg (World.drewN _) (Nat.add_assoc _ _ _))⟩);have b2:0<=(t975:Int):=za;have b3:(t975:Int)<((a1.length:Int):Int):=za;obtain⟨b0,i1,b4,b5,d7,i2,b6⟩:=Kd.Hj HO_3.out (by omega);(first|cases b4|(injection b4 with ea_ en_ ec_;(first|subst ea_|(injection ea_ with ea_;subst ea_));subst ec_;clear en_));have d8:=ak b5;have i3:=ak b6;clear b5 d7 b6;obtain⟨f1,f2⟩:=Kd.EX 0 HO_3.out (t975:Int) b2 b3;replace b2:=eq_true b2;replace b3:=eq_true b3;obtain⟨b9,c1⟩:=Kd.EX 0 HO_3.out (t975:Int) (za) (za);have a4:=Kd.Ig HO_3.out (t975:Int) t978)|((with_reducible refine Dm (t:=3) (p:=77) rfl ?_);(try(rw[EO wr];generalize hq_:World.drewN wr _=wr;have a7:=ak (Kd.Vs hq_ HO_3.out);have a8:=ak (IA hq_ HB.out);clear hq_ HO_3 HB;have HO_3:=a7;have HB:=a8;clear a7 a8;(try(obtain⟨b9,c1⟩:=Kd.EX 0 HO_3.out (t975:Int) (za) (za)));(try(have a4:=Kd.Ig HO_3.out (t975:Int) t978))));refine DU (t:=3) (p:=77) (v:=?vo_w27) (w1:=(wr.setCell ⟨b0,(t975:Int).toNat,none⟩ (.int .i64 t978))) ?hg ?ho ?hn ?hr ?_;(case ho=>rfl);(case hg=>rfl);(case hn=>rfl);(case hr=>first|(go_simp;done)|(go_simp;rfl));intro b7 hw;have hg:wr.grownBy b7 (some b0):=(by rw[hw];exact a4.2);have hp_:Kd.R (Kd.int .i64) 3 b7 w.heap.size (fun _=>True) (.slice (some ⟨b0,0,none⟩) a1.length d5) d4:=(by rw[hw,e9.out];exact a4.1);clear a4;replace HO_3:=ak (hp_);replace HB:=ak ((by rw[hw];exact BC (HB.out) d8.out:Below w.heap.size w b7));clear hg hw hp_))
          repeat(go_quiet (first|(go_at_call 99;(with_reducible refine(BP.calls (rd (AD l0 a0) a2) t973 _ g9.out).mono ?_);rintro e w' ⟨rfl,⟨nd,rfl⟩⟩;(try first|exact⟨rfl,_,World.drewN_drewN _ _ _⟩|exact⟨rfl,_,Eq.trans (World.drewN_drewN _ _ _) (congrArg (World.drewN _) (Nat.add_assoc _ _ _))⟩))|(go_at_call 83;(with_reducible refine(BD.calls (decide ((rd (AD l0 a0) a2)>0)) t974 _ h3.out).mono ?_);rintro e w' ⟨rfl,⟨nd,rfl⟩⟩;(try first|exact⟨rfl,_,World.drewN_drewN _ _ _⟩|exact⟨rfl,_,Eq.trans (World.drewN_drewN _ _ _) (congrArg (World.drewN _) (Nat.add_assoc _ _ _))⟩);obtain⟨i0,d5,d6⟩:=Kd.Al HO_3.out;subst d6)|(go_at_call 90;(with_reducible refine(Be.calls k3 _ _ a1 (wrap64 ((wrap64 (2*t973))+t974)) t975 _ ?side1 ?side2 h4.out).mono ?_);(case side1=>exact zc (Kd.AN HO_3.out).2.2);(case side2=>exact(Kd.AN HO_3.out).2.1);rintro e w' ⟨rfl,⟨nd,rfl⟩⟩;(try first|exact⟨rfl,_,World.drewN_drewN _ _ _⟩|exact⟨rfl,_,Eq.trans (World.drewN_drewN _ _ _) (congrArg (World.drewN _) (Nat.add_assoc _ _ _))⟩))|(go_at_call 99;(with_reducible refine(BP.calls (rd (AD l0 a0) (a9)) t976 _ h5.out).mono ?_);rintro e w' ⟨rfl,⟨nd,rfl⟩⟩;(try first|exact⟨rfl,_,World.drewN_drewN _ _ _⟩|exact⟨rfl,_,Eq.trans (World.drewN_drewN _ _ _) (congrArg (World.drewN _) (Nat.add_assoc _ _ _))⟩))|(go_at_call 83;(with_reducible refine(BD.calls (decide ((rd (AD l0 a0) (a9))<0)) t977 _ h6.out).mono ?_);rintro e w' ⟨rfl,⟨nd,rfl⟩⟩;(try first|exact⟨rfl,_,World.drewN_drewN _ _ _⟩|exact⟨rfl,_,Eq.trans (World.drewN_drewN _ _ _) (congrArg (World.drewN _) (Nat.add_assoc _ _ _))⟩))|(go_at_call 90;(with_reducible refine(Be.calls k3 _ _ a1 (wrap64 ((wrap64 (2*t976))+t977)) t978 _ ?side1 ?side2 h7.out).mono ?_);(case side1=>exact zc (Kd.AN HO_3.out).2.2);(case side2=>exact(Kd.AN HO_3.out).2.1);rintro e w' ⟨rfl,⟨nd,rfl⟩⟩;(try first|exact⟨rfl,_,World.drewN_drewN _ _ _⟩|exact⟨rfl,_,Eq.trans (World.drewN_drewN _ _ _) (congrArg (World.drewN _) (Nat.add_assoc _ _ _))⟩);have b2:0<=(t975:Int):=za;have b3:(t975:Int)<((a1.length:Int):Int):=za;obtain⟨b0,i1,b4,b5,d7,i2,b6⟩:=Kd.Hj HO_3.out (by omega);(first|cases b4|(injection b4 with ea_ en_ ec_;(first|subst ea_|(injection ea_ with ea_;subst ea_));subst ec_;clear en_));have d8:=ak b5;have i3:=ak b6;clear b5 d7 b6;obtain⟨f1,f2⟩:=Kd.EX 0 HO_3.out (t975:Int) b2 b3;replace b2:=eq_true b2;replace b3:=eq_true b3;obtain⟨b9,c1⟩:=Kd.EX 0 HO_3.out (t975:Int) (za) (za);have a4:=Kd.Ig HO_3.out (t975:Int) t978)|((with_reducible refine Dm (t:=3) (p:=77) rfl ?_);(try(rw[EO wr];generalize hq_:World.drewN wr _=wr;have a7:=ak (Kd.Vs hq_ HO_3.out);have a8:=ak (IA hq_ HB.out);clear hq_ HO_3 HB;have HO_3:=a7;have HB:=a8;clear a7 a8;(try(obtain⟨b9,c1⟩:=Kd.EX 0 HO_3.out (t975:Int) (za) (za)));(try(have a4:=Kd.Ig HO_3.out (t975:Int) t978))));refine DU (t:=3) (p:=77) (v:=?vo_w27) (w1:=(wr.setCell ⟨b0,(t975:Int).toNat,none⟩ (.int .i64 t978))) ?hg ?ho ?hn ?hr ?_;(case ho=>rfl);(case hg=>rfl);(case hn=>rfl);(case hr=>first|(go_simp;done)|(go_simp;rfl));intro b7 hw;have hg:wr.grownBy b7 (some b0):=(by rw[hw];exact a4.2);have hp_:Kd.R (Kd.int .i64) 3 b7 w.heap.size (fun _=>True) (.slice (some ⟨b0,0,none⟩) a1.length d5) d4:=(by rw[hw,e9.out];exact a4.1);clear a4;replace HO_3:=ak (hp_);replace HB:=ak ((by rw[hw];exact BC (HB.out) d8.out:Below w.heap.size w b7));clear hg hw hp_));try go_wp2_with (first|(go_at_call 99;(with_reducible refine(BP.calls (rd (AD l0 a0) a2) t973 _ g9.out).mono ?_);rintro e w' ⟨rfl,⟨nd,rfl⟩⟩;(try first|exact⟨rfl,_,World.drewN_drewN _ _ _⟩|exact⟨rfl,_,Eq.trans (World.drewN_drewN _ _ _) (congrArg (World.drewN _) (Nat.add_assoc _ _ _))⟩))|(go_at_call 83;(with_reducible refine(BD.calls (decide ((rd (AD l0 a0) a2)>0)) t974 _ h3.out).mono ?_);rintro e w' ⟨rfl,⟨nd,rfl⟩⟩;(try first|exact⟨rfl,_,World.drewN_drewN _ _ _⟩|exact⟨rfl,_,Eq.trans (World.drewN_drewN _ _ _) (congrArg (World.drewN _) (Nat.add_assoc _ _ _))⟩);obtain⟨i0,d5,d6⟩:=Kd.Al HO_3.out;subst d6)|(go_at_call 90;(with_reducible refine(Be.calls k3 _ _ a1 (wrap64 ((wrap64 (2*t973))+t974)) t975 _ ?side1 ?side2 h4.out).mono ?_);(case side1=>exact zc (Kd.AN HO_3.out).2.2);(case side2=>exact(Kd.AN HO_3.out).2.1);rintro e w' ⟨rfl,⟨nd,rfl⟩⟩;(try first|exact⟨rfl,_,World.drewN_drewN _ _ _⟩|exact⟨rfl,_,Eq.trans (World.drewN_drewN _ _ _) (congrArg (World.drewN _) (Nat.add_assoc _ _ _))⟩))|(go_at_call 99;(with_reducible refine(BP.calls (rd (AD l0 a0) (a9)) t976 _ h5.out).mono ?_);rintro e w' ⟨rfl,⟨nd,rfl⟩⟩;(try first|exact⟨rfl,_,World.drewN_drewN _ _ _⟩|exact⟨rfl,_,Eq.trans (World.drewN_drewN _ _ _) (congrArg (World.drewN _) (Nat.add_assoc _ _ _))⟩))|(go_at_call 83;(with_reducible refine(BD.calls (decide ((rd (AD l0 a0) (a9))<0)) t977 _ h6.out).mono ?_);rintro e w' ⟨rfl,⟨nd,rfl⟩⟩;(try first|exact⟨rfl,_,World.drewN_drewN _ _ _⟩|exact⟨rfl,_,Eq.trans (World.drewN_drewN _ _ _) (congrArg (World.drewN _) (Nat.add_assoc _ _ _))⟩))|(go_at_call 90;(with_reducible refine(Be.calls k3 _ _ a1 (wrap64 ((wrap64 (2*t976))+t977)) t978 _ ?side1 ?side2 h7.out).mono ?_);(case side1=>exact zc (Kd.AN HO_3.out).2.2);(case side2=>exact(Kd.AN HO_3.out).2.1);rintro e w' ⟨rfl,⟨nd,rfl⟩⟩;(try first|exact⟨rfl,_,World.drewN_drewN _ _ _⟩|exact⟨rfl,_,Eq.trans (World.drewN_drewN _ _ _) (congrArg (World.drewN _) (Nat.add_assoc _ _ _))⟩);have b2:0<=(t975:Int):=za;have b3:(t975:Int)<((a1.length:Int):Int):=za;obtain⟨b0,i1,b4,b5,d7,i2,b6⟩:=Kd.Hj HO_3.out (by omega);(first|cases b4|(injection b4 with ea_ en_ ec_;(first|subst ea_|(injection ea_ with ea_;subst ea_));subst ec_;clear en_));have d8:=ak b5;have i3:=ak b6;clear b5 d7 b6;obtain⟨f1,f2⟩:=Kd.EX 0 HO_3.out (t975:Int) b2 b3;replace b2:=eq_true b2;replace b3:=eq_true b3;obtain⟨b9,c1⟩:=Kd.EX 0 HO_3.out (t975:Int) (za) (za);have a4:=Kd.Ig HO_3.out (t975:Int) t978)|((with_reducible refine Dm (t:=3) (p:=77) rfl ?_);(try(rw[EO wr];generalize hq_:World.drewN wr _=wr;have a7:=ak (Kd.Vs hq_ HO_3.out);have a8:=ak (IA hq_ HB.out);clear hq_ HO_3 HB;have HO_3:=a7;have HB:=a8;clear a7 a8;(try(obtain⟨b9,c1⟩:=Kd.EX 0 HO_3.out (t975:Int) (za) (za)));(try(have a4:=Kd.Ig HO_3.out (t975:Int) t978))));refine DU (t:=3) (p:=77) (v:=?vo_w27) (w1:=(wr.setCell ⟨b0,(t975:Int).toNat,none⟩ (.int .i64 t978))) ?hg ?ho ?hn ?hr ?_;(case ho=>rfl);(case hg=>rfl);(case hn=>rfl);(case hr=>first|(go_simp;done)|(go_simp;rfl));intro b7 hw;have hg:wr.grownBy b7 (some b0):=(by rw[hw];exact a4.2);have hp_:Kd.R (Kd.int .i64) 3 b7 w.heap.size (fun _=>True) (.slice (some ⟨b0,0,none⟩) a1.length d5) d4:=(by rw[hw,e9.out];exact a4.1);clear a4;replace HO_3:=ak (hp_);replace HB:=ak ((by rw[hw];exact BC (HB.out) d8.out:Below w.heap.size w b7));clear hg hw hp_)))
          go_roundg k3
          case measure=>have:=d9.out;have:=f6.out;have:=f7.out;omega
          case rel=>exact⟨(d4),(wrap64 (a2+1)),zd,H',⟨by have:=d9.out;have:=f6.out;have:=f7.out;omega⟩,⟨zr HO_3.out⟩,⟨z0⟩⟩
         ·
          rw[if_neg Du]at H;have i4:=decide_eq_false Du;clear Du;have H':=ak H;clear H;obtain⟨d3,h8,h9,f5,a3,f9,g0,k7,k8⟩:=al f0.out a0;cases f5;replace a3:=zx HB a3
          go_wp2
          repeat(go_quiet (fail);try go_wp2)
          go_roundg k3
          case measure=>have:=d9.out;have:=f6.out;have:=f7.out;omega
          case rel=>exact⟨(a1),(wrap64 (a0+1)),zd,H',⟨by have:=d9.out;have:=f6.out;have:=f7.out;omega⟩,⟨zr HO_3.out⟩,⟨z0⟩⟩
      ·
       rw[if_neg c7]at H;have g7:=decide_eq_false c7;clear c7;obtain rfl:=Option.some.inj H
       go_wp2
       repeat(go_quiet (fail);try go_wp2)
       go_ret
       exact⟨_,ze,zr HO_3.out,z0⟩
end Go.Proofs.Ytlnddmkkgjlmbaa.QFnMoves
namespace Go.Proofs.Ytlnddmkkgjlmbaa.QFnMoves
open Go.Proofs.Ytlnddmkkgjlmbaa.Zip Go.RowKit Go.Proofs.YtlnddmkkgjlmbaaW.PrintWords Go.Proofs.YtlnddmkkgjlmbaaW.PrintLast Go.Proofs.YtlnddmkkgjlmbaaW.PrintMore
attribute [local go_sem] CD CF CW CV Bl Bk CE CG
set_option linter.unusedVariables false
set_option linter.unusedSimpArgs false
set_option maxHeartbeats 8000000
set_option maxRecDepth 100000
def Am.l0:Nat->List Int->List Int->Int->Int->Option (Int)
 |0,_,_,_,_=>none
 |k+1,x3,x4,x5,x6=>if x6<(x4.length:Int)then(if 0<=x6 then(if 0<=(wrap64 (2*(rd x4 x6)))then(if(wrap64 (2*(rd x4 x6)))<(x3.length:Int)then((BD.f ((rd x3 (wrap64 (2*(rd x4 x6))))==(wrap64 (2*(rd x4 x6))))).bind fun t990=>(if 0<=(wrap64 ((wrap64 (2*(rd x4 x6)))+1))then(if(wrap64 ((wrap64 (2*(rd x4 x6)))+1))<(x3.length:Int)then((BD.f ((rd x3 (wrap64 ((wrap64 (2*(rd x4 x6)))+1)))==(wrap64 ((wrap64 (2*(rd x4 x6)))+1)))).bind fun t994=>(Am.l0 k x3 x4 (wrap64 ((wrap64 (x5+t990))+t994)) (wrap64 (x6+1))))else(none))else(none)))else(none))else(none))else(none))else(some x5)
def Am.f (k:Nat) (l0:List (List Int)):Option (Int):=(AL.f k l0).bind fun t980=>(if t980=true then((BB.f k l0).bind fun t981=>((BK.f k l0 1 2).bind fun t984=>(Am.l0 k t981 t984 0 0)))else(some (-1)))
def Am.T9:Bool×List (List Nat×List Nat):=(true,[([],[]),([],[]),([],[]),([],[]),([2,3],[2,3]),([4],[4]),([5],[5]),([1,6],[1,6]),([7],[7]),([],[]),([],[]),([9,10],[9,10]),([11],[11]),([12],[12]),([8,13],[8,13]),([14],[14]),([0,15],[0,15]),([],[]),([],[]),([],[]),([18,19],[18,19]),([20],[20]),([21],[21]),([22],[22]),([17,23],[17,23]),([24],[24]),([],[]),([],[]),([26,27],[26,27]),([28],[28]),([29],[29]),([30],[30]),([25,31],[25,31]),([32,15],[32]),([16,33],[16,33]),([34,33,0,1,2,3,4,5,6,7,8,9,10,11,12,13,14,15,16,17,18,19,20,21,22,23,24,25,26,27,28,29,30,31,32,33,34],[0,34])])
def Am.B9:List Nat:=[0,0,0,0,12,28,60,126,254,0,0,1536,3584,7680,16382,32766,65535,0,0,0,786432,1835008,3932160,8126464,16646144,33423360,0,0,201326592,469762048,1006632960,2080374784,4294836224,8589869054,17179869183,34359738367]
theorem Am.tab9:En .any (opsOf Try.f87 9)=Am.T9:=by kernel_rfl
theorem Am.Xb:DZ Am.T9.2 Am.B9=true:=by kernel_rfl
theorem Am.calls (k:Nat) (A0:Option Addr) (c0:Nat) (l0:List (List Int)) (r:Int) (w:World) (d5:Kd.C (Kd.slice 3 (Kd.int .i64)) w A0 l0.length l0) (d6:l0.length<=c0) (h:Am.f k l0=some r):
 Calls Try.prog 87 #[.slice A0 l0.length c0] w fun e w'=>e= .returned (.int .i64 r)/\Below w.heap.size w w':=by
 have b5:=ak d5;have b6:=ak d6;clear d5 d6;have HB:=ak (Below.refl w.heap.size w);have H:=h;clear h;unfold Am.f at H;replace H:=gb H;obtain⟨t980,A2,H⟩:=H
 by_cases c3:t980=true
 ·
  subst c3;rw[if_pos rfl]at H;replace H:=gb H;obtain⟨t981,A4,H⟩:=H;replace H:=gb H;obtain⟨t984,A5,H⟩:=H;have H':=ak H;clear H
  go_enter Try.func87,Try.ntmps87
  go_wp2_with (first|(refine zl (some 8) Try.func52 #[.slice A0 l0.length c0] ?_;(with_reducible refine(AL.calls k _ _ l0 true _ ?side1 ?side2 A2.out).mono ?_);(case side1=>exact zc b5.out);(case side2=>exact b6.out);rintro e w6 ⟨rfl,hb⟩;refine⟨_,rfl,?_⟩;replace HB:=ak (AG z0 hb))|(refine zl (some 11) Try.func89 #[.slice A0 l0.length c0] ?_;(with_reducible refine(BB.calls k _ _ l0 t981 _ ?side1 ?side2 A4.out).mono ?_);(case side1=>exact zc (Kd.AM b5.out HB.out));(case side2=>exact b6.out);rintro e w7 ⟨b8,rfl,b7,hb⟩;refine⟨_,rfl,?_⟩;have a6:=ak (Kd.BA b7 (AA z0));replace HB:=ak (AG z0 hb))|(refine zl (some 13) Try.func88 #[.slice A0 l0.length c0,.int .i64 1,.int .i64 2] ?_;(with_reducible refine(BK.calls k _ _ l0 1 2 t984 _ ?side1 ?side2 A5.out).mono ?_);(case side1=>exact zc (Kd.AM b5.out HB.out));(case side2=>exact b6.out);rintro e w8 ⟨b9,rfl,b7,hb⟩;refine⟨_,rfl,?_⟩;have d0:=ak (Kd.BA (Kd.DJ b7 (Kd.Ce (zr a6.out))) (AA z0));replace a6:=ak (Kd.CP (zr a6.out) (Kd.CC b7) hb);replace HB:=ak (AG z0 hb)))
  go_loopg [5,6] k (fun kq v5 v6 w'=> ∃(a5:Int) (a0:Int),v5= .int .i64 a5/\v6= .int .i64 a0/\AJ (Am.l0 kq t981 t984 a5 a0=some r)/\AJ (kq<=k)/\AJ (Kd.R (Kd.int .i64) 3 w' w.heap.size (fun k_=>some k_≠(b9:Value).ownBlock) b8 t981)/\AJ (Kd.R (Kd.int .i64) 3 w' w.heap.size (fun k_=>some k_≠(b8:Value).ownBlock) b9 t984)/\AJ (Below w.heap.size w w'))
  case atStart=>exact⟨(0),(0),zd,zd,H',⟨Nat.le_refl _⟩,⟨by(with_reducible repeat(first|apply Kd.BV|apply Kd.BN|apply Kd.BI));exact Kd.AV a6.out (fun _ hk=>hk.2)⟩,⟨by(with_reducible repeat(first|apply Kd.BV|apply Kd.BN|apply Kd.BI));exact Kd.AV d0.out (fun _ hk=>hk.2)⟩,⟨z0⟩⟩
  case round=>
   clear H';obtain⟨a5,a0,rfl,rfl,HA,d7,HO_3,HO_4,HB⟩:=hrel
   cases gk with
   |zero=>exact absurd HA.out (by simp[Am.l0])
   |succ k1=>
    have H:=HA.out;clear HA;simp only[Am.l0]at H
    by_cases c9:a0<(t984.length:Int)
    ·
     rw[if_pos c9]at H;have e8:=decide_eq_true c9;clear c9;replace H:=gi H;obtain⟨Du,H⟩:=H;have g1:=decide_eq_true Du;clear Du;obtain⟨a1,a7⟩: ∃j_:Int,(wrap64 (2*(rd t984 a0)))=j_:=⟨_,rfl⟩
     replace H:(if 0<=(a1)then(if(a1)<(t981.length:Int)then((BD.f ((rd t981 (a1))==(a1))).bind fun t990=>(if 0<=(wrap64 ((a1)+1))then(if(wrap64 ((a1)+1))<(t981.length:Int)then((BD.f ((rd t981 (wrap64 ((a1)+1)))==(wrap64 ((a1)+1)))).bind fun t994=>(Am.l0 k1 t981 t984 (wrap64 ((wrap64 (a5+t990))+t994)) (wrap64 (a0+1))))else(none))else(none)))else(none))else(none))=some r:=by first|(rw[a7]at H;exact H)|(simp only[a7]at H⊢;exact H)
     have hji11w:(IntKind.i64.wrap (2*(rd t984 a0)))=a1:=(Dg _).trans a7;replace H:=gi H;obtain⟨d8,H⟩:=H;have g2:=decide_eq_true d8;clear d8;replace H:=gi H;obtain⟨d9,H⟩:=H;have g3:=decide_eq_true d9;clear d9;replace H:=gb H;obtain⟨t990,e0,H⟩:=H;obtain⟨a2,a4⟩: ∃j_:Int,(wrap64 ((a1)+1))=j_:=⟨_,rfl⟩
     replace H:(if 0<=(a2)then(if(a2)<(t981.length:Int)then((BD.f ((rd t981 (a2))==(a2))).bind fun t994=>(Am.l0 k1 t981 t984 (wrap64 ((wrap64 (a5+t990))+t994)) (wrap64 (a0+1))))else(none))else(none))=some r:=by first|(rw[a4]at H;exact H)|(simp only[a4]at H⊢;exact H)
     (try rw[a4]at e0)
     have hji15w:(IntKind.i64.wrap ((a1)+1))=a2:=(Dg _).trans a4;replace H:=gi H;obtain⟨e1,H⟩:=H;have g4:=decide_eq_true e1;clear e1;replace H:=gi H;obtain⟨e2,H⟩:=H;have g5:=decide_eq_true e2;clear e2;replace H:=gb H;obtain⟨t994,f7,H⟩:=H;have H':=ak H;clear H;obtain⟨g6,g7,e9⟩:=Kd.Al HO_4.out;subst e9
     try go_wp2
     have e3:=ak (Kd.BI HO_3.out);have e4:=ak (Kd.BI HO_4.out);have e5:=ak (Ab HB.out);clear HO_3 HO_4 HB;have HO_3:=e3;have HO_4:=e4;have HB:=e5;clear e3 e4 e5;obtain⟨a3,f0,a8,g8,g9⟩:=ai (Kd.AN HO_4.out).2.2 a0;cases f0;obtain⟨h3,h4,c1⟩:=Kd.Al HO_3.out
     (first|subst c1|(injection c1 with e6 f8 e7;have f9:=e6.symm;have g0:=e7.symm;clear e6 f8 e7;subst f9;subst g0))
     obtain⟨b4,f1,a9,h5,h6⟩:=ai (Kd.AN HO_3.out).2.2 (a1);cases f1;obtain⟨d1,f2,b0,h7,h8⟩:=ai (Kd.AN HO_4.out).2.2 a0;obtain rfl:a3=d1:=(by injection f2);obtain⟨d2,f3,b1,h9,i0⟩:=ai (Kd.AN HO_4.out).2.2 a0;obtain rfl:a3=d2:=(by injection f3);obtain⟨d3,f4,b2,i1,i2⟩:=ai (Kd.AN HO_3.out).2.2 (a2);obtain rfl:b4=d3:=(by injection f4);obtain⟨d4,f5,b3,i3,i4⟩:=ai (Kd.AN HO_4.out).2.2 a0;obtain rfl:a3=d4:=(by injection f5);refine Dp (n:=36) (S:=fun w'=>w'.cell? (a3.add (a0).toNat)=some (.int .i64 (rd t984 a0))/\w'.cell? (b4.add ((a1)).toNat)=some (.int .i64 (rd t981 (a1)))/\w'.cell? (a3.add (a0).toNat)=some (.int .i64 (rd t984 a0))/\w'.cell? (a3.add (a0).toNat)=some (.int .i64 (rd t984 a0))/\w'.cell? (b4.add ((a2)).toNat)=some (.int .i64 (rd t981 (a2)))/\w'.cell? (a3.add (a0).toNat)=some (.int .i64 (rd t984 a0))) (ds:=[]) #[false,false,false,false,false,false,false,false,false,false,false,false,false,false,false,false,false,false,false,false,false,false,false,false,false,false,false,false,false,false,false,false,false,false,false,false] (by kernel_rfl) rfl rfl ⟨a8,a9,b0,b1,b2,b3⟩ (fun hHeld=>?_);refine CY Am.tab9 Am.Xb (fun HT_ HW_=>?_);generalize wr.drew=i7 at HO_3 HO_4 HB a8 a9 b0 b1 b2 b3 hHeld⊢;refine pz 0 20 ?_;refine pz 1 21 ?_;refine pz 2 22 ?_;refine pz 3 23 ?_;refine pz 4 24 ?_;refine pz 9 29 ?_;refine pz 10 30 ?_;refine pz 11 31 ?_;refine pz 17 37 ?_;refine pz 18 38 ?_;refine pz 19 39 ?_;refine pz 20 40 ?_;refine pz 26 46 ?_;refine pz 27 47 ?_;refine pz 28 48 ?_;refine XP 5 25 hHeld ?_;refine pz 6 26 ?_;refine pz 7 27 ?_;refine XP 8 28 hHeld ?_;refine XP 12 32 hHeld ?_;refine pz 13 33 ?_;refine pz 14 34 ?_;refine XP 21 41 hHeld ?_;refine pz 22 42 ?_;refine pz 23 43 ?_;refine pz 24 44 ?_;refine XP 25 45 hHeld ?_;refine XP 29 49 hHeld ?_;refine pz 30 50 ?_;refine pz 31 51 ?_;refine pz 32 52 ?_;refine oz 15 35 (fun K hK=>?_);refine Qn Try.func83 (by kernel_rfl) rfl #[.bool ((rd t981 (a1))==(a1))] (by rfl) rfl rfl (by(try simp only[List.map_toArray,List.map_cons,List.map_nil]);first|done|(simp only[a7];rfl)|rfl|(simp only[List.length_drop,List.length_take];rfl)) ?_
     with_reducible refine(BD.calls ((rd t981 (a1))==(a1)) t990 _ e0.out).mono ?_
     rintro e w' ⟨rfl,⟨nd,rfl⟩⟩;refine⟨_,rfl,?_⟩;refine hK.out _ _ ⟨hHeld.1,hHeld.2.1,hHeld.2.2.1,hHeld.2.2.2.1,hHeld.2.2.2.2.1,hHeld.2.2.2.2.2⟩ (fun hHeld=>?_);clear hK K;refine nz 35 ?_;refine pz 16 36 ?_;refine oz 33 53 (fun K hK=>?_);refine Qn Try.func83 (by kernel_rfl) rfl #[.bool ((rd t981 (a2))==(a2))] (by rfl) rfl rfl (by(try simp only[List.map_toArray,List.map_cons,List.map_nil]);first|done|(simp only[a4];rfl)|rfl|(simp only[List.length_drop,List.length_take];rfl)) ?_
     with_reducible refine(BD.calls ((rd t981 (a2))==(a2)) t994 _ f7.out).mono ?_
     rintro e w' ⟨rfl,⟨nd,rfl⟩⟩;refine⟨_,rfl,?_⟩;refine hK.out _ _ ⟨hHeld.1,hHeld.2.1,hHeld.2.2.1,hHeld.2.2.2.1,hHeld.2.2.2.2.1,hHeld.2.2.2.2.2⟩ (fun hHeld=>?_);clear hK K;refine nz 53 ?_;refine pz 34 54 ?_;refine pz 35 5 ?_;refine Ea (DI HT_.out (by kernel_rfl)) ?_
     try go_wp2
     go_roundg k1
     case measure=>have:=d7.out;omega
     case rel=>exact⟨(wrap64 ((wrap64 (a5+t990))+t994)),(wrap64 (a0+1)),zd,zd,H',⟨by have:=d7.out;omega⟩,⟨zr HO_3.out⟩,⟨zr HO_4.out⟩,⟨z0⟩⟩
    ·
     rw[if_neg c9]at H;have e8:=decide_eq_false c9;clear c9;obtain rfl:=Option.some.inj H;obtain⟨i5,i6,f6⟩:=Kd.Al HO_4.out;subst f6
     go_wp2
     go_ret
     exact⟨ze,z0⟩
 ·
  replace c3:=Bool.eq_false_iff.mpr c3;subst c3;rw[if_neg (show¬(false=true) by decide)]at H;obtain rfl:=Option.some.inj H
  go_enter Try.func87,Try.ntmps87
  go_wp2_with (first|(refine zl (some 8) Try.func52 #[.slice A0 l0.length c0] ?_;(with_reducible refine(AL.calls k _ _ l0 false _ ?side1 ?side2 A2.out).mono ?_);(case side1=>exact zc b5.out);(case side2=>exact b6.out);rintro e i9 ⟨rfl,hb⟩;refine⟨_,rfl,?_⟩;replace HB:=ak (AG z0 hb)))
  go_ret
  exact⟨ze,z0⟩
def Df.f (k:Nat) (l0:List (List Int)):Option (Int):=(AL.f k l0).bind fun t995=>(if t995=true then((Am.f k l0).bind fun t996=>((BK.f k l0 1 2).bind fun t997=>(some (wrap64 ((wrap64 (t996-(t997.length:Int)))+(l0.length:Int))))))else(some (-100)))
theorem Df.calls (k:Nat) (A0:Option Addr) (c0:Nat) (l0:List (List Int)) (r:Int) (w:World) (a3:Kd.C (Kd.slice 3 (Kd.int .i64)) w A0 l0.length l0) (a4:l0.length<=c0) (h:Df.f k l0=some r):
 Calls Try.prog 43 #[.slice A0 l0.length c0] w fun e w'=>e= .returned (.int .i64 r)/\Below w.heap.size w w':=by
 have a0:=ak a3;have a1:=ak a4;clear a3 a4;have HB:=ak (Below.refl w.heap.size w);have H:=h;clear h;unfold Df.f at H;replace H:=gb H;obtain⟨t995,A2,H⟩:=H
 by_cases c3:t995=true
 ·
  subst c3;rw[if_pos rfl]at H;replace H:=gb H;obtain⟨t996,A4,H⟩:=H;replace H:=gb H;obtain⟨t997,A5,H⟩:=H;obtain rfl:=Option.some.inj H
  go_enter Try.func43,Try.ntmps43
  go_wp2_with (first|(refine zl (some 4) Try.func52 #[.slice A0 l0.length c0] ?_;(with_reducible refine(AL.calls k _ _ l0 true _ ?side1 ?side2 A2.out).mono ?_);(case side1=>exact zc a0.out);(case side2=>exact a1.out);rintro e w6 ⟨rfl,hb⟩;refine⟨_,rfl,?_⟩;replace HB:=ak (AG z0 hb))|(refine zl (some 7) Try.func87 #[.slice A0 l0.length c0] ?_;(with_reducible refine(Am.calls k _ _ l0 t996 _ ?side1 ?side2 A4.out).mono ?_);(case side1=>exact zc (Kd.AM a0.out HB.out));(case side2=>exact a1.out);rintro e w7 ⟨rfl,hb⟩;refine⟨_,rfl,?_⟩;replace HB:=ak (AG z0 hb))|(refine zl (some 9) Try.func88 #[.slice A0 l0.length c0,.int .i64 1,.int .i64 2] ?_;(with_reducible refine(BK.calls k _ _ l0 1 2 t997 _ ?side1 ?side2 A5.out).mono ?_);(case side1=>exact zc (Kd.AM a0.out HB.out));(case side2=>exact a1.out);rintro e w8 ⟨a7,rfl,a5,hb⟩;refine⟨_,rfl,?_⟩;have a2:=ak (Kd.BA a5 (AA z0));replace HB:=ak (AG z0 hb);obtain⟨a9,b0,a6⟩:=Kd.Al a2.out;subst a6))
  go_ret
  exact⟨ze,z0⟩
 ·
  replace c3:=Bool.eq_false_iff.mpr c3;subst c3;rw[if_neg (show¬(false=true) by decide)]at H;obtain rfl:=Option.some.inj H
  go_enter Try.func43,Try.ntmps43
  go_wp2_with (first|(refine zl (some 4) Try.func52 #[.slice A0 l0.length c0] ?_;(with_reducible refine(AL.calls k _ _ l0 false _ ?side1 ?side2 A2.out).mono ?_);(case side1=>exact zc a0.out);(case side2=>exact a1.out);rintro e b1 ⟨rfl,hb⟩;refine⟨_,rfl,?_⟩;replace HB:=ak (AG z0 hb)))
  go_ret
  exact⟨ze,z0⟩
def Cb.l0:Nat->List Int->Int->Int->Option (Bool)
 |0,_,_,_=>none
 |k+1,x0,x1,x5=>if x5<(x0.length:Int)then(if 0<=x5 then((BP.f (rd x0 x5)).bind fun t1001=>(if t1001=x1 then(some true)else(Cb.l0 k x0 x1 (wrap64 (x5+1)))))else(none))else(some false)
def Cb.f (k:Nat) (l0:List Int) (a1:Int):Option (Bool):=Cb.l0 k l0 a1 0
theorem Cb.calls (k:Nat) (A0:Option Addr) (c0:Nat) (l0:List Int) (a1:Int) (r:Bool) (w:World) (a7:Kd.C (Kd.int .i64) w A0 l0.length l0) (a8:l0.length<=c0) (h:Cb.f k l0 a1=some r):
 Calls Try.prog 91 #[.slice A0 l0.length c0,.int .i64 a1] w fun e w'=>e= .returned (.bool r)/\Cj w w':=by
 have a9:=ak a7;have b5:=ak a8;clear a7 a8;have H:=h;clear h;unfold Cb.f at H;have H':=ak H;clear H
 go_enter Try.func91,Try.ntmps91
 go_wp2
 go_loopg [5] k (fun kq v5 w'=> ∃(a0:Int),v5= .int .i64 a0/\AJ (Cb.l0 kq l0 a1 a0=some r)/\AJ (kq<=k)/\Cj w w')
 case atStart=>exact⟨(0),zd,H',⟨Nat.le_refl _⟩,z3⟩
 case round=>
  clear H';obtain⟨a0,rfl,HA,b0,⟨m1,rfl⟩⟩:=hrel
  cases gk with
  |zero=>exact absurd HA.out (by simp[Cb.l0])
  |succ k1=>
   have H:=HA.out;clear HA;simp only[Cb.l0]at H
   by_cases c3:a0<(l0.length:Int)
   ·
    rw[if_pos c3]at H;have b1:=decide_eq_true c3;clear c3;replace H:=gi H;obtain⟨c4,H⟩:=H;have b4:=decide_eq_true c4;clear c4;replace H:=gb H;obtain⟨t1001,A5,H⟩:=H
    by_cases c6:t1001=a1
    ·
     rw[if_pos c6]at H;have b2:(t1001==a1)=true:=beq_iff_eq.mpr c6;have b3:(t1001 != a1)=false:=bne_eq_false_iff_eq.mpr c6;clear c6;obtain rfl:=Option.some.inj H;obtain⟨a4,a2,a3,a5,a6⟩:=ai a9.out a0;cases a2
     go_wp2_with (first|(refine zl (some 16) Try.func99 #[.int .i64 (rd l0 a0)] ?_;(with_reducible refine(BP.calls (rd l0 a0) t1001 _ A5.out).mono ?_);rintro e w' ⟨rfl,⟨nd,rfl⟩⟩;refine⟨_,rfl,?_⟩))
     go_ret
     exact⟨by first|rfl|(simp;done)|(simp[*];done),z3⟩
    ·
     rw[if_neg c6]at H;have b2:(t1001==a1)=false:=beq_eq_false_iff_ne.mpr c6;have b3:(t1001 != a1)=true:=bne_iff_ne.mpr c6;have H':=ak H;clear H;obtain⟨a4,a2,a3,a5,a6⟩:=ai a9.out a0;cases a2
     go_wp2_with (first|(refine zl (some 16) Try.func99 #[.int .i64 (rd l0 a0)] ?_;(with_reducible refine(BP.calls (rd l0 a0) t1001 _ A5.out).mono ?_);rintro e w' ⟨rfl,⟨nd,rfl⟩⟩;refine⟨_,rfl,?_⟩))
     go_roundg k1
     case measure=>have:=b0.out;omega
     case rel=>exact⟨(wrap64 (a0+1)),zd,H',⟨by have:=b0.out;omega⟩,z3⟩
   ·
    rw[if_neg c3]at H;have b1:=decide_eq_false c3;clear c3;obtain rfl:=Option.some.inj H
    go_wp2
    go_ret
    exact⟨by first|rfl|(simp;done)|(simp[*];done),z3⟩
end Go.Proofs.Ytlnddmkkgjlmbaa.QFnMoves
namespace Go.Proofs.Ytlnddmkkgjlmbaa.QFnMoves
open Go.Proofs.Ytlnddmkkgjlmbaa.Zip Go.RowKit Go.Proofs.YtlnddmkkgjlmbaaW.PrintWords Go.Proofs.YtlnddmkkgjlmbaaW.PrintLast Go.Proofs.YtlnddmkkgjlmbaaW.PrintMore
attribute [local go_sem] CD CF CW CV Bl Bk CE CG
set_option linter.unusedVariables false
set_option linter.unusedSimpArgs false
mutual
def AO.l0:Nat->List (List Int)->List Int->Int->Option (Int)
 |0,_,_,_=>none
 |k+1,x0,x3,x4=>if x4<(x0.length:Int)then(if x3.length<17592186044416 then(AO.l0 k x0 (x3++[x4]) (wrap64 (x4+1)))else(none))else(AO.l1 k x0 x3 0)
def AO.l1:Nat->List (List Int)->List Int->Int->Option (Int)
 |0,_,_,_=>none
 |k+1,x0,x3,x5=>if x5<(x0.length:Int)then(AO.l2 k x0 x3 x5 0)else(AO.l4 k x0 x3 0 0)
def AO.l2:Nat->List (List Int)->List Int->Int->Int->Option (Int)
 |0,_,_,_,_=>none
 |k+1,x0,x3,x5,x6=>if x6<x5 then(AO.l3 k x0 x3 x5 x6 1)else(AO.l1 k x0 x3 (wrap64 (x5+1)))
def AO.l3:Nat->List (List Int)->List Int->Int->Int->Int->Option (Int)
 |0,_,_,_,_,_=>none
 |k+1,x0,x3,x5,x6,x7=>if x7<=8 then(if 0<=x5 then(if x5<(x0.length:Int)then((Cb.f k (AD x0 x5) x7).bind fun t1010=>(if t1010=true then(if 0<=x6 then(if x6<(x0.length:Int)then((Cb.f k (AD x0 x6) x7).bind fun t1012=>(AO.j4 k x0 x3 x5 x6 x7 t1012))else(none))else(none))else(AO.j4 k x0 x3 x5 x6 x7 false)))else(none))else(none))else(AO.l2 k x0 x3 x5 (wrap64 (x6+1)))
def AO.j4:Nat->List (List Int)->List Int->Int->Int->Int->Bool->Option (Int)
 |0,_,_,_,_,_,_=>none
 |k+1,x0,x3,x5,x6,x7,a0=>if a0=true then((Be.f k x3 x5).bind fun t1013=>((Be.f k x3 x6).bind fun t1014=>(if 0<=t1013 then(if t1013<(x3.length:Int)then(AO.l3 k x0 (x3.set (t1013:Int).toNat t1014) x5 x6 (wrap64 (x7+1)))else(none))else(none))))else(AO.l3 k x0 x3 x5 x6 (wrap64 (x7+1)))
def AO.l4:Nat->List (List Int)->List Int->Int->Int->Option (Int)
 |0,_,_,_,_=>none
 |k+1,x0,x3,x8,x9=>if x9<(x0.length:Int)then(if 0<=x9 then(if x9<(x3.length:Int)then((BD.f ((rd x3 x9)==x9)).bind fun t1017=>(AO.l4 k x0 x3 (wrap64 (x8+t1017)) (wrap64 (x9+1))))else(none))else(none))else(some x8)
end
def AO.f (k:Nat) (l0:List (List Int)):Option (Int):=(AL.f k l0).bind fun t1002=>(if t1002=true then(AO.l0 k l0 (([]:List Int)) 0)else(some (-1)))
set_option maxHeartbeats 8000000 in
set_option maxRecDepth 100000 in
theorem AO.calls (k:Nat) (A0:Option Addr) (c0:Nat) (l0:List (List Int)) (r:Int) (w:World) (k8:Kd.C (Kd.slice 3 (Kd.int .i64)) w A0 l0.length l0) (k9:l0.length<=c0) (h:AO.f k l0=some r):
 Calls Try.prog 45 #[.slice A0 l0.length c0] w fun e w'=>e= .returned (.int .i64 r)/\Below w.heap.size w w':=by
 have f7:=ak k8;have l5:=ak k9;clear k8 k9;have HB:=ak (Below.refl w.heap.size w);have H:=h;clear h;unfold AO.f at H;replace H:=gb H;obtain⟨t1002,A2,H⟩:=H
 by_cases c3:t1002=true
 ·
  subst c3;rw[if_pos rfl]at H;obtain⟨g9,d9⟩: ∃y_:List Int,y_=(([]:List Int)):=⟨_,rfl⟩;replace H:(AO.l0 k l0 g9 0)=some r:=zy d9 H;have f8:=ak d9;clear d9;have H':=ak H;clear H
  go_enter Try.func45,Try.ntmps45
  go_wp2_with (first|(refine zl (some 11) Try.func52 #[.slice A0 l0.length c0] ?_;(with_reducible refine(AL.calls k _ _ l0 true _ ?side1 ?side2 A2.out).mono ?_);(case side1=>exact zc f7.out);(case side2=>exact l5.out);rintro e w4 ⟨rfl,hb⟩;refine⟨_,rfl,?_⟩;replace HB:=ak (AG z0 hb))|((with_reducible refine Ar (N:=13) rfl ?_);refine Kd.DS (Kd.int .i64) _ 3 ?hg (N:=13) ?hd (xs:=([]:List Int)) (inner:=[]) (ok:=fun _=>True) (okp:=fun _=>True) ?hr ?hp (fun _ hk=>hk) trivial (Below.refl _ _) (Nat.le_refl _) (by simp) ?_;(case hd=>rfl);(case hg=>rfl);(case hr=>first|(go_simp;done)|(go_simp;rfl));(case hp=>exact(Av.none _ _));intro n8 w5 f9 hb hg_ hnew_;clear hg_ hnew_;(first|rw[<-f8.out]at f9|(simp only[Int.reduceToNat]at f9;rw[<-f8.out]at f9));have i1:=ak (Kd.BA f9 (AA z0));replace HB:=ak (AG z0 hb);clear hb f9))
  go_loopg [3,4] k (fun kq v3 v4 w'=> ∃(b9:List Int) (a9:Int),v4= .int .i64 a9/\AJ (AO.l0 kq l0 b9 a9=some r)/\AJ (kq<=k)/\AJ (Kd.R (Kd.int .i64) 3 w' w.heap.size (fun _=>True) v3 b9)/\AJ (Below w.heap.size w w'))
  case atStart=>exact⟨(g9),(0),zd,H',⟨Nat.le_refl _⟩,⟨zr i1.out⟩,⟨z0⟩⟩
  case round=>
   clear H';obtain⟨b9,a9,rfl,HA,a6,HO_3,HB⟩:=hrel
   cases gk with
   |zero=>exact absurd HA.out (by simp[AO.l0])
   |succ k1=>
    have H:=HA.out;clear HA;simp only[AO.l0]at H
    by_cases c7:a9<(l0.length:Int)
    ·
     rw[if_pos c7]at H;have d0:=decide_eq_true c7;clear c7;replace H:=gi H;obtain⟨c8,H⟩:=H;have m1:=ak c8;clear c8;obtain⟨h3,e0⟩: ∃y_:List Int,y_=(b9++[a9]):=⟨_,rfl⟩;replace H:(AO.l0 k1 l0 h3 (wrap64 (a9+1)))=some r:=zy e0 H;have i2:=ak e0;clear e0;have H':=ak H;clear H
     go_wp2_with (first|((with_reducible refine Ak (b:= .append) (xs:= #[.tmp 20,.tmp 22]) rfl ?_);at_builtin;refine Kd.Cy (Kd.int .i64) (w0:=w) w.heap.size rfl (.tmp 20) (.tmp 22) 47 3 (.int .i64 0) 8 rfl Try.underlying47 BT rfl (by decide) (by omega) u3 b9 a9 [.int .i64 a9] (fun _=>True) (fun _=>False) rfl rfl ?aP (fun _ hk=>hk.elim) ?aF ?aO ?aB ?aS ?aL ?_;(case aP=>exact rfl);(case aB=>exact z0);(case aF=>exact(fun _ _=>trivial));(case aO=>exact(zr HO_3.out));(case aS=>exact(AA z0));(case aL=>have:=m1.out;omega);intro n9 w9 ho hb hg hat;rw[<-i2.out]at ho;have d3:=ak (hb);have d4:=ak (ho);clear HB HO_3;have HB:=d3;have i3:=d4;clear d3 d4 ho hb hg hat))
     go_roundg k1
     case measure=>have:=a6.out;omega
     case rel=>exact⟨(h3),(wrap64 (a9+1)),zd,H',⟨by have:=a6.out;omega⟩,⟨zr i3.out⟩,⟨z0⟩⟩
    ·
     rw[if_neg c7]at H;have d0:=decide_eq_false c7;clear c7;have H':=ak H;clear H
     go_wp2
     go_loopg [5] k1 (fun kq v5 w'=> ∃(b1:List Int) (a0:Int),v5= .int .i64 a0/\AJ (AO.l1 kq l0 b1 a0=some r)/\AJ (kq<=k1)/\AJ (Kd.R (Kd.int .i64) 3 w' w.heap.size (fun _=>True) u3 b1)/\AJ (Below w.heap.size w w'))
     case atStart=>exact⟨(b9),(0),zd,H',⟨Nat.le_refl _⟩,⟨zr HO_3.out⟩,⟨z0⟩⟩
     case round=>
      clear H';obtain⟨b1,a0,rfl,HA,b0,HO_3,HB⟩:=hrel
      cases gk with
      |zero=>exact absurd HA.out (by simp[AO.l1])
      |succ k2=>
       have H:=HA.out;clear HA;simp only[AO.l1]at H
       by_cases Du:a0<(l0.length:Int)
       ·
        rw[if_pos Du]at H;have b4:=decide_eq_true Du;clear Du;have H':=ak H;clear H
        go_wp2
        go_loopg [6] k2 (fun kq v6 w'=> ∃(e1:List Int) (a3:Int),v6= .int .i64 a3/\AJ (AO.l2 kq l0 e1 a0 a3=some r)/\AJ (kq<=k2)/\AJ (Kd.R (Kd.int .i64) 3 w' w.heap.size (fun _=>True) u3 e1)/\AJ (Below w.heap.size w w'))
        case atStart=>exact⟨(b1),(0),zd,H',⟨Nat.le_refl _⟩,⟨zr HO_3.out⟩,⟨z0⟩⟩
        case round=>
         clear H';obtain⟨e1,a3,rfl,HA,a8,HO_3,HB⟩:=hrel
         cases gk with
         |zero=>exact absurd HA.out (by simp[AO.l2])
         |succ k3=>
          have H:=HA.out;clear HA;simp only[AO.l2]at H
          by_cases b5:a3<a0
          ·
           rw[if_pos b5]at H;have d7:=decide_eq_true b5;clear b5;have H':=ak H;clear H
           go_wp2
           go_loopg [7] k3 (fun kq v7 w'=> ∃(a1:List Int) (a4:Int),v7= .int .i64 a4/\AJ (AO.l3 kq l0 a1 a0 a3 a4=some r)/\AJ (kq<=k3)/\AJ (Kd.R (Kd.int .i64) 3 w' w.heap.size (fun _=>True) u3 a1)/\AJ (Below w.heap.size w w'))
           case atStart=>exact⟨(e1),(1),zd,H',⟨Nat.le_refl _⟩,⟨zr HO_3.out⟩,⟨z0⟩⟩
           case round=>
            clear H';obtain⟨a1,a4,rfl,HA,d5,HO_3,HB⟩:=hrel
            cases gk with
            |zero=>exact absurd HA.out (by simp[AO.l3])
            |succ k4=>
             have H:=HA.out;clear HA;simp only[AO.l3]at H
             by_cases d6:a4<=8
             ·
              rw[if_pos d6]at H;have e9:=decide_eq_true d6;clear d6;have g4:=ak H;clear H
              go_upto_region 17 with(fail)
              go_cut [52] (fun n0 wc=> ∃(kq:Nat) (b6:Bool),n0= .bool b6/\AJ (AO.j4 kq l0 a1 a0 a3 a4 b6=some r)/\AJ (kq<=k4)/\AJ (Kd.R (Kd.int .i64) 3 wc w.heap.size (fun _=>True) u3 a1)/\AJ (Below w.heap.size w wc))
              case first=>
               have H:=g4.out;clear g4;replace H:=gi H;obtain⟨h4,H⟩:=H;have d8:=decide_eq_true h4;clear h4
               (first|rw[d8]|(simp only[Dg,Ep];rw[d8])|skip)
               replace H:=gi H;obtain⟨h5,H⟩:=H;have h6:=decide_eq_true h5;clear h5;replace H:=gb H;obtain⟨t1010,l6,H⟩:=H
               by_cases e7:t1010=true
               ·
                subst e7;rw[if_pos rfl]at H;replace H:=gi H;obtain⟨h7,H⟩:=H;have h8:=decide_eq_true h7;clear h7;replace H:=gi H;obtain⟨h9,H⟩:=H;have i0:=decide_eq_true h9;clear h9;replace H:=gb H;obtain⟨t1012,n1,H⟩:=H;have H':=ak H;clear H;obtain⟨g0,d1,d2,f0,a2,b2,b3,f1,f2⟩:=al f7.out a0;cases f0;replace a2:=zx HB a2
                go_wp2_with (first|(refine zl (some 44) Try.func91 #[.slice d1 (AD l0 a0).length d2,.int .i64 a4] ?_;(with_reducible refine(Cb.calls k4 _ _ (AD l0 a0) a4 true _ ?side1 ?side2 l6.out).mono ?_);(case side1=>exact zc (Kd.AM b3.out HB.out));(case side2=>exact b2.out);rintro e w' ⟨rfl,⟨nd,rfl⟩⟩;refine⟨_,rfl,?_⟩;have b7:0<=(a3:Int):=za;have b8:a3<(l0.length:Int):=za;obtain⟨i4,m8,m9,j9,a5,e2,e3⟩:=Cl f7.out a3 b7 b8;obtain rfl:g0=i4:=(by injection j9);replace a5:=(HB.out.cell (World.block_lt_of_cell? w _ a5)).trans a5;have g5:=ak e3;have g6:=ak e2;clear e3 e2;replace b7:=eq_true b7;replace b8:=eq_true b8)|(go_at_call 91;(with_reducible refine(Cb.calls k4 _ _ (AD l0 a3) a4 t1012 _ ?side1 ?side2 n1.out).mono ?_);(case side1=>repeat(first|exact(Kd.AM g5.out z0)|(with_reducible refine Kd.Az ?_ _)|(with_reducible refine Kd.Ao ?_ _)|(with_reducible refine Kd.BL ?_)));(case side2=>exact g6.out);rintro e w' ⟨rfl,⟨nd,rfl⟩⟩))
                go_meet
                case rel=>exact⟨_,(t1012),zd,H',⟨by have:=a6.out;have:=b0.out;have:=a8.out;have:=d5.out;first|omega|exact Nat.le_refl _⟩,⟨zr HO_3.out⟩,⟨z0⟩⟩
               ·
                replace e7:=Bool.eq_false_iff.mpr e7;subst e7;rw[if_neg (show¬(false=true) by decide)]at H;have H':=ak H;clear H;obtain⟨g0,d1,d2,f0,a2,b2,b3,f1,f2⟩:=al f7.out a0;cases f0;replace a2:=zx HB a2
                go_wp2_with (first|(refine zl (some 44) Try.func91 #[.slice d1 (AD l0 a0).length d2,.int .i64 a4] ?_;(with_reducible refine(Cb.calls k4 _ _ (AD l0 a0) a4 false _ ?side1 ?side2 l6.out).mono ?_);(case side1=>exact zc (Kd.AM b3.out HB.out));(case side2=>exact b2.out);rintro e w' ⟨rfl,⟨nd,rfl⟩⟩;refine⟨_,rfl,?_⟩))
                go_meet
                case rel=>exact⟨_,(false),zd,H',⟨by have:=a6.out;have:=b0.out;have:=a8.out;have:=d5.out;first|omega|exact Nat.le_refl _⟩,⟨zr HO_3.out⟩,⟨z0⟩⟩
              case rest=>
               clear g4;obtain⟨kq,b6,rfl,HA,f3,HO_3,HB⟩:=hcut
               cases kq with
               |zero=>exact absurd HA.out (by simp[AO.j4])
               |succ e4=>
                have H:=HA.out;clear HA;simp only[AO.j4]at H
                by_cases g1:b6=true
                ·
                 subst g1;rw[if_pos rfl]at H;replace H:=gb H;obtain⟨t1013,n3,H⟩:=H;replace H:=gb H;obtain⟨t1014,n4,H⟩:=H;replace H:=gi H;obtain⟨i5,H⟩:=H;have k0:=decide_eq_true i5;clear i5;replace H:=gi H;obtain⟨i6,H⟩:=H;have k5:=decide_eq_true i6;clear i6;obtain⟨f4,e5⟩: ∃y_:List Int,y_=(a1.set (t1013:Int).toNat t1014):=⟨_,rfl⟩;replace H:(AO.l3 e4 l0 f4 a0 a3 (wrap64 (a4+1)))=some r:=zy e5 H;have i7:=ak e5;clear e5;have H':=ak H;clear H;obtain⟨f5,e6,m3⟩:=Kd.Al HO_3.out;subst m3
                 go_wp2_with (first|(refine zl (some 56) Try.func90 #[.slice f5 a1.length e6,.int .i64 a0] ?_;(with_reducible refine(Be.calls e4 _ _ a1 a0 t1013 _ ?side1 ?side2 n3.out).mono ?_);(case side1=>exact zc (Kd.AN HO_3.out).2.2);(case side2=>exact(Kd.AN HO_3.out).2.1);rintro e w' ⟨rfl,⟨nd,rfl⟩⟩;refine⟨_,rfl,?_⟩;(try(rw[EO wc];generalize hq_:World.drewN wc _=wc;have d3:AJ (Kd.R (Kd.int .i64) 3 wc w.heap.size (fun _=>True) (.slice f5 a1.length e6) a1):=⟨by rw[<-hq_];exact(zr HO_3.out)⟩;have d4:AJ (Below w.heap.size w wc):=⟨by rw[<-hq_];exact z0⟩;clear HO_3 HB hq_;have HO_3:=d3;have HB:=d4;clear d3 d4)))|(refine zl (some 59) Try.func90 #[.slice f5 a1.length e6,.int .i64 a3] ?_;(with_reducible refine(Be.calls e4 _ _ a1 a3 t1014 _ ?side1 ?side2 n4.out).mono ?_);(case side1=>exact zc (Kd.AN HO_3.out).2.2);(case side2=>exact(Kd.AN HO_3.out).2.1);rintro e w' ⟨rfl,⟨nd,rfl⟩⟩;refine⟨_,rfl,?_⟩;(try(rw[EO wc];generalize hq_:World.drewN wc _=wc;have d3:AJ (Kd.R (Kd.int .i64) 3 wc w.heap.size (fun _=>True) (.slice f5 a1.length e6) a1):=⟨by rw[<-hq_];exact(zr HO_3.out)⟩;have d4:AJ (Below w.heap.size w wc):=⟨by rw[<-hq_];exact z0⟩;clear HO_3 HB hq_;have HO_3:=d3;have HB:=d4;clear d3 d4));have g2:0<=(t1013:Int):=za;have g3:(t1013:Int)<((a1.length:Int):Int):=za;obtain⟨g7,o6,i9,j5,m4,o7,j6⟩:=Kd.Hj HO_3.out (by omega);(first|cases i9|(injection i9 with ea_ en_ ec_;(first|subst ea_|(injection ea_ with ea_;subst ea_));subst ec_;clear en_));have m5:=ak j5;have o8:=ak j6;clear j5 m4 j6;obtain⟨j7,n5⟩:=Kd.EX 0 HO_3.out (t1013:Int) g2 g3;replace g2:=eq_true g2;replace g3:=eq_true g3;obtain⟨o0,o1⟩:=Kd.EX 0 HO_3.out (t1013:Int) (za) (za);have g8:=Kd.Ig HO_3.out (t1013:Int) t1014)|((with_reducible refine Dm (t:=3) (p:=60) rfl ?_);refine DU (t:=3) (p:=60) (v:=?vo_w29) (w1:=(wc.setCell ⟨g7,(t1013:Int).toNat,none⟩ (.int .i64 t1014))) ?hg ?ho ?hn ?hr ?_;(case ho=>rfl);(case hg=>rfl);(case hn=>rfl);(case hr=>first|(go_simp;done)|(go_simp;rfl));intro j8 hw;have hg:wc.grownBy j8 (some g7):=(by rw[hw];exact g8.2);have hp_:Kd.R (Kd.int .i64) 3 j8 w.heap.size (fun _=>True) (.slice (some ⟨g7,0,none⟩) a1.length e6) f4:=(by rw[hw,i7.out];exact g8.1);clear g8;replace HO_3:=ak (hp_);replace HB:=ak ((by rw[hw];exact BC (HB.out) m5.out:Below w.heap.size w j8));clear hg hw hp_))
                 go_roundg e4
                 case measure=>have:=a6.out;have:=b0.out;have:=a8.out;have:=d5.out;have:=f3.out;omega
                 case rel=>exact⟨(f4),(wrap64 (a4+1)),zd,H',⟨by have:=a6.out;have:=b0.out;have:=a8.out;have:=d5.out;have:=f3.out;omega⟩,⟨zr HO_3.out⟩,⟨z0⟩⟩
                ·
                 replace g1:=Bool.eq_false_iff.mpr g1;subst g1;rw[if_neg (show¬(false=true) by decide)]at H;have H':=ak H;clear H
                 go_wp2
                 go_roundg e4
                 case measure=>have:=a6.out;have:=b0.out;have:=a8.out;have:=d5.out;have:=f3.out;omega
                 case rel=>exact⟨(a1),(wrap64 (a4+1)),zd,H',⟨by have:=a6.out;have:=b0.out;have:=a8.out;have:=d5.out;have:=f3.out;omega⟩,⟨zr HO_3.out⟩,⟨z0⟩⟩
             ·
              rw[if_neg d6]at H;have e9:=decide_eq_false d6;clear d6;have H':=ak H;clear H
              go_wp2
              go_roundg k4
              case measure=>have:=a6.out;have:=b0.out;have:=a8.out;have:=d5.out;omega
              case rel=>exact⟨(a1),(wrap64 (a3+1)),zd,H',⟨by have:=a6.out;have:=b0.out;have:=a8.out;have:=d5.out;omega⟩,⟨zr HO_3.out⟩,⟨z0⟩⟩
          ·
           rw[if_neg b5]at H;have d7:=decide_eq_false b5;clear b5;have H':=ak H;clear H
           go_wp2
           go_roundg k3
           case measure=>have:=a6.out;have:=b0.out;have:=a8.out;omega
           case rel=>exact⟨(e1),(wrap64 (a0+1)),zd,H',⟨by have:=a6.out;have:=b0.out;have:=a8.out;omega⟩,⟨zr HO_3.out⟩,⟨z0⟩⟩
       ·
        rw[if_neg Du]at H;have b4:=decide_eq_false Du;clear Du;have H':=ak H;clear H
        go_wp2
        go_loopg [8,9] k2 (fun kq v8 v9 w'=> ∃(f6:Int) (a7:Int),v8= .int .i64 f6/\v9= .int .i64 a7/\AJ (AO.l4 kq l0 b1 f6 a7=some r)/\AJ (kq<=k2)/\AJ (Kd.R (Kd.int .i64) 3 w' w.heap.size (fun _=>True) u3 b1)/\AJ (Below w.heap.size w w'))
        case atStart=>exact⟨(0),(0),zd,zd,H',⟨Nat.le_refl _⟩,⟨zr HO_3.out⟩,⟨z0⟩⟩
        case round=>
         clear H';obtain⟨f6,a7,rfl,rfl,HA,a8,HO_3,HB⟩:=hrel
         cases gk with
         |zero=>exact absurd HA.out (by simp[AO.l4])
         |succ k3=>
          have H:=HA.out;clear HA;simp only[AO.l4]at H
          by_cases e8:a7<(l0.length:Int)
          ·
           rw[if_pos e8]at H;have k6:=decide_eq_true e8;clear e8;replace H:=gi H;obtain⟨l9,H⟩:=H;have o2:=decide_eq_true l9;clear l9;replace H:=gi H;obtain⟨m0,H⟩:=H;have o3:=decide_eq_true m0;clear m0;replace H:=gb H;obtain⟨t1017,n6,H⟩:=H;have H':=ak H;clear H;obtain⟨p3,p4,m6⟩:=Kd.Al HO_3.out;subst m6;obtain⟨n7,k7,m7,o4,o5⟩:=ai (Kd.AN HO_3.out).2.2 a7;cases k7
           go_wp2_with (first|(refine zl (some 74) Try.func83 #[.bool ((rd b1 a7)==a7)] ?_;(with_reducible refine(BD.calls ((rd b1 a7)==a7) t1017 _ n6.out).mono ?_);rintro e w' ⟨rfl,⟨nd,rfl⟩⟩;refine⟨_,rfl,?_⟩))
           go_roundg k3
           case measure=>have:=a6.out;have:=b0.out;have:=a8.out;omega
           case rel=>exact⟨(wrap64 (f6+t1017)),(wrap64 (a7+1)),zd,zd,H',⟨by have:=a6.out;have:=b0.out;have:=a8.out;omega⟩,⟨zr HO_3.out⟩,⟨z0⟩⟩
          ·
           rw[if_neg e8]at H;have k6:=decide_eq_false e8;clear e8;obtain rfl:=Option.some.inj H
           go_wp2
           go_ret
           exact⟨ze,z0⟩
 ·
  replace c3:=Bool.eq_false_iff.mpr c3;subst c3;rw[if_neg (show¬(false=true) by decide)]at H;obtain rfl:=Option.some.inj H
  go_enter Try.func45,Try.ntmps45
  go_wp2_with (first|(refine zl (some 11) Try.func52 #[.slice A0 l0.length c0] ?_;(with_reducible refine(AL.calls k _ _ l0 false _ ?side1 ?side2 A2.out).mono ?_);(case side1=>exact zc f7.out);(case side2=>exact l5.out);rintro e p8 ⟨rfl,hb⟩;refine⟨_,rfl,?_⟩;replace HB:=ak (AG z0 hb)))
  go_ret
  exact⟨ze,z0⟩
end Go.Proofs.Ytlnddmkkgjlmbaa.QFnMoves
namespace Go.Proofs.Ytlnddmkkgjlmbaa.QFnMoves
open Go.Proofs.Ytlnddmkkgjlmbaa.Zip Go.RowKit Go.Proofs.YtlnddmkkgjlmbaaW.PrintWords Go.Proofs.YtlnddmkkgjlmbaaW.PrintLast Go.Proofs.YtlnddmkkgjlmbaaW.PrintMore
attribute [local go_sem] CD CF CW CV Bl Bk CE CG
set_option linter.unusedVariables false
set_option linter.unusedSimpArgs false
set_option maxHeartbeats 8000000
set_option maxRecDepth 100000
mutual
def BJ.l0:Nat->List (List Int)->Int->Int->Int->Int->Int->Option (Int)
 |0,_,_,_,_,_,_=>none
 |k+1,x0,x1,x2,x7,x8,x9=>if x9<(x0.length:Int)then(BJ.l1 k x0 x1 x2 x7 x8 x9 0)else(if x8<2 then(some 0)else(some x7))
def BJ.l1:Nat->List (List Int)->Int->Int->Int->Int->Int->Int->Option (Int)
 |0,_,_,_,_,_,_,_=>none
 |k+1,x0,x1,x2,x7,x8,x9,a0=>if 0<=x9 then(if x9<(x0.length:Int)then(if a0<((AD x0 x9).length:Int)then(if 0<=a0 then((BP.f (rd (AD x0 x9) a0)).bind fun t1021=>(if t1021=x2 then(if 0<=(IntKind.u64.wrap (x9))then(if((decide ((rd (AD x0 x9) a0)>0)) != ((Go.bits .and .i64 (shr .i64 x1 (IntKind.u64.wrap (x9))) 1)==1))=true then(BJ.l1 k x0 x1 x2 (wrap64 (x7+1)) (wrap64 (x8+1)) x9 (wrap64 (a0+1)))else(BJ.l1 k x0 x1 x2 (wrap64 (x7-1)) (wrap64 (x8+1)) x9 (wrap64 (a0+1))))else(none))else(BJ.l1 k x0 x1 x2 x7 x8 x9 (wrap64 (a0+1)))))else(none))else(BJ.l0 k x0 x1 x2 x7 x8 (wrap64 (x9+1))))else(none))else(none)
end
def BJ.f (k:Nat) (l0:List (List Int)) (a1 a2:Int):Option (Int):=BJ.l0 k l0 a1 a2 0 0 0
theorem BJ.calls (k:Nat) (A0:Option Addr) (c0:Nat) (l0:List (List Int)) (a1 a2 r:Int) (w:World) (h7:Kd.C (Kd.slice 3 (Kd.int .i64)) w A0 l0.length l0) (h8:l0.length<=c0) (h:BJ.f k l0 a1 a2=some r):
 Calls Try.prog 92 #[.slice A0 l0.length c0,.int .i64 a1,.int .i64 a2] w fun e w'=>e= .returned (.int .i64 r)/\Cj w w':=by
 have d3:=ak h7;have i9:=ak h8;clear h7 h8;have H:=h;clear h;unfold BJ.f at H;have H':=ak H;clear H
 go_enter Try.func92,Try.ntmps92
 go_wp2
 go_loopg [7,8,9] k (fun kq v7 v8 v9 w'=> ∃(f1:Int) (e3:Int) (a3:Int),v7= .int .i64 f1/\v8= .int .i64 e3/\v9= .int .i64 a3/\AJ (BJ.l0 kq l0 a1 a2 f1 e3 a3=some r)/\AJ (kq<=k)/\Cj w w')
 case atStart=>exact⟨(0),(0),(0),zd,zd,zd,H',⟨Nat.le_refl _⟩,z3⟩
 case round=>
  clear H';obtain⟨f1,e3,a3,rfl,rfl,rfl,HA,e1,⟨m1,rfl⟩⟩:=hrel
  cases gk with
  |zero=>exact absurd HA.out (by simp[BJ.l0])
  |succ k1=>
   have H:=HA.out;clear HA;simp only[BJ.l0]at H
   by_cases c4:a3<(l0.length:Int)
   ·
    rw[if_pos c4]at H;have g5:=decide_eq_true c4;clear c4;have H':=ak H;clear H
    go_wp2
    go_loopg [7,8,10] k1 (fun kq v7 v8 i0 w'=> ∃(a7:Int) (a8:Int) (a0:Int),v7= .int .i64 a7/\v8= .int .i64 a8/\i0= .int .i64 a0/\AJ (BJ.l1 kq l0 a1 a2 a7 a8 a3 a0=some r)/\AJ (kq<=k1)/\Cj w w')
    case atStart=>exact⟨(f1),(e3),(0),zd,zd,zd,H',⟨Nat.le_refl _⟩,z3⟩
    case round=>
     clear H';obtain⟨a7,a8,a0,rfl,rfl,rfl,HA,e2,⟨m2,rfl⟩⟩:=hrel
     cases gk with
     |zero=>exact absurd HA.out (by simp[BJ.l1])
     |succ k2=>
      have H:=HA.out;clear HA;simp only[BJ.l1]at H;replace H:=gi H;obtain⟨c5,H⟩:=H;have i5:=decide_eq_true c5;clear c5;replace H:=gi H;obtain⟨c6,H⟩:=H;have i6:=decide_eq_true c6;clear c6
      by_cases c7:a0<((AD l0 a3).length:Int)
      ·
       rw[if_pos c7]at H;have h9:=decide_eq_true c7;clear c7;replace H:=gi H;obtain⟨c8,H⟩:=H;have i7:=decide_eq_true c8;clear c8;replace H:=gb H;obtain⟨t1021,A9,H⟩:=H
       by_cases Du:t1021=a2
       ·
        rw[if_pos Du]at H;have g7:(t1021==a2)=true:=beq_iff_eq.mpr Du;have g8:(t1021 != a2)=false:=bne_eq_false_iff_eq.mpr Du;clear Du;obtain⟨d8,f2⟩: ∃j_:Int,(IntKind.u64.wrap (a3))=j_:=⟨_,rfl⟩
        replace H:(if 0<=(d8)then(if((decide ((rd (AD l0 a3) a0)>0)) != ((Go.bits .and .i64 (shr .i64 a1 (d8)) 1)==1))=true then(BJ.l1 k2 l0 a1 a2 (wrap64 (a7+1)) (wrap64 (a8+1)) a3 (wrap64 (a0+1)))else(BJ.l1 k2 l0 a1 a2 (wrap64 (a7-1)) (wrap64 (a8+1)) a3 (wrap64 (a0+1))))else(none))=some r:=by first|(rw[f2]at H;exact H)|(simp only[f2]at H⊢;exact H)
        (try rw[f2]at A9)
        replace H:=gi H;obtain⟨g6,H⟩:=H;have i2:=eq_true g6;have i3:=decide_eq_true g6;clear g6;obtain⟨a5,d4⟩: ∃j_:Int,(shr .i64 a1 (d8))=j_:=⟨_,rfl⟩
        replace H:(if((decide ((rd (AD l0 a3) a0)>0)) != ((Go.bits .and .i64 (a5) 1)==1))=true then(BJ.l1 k2 l0 a1 a2 (wrap64 (a7+1)) (wrap64 (a8+1)) a3 (wrap64 (a0+1)))else(BJ.l1 k2 l0 a1 a2 (wrap64 (a7-1)) (wrap64 (a8+1)) a3 (wrap64 (a0+1))))=some r:=by first|(rw[d4]at H;exact H)|(simp only[d4]at H⊢;exact H)
        (try rw[d4]at A9)
        have i1:(a1/2^min (d8).toNat 64)=a5:=d4;have hji13z:(d8)<=64->(a1/2^(d8).toNat)=a5:=RO d4
        by_cases b3:((decide ((rd (AD l0 a3) a0)>0)) != ((Go.bits .and .i64 (a5) 1)==1))=true
        ·
         rw[if_pos b3]at H;have g9:((decide ((rd (AD l0 a3) a0)>0)) != ((Go.bits .and .i64 (a5) 1)==1))=true:=b3
         (try(have h3:decide ((decide ((rd (AD l0 a3) a0)>0))=((Go.bits .and .i64 (a5) 1)==1))=false:=by simpa using b3))
         (try(have h4:((decide ((rd (AD l0 a3) a0)>0))==((Go.bits .and .i64 (a5) 1)==1))=false:=by simpa using b3))
         (try(have h5: ¬((decide ((rd (AD l0 a3) a0)>0))=((Go.bits .and .i64 (a5) 1)==1)):=by simpa using b3))
         (try(have i4:(!((decide ((rd (AD l0 a3) a0)>0))==((Go.bits .and .i64 (a5) 1)==1)))=true:=(by have h_:=b3;revert h_;generalize(decide ((rd (AD l0 a3) a0)>0))=x_;generalize((Go.bits .and .i64 (a5) 1)==1)=y_;cases x_<;>cases y_<;>simp)))
         clear b3;have H':=ak H;clear H;obtain⟨a6,d9,e0,b4,a4,c1,d0,f3,f4⟩:=al d3.out a3;cases b4;obtain⟨b9,e8,e9,d5,a9,e4,b0,f9,g0⟩:=al d3.out a3;obtain rfl:a6=b9:=(by injection d5);have ea_:=Option.some.inj (a4.symm.trans a9)
         injection ea_ with ea_ en_ ec_
         subst ea_;subst ec_;clear en_;obtain⟨d6,d7,e5,g1,g2⟩:=ai b0.out a0;cases d7
         go_wp2_with (first|(refine zl (some 33) Try.func99 #[.int .i64 (rd (AD l0 a3) a0)] ?_;(with_reducible refine(BP.calls (rd (AD l0 a3) a0) t1021 _ A9.out).mono ?_);rintro e w' ⟨rfl,⟨nd,rfl⟩⟩;refine⟨_,rfl,?_⟩;have b5:0<=(a3:Int):=za;have b6:a3<(l0.length:Int):=za;obtain⟨e6,g3,g4,f5,d1,b1,b2⟩:=Cl d3.out a3 b5 b6;obtain rfl:a6=e6:=(by injection f5);have d2:=ak b2;have f7:=ak b1;clear b2 b1;replace b5:=eq_true b5;replace b6:=eq_true b6;have ea_:=Option.some.inj (a4.symm.trans d1);injection ea_ with ea_ en_ ec_;subst ea_;subst ec_;clear en_;have b7:0<=(a0:Int):=za;have b8:a0<((AD l0 a3).length:Int):=za;obtain⟨e7,f6,f8⟩:=Kd.Dk d2.out a0 b7 b8;obtain rfl:d6=e7:=(by injection f6);replace b7:=eq_true b7;replace b8:=eq_true b8))
         go_roundg k2
         case measure=>have:=e1.out;have:=e2.out;omega
         case rel=>exact⟨(wrap64 (a7+1)),(wrap64 (a8+1)),(wrap64 (a0+1)),zd,zd,zd,H',⟨by have:=e1.out;have:=e2.out;omega⟩,z3⟩
        ·
         rw[if_neg b3]at H
         have g9:((decide ((rd (AD l0 a3) a0)>0)) != ((Go.bits .and .i64 (a5) 1)==1))=false:=by simpa using b3
         (try(have h3:decide ((decide ((rd (AD l0 a3) a0)>0))=((Go.bits .and .i64 (a5) 1)==1))=true:=by simpa using b3))
         (try(have h4:((decide ((rd (AD l0 a3) a0)>0))==((Go.bits .and .i64 (a5) 1)==1))=true:=by simpa using b3))
         (try(have h5:(!((decide ((rd (AD l0 a3) a0)>0))==((Go.bits .and .i64 (a5) 1)==1)))=false:=(by have h_:=b3;revert h_;generalize(decide ((rd (AD l0 a3) a0)>0))=x_;generalize((Go.bits .and .i64 (a5) 1)==1)=y_;cases x_<;>cases y_<;>simp)))
         clear b3;have H':=ak H;clear H;obtain⟨a6,d9,e0,b4,a4,c1,d0,f3,f4⟩:=al d3.out a3;cases b4;obtain⟨b9,e8,e9,d5,a9,e4,b0,f9,g0⟩:=al d3.out a3;obtain rfl:a6=b9:=(by injection d5);have ea_:=Option.some.inj (a4.symm.trans a9)
         injection ea_ with ea_ en_ ec_
         subst ea_;subst ec_;clear en_;obtain⟨d6,d7,e5,g1,g2⟩:=ai b0.out a0;cases d7
         go_wp2_with (first|(refine zl (some 33) Try.func99 #[.int .i64 (rd (AD l0 a3) a0)] ?_;(with_reducible refine(BP.calls (rd (AD l0 a3) a0) t1021 _ A9.out).mono ?_);rintro e w' ⟨rfl,⟨nd,rfl⟩⟩;refine⟨_,rfl,?_⟩;have b5:0<=(a3:Int):=za;have b6:a3<(l0.length:Int):=za;obtain⟨e6,g3,g4,f5,d1,b1,b2⟩:=Cl d3.out a3 b5 b6;obtain rfl:a6=e6:=(by injection f5);have d2:=ak b2;have f7:=ak b1;clear b2 b1;replace b5:=eq_true b5;replace b6:=eq_true b6;have ea_:=Option.some.inj (a4.symm.trans d1);injection ea_ with ea_ en_ ec_;subst ea_;subst ec_;clear en_;have b7:0<=(a0:Int):=za;have b8:a0<((AD l0 a3).length:Int):=za;obtain⟨e7,f6,f8⟩:=Kd.Dk d2.out a0 b7 b8;obtain rfl:d6=e7:=(by injection f6);replace b7:=eq_true b7;replace b8:=eq_true b8))
         go_roundg k2
         case measure=>have:=e1.out;have:=e2.out;omega
         case rel=>exact⟨(wrap64 (a7-1)),(wrap64 (a8+1)),(wrap64 (a0+1)),zd,zd,zd,H',⟨by have:=e1.out;have:=e2.out;omega⟩,z3⟩
       ·
        rw[if_neg Du]at H;have g7:(t1021==a2)=false:=beq_eq_false_iff_ne.mpr Du;have g8:(t1021 != a2)=true:=bne_iff_ne.mpr Du;have H':=ak H;clear H;obtain⟨a6,d9,e0,b4,a4,c1,d0,f3,f4⟩:=al d3.out a3;cases b4;obtain⟨b9,e8,e9,d5,a9,e4,b0,f9,g0⟩:=al d3.out a3;obtain rfl:a6=b9:=(by injection d5);have ea_:=Option.some.inj (a4.symm.trans a9)
        injection ea_ with ea_ en_ ec_
        subst ea_;subst ec_;clear en_;obtain⟨d6,d7,e5,g1,g2⟩:=ai b0.out a0;cases d7
        go_wp2_with (first|(refine zl (some 33) Try.func99 #[.int .i64 (rd (AD l0 a3) a0)] ?_;(with_reducible refine(BP.calls (rd (AD l0 a3) a0) t1021 _ A9.out).mono ?_);rintro e w' ⟨rfl,⟨nd,rfl⟩⟩;refine⟨_,rfl,?_⟩))
        go_roundg k2
        case measure=>have:=e1.out;have:=e2.out;omega
        case rel=>exact⟨(a7),(a8),(wrap64 (a0+1)),zd,zd,zd,H',⟨by have:=e1.out;have:=e2.out;omega⟩,z3⟩
      ·
       rw[if_neg c7]at H;have h9:=decide_eq_false c7;clear c7;have H':=ak H;clear H;obtain⟨a6,d9,e0,b4,a4,c1,d0,f3,f4⟩:=al d3.out a3;cases b4
       go_wp2
       go_roundg k2
       case measure=>have:=e1.out;have:=e2.out;omega
       case rel=>exact⟨(a7),(a8),(wrap64 (a3+1)),zd,zd,zd,H',⟨by have:=e1.out;have:=e2.out;omega⟩,z3⟩
   ·
    rw[if_neg c4]at H;have g5:=decide_eq_false c4;clear c4
    by_cases f0:e3<2
    ·
     rw[if_pos f0]at H;have h6:=decide_eq_true f0;clear f0;obtain rfl:=Option.some.inj H
     go_wp2
     go_ret
     exact⟨by first|rfl|(simp;done)|(simp[*];done),z3⟩
    ·
     rw[if_neg f0]at H;have h6:=decide_eq_false f0;clear f0;obtain rfl:=Option.some.inj H
     go_wp2
     go_ret
     exact⟨by first|rfl|(simp;done)|(simp[*];done),z3⟩
mutual
def Ah.l0:Nat->List (List Int)->Int->Option (Bool)
 |0,_,_=>none
 |k+1,x0,x3=>if 0<=(IntKind.u64.wrap ((x0.length:Int)))then(if x3<(shl .i64 1 (IntKind.u64.wrap ((x0.length:Int))))then(Ah.l1 k x0 x3 true 1)else(some false))else(none)
def Ah.l1:Nat->List (List Int)->Int->Bool->Int->Option (Bool)
 |0,_,_,_,_=>none
 |k+1,x0,x3,x4,x5=>if x5<=8 then(if x4=true then((BJ.f k x0 x3 x5).bind fun t1025=>(Ah.l1 k x0 x3 (t1025==0) (wrap64 (x5+1))))else(Ah.l1 k x0 x3 false (wrap64 (x5+1))))else(if x4=true then(some true)else(Ah.l0 k x0 (wrap64 (x3+1))))
end
def Ah.f (k:Nat) (l0:List (List Int)):Option (Bool):=(AL.f k l0).bind fun t1024=>(if t1024=true then(Ah.l0 k l0 0)else(some false))
theorem Ah.calls (k:Nat) (A0:Option Addr) (c0:Nat) (l0:List (List Int)) (r:Bool) (w:World) (b4:Kd.C (Kd.slice 3 (Kd.int .i64)) w A0 l0.length l0) (b5:l0.length<=c0) (h:Ah.f k l0=some r):
 Calls Try.prog 46 #[.slice A0 l0.length c0] w fun e w'=>e= .returned (.bool r)/\Below w.heap.size w w':=by
 have b1:=ak b4;have b2:=ak b5;clear b4 b5;have HB:=ak (Below.refl w.heap.size w);have H:=h;clear h;unfold Ah.f at H;replace H:=gb H;obtain⟨t1024,A2,H⟩:=H
 by_cases c3:t1024=true
 ·
  subst c3;rw[if_pos rfl]at H;have H':=ak H;clear H
  go_enter Try.func46,Try.ntmps46
  go_wp2_with (first|(refine zl (some 7) Try.func52 #[.slice A0 l0.length c0] ?_;(with_reducible refine(AL.calls k _ _ l0 true _ ?side1 ?side2 A2.out).mono ?_);(case side1=>exact zc b1.out);(case side2=>exact b2.out);rintro e w4 ⟨rfl,hb⟩;refine⟨_,rfl,?_⟩;replace HB:=ak (AG z0 hb)))
  go_loopg [3] k (fun kq v3 w'=> ∃(a0:Int),v3= .int .i64 a0/\AJ (Ah.l0 kq l0 a0=some r)/\AJ (kq<=k)/\AJ (Below w.heap.size w w'))
  case atStart=>exact⟨(0),zd,H',⟨Nat.le_refl _⟩,⟨z0⟩⟩
  case round=>
   clear H';obtain⟨a0,rfl,HA,a6,HB⟩:=hrel
   cases gk with
   |zero=>exact absurd HA.out (by simp[Ah.l0])
   |succ k1=>
    have H:=HA.out;clear HA;simp only[Ah.l0]at H;obtain⟨a1,a8⟩: ∃j_:Int,(IntKind.u64.wrap ((l0.length:Int)))=j_:=⟨_,rfl⟩
    replace H:(if 0<=(a1)then(if a0<(shl .i64 1 (a1))then(Ah.l1 k1 l0 a0 true 1)else(some false))else(none))=some r:=by first|(rw[a8]at H;exact H)|(simp only[a8]at H⊢;exact H)
    replace H:=gi H;obtain⟨c6,H⟩:=H;have b6:=eq_true c6;have b7:=decide_eq_true c6;clear c6;obtain⟨a4,a3⟩: ∃j_:Int,(shl .i64 1 (a1))=j_:=⟨_,rfl⟩
    replace H:(if a0<(a4)then(Ah.l1 k1 l0 a0 true 1)else(some false))=some r:=by first|(rw[a3]at H;exact H)|(simp only[a3]at H⊢;exact H)
    have a9:(IntKind.i64.wrap (1*2^min (a1).toNat 64))=a4:=a3;have hji7z:(a1)<=64->(IntKind.i64.wrap (1*2^(a1).toNat))=a4:=Rn a3
    have hji7u:(IntKind.i64.wrap (2^min (a1).toNat 64))=a4:=by have h_:=a9;rw[Int.one_mul]at h_;exact h_
    have hji7v:(a1)<=64->(IntKind.i64.wrap (2^(a1).toNat))=a4:=fun hle_=>by have h_:=hji7z hle_;rw[Int.one_mul]at h_;exact h_
    have hji7y:(wrap64 (1*2^min (a1).toNat 64))=a4:=(Dg _).symm.trans a9
    have hji7x:(a1)<=64->(wrap64 (1*2^(a1).toNat))=a4:=fun h_=>(Dg _).symm.trans (hji7z h_)
    by_cases c8:a0<(a4)
    ·
     rw[if_pos c8]at H;have b3:=decide_eq_true c8;clear c8;have H':=ak H;clear H
     go_wp2
     go_loopg [4,5] k1 (fun kq v4 v5 w'=> ∃(a5:Bool) (a2:Int),v4= .bool a5/\v5= .int .i64 a2/\AJ (Ah.l1 kq l0 a0 a5 a2=some r)/\AJ (kq<=k1)/\AJ (Below w.heap.size w w'))
     case atStart=>exact⟨(true),(1),zd,zd,H',⟨Nat.le_refl _⟩,⟨z0⟩⟩
     case round=>
      clear H';obtain⟨a5,a2,rfl,rfl,HA,a7,HB⟩:=hrel
      cases gk with
      |zero=>exact absurd HA.out (by simp[Ah.l1])
      |succ k2=>
       have H:=HA.out;clear HA;simp only[Ah.l1]at H
       by_cases c9:a2<=8
       ·
        rw[if_pos c9]at H;have b8:=decide_eq_true c9;clear c9
        by_cases Du:a5=true
        ·
         subst Du;rw[if_pos rfl]at H;replace H:=gb H;obtain⟨t1025,b9,H⟩:=H;have H':=ak H;clear H
         go_wp2_with (first|(go_at_call 92;(with_reducible refine(BJ.calls k2 _ _ l0 a0 a2 t1025 _ ?side1 ?side2 b9.out).mono ?_);(case side1=>exact zc (Kd.AM b1.out HB.out));(case side2=>exact b2.out);rintro e w' ⟨rfl,⟨nd,rfl⟩⟩))
         go_roundg k2
         case measure=>have:=a6.out;have:=a7.out;omega
         case rel=>exact⟨((t1025==0)),(wrap64 (a2+1)),zd,zd,H',⟨by have:=a6.out;have:=a7.out;omega⟩,⟨z0⟩⟩
        ·
         replace Du:=Bool.eq_false_iff.mpr Du;subst Du;rw[if_neg (show¬(false=true) by decide)]at H;have H':=ak H;clear H
         go_wp2
         go_roundg k2
         case measure=>have:=a6.out;have:=a7.out;omega
         case rel=>exact⟨(false),(wrap64 (a2+1)),zd,zd,H',⟨by have:=a6.out;have:=a7.out;omega⟩,⟨z0⟩⟩
       ·
        rw[if_neg c9]at H;have b8:=decide_eq_false c9;clear c9
        by_cases b0:a5=true
        ·
         subst b0;rw[if_pos rfl]at H;obtain rfl:=Option.some.inj H
         go_wp2
         go_ret
         exact⟨by first|rfl|(simp[Bq,Bt]<;>rfl)|(simp only[<-a8,<-a3];first|rfl|(simp[Bq,Bt]<;>rfl))|(simp[*,Bq,Bt]<;>rfl),z0⟩
        ·
         replace b0:=Bool.eq_false_iff.mpr b0;subst b0;rw[if_neg (show¬(false=true) by decide)]at H;have H':=ak H;clear H
         go_wp2
         go_roundg k2
         case measure=>have:=a6.out;have:=a7.out;omega
         case rel=>exact⟨(wrap64 (a0+1)),zd,H',⟨by have:=a6.out;have:=a7.out;omega⟩,⟨z0⟩⟩
    ·
     rw[if_neg c8]at H;have b3:=decide_eq_false c8;clear c8;obtain rfl:=Option.some.inj H
     go_wp2
     go_ret
     exact⟨by first|rfl|(simp[Bq,Bt]<;>rfl)|(simp only[<-a8,<-a3];first|rfl|(simp[Bq,Bt]<;>rfl))|(simp[*,Bq,Bt]<;>rfl),z0⟩
 ·
  replace c3:=Bool.eq_false_iff.mpr c3;subst c3;rw[if_neg (show¬(false=true) by decide)]at H;obtain rfl:=Option.some.inj H
  go_enter Try.func46,Try.ntmps46
  go_wp2_with (first|(refine zl (some 7) Try.func52 #[.slice A0 l0.length c0] ?_;(with_reducible refine(AL.calls k _ _ l0 false _ ?side1 ?side2 A2.out).mono ?_);(case side1=>exact zc b1.out);(case side2=>exact b2.out);rintro e c1 ⟨rfl,hb⟩;refine⟨_,rfl,?_⟩;replace HB:=ak (AG z0 hb)))
  go_ret
  exact⟨ze,z0⟩
def Cc.f (k:Nat) (l0:List (List Int)):Option (List Int):=(AL.f k l0).bind fun t1026=>(if t1026=true then((BK.f k l0 1 2).bind fun t1027=>(some t1027))else(some (([]:List Int))))
theorem Cc.calls (k:Nat) (A0:Option Addr) (c0:Nat) (l0:List (List Int)) (r:List Int) (w:World) (a8:Kd.C (Kd.slice 3 (Kd.int .i64)) w A0 l0.length l0) (a9:l0.length<=c0) (h:Cc.f k l0=some r):
 Calls Try.prog 47 #[.slice A0 l0.length c0] w fun e w'=> ∃b0:Value,e= .returned (b0)/\Kd.R (Kd.int .i64) 3 w' w.heap.size (fun _=>True) b0 r/\Below w.heap.size w w':=by
 have a3:=ak a8;have a4:=ak a9;clear a8 a9;have HB:=ak (Below.refl w.heap.size w);have H:=h;clear h;unfold Cc.f at H;replace H:=gb H;obtain⟨t1026,A2,H⟩:=H
 by_cases c3:t1026=true
 ·
  subst c3;rw[if_pos rfl]at H;replace H:=gb H;obtain⟨t1027,A4,H⟩:=H;obtain rfl:=Option.some.inj H
  go_enter Try.func47,Try.ntmps47
  go_wp2_with (first|(refine zl (some 4) Try.func52 #[.slice A0 l0.length c0] ?_;(with_reducible refine(AL.calls k _ _ l0 true _ ?side1 ?side2 A2.out).mono ?_);(case side1=>exact zc a3.out);(case side2=>exact a4.out);rintro e w5 ⟨rfl,hb⟩;refine⟨_,rfl,?_⟩;replace HB:=ak (AG z0 hb))|(refine zl (some 8) Try.func88 #[.slice A0 l0.length c0,.int .i64 1,.int .i64 2] ?_;(with_reducible refine(BK.calls k _ _ l0 1 2 t1027 _ ?side1 ?side2 A4.out).mono ?_);(case side1=>exact zc (Kd.AM a3.out HB.out));(case side2=>exact a4.out);rintro e w6 ⟨b2,rfl,b1,hb⟩;refine⟨_,rfl,?_⟩;have a5:=ak (Kd.BA b1 (AA z0));replace HB:=ak (AG z0 hb)))
  go_ret
  exact⟨_,ze,zr a5.out,z0⟩
 ·
  replace c3:=Bool.eq_false_iff.mpr c3;subst c3;rw[if_neg (show¬(false=true) by decide)]at H;obtain⟨a7,a0⟩: ∃y_:List Int,y_=(([]:List Int)):=⟨_,rfl⟩;replace H:(some a7)=some r:=zy a0 H;have a1:=ak a0;clear a0;obtain rfl:=Option.some.inj H
  go_enter Try.func47,Try.ntmps47
  go_wp2_with (first|(refine zl (some 4) Try.func52 #[.slice A0 l0.length c0] ?_;(with_reducible refine(AL.calls k _ _ l0 false _ ?side1 ?side2 A2.out).mono ?_);(case side1=>exact zc a3.out);(case side2=>exact a4.out);rintro e w7 ⟨rfl,hb⟩;refine⟨_,rfl,?_⟩;replace HB:=ak (AG z0 hb))|((with_reducible refine Ar (N:=6) rfl ?_);refine Kd.DS (Kd.int .i64) _ 3 ?hg (N:=6) ?hd (xs:=([]:List Int)) (inner:=[]) (ok:=fun _=>True) (okp:=fun _=>True) ?hr ?hp (fun _ hk=>hk) trivial (Below.refl _ _) (Nat.le_refl _) (by simp) ?_;(case hd=>rfl);(case hg=>rfl);(case hr=>first|(go_simp;done)|(go_simp;rfl));(case hp=>exact(Av.none _ _));intro b3 w8 a2 hb hg_ hnew_;clear hg_ hnew_;(first|rw[<-a1.out]at a2|(simp only[Int.reduceToNat]at a2;rw[<-a1.out]at a2));have a6:=ak (Kd.BA a2 (AA z0));replace HB:=ak (AG z0 hb);clear hb a2))
  go_ret
  exact⟨_,ze,zr a6.out,z0⟩
def Cw.l0:Nat->List Int->Int->Int->Option (Bool)
 |0,_,_,_=>none
 |k+1,x0,x1,x5=>if x5<(x0.length:Int)then(if 0<=x5 then(if(rd x0 x5)=x1 then(some true)else(Cw.l0 k x0 x1 (wrap64 (x5+1))))else(none))else(some false)
def Cw.f (k:Nat) (l0:List Int) (a1:Int):Option (Bool):=Cw.l0 k l0 a1 0
theorem Cw.calls (k:Nat) (A0:Option Addr) (c0:Nat) (l0:List Int) (a1:Int) (r:Bool) (w:World) (a7:Kd.C (Kd.int .i64) w A0 l0.length l0) (a8:l0.length<=c0) (h:Cw.f k l0 a1=some r):
 Calls Try.prog 48 #[.slice A0 l0.length c0,.int .i64 a1] w fun e w'=>e= .returned (.bool r)/\Cj w w':=by
 have a9:=ak a7;have b5:=ak a8;clear a7 a8;have H:=h;clear h;unfold Cw.f at H;have H':=ak H;clear H
 go_enter Try.func48,Try.ntmps48
 go_wp2
 go_loopg [5] k (fun kq v5 w'=> ∃(a0:Int),v5= .int .i64 a0/\AJ (Cw.l0 kq l0 a1 a0=some r)/\AJ (kq<=k)/\Cj w w')
 case atStart=>exact⟨(0),zd,H',⟨Nat.le_refl _⟩,z3⟩
 case round=>
  clear H';obtain⟨a0,rfl,HA,b0,⟨m1,rfl⟩⟩:=hrel
  cases gk with
  |zero=>exact absurd HA.out (by simp[Cw.l0])
  |succ k1=>
   have H:=HA.out;clear HA;simp only[Cw.l0]at H
   by_cases c3:a0<(l0.length:Int)
   ·
    rw[if_pos c3]at H;have b1:=decide_eq_true c3;clear c3;replace H:=gi H;obtain⟨c4,H⟩:=H;have b4:=decide_eq_true c4;clear c4
    by_cases c5:(rd l0 a0)=a1
    ·
     rw[if_pos c5]at H;have b2:((rd l0 a0)==a1)=true:=beq_iff_eq.mpr c5;have b3:((rd l0 a0) != a1)=false:=bne_eq_false_iff_eq.mpr c5;clear c5;obtain rfl:=Option.some.inj H;obtain⟨a4,a2,a3,a5,a6⟩:=ai a9.out a0;cases a2
     go_wp2
     go_ret
     exact⟨by first|rfl|(simp;done)|(simp[*];done),z3⟩
    ·
     rw[if_neg c5]at H;have b2:((rd l0 a0)==a1)=false:=beq_eq_false_iff_ne.mpr c5;have b3:((rd l0 a0) != a1)=true:=bne_iff_ne.mpr c5;have H':=ak H;clear H;obtain⟨a4,a2,a3,a5,a6⟩:=ai a9.out a0;cases a2
     go_wp2
     go_roundg k1
     case measure=>have:=b0.out;omega
     case rel=>exact⟨(wrap64 (a0+1)),zd,H',⟨by have:=b0.out;omega⟩,z3⟩
   ·
    rw[if_neg c3]at H;have b1:=decide_eq_false c3;clear c3;obtain rfl:=Option.some.inj H
    go_wp2
    go_ret
    exact⟨by first|rfl|(simp;done)|(simp[*];done),z3⟩
def BQ.l0:Nat->List Int->List Int->Int->Option (List Int)
 |0,_,_,_=>none
 |k+1,x0,x3,x4=>if x4<(x0.length:Int)then(if(x3.length:Int)>0 then(if 0<=(wrap64 ((x3.length:Int)-1))then(if(wrap64 ((x3.length:Int)-1))<(x3.length:Int)then(if 0<=x4 then(if(rd x3 (wrap64 ((x3.length:Int)-1)))=(wrap64 (-(rd x0 x4)))then(if(wrap64 ((x3.length:Int)-1))<=(x3.length:Int)then(BQ.l0 k x0 (x3.take ((wrap64 ((x3.length:Int)-1)):Int).toNat) (wrap64 (x4+1)))else(none))else(if x3.length<17592186044416 then(BQ.l0 k x0 (x3++[rd x0 x4]) (wrap64 (x4+1)))else(none)))else(none))else(none))else(none))else(if 0<=x4 then(if x3.length<17592186044416 then(BQ.l0 k x0 (x3++[rd x0 x4]) (wrap64 (x4+1)))else(none))else(none)))else(some x3)
def BQ.f (k:Nat) (l0:List Int):Option (List Int):=BQ.l0 k l0 (([]:List Int)) 0
theorem BQ.calls (k:Nat) (A0:Option Addr) (c0:Nat) (l0 r:List Int) (w:World) (g6:Kd.C (Kd.int .i64) w A0 l0.length l0) (g7:l0.length<=c0) (h:BQ.f k l0=some r):
 Calls Try.prog 96 #[.slice A0 l0.length c0] w fun e w'=> ∃g8:Value,e= .returned (g8)/\Kd.R (Kd.int .i64) 3 w' w.heap.size (fun _=>True) g8 r/\Below w.heap.size w w':=by
 have e3:=ak g6;have k4:=ak g7;clear g6 g7;have HB:=ak (Below.refl w.heap.size w);have H:=h;clear h;unfold BQ.f at H;obtain⟨e4,a9⟩: ∃y_:List Int,y_=(([]:List Int)):=⟨_,rfl⟩;replace H:(BQ.l0 k l0 e4 0)=some r:=zy a9 H;have a7:=ak a9;clear a9;have H':=ak H;clear H
 go_enter Try.func96,Try.ntmps96
 go_wp2_with (first|((with_reducible refine Ar (N:=5) rfl ?_);(try(refine BR (by rfl) ?_;dsimp only));refine Kd.DS (Kd.int .i64) _ 3 ?hg (N:=5) ?hd (xs:=([]:List Int)) (inner:=[]) (ok:=fun _=>True) (okp:=fun _=>True) ?hr ?hp (fun _ hk=>hk) trivial (Below.refl _ _) (Nat.le_refl _) (by simp) ?_;(case hd=>rfl);(case hg=>rfl);(case hr=>first|(go_simp;done)|(go_simp;rfl));(case hp=>exact(Av.none _ _));intro e5 w2 a3 hb hg_ hnew_;clear hg_ hnew_;(first|rw[<-a7.out]at a3|(simp only[Int.reduceToNat]at a3;rw[<-a7.out]at a3));have b0:=ak (Kd.BA a3 (AA z0));replace HB:=ak (AG z0 hb);clear hb a3))
 repeat(go_quiet (first|((with_reducible refine Ar (N:=5) rfl ?_);(try(refine BR (by rfl) ?_;dsimp only));refine Kd.DS (Kd.int .i64) _ 3 ?hg (N:=5) ?hd (xs:=([]:List Int)) (inner:=[]) (ok:=fun _=>True) (okp:=fun _=>True) ?hr ?hp (fun _ hk=>hk) trivial (Below.refl _ _) (Nat.le_refl _) (by simp) ?_;(case hd=>rfl);(case hg=>rfl);(case hr=>first|(go_simp;done)|(go_simp;rfl));(case hp=>exact(Av.none _ _));intro e5 w2 a3 hb hg_ hnew_;clear hg_ hnew_;(first|rw[<-a7.out]at a3|(simp only[Int.reduceToNat]at a3;rw[<-a7.out]at a3));have b0:=ak (Kd.BA a3 (AA z0));replace HB:=ak (AG z0 hb);clear hb a3));try go_wp2_with (first|((with_reducible refine Ar (N:=5) rfl ?_);(try(refine BR (by rfl) ?_;dsimp only));refine Kd.DS (Kd.int .i64) _ 3 ?hg (N:=5) ?hd (xs:=([]:List Int)) (inner:=[]) (ok:=fun _=>True) (okp:=fun _=>True) ?hr ?hp (fun _ hk=>hk) trivial (Below.refl _ _) (Nat.le_refl _) (by simp) ?_;(case hd=>rfl);(case hg=>rfl);(case hr=>first|(go_simp;done)|(go_simp;rfl));(case hp=>exact(Av.none _ _));intro e5 w2 a3 hb hg_ hnew_;clear hg_ hnew_;(first|rw[<-a7.out]at a3|(simp only[Int.reduceToNat]at a3;rw[<-a7.out]at a3));have b0:=ak (Kd.BA a3 (AA z0));replace HB:=ak (AG z0 hb);clear hb a3)))
 go_loopg [3,4] k (fun kq v3 v4 w'=> ∃(a1:List Int) (a0:Int),v4= .int .i64 a0/\AJ (BQ.l0 kq l0 a1 a0=some r)/\AJ (kq<=k)/\AJ (Kd.R (Kd.int .i64) 3 w' w.heap.size (fun _=>True) v3 a1)/\AJ (Below w.heap.size w w'))
 case atStart=>exact⟨(e4),(0),zd,H',⟨Nat.le_refl _⟩,⟨zr b0.out⟩,⟨z0⟩⟩
 case round=>
  clear H';obtain⟨a1,a0,rfl,HA,c1,HO_3,HB⟩:=hrel
  cases gk with
  |zero=>exact absurd HA.out (by simp[BQ.l0])
  |succ k1=>
   have H:=HA.out;clear HA;simp only[BQ.l0]at H
   by_cases c4:a0<(l0.length:Int)
   ·
    rw[if_pos c4]at H;have h7:=decide_eq_true c4;clear c4
    by_cases c5:(a1.length:Int)>0
    ·
     rw[if_pos c5]at H;have h8:=decide_eq_true c5;have h9:decide (0<a1.length)=true:=decide_eq_true (by omega);clear c5;obtain⟨a2,d8⟩: ∃j_:Int,(wrap64 ((a1.length:Int)-1))=j_:=⟨_,rfl⟩
     replace H:(if 0<=(a2)then(if(a2)<(a1.length:Int)then(if 0<=a0 then(if(rd a1 (a2))=(wrap64 (-(rd l0 a0)))then(if(a2)<=(a1.length:Int)then(BQ.l0 k1 l0 (a1.take ((a2):Int).toNat) (wrap64 (a0+1)))else(none))else(if a1.length<17592186044416 then(BQ.l0 k1 l0 (a1++[rd l0 a0]) (wrap64 (a0+1)))else(none)))else(none))else(none))else(none))=some r:=by first|(rw[d8]at H;exact H)|(simp only[d8]at H⊢;exact H)
     have hji6w:(IntKind.i64.wrap ((a1.length:Int)-1))=a2:=(Dg _).trans d8;replace H:=gi H;obtain⟨c7,H⟩:=H;have j8:=decide_eq_true c7;clear c7;replace H:=gi H;obtain⟨c8,H⟩:=H;have j9:=decide_eq_true c8;clear c8;replace H:=gi H;obtain⟨c9,H⟩:=H;have k0:=decide_eq_true c9;clear c9
     by_cases Du:(rd a1 (a2))=(wrap64 (-(rd l0 a0)))
     ·
      rw[if_pos Du]at H;have f7:((rd a1 (a2))==(wrap64 (-(rd l0 a0))))=true:=beq_iff_eq.mpr Du;have f8:((rd a1 (a2)) != (wrap64 (-(rd l0 a0))))=false:=bne_eq_false_iff_eq.mpr Du;clear Du;replace H:=gi H;obtain⟨f1,H⟩:=H;have i5:=eq_true f1;have i6:=decide_eq_true f1;clear f1;obtain⟨d0,b1⟩: ∃y_:List Int,y_=(a1.take ((a2):Int).toNat):=⟨_,rfl⟩;replace H:(BQ.l0 k1 l0 d0 (wrap64 (a0+1)))=some r:=zy b1 H;have d6:=ak b1;clear b1;have H':=ak H;clear H;obtain⟨k2,i0,i1⟩:=Kd.Al HO_3.out;subst i1;obtain⟨a8,d1,d9,f9,g0⟩:=ai (Kd.AN HO_3.out).2.2 (a2);cases d1;obtain⟨d7,d2,a6,g1,g2⟩:=ai e3.out a0;cases d2;replace a6:=zx HB a6;have f2:((a2):Int)<=((a1.length:Int):Int):=za;obtain⟨i013,e6,_,g3,_⟩:=info_parts BT;have f3:=JZ (P:=Try.prog) 47 3 .i64 Try.underlying47 e6 (some a8) a1.length i0 (a2) (za) f2 (Kd.AN HO_3.out).2.1;have d3:=Kd.KX (m:=((a2):Int).toNat) HO_3.out (by omega);have f4:d0.length=((a2):Int).toNat:=(by rw[d6.out,List.length_take];omega);rw[<-d6.out]at d3;rw[<-f4]at d3 f3;clear f4 e6 g3 HO_3;have f5:=ak d3;clear d3;replace f2:=eq_true f2
      go_wp2
      repeat(go_quiet (fail);try go_wp2)
      go_roundg k1
      case measure=>have:=c1.out;omega
      case rel=>exact⟨(d0),(wrap64 (a0+1)),zd,H',⟨by have:=c1.out;omega⟩,⟨zr f5.out⟩,⟨z0⟩⟩
     ·
      rw[if_neg Du]at H;have f7:((rd a1 (a2))==(wrap64 (-(rd l0 a0))))=false:=beq_eq_false_iff_ne.mpr Du;have f8:((rd a1 (a2)) != (wrap64 (-(rd l0 a0))))=true:=bne_iff_ne.mpr Du;replace H:=gi H;obtain⟨g9,H⟩:=H;have d4:=ak g9;clear g9;obtain⟨e7,b2⟩: ∃y_:List Int,y_=(a1++[rd l0 a0]):=⟨_,rfl⟩;replace H:(BQ.l0 k1 l0 e7 (wrap64 (a0+1)))=some r:=zy b2 H;have b3:=ak b2;clear b2;have H':=ak H;clear H;obtain⟨k3,e0,i2⟩:=Kd.Al HO_3.out;subst i2;obtain⟨a8,d1,d9,f9,g0⟩:=ai (Kd.AN HO_3.out).2.2 (a2);cases d1;obtain⟨d7,d2,a6,g1,g2⟩:=ai e3.out a0;cases d2;replace a6:=zx HB a6;obtain⟨f6,g4,b4,i7,i9⟩:=ai e3.out a0;obtain rfl:d7=f6:=(by injection g4);replace b4:=zx HB b4
      go_wp2_with (first|((with_reducible refine Ak (b:= .append) (xs:= #[.tmp 34,.tmp 39]) rfl ?_);(try(refine BR (by rfl) ?_;dsimp only));at_builtin;refine Kd.Cy (Kd.int .i64) (w0:=w) w.heap.size rfl (.tmp 34) (.tmp 39) 47 3 (.int .i64 0) 8 rfl Try.underlying47 BT rfl (by decide) (by omega) (.slice (some a8) a1.length e0) a1 (rd l0 a0) [.int .i64 (rd l0 a0)] (fun _=>True) (fun _=>False) rfl rfl ?aP (fun _ hk=>hk.elim) ?aF ?aO ?aB ?aS ?aL ?_;(case aP=>exact rfl);(case aB=>exact z0);(case aF=>exact(fun _ _=>trivial));(case aO=>exact(zr HO_3.out));(case aS=>exact(AA z0));(case aL=>have:=d4.out;omega);intro e8 h3 ho hb hg hat;rw[<-b3.out]at ho;have a4:=ak (hb);have a5:=ak (ho);clear HB HO_3;have HB:=a4;have b5:=a5;clear a4 a5 ho hb hg hat))
      repeat(go_quiet (first|((with_reducible refine Ak (b:= .append) (xs:= #[.tmp 34,.tmp 39]) rfl ?_);(try(refine BR (by rfl) ?_;dsimp only));at_builtin;refine Kd.Cy (Kd.int .i64) (w0:=w) w.heap.size rfl (.tmp 34) (.tmp 39) 47 3 (.int .i64 0) 8 rfl Try.underlying47 BT rfl (by decide) (by omega) (.slice (some a8) a1.length e0) a1 (rd l0 a0) [.int .i64 (rd l0 a0)] (fun _=>True) (fun _=>False) rfl rfl ?aP (fun _ hk=>hk.elim) ?aF ?aO ?aB ?aS ?aL ?_;(case aP=>exact rfl);(case aB=>exact z0);(case aF=>exact(fun _ _=>trivial));(case aO=>exact(zr HO_3.out));(case aS=>exact(AA z0));(case aL=>have:=d4.out;omega);intro e8 h3 ho hb hg hat;rw[<-b3.out]at ho;have a4:=ak (hb);have a5:=ak (ho);clear HB HO_3;have HB:=a4;have b5:=a5;clear a4 a5 ho hb hg hat));try go_wp2_with (first|((with_reducible refine Ak (b:= .append) (xs:= #[.tmp 34,.tmp 39]) rfl ?_);(try(refine BR (by rfl) ?_;dsimp only));at_builtin;refine Kd.Cy (Kd.int .i64) (w0:=w) w.heap.size rfl (.tmp 34) (.tmp 39) 47 3 (.int .i64 0) 8 rfl Try.underlying47 BT rfl (by decide) (by omega) (.slice (some a8) a1.length e0) a1 (rd l0 a0) [.int .i64 (rd l0 a0)] (fun _=>True) (fun _=>False) rfl rfl ?aP (fun _ hk=>hk.elim) ?aF ?aO ?aB ?aS ?aL ?_;(case aP=>exact rfl);(case aB=>exact z0);(case aF=>exact(fun _ _=>trivial));(case aO=>exact(zr HO_3.out));(case aS=>exact(AA z0));(case aL=>have:=d4.out;omega);intro e8 h3 ho hb hg hat;rw[<-b3.out]at ho;have a4:=ak (hb);have a5:=ak (ho);clear HB HO_3;have HB:=a4;have b5:=a5;clear a4 a5 ho hb hg hat)))
      go_roundg k1
      case measure=>have:=c1.out;omega
      case rel=>exact⟨(e7),(wrap64 (a0+1)),zd,H',⟨by have:=c1.out;omega⟩,⟨zr b5.out⟩,⟨z0⟩⟩
    ·
     rw[if_neg c5]at H;have h8:=decide_eq_false c5;have h9:decide (0<a1.length)=false:=decide_eq_false (by omega);clear c5;replace H:=gi H;obtain⟨h4,H⟩:=H;have j5:=decide_eq_true h4;clear h4;replace H:=gi H;obtain⟨h5,H⟩:=H;have d5:=ak h5;clear h5;obtain⟨e9,b6⟩: ∃y_:List Int,y_=(a1++[rd l0 a0]):=⟨_,rfl⟩;replace H:(BQ.l0 k1 l0 e9 (wrap64 (a0+1)))=some r:=zy b6 H;have b7:=ak b6;clear b6;have H':=ak H;clear H;obtain⟨e1,e2,i3⟩:=Kd.Al HO_3.out;subst i3;obtain⟨i4,g5,b8,j6,j7⟩:=ai e3.out a0;cases g5;replace b8:=zx HB b8
     go_wp2_with (first|((with_reducible refine Ak (b:= .append) (xs:= #[.tmp 34,.tmp 39]) rfl ?_);(try(refine BR (by rfl) ?_;dsimp only));at_builtin;refine Kd.Cy (Kd.int .i64) (w0:=w) w.heap.size rfl (.tmp 34) (.tmp 39) 47 3 (.int .i64 0) 8 rfl Try.underlying47 BT rfl (by decide) (by omega) (.slice e1 a1.length e2) a1 (rd l0 a0) [.int .i64 (rd l0 a0)] (fun _=>True) (fun _=>False) rfl rfl ?aP (fun _ hk=>hk.elim) ?aF ?aO ?aB ?aS ?aL ?_;(case aP=>exact rfl);(case aB=>exact z0);(case aF=>exact(fun _ _=>trivial));(case aO=>exact(zr HO_3.out));(case aS=>exact(AA z0));(case aL=>have:=d5.out;omega);intro f0 h6 ho hb hg hat;rw[<-b7.out]at ho;have a4:=ak (hb);have a5:=ak (ho);clear HB HO_3;have HB:=a4;have b9:=a5;clear a4 a5 ho hb hg hat))
     repeat(go_quiet (first|((with_reducible refine Ak (b:= .append) (xs:= #[.tmp 34,.tmp 39]) rfl ?_);(try(refine BR (by rfl) ?_;dsimp only));at_builtin;refine Kd.Cy (Kd.int .i64) (w0:=w) w.heap.size rfl (.tmp 34) (.tmp 39) 47 3 (.int .i64 0) 8 rfl Try.underlying47 BT rfl (by decide) (by omega) (.slice e1 a1.length e2) a1 (rd l0 a0) [.int .i64 (rd l0 a0)] (fun _=>True) (fun _=>False) rfl rfl ?aP (fun _ hk=>hk.elim) ?aF ?aO ?aB ?aS ?aL ?_;(case aP=>exact rfl);(case aB=>exact z0);(case aF=>exact(fun _ _=>trivial));(case aO=>exact(zr HO_3.out));(case aS=>exact(AA z0));(case aL=>have:=d5.out;omega);intro f0 h6 ho hb hg hat;rw[<-b7.out]at ho;have a4:=ak (hb);have a5:=ak (ho);clear HB HO_3;have HB:=a4;have b9:=a5;clear a4 a5 ho hb hg hat));try go_wp2_with (first|((with_reducible refine Ak (b:= .append) (xs:= #[.tmp 34,.tmp 39]) rfl ?_);(try(refine BR (by rfl) ?_;dsimp only));at_builtin;refine Kd.Cy (Kd.int .i64) (w0:=w) w.heap.size rfl (.tmp 34) (.tmp 39) 47 3 (.int .i64 0) 8 rfl Try.underlying47 BT rfl (by decide) (by omega) (.slice e1 a1.length e2) a1 (rd l0 a0) [.int .i64 (rd l0 a0)] (fun _=>True) (fun _=>False) rfl rfl ?aP (fun _ hk=>hk.elim) ?aF ?aO ?aB ?aS ?aL ?_;(case aP=>exact rfl);(case aB=>exact z0);(case aF=>exact(fun _ _=>trivial));(case aO=>exact(zr HO_3.out));(case aS=>exact(AA z0));(case aL=>have:=d5.out;omega);intro f0 h6 ho hb hg hat;rw[<-b7.out]at ho;have a4:=ak (hb);have a5:=ak (ho);clear HB HO_3;have HB:=a4;have b9:=a5;clear a4 a5 ho hb hg hat)))
     go_roundg k1
     case measure=>have:=c1.out;omega
     case rel=>exact⟨(e9),(wrap64 (a0+1)),zd,H',⟨by have:=c1.out;omega⟩,⟨zr b9.out⟩,⟨z0⟩⟩
   ·
    rw[if_neg c4]at H;have h7:=decide_eq_false c4;clear c4;obtain rfl:=Option.some.inj H
    go_wp2
    repeat(go_quiet (fail);try go_wp2)
    go_ret
    exact⟨_,ze,zr HO_3.out,z0⟩
def CZ.l0:Nat->List Int->List Int->Int->Option (Bool)
 |0,_,_,_=>none
 |k+1,x0,x1,x5=>if x5<(x0.length:Int)then(if 0<=x5 then(if x5<(x1.length:Int)then(if(rd x0 x5)=(rd x1 x5)then(CZ.l0 k x0 x1 (wrap64 (x5+1)))else(some false))else(none))else(none))else(some true)
def CZ.f (k:Nat) (l0 l1:List Int):Option (Bool):=if(l0.length:Int)=(l1.length:Int)then(CZ.l0 k l0 l1 0)else(some false)
theorem CZ.calls (k:Nat) (A0:Option Addr) (c0:Nat) (l0:List Int) (A1:Option Addr) (c1:Nat) (l1:List Int) (r:Bool) (w:World) (b4:Kd.C (Kd.int .i64) w A0 l0.length l0) (b5:l0.length<=c0) (b6:Kd.C (Kd.int .i64) w A1 l1.length l1) (b7:l1.length<=c1) (h:CZ.f k l0 l1=some r):
 Calls Try.prog 95 #[.slice A0 l0.length c0,.slice A1 l1.length c1] w fun e w'=>e= .returned (.bool r)/\Cj w w':=by
 have b8:=ak b4;have d6:=ak b5;clear b4 b5;have b9:=ak b6;have d7:=ak b7;clear b6 b7;have H:=h;clear h;unfold CZ.f at H
 by_cases c3:(l0.length:Int)=(l1.length:Int)
 ·
  rw[if_pos c3]at H;have a5:((l0.length:Int)==(l1.length:Int))=true:=beq_iff_eq.mpr c3;have a6:((l0.length:Int) != (l1.length:Int))=false:=bne_eq_false_iff_eq.mpr c3
  have a7:(l0.length==l1.length)=true:=by first|simpa using c3|(simp at c3⊢;omega)
  clear c3;have H':=ak H;clear H
  go_enter Try.func95,Try.ntmps95
  go_wp2
  repeat(go_quiet (fail);try go_wp2)
  go_loopg [5] k (fun kq v5 w'=> ∃(a0:Int),v5= .int .i64 a0/\AJ (CZ.l0 kq l0 l1 a0=some r)/\AJ (kq<=k)/\Cj w w')
  case atStart=>exact⟨(0),zd,H',⟨Nat.le_refl _⟩,z3⟩
  case round=>
   clear H';obtain⟨a0,rfl,HA,d0,⟨m1,rfl⟩⟩:=hrel
   cases gk with
   |zero=>exact absurd HA.out (by simp[CZ.l0])
   |succ k1=>
    have H:=HA.out;clear HA;simp only[CZ.l0]at H
    by_cases c4:a0<(l0.length:Int)
    ·
     rw[if_pos c4]at H;have d1:=decide_eq_true c4;clear c4;replace H:=gi H;obtain⟨c5,H⟩:=H;have d4:=decide_eq_true c5;clear c5;replace H:=gi H;obtain⟨c6,H⟩:=H;have d5:=decide_eq_true c6;clear c6
     by_cases c7:(rd l0 a0)=(rd l1 a0)
     ·
      rw[if_pos c7]at H;have d2:((rd l0 a0)==(rd l1 a0))=true:=beq_iff_eq.mpr c7;have d3:((rd l0 a0) != (rd l1 a0))=false:=bne_eq_false_iff_eq.mpr c7;clear c7;have H':=ak H;clear H;obtain⟨a8,a1,a3,b0,b1⟩:=ai b8.out a0;cases a1;obtain⟨a9,a2,a4,b2,b3⟩:=ai b9.out a0;cases a2
      go_wp2
      repeat(go_quiet (fail);try go_wp2)
      go_roundg k1
      case measure=>have:=d0.out;omega
      case rel=>exact⟨(wrap64 (a0+1)),zd,H',⟨by have:=d0.out;omega⟩,z3⟩
     ·
      rw[if_neg c7]at H;have d2:((rd l0 a0)==(rd l1 a0))=false:=beq_eq_false_iff_ne.mpr c7;have d3:((rd l0 a0) != (rd l1 a0))=true:=bne_iff_ne.mpr c7;obtain rfl:=Option.some.inj H;obtain⟨a8,a1,a3,b0,b1⟩:=ai b8.out a0;cases a1;obtain⟨a9,a2,a4,b2,b3⟩:=ai b9.out a0;cases a2
      go_wp2
      repeat(go_quiet (fail);try go_wp2)
      go_ret
      exact⟨by first|rfl|(simp;done)|(simp[*];done),z3⟩
    ·
     rw[if_neg c4]at H;have d1:=decide_eq_false c4;clear c4;obtain rfl:=Option.some.inj H
     go_wp2
     repeat(go_quiet (fail);try go_wp2)
     go_ret
     exact⟨by first|rfl|(simp;done)|(simp[*];done),z3⟩
 ·
  rw[if_neg c3]at H;have a5:((l0.length:Int)==(l1.length:Int))=false:=beq_eq_false_iff_ne.mpr c3;have a6:((l0.length:Int) != (l1.length:Int))=true:=bne_iff_ne.mpr c3
  have a7:(l0.length==l1.length)=false:=by first|simpa using c3|(simp at c3⊢;omega)
  obtain rfl:=Option.some.inj H
  go_enter Try.func95,Try.ntmps95
  go_wp2
  repeat(go_quiet (fail);try go_wp2)
  go_ret
  exact⟨by first|rfl|(simp;done)|(simp[*];done),z3⟩
def Dw.f (k:Nat) (l0:List Int):Option (List Int):=(Bn.f k l0).bind fun t1075=>(if t1075=true then((BQ.f k l0).bind fun t1076=>(some t1076))else(some (([]:List Int))))
theorem Dw.calls (k:Nat) (A0:Option Addr) (c0:Nat) (l0 r:List Int) (w:World) (a8:Kd.C (Kd.int .i64) w A0 l0.length l0) (a9:l0.length<=c0) (h:Dw.f k l0=some r):
 Calls Try.prog 50 #[.slice A0 l0.length c0] w fun e w'=> ∃b0:Value,e= .returned (b0)/\Kd.R (Kd.int .i64) 3 w' w.heap.size (fun _=>True) b0 r/\Below w.heap.size w w':=by
 have a3:=ak a8;have a4:=ak a9;clear a8 a9;have HB:=ak (Below.refl w.heap.size w);have H:=h;clear h;unfold Dw.f at H;replace H:=gb H;obtain⟨t1075,A2,H⟩:=H
 by_cases c3:t1075=true
 ·
  subst c3;rw[if_pos rfl]at H;replace H:=gb H;obtain⟨t1076,A4,H⟩:=H;obtain rfl:=Option.some.inj H
  go_enter Try.func50,Try.ntmps50
  go_wp2_with (first|(refine zl (some 4) Try.func93 #[.slice A0 l0.length c0] ?_;(with_reducible refine(Bn.calls k _ _ l0 true _ ?side1 ?side2 A2.out).mono ?_);(case side1=>exact zc a3.out);(case side2=>exact a4.out);rintro e w' ⟨rfl,⟨nd,rfl⟩⟩;refine⟨_,rfl,?_⟩)|(refine zl (some 8) Try.func96 #[.slice A0 l0.length c0] ?_;(with_reducible refine(BQ.calls k _ _ l0 t1076 _ ?side1 ?side2 A4.out).mono ?_);(case side1=>exact zc a3.out);(case side2=>exact a4.out);rintro e w5 ⟨b2,rfl,b1,hb⟩;refine⟨_,rfl,?_⟩;have a5:=ak (Kd.BA b1 (AA z0));replace HB:=ak (AG z0 hb)))
  go_ret
  exact⟨_,ze,zr a5.out,z0⟩
 ·
  replace c3:=Bool.eq_false_iff.mpr c3;subst c3;rw[if_neg (show¬(false=true) by decide)]at H;obtain⟨a7,a0⟩: ∃y_:List Int,y_=(([]:List Int)):=⟨_,rfl⟩;replace H:(some a7)=some r:=zy a0 H;have a1:=ak a0;clear a0;obtain rfl:=Option.some.inj H
  go_enter Try.func50,Try.ntmps50
  go_wp2_with (first|(refine zl (some 4) Try.func93 #[.slice A0 l0.length c0] ?_;(with_reducible refine(Bn.calls k _ _ l0 false _ ?side1 ?side2 A2.out).mono ?_);(case side1=>exact zc a3.out);(case side2=>exact a4.out);rintro e w' ⟨rfl,⟨nd,rfl⟩⟩;refine⟨_,rfl,?_⟩)|((with_reducible refine Ar (N:=6) rfl ?_);refine Kd.DS (Kd.int .i64) _ 3 ?hg (N:=6) ?hd (xs:=([]:List Int)) (inner:=[]) (ok:=fun _=>True) (okp:=fun _=>True) ?hr ?hp (fun _ hk=>hk) trivial (Below.refl _ _) (Nat.le_refl _) (by simp) ?_;(case hd=>rfl);(case hg=>rfl);(case hr=>first|(go_simp;done)|(go_simp;rfl));(case hp=>exact(Av.none _ _));intro b3 w6 a2 hb hg_ hnew_;clear hg_ hnew_;(first|rw[<-a1.out]at a2|(simp only[Int.reduceToNat]at a2;rw[<-a1.out]at a2));have a6:=ak (Kd.BA a2 (AA z0));replace HB:=ak (AG z0 hb);clear hb a2))
  go_ret
  exact⟨_,ze,zr a6.out,z0⟩
end Go.Proofs.Ytlnddmkkgjlmbaa.QFnMoves
