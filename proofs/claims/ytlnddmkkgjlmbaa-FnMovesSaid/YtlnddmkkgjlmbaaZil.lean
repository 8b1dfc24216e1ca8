/- Reading an element's row: what is known of it, with the index's bounds. No conditions of its own. -/
import Derived.Test.YtlnddmkkgjlmbaaQFnMovesx0
namespace Go.Proofs.Ytlnddmkkgjlmbaa.QFnMoves
open Go.RowKit Go.Proofs.YtlnddmkkgjlmbaaW.PrintWords Go.Proofs.YtlnddmkkgjlmbaaW.PrintLast Go.Proofs.YtlnddmkkgjlmbaaW.PrintMore
theorem al {w:World} {A:Option Addr} {n:Nat} {xs:List (List Int)} (h:Kd.C (Kd.slice 3 (Kd.int .i64)) w A n xs) (i:Int) (h0:0<=i:=by exact of_decide_eq_true (by first|(with_reducible assumption)|assumption)) (h1:i<n:=by exact of_decide_eq_true (by first|(with_reducible assumption)|assumption)): ∃ad A0 c0,A=some ad/\w.cell? (ad.add i.toNat)=some (.slice A0 (AD xs i).length c0)/\AJ ((AD xs i).length<=c0)/\AJ ((Kd.int .i64).C w A0 (AD xs i).length (AD xs i))/\(0<=i)=True/\(i<(n:Int))=True:=by
 obtain⟨ad,A0,c0,e,hx,hl,hi⟩:=Cl h i h0 h1
 exact⟨ad,A0,c0,e,hx,AJ.mk hl,AJ.mk hi,eq_true h0,eq_true h1⟩
end Go.Proofs.Ytlnddmkkgjlmbaa.QFnMoves
