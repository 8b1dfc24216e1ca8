-- Written by a program of this session (the kit's print, Dn in places): the functions that the law FnMoves comes to, and what their calls do.
import Derived.Test.YtlnddmkkgjlmbaaProg
import Derived.Test.YtlnddmkkgjlmbaaWAt
import Derived.Laws.StructEq
import Derived.Test.YtlnddmkkgjlmbaaWRepsOne
import Derived.Test.YtlnddmkkgjlmbaaWInv
import Derived.Test.YtlnddmkkgjlmbaaWGuard
import Derived.Test.YtlnddmkkgjlmbaaZip
namespace Go.Proofs.Ytlnddmkkgjlmbaa.QFnMoves
open Go.Proofs.Ytlnddmkkgjlmbaa.Zip Go.RowKit Go.Proofs.YtlnddmkkgjlmbaaW.PrintWords Go.Proofs.YtlnddmkkgjlmbaaW.PrintLast Go.Proofs.YtlnddmkkgjlmbaaW.PrintMore
attribute [local go_sem] CD CF CW CV Bl Bk CE CG
set_option linter.unusedVariables false
set_option linter.unusedSimpArgs false
def Xd:Option Int->Value
 |none=> .nilIface
 |some c=> .iface 0 (.int .i64 c)
theorem Bq:Xd none= .nilIface:=rfl
theorem Bt (c:Int):Xd (some c)= .iface 0 (.int .i64 c):=rfl
theorem BT:(Try.prog.info? 3).map (fun i=>(i.zero,i.size,i.bytes))=some (some (.int .i64 0),1,8):=by kernel_rfl
theorem Hk:(Try.prog.info? 47).map (fun i=>(i.zero,i.size,i.bytes))=some (some (.slice none 0 0),1,24):=by kernel_rfl
theorem Wm:(Try.prog.info? 60).map (fun i=>(i.zero,i.size,i.bytes))=some (some (.agg #[(.int .i64 0),(.int .i64 0)]),2,16):=by kernel_rfl
def AD (xs:List (List Int)) (i:Int):(List Int):=xs.getD i.toNat ([]:List Int)
theorem Cl {w:World} {A:Option Addr} {n:Nat} {xs:List (List Int)} (h:Kd.C (Kd.slice 3 (Kd.int .i64)) w A n xs) (i:Int) (h0:0<=i) (h1:i<n): ∃ad A0 c0,A=some ad/\w.cell? (ad.add i.toNat)=some (.slice A0 (AD xs i).length c0)/\(AD xs i).length<=c0/\(Kd.int .i64).C w A0 (AD xs i).length (AD xs i):=by
 obtain⟨ad,c,e,_,hK,a0⟩:=Kd.Su h ([]:List Int) i h0 h1;have hc: ∀j u,c[j]? =some u->w.cell? (ad.add (i.toNat*1+j))=some u:=a0;obtain⟨A0,c0,rfl,l0,g0⟩:=hK;exact⟨ad,A0,c0,e,by have hq:=hc 0 _ rfl;rwa[Nat.mul_one,Nat.add_zero]at hq,l0,g0⟩
structure IY where
 f0:Int
 f1:Int
def z60:IY:=⟨(0:Int),(0:Int)⟩
def Vl:Kd IY:=Kd.iso (Kd.pair (Kd.int .i64) (Kd.int .i64)) (fun x:IY=>(x.f0,x.f1))
theorem TI {w:World} {x:IY} {cs:List Value} (h:Vl.K w x cs):cs=[.int .i64 x.f0,.int .i64 x.f1]:=by
 obtain⟨_,_,rfl,rfl,rfl⟩:=h;exact rfl
theorem Uk (w:World) (base:Nat) (ok:Nat->Prop) (x:IY):Vl.M w base ok x [.int .i64 x.f0,.int .i64 x.f1]:=⟨[.int .i64 x.f0],[.int .i64 x.f1],rfl,rfl,rfl⟩
def AX (xs:List IY) (i:Int):IY:=xs.getD i.toNat z60
theorem KS {w:World} {A:Option Addr} {n:Nat} {xs:List IY} (h:Kd.C Vl w A n xs) (i:Int) (h0:0<=i) (h1:i<n): ∃ad,A=some ad/\w.cell? (ad.add (i.toNat*2))=some (.int .i64 (AX xs i).f0)/\w.cell? ⟨(ad.add (i.toNat*2)).block,(ad.add (i.toNat*2)).off+1,none⟩=some (.int .i64 (AX xs i).f1):=by
 obtain⟨ad,c,e,_,hK,a0⟩:=Kd.Su h z60 i h0 h1;have hc: ∀j u,c[j]? =some u->w.cell? (ad.add (i.toNat*2+j))=some u:=a0;obtain rfl:=TI hK;exact⟨ad,e,hc 0 _ rfl,by rw[<-Ru _ _ 1 (by omega)];exact hc 1 _ rfl⟩
theorem GI {α:Type} {d:Kd α} {e:Nat} {w:World} {base:Nat} {ok:Nat->Prop} {v:Value} {xs:List α} (h:Kd.S d e w base ok v xs) {a b:Nat} (_:a<=b):Kd.S d e w base ok v xs:=h
theorem EH {p:Prop} (h:p):p:=h
theorem Uw (A:Option Addr) (n m c:Nat):(Value.slice A n c).ownBlock=(Value.slice A m c).ownBlock:=by cases A<;>rfl
end Go.Proofs.Ytlnddmkkgjlmbaa.QFnMoves
