-- The kit's printed words, cut by a program of this session to what this claim comes to.
import Derived.Test.YtlnddmkkgjlmbaaWN
namespace Go.Proofs.YtlnddmkkgjlmbaaW.PrintWords
open Go.RowKit
section
variable {w w' u : World} {m B g : Nat} {o : Obj} {row : Option Nat} {S : Nat → Prop} {a : Addr} {v : Value}
theorem IA (hq:w.drewN m=w') (h:Below B u w):Below B u w':=by subst hq;exact AQ h m
end
namespace Kd
section
variable {α : Type} {d : Kd α} {e base n m : Nat} {ok : Nat → Prop} {w w' : World} {v : Value} {A : Option Addr} {xs : List α}
theorem Vs (hq:w.drewN m=w') (h:d.R e w base ok v xs):d.R e w' base ok v xs:=by subst hq;exact BN h m
theorem Wi (hq:w.drewN m=w') (h:Kd.S d e w base ok v xs):Kd.S d e w' base ok v xs:=by subst hq;exact Bh h m
end
end Kd
end Go.Proofs.YtlnddmkkgjlmbaaW.PrintWords
