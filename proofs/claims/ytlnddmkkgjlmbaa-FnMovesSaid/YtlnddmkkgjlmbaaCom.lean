/- Small words for the plain statements of this seat: numbers that do not wrap, lists that are read, and what comes to an answer in enough rounds. -/
import Derived.Test.YtlnddmkkgjlmbaaWMore
import Derived.Test.YtlnddmkkgjlmbaaWSized
import Derived.Laws.Strings
namespace Go.Proofs.Ytlnddmkkgjlmbaa.PrintWords
open Go.ChangeShapes Go.WideShapes
theorem JV {H:Type} {enc:TypeId×Value->H} {P:Program} {W:World} {base:Nat} {spare:Nat->Bool} {held:Bool} {t e:TypeId} {k:IntKind} {a:Option Addr} {len cap:Nat} {d:DataW H} {ps:List MemPlace} {ts:List TypeId} {ds:List (DataW H)} {j:Nat}
 (hsz:(DataW.weightsEach P ts ds).all (· <=reachBytes)=true) (ht:ts[j]? =some t) (hd:ds[j]? =some d) (hu:P.underlying t=some (.slice e)) (he:P.underlying e=some (.int k)) (hc:P.cellsOf e=1) {B:Nat} (hB:P.bytesOf e=B)
 (h:DataW.Trod enc P W base spare held t (.slice a len cap) d ps):len*B<=140737488351232:=
 Go.Proofs.YtlnddmkkgjlmbaaW.PrintWords.JV hsz ht hd hu he hc hB h
end Go.Proofs.Ytlnddmkkgjlmbaa.PrintWords
namespace Go.Proofs.Ytlnddmkkgjlmbaa.Com
open Go.RowKit Go.Proofs.YtlnddmkkgjlmbaaW.PrintWords Go.Proofs.YtlnddmkkgjlmbaaW.PrintLast
theorem Fa {x:Int} (h: -9223372036854775808<=x) (h':x<=9223372036854775807):wrap64 x=x:=by
 unfold wrap64
 omega
theorem DB {i n:Nat} (h:i<n) (hn:n<=9223372036854775807):wrap64 ((i:Int)+1)=((i+1:Nat):Int):=by
 unfold wrap64
 omega
theorem Ie (l:List Int) (i:Nat):rd l (i:Int)=l.getD i 0:=rfl
theorem CR {l:List Int} {i:Nat} (h:i<l.length):rd l (i:Int)=l[i]:=by
 simp[rd,List.getD_eq_getElem?_getD,h]
theorem VC {α:Type} {z:α} {l:List α} {i:Nat} (h:i<l.length):Ki z l (i:Int)=l[i]:=by
 simp[Ki,List.getD_eq_getElem?_getD,h]
theorem Ev.shift {α:Type} {g:Nat->Option α} {r:α} (h:Ev (fun k=>g (k+1)) r):Ev g r:=Ev.step (fun _=>rfl) h
theorem Ev.unique {α:Type} {g:Nat->Option α} {a b:α} (h:Ev g a) (k:Ev g b):a=b:=by
 obtain⟨K,hK⟩:=h
 obtain⟨K',hK'⟩:=k
 have h1:=hK (K+K') (by omega)
 rw[hK' (K+K') (by omega)]at h1
 exact(Option.some.inj h1).symm
theorem Ev.Hm {α β:Type} {a:α} {f:Nat->α->Option β} {r:β} (h:Ev (fun n=>f n a) r):Ev (fun n=>(some a).bind (f n)) r:=h
theorem Bu {α:Type} {d:α} {l:List α} {i:Nat} (h:i<l.length):l.getD i d=l[i]:=by simp[List.getD_eq_getElem?_getD,h]
end Go.Proofs.Ytlnddmkkgjlmbaa.Com
