-- The kit's printed words, cut by a program of this session to what this claim comes to.
import Derived.Test.YtlnddmkkgjlmbaaWKept
namespace Go.Proofs.YtlnddmkkgjlmbaaW.PrintWords
open Go.RowKit
def IL (P:World->Prop) (W:World) (ok:Nat->Prop):Prop:= ∀W':World,(∀k,ok k->k<W.heap.size->W'.heap[k]? =W.heap[k]?)->P W'
theorem UH {W W1:World} {k:Nat} (h:W1.heap[k]? =W.heap[k]?) (hlt:k<W.heap.size):k<W1.heap.size:=by
 rw[Array.getElem?_eq_getElem hlt]at h
 exact(Array.getElem?_eq_some_iff.1 h).1
namespace IL
variable {P Q : World → Prop} {W W1 : World} {ok ok' : Nat → Prop}
theorem now (h:IL P W ok):P W:=h W (fun _ _ _=>rfl)
theorem mono (h:IL P W ok) (hok: ∀k,ok k->ok' k):IL P W ok':=fun W' hW=>h W' (fun k hk hlt=>hW k (hok k hk) hlt)
theorem bound (h:IL P W ok):IL P W (fun k=>ok k/\k<W.heap.size):=fun W' hW=>h W' (fun k hk hlt=>hW k ⟨hk,hlt⟩ hlt)
theorem step (h:IL P W ok) (hm: ∀k,ok k->k<W.heap.size->W1.heap[k]? =W.heap[k]?):IL P W1 ok:=fun W' hW=>h W' (fun k hk hlt=>(hW k hk (UH (hm k hk hlt) hlt)).trans (hm k hk hlt))
theorem imp (h:IL P W ok) (hi: ∀W',P W'->Q W'):IL Q W ok:=fun W' hW=>hi W' (h W' hW)
theorem old (h:IL P W ok) (hb:Below W.heap.size W W1):IL P W1 (fun k=>ok k/\k<W.heap.size):=(h.bound).step (fun k _ hlt=>hb.block k hlt)
end IL
namespace Kd
def F {α:Type} (d:Kd α) (W:World) (ok:Nat->Prop) (A:Option Addr) (n:Nat) (xs:List α):Prop:=IL (fun W=>d.C W A n xs) W ok
def FK {α:Type} (d:Kd α) (W:World) (ok:Nat->Prop) (x:α) (c:List Value):Prop:=IL (fun W=>d.K W x c) W ok
section
variable {α β : Type} {d : Kd α} {e base n n' cc g N : Nat} {ok ok' okp S : Nat → Prop} {w w0 w1 W W1 : World} {A A' : Option Addr} {u v v1 : Value} {xs : List α} {xs' : List β} {d' : Kd β} {x : α} {c : List Value}
theorem Pa (h:FK d W ok x c):d.K W x c:=IL.now h
theorem QM (h:FK d W ok x c) (hok: ∀k,ok k->ok' k):FK d W ok' x c:=IL.mono h hok
theorem Ta (h:FK d W ok x c):FK d W (fun k=>ok k/\k<W.heap.size) x c:=IL.bound h
theorem Qb (h:FK d W ok x c) (hm: ∀k,ok k->k<W.heap.size->W1.heap[k]? =W.heap[k]?):FK d W1 ok x c:=IL.step h hm
theorem UM (h:d.M W base ok x c):FK d W ok x c:=fun _ hW=>d.K_of_M (PN h hW)
end
end Kd
end Go.Proofs.YtlnddmkkgjlmbaaW.PrintWords
