-- The kit's printed words, cut by a program of this session to what this claim comes to.
import Derived.Test.YtlnddmkkgjlmbaaWNEv
namespace Go.Proofs.YtlnddmkkgjlmbaaW.PrintMore
open Go.RowKit Go.Proofs.YtlnddmkkgjlmbaaW.PrintWords
namespace Kd
open Go.Proofs.YtlnddmkkgjlmbaaW.PrintWords.Kd
end Kd
namespace Kd
open Go.Proofs.YtlnddmkkgjlmbaaW.PrintWords.Kd
section
variable {α : Type} {d : Kd α} {e base g N : Nat} {ok : Nat → Prop} {W w1 : World} {u v : Value} {xs : List α}
end
end Kd
theorem CD (k k':IntKind) (x y:Int):Builtin.max2 (.int k x) (.int k' y)=pure (.int k (if x<y then y else x)):=by simp only[Builtin.max2,gt_iff_lt]
theorem CF (k k':IntKind) (x y:Int):Builtin.min2 (.int k x) (.int k' y)=pure (.int k (if y<x then y else x)):=by simp only[Builtin.min2]
theorem CW (ats:Array TypeId) (ty:TypeId) (a b:Value):Builtin.max_ ats ty #[a,b]=(Builtin.max2 a b >>= fun s=>pure s):=by simp only[Builtin.max_,List.foldlM_cons,List.foldlM_nil]
theorem CV (ats:Array TypeId) (ty:TypeId) (a b:Value):Builtin.min_ ats ty #[a,b]=(Builtin.min2 a b >>= fun s=>pure s):=by simp only[Builtin.min_,List.foldlM_cons,List.foldlM_nil]
theorem Bl (ats:Array TypeId) (ty:TypeId) (a b c:Value):Builtin.max_ ats ty #[a,b,c]=(Builtin.max2 a b >>= fun s=>Builtin.max2 s c >>= fun s=>pure s):=by simp only[Builtin.max_,List.foldlM_cons,List.foldlM_nil]
theorem Bk (ats:Array TypeId) (ty:TypeId) (a b c:Value):Builtin.min_ ats ty #[a,b,c]=(Builtin.min2 a b >>= fun s=>Builtin.min2 s c >>= fun s=>pure s):=by simp only[Builtin.min_,List.foldlM_cons,List.foldlM_nil]
theorem CE (ats:Array TypeId) (ty:TypeId) (a b c d:Value):Builtin.max_ ats ty #[a,b,c,d]=(Builtin.max2 a b >>= fun s=>Builtin.max2 s c >>= fun s=>Builtin.max2 s d >>= fun s=>pure s):=by simp only[Builtin.max_,List.foldlM_cons,List.foldlM_nil]
theorem CG (ats:Array TypeId) (ty:TypeId) (a b c d:Value):Builtin.min_ ats ty #[a,b,c,d]=(Builtin.min2 a b >>= fun s=>Builtin.min2 s c >>= fun s=>Builtin.min2 s d >>= fun s=>pure s):=by simp only[Builtin.min_,List.foldlM_cons,List.foldlM_nil]
end Go.Proofs.YtlnddmkkgjlmbaaW.PrintMore
namespace Go.Proofs.YtlnddmkkgjlmbaaW.PrintWords
open Go.RowKit
section
variable {P : Program} {ops : Array Oper} {rest : List Oper} {o : Oper} {a : Act} {Q : Exit → Act → World → Prop} {W : World}
theorem Ve {f:FuncId} {as:Array Operand} {ts:Array TypeId} (_ho:o.op= .call {callee:= .value (.func f),args:=as,argTypes:=ts}) (h:wpList P ops Q (o::rest) a W):wpList P ops Q (o::rest) a W:=h
theorem Ak {b:Builtin} {xs:Array Operand} {ts:Array TypeId} (_ho:o.op= .call {callee:= .builtin b,args:=xs,argTypes:=ts}) (h:wpList P ops Q (o::rest) a W):wpList P ops Q (o::rest) a W:=h
end
theorem Eu {P:Program} {f:FuncId} {args args':Array Value} {w:World} {Q:Ending->World->Prop} (h:args=args') (hc:Calls P f args' w Q):Calls P f args w Q:=h▸hc
def mx (a b:Int):Int:=if a<b then b else a
def shl (k:IntKind) (x y:Int):Int:=k.wrap (x*2^min y.toNat k.bits)
def shr (k:IntKind) (x y:Int):Int:=x/2^min y.toNat k.bits
theorem Rn {k:IntKind} {x y j:Int} (h:shl k x y=j) (hy:y<=k.bits):k.wrap (x*2^y.toNat)=j:=by rw[<-h];unfold shl;rw[Nat.min_eq_left (by omega)]
theorem RO {k:IntKind} {x y j:Int} (h:shr k x y=j) (hy:y<=k.bits):x/2^y.toNat=j:=by rw[<-h];unfold shr;rw[Nat.min_eq_left (by omega)]
theorem EO (w:World) (n:Nat):w.drewN n=w.drewN n:=rfl
namespace Kd
section
variable {α : Type} {d : Kd α} {e base : Nat} {ok : Nat → Prop} {W w1 : World} {v : Value} {xs : List α}
theorem FT (h:d.R e W base ok v xs) (hE:d.E=[]) {row:Option Nat} (hg:W.grownBy w1 row) (hne: ∀k,row=some k->some k≠v.ownBlock):d.R e w1 base ok v xs:=
 AV (UK (DV hE h) hg (fun k hk e_=>hne k e_.symm hk)) (fun k hk=>h.1 k hk.symm)
end
section
variable {α : Type} {d : Kd α} {e base g n cap : Nat} {ok oki okp : Nat → Prop} {W : World} {xs : List α} {i : Int} {c : List Value}
theorem Ww (h:H d e W base ok (.slice (some ⟨g,0,none⟩) n cap) xs i oki c) (h0:0<=i) (h1:i<n):(∀j u,c[j]? =some u->W.cell? ⟨g,i.toNat*d.sz+j,none⟩=some u)/\∀j,W.frozen? ⟨g,i.toNat*d.sz+j,none⟩=false:=by
 obtain⟨rows,_,hraw,_,_,hcc,_⟩:=OZ h h0 h1
 obtain⟨_,_,_,_,hfr⟩:=Pq hraw [] i h0 h1
 exact⟨hcc,hfr⟩
theorem Pl (hH:H d e W base ok (.slice (some ⟨g,0,none⟩) n cap) xs i oki c) (h0:0<=i) (h1:i<n) {seg:List Value} {j:Nat} (hj:j+seg.length<=d.sz)
 {x':α} (hM:d.M W base okp x' (c.take j++seg++c.drop (j+seg.length))) (hokp: ∀k,okp k->oki k):
 S d e (W.setCells g (i.toNat*d.sz+j) seg) base ok (.slice (some ⟨g,0,none⟩) n cap) (xs.set i.toNat x')/\W.grownBy (W.setCells g (i.toNat*d.sz+j) seg) (some g):=
 JK (okg:=fun _=>False) (Wd hH (fun _ hk=>⟨hk,fun h=>h⟩)) h0 h1 hj hM (fun k hk=> .inl (hokp k hk)) (fun _ hk=>hk.elim)
end
section
variable {α : Type} {d : Kd α} {e base b b' g N : Nat} {ok ok1 : Nat → Prop} {W W2 w1 : World} {u v : Value} {xs ys : List α} {S : Nat → Prop}
end
end Kd
end Go.Proofs.YtlnddmkkgjlmbaaW.PrintWords
namespace Go.Proofs.YtlnddmkkgjlmbaaW.PrintWords
open Go.RowKit
namespace Kd
def V {α:Type} (d:Kd α) (_e:Nat) (W:World) (_base:Nat) (ok:Nat->Prop) (v:Value) (xs:List α):Prop:= ∃A c,v= .slice A xs.length c/\xs.length<=c/\F d W ok A xs.length xs
section
variable {α β : Type} {d : Kd α} {e base base' n m c g N' lo hi : Nat} {ok ok' S : Nat → Prop} {w W w1 : World} {A : Option Addr} {ad : Addr} {u v v1 : Value} {xs : List α}
theorem PE {l:List α} (hl:l.length<=c) (hf:F d W ok A l.length l):FK (Kd.slice e d) W ok l [.slice A l.length c]:=fun W' hW=>⟨A,c,rfl,hl,hf W' hW⟩
theorem DX {M:Nat->Prop} (h:d.R e w1 W.heap.size ok v xs) (hle:w.heap.size<=W.heap.size) (hM: ∀k,w.heap.size<=k->M k):d.R e w1 W.heap.size (fun k=>M k/\ok k) v xs:=AV (FB h) (fun k hk=>⟨hM k (Nat.le_trans hle hk.2.1),hk.1⟩)
theorem EM {M:Nat->Prop} (h:Kd.S d e w1 W.heap.size ok v xs) (hle:w.heap.size<=W.heap.size) (hM: ∀k,w.heap.size<=k->M k):Kd.S d e w1 W.heap.size (fun k=>M k/\ok k) v xs:=Af (NP h) (fun k hk=>⟨hM k (Nat.le_trans hle hk.2.1),hk.1⟩)
end
end Kd
end Go.Proofs.YtlnddmkkgjlmbaaW.PrintWords
