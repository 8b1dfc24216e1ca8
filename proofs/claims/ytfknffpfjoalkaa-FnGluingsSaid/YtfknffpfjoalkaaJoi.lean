/- The program's joiner, a list of parents behind a pointer: what its four functions do. Conditions: the list is at most 1048576 long, and the parents lead to a root. -/
import Derived.Test.YtfknffpfjoalkaaProg
import Derived.Test.YtfknffpfjoalkaaWMore
import Derived.Test.YtfknffpfjoalkaaCom
import Derived.WalkKit
import Derived.KernelRfl
import Derived.RowKit3
import Derived.Deep.LoopGhost
import Derived.Deep.QuietTactic
import Derived.BigQuiet
import Derived.OwnWalk
import Derived.Tactics
import Derived.Deep.DeepCutAuto
namespace Go.Proofs.Ytfknffpfjoalkaa.Joi
open Go.RowKit Go.Proofs.YtfknffpfjoalkaaW.PrintWords Go.Proofs.YtfknffpfjoalkaaW.PrintLast Go.Proofs.YtfknffpfjoalkaaW.PrintMore Go.Proofs.Ytfknffpfjoalkaa.Com
set_option linter.unusedVariables false
set_option linter.unusedSimpArgs false
def Jn (w : World) (b g : Nat) (xs : List Int) : Prop := ∃ v, w.heap[g]? = some (.cells #[v] 75 (0, 0)) ∧ b ≤ g ∧ w.ownsRow b 3 1 v xs.length (encs (Value.int .i64) xs)
theorem Jn.below {w w1 : World} {b g : Nat} {xs : List Int} (h : Jn w b g xs) (hb : Below w.heap.size w w1) : Jn w1 b g xs := by
 obtain ⟨v, h1, h2, h3⟩ := h
 exact ⟨v, blk_below h1 hb, h2, pw_own_below h3 hb⟩
theorem Jn.alloc {w : World} {b g : Nat} {xs : List Int} (h : Jn w b g xs) (o : Obj) : Jn (w.alloc o) b g xs := h.below (below_alloc (Below.refl _ _) o)
theorem Jn.drewN {w : World} {b g : Nat} {xs : List Int} (h : Jn w b g xs) (n : Nat) : Jn (w.drewN n) b g xs := h
def rch (xs : List Int) : Nat → Nat → Nat → Prop
 | 0, i, r => i = r ∧ xs[i]? = some (i : Int)
 | n + 1, i, r => ∃ j : Nat, xs[i]? = some (j : Int) ∧ j ≠ i ∧ rch xs n j r
theorem rch_lt {xs : List Int} {n i r : Nat} (h : rch xs n i r) : i < xs.length := by
 cases n with
 | zero => exact (List.getElem?_eq_some_iff.1 h.2).1
 | succ n => obtain ⟨j, h1, _⟩ := h; exact (List.getElem?_eq_some_iff.1 h1).1
theorem rch_end {xs : List Int} {n i r : Nat} (h : rch xs n i r) : xs[r]? = some (r : Int) := by
 induction n generalizing i with
 | zero => rw [← h.1]; exact h.2
 | succ n ih => obtain ⟨j, _, _, h3⟩ := h; exact ih h3
theorem Jn.laid {w : World} {b g : Nat} {xs : List Int} (h : Jn w b g xs) (hp : 0 < xs.length) : ∃ u cap, b ≤ u ∧ g ≠ u ∧ w.cell? ⟨g, 0, none⟩ = some (.slice (some ⟨u, 0, none⟩) xs.length cap) ∧
  (∀ j : Nat, j < xs.length → w.cell? ⟨u, j, none⟩ = some (.int .i64 (rd xs j)) ∧ w.frozen? ⟨u, j, none⟩ = false) ∧ (∀ (j : Nat) (x : Int), j < xs.length → Jn (w.setCell ⟨u, j, none⟩ (.int .i64 x)) b g (xs.set j x)) := by
 obtain ⟨v, h1, h2, h3⟩ := h
 obtain ⟨u, cap, rfl, hb, hc⟩ := h3.form hp
 have hne : g ≠ u := by
  have := own_ne h3 h1 (by decide)
  intro e; subst e; exact this rfl
 refine ⟨u, cap, hb, hne, by rw [blk_cell h1]; rfl, fun j hj => ?_, fun j x hj => ?_⟩
 ·
  have := own_at_of (d := (0 : Int)) h3 (j : Int) (by omega) (by omega)
  exact this
 ·
  have := (own_store_of h3 (j : Int) x).1
  rw [Int.toNat_natCast] at this
  exact ⟨_, blk_far h1 hne _, h2, by rw [List.length_set]; exact this⟩
set_option maxHeartbeats 8000000 in
set_option maxRecDepth 100000 in
theorem top_calls (g : Nat) (xs : List Int) (b i r n : Nat) (w : World) (hJ : Jn w b g xs) (h : rch xs n i r) (hl : xs.length ≤ 1048576) :
  Calls Try.prog 79 #[.pointer (some ⟨g, 0, none⟩), .int .i64 (i : Int)] w fun e w' => e = .returned (.int .i64 (r : Int)) ∧ w' = w := by
 have hi := rch_lt h
 obtain ⟨u, cap, _, _, hg, hc0, _⟩ := hJ.laid (by omega)
 have HC := Aside0.mk (fun j hj => (hc0 j hj).1)
 have H0 := Aside0.mk h
 clear hJ hc0 h
 have HL : ((xs.length : Nat) : Int) ≤ 1048576 := by omega
 go_enter Try.func79, Try.ntmps79
 go_wp2
 go_loopg [1] n (fun k v1 w' => ∃ j : Nat, v1 = .int .i64 (j : Int) ∧ Aside0 (rch xs k j r) ∧ w = w')
 case atStart => exact ⟨i, rfl, H0, rfl⟩
 case round =>
  obtain ⟨j, rfl, HR, rfl⟩ := hrel
  have hj := rch_lt HR.out
  have hcj := HC.out j hj
  have hj0 : (0 : Int) ≤ (j : Int) := by omega
  have hjl : (j : Int) < (xs.length : Int) := by omega
  cases gk with
  | zero =>
   obtain ⟨rfl, he⟩ := HR.out
   have hrd : rd xs (j : Int) = (j : Int) := by rw [rd_lt hj]; exact (List.getElem?_eq_some_iff.1 he).2
   rw [hrd] at hcj
   clear hrd he HR H0
   go_wp2
   go_ret
   exact ⟨rfl, rfl⟩
  | succ k1 =>
   obtain ⟨q, he, hne, hq⟩ := HR.out
   have hrd : rd xs (j : Int) = (q : Int) := by rw [rd_lt hj]; exact (List.getElem?_eq_some_iff.1 he).2
   rw [hrd] at hcj
   have c1 : ((q : Int) == (j : Int)) = false := by rw [beq_eq_false_iff_ne]; omega
   have c2 : (!((q : Int) == (j : Int))) = true := by rw [c1]; rfl
   have HQ := Aside0.mk hq
   clear hrd he HR H0 hq hne
   go_wp2
   go_roundg k1
   case measure => omega
   case rel => exact ⟨q, rfl, HQ, rfl⟩
def joinL (xs : List Int) (ra rb : Nat) : List Int := if ra > rb then xs.set ra (rb : Int) else xs.set rb (ra : Int)
theorem joinL_gt {ra rb : Nat} (h : ra > rb) (xs : List Int) : joinL xs ra rb = xs.set ra (rb : Int) := if_pos h
theorem joinL_le {ra rb : Nat} (h : ¬ ra > rb) (xs : List Int) : joinL xs ra rb = xs.set rb (ra : Int) := if_neg h
theorem joinL_length (xs : List Int) (ra rb : Nat) : (joinL xs ra rb).length = xs.length := by unfold joinL; split <;> exact List.length_set
def Others (w w' : World) : Prop := ∀ (ga : Nat) (cs : Array Value) (t : Nat), t ≠ 3 → w.heap[ga]? = some (.cells cs t (0, 0)) → w'.heap[ga]? = some (.cells cs t (0, 0))
theorem Jn.others {w : World} {b g u n cap : Nat} {xs : List Int} (h : Jn w b g xs) (hg : w.cell? ⟨g, 0, none⟩ = some (.slice (some ⟨u, 0, none⟩) n cap)) (j : Nat) (x : Value) : Others w (w.setCell ⟨u, j, none⟩ x) := by
 obtain ⟨v, h1, h2, h3⟩ := h
 have hv : v = .slice (some ⟨u, 0, none⟩) n cap := by
  have h4 : w.cell? ⟨g, 0, none⟩ = some v := by rw [blk_cell h1]; rfl
  exact Option.some.inj (h4.symm.trans hg)
 subst hv
 obtain ⟨cells, hc⟩ := own_typed h3 u rfl
 intro ga cs t ht hga
 exact blk_far hga (blk_ne hga hc ht) x
set_option maxHeartbeats 8000000 in
set_option maxRecDepth 100000 in
theorem join_calls2 (g : Nat) (xs : List Int) (a b ra rb n m : Nat) (w0 w : World) (hB : Below w0.heap.size w0 w) (hJ : Jn w w0.heap.size g xs) (ha : rch xs n a ra) (hb : rch xs m b rb) (hl : xs.length ≤ 1048576) :
  Calls Try.prog 71 #[.pointer (some ⟨g, 0, none⟩), .int .i64 (a : Int), .int .i64 (b : Int)] w fun e w' => e = .returned (.tuple #[]) ∧ Jn w' w0.heap.size g (joinL xs ra rb) ∧ Below w0.heap.size w0 w' ∧ Others w w' := by
 have HJ := Aside0.mk hJ
 have HA := Aside0.mk ha
 have HBB := Aside0.mk hb
 have HB := Aside0.mk hB
 have hra := rch_end ha
 have hrb := rch_end hb
 have hral : ra < xs.length := (List.getElem?_eq_some_iff.1 hra).1
 have hrbl : rb < xs.length := (List.getElem?_eq_some_iff.1 hrb).1
 obtain ⟨u, cap, hbu, hgu, hg, hc, hst⟩ := hJ.laid (by omega)
 have HOT := Aside0.mk (hJ.others hg)
 have HC := Aside0.mk hc
 have HS := Aside0.mk hst
 have HU := Aside0.mk hbu
 clear hJ ha hb hB hra hrb hc hst hbu
 have HL : ((xs.length : Nat) : Int) ≤ 1048576 := by omega
 go_enter Try.func71, Try.ntmps71
 go_wp2_with fail
 go_at_call 79
 refine (top_calls g xs _ a ra n _ HJ.out HA.out hl).mono ?_
 rintro e w1 ⟨rfl, hw⟩
 obtain rfl := hw.symm
 go_wp2_with fail
 go_at_call 79
 refine (top_calls g xs _ b rb m _ HJ.out HBB.out hl).mono ?_
 rintro e w2 ⟨rfl, hw⟩
 obtain rfl := hw.symm
 by_cases hlt : ra > rb
 ·
  have c1 : decide (rb < ra) = true := decide_eq_true (by omega)
  have hcu := HC.out ra hral
  have hx0 : (0 : Int) ≤ (ra : Int) := by omega
  have hx1 : (ra : Int) < (xs.length : Int) := by omega
  have E := Aside0.mk (joinL_gt hlt xs)
  have F := Aside0.mk hral
  clear hlt
  go_wp2
  go_end0
  exact ⟨rfl, by rw [E.out]; exact HS.out ra _ F.out, below_set HB.out HU.out, HOT.out _ _⟩
 ·
  have c1 : decide (rb < ra) = false := decide_eq_false (by omega)
  have hcu := HC.out rb hrbl
  have hx0 : (0 : Int) ≤ (rb : Int) := by omega
  have hx1 : (rb : Int) < (xs.length : Int) := by omega
  have E := Aside0.mk (joinL_le hlt xs)
  have F := Aside0.mk hrbl
  clear hlt
  go_wp2
  go_end0
  exact ⟨rfl, by rw [E.out]; exact HS.out rb _ F.out, below_set HB.out HU.out, HOT.out _ _⟩
theorem join_calls (g : Nat) (xs : List Int) (a b ra rb n m : Nat) (w0 w : World) (hB : Below w0.heap.size w0 w) (hJ : Jn w w0.heap.size g xs) (ha : rch xs n a ra) (hb : rch xs m b rb) (hl : xs.length ≤ 1048576) :
  Calls Try.prog 71 #[.pointer (some ⟨g, 0, none⟩), .int .i64 (a : Int), .int .i64 (b : Int)] w fun e w' => e = .returned (.tuple #[]) ∧ Jn w' w0.heap.size g (joinL xs ra rb) ∧ Below w0.heap.size w0 w' :=
 (join_calls2 g xs a b ra rb n m w0 w hB hJ ha hb hl).mono fun _ _ h => ⟨h.1, h.2.1, h.2.2.1⟩
theorem Jn.far {w w1 : World} {b g : Nat} {xs : List Int} (h : Jn w b g xs) (hm : ∀ k, b ≤ k → w1.heap[k]? = w.heap[k]?) : Jn w1 b g xs := by
 obtain ⟨v, h1, h2, h3⟩ := h
 exact ⟨v, (hm g h2).trans h1, h2, own_move h3 (fun k hk => hm k (own_base h3 k hk))⟩
theorem Jn.away {w : World} {b g ga t : Nat} {cs : Array Value} {xs : List Int} (h : Jn w b g xs) (ha : w.heap[ga]? = some (.cells cs t (0, 0))) (ht : t ≠ 3 ∧ t ≠ 75) (j : Nat) (x : Value) : Jn (w.setCell ⟨ga, j, none⟩ x) b g xs := by
 obtain ⟨v, h1, h2, h3⟩ := h
 exact ⟨v, blk_far h1 (blk_ne h1 ha (fun e => ht.2 e.symm)) x, h2, own_setCell h3 (own_ne h3 ha (fun e => ht.1 e.symm)) x⟩
def ownsTo (xs : List Int) (k : Nat) : Nat := (List.range k).countP (fun i : Nat => decide (xs[i]? = some (i : Int)))
theorem ownsTo_succ (xs : List Int) (k : Nat) : ownsTo xs (k + 1) = ownsTo xs k + if xs[k]? = some (k : Int) then 1 else 0 := by
 unfold ownsTo
 rw [List.range_succ, List.countP_append, List.countP_cons, List.countP_nil, Nat.zero_add]
 by_cases h : xs[k]? = some (k : Int) <;> simp [h]
theorem ownsTo_le (xs : List Int) (k : Nat) : ownsTo xs k ≤ k := by
 have := List.countP_le_length (p := fun i : Nat => decide (xs[i]? = some (i : Int))) (l := List.range k)
 rw [List.length_range] at this
 exact this
set_option maxHeartbeats 8000000 in
set_option maxRecDepth 100000 in
theorem count_calls (g : Nat) (xs : List Int) (b : Nat) (w : World) (hJ : Jn w b g xs) (hl : xs.length ≤ 1048576) :
  Calls Try.prog 72 #[.pointer (some ⟨g, 0, none⟩)] w fun e w' => e = .returned (.int .i64 ((ownsTo xs xs.length : Nat) : Int)) ∧ w' = w := by
 have HJ := Aside0.mk hJ
 obtain ⟨v, h1, h2, h3⟩ := hJ
 obtain ⟨A, c, rfl⟩ := own_slice h3
 have hg : w.cell? ⟨g, 0, none⟩ = some (.slice A xs.length c) := by rw [blk_cell h1]; rfl
 clear h1 h2 h3
 have HL : ((xs.length : Nat) : Int) ≤ 1048576 := by omega
 have hsz : xs.length ≤ 1048576 := hl
 go_enter Try.func72, Try.ntmps72
 go_wp2
 go_loopg [3, 11] xs.length (fun gk v3 v11 w' => ∃ k : Nat, k + gk = xs.length ∧ v3 = .int .i64 ((ownsTo xs k : Nat) : Int) ∧ v11 = .int .i64 (k : Int) ∧ w = w')
 case atStart => exact ⟨0, by omega, rfl, rfl, rfl⟩
 case round =>
  obtain ⟨k, hk, rfl, rfl, rfl⟩ := hrel
  cases gk with
  | zero =>
   obtain rfl : k = xs.length := by omega
   go_wp2
   go_ret
   exact ⟨rfl, rfl⟩
  | succ q =>
   have hlt : k < xs.length := by omega
   obtain ⟨u, cap, _, _, hg2, hc, _⟩ := HJ.out.laid (by omega)
   obtain ⟨rfl, rfl⟩ : A = some ⟨u, 0, none⟩ ∧ c = cap := by
    have := hg.symm.trans hg2
    injection this with this
    injection this with e1 e2 e3
    exact ⟨e1, e3⟩
   have hck := (hc k hlt).1
   clear hc hg2
   have hz := ownsTo_succ xs k
   have hzl := ownsTo_le xs k
   have c1 : decide (k < xs.length) = true := decide_eq_true hlt
   have hk0 : (0 : Int) ≤ (k : Int) := by omega
   have hk1 : (k : Int) < (xs.length : Int) := by omega
   by_cases hr : xs[k]? = some (k : Int)
   ·
    rw [if_pos hr] at hz
    have hrd : rd xs (k : Int) = (k : Int) := by rw [rd_lt hlt]; exact (List.getElem?_eq_some_iff.1 hr).2
    rw [hrd] at hck
    have HZ := Aside0.mk hz
    clear hrd hr hz
    go_wp2
    go_roundg q
    case measure => omega
    case rel => exact ⟨k + 1, by omega, by rw [HZ.out]; go_num, by go_num, rfl⟩
   ·
    rw [if_neg hr] at hz
    have hrd : rd xs (k : Int) ≠ (k : Int) := by rw [rd_lt hlt]; intro e; exact hr (by rw [List.getElem?_eq_getElem hlt, e])
    have c2 : ((k : Int) == rd xs (k : Int)) = false := by rw [beq_eq_false_iff_ne]; exact fun e => hrd e.symm
    have HZ := Aside0.mk hz
    clear hrd hr hz
    go_wp2
    go_roundg q
    case measure => omega
    case rel => exact ⟨k + 1, by omega, by rw [HZ.out]; rfl, by go_num, rfl⟩
theorem info3 : (Try.prog.info? 3).map (fun i => (i.zero, i.size, i.bytes)) = some (some (.int .i64 0), 1, 8) := by kernel_rfl
def iota (n : Nat) : List Int := (List.range n).map fun i : Nat => (i : Int)
theorem iota_length (n : Nat) : (iota n).length = n := by simp [iota]
theorem iota_succ (n : Nat) : iota (n + 1) = iota n ++ [(n : Int)] := by simp [iota, List.range_succ]
set_option maxHeartbeats 8000000 in
set_option maxRecDepth 100000 in
theorem new_calls (n : Nat) (w : World) (hn : n ≤ 1048576) :
  Calls Try.prog 69 #[.int .i64 (n : Int)] w fun e w' => e = .returned (.pointer (some ⟨w.heap.size, 0, none⟩)) ∧ Jn w' w.heap.size w.heap.size (iota n) ∧ Below w.heap.size w w' := by
 go_enter Try.func69, Try.ntmps69
 go_wp2
 go_loopg [4, 8] n (fun gk v4 v8 w' => ∃ k : Nat, k + gk = n ∧ v8 = .int .i64 (k : Int) ∧ Aside0 (Jn w' w.heap.size w.heap.size (iota k)) ∧ Aside0 (Below w.heap.size w w'))
 case atStart => exact ⟨0, by omega, rfl, ⟨⟨_, blk_new w _, Nat.le_refl _, own_nil _ _ _ _⟩⟩, ⟨below_alloc (Below.refl _ _) _⟩⟩
 case round =>
  obtain ⟨k, hk, rfl, HJ, HB⟩ := hrel
  cases gk with
  | zero =>
   obtain rfl : k = n := by omega
   go_wp2
   go_ret
   exact ⟨rfl, HJ.out, HB.out⟩
  | succ q =>
   have c1 : decide (k < n) = true := decide_eq_true (by omega)
   obtain ⟨v, h1, h2, h3⟩ := HJ.out
   have hg : wr.cell? ⟨w.heap.size, 0, none⟩ = some v := by rw [blk_cell h1]; rfl
   have hne := own_ne h3 h1 (by decide)
   have H1 := Aside0.mk h1
   have H3 := Aside0.mk h3
   have HNE := Aside0.mk hne
   have HIL := Aside0.mk (iota_length k)
   have HN := Aside0.mk hk
   have hkn : k ≤ 1048576 := by omega
   have HSZ := Aside0.mk (below_size HB.out)
   clear h1 h2 h3 hne HJ hk
   go_wp2_with ((with_reducible refine gate_builtin (b := .append) (xs := #[.tmp 15, .tmp 17]) rfl ?_); at_builtin; refine print_append_of (w0 := w) (Value.int .i64) w.heap.size rfl (.tmp 15) (.tmp 17) 27 3 (.int .i64 0) 8 rfl Try.underlying27 info3 rfl (by decide) v (iota k) (k : Int) rfl rfl rfl ?aO ?aB ?aS ?aL ?_; (case aO => exact H3.out); (case aB => exact HB.out); (case aS => exact HSZ.out); (case aL => rw [HIL.out]; omega); intro v1 w1 hown hb hgr hat; obtain ⟨A1, cap1, rfl⟩ := own_slice hown; have hb1 := blk_grown H1.out hgr HNE.out; have hg1 : w1.cell? ⟨w.heap.size, 0, none⟩ = some v := (by rw [blk_cell hb1]; rfl); have hf1 : w1.frozen? ⟨w.heap.size, 0, none⟩ = false := blk_frozen hb1 0; have HO := Aside0.mk hown; have HB1 := Aside0.mk hb; have HW1 := Aside0.mk hb1; clear hown hb hgr hat hb1)
   go_roundg q
   case measure => omega
   case rel =>
    have hk := HN.out
    have hne1 := own_ne HO.out HW1.out (by decide)
    have he : iota k ++ [(k : Int)] = iota (k + 1) := (iota_succ k).symm
    have hl : (iota k ++ [(k : Int)]).length = (iota k).length + 1 := List.length_append
    have h5 := own_setCell HO.out (p := ⟨w.heap.size, 0, none⟩) hne1 (.slice A1 ((iota k).length + 1) cap1)
    rw [hl, he] at h5
    have h6 : (iota k).length + 1 = (iota (k + 1)).length := by rw [iota_length, iota_length]
    refine ⟨k + 1, by omega, by go_num, ⟨⟨.slice A1 ((iota k).length + 1) cap1, ?_, Nat.le_refl _, ?_⟩⟩, ⟨below_set HB1.out (Nat.le_refl _)⟩⟩
    ·
     rw [blk_set HW1.out]; rfl
    ·
     rw [← h6]; exact h5
def Up (w : World) (b : Nat) (v : Value) (xs : List Int) : Prop := w.ownsRow b 3 1 v xs.length (encs (Value.int .i64) xs)
theorem Up.below {w w1 : World} {b : Nat} {v : Value} {xs : List Int} (h : Up w b v xs) (hb : Below w.heap.size w w1) : Up w1 b v xs := pw_own_below h hb
theorem Up.C {w : World} {b : Nat} {A : Option Addr} {n c : Nat} {xs : List Int} (h : Up w b (.slice A n c) xs) : (Kd.int .i64).C w A xs.length xs ∧ xs.length ≤ c ∧ n = xs.length := by
 have hn : n = xs.length := by
  obtain ⟨A', c', e⟩ := own_slice h
  injection e
 subst hn
 exact ⟨Kd.C_of_reads (own_reads_of' (d := (0 : Int)) h), own_le h, rfl⟩
theorem Up.laid {w : World} {b : Nat} {v : Value} {xs : List Int} (h : Up w b v xs) (hp : 0 < xs.length) : ∃ u cap, v = .slice (some ⟨u, 0, none⟩) xs.length cap ∧ b ≤ u ∧ xs.length ≤ cap ∧
  (∀ j : Nat, j < xs.length → w.cell? ⟨u, j, none⟩ = some (.int .i64 (rd xs j)) ∧ w.frozen? ⟨u, j, none⟩ = false) ∧ (∀ (j : Nat) (x : Int), j < xs.length → Up (w.setCell ⟨u, j, none⟩ (.int .i64 x)) b v (xs.set j x)) := by
 obtain ⟨u, cap, rfl, hb, hc⟩ := h.form hp
 refine ⟨u, cap, rfl, hb, own_le h, fun j hj => ?_, fun j x hj => ?_⟩
 ·
  exact own_at_of (d := (0 : Int)) h (j : Int) (by omega) (by omega)
 ·
  have := (own_store_of h (j : Int) x).1
  rw [Int.toNat_natCast] at this
  unfold Up
  rw [List.length_set]; exact this
set_option maxHeartbeats 8000000 in
set_option maxRecDepth 100000 in
theorem find_calls (A : Option Addr) (N c : Nat) (xs : List Int) (hN : xs.length = N) (i r n : Nat) (w : World) (hR : (Kd.int .i64).C w A xs.length xs) (hc : xs.length ≤ c) (h : rch xs n i r) (hl : xs.length ≤ 1048576) :
  Calls Try.prog 67 #[.slice A N c, .int .i64 (i : Int)] w fun e w' => e = .returned (.int .i64 (r : Int)) ∧ w' = w := by
 subst hN
 have hi := rch_lt h
 obtain ⟨ad, hA, _⟩ := Kd.at_int hR (0 : Int) (by omega) (by omega)
 subst hA
 have HC := Aside0.mk hR
 have H0 := Aside0.mk h
 clear h hR
 have HL : ((xs.length : Nat) : Int) ≤ 1048576 := by omega
 go_enter Try.func67, Try.ntmps67
 go_wp2
 go_loopg [1] n (fun k v1 w' => ∃ j : Nat, v1 = .int .i64 (j : Int) ∧ Aside0 (rch xs k j r) ∧ w = w')
 case atStart => exact ⟨i, rfl, H0, rfl⟩
 case round =>
  obtain ⟨j, rfl, HR, rfl⟩ := hrel
  have hj := rch_lt HR.out
  obtain ⟨ad2, h2, hcj⟩ := Kd.at_int HC.out (j : Int) (by omega) (by omega)
  cases h2
  rw [Int.toNat_natCast] at hcj
  have hj0 : (0 : Int) ≤ (j : Int) := by omega
  have hjl : (j : Int) < (xs.length : Int) := by omega
  cases gk with
  | zero =>
   obtain ⟨rfl, he⟩ := HR.out
   have hrd : rd xs (j : Int) = (j : Int) := by rw [rd_lt hj]; exact (List.getElem?_eq_some_iff.1 he).2
   rw [hrd] at hcj
   clear hrd he HR H0
   go_wp2
   go_ret
   exact ⟨rfl, rfl⟩
  | succ k1 =>
   obtain ⟨q, he, hne, hq⟩ := HR.out
   have hrd : rd xs (j : Int) = (q : Int) := by rw [rd_lt hj]; exact (List.getElem?_eq_some_iff.1 he).2
   rw [hrd] at hcj
   have c1 : ((q : Int) == (j : Int)) = false := by rw [beq_eq_false_iff_ne]; omega
   have c2 : (!((q : Int) == (j : Int))) = true := by rw [c1]; rfl
   have HQ := Aside0.mk hq
   clear hrd he HR H0 hq hne
   go_wp2
   go_roundg k1
   case measure => omega
   case rel => exact ⟨q, rfl, HQ, rfl⟩
end Go.Proofs.Ytfknffpfjoalkaa.Joi
