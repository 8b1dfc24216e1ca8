/- The corners of a gluing's polygons and their classes (starts, corners of the program), by hand. Conditions: at most four polygons of at most 24 letters each, none empty. -/
import Derived.Test.YtfknffpfjoalkaaQFnGluingsx0
import Derived.Test.YtfknffpfjoalkaaQFnGluingsx1
import Derived.Test.YtfknffpfjoalkaaQFnGluingsx2
import Derived.Test.YtfknffpfjoalkaaQFnGluingsx3
import Derived.Test.YtfknffpfjoalkaaQFnGluingsx4
import Derived.Test.YtfknffpfjoalkaaQFnGluingsx5
import Derived.Test.YtfknffpfjoalkaaQFnGluingsx6
import Derived.Test.YtfknffpfjoalkaaQFnGluingsx7
import Derived.Test.YtfknffpfjoalkaaQFnGluingsx8
import Derived.Test.YtfknffpfjoalkaaQFnGluingsx9
import Derived.Test.YtfknffpfjoalkaaQFnGluingsx10
import Derived.Test.YtfknffpfjoalkaaQFnGluingsx11
import Derived.Test.YtfknffpfjoalkaaQFnGluingsx12
import Derived.Test.YtfknffpfjoalkaaQFnGluingsx13
import Derived.Test.YtfknffpfjoalkaaQFnGluingsx14
import Derived.Test.YtfknffpfjoalkaaVer
import Derived.Deep.RegionHeld3
import Derived.IntWalk
import Derived.StillTailTactics
import Derived.Test.YtfknffpfjoalkaaZip
namespace Go.Proofs.Ytfknffpfjoalkaa.QFnGluings
open Go.Proofs.Ytfknffpfjoalkaa.Zip Go.RowKit Go.Proofs.YtfknffpfjoalkaaW.PrintWords Go.Proofs.YtfknffpfjoalkaaW.PrintLast Go.Proofs.YtfknffpfjoalkaaW.PrintMore Go.Proofs.Ytfknffpfjoalkaa.Com Go.Proofs.Ytfknffpfjoalkaa.Joi Go.Proofs.Ytfknffpfjoalkaa.Kl
attribute [local go_sem] max2_int min2_int max_two min_two max_three min_three max_four min_four
set_option linter.unusedVariables false
set_option linter.unusedSimpArgs false
def fsts (g : List (List Int)) (k : Nat) : List Int := (List.range k).map fun p : Nat => ((fst g p : Nat) : Int)
theorem fsts_succ (g : List (List Int)) (k : Nat) : fsts g (k + 1) = fsts g k ++ [((fst g k : Nat) : Int)] := by simp [fsts, List.range_succ]
theorem fsts_len (g : List (List Int)) (k : Nat) : (fsts g k).length = k := by simp [fsts]
theorem fsts_rd (g : List (List Int)) {k p : Nat} (h : p < k) : rd (fsts g k) (p : Int) = ((fst g p : Nat) : Int) := by
 rw [rd_lt (by rw [fsts_len]; exact h)]
 simp [fsts]
theorem fst_bd {g : List (List Int)} (h : CorOk g) {p : Nat} (hp : p ≤ g.length) : fst g p ≤ 96 := Nat.le_trans (fst_mono (Nat.le_refl _) hp) h.2.2
set_option maxHeartbeats 8000000 in
set_option maxRecDepth 100000 in
theorem starts_calls (A0 : Option Addr) (c0 : Nat) (l0 : List (List Int)) (w : World) (hr0 : Kd.C (Kd.slice 3 (Kd.int .i64)) w A0 l0.length l0) (hc0 : l0.length ≤ c0) (hm : CorOk l0) :
  Calls Try.prog 88 #[.slice A0 l0.length c0] w fun e w' => ∃ v0_ : Value, e = .returned (.tuple #[v0_, .int .i64 ((sidesN l0 : Nat) : Int)]) ∧ Up w' w.heap.size v0_ (fsts l0 l0.length) ∧ Below w.heap.size w w' := by
 have HR0 := Aside0.mk hr0
 have HC0 := Aside0.mk hc0
 have HM := Aside0.mk hm
 have h4 : l0.length ≤ 4 := hm.1
 clear hr0 hc0 hm
 go_enter Try.func88, Try.ntmps88
 go_wp2
 go_loopg [4, 5, 11] l0.length (fun gk v4 v5 v11 w' => ∃ (k : Nat) (v : Value), k + gk = l0.length ∧ v = v4 ∧ v5 = .int .i64 ((fst l0 k : Nat) : Int) ∧ v11 = .int .i64 (k : Int) ∧ Aside0 (Up w' w.heap.size v (fsts l0 k)) ∧ Aside0 (Below w.heap.size w w'))
 case atStart => exact ⟨0, _, by omega, rfl, rfl, rfl, ⟨own_lit_of (enc := Value.int .i64) w w.heap.size 3 ([] : List Int) (Nat.le_refl _) (by decide)⟩, ⟨below_alloc (Below.refl _ _) _⟩⟩
 case round =>
  obtain ⟨k, v, hk, rfl, rfl, rfl, HU, HB⟩ := hrel
  cases gk with
  | zero =>
   obtain rfl : k = l0.length := by omega
   have c1 : decide (l0.length < l0.length) = false := decide_eq_false (by omega)
   clear hk
   go_wp2
   go_ret2
   exact ⟨_, rfl, HU.out, HB.out⟩
  | succ q =>
   have HK := Aside0.mk hk
   have hlt : k < l0.length := by omega
   have c1 : decide (k < l0.length) = true := decide_eq_true hlt
   obtain ⟨ad, Ap, cp, hA, hcell, hcp, hCp⟩ := at_row (Kd.C_below HR0.out HB.out) k hlt
   subst hA
   have hF := Aside0.mk (show fst l0 (k + 1) = fst l0 k + (l0.getD k []).length from fst_succ hlt)
   have hb1 : ((fst l0 k : Nat) : Int) ≤ 96 := by have := fst_bd HM.out (Nat.le_of_lt hlt); omega
   have hb2 : ((l0.getD k []).length : Int) ≤ 24 := by have := (HM.out.2.1 k hlt).2.1; unfold row at this; omega
   have HFL := Aside0.mk (fsts_len l0 k)
   generalize l0.getD k [] = rp at *
   have HSZ := Aside0.mk (below_size HB.out)
   have hk0 : (0 : Int) ≤ (k : Int) := by omega
   have hk1 : (k : Int) < (l0.length : Int) := by omega
   clear hk
   go_wp2_with ((with_reducible refine gate_builtin (b := .append) (xs := #[.tmp 15, .tmp 17]) rfl ?_); at_builtin; refine print_append_of (w0 := w) (Value.int .i64) w.heap.size rfl (.tmp 15) (.tmp 17) 27 3 (.int .i64 0) 8 rfl Try.underlying27 Joi.info3 rfl (by decide) v (fsts l0 k) ((fst l0 k : Nat) : Int) rfl rfl rfl ?aO ?aB ?aS ?aL ?_; (case aO => exact HU.out); (case aB => exact HB.out); (case aS => exact HSZ.out); (case aL => rw [HFL.out]; omega); intro v1 w1 hown hb hgr hat; have HO := Aside0.mk hown; have HB1 := Aside0.mk hb; clear hown hb hgr hat)
   go_roundg q
   case measure => omega
   case rel => exact ⟨k + 1, _, by have := HK.out; omega, rfl, by rw [hF.out]; first | rfl | go_num, by go_num, ⟨by rw [fsts_succ]; exact HO.out⟩, HB1⟩
def CorPost (l0 : List (List Int)) (w : World) (e : Ending) (w' : World) : Prop := ∃ (b g : Nat) (xs ats : List Int), e = .returned (.tuple #[.pointer (some ⟨g, 0, none⟩), .agg (encs (Value.int .i64) ats).toArray]) ∧ w.heap.size ≤ b ∧ Jn w' b g xs ∧ CInv l0 ats xs (fun q j k => True) ∧ Below w.heap.size w w'
def AtB (w : World) (ga : Nat) (ats : List Int) : Prop := w.heap[ga]? = some (.cells (encs (Value.int .i64) ats).toArray 63 (0, 0))
theorem AtB.cell {w : World} {ga : Nat} {ats : List Int} (h : AtB w ga ats) (j : Nat) (hj : j < ats.length) : w.cell? ⟨ga, j, none⟩ = some (.int .i64 (rd ats (j : Int))) ∧ w.frozen? ⟨ga, j, none⟩ = false := by
 refine ⟨?_, blk_frozen h j⟩
 rw [blk_cell h, List.getElem?_toArray]
 exact encs_get (d := (0 : Int)) ats j hj
theorem AtB.set {w : World} {ga : Nat} {ats : List Int} (h : AtB w ga ats) (j : Nat) (x : Int) : AtB (w.setCell ⟨ga, j, none⟩ (.int .i64 x)) ga (ats.set j x) := by
 unfold AtB
 rw [blk_set h j]
 congr 2
 rw [List.setIfInBounds_toArray]
 simp [encs, List.map_set]
theorem AtB.below {w w1 : World} {ga : Nat} {ats : List Int} (h : AtB w ga ats) (hb : Below w.heap.size w w1) : AtB w1 ga ats := blk_below h hb
theorem below_setCells {w : World} {g : Nat} : ∀ {W : World}, Below w.heap.size w W → w.heap.size ≤ g → ∀ (vs : List Value) (o : Nat), Below w.heap.size w (W.setCells g o vs) := by
 intro W h hg vs
 induction vs generalizing W with
 | nil => intro o; exact h
 | cons v r ih => intro o; rw [World.setCells]; exact ih (below_set h hg) (o + 1)
theorem still_load {P : Program} {ops : Array Oper} {w : World} {Q : Act → Prop} {a : Act} {o : Oper} {rest : List Oper} (ty : TypeId) (x : Operand) (ho : o.op = .load ty x) (hgd : Region.wanted o (yielded ops a.tmps) = true)
  (g : Nat) (hx : a.eval x = .pointer (some ⟨g, 0, none⟩)) (t : TypeId) (cs : Array Value) (fr : Nat × Nat) (d : TypeDesc) (hg : w.heap[g]? = some (.cells cs t fr))
  (hu : P.underlying ty = some d) (hd : (match d with | .struct _ | .array _ _ => true | _ => false) = true) (hi : (P.info? ty).map (·.size) = some cs.size)
  (h : wpStill P ops w Q rest (a.put o.dst (.agg cs))) : wpStill P ops w Q (o :: rest) a := by
 refine wpStill_step (fun K hK => ?_)
 rw [if_pos hgd]
 unfold Oper.still execOp
 simp only [ho, hx, Instr.loadAt, Instr.sureAddr, Sem.run_bind, Sem.run_pure, Result.andThen_ok, run_loadVar_row w g t ty cs fr d hg hu hd hi]
 exact ⟨rfl, hK _ h⟩
theorem store_skip {P : Program} {w w1 : World} {t : TypeId} {v u : Value} (h : (Instr.storeAt t v u).run P w = .ok () w1) : (do Instr.storeAt t v u; pure Next.skip : Sem Next).run P w = .ok .skip w1 := by
 rw [Sem.run_bind, h]; rfl
def EndB (w : World) (ge : Nat) (g : List (List Int)) (p i : Nat) : Prop := w.heap[ge]? = some (.cells #[.int .i64 ((endC g p i 0 : Nat) : Int), .int .i64 ((endC g p i 1 : Nat) : Int)] 62 (0, 0))
theorem EndB.cell {w : World} {ge : Nat} {g : List (List Int)} {p i : Nat} (h : EndB w ge g p i) (k : Nat) (hk : k < 2) : w.cell? ⟨ge, k, none⟩ = some (.int .i64 ((endC g p i k : Nat) : Int)) := by
 rw [blk_cell h]
 rcases (show k = 0 ∨ k = 1 by omega) with rfl | rfl <;> rfl
set_option maxHeartbeats 8000000 in
set_option maxRecDepth 100000 in
theorem size_calls (x : Int) (y : Nat) (hy : x.natAbs = y) (w : World) (h1 : -8 ≤ x) (h2 : x ≤ 8) :
  Calls Try.prog 61 #[.int .i64 x] w fun e w' => e = .returned (.int .i64 (y : Int)) ∧ w' = w := by
 by_cases hx : x < 0
 ·
  have E := Aside0.mk (show -x = (y : Int) by omega)
  have c1 : x < -x := by omega
  clear hy
  go_enter Try.func61, Try.ntmps61
  go_wp2
  go_ret
  exact ⟨by first | (rw [← E.out]; rfl) | (simp [c1, ← E.out]), rfl⟩
 ·
  have E := Aside0.mk (show x = (y : Int) by omega)
  have c1 : ¬ x < -x := by omega
  clear hy
  go_enter Try.func61, Try.ntmps61
  go_wp2
  go_ret
  exact ⟨by first | (rw [← E.out]; rfl) | (simp [c1, ← E.out]), rfl⟩
def ini (k : Nat) : List Int := (List.range 18).map fun j => if j < k * 2 then -1 else 0
theorem ini_len (k : Nat) : (ini k).length = 18 := by simp [ini]
theorem ini_succ (k : Nat) : ini (k + 1) = ((ini k).set (k * 2) (-1)).set (k * 2 + 1) (-1) := by
 refine List.ext_getElem (by simp [ini]) fun i h1 h2 => ?_
 simp only [ini, List.getElem_set, List.getElem_map, List.getElem_range]
 by_cases e1 : k * 2 + 1 = i
 ·
  rw [if_pos e1, if_pos (by omega)]
 ·
  rw [if_neg e1]
  by_cases e2 : k * 2 = i
  ·
   rw [if_pos e2, if_pos (by omega)]
  ·
   rw [if_neg e2]
   by_cases e3 : i < k * 2
   ·
    rw [if_pos e3, if_pos (by omega)]
   ·
    rw [if_neg e3, if_neg (by omega)]
set_option maxHeartbeats 16000000 in
set_option maxRecDepth 100000 in
theorem corners_calls (A0 : Option Addr) (c0 : Nat) (l0 : List (List Int)) (w : World) (hr0 : Kd.C (Kd.slice 3 (Kd.int .i64)) w A0 l0.length l0) (hc0 : l0.length ≤ c0) (hm : CorOk l0) :
  Calls Try.prog 74 #[.slice A0 l0.length c0] w (CorPost l0 w) := by
 have HR0 := Aside0.mk hr0
 have HC0 := Aside0.mk hc0
 have HM := Aside0.mk hm
 have h4 : l0.length ≤ 4 := hm.1
 clear hr0 hc0 hm
 go_enter Try.func74, Try.ntmps74
 go_wp2_with fail
 go_at_call 88
 refine (starts_calls A0 c0 l0 _ (Kd.C_below HR0.out (below_alloc (Below.refl _ _) _)) HC0.out HM.out).mono ?_
 rintro e w1 ⟨v1, rfl, hU, hb⟩
 have HU := Aside0.mk hU
 have HB0 := Aside0.mk (below_step (below_alloc (Below.refl w.heap.size w) _) hb)
 have HRB : Aside0 (∃ z18 : Array Value, z18.size = 18 ∧ w1.heap[w.heap.size]? = some (.cells z18 63 (0, 0))) := ⟨⟨_, rfl, blk_below (blk_new w _) hb⟩⟩
 have HLT := Aside0.mk (show w.heap.size < w1.heap.size by obtain ⟨z, _, h⟩ := HRB.out; exact blk_lt h)
 clear hU hb
 go_wp2_with fail
 go_at_call 69
 refine (new_calls (sidesN l0) w1 (by have := HM.out.2.2; omega)).mono ?_
 rintro e w2 ⟨rfl, hJ, hb⟩
 have HJ := Aside0.mk hJ
 have HB2 := Aside0.mk hb
 clear hJ hb
 go_wp2
 have HAT : Aside0 (AtB (w2.alloc (.cells #[.int .i64 0, .int .i64 0, .int .i64 0, .int .i64 0, .int .i64 0, .int .i64 0, .int .i64 0, .int .i64 0, .int .i64 0, .int .i64 0, .int .i64 0, .int .i64 0, .int .i64 0, .int .i64 0, .int .i64 0, .int .i64 0, .int .i64 0, .int .i64 0] 63)) w2.heap.size (ini 0)) := ⟨blk_new w2 _⟩
 have HW3 := Aside0.mk (below_alloc (Below.refl w2.heap.size w2) (.cells #[.int .i64 0, .int .i64 0, .int .i64 0, .int .i64 0, .int .i64 0, .int .i64 0, .int .i64 0, .int .i64 0, .int .i64 0, .int .i64 0, .int .i64 0, .int .i64 0, .int .i64 0, .int .i64 0, .int .i64 0, .int .i64 0, .int .i64 0, .int .i64 0] 63))
 generalize (w2.alloc (.cells #[.int .i64 0, .int .i64 0, .int .i64 0, .int .i64 0, .int .i64 0, .int .i64 0, .int .i64 0, .int .i64 0, .int .i64 0, .int .i64 0, .int .i64 0, .int .i64 0, .int .i64 0, .int .i64 0, .int .i64 0, .int .i64 0, .int .i64 0, .int .i64 0] 63)) = w3 at HAT HW3 ⊢
 go_loopg [8, 23] 9 (fun gk v8 v23 w' => ∃ k : Nat, k + gk = 9 ∧ v23 = .int .i64 (k : Int) ∧ Aside0 (AtB w' w2.heap.size (ini k)) ∧ Aside0 (Below w2.heap.size w2 w'))
 case atStart => exact ⟨0, by omega, rfl, HAT, HW3⟩
 case round =>
  clear HAT HW3
  obtain ⟨k, hk, rfl, HAT, HW⟩ := hrel
  cases gk with
  | succ q =>
   have HK := Aside0.mk hk
   have hlt : (k : Int) < 9 := by omega
   have hk0 : (0 : Int) ≤ (k : Int) := by omega
   have c1 : decide ((k : Int) < 9) = true := decide_eq_true hlt
   have hcell := HAT.out.cell (k * 2) (by rw [ini_len]; omega)
   have hcell2 := HAT.out.cell (k * 2 + 1) (by rw [ini_len]; omega)
   clear hk
   go_wp2
   go_roundg q
   case measure => omega
   case rel => exact ⟨k + 1, by have := HK.out; omega, by go_num, ⟨by rw [ini_succ]; exact (HAT.out.set (k * 2) (-1)).set (k * 2 + 1) (-1)⟩, ⟨below_set (below_set HW.out (Nat.le_refl _)) (Nat.le_refl _)⟩⟩
  | zero =>
   obtain rfl : k = 9 := by omega
   clear hk
   go_wp2
   have HB2W : Aside0 (Below w1.heap.size w1 wr) := ⟨below_step HB2.out HW.out⟩
   have HJW := Aside0.mk (HJ.out.below HW.out)
   have HI0 : Aside0 (CInv l0 (ini 9) (iota (sidesN l0)) (MetN 0 0 0)) := ⟨(CInv.start l0).weaken fun q j l _ _ h => by unfold MetN at h; omega⟩
   clear HJ HW
   go_loopg [32] l0.length (fun gk v32 w' => ∃ (p : Nat) (ats xs : List Int), p + gk = l0.length ∧ v32 = .int .i64 (p : Int) ∧ Aside0 (CInv l0 ats xs (MetN p 0 0)) ∧ Aside0 (Jn w' w1.heap.size w1.heap.size xs) ∧ Aside0 (AtB w' w2.heap.size ats) ∧ Aside0 (Below w1.heap.size w1 w'))
   case atStart => exact ⟨0, ini 9, iota (sidesN l0), by omega, rfl, HI0, HJW, HAT, HB2W⟩
   case round =>
    clear HI0 HJW HAT HB2W
    obtain ⟨p, ats, xs, hk, rfl, HI, HJ, HAT, HBW⟩ := hrel
    cases gk with
    | zero =>
     obtain rfl : p = l0.length := by omega
     have c1 : decide (l0.length < l0.length) = false := decide_eq_false (by omega)
     clear hk
     go_wp2
     refine wp_region_still_tail 3 (by kernel_rfl) (by kernel_rfl) ?_
     simp only [List.take_succ_cons, List.take_zero, List.drop_succ_cons, List.drop_zero]
     change wpStill _ _ wr.drew _ _ _
     have hal : ats.length = 18 := HI.out.2.1
     have hsz : (encs (Value.int .i64) ats).toArray.size = 18 := by rw [List.size_toArray, encs_length, hal]
     still_step
     refine still_load 63 (.tmp 7) rfl rfl w2.heap.size rfl 63 (encs (Value.int .i64) ats).toArray (0, 0) _ (show wr.drew.heap[w2.heap.size]? = _ from HAT.out) Try.underlying63 rfl (by rw [hsz]; kernel_rfl) ?_
     have HSZ := Aside0.mk hsz
     clear hsz hal
     still_step
     refine wpStill_nil ?_
     change wpList _ _ _ _ _ wr.drew
     obtain ⟨z18, hz18, hres⟩ := HRB.out
     have HRW := Aside0.mk (show wr.drew.heap[w.heap.size]? = some (.cells z18 63 (0, 0)) from blk_below hres (below_drew HBW.out))
     clear hres
     refine store_event (t := 63) (p := 3) (v := .tmp 102) (w1 := wr.drew.setCells w.heap.size 0 (encs (Value.int .i64) ats)) rfl rfl rfl ?hrr ?_
     case hrr =>
      have hrun := run_store_run (P := Try.prog) (w := wr.drew) (g := w.heap.size) (o := 0) (e := 63) (cur := z18) 63 (.agg (encs (Value.int .i64) ats).toArray) (encs (Value.int .i64) ats) HRW.out (by simp [Value.cells]) (by rw [encs_length, HI.out.2.1]; kernel_rfl) (by rw [encs_length, HI.out.2.1, hz18]; decide) (by intro q hq; simp only [encs, List.mem_map] at hq; obtain ⟨z, _, rfl⟩ := hq; rfl)
      simp only [execOp, Act.eval]
      exact store_skip hrun
     intro w9 hw9
     obtain ⟨cur, hcur, _, hcl⟩ := setCells_row (encs (Value.int .i64) ats) 0 wr.drew z18 HRW.out (by rw [encs_length, HI.out.2.1, hz18]; decide)
     have hcur2 : cur = (encs (Value.int .i64) ats).toArray := by
      apply Array.toList_inj.1
      rw [hcl, List.take_zero, List.nil_append, List.drop_of_length_le (by rw [Nat.zero_add, encs_length, HI.out.2.1, Array.length_toList, hz18]; decide), List.append_nil]
     subst hcur2
     rw [← hw9] at hcur
     have HCU := Aside0.mk hcur
     have HJ9 := Aside0.mk (show Jn w9 w1.heap.size w1.heap.size xs by
      rw [hw9]
      exact HJ.out.far fun k hk => (setCells_far _ 0 (w := wr.drew) k (by have := HLT.out; omega)).trans rfl)
     have HB9 := Aside0.mk (show Below w.heap.size w w9 by
      rw [hw9]
      exact below_setCells (below_drew (below_step HB0.out HBW.out)) (Nat.le_refl _) _ _)
     clear hcur hcl hw9
     go_wp2
     refine bodyPost_ret (results_tc rfl _ _ w.heap.size 63 (encs (Value.int .i64) ats).toArray (0, 0) _ rfl HCU.out Try.underlying63 rfl (by rw [HSZ.out]; kernel_rfl)) rfl ?_
     exact ⟨w1.heap.size, w1.heap.size, xs, ats, rfl, Nat.le_of_lt HLT.out, HJ9.out, HI.out.weaken fun q j k hs _ _ => met_all q j k hs, HB9.out⟩
    | succ gp =>
     have HK := Aside0.mk hk
     have hlt : p < l0.length := by omega
     have c1 : decide (p < l0.length) = true := decide_eq_true hlt
     obtain ⟨ad, Ap, cp, hA, hcellp, hcp, hCp⟩ := at_row HR0.out p hlt
     subst hA
     have HCP := Aside0.mk hCp
     have HXP := Aside0.mk hcellp
     have HPL := Aside0.mk hcp
     have hl24 : (l0.getD p []).length ≤ 24 := (HM.out.2.1 p hlt).2.1
     generalize hRP : l0.getD p [] = rp at *
     have GRP := Aside0.mk hRP
     have hcp' := pw_cell_below (below_step HB0.out HBW.out) hcellp
     have hp0 : (0 : Int) ≤ (p : Int) := by omega
     have hp1 : (p : Int) < (l0.length : Int) := by omega
     clear hk hRP hCp hcellp hcp
     obtain ⟨wo, hwo⟩ : ∃ wo : World, wo = wr := ⟨_, rfl⟩
     subst hwo
     go_wp2
     go_loopg [39] rp.length (fun gk v39 w' => ∃ (i : Nat) (ats xs : List Int), i + gk = rp.length ∧ v39 = .int .i64 (i : Int) ∧ Aside0 (CInv l0 ats xs (MetN p i 0)) ∧ Aside0 (Jn w' w1.heap.size w1.heap.size xs) ∧ Aside0 (AtB w' w2.heap.size ats) ∧ Aside0 (Below w1.heap.size w1 w'))
     case atStart => exact ⟨0, ats, xs, by omega, rfl, HI, HJ, HAT, HBW⟩
     case round =>
      clear HI HJ HAT HBW hcp'
      obtain ⟨i, ats, xs, hk, rfl, HI, HJ, HAT, HBW⟩ := hrel
      cases gk with
      | zero =>
       obtain rfl : i = rp.length := by omega
       have c2 : decide (rp.length < rp.length) = false := decide_eq_false (by omega)
       clear hk
       go_wp2
       go_roundg gp
       case measure => omega
       case rel => exact ⟨p + 1, ats, xs, by have := HK.out; omega, by go_num, ⟨HI.out.weaken (by intro q j l hs _ h; have := met_p p q j l hs h; unfold row at this; rw [GRP.out] at this; exact this)⟩, HJ, HAT, HBW⟩
      | succ gi =>
       have HKi := Aside0.mk hk
       have hli : i < rp.length := by omega
       have c2 : decide (i < rp.length) = true := decide_eq_true hli
       have hs : Side l0 p i := ⟨hlt, by unfold row; rw [GRP.out]; exact hli⟩
       have hBT := below_step HB0.out HBW.out
       obtain ⟨adp, hAp, hcx⟩ := Kd.at_int (Kd.C_below HCP.out hBT) (i : Int) (by omega) (by omega)
       rw [Int.toNat_natCast] at hcx
       subst hAp
       have hi0 : (0 : Int) ≤ (i : Int) := by omega
       have hi1 : (i : Int) < (rp.length : Int) := by omega
       have hlx : ltr l0 p i = rd rp (i : Int) := by unfold ltr row; rw [GRP.out]
       have hx12 := ltr_ok HM.out hs
       rw [hlx] at hx12
       obtain ⟨hx1, hx2⟩ := hx12
       generalize hX : rd rp (i : Int) = x at *
       have HLX := Aside0.mk hlx
       have HS := Aside0.mk hs
       obtain ⟨uf, capf, hvf, _, _, hcf0, _⟩ := (HU.out.below HBW.out).laid (by rw [fsts_len]; omega)
       rw [fsts_len] at hvf
       have hcf := (hcf0 p (by rw [fsts_len]; exact hlt)).1
       rw [fsts_rd l0 hlt] at hcf
       subst hvf
       have hfb : fst l0 p ≤ 96 := fst_bd HM.out (Nat.le_of_lt hlt)
       have hrl : (row l0 p).length = rp.length := by unfold row; rw [GRP.out]
       clear hk hs hlx hX hcf0
       have q1 : IntKind.i64.wrap (((fst l0 p : Nat) : Int) + (i : Int)) = ((cor l0 p i : Nat) : Int) := by unfold cor; rw [IntWalk.i64_in _ (by omega)]; omega
       have q2 : IntKind.i64.wrap ((i : Int) + 1) = ((i + 1 : Nat) : Int) := by rw [IntWalk.i64_in _ (by omega)]; omega
       have q3 : Int.tmod ((i + 1 : Nat) : Int) (rp.length : Int) = (((i + 1) % rp.length : Nat) : Int) := by rw [Int.tmod_eq_emod_of_nonneg (by omega)]; omega
       have hml : (i + 1) % rp.length < rp.length := Nat.mod_lt _ (by omega)
       have hmd : ((i : Int) + 1) % (rp.length : Int) = (((i + 1) % rp.length : Nat) : Int) := by simp
       have q5 : wrap64 (((fst l0 p : Nat) : Int) + ((i : Int) + 1) % (rp.length : Int)) = ((nxc l0 p i : Nat) : Int) := by
        unfold nxc
        rw [hmd, hrl, w64 (by omega) (by omega)]
        omega
       clear hmd
       have z0 : ¬ ((rp.length : Int) = 0) := by omega
       have z1 : ((rp.length : Int) == 0) = false := by rw [beq_eq_false_iff_ne]; exact z0
       have z2 : ¬ (rp.length = 0) := by omega
       have z3 : (1 : Int) ≤ (rp.length : Int) := by omega
       by_cases hxn : x < 0
       ·
        have c4 : decide (x < 0) = true := decide_eq_true hxn
        have e0 : endC l0 p i 0 = nxc l0 p i := by unfold endC; rw [HLX.out]; rw [if_neg (by omega)]
        have e1 : endC l0 p i 1 = cor l0 p i := by unfold endC; rw [HLX.out]; rw [if_pos (by omega)]
        have E0 := Aside0.mk e0
        have E1 := Aside0.mk e1
        clear hxn e0 e1
        go_wp2
        go_region_held3 (fun w' => w'.cell? ⟨uf, p, none⟩ = some (.int .i64 ((fst l0 p : Nat) : Int))) (go_keep) (fail)
        go_wp2
        (try rw [q5])
        have HWB := Aside0.mk (below_drew (below_alloc (Below.refl wr.heap.size wr) (.cells #[.int .i64 ((nxc l0 p i : Nat) : Int), .int .i64 ((cor l0 p i : Nat) : Int)] 62)))
        have HEN : Aside0 (EndB (wr.alloc (.cells #[.int .i64 ((nxc l0 p i : Nat) : Int), .int .i64 ((cor l0 p i : Nat) : Int)] 62)).drew wr.heap.size l0 p i) := ⟨by unfold EndB; rw [E0.out, E1.out]; exact blk_drew (blk_new wr _)⟩
        generalize (wr.alloc (.cells #[.int .i64 ((nxc l0 p i : Nat) : Int), .int .i64 ((cor l0 p i : Nat) : Int)] 62)).drew = w5 at HWB HEN ⊢
        have HJ5 := Aside0.mk (HJ.out.below HWB.out)
        have HAT5 := Aside0.mk (HAT.out.below HWB.out)
        have HB5 := Aside0.mk (below_step HBW.out HWB.out)
        have HGE := Aside0.mk (below_size HBW.out)
        clear HJ HAT HBW HWB hcx hcf
        generalize wr.heap.size = ge at *
        obtain ⟨wo2, hwo2⟩ : ∃ wo2 : World, wo2 = wr := ⟨_, rfl⟩
        subst hwo2
        go_loopg [69] 2 (fun gk v69 w' => ∃ (k : Nat) (ats xs : List Int), k + gk = 2 ∧ v69 = .int .i64 (k : Int) ∧ Aside0 (CInv l0 ats xs (MetN p i k)) ∧ Aside0 (Jn w' w1.heap.size w1.heap.size xs) ∧ Aside0 (AtB w' w2.heap.size ats) ∧ Aside0 (Below w1.heap.size w1 w') ∧ Aside0 (EndB w' ge l0 p i))
        case atStart => exact ⟨0, ats, xs, by omega, rfl, HI, HJ5, HAT5, HB5, HEN⟩
        case round =>
         clear HI HJ5 HAT5 HB5 HEN
         obtain ⟨k, ats, xs, hk, rfl, HI, HJ, HAT, HBW, HEN⟩ := hrel
         cases gk with
         | zero =>
          obtain rfl : k = 2 := by omega
          clear hk
          go_wp2
          go_roundg gi
          case measure => omega
          case rel => exact ⟨i + 1, ats, xs, by have := HKi.out; omega, by go_num, ⟨HI.out.weaken fun q j l _ hl h => met_i p i q j l hl h⟩, HJ, HAT, HBW⟩
         | succ gl =>
          have HKk := Aside0.mk hk
          have hk2 : k < 2 := by omega
          have hkk : (k : Int) < 2 := by omega
          have c5 : decide ((k : Int) < 2) = true := decide_eq_true hkk
          have hk0 : (0 : Int) ≤ (k : Int) := by omega
          obtain ⟨y, hxy⟩ : ∃ y : Nat, x.natAbs = y := ⟨_, rfl⟩
          have hy9n : y < 9 := by omega
          have HY := Aside0.mk (show (ltr l0 p i).natAbs = y by rw [HLX.out]; exact hxy)
          have HXY := Aside0.mk hxy
          have hen := HEN.out.cell k hk2
          have hat := HAT.out.cell (y * 2 + k) (by rw [HI.out.2.1]; omega)
          have hy0 : (0 : Int) ≤ (y : Int) := by omega
          have hy9 : (y : Int) < 9 := by omega
          clear hk hxy
          obtain ⟨v0, hv0⟩ : ∃ v0 : Int, rd ats ((y * 2 + k : Nat) : Int) = v0 := ⟨_, rfl⟩
          rw [hv0] at hat
          have HV := Aside0.mk hv0
          clear hv0
          by_cases hneg : v0 < 0
          ·
           have c6 : decide (v0 < 0) = true := decide_eq_true hneg
           have HI6 := Aside0.mk (HI.out.put HS.out hk2 HY.out hy9n (by rw [HV.out]; exact hneg))
           have hnn : ¬ rd (ats.set (y * 2 + k) ((endC l0 p i k : Nat) : Int)) ((y * 2 + k : Nat) : Int) < 0 := by
            rw [rd_lt (by rw [List.length_set, HI.out.2.1]; omega), List.getElem_set_self]; omega
           have HNN := Aside0.mk hnn
           clear hnn
           go_wp2_with fail
           go_at_call 61
           refine (size_calls x y HXY.out wr hx1 hx2).mono ?_
           rintro e w6 ⟨rfl, hw⟩
           obtain rfl := hw.symm
           clear hw
           go_wp2
           refine wp_region_still_tail 8 (by kernel_rfl) (by kernel_rfl) ?_
           simp only [List.take_succ_cons, List.take_zero, List.drop_succ_cons, List.drop_zero]
           change wpStill _ _ wr.drew _ _ _
           repeat still_step
           still_call (size_calls x y HXY.out wr.drew hx1 hx2)
           repeat still_step
           refine wpStill_nil ?_
           change wpList _ _ _ _ _ wr.drew
           go_wp2
           have HJ6 : Aside0 (Jn (wr.setCell ⟨w2.heap.size, y * 2 + k, none⟩ (.int .i64 ((endC l0 p i k : Nat) : Int))).drew w1.heap.size w1.heap.size xs) := ⟨HJ.out.away HAT.out (by decide) _ _⟩
           have HAT6 : Aside0 (AtB (wr.setCell ⟨w2.heap.size, y * 2 + k, none⟩ (.int .i64 ((endC l0 p i k : Nat) : Int))).drew w2.heap.size (ats.set (y * 2 + k) ((endC l0 p i k : Nat) : Int))) := ⟨HAT.out.set _ _⟩
           have HB6 : Aside0 (Below w1.heap.size w1 (wr.setCell ⟨w2.heap.size, y * 2 + k, none⟩ (.int .i64 ((endC l0 p i k : Nat) : Int))).drew) := ⟨below_drew (below_set HBW.out HB2.out.size)⟩
           have HEN6 : Aside0 (EndB (wr.setCell ⟨w2.heap.size, y * 2 + k, none⟩ (.int .i64 ((endC l0 p i k : Nat) : Int))).drew ge l0 p i) := ⟨blk_far (p := ⟨w2.heap.size, y * 2 + k, none⟩) HEN.out (show ge ≠ w2.heap.size from blk_ne HEN.out HAT.out (by decide)) _⟩
           have hnn : ¬ rd (ats.set (y * 2 + k) ((endC l0 p i k : Nat) : Int)) ((y * 2 + k : Nat) : Int) < 0 := by have := HNN.out; omega
           clear HJ HAT HBW HEN hen hat c6 hneg HNN
           generalize (wr.setCell ⟨w2.heap.size, y * 2 + k, none⟩ (.int .i64 ((endC l0 p i k : Nat) : Int))).drew = w7 at HJ6 HAT6 HB6 HEN6 ⊢
           obtain ⟨c, hc, hrc, hjn⟩ := HI6.out.join HS.out hk2 HY.out hy9n hnn
           obtain ⟨ra, hra⟩ := HI6.out.root hc
           obtain ⟨rb, hrb⟩ := HI6.out.root (endC_lt HS.out k)
           have HI7 := Aside0.mk ((hjn ra rb hra hrb).weaken fun q j l _ _ h => met_k p i k q j l h)
           obtain ⟨na, hna⟩ := rch_of hra
           obtain ⟨nb, hnb⟩ := rch_of hrb
           have N1 := Aside0.mk hna
           have N2 := Aside0.mk hnb
           have S1 := Aside0.mk (show xs.length ≤ 1048576 by rw [HI6.out.1]; have := HM.out.2.2; omega)
           have hat7 := (HAT6.out.cell (y * 2 + k) (by rw [HI6.out.2.1]; omega)).1
           rw [hrc] at hat7
           have hen7 := HEN6.out.cell k hk2
           clear hjn hra hrb hna hnb hrc hc hnn HI6
           refine wp_region_still_tail 10 (by kernel_rfl) (by kernel_rfl) ?_
           simp only [List.take_succ_cons, List.take_zero, List.drop_succ_cons, List.drop_zero]
           change wpStill _ _ (w7).drew _ _ _
           repeat still_step
           still_call (size_calls x y HXY.out (w7).drew hx1 hx2)
           repeat still_step
           refine wpStill_nil ?_
           change wpList _ _ _ _ _ (w7).drew
           go_wp2_with fail
           go_at_call 71
           refine (join_calls2 w1.heap.size xs c (endC l0 p i k) ra rb na nb w1 (w7).drew (below_drew HB6.out) HJ6.out N1.out N2.out S1.out).mono ?_
           rintro e w8 ⟨rfl, hJ8, hB8, hO8⟩
           have HJ8 := Aside0.mk hJ8
           have HB8 := Aside0.mk hB8
           have HAT8 := Aside0.mk (show AtB w8 w2.heap.size (ats.set (y * 2 + k) ((endC l0 p i k : Nat) : Int)) from hO8 _ _ _ (by decide) HAT6.out)
           have HEN8 := Aside0.mk (show EndB w8 ge l0 p i from hO8 _ _ _ (by decide) HEN6.out)
           clear hJ8 hB8 hO8 HJ6 HB6 HAT6 HEN6 hat7 hen7
           go_wp2
           go_roundg gl
           case measure => omega
           case rel => exact ⟨k + 1, (ats.set (y * 2 + k) ((endC l0 p i k : Nat) : Int)), _, by have := HKk.out; omega, by go_num, HI7, HJ8, HAT8, HB8, HEN8⟩
          ·
           have c6 : decide (v0 < 0) = false := decide_eq_false hneg
           have HI6 := HI
           have hnn : ¬ rd ats ((y * 2 + k : Nat) : Int) < 0 := by rw [HV.out]; exact hneg
           have HNN := Aside0.mk hnn
           clear hnn
           go_wp2_with fail
           go_at_call 61
           refine (size_calls x y HXY.out wr hx1 hx2).mono ?_
           rintro e w6 ⟨rfl, hw⟩
           obtain rfl := hw.symm
           clear hw
           go_wp2
           have HJ6 := HJ
           have HAT6 := HAT
           have HB6 := HBW
           have HEN6 := HEN
           have hnn : ¬ rd ats ((y * 2 + k : Nat) : Int) < 0 := by have := HNN.out; omega
           clear HI HJ HAT HBW HEN hen hat c6 hneg HNN
           obtain ⟨c, hc, hrc, hjn⟩ := HI6.out.join HS.out hk2 HY.out hy9n hnn
           obtain ⟨ra, hra⟩ := HI6.out.root hc
           obtain ⟨rb, hrb⟩ := HI6.out.root (endC_lt HS.out k)
           have HI7 := Aside0.mk ((hjn ra rb hra hrb).weaken fun q j l _ _ h => met_k p i k q j l h)
           obtain ⟨na, hna⟩ := rch_of hra
           obtain ⟨nb, hnb⟩ := rch_of hrb
           have N1 := Aside0.mk hna
           have N2 := Aside0.mk hnb
           have S1 := Aside0.mk (show xs.length ≤ 1048576 by rw [HI6.out.1]; have := HM.out.2.2; omega)
           have hat7 := (HAT6.out.cell (y * 2 + k) (by rw [HI6.out.2.1]; omega)).1
           rw [hrc] at hat7
           have hen7 := HEN6.out.cell k hk2
           clear hjn hra hrb hna hnb hrc hc hnn HI6
           refine wp_region_still_tail 10 (by kernel_rfl) (by kernel_rfl) ?_
           simp only [List.take_succ_cons, List.take_zero, List.drop_succ_cons, List.drop_zero]
           change wpStill _ _ (wr).drew _ _ _
           repeat still_step
           still_call (size_calls x y HXY.out (wr).drew hx1 hx2)
           repeat still_step
           refine wpStill_nil ?_
           change wpList _ _ _ _ _ (wr).drew
           go_wp2_with fail
           go_at_call 71
           refine (join_calls2 w1.heap.size xs c (endC l0 p i k) ra rb na nb w1 (wr).drew (below_drew HB6.out) HJ6.out N1.out N2.out S1.out).mono ?_
           rintro e w8 ⟨rfl, hJ8, hB8, hO8⟩
           have HJ8 := Aside0.mk hJ8
           have HB8 := Aside0.mk hB8
           have HAT8 := Aside0.mk (show AtB w8 w2.heap.size ats from hO8 _ _ _ (by decide) HAT6.out)
           have HEN8 := Aside0.mk (show EndB w8 ge l0 p i from hO8 _ _ _ (by decide) HEN6.out)
           clear hJ8 hB8 hO8 HJ6 HB6 HAT6 HEN6 hat7 hen7
           go_wp2
           go_roundg gl
           case measure => omega
           case rel => exact ⟨k + 1, ats, _, by have := HKk.out; omega, by go_num, HI7, HJ8, HAT8, HB8, HEN8⟩
       ·
        have c4 : decide (x < 0) = false := decide_eq_false hxn
        have e0 : endC l0 p i 0 = cor l0 p i := by unfold endC; rw [HLX.out]; rw [if_pos (by omega)]
        have e1 : endC l0 p i 1 = nxc l0 p i := by unfold endC; rw [HLX.out]; rw [if_neg (by omega)]
        have E0 := Aside0.mk e0
        have E1 := Aside0.mk e1
        clear hxn e0 e1
        go_wp2
        go_region_held3 (fun w' => w'.cell? ⟨uf, p, none⟩ = some (.int .i64 ((fst l0 p : Nat) : Int))) (go_keep) (fail)
        go_wp2
        (try rw [q5])
        have HWB := Aside0.mk (below_drew (below_alloc (Below.refl wr.heap.size wr) (.cells #[.int .i64 ((cor l0 p i : Nat) : Int), .int .i64 ((nxc l0 p i : Nat) : Int)] 62)))
        have HEN : Aside0 (EndB (wr.alloc (.cells #[.int .i64 ((cor l0 p i : Nat) : Int), .int .i64 ((nxc l0 p i : Nat) : Int)] 62)).drew wr.heap.size l0 p i) := ⟨by unfold EndB; rw [E0.out, E1.out]; exact blk_drew (blk_new wr _)⟩
        generalize (wr.alloc (.cells #[.int .i64 ((cor l0 p i : Nat) : Int), .int .i64 ((nxc l0 p i : Nat) : Int)] 62)).drew = w5 at HWB HEN ⊢
        have HJ5 := Aside0.mk (HJ.out.below HWB.out)
        have HAT5 := Aside0.mk (HAT.out.below HWB.out)
        have HB5 := Aside0.mk (below_step HBW.out HWB.out)
        have HGE := Aside0.mk (below_size HBW.out)
        clear HJ HAT HBW HWB hcx hcf
        generalize wr.heap.size = ge at *
        obtain ⟨wo2, hwo2⟩ : ∃ wo2 : World, wo2 = wr := ⟨_, rfl⟩
        subst hwo2
        go_loopg [69] 2 (fun gk v69 w' => ∃ (k : Nat) (ats xs : List Int), k + gk = 2 ∧ v69 = .int .i64 (k : Int) ∧ Aside0 (CInv l0 ats xs (MetN p i k)) ∧ Aside0 (Jn w' w1.heap.size w1.heap.size xs) ∧ Aside0 (AtB w' w2.heap.size ats) ∧ Aside0 (Below w1.heap.size w1 w') ∧ Aside0 (EndB w' ge l0 p i))
        case atStart => exact ⟨0, ats, xs, by omega, rfl, HI, HJ5, HAT5, HB5, HEN⟩
        case round =>
         clear HI HJ5 HAT5 HB5 HEN
         obtain ⟨k, ats, xs, hk, rfl, HI, HJ, HAT, HBW, HEN⟩ := hrel
         cases gk with
         | zero =>
          obtain rfl : k = 2 := by omega
          clear hk
          go_wp2
          go_roundg gi
          case measure => omega
          case rel => exact ⟨i + 1, ats, xs, by have := HKi.out; omega, by go_num, ⟨HI.out.weaken fun q j l _ hl h => met_i p i q j l hl h⟩, HJ, HAT, HBW⟩
         | succ gl =>
          have HKk := Aside0.mk hk
          have hk2 : k < 2 := by omega
          have hkk : (k : Int) < 2 := by omega
          have c5 : decide ((k : Int) < 2) = true := decide_eq_true hkk
          have hk0 : (0 : Int) ≤ (k : Int) := by omega
          obtain ⟨y, hxy⟩ : ∃ y : Nat, x.natAbs = y := ⟨_, rfl⟩
          have hy9n : y < 9 := by omega
          have HY := Aside0.mk (show (ltr l0 p i).natAbs = y by rw [HLX.out]; exact hxy)
          have HXY := Aside0.mk hxy
          have hen := HEN.out.cell k hk2
          have hat := HAT.out.cell (y * 2 + k) (by rw [HI.out.2.1]; omega)
          have hy0 : (0 : Int) ≤ (y : Int) := by omega
          have hy9 : (y : Int) < 9 := by omega
          clear hk hxy
          obtain ⟨v0, hv0⟩ : ∃ v0 : Int, rd ats ((y * 2 + k : Nat) : Int) = v0 := ⟨_, rfl⟩
          rw [hv0] at hat
          have HV := Aside0.mk hv0
          clear hv0
          by_cases hneg : v0 < 0
          ·
           have c6 : decide (v0 < 0) = true := decide_eq_true hneg
           have HI6 := Aside0.mk (HI.out.put HS.out hk2 HY.out hy9n (by rw [HV.out]; exact hneg))
           have hnn : ¬ rd (ats.set (y * 2 + k) ((endC l0 p i k : Nat) : Int)) ((y * 2 + k : Nat) : Int) < 0 := by
            rw [rd_lt (by rw [List.length_set, HI.out.2.1]; omega), List.getElem_set_self]; omega
           have HNN := Aside0.mk hnn
           clear hnn
           go_wp2_with fail
           go_at_call 61
           refine (size_calls x y HXY.out wr hx1 hx2).mono ?_
           rintro e w6 ⟨rfl, hw⟩
           obtain rfl := hw.symm
           clear hw
           go_wp2
           refine wp_region_still_tail 8 (by kernel_rfl) (by kernel_rfl) ?_
           simp only [List.take_succ_cons, List.take_zero, List.drop_succ_cons, List.drop_zero]
           change wpStill _ _ wr.drew _ _ _
           repeat still_step
           still_call (size_calls x y HXY.out wr.drew hx1 hx2)
           repeat still_step
           refine wpStill_nil ?_
           change wpList _ _ _ _ _ wr.drew
           go_wp2
           have HJ6 : Aside0 (Jn (wr.setCell ⟨w2.heap.size, y * 2 + k, none⟩ (.int .i64 ((endC l0 p i k : Nat) : Int))).drew w1.heap.size w1.heap.size xs) := ⟨HJ.out.away HAT.out (by decide) _ _⟩
           have HAT6 : Aside0 (AtB (wr.setCell ⟨w2.heap.size, y * 2 + k, none⟩ (.int .i64 ((endC l0 p i k : Nat) : Int))).drew w2.heap.size (ats.set (y * 2 + k) ((endC l0 p i k : Nat) : Int))) := ⟨HAT.out.set _ _⟩
           have HB6 : Aside0 (Below w1.heap.size w1 (wr.setCell ⟨w2.heap.size, y * 2 + k, none⟩ (.int .i64 ((endC l0 p i k : Nat) : Int))).drew) := ⟨below_drew (below_set HBW.out HB2.out.size)⟩
           have HEN6 : Aside0 (EndB (wr.setCell ⟨w2.heap.size, y * 2 + k, none⟩ (.int .i64 ((endC l0 p i k : Nat) : Int))).drew ge l0 p i) := ⟨blk_far (p := ⟨w2.heap.size, y * 2 + k, none⟩) HEN.out (show ge ≠ w2.heap.size from blk_ne HEN.out HAT.out (by decide)) _⟩
           have hnn : ¬ rd (ats.set (y * 2 + k) ((endC l0 p i k : Nat) : Int)) ((y * 2 + k : Nat) : Int) < 0 := by have := HNN.out; omega
           clear HJ HAT HBW HEN hen hat c6 hneg HNN
           generalize (wr.setCell ⟨w2.heap.size, y * 2 + k, none⟩ (.int .i64 ((endC l0 p i k : Nat) : Int))).drew = w7 at HJ6 HAT6 HB6 HEN6 ⊢
           obtain ⟨c, hc, hrc, hjn⟩ := HI6.out.join HS.out hk2 HY.out hy9n hnn
           obtain ⟨ra, hra⟩ := HI6.out.root hc
           obtain ⟨rb, hrb⟩ := HI6.out.root (endC_lt HS.out k)
           have HI7 := Aside0.mk ((hjn ra rb hra hrb).weaken fun q j l _ _ h => met_k p i k q j l h)
           obtain ⟨na, hna⟩ := rch_of hra
           obtain ⟨nb, hnb⟩ := rch_of hrb
           have N1 := Aside0.mk hna
           have N2 := Aside0.mk hnb
           have S1 := Aside0.mk (show xs.length ≤ 1048576 by rw [HI6.out.1]; have := HM.out.2.2; omega)
           have hat7 := (HAT6.out.cell (y * 2 + k) (by rw [HI6.out.2.1]; omega)).1
           rw [hrc] at hat7
           have hen7 := HEN6.out.cell k hk2
           clear hjn hra hrb hna hnb hrc hc hnn HI6
           refine wp_region_still_tail 10 (by kernel_rfl) (by kernel_rfl) ?_
           simp only [List.take_succ_cons, List.take_zero, List.drop_succ_cons, List.drop_zero]
           change wpStill _ _ (w7).drew _ _ _
           repeat still_step
           still_call (size_calls x y HXY.out (w7).drew hx1 hx2)
           repeat still_step
           refine wpStill_nil ?_
           change wpList _ _ _ _ _ (w7).drew
           go_wp2_with fail
           go_at_call 71
           refine (join_calls2 w1.heap.size xs c (endC l0 p i k) ra rb na nb w1 (w7).drew (below_drew HB6.out) HJ6.out N1.out N2.out S1.out).mono ?_
           rintro e w8 ⟨rfl, hJ8, hB8, hO8⟩
           have HJ8 := Aside0.mk hJ8
           have HB8 := Aside0.mk hB8
           have HAT8 := Aside0.mk (show AtB w8 w2.heap.size (ats.set (y * 2 + k) ((endC l0 p i k : Nat) : Int)) from hO8 _ _ _ (by decide) HAT6.out)
           have HEN8 := Aside0.mk (show EndB w8 ge l0 p i from hO8 _ _ _ (by decide) HEN6.out)
           clear hJ8 hB8 hO8 HJ6 HB6 HAT6 HEN6 hat7 hen7
           go_wp2
           go_roundg gl
           case measure => omega
           case rel => exact ⟨k + 1, (ats.set (y * 2 + k) ((endC l0 p i k : Nat) : Int)), _, by have := HKk.out; omega, by go_num, HI7, HJ8, HAT8, HB8, HEN8⟩
          ·
           have c6 : decide (v0 < 0) = false := decide_eq_false hneg
           have HI6 := HI
           have hnn : ¬ rd ats ((y * 2 + k : Nat) : Int) < 0 := by rw [HV.out]; exact hneg
           have HNN := Aside0.mk hnn
           clear hnn
           go_wp2_with fail
           go_at_call 61
           refine (size_calls x y HXY.out wr hx1 hx2).mono ?_
           rintro e w6 ⟨rfl, hw⟩
           obtain rfl := hw.symm
           clear hw
           go_wp2
           have HJ6 := HJ
           have HAT6 := HAT
           have HB6 := HBW
           have HEN6 := HEN
           have hnn : ¬ rd ats ((y * 2 + k : Nat) : Int) < 0 := by have := HNN.out; omega
           clear HI HJ HAT HBW HEN hen hat c6 hneg HNN
           obtain ⟨c, hc, hrc, hjn⟩ := HI6.out.join HS.out hk2 HY.out hy9n hnn
           obtain ⟨ra, hra⟩ := HI6.out.root hc
           obtain ⟨rb, hrb⟩ := HI6.out.root (endC_lt HS.out k)
           have HI7 := Aside0.mk ((hjn ra rb hra hrb).weaken fun q j l _ _ h => met_k p i k q j l h)
           obtain ⟨na, hna⟩ := rch_of hra
           obtain ⟨nb, hnb⟩ := rch_of hrb
           have N1 := Aside0.mk hna
           have N2 := Aside0.mk hnb
           have S1 := Aside0.mk (show xs.length ≤ 1048576 by rw [HI6.out.1]; have := HM.out.2.2; omega)
           have hat7 := (HAT6.out.cell (y * 2 + k) (by rw [HI6.out.2.1]; omega)).1
           rw [hrc] at hat7
           have hen7 := HEN6.out.cell k hk2
           clear hjn hra hrb hna hnb hrc hc hnn HI6
           refine wp_region_still_tail 10 (by kernel_rfl) (by kernel_rfl) ?_
           simp only [List.take_succ_cons, List.take_zero, List.drop_succ_cons, List.drop_zero]
           change wpStill _ _ (wr).drew _ _ _
           repeat still_step
           still_call (size_calls x y HXY.out (wr).drew hx1 hx2)
           repeat still_step
           refine wpStill_nil ?_
           change wpList _ _ _ _ _ (wr).drew
           go_wp2_with fail
           go_at_call 71
           refine (join_calls2 w1.heap.size xs c (endC l0 p i k) ra rb na nb w1 (wr).drew (below_drew HB6.out) HJ6.out N1.out N2.out S1.out).mono ?_
           rintro e w8 ⟨rfl, hJ8, hB8, hO8⟩
           have HJ8 := Aside0.mk hJ8
           have HB8 := Aside0.mk hB8
           have HAT8 := Aside0.mk (show AtB w8 w2.heap.size ats from hO8 _ _ _ (by decide) HAT6.out)
           have HEN8 := Aside0.mk (show EndB w8 ge l0 p i from hO8 _ _ _ (by decide) HEN6.out)
           clear hJ8 hB8 hO8 HJ6 HB6 HAT6 HEN6 hat7 hen7
           go_wp2
           go_roundg gl
           case measure => omega
           case rel => exact ⟨k + 1, ats, _, by have := HKk.out; omega, by go_num, HI7, HJ8, HAT8, HB8, HEN8⟩
end Go.Proofs.Ytfknffpfjoalkaa.QFnGluings
