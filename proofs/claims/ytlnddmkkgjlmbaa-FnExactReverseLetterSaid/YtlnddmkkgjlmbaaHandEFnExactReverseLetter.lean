/- eachLetter and ReverseLetter of the program, by hand. Conditions: the numbers of the gluing are letters. -/
import Derived.Test.YtlnddmkkgjlmbaaQFnExactReverseLetterx
import Derived.Test.YtlnddmkkgjlmbaaCom
namespace Go.Proofs.Ytlnddmkkgjlmbaa.QFnExactReverseLetter
open Go.RowKit Go.Proofs.YtlnddmkkgjlmbaaW.PrintWords Go.Proofs.YtlnddmkkgjlmbaaW.PrintLast Go.Proofs.YtlnddmkkgjlmbaaW.PrintMore Go.Proofs.Ytlnddmkkgjlmbaa.Com
attribute [local go_sem] max2_int min2_int max_two min_two max_three min_three max_four min_four
set_option linter.unusedVariables false
set_option linter.unusedSimpArgs false

def eachZ (h : Int → Int) (x : Int) : Int := if x > 0 then h x else -(h (-x))
/-- A row whose first k numbers are replaced. -/
def rowTo (h : Int → Int) (k : Nat) (row : List Int) : List Int := (row.take k).map (eachZ h) ++ row.drop k
theorem rowTo_len (h : Int → Int) (k : Nat) (row : List Int) : (rowTo h k row).length = row.length := by
  unfold rowTo; rw [List.length_append, List.length_map, List.length_take, List.length_drop]; omega
theorem rowTo_zero (h : Int → Int) (row : List Int) : rowTo h 0 row = row := rfl
theorem rowTo_all (h : Int → Int) (row : List Int) : rowTo h row.length row = row.map (eachZ h) := by
  unfold rowTo; rw [List.take_length, List.drop_length, List.append_nil]
theorem rowTo_get (h : Int → Int) (k : Nat) (row : List Int) (hk : k < row.length) : (rowTo h k row)[k]? = row[k]? := by
  unfold rowTo
  have e : ((row.take k).map (eachZ h)).length = k := by rw [List.length_map, List.length_take]; omega
  rw [List.getElem?_append_right (by omega), e, List.getElem?_drop, Nat.sub_self, Nat.add_zero]
theorem rowTo_rd (h : Int → Int) (k : Nat) (row : List Int) (hk : k < row.length) : rd (rowTo h k row) (k : Int) = row[k] := by
  rw [rd_nat, List.getD_eq_getElem?_getD, rowTo_get h k row hk, List.getElem?_eq_getElem hk]; rfl
theorem rowTo_set (h : Int → Int) (k : Nat) (row : List Int) (hk : k < row.length) : (rowTo h k row).set k (eachZ h row[k]) = rowTo h (k + 1) row := by
  unfold rowTo
  rw [List.drop_eq_getElem_cons hk, List.set_append_right _ _ (by rw [List.length_map, List.length_take]; omega)]
  have e : k - ((row.take k).map (eachZ h)).length = 0 := by rw [List.length_map, List.length_take]; omega
  rw [e, List.set_cons_zero, List.take_succ_eq_append_getElem hk, List.map_append, List.append_assoc]
  rfl
def rowsTo (h : Int → Int) (p : Nat) (t : List (List Int)) : List (List Int) := (t.take p).map (List.map (eachZ h)) ++ t.drop p
theorem rowsTo_len (h : Int → Int) (p : Nat) (t : List (List Int)) : (rowsTo h p t).length = t.length := by
  unfold rowsTo; rw [List.length_append, List.length_map, List.length_take, List.length_drop]; omega
theorem rowsTo_all (h : Int → Int) (t : List (List Int)) : rowsTo h t.length t = t.map (List.map (eachZ h)) := by
  unfold rowsTo; rw [List.take_length, List.drop_length, List.append_nil]
theorem rowsTo_rd (h : Int → Int) (p : Nat) (t : List (List Int)) (hp : p < t.length) : (rowsTo h p t).getD p [] = t[p] := by
  have e : ((t.take p).map (List.map (eachZ h))).length = p := by rw [List.length_map, List.length_take]; omega
  rw [List.getD_eq_getElem?_getD]
  unfold rowsTo
  rw [List.getElem?_append_right (by omega), e, List.getElem?_drop, Nat.sub_self, Nat.add_zero, List.getElem?_eq_getElem hp]; rfl
theorem rowsTo_set (h : Int → Int) (p : Nat) (t : List (List Int)) (hp : p < t.length) : (rowsTo h p t).set p (t[p].map (eachZ h)) = rowsTo h (p + 1) t := by
  unfold rowsTo
  rw [List.drop_eq_getElem_cons hp, List.set_append_right _ _ (by rw [List.length_map, List.length_take]; omega)]
  have e : p - ((t.take p).map (List.map (eachZ h))).length = 0 := by rw [List.length_map, List.length_take]; omega
  rw [e, List.set_cons_zero, List.take_succ_eq_append_getElem hp, List.map_append, List.append_assoc]
  rfl
/-- The numbers of a list of lists are letters. -/
def LetOk (t : List (List Int)) : Prop := t.length ≤ 1048576 ∧ ∀ row ∈ t, row.length ≤ 1048576 ∧ ∀ x ∈ row, x ≠ 0 ∧ -8 ≤ x ∧ x ≤ 8
set_option maxHeartbeats 16000000 in
set_option maxRecDepth 100000 in
theorem eachLetter_calls (k : Nat) (px : Addr) (h : Int → Int) (A0 : Option Addr) (c0 : Nat) (l0 t : List (List Int)) (r1 : List (List Int)) (r2 : Bool) (w : World)
    (hr0 : Kd.C (Kd.slice 3 (Kd.int .i64)) w A0 l0.length l0) (hc0 : l0.length ≤ c0) (hcp : impl_copyRows.f k l0 = some t) (hok : LetOk t) (hh : ∀ z : Int, 1 ≤ z → z ≤ 8 → -8 ≤ h z ∧ h z ≤ 8)
    (hclo : ∀ w', Below w.heap.size w w' → ∀ z : Int, 1 ≤ z → z ≤ 8 → Calls Try.prog 75 #[.int .i64 z, .pointer (some px)] w' fun e w'' => e = .returned (.int .i64 (h z)) ∧ w'' = w')
    (hm : impl_moved.f k (t.map (List.map (eachZ h))) = some (r1, r2)) :
    Calls Try.prog 74 #[.slice A0 l0.length c0, .func (.func 75) #[] #[.pointer (some px)]] w fun e w' => ∃ v0_ : Value, e = .returned (.tuple #[v0_, .bool r2]) ∧ Kd.S (Kd.slice 3 (Kd.int .i64)) 47 w' w.heap.size (fun _ => True) v0_ r1 ∧ Below w.heap.size w w' := by
  have HR0 := Aside0.mk hr0
  have HC0 := Aside0.mk hc0
  have HCP := Aside0.mk hcp
  have HOK := Aside0.mk hok
  have HH := Aside0.mk hh
  have HCLO := Aside0.mk hclo
  have HM := Aside0.mk hm
  have htl : t.length ≤ 1048576 := hok.1
  clear hr0 hc0 hcp hok hh hclo hm
  go_enter Try.func74, Try.ntmps74
  go_wp2_with fail
  go_at_call 58
  refine (impl_copyRows.calls k A0 c0 l0 t w HR0.out HC0.out HCP.out).mono ?_
  rintro e w1 ⟨v1, rfl, hs, hb⟩
  obtain ⟨D, cd, rfl⟩ := Kd.S_slice hs
  have HS0 := Aside0.mk hs
  have HB0 := Aside0.mk hb
  clear hs hb
  go_wp2
  go_loopg [15] t.length (fun gk v15 w' => ∃ p : Nat, p + gk = t.length ∧ v15 = .int .i64 (p : Int) ∧ Aside0 (Kd.S (Kd.slice 3 (Kd.int .i64)) 47 w' w.heap.size (fun _ => True) (.slice D t.length cd) (rowsTo h p t)) ∧ Aside0 (Below w.heap.size w w'))
  case atStart => exact ⟨0, by omega, rfl, HS0, HB0⟩
  case round =>
    clear HS0 HB0
    obtain ⟨p, hk, rfl, HS, HB⟩ := hrel
    cases gk with
    | zero =>
      obtain rfl : p = t.length := by omega
      have c1 : decide (t.length < t.length) = false := decide_eq_false (by omega)
      have HS2 := Aside0.mk HS.out
      rw [rowsTo_all] at HS2
      clear hk HS
      go_wp2_with fail
      go_at_call 60
      refine calls_of_args (args' := #[.slice D (t.map (List.map (eachZ h))).length cd]) (by rw [List.length_map]) ?_
      refine (impl_moved.calls k (fun _ => True) w.heap.size D cd (t.map (List.map (eachZ h))) r1 r2 _ (below_size HB.out) (by rw [List.length_map]; exact HS2.out) HM.out).mono ?_
      rintro e w2 ⟨v2, rfl, hs, hb⟩
      have HT := Aside0.mk (Kd.S_mono (ok' := fun _ => True) hs (fun _ _ => trivial))
      have HB2 := Aside0.mk (below_step HB.out hb)
      clear hs hb
      go_wp2
      go_ret2
      exact ⟨_, rfl, HT.out, HB2.out⟩
    | succ q =>
      have HKp := Aside0.mk hk
      have hlt : p < t.length := by omega
      have c1 : decide (p < t.length) = true := decide_eq_true hlt
      have hp0 : (0 : Int) ≤ (p : Int) := by omega
      have hp1 : (p : Int) < (t.length : Int) := by omega
      obtain ⟨gd, cdd, eD, gb, gl, cl, HG⟩ := Kd.S_form HS.out (by rw [rowsTo_len]; omega)
      obtain ⟨rfl, rfl⟩ : D = some ⟨gd, 0, none⟩ ∧ cd = cdd := by
        injection eD with e1 e2 e3
        exact ⟨e1, e3⟩
      clear gb gl cl HG eD
      obtain ⟨oki, cs, hcl, hM, hcc, hoki, hH⟩ := Kd.S_lend HS.out ([] : List Int) (p : Int) hp0 hp1
      obtain ⟨v7, rfl, hR⟩ := hM
      have hx5 : wr.cell? ⟨gd, p, none⟩ = some v7 := by have := hcc 0 v7 rfl; simpa [Kd.slice] using this
      rw [Int.toNat_natCast, rowsTo_rd h p t hlt] at hR
      obtain ⟨row, hrow⟩ : ∃ row, t[p] = row := ⟨_, rfl⟩
      have HROW := Aside0.mk hrow
      have HLET := Aside0.mk (HOK.out.2 row (by rw [← hrow]; exact List.getElem_mem hlt))
      rw [hrow] at hR
      obtain ⟨A7, c7, e7⟩ := Kd.R_slice hR
      subst e7
      have HX := Aside0.mk hH
      have HM0 := Aside0.mk hR
      have hrl : row.length ≤ 1048576 := HLET.out.1
      have HK0 := Aside0.mk (Kept.refl wr oki)
      clear hH hR hcc hcl hoki hrow hk HS
      obtain ⟨wo, hwo⟩ : ∃ wo : World, wo = wr := ⟨_, rfl⟩
      subst hwo
      go_wp2
      go_loopg [21] row.length (fun gk v21 w' => ∃ j : Nat, j + gk = row.length ∧ v21 = .int .i64 (j : Int) ∧ Aside0 (Kd.R (Kd.int .i64) 3 w' w.heap.size oki (.slice A7 row.length c7) (rowTo h j row)) ∧ Aside0 (Kept wo w' oki) ∧ Aside0 (Below w.heap.size w w'))
      case atStart => exact ⟨0, by omega, rfl, HM0, HK0, HB⟩
      case round =>
        clear HM0 HK0 HB
        obtain ⟨j, hk, rfl, HR, HK, HB⟩ := hrel
        cases gk with
        | zero =>
          obtain rfl : j = row.length := by omega
          have c2 : decide (row.length < row.length) = false := decide_eq_false (by omega)
          have hS2 := Kd.H_back (okp := oki) (Kd.H_kept HX.out HK.out (fun k_ _ hn hs => hn hs)) ⟨_, rfl, HR.out⟩ (fun _ hk => hk)
          rw [Int.toNat_natCast, rowTo_all, ← HROW.out, rowsTo_set h p t hlt] at hS2
          have HS2 := Aside0.mk hS2
          clear hk hS2
          go_wp2
          go_roundg q
          case measure => omega
          case rel => exact ⟨p + 1, by have := HKp.out; omega, by go_num, HS2, HB⟩
        | succ q2 =>
          have HKj := Aside0.mk hk
          have hlj : j < row.length := by omega
          have c2 : decide (j < row.length) = true := decide_eq_true hlj
          have hj0 : (0 : Int) ≤ (j : Int) := by omega
          have hj1 : (j : Int) < (row.length : Int) := by omega
          obtain ⟨g7, c8, e8, gb7, gl7, cl7, HG7⟩ := Kd.R_form HR.out (by rw [rowTo_len]; omega)
          obtain ⟨rfl, rfl⟩ : A7 = some ⟨g7, 0, none⟩ ∧ c7 = c8 := by
            injection e8 with e1 e2 e3
            exact ⟨e1, e3⟩
          have HGB := Aside0.mk gb7
          have HOI := Aside0.mk (HR.out.1 g7 rfl)
          clear gl7 cl7 HG7 e8 gb7
          obtain ⟨hcell, hfrz⟩ := Kd.R_celln (0 : Int) HR.out (j : Int) hj0 hj1
          rw [Int.toNat_natCast] at hcell hfrz
          rw [show rdOf (0 : Int) (rowTo h j row) (j : Int) = row[j] from rowTo_rd h j row hlj] at hcell
          have hxl := HLET.out.2 row[j] (List.getElem_mem hlj)
          have hset := rowTo_set h j row hlj
          obtain ⟨x, hx⟩ : ∃ x : Int, row[j] = x := ⟨_, rfl⟩
          rw [hx] at hcell hxl hset
          have hhx := HH.out
          clear hx hk
          by_cases hpos : x > 0
          · have c3 : decide (0 < x) = true := decide_eq_true hpos
            have hez : eachZ h x = h x := if_pos hpos
            rw [hez] at hset
            have hST := (Kd.R_put (by rw [rowTo_len]; exact HR.out) (j : Int) (h x)).1
            rw [Int.toNat_natCast, hset, rowTo_len] at hST
            have HST := Aside0.mk hST
            have HCL := Aside0.mk (HCLO.out wr HB.out x (by omega) (by omega))
            clear hST hset hez hpos hxl hhx
            go_wp2_with fail
            go_at_call 75
            refine HCL.out.mono ?_
            rintro e w2 ⟨rfl, hw⟩
            obtain rfl := hw.symm
            clear hw
            go_wp2
            go_roundg q2
            case measure => omega
            case rel => exact ⟨j + 1, by have := HKj.out; omega, by go_num, HST, ⟨HK.out.setCell (.inl HOI.out) _⟩, ⟨below_set HB.out HGB.out⟩⟩
          · have c3 : decide (0 < x) = false := decide_eq_false hpos
            have hez : eachZ h x = -(h (-x)) := if_neg hpos
            rw [hez] at hset
            have hST := (Kd.R_put (by rw [rowTo_len]; exact HR.out) (j : Int) (-(h (-x)))).1
            rw [Int.toNat_natCast, hset, rowTo_len] at hST
            have HST := Aside0.mk hST
            have HCL := Aside0.mk (HCLO.out wr HB.out (-x) (by omega) (by omega))
            have hb8 := hhx (-x) (by omega) (by omega)
            obtain ⟨z, hz⟩ : ∃ z : Int, -x = z := ⟨_, rfl⟩
            obtain ⟨u, hu⟩ : ∃ u : Int, h z = u := ⟨_, rfl⟩
            rw [hz] at HST HCL hb8
            rw [hu] at HST HCL hb8
            obtain ⟨s, hs⟩ : ∃ s : Int, -u = s := ⟨_, rfl⟩
            rw [hs] at HST
            have t1 : IntKind.i64.wrap (-x) = z := by rw [IntWalk.i64_in _ (by omega)]; exact hz
            have t2 : IntKind.i64.wrap (-u) = s := by rw [IntWalk.i64_in _ (by omega)]; exact hs
            clear hST hset hez hpos hxl hhx hz hu hs hb8
            go_wp2_with fail
            go_at_call 75
            refine HCL.out.mono ?_
            rintro e w2 ⟨rfl, hw⟩
            obtain rfl := hw.symm
            clear hw
            go_wp2
            go_roundg q2
            case measure => omega
            case rel => exact ⟨j + 1, by have := HKj.out; omega, by go_num, HST, ⟨HK.out.setCell (.inl HOI.out) _⟩, ⟨below_set HB.out HGB.out⟩⟩
end Go.Proofs.Ytlnddmkkgjlmbaa.QFnExactReverseLetter
