-- A text out of a program of this session's. Not trusted: Lean checks it.
import Derived.Test.YtepfjmmbjbfboaaF0
import Derived.Test.YtepfjmmbjbfboaaF2
import Derived.Test.YtepfjmmbjbfboaaCrc
import Derived.Test.YtepfjmmbjbfboaaFr
namespace Go.Proofs.Ytepfjmmbjbfboaa.F
open Go.RowKit Go.Proofs.YtepfjmmbjbfboaaW.PrintWords Go.Proofs.YtepfjmmbjbfboaaW.PrintLast Go.Proofs.YtepfjmmbjbfboaaW.PrintMore
attribute [local go_sem] max2_int min2_int max_two min_two max_three min_three max_four min_four   -- for this text's walks alone
set_option linter.unusedVariables false
set_option linter.unusedSimpArgs false

/-! ### fcs_Seal: function 21 (given) -/
-- GIVEN rounds=0 making=1
-- IMPORTS Derived.Test.YtepfjmmbjbfboaaCrc,Derived.Test.YtepfjmmbjbfboaaFr
set_option maxHeartbeats 1000000 in
set_option maxRecDepth 100000 in
theorem grow_makes (n : Nat) (hn : n ≤ 140737488355328) (w : World) : Calls Try.prog 26 #[.slice none 0 0, .int .i64 (n : Int)] w fun e w' => ∃ v, e = .returned v ∧ Kd.R (Kd.int .u8) 5 w' w.heap.size (fun _ => True) v [] ∧ Below w.heap.size w w' := by
  have h1 : decide ((n : Int) < 0) = false := decide_eq_false (by omega)
  have hw : IntKind.i64.wrap ((n : Int) - 0) = n := by rw [IntKind.wrap_i64]; omega
  by_cases h0 : n = 0
  · subst h0
    go_enter Try.func26, Try.ntmps26
    go_wp2_with fail
    go_ret
    exact ⟨_, rfl, Kd.R_nil _ _ _ _ _, Below.refl _ _⟩
  · have h2 : decide (0 < (n : Int)) = true := decide_eq_true (by omega)
    have h3 : decide ((n : Int) > 0) = true := decide_eq_true (by omega)
    go_enter Try.func26, Try.ntmps26
    go_wp2_with (
      (with_reducible refine gate_builtin (b := .append) (xs := #[.tmp 20, .tmp 21]) rfl ?_); at_builtin; refine Kd.R_append_zeros (Kd.int .u8) (w0 := w) w.heap.size rfl (.tmp 20) (.tmp 21) 22 3 5 (.int .u8 0) 1 rfl Try.underlying22 Try.underlying3 info5 rfl (by decide) (by omega) (.slice none 0 0) [] (0 : Int) (n : Int) (fun _ => True) rfl rfl rfl (fun _ _ => trivial) (Kd.R_nil _ _ _ _ _) (by omega) (Below.refl _ _) (Nat.le_refl _) (by simp; omega) ?_
      intro v1 w1 hR hB hg hat
      have HR := Aside0.mk hR; have HB := Aside0.mk hB
      obtain ⟨A1, c1, e1⟩ := Kd.R_slice hR
      subst e1
      clear hR hB hg hat)
    go_ret
    exact ⟨_, rfl, Kd.R_take HR.out (Nat.zero_le _), HB.out⟩
theorem flat_s {xss : List (List Int)} {k : Nat} (hk : k < xss.length) : (xss.take (k + 1)).flatten = (xss.take k).flatten ++ xss.getD k [] := by
  rw [List.take_succ_eq_append_getElem hk, List.flatten_append, List.getD_eq_getElem?_getD, List.getElem?_eq_getElem hk]
  simp
def flen (xss : List (List Int)) (k : Nat) : Nat := (xss.take k).flatten.length
theorem flen_le (xss : List (List Int)) (k : Nat) : flen xss k ≤ xss.flatten.length := by
  unfold flen
  conv => rhs; rw [← List.take_append_drop k xss, List.flatten_append, List.length_append]
  omega
theorem flen_all {xss : List (List Int)} {k : Nat} (h : xss.length ≤ k) : flen xss k = xss.flatten.length := by rw [flen, List.take_of_length_le h]
theorem flen_s {xss : List (List Int)} {k : Nat} (hk : k < xss.length) : flen xss (k + 1) = flen xss k + (xss.getD k []).length := by rw [flen, flat_s hk, List.length_append]; rfl
/-- Element k of a row of rows. -/
theorem row_get {w : World} {A0 : Option Addr} {xss : List (List Int)} (h : Kd.C (Kd.slice 5 (Kd.int .u8)) w A0 xss.length xss) {k : Nat} (hk : k < xss.length) :
    ∃ ad A c, A0 = some ad ∧ w.cell? (ad.add k) = some (.slice A (xss.getD k []).length c) ∧ (xss.getD k []).length ≤ c ∧ Kd.C (Kd.int .u8) w A (xss.getD k []).length (xss.getD k []) := by
  obtain ⟨ad, cs, rfl, hcl, ⟨A, c, rfl, hl, hC⟩, hcc⟩ := Kd.C_get h [] (k : Int) (by omega) (by omega)
  refine ⟨ad, A, c, rfl, ?_, hl, hC⟩
  have := hcc 0 _ rfl
  rw [show ((k : Int).toNat * (Kd.slice 5 (Kd.int .u8)).sz + 0) = k from by show (k : Int).toNat * 1 + 0 = k; omega] at this
  exact this
set_option maxHeartbeats 1000000 in
set_option maxRecDepth 100000 in
theorem concat_makes (A0 : Option Addr) (c0 : Nat) (xss : List (List Int)) (w : World) (hr : Kd.C (Kd.slice 5 (Kd.int .u8)) w A0 xss.length xss) (hl : xss.flatten.length ≤ 140737488355328) :
    Calls Try.prog 22 #[.slice A0 xss.length c0] w fun e w' => ∃ v, e = .returned v ∧ Kd.R (Kd.int .u8) 5 w' w.heap.size (fun _ => True) v xss.flatten ∧ Below w.heap.size w w' := by
  have hm : xss.length ≤ 9223372036854775807 := Kd.C_max hr
  have HR := Aside0.mk hr
  clear hr
  go_enter Try.func22, Try.ntmps22
  go_wp2_with fail
  obtain ⟨T, hT⟩ : ∃ T, Aside0 (xss.flatten.length = T) := ⟨_, ⟨rfl⟩⟩
  have hl' : T ≤ 140737488355328 := hT.out ▸ hl
  clear hl
  go_loopw [3, 11] (fun s v wr => ∃ k : Nat, v = .int .i64 (k : Int) ∧ s = .int .i64 ((flen xss k : Nat) : Int) ∧ Aside0 (k ≤ xss.length) ∧ wr = w) (fun _ v _ => (xss.length - intOf v).toNat)
  case atStart => exact ⟨0, rfl, rfl, ⟨Nat.zero_le _⟩, rfl⟩
  case round =>
    obtain ⟨k, rfl, rfl, hk, hwr⟩ := hrel
    have hwr' := hwr.symm
    clear hwr
    subst hwr'
    by_cases hd : (k : Int) < (xss.length : Int)
    · have hdd : decide ((k : Int) < (xss.length : Int)) = true := decide_eq_true hd
      obtain ⟨ad, A, c, rfl, hq, hlc, hC⟩ := row_get HR.out (k := k) (by omega)
      have hs := flen_s (xss := xss) (k := k) (by omega)
      have hfl2 := flen_le xss (k + 1)
      rw [hT.out, hs] at hfl2
      have hss := Aside0.mk hs
      clear hs
      generalize xss.getD k [] = x at *
      generalize flen xss k = m at *
      have hww : IntKind.i64.wrap ((m : Int) + (x.length : Int)) = ((m + x.length : Nat) : Int) := by rw [IntKind.wrap_i64]; omega
      have h0 : decide (((m + x.length : Nat) : Int) < 0) = false := decide_eq_false (by omega)
      generalize hn : m + x.length = n at *
      clear hC hlc
      go_wp2_with fail
      refine ⟨⟨k + 1, rfl, ?_, ⟨by omega⟩, trivial⟩, ?_⟩
      · rw [hss.out]
      · simp only [intOf]; omega
    · have hdd : decide ((k : Int) < (xss.length : Int)) = false := decide_eq_false hd
      have hft : flen xss k = T := by rw [flen_all (by have := hk.out; omega), hT.out]
      rw [hft]
      clear hft
      go_wp2_with fail
      refine (grow_makes T hl' w).mono ?_
      rintro e w1 ⟨v1, rfl, hR1, hb1⟩
      have HR1 := Aside0.mk hR1; have HB1 := Aside0.mk hb1
      clear hR1 hb1
      go_wp2_with fail
      go_loopw [6, 27] (fun s v wr2 => ∃ k : Nat, v = .int .i64 (k : Int) ∧ Aside0 (k ≤ xss.length) ∧ Aside0 (Kd.R (Kd.int .u8) 5 wr2 w.heap.size (fun _ => True) s (xss.take k).flatten) ∧ Aside0 (Below w.heap.size w wr2)) (fun _ v _ => (xss.length - intOf v).toNat)
      case atStart => exact ⟨0, rfl, ⟨Nat.zero_le _⟩, HR1, HB1⟩
      case round =>
        obtain ⟨k, rfl, hk, HRk, HBk⟩ := hrel
        obtain ⟨y, hy⟩ : ∃ y, Aside0 ((xss.take k).flatten = y) := ⟨_, ⟨rfl⟩⟩
        rw [hy.out] at HRk
        obtain ⟨A6, c6, e6⟩ := Kd.R_slice HRk.out
        subst e6
        by_cases hd : (k : Int) < (xss.length : Int)
        · have hdd : decide ((k : Int) < (xss.length : Int)) = true := decide_eq_true hd
          obtain ⟨ad, A, c, rfl, hq, hlc, hC⟩ := row_get (Kd.C_below HR.out HBk.out) (k := k) (by omega)
          have hs := flen_s (xss := xss) (k := k) (by omega)
          have hfl2 := flen_le xss (k + 1)
          rw [hT.out, hs, flen, hy.out] at hfl2
          have hfs := Aside0.mk (flat_s (xss := xss) (k := k) (by omega))
          rw [hy.out] at hfs
          generalize xss.getD k [] = x at *
          have HC := Aside0.mk hC
          clear hs hlc hC
          go_wp2_with (
            (with_reducible refine gate_builtin (b := .append) (xs := #[.tmp 31, .tmp 32]) rfl ?_); at_builtin; refine Kd.R_append_rows (Kd.int .u8) (w0 := w) w.heap.size rfl (.tmp 31) (.tmp 32) 22 5 (.int .u8 0) 1 rfl Try.underlying22 info5 rfl (by decide) (by omega) (.slice A6 y.length c6) y x _ _ _ (fun _ => True) (fun _ => False) rfl rfl HRk.out HC.out (fun _ _ h => h) (fun _ h => h.elim) (fun _ _ => trivial) HBk.out HBk.out.size (by omega) ?_
            intro v2 w2 ho hb hg hat
            have HO2 := Aside0.mk ho
            have HB2 := Aside0.mk hb
            clear ho hb hg hat)
          refine ⟨⟨k + 1, rfl, ⟨by omega⟩, ⟨?_⟩, HB2⟩, ?_⟩
          · rw [hfs.out]; exact HO2.out
          · simp only [intOf]; omega
        · have hdd : decide ((k : Int) < (xss.length : Int)) = false := decide_eq_false hd
          go_wp2_with fail
          go_ret
          refine ⟨_, rfl, ?_, HBk.out⟩
          rw [List.take_of_length_le (by have := hk.out; omega)] at hy
          rw [hy.out]
          exact HRk.out
def fcs_Seal.f (l0 : List Int) : Option (List Int) := if l0.length + 4 ≤ 140737488355328 then some (l0 ++ (Crc.four (Crc.sum (l0.map Crc.byte))).map Int.ofNat) else none
/-- A literal of bytes. -/
theorem lit_C (w : World) (xs : List Int) (t : Nat) (fr : Nat × Nat) (g : Nat) (hg : g = w.heap.size) (hl : xs.length ≤ 100) (W : World) (hW : Below (g + 1) (w.alloc (.cells (xs.map (Value.int .u8)).toArray t fr)) W) : Kd.C (Kd.int .u8) W (some ⟨g, 0, none⟩) xs.length xs := by
  subst hg
  refine ⟨rfl, by omega, fun _ => ⟨_, rfl, fun j p hj => ⟨[.int .u8 p], rfl, rfl, fun i u hi => ?_⟩⟩⟩
  obtain rfl : i = 0 := by
    rcases i with _ | i
    · rfl
    · simp at hi
  obtain rfl : Value.int .u8 p = u := by simpa using hi
  have e : (Addr.mk w.heap.size 0 none).add (j * (Kd.int .u8).sz + 0) = ⟨w.heap.size, j, none⟩ := by
    show (Addr.mk w.heap.size 0 none).add (j * 1 + 0) = _
    unfold Addr.add
    split
    · have : j = 0 := by omega
      subst this; rfl
    · simp
  have hb : (w.alloc (.cells (xs.map (Value.int .u8)).toArray t fr)).heap[w.heap.size]? = some (.cells (xs.map (Value.int .u8)).toArray t fr) := by
    show (w.heap.push _)[w.heap.size]? = _
    simp
  rw [e, hW.cell (by show w.heap.size < w.heap.size + 1; omega), cell_of_row _ w.heap.size _ _ t fr hb]
  simp [hj]
/-- A literal of two rows of bytes. -/
theorem lit_CC (w : World) (A1 A2 : Option Addr) (n1 n2 c1 c2 : Nat) (x1 x2 : List Int) (e1 : n1 = x1.length) (e2 : n2 = x2.length) (h1 : Kd.C (Kd.int .u8) w A1 x1.length x1) (h2 : Kd.C (Kd.int .u8) w A2 x2.length x2) (l1 : x1.length ≤ c1) (l2 : x2.length ≤ c2) (t : Nat) (g : Nat) (hg : g = w.heap.size) :
    Kd.C (Kd.slice 5 (Kd.int .u8)) (w.alloc (.cells #[.slice A1 n1 c1, .slice A2 n2 c2] t)) (some ⟨g, 0, none⟩) [x1, x2].length [x1, x2] := by
  subst hg e1 e2
  have hB : Below w.heap.size w (w.alloc (.cells #[.slice A1 x1.length c1, .slice A2 x2.length c2] t)) := (Below.refl _ _).alloc (Nat.le_refl _) _
  have hb : (w.alloc (.cells #[.slice A1 x1.length c1, .slice A2 x2.length c2] t)).heap[w.heap.size]? = some (.cells #[.slice A1 x1.length c1, .slice A2 x2.length c2] t) := by
    show (w.heap.push _)[w.heap.size]? = _
    simp
  have hcell : ∀ i, (w.alloc (.cells #[.slice A1 x1.length c1, .slice A2 x2.length c2] t)).cell? ⟨w.heap.size, i, none⟩ = (#[.slice A1 x1.length c1, .slice A2 x2.length c2] : Array Value)[i]? := fun i => cell_of_row _ _ _ _ _ (0, 0) hb
  have had : ∀ i, (Addr.mk w.heap.size 0 none).add i = ⟨w.heap.size, i, none⟩ := by
    intro i
    unfold Addr.add
    split
    · next h => subst h; rfl
    · simp
  refine ⟨rfl, by simp, fun _ => ⟨_, rfl, fun j p hj => ?_⟩⟩
  rcases j with _ | _ | j
  · obtain rfl : x1 = p := by simpa using hj
    refine ⟨[.slice A1 x1.length c1], rfl, ⟨A1, c1, rfl, l1, Kd.C_below h1 hB⟩, fun i u hi => ?_⟩
    rw [had, hcell]
    rcases i with _ | i
    · exact hi
    · simp at hi
  · obtain rfl : x2 = p := by simpa using hj
    refine ⟨[.slice A2 x2.length c2], rfl, ⟨A2, c2, rfl, l2, Kd.C_below h2 hB⟩, fun i u hi => ?_⟩
    rw [had, hcell]
    rcases i with _ | i
    · exact hi
    · simp at hi
  · simp at hj
theorem four_int (s : Nat) : (Crc.four s).map Int.ofNat = [(s : Int) % 256, (s : Int) / 256 % 256, (s : Int) / 65536 % 256, (s : Int) / 16777216 % 256] := by
  simp only [Crc.four, List.map_cons, List.map_nil, Int.ofNat_eq_natCast]
  congr 1
set_option maxHeartbeats 1000000 in
set_option maxRecDepth 100000 in
theorem fcs_Seal.calls (A0 : Option Addr) (c0 : Nat) (l0 : List Int) (r : List Int) (w : World) (hr0 : Kd.C (Kd.int .u8) w A0 l0.length l0) (hc0 : l0.length ≤ c0) (h : fcs_Seal.f l0 = some r) :
    Calls Try.prog 21 #[.slice A0 l0.length c0] w fun e w' => ∃ v0_ : Value, e = .returned (v0_) ∧ Kd.R (Kd.int .u8) 5 w' w.heap.size (fun _ => True) v0_ r ∧ Below w.heap.size w w' := by
  have H : (if l0.length + 4 ≤ 140737488355328 then some (l0 ++ (Crc.four (Crc.sum (l0.map Crc.byte))).map Int.ofNat) else none) = some r := h
  clear h
  by_cases hl : l0.length + 4 ≤ 140737488355328
  case neg => rw [if_neg hl] at H; exact absurd H (by simp)
  rw [if_pos hl] at H
  obtain ⟨s, hs⟩ : ∃ s, Aside0 (Crc.sum (l0.map Crc.byte) = s) := ⟨_, ⟨rfl⟩⟩
  rw [hs.out, four_int] at H
  obtain rfl := Option.some.inj H
  clear H
  have HR := Aside0.mk hr0
  have HC := Aside0.mk hc0
  clear hr0 hc0
  go_enter Try.func21, Try.ntmps21
  go_wp2_with fail
  refine (fcs_Sum.calls A0 c0 l0 s w HR.out HC.out (by rw [← hs.out]; rfl)).mono ?_
  rintro e w1 ⟨rfl, hb1⟩
  have HB1 := Aside0.mk hb1
  have HR1 := Aside0.mk (Kd.C_below HR.out hb1)
  clear hb1 HR
  go_wp2_with fail
  have hl4 : Kd.C (Kd.int .u8) (w1.alloc (.cells #[Value.int .u8 ((s : Int) % 256), Value.int .u8 ((s : Int) / 256 % 256), Value.int .u8 ((s : Int) / 65536 % 256), Value.int .u8 ((s : Int) / 16777216 % 256)] 5)) (some ⟨w1.heap.size, 0, none⟩) [(s : Int) % 256, (s : Int) / 256 % 256, (s : Int) / 65536 % 256, (s : Int) / 16777216 % 256].length [(s : Int) % 256, (s : Int) / 256 % 256, (s : Int) / 65536 % 256, (s : Int) / 16777216 % 256] :=
    lit_C w1 [(s : Int) % 256, (s : Int) / 256 % 256, (s : Int) / 65536 % 256, (s : Int) / 16777216 % 256] 5 (0, 0) _ rfl (by simp) _ (Below.refl _ _)
  have hB2 := ((Below.refl w1.heap.size w1).alloc (Nat.le_refl _) (.cells #[Value.int .u8 ((s : Int) % 256), Value.int .u8 ((s : Int) / 256 % 256), Value.int .u8 ((s : Int) / 65536 % 256), Value.int .u8 ((s : Int) / 16777216 % 256)] 5))
  have hB3 := hB2.alloc hB2.size (.cells #[.slice A0 l0.length c0, .slice (some ⟨w1.heap.size, 0, none⟩) 4 4] 22)
  have hB4 := HB1.out.trans (hB3.mono HB1.out.size)
  refine (concat_makes (some ⟨w1.heap.size + 1, 0, none⟩) 2 [l0, [(s : Int) % 256, (s : Int) / 256 % 256, (s : Int) / 65536 % 256, (s : Int) / 16777216 % 256]] _ (lit_CC _ A0 (some ⟨w1.heap.size, 0, none⟩) l0.length 4 c0 4 l0 _ rfl rfl (Kd.C_below HR1.out hB2) hl4 HC.out (by simp) 22 (w1.heap.size + 1) (by simp)) (by simp; omega)).mono ?_
  rintro e w2 ⟨v2, rfl, hR2, hb2⟩
  have HR2 := Aside0.mk (Kd.R_lower hR2 hB4.size)
  have HB2 := Aside0.mk (hB4.trans (hb2.mono hB4.size))
  clear hl4 hB2 hB3 hB4 hR2 hb2
  go_wp2_with fail
  go_ret
  exact ⟨_, rfl, by simpa using HR2.out, HB2.out⟩

end Go.Proofs.Ytepfjmmbjbfboaa.F
