-- A text out of a program of this session's. Not trusted: Lean checks it.
import Derived.Test.YtepfjmmbjbfboaaF0
import Derived.Test.YtepfjmmbjbfboaaCrc
import Derived.Test.YtepfjmmbjbfboaaFr
namespace Go.Proofs.Ytepfjmmbjbfboaa.F
open Go.RowKit Go.Proofs.YtepfjmmbjbfboaaW.PrintWords Go.Proofs.YtepfjmmbjbfboaaW.PrintLast Go.Proofs.YtepfjmmbjbfboaaW.PrintMore
attribute [local go_sem] max2_int min2_int max_two min_two max_three min_three max_four min_four   -- for this text's walks alone
set_option linter.unusedVariables false
set_option linter.unusedSimpArgs false

/-! ### fcs_Sum: function 24 (given) -/
-- GIVEN rounds=0 making=1
-- IMPORTS Derived.Test.YtepfjmmbjbfboaaCrc,Derived.Test.YtepfjmmbjbfboaaFr
def fcs_Sum.f (l0 : List Int) : Option Int := some ((Crc.sum (l0.map Crc.byte) : Nat) : Int)
def crcZs : Array Value := Array.replicate 256 (.int .u32 0)
theorem zero_of {P : Program} {t : TypeId} {z : Value} (h : (P.info? t).map (·.zero) = some (some z)) (w : World) : (zeroValue t).run P w = .ok z w := by
  cases hq : P.info? t with
  | none => rw [hq] at h; cases h
  | some i =>
    rw [hq] at h
    have hz : i.zero = some z := Option.some.inj h
    simp [zeroValue, typeInfo, hq, hz]
def crcAt (i k : Nat) : Value := Value.int .u32 (((if k < i then Crc.steps 8 k else 0) : Nat) : Int)
def crcTab (i : Nat) : Array Value := ((List.range 256).map (crcAt i)).toArray
theorem crcTab_zero : crcTab 0 = crcZs := by kernel_rfl
theorem crcTab_size (i : Nat) : (crcTab i).size = 256 := by simp only [crcTab, List.size_toArray, List.length_map, List.length_range]
theorem crcTab_at (i : Nat) {k : Nat} (hk : k < 256) : (crcTab i)[k]? = some (crcAt i k) := by
  simp only [crcTab, List.getElem?_toArray, List.getElem?_map, List.getElem?_range hk, Option.map_some]
theorem crcTab_set {i : Nat} (h : i < 256) : (crcTab i).setIfInBounds i (.int .u32 ((Crc.steps 8 i : Nat) : Int)) = crcTab (i + 1) := by
  apply Array.ext_getElem?
  intro k
  rw [Array.getElem?_setIfInBounds, crcTab_size]
  by_cases hk : k < 256
  · rw [crcTab_at _ hk, crcTab_at _ hk]
    by_cases e : i = k
    · subst e; rw [if_pos rfl, if_pos h]; simp only [crcAt]; rw [if_pos (Nat.lt_succ_self _)]
    · rw [if_neg e]; simp only [crcAt]; have : (k < i + 1) = (k < i) := by { apply propext; omega }
      simp only [this]
  · rw [Array.getElem?_eq_none (by rw [crcTab_size]; omega), Array.getElem?_eq_none (by rw [crcTab_size]; omega)]
    split
    · omega
    · rfl
theorem crcTab_one : (crcTab 256).all (·.oneCell') = true := by kernel_rfl
theorem xor32 {a b : Nat} (ha : a < 4294967296) (hb : b < 4294967296) : bits .xor .u32 (a : Int) (b : Int) = ((a ^^^ b : Nat) : Int) := by
  have h : a ^^^ b < 2 ^ 32 := Nat.xor_lt_two_pow ha hb
  have e : bits .xor .u32 (a : Int) (b : Int) = IntKind.u32.wrap (((BitVec.ofNat 32 a ^^^ BitVec.ofNat 32 b).toNat : Nat) : Int) := rfl
  rw [e, BitVec.toNat_xor, BitVec.toNat_ofNat, BitVec.toNat_ofNat, Nat.mod_eq_of_lt ha, Nat.mod_eq_of_lt hb, IntKind.wrap_u32]
  omega
theorem xor8 {a : Nat} (ha : a < 256) (c : Int) : bits .xor .u8 (a : Int) c = ((a ^^^ Crc.byte c : Nat) : Int) := by
  have h : a ^^^ Crc.byte c < 2 ^ 8 := Nat.xor_lt_two_pow (n := 8) ha (Crc.byte_lt c)
  have e : bits .xor .u8 (a : Int) c = IntKind.u8.wrap (((BitVec.ofNat 8 a ^^^ BitVec.ofInt 8 c).toNat : Nat) : Int) := rfl
  rw [e, BitVec.toNat_xor, BitVec.toNat_ofNat, BitVec.toNat_ofInt, Nat.mod_eq_of_lt ha, IntKind.wrap_u8]
  rw [show (c % ((2 ^ 8 : Nat) : Int)).toNat = Crc.byte c from rfl]
  omega
theorem and32_1 {a : Nat} (ha : a < 4294967296) : bits .and .u32 (a : Int) 1 = ((a % 2 : Nat) : Int) := by
  have := bits_mask .u32 32 (by decide) (fun n h0 h1 => by rw [IntKind.wrap_u32]; omega) 1 (by decide) (a : Int) (by omega) (by omega)
  rw [show ((2 : Int) ^ 1 - 1) = 1 by decide] at this
  rw [this]; omega
/-- One step, as the program takes it. -/
theorem step_int {a : Nat} (ha : a < 4294967296) : bits .xor .u32 ((a : Int) / 2) (bits .and .u32 (a : Int) 1 * 3988292384 % 4294967296) = ((Crc.step a : Nat) : Int) := by
  rw [and32_1 ha, show (a : Int) / 2 = ((a / 2 : Nat) : Int) by omega]
  unfold Crc.step
  rw [Crc.shr1]
  rcases Nat.mod_two_eq_zero_or_one a with h | h
  · rw [h, if_neg (by decide), show ((0 : Nat) : Int) * 3988292384 % 4294967296 = ((0 : Nat) : Int) by decide]
    exact xor32 (by omega) (by decide)
  · rw [h, if_pos rfl, show ((1 : Nat) : Int) * 3988292384 % 4294967296 = ((Crc.poly : Nat) : Int) by decide]
    exact xor32 (by omega) (by decide)
theorem steps_s (j i : Nat) : Crc.steps (j + 1) i = Crc.step (Crc.steps j i) := Crc.steps_add j 1 i
theorem blk_new' {w : World} {g : Nat} {cs : Array Value} {t : TypeId} (hg : g = w.heap.size) : Blk (w.alloc (.cells cs t)) g cs t := hg ▸ Blk.new w cs t
theorem below_setRow {B : Nat} {w W : World} (h : Below B w W) {g : Nat} (hg : B ≤ g) (cs : Array Value) : Below B w (W.setRow g cs) :=
  ⟨h.os, h.tape, h.output, by rw [setRow_size]; exact h.size, fun k hk => by rw [setRow_other _ _ _ _ (by omega)]; exact h.block k hk⟩
set_option maxHeartbeats 1000000 in
set_option maxRecDepth 100000 in
theorem table_makes (w : World) : Calls Try.prog 27 #[] w fun e w' => e = .returned (.agg (crcTab 256)) ∧ Below w.heap.size w w' := by
  have hz := zero_of (P := Try.prog) (t := 52) (z := .agg crcZs) (by kernel_rfl)
  go_enter Try.func27, Try.ntmps27
  go_wp2_with fail
  obtain ⟨n0, hn0⟩ : ∃ n0, w.heap.size = n0 := ⟨_, rfl⟩
  simp only [hn0]
  go_loopw [4] (fun v wr => ∃ i : Nat, v = .int .i64 (i : Int) ∧ Aside0 (i ≤ 256) ∧ Aside0 (Blk wr (n0 + 1) (crcTab i) 52) ∧ Aside0 (Blk wr n0 crcZs 52) ∧ Aside0 (Below n0 w wr)) (fun v _ => (256 - intOf v).toNat)
  case atStart =>
    subst hn0
    exact ⟨0, rfl, ⟨by omega⟩, ⟨by rw [crcTab_zero]; exact blk_new' (by simp)⟩, ⟨(blk_new' rfl).alloc _⟩, ⟨((Below.refl _ _).alloc (Nat.le_refl _) _).alloc (by simp) _⟩⟩
  case round =>
    obtain ⟨i, rfl, hi, hb1, hb0, hB⟩ := hrel
    by_cases hc : (i : Int) < 256
    · have hcd : decide ((i : Int) < 256) = true := decide_eq_true hc
      have hw0 : IntKind.u32.wrap (i : Int) = (i : Int) := by rw [IntKind.wrap_u32]; omega
      go_wp2_with fail
      go_loopw [3, 9] (fun s v wr' => ∃ j : Nat, v = .int .i64 (j : Int) ∧ s = .int .u32 ((Crc.steps j i : Nat) : Int) ∧ Aside0 (j ≤ 8) ∧ wr' = wr) (fun _ v _ => (8 - intOf v).toNat)
      case atStart => exact ⟨0, rfl, rfl, ⟨by omega⟩, rfl⟩
      case round =>
        obtain ⟨j, rfl, rfl, hj, rfl⟩ := hrel
        by_cases hd : (j : Int) < 8
        · have hdd : decide ((j : Int) < 8) = true := decide_eq_true hd
          go_wp2_with fail
          refine ⟨⟨j + 1, rfl, ?_, ⟨by omega⟩, trivial⟩, ?_⟩
          · rw [steps_s, step_int (Crc.steps_lt (by omega))]
          · simp only [intOf]; omega
        · have hdd : decide ((j : Int) < 8) = false := decide_eq_false hd
          have hst : Crc.steps j i = Crc.steps 8 i := by have := hj.out; rw [show j = 8 by omega]
          have hc1 := hb1.out.cell i
          have hf1 := hb1.out.frozen i
          rw [crcTab_at _ (by omega)] at hc1
          go_wp2_with fail
          refine ⟨⟨i + 1, rfl, ⟨by omega⟩, ⟨?_⟩, ⟨hb0.out.far (by omega) _ _⟩, ⟨hB.out.setCell (by simp) _⟩⟩, ?_⟩
          · rw [← crcTab_set (by omega)]; exact hb1.out.set _ _
          · simp only [intOf]; omega
    · have hcd : decide ((i : Int) < 256) = false := decide_eq_false hc
      have hst : crcTab i = crcTab 256 := by have := hi.out; rw [show i = 256 by omega]
      have hsz := crcTab_size i
      have hb1' := Aside0.mk (show Blk wr (n0 + 1) (crcTab 256) 52 from hst ▸ hb1.out)
      clear hb1 hst
      go_wp2_with (first
        | refine wpList_load_row rfl 52 (.tmp 1) rfl (n0 + 1) rfl 52 (crcTab 256) (0, 0) _ hb1'.out Try.underlying52 rfl (by kernel_rfl) ?_
        | refine wpList_store_row rfl 52 (.tmp 0) (.tmp 22) rfl n0 (crcTab 256) rfl rfl 52 crcZs hb0.out (by kernel_rfl) (by kernel_rfl) crcTab_one ?_)
      exact bodyPost_ret (results_cell_row rfl _ _ n0 52 (crcTab 256) (0, 0) _ rfl (setRow_heap _ _ _ _ _ _ hb0.out) Try.underlying52 rfl (by kernel_rfl)) rfl ⟨rfl, below_setRow hB.out (Nat.le_refl _) _⟩
theorem sum_snoc (s : Nat) (l : List Int) (k : Nat) (hk : k < l.length) : Crc.run s ((l.take (k + 1)).map Crc.byte) = Crc.steps 8 (Crc.run s ((l.take k).map Crc.byte) ^^^ Crc.byte (l.getD k 0)) := by
  rw [List.take_succ_eq_append_getElem hk, List.map_append, Crc.run_append, List.getD_eq_getElem?_getD, List.getElem?_eq_getElem hk]
  rfl
/-- One byte, as the program takes it. -/
theorem byte_int {s : Nat} (hs : s < 4294967296) (c : Int) : ((s : Int) % 256 = ((s % 256 : Nat) : Int)) ∧ bits .xor .u8 ((s : Int) % 256) c = (((s % 256) ^^^ Crc.byte c : Nat) : Int) ∧ (s % 256) ^^^ Crc.byte c < 256 ∧
    bits .xor .u32 ((s : Int) / 256) ((Crc.steps 8 ((s % 256) ^^^ Crc.byte c) : Nat) : Int) = ((Crc.steps 8 (s ^^^ Crc.byte c) : Nat) : Int) := by
  have h0 : (s : Int) % 256 = ((s % 256 : Nat) : Int) := by omega
  have h1 : (s % 256) ^^^ Crc.byte c < 256 := Nat.xor_lt_two_pow (n := 8) (show s % 256 < 2 ^ 8 by omega) (Crc.byte_lt c)
  refine ⟨h0, by rw [h0]; exact xor8 (by omega) c, h1, ?_⟩
  rw [show (s : Int) / 256 = ((s / 256 : Nat) : Int) by omega, xor32 (by omega) (Crc.steps_lt (Nat.lt_of_lt_of_le h1 (by decide)))]
  congr 1
  have e : s ^^^ Crc.byte c = (2 ^ 8 * (s / 256)) ^^^ ((s % 256) ^^^ Crc.byte c) := by
    have h := Crc.num_cons_xor (c := s % 256) (N := s / 256) (by omega)
    rw [show s % 256 + 256 * (s / 256) = s by omega] at h
    rw [← Nat.xor_assoc, Nat.xor_comm (2 ^ 8 * (s / 256)), ← h]
  rw [e, Crc.steps_xor 8 (2 ^ 8 * (s / 256)), Crc.steps_shift]
set_option maxHeartbeats 1000000 in
set_option maxRecDepth 100000 in
theorem fcs_Sum.calls (A0 : Option Addr) (c0 : Nat) (l0 : List Int) (r : Int) (w : World) (hr0 : Kd.C (Kd.int .u8) w A0 l0.length l0) (hc0 : l0.length ≤ c0) (h : fcs_Sum.f l0 = some r) :
    Calls Try.prog 24 #[.slice A0 l0.length c0] w fun e w' => e = .returned (.int .u32 r) ∧ Below w.heap.size w w' := by
  obtain rfl := Option.some.inj h
  clear h
  have hl : l0.length ≤ 9223372036854775807 := Kd.C_max hr0
  have HR := Aside0.mk hr0
  clear hr0
  have hz := zero_of (P := Try.prog) (t := 52) (z := .agg crcZs) (by kernel_rfl)
  go_enter Try.func24, Try.ntmps24
  go_wp2_with fail
  refine (table_makes _).mono ?_
  rintro e w1 ⟨rfl, hb1⟩
  obtain ⟨n1, hn1⟩ : ∃ n1, w1.heap.size = n1 := ⟨_, rfl⟩
  have hn1' : w.heap.size ≤ n1 := hn1 ▸ hb1.size
  have HB1 := Aside0.mk hb1
  clear hb1
  have HBk := Aside0.mk (show Blk (w1.alloc (.cells crcZs 52)) n1 crcZs 52 from blk_new' hn1.symm)
  go_wp2_with (first
    | (rw [hn1]; refine wpList_store_row rfl 52 (.tmp 3) (.tmp 7) rfl n1 (crcTab 256) rfl rfl 52 crcZs HBk.out (by kernel_rfl) (by kernel_rfl) crcTab_one ?_)
    | refine wpList_store_row rfl 52 (.tmp 3) (.tmp 7) rfl n1 (crcTab 256) rfl rfl 52 crcZs HBk.out (by kernel_rfl) (by kernel_rfl) crcTab_one ?_)
  obtain ⟨W, hW⟩ : ∃ W, (w1.alloc (.cells crcZs 52)).setRow n1 (crcTab 256) = W := ⟨_, rfl⟩
  simp only [hW]
  have hBk := Aside0.mk (show Blk W n1 (crcTab 256) 52 from hW ▸ setRow_heap _ _ _ _ _ _ HBk.out)
  have HB := Aside0.mk (show Below w.heap.size w W by rw [← hW]; exact below_setRow (HB1.out.alloc HB1.out.size _) hn1' _)
  have HC := Aside0.mk (Kd.C_below HR.out HB.out)
  clear hW hz HBk HR HB1 hn1 hn1'
  go_loopw [4, 10] (fun s v wr => ∃ k : Nat, v = .int .i64 (k : Int) ∧ s = .int .u32 ((Crc.run Crc.ff ((l0.take k).map Crc.byte) : Nat) : Int) ∧ Aside0 (k ≤ l0.length) ∧ wr = W) (fun _ v _ => (l0.length - intOf v).toNat)
  case atStart => exact ⟨0, rfl, rfl, ⟨Nat.zero_le _⟩, rfl⟩
  case round =>
    obtain ⟨k, rfl, rfl, hk, rfl⟩ := hrel
    obtain ⟨s, hs⟩ : ∃ s, Crc.run Crc.ff ((l0.take k).map Crc.byte) = s := ⟨_, rfl⟩
    have hs32 : s < 4294967296 := by rw [← hs]; exact Crc.run_lt (by intro c hc; obtain ⟨x, _, rfl⟩ := List.mem_map.1 hc; exact Crc.byte_lt x) Crc.ff_lt
    have Hs := Aside0.mk hs
    rw [hs]
    clear hs
    by_cases hd : (k : Int) < (l0.length : Int)
    · have hdd : decide ((k : Int) < (l0.length : Int)) = true := decide_eq_true hd
      obtain ⟨ad, cs, rfl, hcl, hK, hcc⟩ := Kd.C_get HC.out 0 (k : Int) (by omega) hd
      obtain ⟨c, hc⟩ : ∃ c, l0.getD (k : Int).toNat 0 = c := ⟨_, rfl⟩
      rw [hc] at hK
      have hK' : cs = [.int .u8 c] := hK
      subst hK'
      have hq : wr.cell? (ad.add k) = some (.int .u8 c) := by have := hcc 0 _ rfl; rw [show ((k : Int).toNat * (Kd.int .u8).sz + 0) = k from by show (k : Int).toNat * 1 + 0 = k; omega] at this; exact this
      clear hcl hK hcc
      obtain ⟨b1, b2, b3, b4⟩ := byte_int hs32 c
      have ht := hBk.out.cell ((s % 256) ^^^ Crc.byte c)
      rw [crcTab_at _ b3, crcAt, if_pos b3] at ht
      clear b1
      go_wp2_with fail
      refine ⟨⟨k + 1, rfl, ?_, ⟨by omega⟩, trivial⟩, ?_⟩
      · rw [sum_snoc _ _ _ (by omega), Hs.out, show l0.getD k 0 = c from hc]
      · simp only [intOf]; omega
    · have hdd : decide ((k : Int) < (l0.length : Int)) = false := decide_eq_false hd
      go_wp2_with fail
      have hx : bits .xor .u32 IntKind.u32.max (s : Int) = ((Crc.sum (l0.map Crc.byte) : Nat) : Int) := by
        rw [show IntKind.u32.max = ((Crc.ff : Nat) : Int) from rfl, xor32 (by decide) hs32, Nat.xor_comm, Crc.sum, ← Hs.out, List.take_of_length_le (by have := hk.out; omega)]
      rw [hx]
      go_ret
      exact ⟨rfl, HB.out⟩

end Go.Proofs.Ytepfjmmbjbfboaa.F
