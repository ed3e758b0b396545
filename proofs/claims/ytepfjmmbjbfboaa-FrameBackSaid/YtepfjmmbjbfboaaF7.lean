-- A text out of a program of this session's. Not trusted: Lean checks it.
import Derived.Test.YtepfjmmbjbfboaaF0
import Derived.Test.YtepfjmmbjbfboaaF2
import Derived.Test.YtepfjmmbjbfboaaF5
import Derived.Test.YtepfjmmbjbfboaaF6
import Derived.Test.YtepfjmmbjbfboaaCrc
import Derived.Lib.Strings
import Derived.IntWalk
namespace Go.Proofs.Ytepfjmmbjbfboaa.F
open Go.RowKit Go.Proofs.YtepfjmmbjbfboaaW.PrintWords Go.Proofs.YtepfjmmbjbfboaaW.PrintLast Go.Proofs.YtepfjmmbjbfboaaW.PrintMore
attribute [local go_sem] max2_int min2_int max_two min_two max_three min_three max_four min_four   -- for this text's walks alone
set_option linter.unusedVariables false
set_option linter.unusedSimpArgs false

/-! ### bowlineref02_Open: function 16 (given) -/
-- GIVEN rounds=0 making=1
-- IMPORTS Derived.Test.YtepfjmmbjbfboaaCrc,Derived.Lib.Strings,Derived.IntWalk
/-- Bytes that are bytes. -/
def Oct (l : List Int) : Prop := ∀ x ∈ l, 0 ≤ x ∧ x < 256
theorem Oct.take {l : List Int} (h : Oct l) (n : Nat) : Oct (l.take n) := fun x hx => h x (List.mem_of_mem_take hx)
theorem Oct.drop {l : List Int} (h : Oct l) (n : Nat) : Oct (l.drop n) := fun x hx => h x (List.mem_of_mem_drop hx)
theorem Oct.append {a b : List Int} (h : Oct a) (k : Oct b) : Oct (a ++ b) := fun x hx => by
  rcases List.mem_append.1 hx with hx | hx
  · exact h x hx
  · exact k x hx
theorem Oct.of_wf {l : List Int} (h : ∀ x ∈ l, (Lit.int .u8 x).wf = true) : Oct l := fun x hx => by
  have := h x hx
  simp [Lit.wf, IntKind.min, IntKind.max, IntKind.signed, IntKind.bits] at this
  omega
theorem oct_four (s : Nat) : Oct ((Crc.four s).map Int.ofNat) := by
  intro x hx
  obtain ⟨y, hy, rfl⟩ := List.mem_map.1 hx
  simp only [Crc.four, List.mem_cons, List.not_mem_nil, or_false, Int.ofNat_eq_natCast] at hy ⊢
  omega
theorem str_inj {a b : List Int} (ha : Oct a) (hb : Oct b) : (strOfNums a).toList = (strOfNums b).toList ↔ a = b := by
  constructor
  · intro h
    have key : ∀ l : List Int, Oct l → (l.map fun n => UInt8.ofNat n.toNat).map (fun u => (u.toNat : Int)) = l := by
      intro l hl
      rw [List.map_map]
      conv => rhs; rw [← List.map_id l]
      apply List.map_congr_left
      intro x hx
      have := hl x hx
      simp only [Function.comp, id]
      rw [show (UInt8.ofNat x.toNat).toNat = x.toNat % 256 by simp]
      omega
    rw [ByteArray.toList_eq, ByteArray.toList_eq, strOfNums_data, strOfNums_data] at h
    have h2 := congrArg (List.map fun u : UInt8 => (u.toNat : Int)) h
    rw [key a ha, key b hb] at h2
    exact h2
  · rintro rfl; rfl
theorem byte_oct {x : Int} (h : 0 ≤ x ∧ x < 256) : Crc.byte x = x.toNat := by unfold Crc.byte; omega
/-! ### The document's sum -/
theorem refstep {a : Nat} (ha : a < 4294967296) : (if (Int.tmod (a : Int) 2) = 1 then Go.bits .xor .u32 ((Int.tdiv (a : Int) 2) % 4294967296) 3988292384 else (Int.tdiv (a : Int) 2) % 4294967296) = ((Crc.step a : Nat) : Int) := by
  have e1 : Int.tmod (a : Int) 2 = ((a % 2 : Nat) : Int) := by rw [Int.tmod_eq_emod_of_nonneg (by omega)]; omega
  have e2 : Int.tdiv (a : Int) 2 % 4294967296 = ((a / 2 : Nat) : Int) := by rw [Int.tdiv_eq_ediv_of_nonneg (by omega)]; omega
  rw [e1, e2]
  unfold Crc.step
  rw [Crc.shr1]
  rcases Nat.mod_two_eq_zero_or_one a with h | h
  · rw [h, if_neg (by decide), if_neg (by decide)]; simp
  · rw [h, if_pos (by decide), if_pos rfl]
    exact xor32 (b := 3988292384) (by omega) (by decide)
theorem refsum_l1 (l : List Int) (i : Int) : ∀ (d j k : Nat) (s : Nat), s < 4294967296 → j + d = 8 → bowlineref02_Sum.l1 (k + 1 + d) l (s : Int) i (j : Int) = bowlineref02_Sum.l0 k l ((Crc.steps d s : Nat) : Int) (wrap64 (i + 1)) := by
  intro d
  induction d with
  | zero =>
    intro j k s hs hj
    rw [Nat.add_zero, bowlineref02_Sum.l1, if_neg (by omega)]
    rfl
  | succ d ih =>
    intro j k s hs hj
    have hw : wrap64 ((j : Int) + 1) = ((j + 1 : Nat) : Int) := by unfold wrap64; omega
    have := ih (j + 1) k (Crc.step s) (Crc.step_lt hs) (by omega)
    rw [show k + 1 + (d + 1) = (k + 1 + d) + 1 by omega, bowlineref02_Sum.l1, if_pos (by omega), hw]
    rw [show Crc.steps (d + 1) s = Crc.steps d (Crc.step s) from rfl, ← this, ← refstep hs]
    split <;> rfl
theorem refsum_l0 (l : List Int) (hl : Oct l) (hn : l.length < 4611686018427387904) : ∀ (d i k : Nat) (s : Nat), s < 4294967296 → i + d = l.length → 10 * d < k → bowlineref02_Sum.l0 k l (s : Int) (i : Int) = some (((Crc.run s ((l.drop i).map Crc.byte) ^^^ Crc.ff : Nat)) : Int) := by
  intro d
  induction d with
  | zero =>
    intro i k s hs hi hk
    obtain ⟨k, rfl⟩ : ∃ m, k = m + 1 := ⟨k - 1, by omega⟩
    rw [bowlineref02_Sum.l0, if_neg (by omega), List.drop_eq_nil_of_le (by omega)]
    simp only [List.map_nil, Crc.run]
    exact congrArg some (xor32 (b := 4294967295) hs (by decide))
  | succ d ih =>
    intro i k s hs hi hk
    obtain ⟨k, rfl⟩ : ∃ m, k = m + 1 + 8 + 1 := ⟨k - 10, by omega⟩
    obtain ⟨x, hx⟩ : ∃ x, l[i]? = some x := ⟨_, List.getElem?_eq_getElem (by omega)⟩
    have hxo := hl x (List.mem_of_getElem? hx)
    have hrd : rd l (i : Int) = x := by simp [rd, List.getD_eq_getElem?_getD, hx]
    have hb := byte_oct hxo
    have hbl := Crc.byte_lt x
    have hw : wrap64 ((i : Int) + 1) = ((i + 1 : Nat) : Int) := by unfold wrap64; omega
    rw [bowlineref02_Sum.l0, if_pos (by omega), if_pos (by omega), hrd, show x % 4294967296 = ((Crc.byte x : Nat) : Int) by omega, xor32 hs (by omega)]
    have hx32 : s ^^^ Crc.byte x < 4294967296 := Nat.xor_lt_two_pow (n := 32) hs (by omega)
    rw [show (0 : Int) = ((0 : Nat) : Int) from rfl, refsum_l1 l i 8 0 k _ hx32 (by omega), hw, ih (i + 1) k _ (Crc.steps_lt hx32) (by omega) (by omega)]
    rw [List.drop_eq_getElem_cons (show i < l.length by omega), List.map_cons, Crc.run]
    rw [List.getElem?_eq_getElem (by omega)] at hx
    rw [Option.some.inj hx]
theorem refsum_eq (l : List Int) (hl : Oct l) (hn : l.length < 4611686018427387904) (k : Nat) (hk : 10 * l.length < k) : bowlineref02_Sum.f k l = some ((Crc.sum (l.map Crc.byte) : Nat) : Int) := by
  have := refsum_l0 l hl hn l.length 0 k 4294967295 (by decide) (by omega) hk
  exact this
def sealN (l : List Int) : List Int := l ++ (Crc.four (Crc.sum (l.map Crc.byte))).map Int.ofNat
theorem refseal_eq (l : List Int) (hl : Oct l) (hn : l.length + 4 < 140737488355328) (k : Nat) (hk : 10 * l.length < k) : bowlineref02_Seal.f k l = some (sealN l) := by
  unfold bowlineref02_Seal.f
  rw [refsum_eq l hl (by omega) k hk]
  simp only [Option.bind_some, List.nil_append, List.length_nil, List.length_cons]
  rw [if_pos (by omega), if_pos (by omega), sealN, four_int]
instance (l : List Int) : Decidable (Oct l) := inferInstanceAs (Decidable (∀ x ∈ l, 0 ≤ x ∧ x < 256))
/-- What opens: bytes that are sealed. -/
def refopen (l : List Int) : List Int × Bool := if 4 ≤ l.length ∧ sealN (l.take (l.length - 4)) = l then (l.take (l.length - 4), true) else ([], false)
def bowlineref02_Open.f (l0 : List Int) : Option (List Int × Bool) := if Oct l0 ∧ l0.length + 4 < 140737488355328 then some (refopen l0) else none
set_option maxHeartbeats 1000000 in
set_option maxRecDepth 100000 in
theorem bowlineref02_Open.calls (A0 : Option Addr) (c0 : Nat) (l0 : List Int) (r1 : List Int) (r2 : Bool) (w : World) (hr0 : Kd.C (Kd.int .u8) w A0 l0.length l0) (hc0 : l0.length ≤ c0) (h : bowlineref02_Open.f l0 = some (r1, r2)) :
    Calls Try.prog 16 #[.slice A0 l0.length c0] w fun e w' => ∃ v0_ : Value, e = .returned (.tuple #[v0_, .bool r2]) ∧ Kd.R (Kd.int .u8) 5 w' w.heap.size (fun _ => True) v0_ r1 ∧ Below w.heap.size w w' := by
  unfold bowlineref02_Open.f at h
  by_cases ho : Oct l0 ∧ l0.length + 4 < 140737488355328
  case neg => rw [if_neg ho] at h; cases h
  rw [if_pos ho] at h
  have H := Option.some.inj h
  clear h
  have HO := Aside0.mk ho.1
  have hl := ho.2
  clear ho
  have HR := Aside0.mk hr0
  have HC := Aside0.mk hc0
  clear hr0 hc0
  unfold refopen at H
  by_cases h4 : 4 ≤ l0.length
  case neg =>
    rw [if_neg (fun h => h4 h.1)] at H
    injection H with e1 e2
    subst e1 e2
    have hd : decide ((l0.length : Int) < 4) = true := decide_eq_true (by omega)
    have HB := Aside0.mk (Below.refl w.heap.size w)
    go_enter Try.func16, Try.ntmps16
    go_wp2_with fail
    go_ret2
    exact ⟨_, rfl, Kd.R_nil _ _ _ _ _, Below.refl _ _⟩
  have hd : decide ((l0.length : Int) < 4) = false := decide_eq_false (by omega)
  obtain ⟨x, hx⟩ : ∃ x, Aside0 (l0.take (l0.length - 4) = x) := ⟨_, ⟨rfl⟩⟩
  rw [hx.out] at H
  have hxl : x.length = l0.length - 4 := by rw [← hx.out, List.length_take]; omega
  have hxo := Aside0.mk (show Oct x from hx.out ▸ HO.out.take _)
  have hw4 : IntKind.i64.wrap ((l0.length : Int) - 4) = (l0.length : Int) - 4 := IntWalk.i64_in _ (by omega)
  have hcut : ∀ W : World, (Instr.slice 22 (.slice A0 l0.length c0) none (some (.int .i64 ((l0.length : Int) - 4))) none).run Try.prog W = .ok (.slice A0 x.length c0) W := by
    obtain ⟨i0, hi0, hz1, hsz0, hz2⟩ := info_parts info5
    intro W
    have := cut_to (P := Try.prog) 22 5 .i64 Try.underlying22 hi0 A0 l0.length c0 ((l0.length : Int) - 4) (by omega) (by omega) HC.out W
    rw [show ((l0.length : Int) - 4).toNat = x.length by omega] at this
    exact this
  have HX := Aside0.mk (show Kd.C (Kd.int .u8) w A0 x.length x by
    have := Kd.C_take HR.out (m := l0.length - 4) (Nat.sub_le _ _)
    rw [hx.out] at this
    exact this)
  have Hxl := Aside0.mk hxl
  clear hxl
  have hcv0 := fun (w' : World) (hb : Below w.heap.size w w') => Kd.C_string (P := Try.prog) (c := c0) Try.underlying22 Try.underlying5 Try.underlying9 (Kd.C_below HR.out hb)
  have Hcv0 := Aside0.mk hcv0
  clear hcv0
  have HB := Aside0.mk (Below.refl w.heap.size w)
  go_enter Try.func16, Try.ntmps16
  go_wp2_with (first
    | ((with_reducible refine gate_dst (N := 8) rfl ?_); refine Kd.R_lit (Kd.int .u8) (w0 := w) w.heap.size 5 ?hg (N := 8) ?hd (xs := ([] : List Int)) (inner := []) (ok := fun _ => True) (okp := fun _ => True) ?hr ?hp (fun _ hk => hk) trivial (Below.refl _ _) (Nat.le_refl _) (by simp) ?_; (case hd => rfl); (case hg => rfl); (case hr => first | (go_simp; done) | (go_simp; rfl)); (case hp => exact (Reps.none _ _)); intro v8 w8 ho8 hb8 hg_ hnew_; clear hg_ hnew_; have HO8 := Aside0.mk ho8; have HB8 := Aside0.mk hb8; clear ho8 hb8)
    | ((with_reducible refine gate_builtin (b := .append) (xs := #[.tmp 8, .tmp 13]) rfl ?_); at_builtin; refine Kd.R_append_rows (Kd.int .u8) (w0 := w) w.heap.size rfl (.tmp 8) (.tmp 13) 22 5 (.int .u8 0) 1 rfl Try.underlying22 info5 rfl (by decide) (by omega) v8 [] x _ _ _ (fun _ => True) (fun _ => False) rfl rfl HO8.out (Kd.C_below HX.out HB8.out) (fun _ _ h => h) (fun _ h => h.elim) (fun _ _ => trivial) HB8.out HB8.out.size (by have := Hxl.out; simp; omega) ?_; intro v9 w9 ho hb hg hat; have HO9 := Aside0.mk ho; have HB9 := Aside0.mk hb; clear ho hb hg hat; rw [List.nil_append] at HO9; obtain ⟨A9, c9, e9⟩ := Kd.R_slice HO9.out; subst e9))
  obtain ⟨y, hy⟩ : ∃ y, Aside0 (sealN x = y) := ⟨_, ⟨rfl⟩⟩
  rw [hy.out] at H
  have hyo := Aside0.mk (show Oct y from hy.out ▸ hxo.out.append (oct_four _))
  have hk := Aside0.mk (show bowlineref02_Seal.f (10 * x.length + 1) x = some y from hy.out ▸ refseal_eq x hxo.out (by have := Hxl.out; omega) _ (by omega))
  have S0 := Hcv0.out _ (below_drew1 HB9.out)
  refine start_ (n := 6) (S := fun w' => (convert 22 9 (.slice A0 l0.length c0)).run Try.prog w' = .ok (.string (strOfNums l0)) w') (ds := []) #[false, false, false, false, false, false] (by kernel_rfl) rfl rfl (S0) (fun hHeld => ?_)
  refine pure_ (i := 0) (N := some 15) (v := ?_) (a' := ?_) #[true, false, false, false, false, false] rfl rfl (by kernel_rfl) (fun _ _ _ h => h) (Or.inl ⟨by rfl, ?_⟩) ?_ ?_
  rotate_left
  · intro w'
    go_simp
    with_reducible rfl
  rotate_left
  · simp only [Act.put, List.setIfInBounds_toArray, List.set_cons_zero, List.set_cons_succ, i64_w, i32_w]
    rfl
  refine pure_ (i := 3) (N := some 18) (v := ?_) (a' := ?_) #[true, false, false, true, false, false] rfl rfl (by kernel_rfl) (fun _ _ _ h => h) (Or.inl ⟨by rfl, ?_⟩) ?_ ?_
  rotate_left
  · intro w'
    go_simp
    with_reducible rfl
  rotate_left
  · simp only [Act.put, List.setIfInBounds_toArray, List.set_cons_zero, List.set_cons_succ, i64_w, i32_w]
    rfl
  refine take_ (i := 4) (N := some 19) (v := ?_) (a' := ?_) #[true, false, false, true, true, false] rfl rfl (by kernel_rfl) (fun _ _ _ h => h) (Or.inl ⟨by rfl, ?_⟩) hHeld ?_ ?_
  rotate_left
  · intro w' s0
    go_simp
    with_reducible rfl
  rotate_left
  · simp only [Act.put, List.setIfInBounds_toArray, List.set_cons_zero, List.set_cons_succ, i64_w, i32_w]
    rfl
  refine one_ (i := 1) (N := some 16) #[true, true, false, true, true, false] rfl rfl (by kernel_rfl) (by decide) (fun K hK => ?_)
  refine goes_ Try.func17 (by kernel_rfl) rfl #[.slice A9 x.length c9] (by rfl) rfl rfl (by simp only [List.map_toArray, List.map_cons, List.map_nil]; rfl) ?_
  with_reducible refine (bowlineref02_Seal.calls (10 * x.length + 1) A9 c9 x y _ (Kd.R_reads' (Kd.R_drew HO9.out)).2.2 (Kd.R_reads' HO9.out).2.1 hk.out).mono ?_
  rintro e w10 ⟨v10, rfl, hR10, hb10⟩
  refine ⟨_, rfl, ?_⟩
  have HB10 := Aside0.mk ((below_drew1 HB9.out).trans (hb10.mono (below_drew1 HB9.out).size))
  have HO10 := Aside0.mk (Kd.R_mono (Kd.R_elder' (Kd.R_drew HO9.out) (Kd.R_base hR10) hb10) (fun _ _ => trivial))
  obtain ⟨A10, c10, e10⟩ := Kd.R_slice hR10
  subst e10
  have hcv10 := Kd.C_string (P := Try.prog) (c := c10) Try.underlying22 Try.underlying5 Try.underlying9 (Kd.R_reads' hR10).2.2
  have S1 := Hcv0.out _ HB10.out
  refine hK.out _ _ (S1) (fun hHeld => ?_)
  clear hK K
  refine norm_ (a' := ?_) ?_ ?_
  rotate_left
  · show Act.put _ (some 16) _ = _
    simp only [Act.put, List.setIfInBounds_toArray, List.set_cons_zero, List.set_cons_succ, i64_w, i32_w]
    rfl
  refine one_ (i := 2) (N := some 17) #[true, true, true, true, true, false] rfl rfl (by kernel_rfl) (by decide) (fun K hK => ?_)
  refine value_ (w1 := ?_) (v := ?_) (by rfl) rfl ?_ ?_
  rotate_left 2
  · go_simp
    constructor
    · rfl
    · rfl
  refine hK.out _ _ (S1) (fun hHeld => ?_)
  clear hK K
  refine norm_ (a' := ?_) ?_ ?_
  rotate_left
  · show Act.put _ (some 17) _ = _
    simp only [Act.put, List.setIfInBounds_toArray, List.set_cons_zero, List.set_cons_succ, i64_w, i32_w]
    rfl
  refine pure_ (i := 5) (N := some 20) (v := ?_) (a' := ?_) #[true, true, true, true, true, true] rfl rfl (by kernel_rfl) (fun _ _ _ h => h) (Or.inl ⟨by rfl, ?_⟩) ?_ ?_
  rotate_left
  · intro w'
    go_simp
    with_reducible rfl
  rotate_left
  · simp only [Act.put, List.setIfInBounds_toArray, List.set_cons_zero, List.set_cons_succ, i64_w, i32_w]
    rfl
  refine done_ (by kernel_rfl) ?_
  by_cases hq : y = l0
  · rw [if_pos ⟨h4, hq⟩] at H
    injection H with e1 e2
    subst e1 e2
    have hqb : ((strOfNums y).toList == (strOfNums l0).toList) = true := beq_iff_eq.mpr (by rw [hq])
    clear hq
    simp only [hqb, Bool.not_true, Bool.not_false]
    go_wp2_with fail
    go_ret2
    exact ⟨_, rfl, HO10.out, HB10.out⟩
  · rw [if_neg (fun h => hq h.2)] at H
    injection H with e1 e2
    subst e1 e2
    have hqb : ((strOfNums y).toList == (strOfNums l0).toList) = false := beq_eq_false_iff_ne.mpr (fun e => hq ((str_inj hyo.out HO.out).1 e))
    clear hq
    simp only [hqb, Bool.not_true, Bool.not_false]
    go_wp2_with fail
    go_ret2
    exact ⟨_, rfl, Kd.R_nil _ _ _ _ _, HB10.out⟩

end Go.Proofs.Ytepfjmmbjbfboaa.F
