/- What the functions of sums come to, in plain numbers. By this session. -/
import Derived.Test.YtepfjmmbjbfboaaF4
import Derived.Test.YtepfjmmbjbfboaaF5
import Derived.Test.YtepfjmmbjbfboaaF7
namespace Go.Proofs.Ytepfjmmbjbfboaa.F
open Go.RowKit Go.Proofs.YtepfjmmbjbfboaaW.PrintWords Go.Proofs.YtepfjmmbjbfboaaW.PrintLast Go.Proofs.YtepfjmmbjbfboaaW.PrintMore
set_option linter.unusedVariables false
theorem sum_eq (l : List Int) : fcs_Sum.f l = some ((Crc.sum (l.map Crc.byte) : Nat) : Int) := rfl
theorem seal_eq (l : List Int) (h : l.length + 4 ≤ 140737488355328) : fcs_Seal.f l = some (sealN l) := if_pos h
theorem sealN_len (l : List Int) : (sealN l).length = l.length + 4 := by simp [sealN, Crc.four]
theorem sealN_oct {l : List Int} (h : Oct l) : Oct (sealN l) := h.append (oct_four _)
theorem bytes_lt (l : List Int) : ∀ c ∈ l.map Crc.byte, c < 256 := by
  intro c hc
  obtain ⟨x, _, rfl⟩ := List.mem_map.1 hc
  exact Crc.byte_lt x
theorem map_byte_oct {l : List Int} (h : Oct l) : (l.map Crc.byte).map Int.ofNat = l := by
  rw [List.map_map]
  conv => rhs; rw [← List.map_id l]
  apply List.map_congr_left
  intro x hx
  have := h x hx
  simp only [Function.comp, id, Int.ofNat_eq_natCast]
  rw [byte_oct this]; omega
theorem map_byte_ofNat {l : List Nat} (h : ∀ c ∈ l, c < 256) : (l.map Int.ofNat).map Crc.byte = l := by
  rw [List.map_map]
  conv => rhs; rw [← List.map_id l]
  apply List.map_congr_left
  intro x hx
  have := h x hx
  simp only [Function.comp, id, Int.ofNat_eq_natCast, Crc.byte]
  omega
theorem four_lt (s : Nat) : ∀ c ∈ Crc.four s, c < 256 := by
  intro c hc
  simp only [Crc.four, List.mem_cons, List.not_mem_nil, or_false] at hc
  omega
/-- Whatever has the sum 'rest' is sealed, and nothing else has. -/
theorem rest_iff {l : List Int} (ho : Oct l) (h4 : 4 ≤ l.length) : Crc.sum (l.map Crc.byte) = Crc.rest ↔ sealN (l.take (l.length - 4)) = l := by
  obtain ⟨a, t, hl, ht⟩ : ∃ a t, l = a ++ t ∧ t.length = 4 := ⟨l.take (l.length - 4), l.drop (l.length - 4), (List.take_append_drop _ _).symm, by rw [List.length_drop]; omega⟩
  have e : l.take (l.length - 4) = a := by rw [hl, List.take_left' (by rw [List.length_append]; omega)]
  have hto : Oct t := fun x hx => ho x (hl ▸ List.mem_append.2 (.inr hx))
  rw [e, hl, List.map_append, Crc.sum_rest (bytes_lt a) (bytes_lt t) (by rw [List.length_map]; exact ht), sealN]
  have hs := Crc.sum_lt (bytes_lt a)
  constructor
  · intro h
    congr 1
    rw [← h]
    match t, ht, hto with
    | [x, y, z, v], _, hto =>
      show (Crc.four (Crc.num [Crc.byte x, Crc.byte y, Crc.byte z, Crc.byte v])).map Int.ofNat = _
      rw [Crc.four_num (Crc.byte_lt x) (Crc.byte_lt y) (Crc.byte_lt z) (Crc.byte_lt v)]
      exact map_byte_oct hto
  · intro h
    have h2 := List.append_cancel_left h
    rw [← h2, map_byte_ofNat (four_lt _), Crc.num_four hs]
theorem wz {x : Int} (h1 : -9223372036854775808 ≤ x) (h2 : x < 9223372036854775808) : wrap64 x = x := by unfold wrap64; omega
theorem open_eq (l : List Int) (ho : Oct l) (hn : l.length + 4 < 140737488355328) : fcs_Open.f l = some (refopen l) := by
  unfold fcs_Open.f refopen
  by_cases h4 : 4 ≤ l.length
  · rw [if_neg (by omega), sum_eq, Option.bind_some]
    have hr := rest_iff ho h4
    have hw : wrap64 ((l.length : Int) - 4) = (l.length : Int) - 4 := wz (by omega) (by omega)
    have hz : ((l.length : Int) - 4).toNat = l.length - 4 := by omega
    by_cases hs : Crc.sum (l.map Crc.byte) = Crc.rest
    · rw [if_pos (by rw [hs]; rfl), hw, if_pos (by omega), if_pos (by omega), if_pos ⟨h4, hr.1 hs⟩, hz]
      unfold slices_Clone_byte_byte.f
      rw [if_pos (by rw [List.length_take]; omega), Option.bind_some]
    · rw [if_neg (fun e => hs (by have h2 : (Crc.sum (l.map Crc.byte) : Int) = ((Crc.rest : Nat) : Int) := e
                                  omega)), if_neg (fun h => hs (hr.2 h.2))]
  · rw [if_pos (by omega), if_neg (fun h => h4 h.1)]
theorem refopen_seal (l : List Int) : refopen (sealN l) = (l, true) := by
  have hl := sealN_len l
  have e : (sealN l).take ((sealN l).length - 4) = l := by
    rw [hl, show l.length + 4 - 4 = l.length by omega]
    exact List.take_left' rfl
  unfold refopen
  rw [e, if_pos ⟨by omega, rfl⟩]
/-- What opens is what was sealed. -/
theorem refopen_true {l : List Int} (h : (refopen l).2 = true) : sealN (refopen l).1 = l ∧ (refopen l).1.length + 4 = l.length := by
  unfold refopen at h ⊢
  split at h
  next hc =>
    rw [if_pos hc]
    exact ⟨hc.2, by show (l.take _).length + 4 = _; rw [List.length_take]; omega⟩
  · cases h
theorem refopen_false {l : List Int} (h : (refopen l).2 = false) : refopen l = ([], false) := by
  unfold refopen at h ⊢
  split at h
  · cases h
  next hc => rw [if_neg hc]
theorem refopen_oct {l : List Int} (h : Oct l) : Oct (refopen l).1 := by
  unfold refopen
  split
  · exact h.take _
  · intro x hx; cases hx
/-- Bits turned are told. -/
theorem burst_open {a b : List Int} (ha : Oct a) (hb : Oct b) (hn : a.length + 4 < 140737488355328) {k bits : Nat} (hlen : b.length = a.length + 4) (hbits : bits < 2 ^ 32) (hk : k + 32 ≤ 8 * b.length) (hN : Crc.num (b.map Crc.byte) = Crc.num ((sealN a).map Crc.byte) ^^^ (2 ^ k * bits)) :
    (refopen b).2 = decide (bits = 0) := by
  have h1 := Crc.run_burst (bytes_lt (sealN a)) (bytes_lt b) (by rw [List.length_map, List.length_map, sealN_len, hlen]) hbits (by rw [List.length_map, sealN_len]; omega) hN Crc.ff
  have h2 : Crc.sum ((sealN a).map Crc.byte) = Crc.rest := (rest_iff (sealN_oct ha) (by rw [sealN_len]; omega)).2 (by
    rw [sealN_len, show a.length + 4 - 4 = a.length by omega, show (sealN a).take a.length = a from List.take_left' rfl])
  have h3 := rest_iff hb (by omega)
  by_cases h0 : bits = 0
  · have e : Crc.sum (b.map Crc.byte) = Crc.rest := by rw [← h2, Crc.sum, Crc.sum, h1.2 h0]
    unfold refopen
    rw [if_pos ⟨by omega, h3.1 e⟩, decide_eq_true h0]
  · have e : sealN (b.take (b.length - 4)) ≠ b := by
      intro e
      have := h3.2 e
      rw [← h2] at this
      exact h0 (h1.1 (by
        have := congrArg (· ^^^ Crc.ff) this
        simpa only [Crc.sum, Crc.xor_cancel] using this))
    unfold refopen
    rw [if_neg (fun h => e h.2), decide_eq_false h0]
theorem mod_pow_s (b i : Nat) : b % 2 ^ (i + 1) = (b % 2 ^ i) ^^^ (if b / 2 ^ i % 2 = 1 then 2 ^ i else 0) := by
  apply Nat.eq_of_testBit_eq
  intro j
  rw [Nat.testBit_xor, Nat.testBit_mod_two_pow, Nat.testBit_mod_two_pow]
  have hb : (b / 2 ^ i % 2 = 1) ↔ b.testBit i = true := by rw [Nat.testBit_eq_decide_div_mod_eq, decide_eq_true_iff]
  by_cases h1 : b / 2 ^ i % 2 = 1
  · rw [if_pos h1, Nat.testBit_two_pow]
    have hb' := hb.1 h1
    by_cases e : i = j
    · subst e; simp [hb']
    · by_cases hj : j < i
      · simp [hj, e, show j < i + 1 by omega]
      · simp [hj, e, show ¬ j < i + 1 by omega]
  · rw [if_neg h1]
    have hb' : b.testBit i = false := by
      rcases h : b.testBit i with _ | _
      · rfl
      · exact absurd (hb.2 h) h1
    by_cases e : i = j
    · subst e; simp [hb']
    · by_cases hj : j < i
      · simp [hj, show j < i + 1 by omega]
      · simp [hj, show ¬ j < i + 1 by omega]
theorem mul_xor (k a b : Nat) : 2 ^ k * (a ^^^ b) = (2 ^ k * a) ^^^ (2 ^ k * b) := by
  apply Nat.eq_of_testBit_eq
  intro j
  simp only [Nat.testBit_xor, Nat.testBit_two_pow_mul]
  cases decide (j ≥ k) <;> simp
/-- One more of the bits. -/
theorem turn_step {X : List Nat} (hX : ∀ c ∈ X, c < 256) {M k bits i : Nat} (hi : i < 32) (hk : k + 32 ≤ 8 * X.length) (hN : Crc.num X = M ^^^ (2 ^ k * (bits % 2 ^ i))) :
    Crc.num (if bits / 2 ^ i % 2 = 1 then X.set ((k + i) / 8) (X.getD ((k + i) / 8) 0 ^^^ 2 ^ ((k + i) % 8)) else X) = M ^^^ (2 ^ k * (bits % 2 ^ (i + 1))) := by
  rw [mod_pow_s bits i, mul_xor, ← Nat.xor_assoc, ← hN]
  by_cases h : bits / 2 ^ i % 2 = 1
  · rw [if_pos h, if_pos h, Crc.num_set hX (by omega), Nat.pow_add]
  · rw [if_neg h, if_neg h, Nat.mul_zero, Nat.xor_zero]
/-- The bytes behind it, as the program has them. -/
theorem turn_int {X : List Nat} (hX : ∀ c ∈ X, c < 256) {j : Nat} (hj : j < 8 * X.length) :
    (X.map Int.ofNat).set (j / 8) (Go.bits .xor .u8 (rd (X.map Int.ofNat) ((j / 8 : Nat) : Int)) (shl .u8 1 ((j % 8 : Nat) : Int))) = (X.set (j / 8) (X.getD (j / 8) 0 ^^^ 2 ^ (j % 8))).map Int.ofNat := by
  have hr : rd (X.map Int.ofNat) ((j / 8 : Nat) : Int) = ((X.getD (j / 8) 0 : Nat) : Int) := by
    rw [rd, Int.toNat_natCast, List.getD_eq_getElem?_getD, List.getD_eq_getElem?_getD, List.getElem?_map, List.getElem?_eq_getElem (by omega)]
    rfl
  have hg : X.getD (j / 8) 0 < 256 := by
    rw [List.getD_eq_getElem?_getD, List.getElem?_eq_getElem (by omega)]; exact hX _ (List.getElem_mem _)
  have hp : 2 ^ (j % 8) < 2 ^ 8 := Nat.pow_lt_pow_right (by decide) (by omega)
  have hs : shl .u8 1 ((j % 8 : Nat) : Int) = ((2 ^ (j % 8) : Nat) : Int) := by
    unfold shl
    rw [Int.toNat_natCast, show min (j % 8) IntKind.u8.bits = j % 8 from Nat.min_eq_left (by show j % 8 ≤ 8; omega), IntKind.wrap_u8, Int.one_mul, show (2 : Int) ^ (j % 8) = ((2 ^ (j % 8) : Nat) : Int) by push_cast; rfl]
    generalize (2 ^ (j % 8) : Nat) = p at hp ⊢
    omega
  have hbp : Crc.byte ((2 ^ (j % 8) : Nat) : Int) = 2 ^ (j % 8) := by
    generalize (2 ^ (j % 8) : Nat) = p at hp ⊢
    unfold Crc.byte
    omega
  rw [hr, hs, xor8 hg, hbp, List.map_set]
  rfl
theorem turn_lt {X : List Nat} (hX : ∀ c ∈ X, c < 256) {j : Nat} (hj : j < 8 * X.length) : ∀ c ∈ X.set (j / 8) (X.getD (j / 8) 0 ^^^ 2 ^ (j % 8)), c < 256 := Crc.set_lt hX hj
end Go.Proofs.Ytepfjmmbjbfboaa.F
