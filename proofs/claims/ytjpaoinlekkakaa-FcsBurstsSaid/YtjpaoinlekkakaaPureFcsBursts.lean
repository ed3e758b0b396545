import Derived.Test.YtjpaoinlekkakaaF9
import Derived.Test.YtjpaoinlekkakaaFcsPlain
namespace Go.Proofs.Ytjpaoinlekkakaa.Pure
open Go.RowKit Go.Proofs.Ytjpaoinlekkakaa.F Go.Proofs.YtjpaoinlekkakaaW.PrintWords Go.Proofs.YtjpaoinlekkakaaW.PrintLast Go.Proofs.YtjpaoinlekkakaaW.PrintMore
set_option linter.unusedVariables false
/-- The loop that turns bits. -/
theorem bursts_l0 (bits k M L : Nat) (hb : bits < 4294967296) (hk : k + 32 ≤ 8 * L) (hL : L < 1000000) : ∀ (d i n : Nat) (X : List Nat), (∀ c ∈ X, c < 256) → X.length = L → i + d = 32 → d + 1 < n → Crc.num X = M ^^^ (2 ^ k * (bits % 2 ^ i)) →
    ∃ Y : List Nat, (∀ c ∈ Y, c < 256) ∧ Y.length = L ∧ Crc.num Y = M ^^^ (2 ^ k * bits) ∧ bowlinelaw02_FcsBursts.l0 n (bits : Int) true (k : Int) (X.map Int.ofNat) (i : Int) = (fcs_Open.f (Y.map Int.ofNat)).bind fun bt => some (bt.2 == ((bits : Int) == 0)) := by
  intro d
  induction d with
  | zero =>
    intro i n X hX hl hi hn hN
    obtain ⟨n, rfl⟩ : ∃ m, n = m + 1 := ⟨n - 1, by omega⟩
    refine ⟨X, hX, hl, ?_, ?_⟩
    · rw [hN, show i = 32 by omega, Nat.mod_eq_of_lt hb]
    · rw [bowlinelaw02_FcsBursts.l0, if_neg (by omega)]
      simp only [if_true]
  | succ d ih =>
    intro i n X hX hl hi hn hN
    obtain ⟨n, rfl⟩ : ∃ m, n = m + 1 := ⟨n - 1, by omega⟩
    have hw1 := Aside0.mk (show wrap64 ((i : Int) + 1) = ((i + 1 : Nat) : Int) by unfold wrap64; omega)
    have hw2 := Aside0.mk (show wrap64 ((k : Int) + (i : Int)) = ((k + i : Nat) : Int) by unfold wrap64; omega)
    have hd8 : Int.tdiv ((k + i : Nat) : Int) 8 = (((k + i) / 8 : Nat) : Int) := by rw [Int.tdiv_eq_ediv_of_nonneg (by omega)]; omega
    have hm8 : Int.tmod ((k + i : Nat) : Int) 8 = (((k + i) % 8 : Nat) : Int) := by rw [Int.tmod_eq_emod_of_nonneg (by omega)]; omega
    have hw3 := Aside0.mk (show wrap64 (((k + i) / 8 : Nat) : Int) = (((k + i) / 8 : Nat) : Int) by unfold wrap64; omega)
    have hsh : Int.tmod (shr .u32 (bits : Int) (i : Int)) 2 = ((bits / 2 ^ i % 2 : Nat) : Int) := by
      unfold shr
      rw [Int.toNat_natCast, show min i IntKind.u32.bits = i from Nat.min_eq_left (by show i ≤ 32; omega)]
      rw [show (bits : Int) / 2 ^ i = ((bits / 2 ^ i : Nat) : Int) by push_cast; rfl]
      generalize bits / 2 ^ i = q
      rw [Int.tmod_eq_emod_of_nonneg (by omega)]
      omega
    have ht := turn_step (M := M) (bits := bits) (i := i) (k := k) hX (by omega) (by omega) hN
    rw [bowlinelaw02_FcsBursts.l0, if_pos (by omega), if_pos (by omega), hsh, hw1.out]
    by_cases h : bits / 2 ^ i % 2 = 1
    · rw [if_pos h] at ht
      rw [if_pos (by rw [h]; rfl), hw2.out, hd8, hw3.out, hm8, if_pos (by omega), if_pos (by rw [List.length_map]; omega), if_pos (by omega), Int.toNat_natCast, turn_int hX (by omega)]
      exact ih (i + 1) n _ (turn_lt hX (by omega)) (by rw [List.length_set]; exact hl) (by omega) (by omega) ht
    · rw [if_neg h] at ht
      rw [if_neg (by omega)]
      exact ih (i + 1) n X hX hl (by omega) (by omega) ht
theorem FcsBursts : bowlinelaw02_FcsBursts.Pure := by
  intro l at_ bits_ hl1 hl2 hl hat hbits
  have ho := Oct.of_wf hl
  obtain ⟨bits, rfl⟩ : ∃ b : Nat, bits_ = (b : Int) := ⟨bits_.toNat, by simp [Lit.wf, IntKind.min, IntKind.max, IntKind.signed, IntKind.bits] at hbits; omega⟩
  obtain ⟨a, rfl⟩ : ∃ b : Nat, at_ = (b : Int) := ⟨at_.toNat, by simp [Lit.wf, IntKind.min, IntKind.max, IntKind.signed, IntKind.bits] at hat; omega⟩
  have hb : bits < 4294967296 := by simp [Lit.wf, IntKind.min, IntKind.max, IntKind.signed, IntKind.bits] at hbits; omega
  have ha : a < 65536 := by simp [Lit.wf, IntKind.min, IntKind.max, IntKind.signed, IntKind.bits] at hat; omega
  refine ⟨40, ?_⟩
  rw [bowlinelaw02_FcsBursts.f, show bowlinelaw02_head.f = some true from rfl, Option.bind_some]
  by_cases h9 : (l.length : Int) > 4000
  · rw [if_pos h9]
  have hs := sealN_len l
  have hw1 := Aside0.mk (show wrap64 (8 * ((sealN l).length : Int)) = 8 * ((l.length + 4 : Nat) : Int) by rw [hs]; unfold wrap64; omega)
  have hw2 := Aside0.mk (show wrap64 (8 * ((l.length + 4 : Nat) : Int) - 31) = ((8 * (l.length + 4) - 31 : Nat) : Int) by unfold wrap64; omega)
  have hw3 := Aside0.mk (show wrap64 (a : Int) = (a : Int) by unfold wrap64; omega)
  obtain ⟨m, hm⟩ : ∃ m, m = 8 * (l.length + 4) - 31 := ⟨_, rfl⟩
  rw [← hm] at hw2
  have hmod : Int.tmod (a : Int) (m : Int) = ((a % m : Nat) : Int) := by rw [Int.tmod_eq_emod_of_nonneg (by omega)]; omega
  have hlt : a % m < m := Nat.mod_lt _ (by omega)
  rw [if_neg h9, seal_eq l (by omega), Option.bind_some, if_neg (by omega), hw1.out, hw2.out, if_neg (by omega), Option.bind_some, if_pos (by rw [hs]; simp; omega), hw3.out, hmod, List.nil_append]
  have hX := bytes_lt (sealN l)
  obtain ⟨Y, hY, hYl, hYN, hrun⟩ := bursts_l0 bits (a % m) (Crc.num ((sealN l).map Crc.byte)) (l.length + 4) hb (by omega) (by omega) 32 0 40 ((sealN l).map Crc.byte) hX (by rw [List.length_map, hs]) rfl (by omega) (by rw [Nat.pow_zero, Nat.mod_one, Nat.mul_zero, Nat.xor_zero])
  rw [map_byte_oct (sealN_oct ho)] at hrun
  rw [show ((0 : Nat) : Int) = 0 from rfl] at hrun
  have hYo : Oct (Y.map Int.ofNat) := by
    intro x hx
    obtain ⟨y, hy, rfl⟩ := List.mem_map.1 hx
    have := hY y hy
    simp only [Int.ofNat_eq_natCast]
    omega
  have hbo := burst_open (a := l) (b := Y.map Int.ofNat) ho hYo (by omega) (k := a % m) (bits := bits) (by rw [List.length_map]; exact hYl) hb (by rw [List.length_map, hYl]; omega) (by rw [map_byte_ofNat hY]; exact hYN)
  rw [hrun, open_eq _ hYo (by rw [List.length_map]; omega), Option.bind_some, hbo]
  congr 1
  by_cases h0 : bits = 0
  · subst h0; rfl
  · rw [decide_eq_false h0, show ((bits : Int) == 0) = false from beq_eq_false_iff_ne.mpr (by omega)]
    rfl
end Go.Proofs.Ytjpaoinlekkakaa.Pure
