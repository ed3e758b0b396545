/- The laws of the frag layer whose pieces come in: what is handed in is read, and the laws told. By this session. -/
import Derived.Test.YtfdjfejlfkabdaaFragPlainR
import Derived.Test.YtfdjfejlfkabdaaOpen
import Derived.Test.YtfdjfejlfkabdaaQ9
import Derived.Test.YtfdjfejlfkabdaaQ11
namespace Go.Proofs.Ytfdjfejlfkabdaa.Q
open Go.RowKit Go.Proofs.YtfdjfejlfkabdaaW.PrintWords Go.Proofs.YtfdjfejlfkabdaaW.PrintLast
set_option linter.unusedVariables false

instance : Inhabited S34 := ⟨z34⟩
theorem opens_piece : Opens Try.prog k34 (fun _ => True) 34 :=
  opens_imp (opens_iso (opens_struct Try.underlying34 (by kernel_rfl) (opensS_cons rfl (opens_bool Try.underlying4 (by kernel_rfl)) (opensS_cons rfl (opens_bool Try.underlying4 (by kernel_rfl)) (opensS_one rfl (opens_slice Try.underlying22 (by kernel_rfl) (opens_int Try.underlying5 (by kernel_rfl))))))) (fun x : S34 => (x.f0, x.f1, x.f2)) (fun y => ⟨y.1, y.2.1, y.2.2⟩) (fun y => rfl)) (fun _ _ => trivial)
theorem opens_pieces : Opens Try.prog (Kd.slice 34 k34) (fun xs => xs.length ≤ 2000000000000000) 23 :=
  opens_imp (opens_slice Try.underlying23 (by kernel_rfl) opens_piece) (fun xs h => by
    have h1 := h.1
    have hb : Try.prog.bytesOf 34 = 32 := by kernel_rfl
    rw [hb] at h1
    simp only [reachBytes] at h1
    omega)
theorem opens_bytes : Opens Try.prog (Kd.slice 5 (Kd.int .u8)) (fun xs => xs.length ≤ 2000000000000000) 22 :=
  opens_imp (opens_slice Try.underlying22 (by kernel_rfl) (opens_int Try.underlying5 (by kernel_rfl))) (fun xs h => by
    have h1 := h.1
    have hb : Try.prog.bytesOf 5 = 1 := by kernel_rfl
    rw [hb] at h1
    simp only [reachBytes] at h1
    omega)

theorem tells_pure (l : List Int) (a : Int) (ps : List S34) (rate : Int) (hl : l.length ≤ 2000000000000000) (hps : ps.length ≤ 2000000000000000) :
    ∃ k, bowlinelaw11_FragTells.f k l a ps rate = some true := by
  obtain ⟨K, hK, hK2⟩ : ∃ K : Nat, 5000 < K ∧ ps.length < K := ⟨ps.length + 5001, by omega, by omega⟩
  refine ⟨K + 1, ?_⟩
  rw [bowlinelaw11_FragTells.f, show bowlinelaw11_head.f = some true from rfl, Option.bind_some]
  have key : ∀ b, bowlinelaw11_FragTells.j0 (K + 1) l a ps rate true b = some true := by
    intro b
    rw [bowlinelaw11_FragTells.j0]
    rcases b with _ | _
    · rw [if_neg (by simp), join_eq ps (by omega) K hK2, Option.bind_some, rjoin_eq ps (by omega) K hK2, Option.bind_some, if_pos rfl, split_eq, Option.bind_some, rsplit_eq l a K (by omega), Option.bind_some]
      have hx : (if 1 ≤ l.length ∧ l.length ≤ 2048 ∧ 1 ≤ a ∧ a ≤ 2048 then pcs l a.toNat else []).length ≤ 2048 := by
        split
        · next h => exact pcs_len_le h.2.1 h.1
        · simp
      rw [same_eq _ (by omega) K (by omega), Option.bind_some, if_pos rfl, if_pos rfl, if_pos (by simp), show frag_Size.f rate = bowlineref11_Size.f rate from rfl]
      obtain ⟨z, hz⟩ : ∃ z, bowlineref11_Size.f rate = some z := ⟨_, rfl⟩
      rw [hz, Option.bind_some, Option.bind_some, if_pos rfl, many_eq, Option.bind_some, rmany_eq, Option.bind_some]
      simp
    · rw [if_pos rfl]
  by_cases h9 : (l.length : Int) > 9000
  · rw [if_pos h9]; exact key _
  · rw [if_neg h9]
    obtain ⟨b, hb⟩ := great_some ps (by omega) ps.length 0 (K + 1) (ps.length : Int) (by omega) (by omega)
    have hb' : bowlinelaw11_great.f (K + 1) ps = some b := hb
    rw [hb', Option.bind_some]
    exact key b
theorem tells_walk (A0 : Option Addr) (c0 : Nat) (l0 : List Int) (a1 : Int) (A2 : Option Addr) (c2 : Nat) (l2 : List S34) (a3 : Int) (b1 : (-9223372036854775808 : Int) ≤ a1 ∧ a1 ≤ 9223372036854775807) (b3 : (-9223372036854775808 : Int) ≤ a3 ∧ a3 ≤ 9223372036854775807) (w : World)
    (hc0 : l0.length ≤ c0) (hr0 : Kd.C (Kd.int .u8) w A0 l0.length l0) (hg0 : l0.length ≤ 2000000000000000) (hc2 : l2.length ≤ c2) (hr2 : Kd.C k34 w A2 l2.length l2) (hg2 : l2.length ≤ 2000000000000000) :
    Calls Try.prog 3 #[.slice A0 l0.length c0, .int .i64 a1, .slice A2 l2.length c2, .int .i64 a3] w fun e w' => e = .returned (.bool true) ∧ Below w.heap.size w w' := by
  obtain ⟨k, hk⟩ := tells_pure l0 a1 l2 a3 hg0 hg2
  exact bowlinelaw11_FragTells.calls k A0 c0 l0 a1 A2 c2 l2 a3 true w hr0 hc0 hr2 hc2 hk

theorem lens_take_s (l : List S34) (i : Nat) (p : S34) (h : l[i]? = some p) : lens (l.take (i + 1)) = lens (l.take i) + p.f2.length := by
  rw [List.take_add_one, h]
  simp [lens, List.map_append, List.sum_append]
theorem lens_append (a b : List S34) : lens (a ++ b) = lens a + lens b := by simp [lens]
theorem lens_le (l : List S34) (i : Nat) : lens (l.take i) ≤ lens l := by
  have h := congrArg lens (List.take_append_drop i l)
  rw [lens_append] at h
  omega
theorem joins_l0 (l : List S34) (a1 : Int) (hw : (Lit.int .u16 a1).wf = true) (b : List Int) (hj : joinN l = (b, true)) (hl : l.length ≤ 2000000000000000) : ∀ (d i k : Nat), i + d = l.length → d + 5000 < k →
    bowlinelaw11_FragJoins.l0 k l a1 true b ((lens (l.take i) : Nat) : Int) (i : Int) = some true := by
  have hj2 : (joinN l).2 = true := by rw [hj]
  obtain ⟨hb1, hb2, hb3⟩ := joinN_len hj2
  rw [hj] at hb1
  dsimp only at hb1
  have hpos : 1 ≤ lens l := by
    obtain ⟨p, hp⟩ : ∃ p, l[0]? = some p := ⟨_, List.getElem?_eq_getElem hb3⟩
    have h1 := (joinN_at hj2 0 p hp).2.2
    have h2 := lens_take_s l 0 p hp
    have h3 := lens_le l (0 + 1)
    omega
  intro d
  induction d with
  | zero =>
    intro i k hi hk
    obtain ⟨k, rfl⟩ : ∃ k', k = k' + 1 := ⟨k - 1, by omega⟩
    have hn : ∃ m : Nat, wrap64 (1 + (Int.tmod (wrap64 a1) 2048)) = (m : Int) ∧ 1 ≤ m ∧ m ≤ 2048 := by
      have h1 : 0 ≤ a1 ∧ a1 < 65536 := by
        have e1 : IntKind.u16.min = 0 := by decide
        have e2 : IntKind.u16.max = 65535 := by decide
        simp [Lit.wf] at hw
        omega
      rw [w64 a1 (by omega) (by omega), Int.tmod_eq_emod_of_nonneg h1.1, w64 _ (by omega) (by omega)]
      exact ⟨(1 + a1 % 2048).toNat, by omega, by omega, by omega⟩
    obtain ⟨m, hm, m1, m2⟩ := hn
    have hpl := pcs_len_le (l := b) (sz := m) (by omega) (by omega)
    have hcond : 1 ≤ b.length ∧ b.length ≤ 2048 ∧ 1 ≤ (m : Int) ∧ (m : Int) ≤ 2048 := by omega
    obtain ⟨p0, hp0⟩ : ∃ p, l[0]? = some p := ⟨_, List.getElem?_eq_getElem hb3⟩
    obtain ⟨p1, hp1⟩ : ∃ p, l[l.length - 1]? = some p := ⟨_, List.getElem?_eq_getElem (by omega)⟩
    have f0 := (joinN_at hj2 0 p0 hp0).1
    have f1 := (joinN_at hj2 _ p1 hp1).2.1
    have r0 : rd_T34 l 0 = p0 := by
      have : rd_T34 l ((0 : Nat) : Int) = p0 := by simp [rd_T34, hp0]
      exact this
    have ew : wrap64 ((l.length : Int) - 1) = ((l.length - 1 : Nat) : Int) := (w64 _ (by omega) (by omega)).trans (by omega)
    have r1 : rd_T34 l ((l.length - 1 : Nat) : Int) = p1 := by simp [rd_T34, hp1]
    have htk : l.take i = l := List.take_of_length_le (by omega)
    rw [bowlinelaw11_FragJoins.l0, if_neg (by omega), hm, split_eq, if_pos hcond, Option.bind_some, Int.toNat_natCast, join_eq _ (by omega) _ (by omega), Option.bind_some, join_pcs (by omega) (by omega) m1, if_pos rfl, htk,
      if_pos (by omega), if_pos (by omega), if_pos (by omega), if_pos rfl, if_pos rfl, if_pos (by omega), r0, f0, if_pos (show ((0 : Nat) == 0) = true from rfl), ew, if_pos (by omega), if_pos (by omega), r1, f1, beq_iff_eq.mpr (by omega)]
  | succ d ih =>
    intro i k hi hk
    obtain ⟨k, rfl⟩ : ∃ k', k = k' + 1 := ⟨k - 1, by omega⟩
    obtain ⟨p, he⟩ : ∃ p, l[i]? = some p := ⟨_, List.getElem?_eq_getElem (by omega)⟩
    have hr : rd_T34 l (i : Int) = p := by simp [rd_T34, he]
    have h1 := lens_take_s l i p he
    have h2 := lens_le l (i + 1)
    have go := ih (i + 1) k (by omega) (by omega)
    rw [h1] at go
    have q1 : -9223372036854775808 ≤ ((lens (l.take i) : Nat) : Int) + (p.f2.length : Int) := by omega
    have q2 : ((lens (l.take i) : Nat) : Int) + (p.f2.length : Int) < 9223372036854775808 := by omega
    have q3 : ((lens (l.take i) : Nat) : Int) + (p.f2.length : Int) = ((lens (l.take i) + p.f2.length : Nat) : Int) := by omega
    have q4 : -9223372036854775808 ≤ (i : Int) + 1 := by omega
    have q5 : (i : Int) + 1 < 9223372036854775808 := by omega
    have q6 : (i : Int) + 1 = ((i + 1 : Nat) : Int) := by omega
    have q7 : (i : Int) < (l.length : Int) := by omega
    have q8 : (0 : Int) ≤ (i : Int) := by omega
    rw [bowlinelaw11_FragJoins.l0, if_pos q7, if_pos q8, hr, (w64 _ q1 q2).trans q3, (w64 _ q4 q5).trans q6]
    exact go
theorem joins_pure (l : List S34) (a1 : Int) (hw : (Lit.int .u16 a1).wf = true) (hl : l.length ≤ 2000000000000000) : ∃ k, bowlinelaw11_FragJoins.f k l a1 = some true := by
  obtain ⟨K, hK, hK2⟩ : ∃ K : Nat, 5000 < K ∧ l.length + 5000 < K := ⟨l.length + 5001, by omega, by omega⟩
  refine ⟨K, ?_⟩
  rw [bowlinelaw11_FragJoins.f, show bowlinelaw11_head.f = some true from rfl, Option.bind_some]
  obtain ⟨b, hb⟩ := great_some l (by omega) l.length 0 K (l.length : Int) (by omega) (by omega)
  have hb' : bowlinelaw11_great.f K l = some b := hb
  rw [hb', Option.bind_some]
  by_cases h : b = true
  · rw [if_pos h]
  · rw [if_neg h, join_eq l (by omega) K (by omega), Option.bind_some]
    rcases hj : (joinN l).2 with _ | _
    · rw [if_neg (by simp), if_pos rfl, joinN_no hj]
      rfl
    · rw [if_pos rfl]
      have hje : joinN l = ((joinN l).1, true) := by rw [← hj]
      have := joins_l0 l a1 hw (joinN l).1 hje hl l.length 0 K (by omega) (by omega)
      exact this
theorem joins_walk (A0 : Option Addr) (c0 : Nat) (l0 : List S34) (a1 : Int) (b1 : 0 ≤ a1 ∧ a1 ≤ 65535) (w : World) (hc0 : l0.length ≤ c0) (hr0 : Kd.C k34 w A0 l0.length l0) (hg0 : l0.length ≤ 2000000000000000) :
    Calls Try.prog 6 #[.slice A0 l0.length c0, .int .u16 a1] w fun e w' => e = .returned (.bool true) ∧ Below w.heap.size w w' := by
  have hw : (Lit.int .u16 a1).wf = true := by
    have e1 : IntKind.u16.min = 0 := by decide
    have e2 : IntKind.u16.max = 65535 := by decide
    simp [Lit.wf]
    omega
  obtain ⟨k, hk⟩ := joins_pure l0 a1 hw hg0
  exact bowlinelaw11_FragJoins.calls k A0 c0 l0 a1 true w hr0 hc0 hk
end Go.Proofs.Ytfdjfejlfkabdaa.Q
