/- PoolRoom, walked: the law answers true. By this session. -/
import Derived.Test.YtpnmhhckmpeogaaPoolPlain
namespace Go.Proofs.Ytpnmhhckmpeogaa
open Go.RowKit

/-- The pool in the middle of a filling. -/
structure Fill (g : Nat) (n : Int) (B i : Int) (s : PS) (wr : World) : Prop where
  blk : Blk wr g s.cells 49
  bn : s.Bn (B + i)
  most : s.most = n
  lo : i ≤ n → s.held = i
  hi : n ≤ i → s.held = n

theorem cset (n : Int) : ∀ k, k < 9 → (#[.slice none 0 0, .int .i64 0, .int .i64 0, .int .i64 0, .int .i64 0, .int .i64 0, .int .i64 0, .int .i64 0, .int .i64 0, .int .i64 0, .int .i64 0] : Array Value).setIfInBounds (2 + k) (.int .i64 n) = #[.slice none 0 0, .int .i64 0, .int .i64 (one k n 0), .int .i64 (one k n 1), .int .i64 (one k n 2), .int .i64 (one k n 3), .int .i64 (one k n 4), .int .i64 (one k n 5), .int .i64 (one k n 6), .int .i64 (one k n 7), .int .i64 (one k n 8)] :=
  nine rfl rfl rfl rfl rfl rfl rfl rfl rfl
theorem cget : ∀ k, k < 9 → (#[.slice none 0 0, .int .i64 0, .int .i64 0, .int .i64 0, .int .i64 0, .int .i64 0, .int .i64 0, .int .i64 0, .int .i64 0, .int .i64 0, .int .i64 0] : Array Value)[2 + k]? = some (.int .i64 0) :=
  nine rfl rfl rfl rfl rfl rfl rfl rfl rfl

set_option maxHeartbeats 1000000 in
set_option maxRecDepth 100000 in
theorem room_walk (a0 a1 a2 : Int) (h0 : 0 ≤ a0 ∧ a0 ≤ 255) (h1 : 0 ≤ a1 ∧ a1 ≤ 255) (h2 : 0 ≤ a2 ∧ a2 ≤ 255) (w : World) :
    Calls Try.prog 5 #[.int .u8 a0, .int .u8 a1, .int .u8 a2] w fun e w' => e = .returned (.bool true) ∧ Below w.heap.size w w' := by
  go_enter Try.func5, Try.ntmps5
  go_wp2_with fail
  refine (head_ _).mono ?_
  rintro e w1 ⟨rfl, hw1⟩
  go_wp2_with fail
  refine (new_yes (1 + a0) _ (by omega) (by omega)).mono ?_
  rintro e w2 ⟨g, rfl, hb2, hg2, hw2⟩
  have hz : w.heap.size ≤ w2.heap.size := by have := hw1.size; have := hw2.size; omega
  have hB2 : Below w.heap.size w w2 := hw1.trans (hw2.mono hw1.size)
  have hgw : w.heap.size ≤ g := by have := hw1.size; omega
  have hmod : (a1 % 5) % 256 = a1 % 5 := by omega
  have hlt5 : 0 ≤ a1 % 5 ∧ a1 % 5 ≤ 4 := by omega
  have Hb2 := Lib.hid hb2
  have HB2 := Lib.hid hB2
  clear hb2 hB2 hw1 hw2 hg2
  go_wp2_with fail
  go_loopw [10] (fun t wr => ∃ k : Nat, k ≤ 1 + (a1 % 5).toNat ∧ t = .int .i64 k ∧ ∃ s : PS, Blk wr g s.cells 49 ∧ s.Bn (1000 * k) ∧ s.most = 1 + a0 ∧ s.held = 0 ∧ Below w.heap.size w wr) (fun t _ => 1 + (a1 % 5).toNat - (intOf t).toNat)
  case atStart => exact ⟨0, by omega, rfl, PS.new (1 + a0), Hb2.out, PS.Bn.new _ (by omega), rfl, rfl, HB2.out⟩
  case round =>
    obtain ⟨k, hk, rfl, s, hb, hbn, hmost, hheld, hbel⟩ := hrel
    by_cases hkk : k < 1 + (a1 % 5).toNat
    · have hd : decide ((k : Int) < 1 + a1 % 5) = true := by simp; omega
      have Hb := Lib.hid hb
      have Hbn := Lib.hid hbn
      have Hm := Lib.hid hmost
      have Hh := Lib.hid hheld
      have Hbel := Lib.hid hbel
      clear hb hbn hmost hheld hbel Hb2 HB2
      obtain ⟨wo, rfl⟩ : ∃ wo : World, wo = wr := ⟨_, rfl⟩
      go_wp2_with fail
      go_loopw [11] (fun i wr => ∃ j : Nat, (j : Int) ≤ a0 + 3 ∧ i = .int .i64 j ∧ ∃ s : PS, Fill g (1 + a0) (1000 * k) j s wr ∧ Below w.heap.size w wr) (fun i _ => (a0 + 3).toNat - (intOf i).toNat)
      case atStart => exact ⟨0, by simp; omega, rfl, s, ⟨Hb.out, by simpa using Hbn.out, Hm.out, fun _ => Hh.out, fun h => by have := Hh.out; simp at h ⊢; omega⟩, Hbel.out⟩
      case round =>
        obtain ⟨j, hj, rfl, s1, ⟨hb, hbn, hmost, hlo, hhi⟩, hbel⟩ := hrel
        have Hb1 := Lib.hid hb
        have Hbn1 := Lib.hid hbn
        have Hm1 := Lib.hid hmost
        have Hlo := Lib.hid hlo
        have Hhi := Lib.hid hhi
        have Hbel1 := Lib.hid hbel
        have hkb : (k : Int) ≤ 5 := by omega
        clear hb hbn hmost hlo hhi hbel Hb Hbn Hm Hh
        by_cases hj1 : (j : Int) < 1 + a0 + 2
        · have hd1 : decide ((j : Int) < 1 + a0 + 2) = true := by simpa using hj1
          by_cases hj2 : (j : Int) < 1 + a0
          · have hd2 : decide ((j : Int) < 1 + a0) = true := by simpa using hj2
            have hx : ¬ s1.held = s1.most := by rw [Hlo.out (by omega), Hm1.out]; omega
            have Hx := Lib.hid hx
            clear hx
            go_wp2_with fail
            refine (in_room g s1 _ Hb1.out (Hbn1.out.bd (by omega)) Hx.out).mono ?_
            rintro e w5 ⟨rfl, hb5, hf5⟩
            go_wp2_with fail
            go_roundw
            case rel =>
              refine ⟨j + 1, by omega, by go_num, s1.inn, ⟨hb5, ?_, Hm1.out, fun h => ?_, fun h => ?_⟩, Fr.to_below Hbel1.out hf5 (Hbel1.out.size) (fun k e => by subst e; exact hgw)⟩
              · have := Hbn1.out.inn
                rwa [Int.add_assoc] at this
              · have := Hlo.out (by omega); simp only [PS.inn]; omega
              · have := Hlo.out (by omega); simp only [PS.inn]; omega
            case measure => simp [intOf]; omega
          · have hd2 : decide ((j : Int) < 1 + a0) = false := by simpa using hj2
            have hx : s1.held = s1.most := by rw [Hhi.out (by omega), Hm1.out]
            have Hx := Lib.hid hx
            clear hx
            go_wp2_with fail
            refine (in_full g s1 _ Hb1.out (Hbn1.out.bd (by omega)) Hx.out).mono ?_
            rintro e w5 ⟨rfl, hb5, hf5⟩
            go_wp2_with fail
            go_roundw
            case rel =>
              refine ⟨j + 1, by omega, by go_num, s1.lost 3, ⟨hb5, ?_, Hm1.out, fun h => by omega, fun h => Hhi.out (by omega)⟩, Fr.to_below Hbel1.out hf5 (Hbel1.out.size) (fun k e => by subst e; exact hgw)⟩
              have := Hbn1.out.lost 3
              rwa [Int.add_assoc] at this
            case measure => simp [intOf]; omega
        · have hd1 : decide ((j : Int) < 1 + a0 + 2) = false := by simpa using hj1
          have hm9 : 0 ≤ a2 % 9 ∧ a2 % 9 < 9 := by omega
          have hm9' : decide (a2 % 9 < 9) = true := by simpa using hm9.2
          have hlt := Hb1.out.lt
          go_upto_region 14 with fail
          go_cut [12] (fun c wx => c = .pointer (some ⟨wr.heap.size, 0, none⟩) ∧ Blk wx wr.heap.size #[.slice none 0 0, .int .i64 0, .int .i64 0, .int .i64 0, .int .i64 0, .int .i64 0, .int .i64 0, .int .i64 0, .int .i64 0, .int .i64 0, .int .i64 0] 32 ∧ Blk wx g s1.cells 49 ∧ Below w.heap.size w wx)
          case first =>
            go_wp2_with fail
            go_meet
            exact ⟨rfl, Blk.new _ _ _, Hb1.out.alloc _, Hbel1.out.alloc Hbel1.out.size _⟩
          case rest =>
            obtain ⟨rfl, hc, hb, hbel⟩ := hcut
            have hsz := Hbel1.out.size
            have c0 : wc.cell? ⟨wr.heap.size, 2 + (a2 % 9).toNat, none⟩ = some (.int .i64 0) := (hc.cell _).trans (cget _ (by omega))
            have f0 := hc.frozen (2 + (a2 % 9).toNat)
            have hgn : g ≠ wr.heap.size := by omega
            have HC := Lib.hid hc
            have HB := Lib.hid hb
            have HL := Lib.hid hbel
            clear hc hb hbel
            go_wp2_with fail
            refine (out_no g none 0 0 (1 + a0 + 1) (fun _ => 0) s1 _ (by exact HB.out.far hgn _ _) (Hbn1.out.bd (by omega)) (by omega) (outOk_frames (by rw [Hm1.out]; omega))).mono ?_
            rintro e w6 ⟨rfl, hb6, hf6⟩
            have hc6 : Blk w6 wr.heap.size #[.slice none 0 0, .int .i64 0, .int .i64 (one (a2 % 9).toNat (1 + a0) 0), .int .i64 (one (a2 % 9).toNat (1 + a0) 1), .int .i64 (one (a2 % 9).toNat (1 + a0) 2), .int .i64 (one (a2 % 9).toNat (1 + a0) 3), .int .i64 (one (a2 % 9).toNat (1 + a0) 4), .int .i64 (one (a2 % 9).toNat (1 + a0) 5), .int .i64 (one (a2 % 9).toNat (1 + a0) 6), .int .i64 (one (a2 % 9).toNat (1 + a0) 7), .int .i64 (one (a2 % 9).toNat (1 + a0) 8)] 32 := by
              rw [← cset (1 + a0) (a2 % 9).toNat (by omega)]
              exact (HC.out.set _ _).fr hf6 (fun e => hgn (Eq.symm e))
            have F6 := (Fr.refl (fun k => k = wr.heap.size ∨ k = g) wc).setCell (p := ⟨wr.heap.size, 2 + (a2 % 9).toNat, none⟩) (.inl (.inl rfl)) (.int .i64 (1 + a0))
            have F6' := F6.trans (hf6.mono (fun i e => .inr e))
            have HF6 := Lib.hid F6'
            have k0 : w6.cell? ⟨wr.heap.size, 0, none⟩ = some (.slice none 0 0) := (hc6.cell 0).trans rfl
            have k1 : w6.cell? ⟨wr.heap.size, 1, none⟩ = some (.int .i64 0) := (hc6.cell 1).trans rfl
            have g0 : w6.cell? ⟨wr.heap.size, 2, none⟩ = some (.int .i64 (one (a2 % 9).toNat (1 + a0) 0)) := (hc6.cell 2).trans rfl
            have g1 : w6.cell? ⟨wr.heap.size, 3, none⟩ = some (.int .i64 (one (a2 % 9).toNat (1 + a0) 1)) := (hc6.cell 3).trans rfl
            have g2 : w6.cell? ⟨wr.heap.size, 4, none⟩ = some (.int .i64 (one (a2 % 9).toNat (1 + a0) 2)) := (hc6.cell 4).trans rfl
            have g3 : w6.cell? ⟨wr.heap.size, 5, none⟩ = some (.int .i64 (one (a2 % 9).toNat (1 + a0) 3)) := (hc6.cell 5).trans rfl
            have g4 : w6.cell? ⟨wr.heap.size, 6, none⟩ = some (.int .i64 (one (a2 % 9).toNat (1 + a0) 4)) := (hc6.cell 6).trans rfl
            have g5 : w6.cell? ⟨wr.heap.size, 7, none⟩ = some (.int .i64 (one (a2 % 9).toNat (1 + a0) 5)) := (hc6.cell 7).trans rfl
            have g6 : w6.cell? ⟨wr.heap.size, 8, none⟩ = some (.int .i64 (one (a2 % 9).toNat (1 + a0) 6)) := (hc6.cell 8).trans rfl
            have g7 : w6.cell? ⟨wr.heap.size, 9, none⟩ = some (.int .i64 (one (a2 % 9).toNat (1 + a0) 7)) := (hc6.cell 9).trans rfl
            have g8 : w6.cell? ⟨wr.heap.size, 10, none⟩ = some (.int .i64 (one (a2 % 9).toNat (1 + a0) 8)) := (hc6.cell 10).trans rfl
            clear hc6 F6 F6' hf6 hgn
            go_wp2_with fail
            refine (out_yes (s1.out 0 0 (1 + a0) (one (a2 % 9).toNat (1 + a0))) (1 + a0) g none 0 0 0 (one (a2 % 9).toNat (1 + a0)) s1 _ hb6 (Hbn1.out.bd (by omega)) (by omega) ?_ ?_ rfl).mono ?_
            · have h1 := Hhi.out (by omega)
              have h2 := Hm1.out
              refine outOk_yes (by omega) (by omega) (by simp) (fun i _ => one_bd _ _ _ (by omega) (by omega) i) ?_
              rw [sum9_one _ _ (by omega)]
              omega
            · have h2 := Hm1.out
              rw [outAll_yes (by omega) (by omega) (by simp) (fun i _ => one_bd _ _ _ (by omega) (by omega) i), sum9_one _ _ (by omega)]
              omega
            rintro e w7 ⟨rfl, hb7, hf7⟩
            go_wp2_with fail
            refine (held_v 0 g _ _ ?_ hb7).mono ?_
            · have h1 := Hhi.out (by omega)
              simp only [PS.out]
              omega
            rintro e w8 ⟨rfl, rfl⟩
            go_wp2_with fail
            go_roundw
            case rel =>
              have h1 := Hhi.out (by omega)
              refine ⟨k + 1, by omega, by go_num, _, hb7, ?_, Hm1.out, ?_, ?_⟩
              · refine (Hbn1.out.out (M := 256) (by omega) (by omega) (by simp) (fun i => one_bd _ _ _ (by omega) (by omega) i) (by omega) (by omega)).mono ?_
                push_cast
                omega
              · simp only [PS.out]
                omega
              · refine Fr.to_below HL.out (HF6.out.trans (hf7.mono (fun i e => .inr e))) (HL.out.size) (fun i e => ?_)
                rcases e with rfl | rfl
                · exact hsz
                · exact hgw
            case measure => simp [intOf]; omega
    · have hd : decide ((k : Int) < 1 + a1 % 5) = false := by simp; omega
      have Hbel := Lib.hid hbel
      clear hb hbn hmost hheld hbel Hb2 HB2
      go_wp2_with fail
      go_ret
      exact ⟨rfl, Hbel.out⟩
end Go.Proofs.Ytpnmhhckmpeogaa
