/- PoolTurns, walked: the law answers true. By this session. -/
import Derived.Test.YtpnmhhckmpeogaaPoolPlain
import Derived.Test.YtpnmhhckmpeogaaWLast
import Derived.OwnWalk
import Derived.IntWalk
namespace Go.Proofs.Ytpnmhhckmpeogaa
open Go.RowKit Go.Proofs.YtpnmhhckmpeogaaW.PrintLast
set_option linter.unusedVariables false
set_option linter.unusedSimpArgs false

def PS.full (m : Int) (i : Int) : PS := ⟨i, 0, fun _ => 0, i, 0, m⟩
theorem PS.full_bn (m i : Int) (h0 : 0 ≤ i) (h1 : 1 ≤ m) (h2 : m ≤ 65536) : (PS.full m i).Bn i := ⟨⟨h0, Int.le_refl _⟩, ⟨Int.le_refl _, h0⟩, fun _ => ⟨Int.le_refl _, h0⟩, ⟨h0, Int.le_refl _⟩, ⟨Int.le_refl _, h0⟩, ⟨h1, h2⟩⟩
def PS.tcells (s : PS) : Array Value := #[.int .i64 s.came, .int .i64 s.frames, .int .i64 (s.gone 0), .int .i64 (s.gone 1), .int .i64 (s.gone 2), .int .i64 (s.gone 3), .int .i64 (s.gone 4), .int .i64 (s.gone 5), .int .i64 (s.gone 6), .int .i64 (s.gone 7), .int .i64 (s.gone 8), .int .i64 s.held, .int .i64 s.packets]

theorem cset1 (S : Value) (f n : Int) : ∀ k, k < 9 → (#[S, .int .i64 f, .int .i64 0, .int .i64 0, .int .i64 0, .int .i64 0, .int .i64 0, .int .i64 0, .int .i64 0, .int .i64 0, .int .i64 0] : Array Value).setIfInBounds (2 + k) (.int .i64 n) = #[S, .int .i64 f, .int .i64 (one k n 0), .int .i64 (one k n 1), .int .i64 (one k n 2), .int .i64 (one k n 3), .int .i64 (one k n 4), .int .i64 (one k n 5), .int .i64 (one k n 6), .int .i64 (one k n 7), .int .i64 (one k n 8)] :=
  nine rfl rfl rfl rfl rfl rfl rfl rfl rfl
theorem cget1 (S : Value) (f : Int) : ∀ k, k < 9 → (#[S, .int .i64 f, .int .i64 0, .int .i64 0, .int .i64 0, .int .i64 0, .int .i64 0, .int .i64 0, .int .i64 0, .int .i64 0, .int .i64 0] : Array Value)[2 + k]? = some (.int .i64 0) :=
  nine rfl rfl rfl rfl rfl rfl rfl rfl rfl
theorem tset (c f h p n : Int) : ∀ k, k < 9 → (PS.tcells ⟨c, f, fun _ => 0, h, p, 1⟩).setIfInBounds (2 + k) (.int .i64 n) = PS.tcells ⟨c, f, one k n, h, p, 1⟩ :=
  nine rfl rfl rfl rfl rfl rfl rfl rfl rfl
theorem tget (c f h p : Int) : ∀ k, k < 9 → (PS.tcells ⟨c, f, fun _ => 0, h, p, 1⟩)[2 + k]? = some (.int .i64 0) :=
  nine rfl rfl rfl rfl rfl rfl rfl rfl rfl
theorem tcells_at {s : PS} {w : World} {b : Nat} (h : Blk w b s.tcells 38) : w.cell? ⟨b, 0, none⟩ = some (.int .i64 s.came) ∧ w.cell? ⟨b, 1, none⟩ = some (.int .i64 s.frames) ∧ w.cell? ⟨b, 2, none⟩ = some (.int .i64 (s.gone 0)) ∧ w.cell? ⟨b, 3, none⟩ = some (.int .i64 (s.gone 1)) ∧ w.cell? ⟨b, 4, none⟩ = some (.int .i64 (s.gone 2)) ∧ w.cell? ⟨b, 5, none⟩ = some (.int .i64 (s.gone 3)) ∧ w.cell? ⟨b, 6, none⟩ = some (.int .i64 (s.gone 4)) ∧ w.cell? ⟨b, 7, none⟩ = some (.int .i64 (s.gone 5)) ∧ w.cell? ⟨b, 8, none⟩ = some (.int .i64 (s.gone 6)) ∧ w.cell? ⟨b, 9, none⟩ = some (.int .i64 (s.gone 7)) ∧ w.cell? ⟨b, 10, none⟩ = some (.int .i64 (s.gone 8)) ∧ w.cell? ⟨b, 11, none⟩ = some (.int .i64 s.held) ∧ w.cell? ⟨b, 12, none⟩ = some (.int .i64 s.packets) := ⟨(h.cell 0).trans rfl, (h.cell 1).trans rfl, (h.cell 2).trans rfl, (h.cell 3).trans rfl, (h.cell 4).trans rfl, (h.cell 5).trans rfl, (h.cell 6).trans rfl, (h.cell 7).trans rfl, (h.cell 8).trans rfl, (h.cell 9).trans rfl, (h.cell 10).trans rfl, (h.cell 11).trans rfl, (h.cell 12).trans rfl⟩
theorem mk29 (n : Int) (h0 : 0 ≤ n) (h1 : n ≤ 1000) (W : World) : (Instr.makeSlice 29 (.int .i64 n) (.int .i64 n)).run Try.prog W = .ok (.slice (some ⟨W.heap.size, 0, none⟩) n.toNat n.toNat) (W.alloc (.cells (madeCells #[.slice none 0 0] n.toNat) 69)) := by
  have hi : (Try.prog.info? 69).map (fun i => (i.zero, i.size, i.bytes)) = some (some (.slice none 0 0), 1, 24) := by kernel_rfl
  obtain ⟨i0, hi, hz0, hz1, hz2⟩ := info_parts hi
  have hr := run_make (P := Try.prog) W 29 69 i0 (.slice none 0 0) Try.underlying29 hi hz0 .i64 .i64 n.toNat n.toNat (by omega) (Int.le_refl _) (by rw [hz2]; omega) (by omega)
  rw [hz1] at hr
  have e : ((n.toNat : Nat) : Int) = n := by omega
  rw [e] at hr
  rw [Nat.mul_one] at hr
  exact hr

set_option maxHeartbeats 2000000 in
set_option maxRecDepth 100000 in
theorem turns_walk (a0 a1 a2 a3 : Int) (h0 : 0 ≤ a0 ∧ a0 ≤ 255) (h1 : 0 ≤ a1 ∧ a1 ≤ 255) (h2 : 0 ≤ a2 ∧ a2 ≤ 255) (h3 : 0 ≤ a3 ∧ a3 ≤ 255) (w : World) :
    Calls Try.prog 6 #[.int .u8 a0, .int .u8 a1, .int .u8 a2, .int .u8 a3] w fun e w' => e = .returned (.bool true) ∧ Below w.heap.size w w' := by
  obtain ⟨F, hF⟩ : ∃ F, a1 % (1 + a0 + 1) = F := ⟨_, rfl⟩
  obtain ⟨G, hG⟩ : ∃ G, a3 % (1 + a0 - F + 1) = G := ⟨_, rfl⟩
  obtain ⟨KW, hK⟩ : ∃ KW, a2 % 9 = KW := ⟨_, rfl⟩
  have bF : 0 ≤ F ∧ F ≤ 1 + a0 := by
    have x1 := Int.emod_nonneg a1 (show 1 + a0 + 1 ≠ 0 by omega)
    have x2 := Int.emod_lt_of_pos a1 (show 0 < 1 + a0 + 1 by omega)
    omega
  have bG : 0 ≤ G ∧ G ≤ 1 + a0 - F := by
    have x1 := Int.emod_nonneg a3 (show 1 + a0 - F + 1 ≠ 0 by omega)
    have x2 := Int.emod_lt_of_pos a3 (show 0 < 1 + a0 - F + 1 by omega)
    omega
  have bK : 0 ≤ KW ∧ KW < 9 := by omega
  have HF := Lib.hid hF
  have HG := Lib.hid hG
  have HK := Lib.hid hK
  clear hF hG hK
  go_enter Try.func6, Try.ntmps6
  go_wp2_with fail
  refine (head_ _).mono ?_
  rintro e w1 ⟨rfl, hw1⟩
  go_wp2_with fail
  refine (new_yes (1 + a0) _ (by omega) (by omega)).mono ?_
  rintro e w2 ⟨g, rfl, hb2, hg2, hw2⟩
  have hz : w.heap.size ≤ w2.heap.size := by have := hw1.size; have := hw2.size; omega
  have hB2 : Below w.heap.size w w2 := hw1.trans (hw2.mono hw1.size)
  have hgw : w.heap.size ≤ g := by have := hw1.size; omega
  have Hb2 := Lib.hid hb2
  have HB2 := Lib.hid hB2
  clear hb2 hB2 hw1 hw2 hg2
  go_wp2_with fail
  go_loopw [12] (fun i wr => ∃ j : Nat, (j : Int) ≤ 1 + a0 ∧ i = .int .i64 j ∧ Blk wr g (PS.full (1 + a0) j).cells 49 ∧ Below w.heap.size w wr) (fun i _ => (1 + a0).toNat - (intOf i).toNat)
  case atStart => exact ⟨0, by simp; omega, rfl, Hb2.out, HB2.out⟩
  case round =>
    obtain ⟨j, hj, rfl, hb, hbel⟩ := hrel
    have Hb := Lib.hid hb
    have Hbel := Lib.hid hbel
    clear hb hbel Hb2 HB2
    by_cases hj1 : (j : Int) < 1 + a0
    · have hd1 : decide ((j : Int) < 1 + a0) = true := by simpa using hj1
      go_wp2_with fail
      refine (in_room g (PS.full (1 + a0) j) _ Hb.out ((PS.full_bn _ _ (by omega) (by omega) (by omega)).bd (by omega)) (by show ¬ (j : Int) = 1 + a0; omega)).mono ?_
      rintro e w5 ⟨rfl, hb5, hf5⟩
      go_wp2_with fail
      go_roundw
      case rel =>
        exact ⟨j + 1, by omega, by go_num, hb5, Fr.to_below Hbel.out hf5 (Hbel.out.size) (fun k e => by subst e; exact hgw)⟩
      case measure => simp [intOf]; omega
    · have hd1 : decide ((j : Int) < 1 + a0) = false := by simpa using hj1
      have hj2 : (j : Int) = 1 + a0 := by omega
      have hb' : Blk wr g (PS.full (1 + a0) (1 + a0)).cells 49 := by have := Hb.out; rw [hj2] at this; exact this
      have Hb' := Lib.hid hb'
      clear hj2 hb' Hb
      go_upto_region 10 with fail
      go_cut [13] (fun f wx => f = .int .i64 F ∧ wx = wr)
      case first =>
        go_wp2_with fail
        go_meet
        exact ⟨by rw [HF.out], rfl⟩
      case rest =>
      obtain ⟨rfl, rfl⟩ := hcut
      go_upto_region 11 with fail
      go_cut [14] (fun f wx => f = .int .i64 G ∧ wx = wc)
      case first =>
        go_wp2_with fail
        go_meet
        exact ⟨by rw [HG.out], rfl⟩
      case rest =>
      obtain ⟨rfl, rfl⟩ := hcut
      go_upto_region 12 with fail
      go_cut [15] (fun f wx => f = .int .i64 KW ∧ wx = wc)
      case first =>
        go_wp2_with fail
        go_meet
        exact ⟨by rw [HK.out], rfl⟩
      case rest =>
      obtain ⟨rfl, rfl⟩ := hcut
      go_upto_region 13 with fail
      go_cut [16] (fun c wx => ∃ b, c = .pointer (some ⟨b, 0, none⟩) ∧ Blk wx b #[.slice none 0 0, .int .i64 0, .int .i64 0, .int .i64 0, .int .i64 0, .int .i64 0, .int .i64 0, .int .i64 0, .int .i64 0, .int .i64 0, .int .i64 0] 32 ∧ b ≠ g ∧ w.heap.size ≤ b ∧ Blk wx g (PS.full (1 + a0) (1 + a0)).cells 49 ∧ Below w.heap.size w wx)
      case first =>
        go_wp2_with fail
        go_meet
        exact ⟨_, rfl, Blk.new _ _ _, by have := Hb'.out.lt; omega, Hbel.out.size, Hb'.out.alloc _, Hbel.out.alloc Hbel.out.size _⟩
      case rest =>
      obtain ⟨b, rfl, hc, hbg, hwb, hb, hbel⟩ := hcut
      have hgb : g ≠ b := fun e => hbg e.symm
      have f1 := hc.frozen 1
      have c1 : wc.cell? ⟨b, 1, none⟩ = some (.int .i64 0) := (hc.cell 1).trans rfl
      have HC := Lib.hid hc
      have HP := Lib.hid hb
      have HL := Lib.hid hbel
      clear hc hb hbel Hbel Hb'
      go_upto_region 14 with fail
      go_cut [] (fun wx => Blk wx b #[.slice none 0 0, .int .i64 F, .int .i64 (0), .int .i64 (0), .int .i64 (0), .int .i64 (0), .int .i64 (0), .int .i64 (0), .int .i64 (0), .int .i64 (0), .int .i64 (0)] 32 ∧ Blk wx g (PS.full (1 + a0) (1 + a0)).cells 49 ∧ Below w.heap.size w wx)
      case first =>
        go_wp2_with fail
        go_meet
        exact ⟨HC.out.set _ _, HP.out.far hgb _ _, HL.out.setCell hwb _⟩
      case rest =>
      obtain ⟨hc, hb, hbel⟩ := hcut
      have f0 := hc.frozen 0
      have c0 : wc.cell? ⟨b, 0, none⟩ = some (.slice none 0 0) := (hc.cell 0).trans rfl
      have hmk := mk29 (F / 2) (by omega) (by omega)
      have hlt := hc.lt
      have HC := Lib.hid hc
      have HP := Lib.hid hb
      have HL := Lib.hid hbel
      clear hc hb hbel c1 f1
      go_upto_region 15 with fail
      go_cut [] (fun wx => ∃ b2, Blk wx b #[.slice (some ⟨b2, 0, none⟩) (F / 2).toNat (F / 2).toNat, .int .i64 F, .int .i64 (0), .int .i64 (0), .int .i64 (0), .int .i64 (0), .int .i64 (0), .int .i64 (0), .int .i64 (0), .int .i64 (0), .int .i64 (0)] 32 ∧ Blk wx g (PS.full (1 + a0) (1 + a0)).cells 49 ∧ Below w.heap.size w wx)
      case first =>
        go_wp2_with fail
        go_meet
        exact ⟨_, (HC.out.set _ _).alloc _, (HP.out.far hgb _ _).alloc _, (HL.out.setCell hwb _).alloc (by simp [World.setCell]; exact HL.out.size) _⟩
      case rest =>
      obtain ⟨b2, hc, hb, hbel⟩ := hcut
      have f0 := hc.frozen (2 + KW.toNat)
      have c0 := (hc.cell (2 + KW.toNat)).trans (cget1 _ _ _ (by omega))
      have HC := Lib.hid hc
      have HP := Lib.hid hb
      have HL := Lib.hid hbel
      clear hc hb hbel hmk hlt
      go_upto_region 16 with fail
      go_cut [] (fun wx => Blk wx b #[.slice (some ⟨b2, 0, none⟩) (F / 2).toNat (F / 2).toNat, .int .i64 F, .int .i64 (one KW.toNat G 0), .int .i64 (one KW.toNat G 1), .int .i64 (one KW.toNat G 2), .int .i64 (one KW.toNat G 3), .int .i64 (one KW.toNat G 4), .int .i64 (one KW.toNat G 5), .int .i64 (one KW.toNat G 6), .int .i64 (one KW.toNat G 7), .int .i64 (one KW.toNat G 8)] 32 ∧ Blk wx g (PS.full (1 + a0) (1 + a0)).cells 49 ∧ Below w.heap.size w wx)
      case first =>
        go_wp2_with fail
        go_meet
        refine ⟨?_, HP.out.far hgb _ _, HL.out.setCell hwb _⟩
        rw [← cset1 _ _ _ _ (by omega)]
        exact HC.out.set _ _
      case rest =>
      obtain ⟨hc, hb, hbel⟩ := hcut
      have k0 : wc.cell? ⟨b, 0, none⟩ = some (.slice (some ⟨b2, 0, none⟩) (F / 2).toNat (F / 2).toNat) := (hc.cell 0).trans rfl
      have k1 : wc.cell? ⟨b, 1, none⟩ = some (.int .i64 F) := (hc.cell 1).trans rfl
      have g0 : wc.cell? ⟨b, 2, none⟩ = some (.int .i64 (one KW.toNat G 0)) := (hc.cell 2).trans rfl
      have g1 : wc.cell? ⟨b, 3, none⟩ = some (.int .i64 (one KW.toNat G 1)) := (hc.cell 3).trans rfl
      have g2 : wc.cell? ⟨b, 4, none⟩ = some (.int .i64 (one KW.toNat G 2)) := (hc.cell 4).trans rfl
      have g3 : wc.cell? ⟨b, 5, none⟩ = some (.int .i64 (one KW.toNat G 3)) := (hc.cell 5).trans rfl
      have g4 : wc.cell? ⟨b, 6, none⟩ = some (.int .i64 (one KW.toNat G 4)) := (hc.cell 6).trans rfl
      have g5 : wc.cell? ⟨b, 7, none⟩ = some (.int .i64 (one KW.toNat G 5)) := (hc.cell 7).trans rfl
      have g6 : wc.cell? ⟨b, 8, none⟩ = some (.int .i64 (one KW.toNat G 6)) := (hc.cell 8).trans rfl
      have g7 : wc.cell? ⟨b, 9, none⟩ = some (.int .i64 (one KW.toNat G 7)) := (hc.cell 9).trans rfl
      have g8 : wc.cell? ⟨b, 10, none⟩ = some (.int .i64 (one KW.toNat G 8)) := (hc.cell 10).trans rfl
      have HC := Lib.hid hc
      have HP := Lib.hid hb
      have HL := Lib.hid hbel
      clear hc hb hbel f0 c0
      have bFn : ((F / 2).toNat : Int) = F / 2 := by omega
      have BFn := Lib.hid bFn
      have bFle : F / 2 ≤ F := by omega
      clear bFn
      go_wp2_with fail
      refine (out_yes ((PS.full (1 + a0) (1 + a0)).out (F / 2).toNat F (F + G) (one KW.toNat G)) (F + G) g (some ⟨b2, 0, none⟩) (F / 2).toNat (F / 2).toNat F (one KW.toNat G) (PS.full (1 + a0) (1 + a0)) _ HP.out ((PS.full_bn _ _ (by omega) (by omega) (by omega)).bd (by omega)) (by omega) ?_ ?_ rfl).mono ?_
      · refine outOk_yes (by omega) (by show F ≤ 1 + a0; omega) (by rw [BFn.out]; exact bFle) (fun i _ => one_bd _ _ _ (by omega) (by show G ≤ 1 + a0; omega) i) ?_
        rw [sum9_one _ _ (by omega)]
        show F + G ≤ 1 + a0
        omega
      · rw [outAll_yes (by omega) (by show F ≤ 1 + a0; omega) (by rw [BFn.out]; exact bFle) (fun i _ => one_bd _ _ _ (by omega) (by show G ≤ 1 + a0; omega) i), sum9_one _ _ (by omega)]
      rintro e w7 ⟨rfl, hb7, hf7⟩
      have hbel7 : Below w.heap.size w w7 := Fr.to_below HL.out hf7 HL.out.size (fun i e => by subst e; exact hgw)
      have HB7 := Lib.hid hb7
      have HL7 := Lib.hid hbel7
      clear hb7 hf7 hbel7 k0 k1 g0 g1 g2 g3 g4 g5 g6 g7 g8
      go_upto_region 19 with fail
      go_cut [17] (fun c wx => ∃ b3, c = .pointer (some ⟨b3, 0, none⟩) ∧ Blk wx b3 (PS.tcells ⟨1 + a0, F, fun _ => 0, 1 + a0 - F - G, F / 2, 1⟩) 38 ∧ b3 ≠ g ∧ w.heap.size ≤ b3 ∧ Blk wx g ((PS.full (1 + a0) (1 + a0)).out (F / 2).toNat F (F + G) (one KW.toNat G)).cells 49 ∧ Below w.heap.size w wx)
      case first =>
        go_wp2_with fail
        go_meet
        exact ⟨_, rfl, Blk.new _ _ _, by have := HB7.out.lt; omega, HL7.out.size, HB7.out.alloc _, HL7.out.alloc HL7.out.size _⟩
      case rest =>
      obtain ⟨b3, rfl, hc, hbg3, hwb3, hb, hbel⟩ := hcut
      have hgb3 : g ≠ b3 := fun e => hbg3 e.symm
      have f0 := hc.frozen (2 + KW.toNat)
      have c0 := (hc.cell (2 + KW.toNat)).trans (tget _ _ _ _ _ (by omega))
      have HC3 := Lib.hid hc
      have HP := Lib.hid hb
      have HL := Lib.hid hbel
      clear hc hb hbel
      go_upto_region 20 with fail
      go_cut [] (fun wx => Blk wx b3 (PS.tcells ⟨1 + a0, F, one KW.toNat G, 1 + a0 - F - G, F / 2, 1⟩) 38 ∧ Blk wx g ((PS.full (1 + a0) (1 + a0)).out (F / 2).toNat F (F + G) (one KW.toNat G)).cells 49 ∧ Below w.heap.size w wx)
      case first =>
        go_wp2_with fail
        go_meet
        refine ⟨?_, HP.out.far hgb3 _ _, HL.out.setCell hwb3 _⟩
        rw [← tset _ _ _ _ _ _ (by omega)]
        exact HC3.out.set _ _
      case rest =>
      obtain ⟨hc, hb, hbel⟩ := hcut
      have HC := Lib.hid hc
      have HP := Lib.hid hb
      have HL := Lib.hid hbel
      clear hc hb hbel f0 c0
      have hv : ((PS.full (1 + a0) (1 + a0)).out (F / 2).toNat F (F + G) (one KW.toNat G)).tally = (.agg #[.int .i64 (1 + a0), .int .i64 F, .int .i64 (one KW.toNat G 0), .int .i64 (one KW.toNat G 1), .int .i64 (one KW.toNat G 2), .int .i64 (one KW.toNat G 3), .int .i64 (one KW.toNat G 4), .int .i64 (one KW.toNat G 5), .int .i64 (one KW.toNat G 6), .int .i64 (one KW.toNat G 7), .int .i64 (one KW.toNat G 8), .int .i64 (1 + a0 - F - G), .int .i64 (F / 2)]) := by
        simp only [PS.tally, PS.out, PS.full, Int.zero_add, BFn.out]
        rw [show 1 + a0 - (F + G) = 1 + a0 - F - G by omega]
      have he : ∀ W, (Op.equalIn 10000 38 (.agg #[.int .i64 (1 + a0), .int .i64 F, .int .i64 (one KW.toNat G 0), .int .i64 (one KW.toNat G 1), .int .i64 (one KW.toNat G 2), .int .i64 (one KW.toNat G 3), .int .i64 (one KW.toNat G 4), .int .i64 (one KW.toNat G 5), .int .i64 (one KW.toNat G 6), .int .i64 (one KW.toNat G 7), .int .i64 (one KW.toNat G 8), .int .i64 (1 + a0 - F - G), .int .i64 (F / 2)]) (.agg #[.int .i64 (1 + a0), .int .i64 F, .int .i64 (one KW.toNat G 0), .int .i64 (one KW.toNat G 1), .int .i64 (one KW.toNat G 2), .int .i64 (one KW.toNat G 3), .int .i64 (one KW.toNat G 4), .int .i64 (one KW.toNat G 5), .int .i64 (one KW.toNat G 6), .int .i64 (one KW.toNat G 7), .int .i64 (one KW.toNat G 8), .int .i64 (1 + a0 - F - G), .int .i64 (F / 2)])).run Try.prog W = .ok true W := by
        intro W
        have e1 := eq38 9996 W ⟨1 + a0, F, one KW.toNat G, 1 + a0 - F - G, F / 2, 1⟩ ⟨1 + a0, F, one KW.toNat G, 1 + a0 - F - G, F / 2, 1⟩
        rw [show alike ⟨1 + a0, F, one KW.toNat G, 1 + a0 - F - G, F / 2, 1⟩ ⟨1 + a0, F, one KW.toNat G, 1 + a0 - F - G, F / 2, 1⟩ = true by simp [alike]] at e1
        exact e1
      have ho : outOk ((PS.full (1 + a0) (1 + a0)).out (F / 2).toNat F (F + G) (one KW.toNat G)) 0 (1 + a0 - F - G + 1) (fun _ => 0) = false := outOk_held (by show 1 + a0 - (F + G) < _; omega)
      have hbd : PS.Bd ((PS.full (1 + a0) (1 + a0)).out (F / 2).toNat F (F + G) (one KW.toNat G)) := ((PS.full_bn (1 + a0) (1 + a0) (by omega) (by omega) (by omega)).out (M := 1000) (by omega) (by omega) (by rw [BFn.out]; omega) (fun i => one_bd _ _ _ (by omega) (by omega) i) (by omega) (by show F + G ≤ 1 + a0; omega)).bd (by omega)
      have HO := Lib.hid ho
      have HBD := Lib.hid hbd
      have HV := Lib.hid hv
      clear hv ho hbd

      go_wp2_with fail
      have z1 : IntKind.i64.wrap (1 + a0 - F) = 1 + a0 - F := IntWalk.i64_in _ (by omega)
      have z2 : IntKind.i64.wrap (1 + a0 - F - G) = 1 + a0 - F - G := IntWalk.i64_in _ (by omega)
      have z3 : IntKind.i64.wrap (1 + a0 - F - G + 1) = 1 + a0 - F - G + 1 := IntWalk.i64_in _ (by omega)
      refine start_ (n := 26) (S := fun w' => w'.cell? ⟨b3, 0, none⟩ = some (.int .i64 (1 + a0)) ∧ w'.cell? ⟨b3, 1, none⟩ = some (.int .i64 (F)) ∧ w'.cell? ⟨b3, 2, none⟩ = some (.int .i64 (one KW.toNat G 0)) ∧ w'.cell? ⟨b3, 3, none⟩ = some (.int .i64 (one KW.toNat G 1)) ∧ w'.cell? ⟨b3, 4, none⟩ = some (.int .i64 (one KW.toNat G 2)) ∧ w'.cell? ⟨b3, 5, none⟩ = some (.int .i64 (one KW.toNat G 3)) ∧ w'.cell? ⟨b3, 6, none⟩ = some (.int .i64 (one KW.toNat G 4)) ∧ w'.cell? ⟨b3, 7, none⟩ = some (.int .i64 (one KW.toNat G 5)) ∧ w'.cell? ⟨b3, 8, none⟩ = some (.int .i64 (one KW.toNat G 6)) ∧ w'.cell? ⟨b3, 9, none⟩ = some (.int .i64 (one KW.toNat G 7)) ∧ w'.cell? ⟨b3, 10, none⟩ = some (.int .i64 (one KW.toNat G 8)) ∧ w'.cell? ⟨b3, 11, none⟩ = some (.int .i64 (1 + a0 - F - G)) ∧ w'.cell? ⟨b3, 12, none⟩ = some (.int .i64 (F / 2))) (ds := []) #[false, false, false, false, false, false, false, false, false, false, false, false, false, false, false, false, false, false, false, false, false, false, false, false, false, false] (by kernel_rfl) rfl rfl ⟨(HC.out.drew.cell 0).trans rfl, (HC.out.drew.cell 1).trans rfl, (HC.out.drew.cell 2).trans rfl, (HC.out.drew.cell 3).trans rfl, (HC.out.drew.cell 4).trans rfl, (HC.out.drew.cell 5).trans rfl, (HC.out.drew.cell 6).trans rfl, (HC.out.drew.cell 7).trans rfl, (HC.out.drew.cell 8).trans rfl, (HC.out.drew.cell 9).trans rfl, (HC.out.drew.cell 10).trans rfl, (HC.out.drew.cell 11).trans rfl, (HC.out.drew.cell 12).trans rfl⟩ (fun hHeld => ?_)
      refine pure_ (i := 0) (N := some 76) (v := ?_) (a' := ?_) #[true, false, false, false, false, false, false, false, false, false, false, false, false, false, false, false, false, false, false, false, false, false, false, false, false, false] rfl rfl (by kernel_rfl) (fun _ _ _ h => h) (Or.inl ⟨by rfl, ?_⟩) ?_ ?_
      rotate_left
      · intro w'
        go_simp
        with_reducible rfl
      rotate_left
      · simp only [Act.put, List.setIfInBounds_toArray, List.set_cons_zero, List.set_cons_succ, i64_w, i32_w]
        rfl
      refine pure_ (i := 1) (N := some 77) (v := ?_) (a' := ?_) #[true, true, false, false, false, false, false, false, false, false, false, false, false, false, false, false, false, false, false, false, false, false, false, false, false, false] rfl rfl (by kernel_rfl) (fun _ _ _ h => h) (Or.inl ⟨by rfl, ?_⟩) ?_ ?_
      rotate_left
      · intro w'
        go_simp
        with_reducible rfl
      rotate_left
      · simp only [Act.put, List.setIfInBounds_toArray, List.set_cons_zero, List.set_cons_succ, i64_w, i32_w]
        rfl
      refine pure_ (i := 2) (N := some 78) (v := ?_) (a' := ?_) #[true, true, true, false, false, false, false, false, false, false, false, false, false, false, false, false, false, false, false, false, false, false, false, false, false, false] rfl rfl (by kernel_rfl) (fun _ _ _ h => h) (Or.inl ⟨by rfl, ?_⟩) ?_ ?_
      rotate_left
      · intro w'
        go_simp
        with_reducible rfl
      rotate_left
      · simp only [Act.put, List.setIfInBounds_toArray, List.set_cons_zero, List.set_cons_succ, i64_w, i32_w]
        rfl
      refine take_ (i := 4) (N := some 80) (v := ?_) (a' := ?_) #[true, true, true, false, true, false, false, false, false, false, false, false, false, false, false, false, false, false, false, false, false, false, false, false, false, false] rfl rfl (by kernel_rfl) (fun _ _ _ h => h) (Or.inl ⟨by rfl, ?_⟩) hHeld ?_ ?_
      rotate_left
      · rintro w' ⟨s0, s1, s2, s3, s4, s5, s6, s7, s8, s9, s10, s11, s12⟩
        go_simp
        with_reducible rfl
      rotate_left
      · simp only [Act.put, List.setIfInBounds_toArray, List.set_cons_zero, List.set_cons_succ, i64_w, i32_w]
        rfl
      refine one_ (i := 3) (N := some 79) #[true, true, true, true, true, false, false, false, false, false, false, false, false, false, false, false, false, false, false, false, false, false, false, false, false, false] rfl rfl (by kernel_rfl) (by decide) (fun K hK => ?_)
      refine goes_ Try.func18 (by kernel_rfl) rfl #[.pointer (some ⟨g, 0, none⟩)] (by rfl) rfl rfl (by simp only [List.map_toArray, List.map_cons, List.map_nil]; rfl) ?_
      with_reducible refine (tally_v (.agg #[.int .i64 (1 + a0), .int .i64 F, .int .i64 (one KW.toNat G 0), .int .i64 (one KW.toNat G 1), .int .i64 (one KW.toNat G 2), .int .i64 (one KW.toNat G 3), .int .i64 (one KW.toNat G 4), .int .i64 (one KW.toNat G 5), .int .i64 (one KW.toNat G 6), .int .i64 (one KW.toNat G 7), .int .i64 (one KW.toNat G 8), .int .i64 (1 + a0 - F - G), .int .i64 (F / 2)]) g ((PS.full (1 + a0) (1 + a0)).out (F / 2).toNat F (F + G) (one KW.toNat G)) _ HV.out (by exact HP.out.drew)).mono ?_
      rintro e w8 ⟨rfl, hw8⟩
      refine ⟨_, rfl, ?_⟩
      refine hK.out _ _ ⟨((HC.out.drew.below hw8).cell 0).trans rfl, ((HC.out.drew.below hw8).cell 1).trans rfl, ((HC.out.drew.below hw8).cell 2).trans rfl, ((HC.out.drew.below hw8).cell 3).trans rfl, ((HC.out.drew.below hw8).cell 4).trans rfl, ((HC.out.drew.below hw8).cell 5).trans rfl, ((HC.out.drew.below hw8).cell 6).trans rfl, ((HC.out.drew.below hw8).cell 7).trans rfl, ((HC.out.drew.below hw8).cell 8).trans rfl, ((HC.out.drew.below hw8).cell 9).trans rfl, ((HC.out.drew.below hw8).cell 10).trans rfl, ((HC.out.drew.below hw8).cell 11).trans rfl, ((HC.out.drew.below hw8).cell 12).trans rfl⟩ (fun hHeld => ?_)
      clear hK K
      refine norm_ (a' := ?_) ?_ ?_
      rotate_left
      · show Act.put _ (some 79) _ = _
        simp only [Act.put, List.setIfInBounds_toArray, List.set_cons_zero, List.set_cons_succ, i64_w, i32_w]
        rfl
      refine pure_ (i := 5) (N := some 81) (v := ?_) (a' := ?_) #[true, true, true, true, true, true, false, false, false, false, false, false, false, false, false, false, false, false, false, false, false, false, false, false, false, false] rfl rfl (by kernel_rfl) (fun _ _ _ h => h) (Or.inl ⟨by rfl, ?_⟩) ?_ ?_
      rotate_left
      · intro w'
        go_simp
        with_reducible rfl
      rotate_left
      · simp only [Act.put, List.setIfInBounds_toArray, List.set_cons_zero, List.set_cons_succ, i64_w, i32_w]
        rfl
      refine pure_ (i := 6) (N := some 82) (v := ?_) (a' := ?_) #[true, true, true, true, true, true, true, false, false, false, false, false, false, false, false, false, false, false, false, false, false, false, false, false, false, false] rfl rfl (by kernel_rfl) (fun _ _ _ h => h) (Or.inl ⟨by rfl, ?_⟩) ?_ ?_
      rotate_left
      · intro w'
        go_simp
        with_reducible rfl
      rotate_left
      · simp only [Act.put, List.setIfInBounds_toArray, List.set_cons_zero, List.set_cons_succ, i64_w, i32_w]
        rfl
      refine pure_ (i := 7) (N := some 83) (v := ?_) (a' := ?_) #[true, true, true, true, true, true, true, true, false, false, false, false, false, false, false, false, false, false, false, false, false, false, false, false, false, false] rfl rfl (by kernel_rfl) (fun _ _ _ h => h) (Or.inl ⟨by rfl, ?_⟩) ?_ ?_
      rotate_left
      · intro w'
        go_simp
        with_reducible rfl
      rotate_left
      · simp only [Act.put, List.setIfInBounds_toArray, List.set_cons_zero, List.set_cons_succ, i64_w, i32_w]
        rfl
      refine pure_ (i := 8) (N := some 84) (v := ?_) (a' := ?_) #[true, true, true, true, true, true, true, true, true, false, false, false, false, false, false, false, false, false, false, false, false, false, false, false, false, false] rfl rfl (by kernel_rfl) (fun _ _ _ h => h) (Or.inl ⟨by rfl, ?_⟩) ?_ ?_
      rotate_left
      · intro w'
        go_simp
        with_reducible rfl
      rotate_left
      · simp only [Act.put, List.setIfInBounds_toArray, List.set_cons_zero, List.set_cons_succ, i64_w, i32_w]
        rfl
      refine pure_ (i := 9) (N := some 85) (v := ?_) (a' := ?_) #[true, true, true, true, true, true, true, true, true, true, false, false, false, false, false, false, false, false, false, false, false, false, false, false, false, false] rfl rfl (by kernel_rfl) (fun _ _ _ h => h) (Or.inl ⟨by rfl, ?_⟩) ?_ ?_
      rotate_left
      · intro w'
        go_simp
        with_reducible rfl
      rotate_left
      · simp only [Act.put, List.setIfInBounds_toArray, List.set_cons_zero, List.set_cons_succ, i64_w, i32_w]
        rfl
      refine pure_ (i := 10) (N := some 86) (v := ?_) (a' := ?_) #[true, true, true, true, true, true, true, true, true, true, true, false, false, false, false, false, false, false, false, false, false, false, false, false, false, false] rfl rfl (by kernel_rfl) (fun _ _ _ h => h) (Or.inl ⟨by rfl, ?_⟩) ?_ ?_
      rotate_left
      · intro w'
        go_simp
        with_reducible rfl
      rotate_left
      · simp only [Act.put, List.setIfInBounds_toArray, List.set_cons_zero, List.set_cons_succ, i64_w, i32_w]
        rfl
      refine pure_ (i := 11) (N := some 87) (v := ?_) (a' := ?_) #[true, true, true, true, true, true, true, true, true, true, true, true, false, false, false, false, false, false, false, false, false, false, false, false, false, false] rfl rfl (by kernel_rfl) (fun _ _ _ h => h) (Or.inl ⟨by rfl, ?_⟩) ?_ ?_
      rotate_left
      · intro w'
        go_simp
        with_reducible rfl
      rotate_left
      · simp only [Act.put, List.setIfInBounds_toArray, List.set_cons_zero, List.set_cons_succ, i64_w, i32_w]
        rfl
      refine pure_ (i := 12) (N := some 88) (v := ?_) (a' := ?_) #[true, true, true, true, true, true, true, true, true, true, true, true, true, false, false, false, false, false, false, false, false, false, false, false, false, false] rfl rfl (by kernel_rfl) (fun _ _ _ h => h) (Or.inl ⟨by rfl, ?_⟩) ?_ ?_
      rotate_left
      · intro w'
        go_simp
        with_reducible rfl
      rotate_left
      · simp only [Act.put, List.setIfInBounds_toArray, List.set_cons_zero, List.set_cons_succ, i64_w, i32_w]
        rfl
      refine pure_ (i := 13) (N := some 89) (v := ?_) (a' := ?_) #[true, true, true, true, true, true, true, true, true, true, true, true, true, true, false, false, false, false, false, false, false, false, false, false, false, false] rfl rfl (by kernel_rfl) (fun _ _ _ h => h) (Or.inl ⟨by rfl, ?_⟩) ?_ ?_
      rotate_left
      · intro w'
        go_simp
        with_reducible rfl
      rotate_left
      · simp only [Act.put, List.setIfInBounds_toArray, List.set_cons_zero, List.set_cons_succ, i64_w, i32_w]
        rfl
      refine pure_ (i := 14) (N := some 90) (v := ?_) (a' := ?_) #[true, true, true, true, true, true, true, true, true, true, true, true, true, true, true, false, false, false, false, false, false, false, false, false, false, false] rfl rfl (by kernel_rfl) (fun _ _ _ h => h) (Or.inl ⟨by rfl, ?_⟩) ?_ ?_
      rotate_left
      · intro w'
        go_simp
        with_reducible rfl
      rotate_left
      · simp only [Act.put, List.setIfInBounds_toArray, List.set_cons_zero, List.set_cons_succ, i64_w, i32_w]
        rfl
      refine pure_ (i := 15) (N := some 91) (v := ?_) (a' := ?_) #[true, true, true, true, true, true, true, true, true, true, true, true, true, true, true, true, false, false, false, false, false, false, false, false, false, false] rfl rfl (by kernel_rfl) (fun _ _ _ h => h) (Or.inl ⟨by rfl, ?_⟩) ?_ ?_
      rotate_left
      · intro w'
        go_simp
        with_reducible rfl
      rotate_left
      · simp only [Act.put, List.setIfInBounds_toArray, List.set_cons_zero, List.set_cons_succ, i64_w, i32_w]
        rfl
      refine one_ (i := 16) (N := some 92) #[true, true, true, true, true, true, true, true, true, true, true, true, true, true, true, true, true, false, false, false, false, false, false, false, false, false] rfl rfl (by kernel_rfl) (by decide) (fun K hK => ?_)
      refine goes_ Try.func14 (by kernel_rfl) rfl #[.pointer (some ⟨g, 0, none⟩), come none 0 0 (1 + a0 - F - G + 1) (fun _ => 0)] (by rfl) rfl rfl (by simp only [List.map_toArray, List.map_cons, List.map_nil]; rfl) ?_
      with_reducible refine (out_no g none 0 0 (1 + a0 - F - G + 1) (fun _ => 0) ((PS.full (1 + a0) (1 + a0)).out (F / 2).toNat F (F + G) (one KW.toNat G)) _ (by exact HP.out.drew.below hw8) HBD.out (by omega) HO.out).mono ?_
      rintro e w9 ⟨rfl, hb9, hf9⟩
      refine ⟨_, rfl, ?_⟩
      refine hK.out _ _ ⟨(((HC.out.drew.below hw8).fr hf9 hbg3).cell 0).trans rfl, (((HC.out.drew.below hw8).fr hf9 hbg3).cell 1).trans rfl, (((HC.out.drew.below hw8).fr hf9 hbg3).cell 2).trans rfl, (((HC.out.drew.below hw8).fr hf9 hbg3).cell 3).trans rfl, (((HC.out.drew.below hw8).fr hf9 hbg3).cell 4).trans rfl, (((HC.out.drew.below hw8).fr hf9 hbg3).cell 5).trans rfl, (((HC.out.drew.below hw8).fr hf9 hbg3).cell 6).trans rfl, (((HC.out.drew.below hw8).fr hf9 hbg3).cell 7).trans rfl, (((HC.out.drew.below hw8).fr hf9 hbg3).cell 8).trans rfl, (((HC.out.drew.below hw8).fr hf9 hbg3).cell 9).trans rfl, (((HC.out.drew.below hw8).fr hf9 hbg3).cell 10).trans rfl, (((HC.out.drew.below hw8).fr hf9 hbg3).cell 11).trans rfl, (((HC.out.drew.below hw8).fr hf9 hbg3).cell 12).trans rfl⟩ (fun hHeld => ?_)
      clear hK K
      refine norm_ (a' := ?_) ?_ ?_
      rotate_left
      · show Act.put _ (some 92) _ = _
        simp only [Act.put, List.setIfInBounds_toArray, List.set_cons_zero, List.set_cons_succ, i64_w, i32_w]
        rfl
      refine pure_ (i := 17) (N := some 93) (v := ?_) (a' := ?_) #[true, true, true, true, true, true, true, true, true, true, true, true, true, true, true, true, true, true, false, false, false, false, false, false, false, false] rfl rfl (by kernel_rfl) (fun _ _ _ h => h) (Or.inl ⟨by rfl, ?_⟩) ?_ ?_
      rotate_left
      · intro w'
        go_simp
        with_reducible rfl
      rotate_left
      · simp only [Act.put, List.setIfInBounds_toArray, List.set_cons_zero, List.set_cons_succ, i64_w, i32_w]
        rfl
      refine pure_ (i := 18) (N := some 94) (v := ?_) (a' := ?_) #[true, true, true, true, true, true, true, true, true, true, true, true, true, true, true, true, true, true, true, false, false, false, false, false, false, false] rfl rfl (by kernel_rfl) (fun _ _ _ h => h) (Or.inl ⟨by rfl, ?_⟩) ?_ ?_
      rotate_left
      · intro w'
        go_simp
        with_reducible rfl
      rotate_left
      · simp only [Act.put, List.setIfInBounds_toArray, List.set_cons_zero, List.set_cons_succ, i64_w, i32_w]
        rfl
      refine pure_ (i := 19) (N := some 95) (v := ?_) (a' := ?_) #[true, true, true, true, true, true, true, true, true, true, true, true, true, true, true, true, true, true, true, true, false, false, false, false, false, false] rfl rfl (by kernel_rfl) (fun _ _ _ h => h) (Or.inl ⟨by rfl, ?_⟩) ?_ ?_
      rotate_left
      · intro w'
        go_simp
        with_reducible rfl
      rotate_left
      · simp only [Act.put, List.setIfInBounds_toArray, List.set_cons_zero, List.set_cons_succ, i64_w, i32_w]
        rfl
      refine pure_ (i := 20) (N := some 96) (v := ?_) (a' := ?_) #[true, true, true, true, true, true, true, true, true, true, true, true, true, true, true, true, true, true, true, true, true, false, false, false, false, false] rfl rfl (by kernel_rfl) (fun _ _ _ h => h) (Or.inl ⟨by rfl, ?_⟩) ?_ ?_
      rotate_left
      · intro w'
        go_simp
        with_reducible rfl
      rotate_left
      · simp only [Act.put, List.setIfInBounds_toArray, List.set_cons_zero, List.set_cons_succ, i64_w, i32_w]
        rfl
      refine take_ (i := 22) (N := some 98) (v := ?_) (a' := ?_) #[true, true, true, true, true, true, true, true, true, true, true, true, true, true, true, true, true, true, true, true, true, false, true, false, false, false] rfl rfl (by kernel_rfl) (fun _ _ _ h => h) (Or.inl ⟨by rfl, ?_⟩) hHeld ?_ ?_
      rotate_left
      · rintro w' ⟨s0, s1, s2, s3, s4, s5, s6, s7, s8, s9, s10, s11, s12⟩
        go_simp
        with_reducible rfl
      rotate_left
      · simp only [Act.put, List.setIfInBounds_toArray, List.set_cons_zero, List.set_cons_succ, i64_w, i32_w]
        rfl
      refine one_ (i := 21) (N := some 97) #[true, true, true, true, true, true, true, true, true, true, true, true, true, true, true, true, true, true, true, true, true, true, true, false, false, false] rfl rfl (by kernel_rfl) (by decide) (fun K hK => ?_)
      refine goes_ Try.func18 (by kernel_rfl) rfl #[.pointer (some ⟨g, 0, none⟩)] (by rfl) rfl rfl (by simp only [List.map_toArray, List.map_cons, List.map_nil]; rfl) ?_
      with_reducible refine (tally_v (.agg #[.int .i64 (1 + a0), .int .i64 F, .int .i64 (one KW.toNat G 0), .int .i64 (one KW.toNat G 1), .int .i64 (one KW.toNat G 2), .int .i64 (one KW.toNat G 3), .int .i64 (one KW.toNat G 4), .int .i64 (one KW.toNat G 5), .int .i64 (one KW.toNat G 6), .int .i64 (one KW.toNat G 7), .int .i64 (one KW.toNat G 8), .int .i64 (1 + a0 - F - G), .int .i64 (F / 2)]) g ((PS.full (1 + a0) (1 + a0)).out (F / 2).toNat F (F + G) (one KW.toNat G)) _ HV.out (by exact hb9)).mono ?_
      rintro e w10 ⟨rfl, hw10⟩
      refine ⟨_, rfl, ?_⟩
      refine hK.out _ _ ⟨((((HC.out.drew.below hw8).fr hf9 hbg3).below hw10).cell 0).trans rfl, ((((HC.out.drew.below hw8).fr hf9 hbg3).below hw10).cell 1).trans rfl, ((((HC.out.drew.below hw8).fr hf9 hbg3).below hw10).cell 2).trans rfl, ((((HC.out.drew.below hw8).fr hf9 hbg3).below hw10).cell 3).trans rfl, ((((HC.out.drew.below hw8).fr hf9 hbg3).below hw10).cell 4).trans rfl, ((((HC.out.drew.below hw8).fr hf9 hbg3).below hw10).cell 5).trans rfl, ((((HC.out.drew.below hw8).fr hf9 hbg3).below hw10).cell 6).trans rfl, ((((HC.out.drew.below hw8).fr hf9 hbg3).below hw10).cell 7).trans rfl, ((((HC.out.drew.below hw8).fr hf9 hbg3).below hw10).cell 8).trans rfl, ((((HC.out.drew.below hw8).fr hf9 hbg3).below hw10).cell 9).trans rfl, ((((HC.out.drew.below hw8).fr hf9 hbg3).below hw10).cell 10).trans rfl, ((((HC.out.drew.below hw8).fr hf9 hbg3).below hw10).cell 11).trans rfl, ((((HC.out.drew.below hw8).fr hf9 hbg3).below hw10).cell 12).trans rfl⟩ (fun hHeld => ?_)
      clear hK K
      refine norm_ (a' := ?_) ?_ ?_
      rotate_left
      · show Act.put _ (some 97) _ = _
        simp only [Act.put, List.setIfInBounds_toArray, List.set_cons_zero, List.set_cons_succ, i64_w, i32_w]
        rfl
      refine pure_ (i := 23) (N := some 99) (v := ?_) (a' := ?_) #[true, true, true, true, true, true, true, true, true, true, true, true, true, true, true, true, true, true, true, true, true, true, true, true, false, false] rfl rfl (by kernel_rfl) (fun _ _ _ h => h) (Or.inl ⟨by rfl, ?_⟩) ?_ ?_
      rotate_left
      · intro w'
        go_simp
        with_reducible rfl
      rotate_left
      · simp only [Act.put, List.setIfInBounds_toArray, List.set_cons_zero, List.set_cons_succ, i64_w, i32_w]
        rfl
      refine pure_ (i := 24) (N := some 100) (v := ?_) (a' := ?_) #[true, true, true, true, true, true, true, true, true, true, true, true, true, true, true, true, true, true, true, true, true, true, true, true, true, false] rfl rfl (by kernel_rfl) (fun _ _ _ h => h) (Or.inl ⟨by rfl, ?_⟩) ?_ ?_
      rotate_left
      · intro w'
        go_simp
        with_reducible rfl
      rotate_left
      · simp only [Act.put, List.setIfInBounds_toArray, List.set_cons_zero, List.set_cons_succ, i64_w, i32_w]
        rfl
      refine pure_ (i := 25) (N := some 8) (v := ?_) (a' := ?_) #[true, true, true, true, true, true, true, true, true, true, true, true, true, true, true, true, true, true, true, true, true, true, true, true, true, true] rfl rfl (by kernel_rfl) (fun _ _ _ h => h) (Or.inl ⟨by rfl, ?_⟩) ?_ ?_
      rotate_left
      · intro w'
        go_simp
        with_reducible rfl
      rotate_left
      · simp only [Act.put, List.setIfInBounds_toArray, List.set_cons_zero, List.set_cons_succ, i64_w, i32_w]
        rfl
      refine done_ (by kernel_rfl) ?_
      clear z1 z2 z3
      go_wp2_with fail
      go_ret
      refine ⟨rfl, ?_⟩
      have B8 := HL.out.drew.trans (hw8.mono HL.out.size)
      have B9 := Fr.to_below B8 hf9 B8.size (fun i e => by subst e; exact hgw)
      exact B9.trans (hw10.mono B9.size)
end Go.Proofs.Ytpnmhhckmpeogaa
