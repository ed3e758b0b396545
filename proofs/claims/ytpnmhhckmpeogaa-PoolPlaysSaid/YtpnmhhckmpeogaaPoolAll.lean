/- PoolAll, walked: the law answers true. By this session. -/
import Derived.Test.YtpnmhhckmpeogaaPoolArg
namespace Go.Proofs.Ytpnmhhckmpeogaa
open Go.RowKit Go.Proofs.YtpnmhhckmpeogaaW.PrintWords
set_option linter.unusedVariables false
set_option linter.unusedSimpArgs false

def PS.tc (s : PS) : Array Value := #[.int .i64 s.came, .int .i64 s.frames, .int .i64 (s.gone 0), .int .i64 (s.gone 1), .int .i64 (s.gone 2), .int .i64 (s.gone 3), .int .i64 (s.gone 4), .int .i64 (s.gone 5), .int .i64 (s.gone 6), .int .i64 (s.gone 7), .int .i64 (s.gone 8), .int .i64 s.held, .int .i64 s.packets]
theorem tc_gone (s : PS) : ∀ k, k < 9 → s.tc[2 + k]? = some (.int .i64 (s.gone k)) := nine rfl rfl rfl rfl rfl rfl rfl rfl rfl

/-- What holds of a pool of m behind at most K calls. -/
structure PInv (m K : Int) (s : PS) : Prop where
  most : s.most = m
  m0 : 1 ≤ m ∧ m ≤ 65536
  cameK : s.came ≤ K
  frames : 0 ≤ s.frames
  gone : ∀ i, 0 ≤ s.gone i
  zero : ∀ i, 9 ≤ i → s.gone i = 0
  held : 0 ≤ s.held ∧ s.held ≤ m
  packets : 0 ≤ s.packets ∧ s.packets ≤ s.frames
  all : s.came = s.frames + s.held + sum9 s.gone
theorem sum9_ge (gs : Nat → Int) (h : ∀ i, 0 ≤ gs i) : 0 ≤ sum9 gs ∧ ∀ k, k < 9 → gs k ≤ sum9 gs := by
  have h0 := h 0
  have h1 := h 1
  have h2 := h 2
  have h3 := h 3
  have h4 := h 4
  have h5 := h 5
  have h6 := h 6
  have h7 := h 7
  have h8 := h 8
  unfold sum9
  exact ⟨by omega, nine (by omega) (by omega) (by omega) (by omega) (by omega) (by omega) (by omega) (by omega) (by omega)⟩
theorem PInv.bn {m K : Int} {s : PS} (h : PInv m K s) : s.Bn K := by
  obtain ⟨a, b, c, d, e, z, f, g, i⟩ := h
  have hs := sum9_ge s.gone e
  refine ⟨by omega, by omega, fun k => ⟨e k, ?_⟩, by omega, by omega, by omega⟩
  by_cases hk : k < 9
  · have := hs.2 k hk; omega
  · rw [z k (by omega)]; omega
theorem PInv.bd {m K : Int} {s : PS} (h : PInv m K s) (hK : K ≤ 1000000) : s.Bd := h.bn.bd (by omega)
theorem PInv.new (m : Int) (h : 1 ≤ m ∧ m ≤ 65536) : PInv m 0 (PS.new m) := ⟨rfl, h, Int.le_refl _, Int.le_refl _, fun _ => Int.le_refl _, fun _ _ => rfl, ⟨Int.le_refl _, by show (0 : Int) ≤ m; omega⟩, ⟨Int.le_refl _, Int.le_refl _⟩, rfl⟩
theorem PInv.mono {m K K' : Int} {s : PS} (h : PInv m K s) (hk : K ≤ K') : PInv m K' s := by
  obtain ⟨a, b, c, d, e, z, f, g, i⟩ := h
  exact ⟨a, b, by omega, d, e, z, f, g, i⟩
theorem PInv.inn {m K : Int} {s : PS} (h : PInv m K s) (hr : ¬ s.held = s.most) : PInv m (K + 1) s.inn := by
  obtain ⟨a, b, c, d, e, z, f, g, i⟩ := h
  exact ⟨a, b, by simp only [PS.inn]; omega, d, e, z, by simp only [PS.inn]; omega, g, by simp only [PS.inn]; omega⟩
theorem sum9_lost (s : PS) : ∀ k, k < 9 → sum9 (s.lost k).gone = sum9 s.gone + 1 := by
  refine nine ?_ ?_ ?_ ?_ ?_ ?_ ?_ ?_ ?_
  all_goals (simp [sum9, PS.lost]; omega)
theorem PInv.lost {m K : Int} {s : PS} (h : PInv m K s) {k : Nat} (hk : k < 9) : PInv m (K + 1) (s.lost k) := by
  have hs := sum9_lost s k hk
  obtain ⟨a, b, c, d, e, z, f, g, i⟩ := h
  refine ⟨a, b, by simp only [PS.lost]; omega, d, fun j => ?_, fun j hj => ?_, f, g, ?_⟩
  · have := e j
    simp only [PS.lost]
    split <;> omega
  · simp only [PS.lost]
    rw [if_neg (by omega)]
    exact z j hj
  · rw [hs]
    show s.came + 1 = s.frames + s.held + _
    omega
theorem PInv.out {m K : Int} {s : PS} (h : PInv m K s) {n : Nat} {frames : Int} {gs : Nat → Int} (ho : outOk s n frames gs = true) : PInv m K (s.out n frames (allK s.most (fine0 s.most frames n) frames gs 9) (fun i => if i < 9 then gs i else 0)) := by
  obtain ⟨a, b, c, d, e, z, f, g, i⟩ := h
  simp only [outOk, Bool.and_eq_true, decide_eq_true_eq] at ho
  obtain ⟨h1, h2⟩ := ho
  have h3 := fineK_at _ _ _ _ h1
  have h4 := fineK_0 _ _ _ _ h1
  have h5 := allK_sum s.most (fine0 s.most frames n) frames gs 9 h1
  rw [sumK_9] at h5
  simp [fine0] at h4
  have hs : 0 ≤ sum9 gs := by
    have := (sum9_ge (fun i => if i < 9 then gs i else 0) (fun i => by split; exact (h3 i (by omega)).1; omega)).1
    simpa [sum9] using this
  rw [h5] at h2 ⊢
  refine ⟨a, b, c, by simp only [PS.out]; omega, fun j => ?_, fun j hj => ?_, by simp only [PS.out]; omega, by simp only [PS.out]; omega, ?_⟩
  · have := e j
    simp only [PS.out]
    split
    · have := (h3 j (by omega)).1; omega
    · omega
  · simp only [PS.out]
    rw [z j hj, if_neg (by omega)]
    rfl
  · have : sum9 (s.out n frames (frames + sum9 gs) (fun i => if i < 9 then gs i else 0)).gone = sum9 s.gone + sum9 gs := by
      simp [sum9, PS.out]
      omega
    rw [this]
    simp only [PS.out]
    omega
theorem PS.out_cells (s : PS) (n : Nat) (frames all : Int) (gs : Nat → Int) : (s.out n frames all gs).cells = (s.out n frames all (fun i => if i < 9 then gs i else 0)).cells := rfl

/-- Behind a call: the pool is as it should be, and 'came' says how many came. -/
def After (g : Nat) (m K : Int) (w : World) (c : Value) (wx : World) : Prop := ∃ s : PS, c = .int .i64 s.came ∧ Blk wx g s.cells 49 ∧ PInv m K s ∧ Below w.heap.size w wx
set_option maxHeartbeats 4000000 in
set_option maxRecDepth 100000 in
theorem all_walk (a0 : Int) (A : Option Addr) (cap : Nat) (l : List OpV) (h0 : 0 ≤ a0 ∧ a0 ≤ 65535) (w : World) (hr : Kd.C kOp w A l.length l) (hl : l.length ≤ 2000000000000) (hg : ∀ y ∈ l, OpGood y) :
    Calls Try.prog 4 #[.int .u16 a0, .slice A l.length cap] w fun e w' => e = .returned (.bool true) ∧ Below w.heap.size w w' := by
  have HR := Lib.hid hr
  have HG := Lib.hid hg
  clear hr hg
  go_enter Try.func4, Try.ntmps4
  go_wp2_with fail
  refine (head_ _).mono ?_
  rintro e w1 ⟨rfl, hw1⟩
  go_wp2_with fail
  refine (new_yes (1 + a0) _ (by omega) (by omega)).mono ?_
  rintro e w2 ⟨g, rfl, hb2, hg2, hw2⟩
  have hz : w.heap.size ≤ w2.heap.size := by have := hw1.size; have := hw2.size; omega
  have hB2 : Below w.heap.size w w2 := hw1.trans (hw2.mono hw1.size)
  have hgw : w.heap.size ≤ g := by have := hw1.size; omega
  have Hb2 := Lib.hid hb2
  have HB2 := Lib.hid hB2
  clear hb2 hB2 hw1 hw2 hg2
  go_wp2_with fail
  refine (great_ A cap l w2 (Kd.C_below HR.out HB2.out) hl HG.out).mono ?_
  rintro e w3 ⟨b, rfl, hgr, rfl⟩
  cases b
  case true =>
    clear hgr
    go_wp2_with fail
    go_ret
    exact ⟨rfl, HB2.out⟩
  case false =>
  have hl1 := hgr rfl
  clear hgr
  go_wp2_with fail
  go_loopw [8, 9] (fun c i wr => ∃ k : Nat, k ≤ l.length ∧ i = .int .i64 k ∧ After g (1 + a0) k w c wr) (fun _ i _ => l.length - (intOf i).toNat)
  case atStart => exact ⟨0, by omega, rfl, PS.new (1 + a0), rfl, Hb2.out, PInv.new _ (by omega), HB2.out⟩
  case round =>
  obtain ⟨k, hk, rfl, s, rfl, hb, hinv, hbel⟩ := hrel
  have HP := Lib.hid hb
  have HI := Lib.hid hinv
  have HL := Lib.hid hbel
  clear hb hinv hbel Hb2 HB2
  by_cases hk1 : k < l.length
  case neg =>
    go_wp2_with fail
    go_ret
    exact ⟨rfl, HL.out⟩
  case pos =>
  obtain ⟨ad, P, c1, hA, hop⟩ := op_at (Kd.C_below HR.out HL.out) k hk1
  subst hA
  have hgd := (HG.out _ (opAt_mem hk1)).1
  have hgl := (HG.out _ (opAt_mem hk1)).2
  obtain ⟨y, hy⟩ : ∃ y, opAt l k = y := ⟨_, rfl⟩
  rw [hy] at hop hgd hgl
  clear hy
  obtain ⟨o0, o1, o2, o3, o4, o5, o6, o7, o8, o9, o10, o11, o12⟩ := hop
  go_upto_region 10 with fail
  go_cut [10] (fun o wx => ∃ b, o = .pointer (some ⟨b, 0, none⟩) ∧ Blk wx b #[.int .i64 y.1, .int .i64 y.2.1, .slice P y.2.2.1.length c1, .int .i64 y.2.2.2.1, .int .i64 (y.2.2.2.2 0), .int .i64 (y.2.2.2.2 1), .int .i64 (y.2.2.2.2 2), .int .i64 (y.2.2.2.2 3), .int .i64 (y.2.2.2.2 4), .int .i64 (y.2.2.2.2 5), .int .i64 (y.2.2.2.2 6), .int .i64 (y.2.2.2.2 7), .int .i64 (y.2.2.2.2 8)] 34 ∧ b ≠ g ∧ w.heap.size ≤ b ∧ Blk wx g s.cells 49 ∧ Below w.heap.size w wx)
  case first =>
    go_wp2_with fail
    go_meet
    exact ⟨_, rfl, Blk.new _ _ _, by have := HP.out.lt; omega, HL.out.size, HP.out.alloc _, HL.out.alloc HL.out.size _⟩
  case rest =>
  clear o0 o1 o2 o3 o4 o5 o6 o7 o8 o9 o10 o11 o12
  obtain ⟨b, rfl, hc, hbg, hwb, hb, hbel⟩ := hcut
  have o0 : wc.cell? ⟨b, 0, none⟩ = some (.int .i64 y.1) := (hc.cell 0).trans rfl
  have o1 : wc.cell? ⟨b, 1, none⟩ = some (.int .i64 y.2.1) := (hc.cell 1).trans rfl
  have o2 : wc.cell? ⟨b, 2, none⟩ = some (.slice P y.2.2.1.length c1) := (hc.cell 2).trans rfl
  have o3 : wc.cell? ⟨b, 3, none⟩ = some (.int .i64 y.2.2.2.1) := (hc.cell 3).trans rfl
  have o4 : wc.cell? ⟨b, 4, none⟩ = some (.int .i64 (y.2.2.2.2 0)) := (hc.cell 4).trans rfl
  have o5 : wc.cell? ⟨b, 5, none⟩ = some (.int .i64 (y.2.2.2.2 1)) := (hc.cell 5).trans rfl
  have o6 : wc.cell? ⟨b, 6, none⟩ = some (.int .i64 (y.2.2.2.2 2)) := (hc.cell 6).trans rfl
  have o7 : wc.cell? ⟨b, 7, none⟩ = some (.int .i64 (y.2.2.2.2 3)) := (hc.cell 7).trans rfl
  have o8 : wc.cell? ⟨b, 8, none⟩ = some (.int .i64 (y.2.2.2.2 4)) := (hc.cell 8).trans rfl
  have o9 : wc.cell? ⟨b, 9, none⟩ = some (.int .i64 (y.2.2.2.2 5)) := (hc.cell 9).trans rfl
  have o10 : wc.cell? ⟨b, 10, none⟩ = some (.int .i64 (y.2.2.2.2 6)) := (hc.cell 10).trans rfl
  have o11 : wc.cell? ⟨b, 11, none⟩ = some (.int .i64 (y.2.2.2.2 7)) := (hc.cell 11).trans rfl
  have o12 : wc.cell? ⟨b, 12, none⟩ = some (.int .i64 (y.2.2.2.2 8)) := (hc.cell 12).trans rfl
  have HP := Lib.hid hb
  have HL := Lib.hid hbel
  clear hc hb hbel
  go_upto_if 43 with (fail)
  go_cut [8] (fun c wx => After g (1 + a0) (k + 1) w c wx)
  case first =>
    have hcame := HI.out.bn.came
    by_cases h2 : y.1 = 2
    · have h2b : (y.1 == 2) = true := by simpa using h2
      by_cases hw : 0 ≤ y.2.1 ∧ y.2.1 < 9
      · obtain ⟨hw0, hw1⟩ := hw
        go_wp2_with fail
        refine (drop_yes g y.2.1 s _ hw0 hw1 HP.out (HI.out.bd (by omega))).mono ?_
        rintro e w5 ⟨rfl, hb5, hf5⟩
        go_wp2_with fail
        go_meet
        exact ⟨_, rfl, hb5, HI.out.lost (by omega), Fr.to_below HL.out hf5 HL.out.size (fun i e => by subst e; exact hgw)⟩
      · have hw' : y.2.1 < 0 ∨ 9 ≤ y.2.1 := by omega
        clear hw
        go_wp2_with fail
        refine (drop_no g y.2.1 _ hw').mono ?_
        rintro e w5 ⟨rfl, rfl⟩
        go_wp2_with fail
        go_meet
        exact ⟨_, rfl, HP.out, HI.out.mono (by omega), HL.out⟩
    · have h2b : (y.1 == 2) = false := by simpa using h2
      by_cases h3 : y.1 = 3
      · have h3b : (y.1 == 3) = true := by simpa using h3
        go_wp2_with fail
        refine (out_ g P y.2.2.1.length c1 y.2.2.2.1 y.2.2.2.2 s _ HP.out (HI.out.bd (by omega)) hgl).mono ?_
        rintro e w5 ⟨rfl, hb5, hf5⟩
        go_wp2_with fail
        go_meet
        by_cases ho : outOk s y.2.2.1.length y.2.2.2.1 y.2.2.2.2 = true
        · rw [if_pos ho, PS.out_cells] at hb5
          refine ⟨_, ?_, hb5, (HI.out.out ho).mono (by omega), Fr.to_below HL.out hf5 HL.out.size (fun i e => by subst e; exact hgw)⟩
          rfl
        · rw [if_neg ho] at hb5
          exact ⟨_, rfl, hb5, HI.out.mono (by omega), Fr.to_below HL.out hf5 HL.out.size (fun i e => by subst e; exact hgw)⟩
      · have h3b : (y.1 == 3) = false := by simpa using h3
        by_cases hh : s.held = s.most
        · have HH := Lib.hid hh
          clear hh
          go_wp2_with fail
          refine (in_full g s _ HP.out (HI.out.bd (by omega)) HH.out).mono ?_
          rintro e w5 ⟨rfl, hb5, hf5⟩
          go_wp2_with fail
          go_meet
          exact ⟨_, rfl, hb5, HI.out.lost (by omega), Fr.to_below HL.out hf5 HL.out.size (fun i e => by subst e; exact hgw)⟩
        · have HH := Lib.hid hh
          clear hh
          go_wp2_with fail
          refine (in_room g s _ HP.out (HI.out.bd (by omega)) HH.out).mono ?_
          rintro e w5 ⟨rfl, hb5, hf5⟩
          go_wp2_with fail
          go_meet
          exact ⟨_, rfl, hb5, HI.out.inn HH.out, Fr.to_below HL.out hf5 HL.out.size (fun i e => by subst e; exact hgw)⟩
  case rest =>
  clear o0 o1 o2 o3 o4 o5 o6 o7 o8 o9 o10 o11 o12
  obtain ⟨s1, rfl, hb, hinv, hbel⟩ := hcut
  clear HP HI HL
  have HP := Lib.hid hb
  have HI := Lib.hid hinv
  have HL := Lib.hid hbel
  clear hb hinv hbel
  go_upto_region 18 with fail
  go_cut [11] (fun o wx => ∃ b, o = .pointer (some ⟨b, 0, none⟩) ∧ Blk wx b s1.tc 38 ∧ Blk wx g s1.cells 49 ∧ Below w.heap.size w wx)
  case first =>
    go_wp2_with fail
    refine (tally_ g s1 _ HP.out).mono ?_
    rintro e w5 ⟨rfl, hw5⟩
    unfold PS.tally
    go_wp2_with fail
    go_meet
    have hbel5 : Below w.heap.size w w5 := HL.out.trans (hw5.mono HL.out.size)
    exact ⟨_, rfl, Blk.new _ _ _, (HP.out.below hw5).alloc _, hbel5.alloc hbel5.size _⟩
  case rest =>
  obtain ⟨bt, rfl, hc, hb, hbel⟩ := hcut
  clear HP HL
  have k0 : wc.cell? ⟨bt, 0, none⟩ = some (.int .i64 s1.came) := (hc.cell 0).trans rfl
  have k1 : wc.cell? ⟨bt, 1, none⟩ = some (.int .i64 s1.frames) := (hc.cell 1).trans rfl
  have k11 : wc.cell? ⟨bt, 11, none⟩ = some (.int .i64 s1.held) := (hc.cell 11).trans rfl
  have k12 : wc.cell? ⟨bt, 12, none⟩ = some (.int .i64 s1.packets) := (hc.cell 12).trans rfl
  have b1 := HI.out.bn.came
  have b2 := HI.out.bn.frames
  have b3 := HI.out.bn.held
  have HC := Lib.hid hc
  have HP := Lib.hid hb
  have HL := Lib.hid hbel
  clear hc hb hbel
  go_wp2_with fail
  go_loop [12, 13] (fun v i => ∃ j : Nat, j ≤ 9 ∧ i = .int .i64 j ∧ v = .int .i64 (s1.frames + s1.held + sumK s1.gone j)) (fun _ i => 9 - (intOf i).toNat)
  case atStart => exact ⟨0, by omega, rfl, by simp [sumK]⟩
  case round =>
  obtain ⟨j, hj, rfl, rfl⟩ := hrel
  by_cases hj9 : j < 9
  case pos =>
    have c0 : wc.cell? ⟨bt, 2 + j, none⟩ = some (.int .i64 (s1.gone j)) := (HC.out.cell (2 + j)).trans (tc_gone s1 j hj9)
    have b4 := HI.out.bn.gone j
    have b5 : 0 ≤ sumK s1.gone j ∧ sumK s1.gone j ≤ 9 * 1000000 := by
      have hbn := HI.out.bn.gone
      have : ∀ q : Nat, q ≤ 9 → 0 ≤ sumK s1.gone q ∧ sumK s1.gone q ≤ q * 1000000 := by
        intro q
        induction q with
        | zero => intro _; simp [sumK]
        | succ q ih =>
          intro hq
          have h1 := ih (by omega)
          have h2 := hbn q
          simp only [sumK]
          push_cast
          omega
      have := this j hj
      omega
    have hsk : sumK s1.gone (j + 1) = sumK s1.gone j + s1.gone j := rfl
    have HSK := Lib.hid hsk
    clear hsk
    go_wp2_with fail
    go_round
    case rel => exact ⟨j + 1, by omega, by go_num, by rw [HSK.out]; go_num⟩
    case measure => simp [intOf]; omega
  case neg =>
  obtain rfl : j = 9 := by omega
  have e1 : s1.frames + s1.held + sumK s1.gone 9 = s1.came := by rw [sumK_9, HI.out.all]
  have q1 : (s1.frames + s1.held + sumK s1.gone 9 != s1.came) = false := by rw [e1]; simp
  have q2 : decide (s1.held < 0) = false := by simp; omega
  have q3 : decide (1 + a0 < s1.held) = false := by have := HI.out.held; simp; omega
  have q4 : decide (s1.frames < s1.packets) = false := by have := HI.out.packets; simp; omega
  clear e1 hj9 hj
  go_wp2_with fail
  go_quiet (exact Calls.quiet_of_same (held_ g s1 _ (by exact HP.out.drewN _)))
  go_wp2_with fail
  go_roundw
  case rel => exact ⟨k + 1, by omega, by go_num, s1, rfl, HP.out.drewN _, by have := HI.out; push_cast; exact this, pw_below_drewN HL.out _⟩
  case measure => simp [intOf]; omega
theorem all_law (a0 : Int) (A : Option Addr) (cap : Nat) (l : List OpV) (h0 : 0 ≤ a0 ∧ a0 ≤ 65535) (w : World) (hr : Kd.C kOp w A l.length l) (hg : l.length ≤ 2000000000000 ∧ ∀ y ∈ l, OpGood y) :
    Calls Try.prog 4 #[.int .u16 a0, .slice A l.length cap] w fun e w' => e = .returned (.bool true) ∧ Below w.heap.size w w' := all_walk a0 A cap l h0 w hr hg.1 hg.2
end Go.Proofs.Ytpnmhhckmpeogaa
