/- The document's (*Pool).Out, walked. By this session. -/
import Derived.Test.YtpnmhhckmpeogaaPoolR
namespace Go.Proofs.Ytpnmhhckmpeogaa
open Go.RowKit
set_option linter.unusedVariables false
set_option linter.unusedSimpArgs false

theorem fineK_le (m : Int) (f0 : Bool) (gs : Nat → Int) : ∀ k j, j ≤ k → fineK m f0 gs k = true → fineK m f0 gs j = true := by
  intro k
  induction k with
  | zero => intro j hj h; obtain rfl : j = 0 := by omega
            exact h
  | succ k ih =>
    intro j hj h
    by_cases e : j = k + 1
    · subst e; exact h
    · exact ih j (by omega) (fineK_mono _ _ _ _ h)
def comeC (P : Option Addr) (n c : Nat) (frames : Int) (gs : Nat → Int) : Array Value := #[.slice P n c, .int .i64 frames, .int .i64 (gs 0), .int .i64 (gs 1), .int .i64 (gs 2), .int .i64 (gs 3), .int .i64 (gs 4), .int .i64 (gs 5), .int .i64 (gs 6), .int .i64 (gs 7), .int .i64 (gs 8)]
theorem comeC_gone (P : Option Addr) (n c : Nat) (frames : Int) (gs : Nat → Int) : ∀ k, k < 9 → (comeC P n c frames gs)[2 + k]? = some (.int .i64 (gs k)) := nine rfl rfl rfl rfl rfl rfl rfl rfl rfl
theorem PS.rK_0 (s : PS) (n : Nat) (frames all : Int) (gs : Nat → Int) : ((s.rc.setIfInBounds 12 (.int .i64 (s.held - all))).setIfInBounds 2 (.int .i64 (s.frames + frames))).setIfInBounds 13 (.int .i64 (s.packets + n)) = (s.outK n frames all gs 0).rc := rfl
theorem PS.rK_s (s : PS) (n : Nat) (frames all : Int) (gs : Nat → Int) : ∀ k, k < 9 → (s.outK n frames all gs k).rc.setIfInBounds (3 + k) (.int .i64 (s.gone k + gs k)) = (s.outK n frames all gs (k + 1)).rc :=
  nine rfl rfl rfl rfl rfl rfl rfl rfl rfl
theorem PS.rK_9 (s : PS) (n : Nat) (frames all : Int) (gs : Nat → Int) : (s.outK n frames all gs 9).rc = (s.out n frames all gs).rc := rfl
def ROutPost (g n : Nat) (frames : Int) (gs : Nat → Int) (s : PS) (w : World) (e : Ending) (w' : World) : Prop :=
  e = .returned (.bool (outOk s n frames gs)) ∧ Blk w' g (if outOk s n frames gs = true then s.out n frames (allK s.most (fine0 s.most frames n) frames gs 9) gs else s).rc 51 ∧ Fr (· = g) w w'

set_option maxHeartbeats 2000000 in
set_option maxRecDepth 100000 in
theorem rout_ (g : Nat) (P : Option Addr) (n c : Nat) (frames : Int) (gs : Nat → Int) (s : PS) (w : World) (hB : Blk w g s.rc 51) (bd : s.Bd)
    (hn : n ≤ 9223372036854775807) :
    Calls Try.prog 15 #[.pointer (some ⟨g, 0, none⟩), come P n c frames gs] w (ROutPost g n frames gs s w) := by
  have hlt := hB.lt
  have hno : outOk s n frames gs = false → ∀ w', Blk w' g s.rc 51 → Fr (· = g) w w' → ROutPost g n frames gs s w (.returned (.bool false)) w' := fun ho w' hb hf => ⟨by rw [ho], by rw [ho]; exact hb, hf⟩
  have HNO := Lib.hid hno
  have HB0 := Lib.hid hB
  have Hbd := Lib.hid bd
  clear hB bd hno
  unfold come
  go_enter Try.func15, Try.ntmps15
  go_upto_region 0 with fail
  go_cut [3, 4] (fun c0 r wx => c0 = .pointer (some ⟨w.heap.size, 0, none⟩) ∧ Blk wx w.heap.size (comeC P n c frames gs) 32 ∧ Blk wx g s.rc 51 ∧ Fr (· = g) w wx)
  case first =>
    go_wp2_with fail
    go_meet
    exact ⟨rfl, Blk.new _ _ _, HB0.out.alloc _, (Fr.refl _ _).alloc _⟩
  case rest =>
  obtain ⟨rfl, hc, hb, hf⟩ := hcut
  clear HB0
  have q0 : wc.cell? ⟨w.heap.size, 0, none⟩ = some (.slice P n c) := (hc.cell 0).trans rfl
  have q1 : wc.cell? ⟨w.heap.size, 1, none⟩ = some (.int .i64 frames) := (hc.cell 1).trans rfl
  have m0 := r_most hb
  have h0 := r_held hb
  have HC := Lib.hid hc
  have HP := Lib.hid hb
  have HF := Lib.hid hf
  clear hc hb hf
  by_cases hfr : 0 ≤ frames
  case neg =>
    have ho : outOk s n frames gs = false := by
      have : fine0 s.most frames n = false := by simp [fine0, hfr]
      simp [outOk, this, fineK_no]
    have HO := Lib.hid ho
    clear ho
    go_wp2_with fail
    go_ret
    exact HNO.out HO.out _ HP.out HF.out
  case pos =>
  have d1 : decide (frames < 0) = false := by simp; omega
  by_cases hfm : frames ≤ s.most
  case neg =>
    have ho : outOk s n frames gs = false := outOk_frames (by omega)
    have d2 : decide (s.most < frames) = true := by simp; omega
    have HO := Lib.hid ho
    clear ho
    go_wp2_with fail
    go_ret
    exact HNO.out HO.out _ HP.out HF.out
  case pos =>
  have d2 : decide (s.most < frames) = false := by simp; omega
  by_cases hnf : (n : Int) ≤ frames
  case neg =>
    have ho : outOk s n frames gs = false := by
      have : fine0 s.most frames n = false := by simp [fine0]; omega
      simp [outOk, this, fineK_no]
    have d3 : decide (frames < (n : Int)) = true := by simp; omega
    have HO := Lib.hid ho
    clear ho
    go_wp2_with fail
    go_ret
    exact HNO.out HO.out _ HP.out HF.out
  case pos =>
  have d3 : decide (frames < (n : Int)) = false := by simp; omega
  have hf0 : fine0 s.most frames n = true := fine0_yes hfr hfm hnf
  have Hf0 := Lib.hid hf0
  have bm := Hbd.out.most
  clear hf0
  go_wp2_with fail
  go_loopw [5, 6] (fun v i wr => ∃ k : Nat, k ≤ 9 ∧ i = .int .i64 k ∧ fineK s.most (fine0 s.most frames n) gs k = true ∧ v = .int .i64 (frames + sumK gs k) ∧ Blk wr w.heap.size (comeC P n c frames gs) 32 ∧ Blk wr g s.rc 51 ∧ Fr (· = g) w wr) (fun _ i _ => 9 - (intOf i).toNat)
  case atStart => exact ⟨0, by omega, rfl, Hf0.out, by simp [sumK], HC.out, HP.out, HF.out⟩
  case round =>
  clear q0 q1 m0 h0 HC HP HF d1 d2 d3
  obtain ⟨k, hk, rfl, hfk, rfl, hc, hb, hf⟩ := hrel
  have m0 := r_most hb
  have h0 := r_held hb
  have HC := Lib.hid hc
  have HP := Lib.hid hb
  have HF := Lib.hid hf
  have HFK := Lib.hid hfk
  have bs : 0 ≤ sumK gs k ∧ sumK gs k ≤ 65536 * k := by
    have hall := fineK_at _ _ _ _ hfk
    have : ∀ j, j ≤ k → 0 ≤ sumK gs j ∧ sumK gs j ≤ 65536 * j := by
      intro j
      induction j with
      | zero => intro _; simp [sumK]
      | succ j ih =>
        intro hj
        have h1 := ih (by omega)
        have h2 := hall j (by omega)
        simp only [sumK]
        push_cast
        omega
    exact this k (by omega)
  clear hc hb hf hfk
  by_cases hk9 : k < 9
  case pos =>
    have c0 : wr.cell? ⟨w.heap.size, 2 + k, none⟩ = some (.int .i64 (gs k)) := (HC.out.cell (2 + k)).trans (comeC_gone _ _ _ _ _ k hk9)
    by_cases hg : 0 ≤ gs k ∧ gs k ≤ s.most
    · have d1 : decide (gs k < 0) = false := by simp; omega
      have d2 : decide (s.most < gs k) = false := by simp; omega
      have e1 : fineK s.most (fine0 s.most frames n) gs (k + 1) = true := by simp only [fineK, HFK.out, Bool.true_and]; simp; exact hg
      have E1 := Lib.hid e1
      obtain ⟨hg1, hg2⟩ := hg
      clear e1
      go_wp2_with fail
      go_quiet (fail)
      go_wp2_with fail
      go_roundw
      case rel => exact ⟨k + 1, by omega, by go_num, E1.out, by simp only [sumK]; go_num, HC.out.drewN _, HP.out.drewN _, HF.out.drewN _⟩
      case measure => simp [intOf]; omega
    · have ho : outOk s n frames gs = false := by
        cases h9 : fineK s.most (fine0 s.most frames n) gs 9 with
        | false => simp [outOk, h9]
        | true => exact absurd (fineK_at _ _ _ _ h9 k hk9) hg
      have HO := Lib.hid ho
      clear ho
      by_cases hg1 : gs k < 0
      · clear hg
        have d1 : decide (gs k < 0) = true := by simpa using hg1
        go_wp2_with fail
        go_quiet (fail)
        go_wp2_with fail
        go_ret
        exact HNO.out HO.out _ (HP.out.drewN _) (HF.out.drewN _)
      · have d1 : decide (gs k < 0) = false := by simpa using hg1
        have d2 : decide (s.most < gs k) = true := by simp; omega
        clear hg hg1
        go_wp2_with fail
        go_quiet (fail)
        go_wp2_with fail
        go_ret
        exact HNO.out HO.out _ (HP.out.drewN _) (HF.out.drewN _)
  case neg =>
  obtain rfl : k = 9 := by omega
  have hall := allK_sum s.most (fine0 s.most frames n) frames gs 9 HFK.out
  have HALL := Lib.hid hall
  clear hall hk9 hk
  by_cases hh : frames + sumK gs 9 ≤ s.held
  case neg =>
    have ho : outOk s n frames gs = false := by
      simp only [outOk, HFK.out, HALL.out, Bool.true_and, decide_eq_false_iff_not]
      exact hh
    have HO := Lib.hid ho
    clear ho
    have d1 : decide (s.held < frames + sumK gs 9) = true := by simp; omega
    go_wp2_with fail
    go_ret
    exact HNO.out HO.out _ HP.out HF.out
  case pos =>
  have d1 : decide (s.held < frames + sumK gs 9) = false := by simp; omega
  have ho : outOk s n frames gs = true := by
    simp only [outOk, HFK.out, HALL.out, Bool.true_and, decide_eq_true_eq]
    exact hh
  have HO := Lib.hid ho
  clear ho
  have q0 : wr.cell? ⟨w.heap.size, 0, none⟩ = some (.slice P n c) := (HC.out.cell 0).trans rfl
  have q1 : wr.cell? ⟨w.heap.size, 1, none⟩ = some (.int .i64 frames) := (HC.out.cell 1).trans rfl
  have k1 := r_frames HP.out
  have k2 := r_packets HP.out
  have f0 := HP.out.frozen 12
  have f1 := HP.out.frozen 2
  have f2 := HP.out.frozen 13
  have b3 := Hbd.out.held
  have b4 := Hbd.out.frames
  have b5 := Hbd.out.packets
  have B6 := Lib.hid Hbd.out.gone
  have b8 : (n : Int) ≤ 65536 := by omega
  have B1 := Lib.hid (fineK_at _ _ _ _ HFK.out)
  have Hkeep := Lib.hid (PS.rK_0 s n frames (frames + sumK gs 9) gs)
  obtain ⟨all, hall⟩ : ∃ all, frames + sumK gs 9 = all := ⟨_, rfl⟩
  have ball : 0 ≤ all ∧ all ≤ s.held := by omega
  rw [hall] at d1 hh HALL Hkeep ⊢
  clear hall
  go_wp2
  go_region
  go_wp2
  go_region
  go_wp2
  go_loopw [7] (fun i wx => ∃ k : Nat, k ≤ 9 ∧ i = .int .i64 k ∧ Blk wx g (s.outK n frames all gs k).rc 51 ∧ Blk wx w.heap.size (comeC P n c frames gs) 32 ∧ Fr (· = g) w wx) (fun i _ => 9 - (intOf i).toNat)
  case atStart =>
    refine ⟨0, by omega, rfl, ?_, ?_, ?_⟩
    · rw [← Hkeep.out]
      exact ((HP.out.set 12 _).set 2 _).set 13 _
    · exact HC.out.fr (S := (· = g)) (by repeat (first | exact Fr.refl _ _ | apply Fr.drew | apply Fr.drewN | apply Fr.set1)) (by omega)
    · repeat (first | exact HF.out | apply Fr.drew | apply Fr.drewN | apply Fr.set1)
  case round =>
  clear q0 q1 m0 h0 k1 k2 f0 f1 f2
  obtain ⟨k, hk, rfl, hb, hc, hF⟩ := hrel
  by_cases hlt9 : k < 9
  · have c0 : wr.cell? ⟨w.heap.size, 2 + k, none⟩ = some (.int .i64 (gs k)) := (hc.cell (2 + k)).trans (comeC_gone _ _ _ _ _ k hlt9)
    have k1 := r_gone hb k hlt9
    rw [PS.outK_at] at k1
    have f0 := hb.frozen (3 + k)
    have b9 := B1.out k hlt9
    have b10 := B6.out k
    have Hs := Lib.hid (PS.rK_s s n frames all gs k hlt9)
    have HB := Lib.hid hb
    have HP := Lib.hid hc
    have HF := Lib.hid hF
    clear hb hc hF
    go_wp2
    go_region
    go_wp2
    go_roundw
    case rel =>
      refine ⟨k + 1, by omega, by go_num, ?_, ?_, ?_⟩
      · rw [← Hs.out]
        exact HB.out.set _ _
      · exact HP.out.fr (S := (· = g)) (by repeat (first | exact Fr.refl _ _ | apply Fr.drew | apply Fr.drewN | apply Fr.set1)) (by omega)
      · repeat (first | exact HF.out | apply Fr.drew | apply Fr.drewN | apply Fr.set1)
    case measure => simp [intOf]; omega
  · obtain rfl : k = 9 := by omega
    clear hlt9 hk
    have HB := Lib.hid hb
    have HF := Lib.hid hF
    clear hb hc hF
    go_wp2
    go_ret
    refine ⟨by rw [HO.out]; rfl, ?_, HF.out⟩
    rw [HO.out, if_pos rfl, HALL.out, ← PS.rK_9]
    exact HB.out
end Go.Proofs.Ytpnmhhckmpeogaa
