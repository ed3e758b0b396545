/- (*Pool).Out, walked. By this session. -/
import Derived.Test.YtpnmhhckmpeogaaPoolW
import Derived.LoopTactic
import Derived.Deep.LoopGhost
import Derived.Deep.DeepCutAuto
namespace Go.Proofs.Ytpnmhhckmpeogaa
open Go.RowKit

def fineK (m : Int) (f0 : Bool) (gs : Nat → Int) : Nat → Bool
  | 0 => f0
  | k + 1 => fineK m f0 gs k && (decide (0 ≤ gs k) && decide (gs k ≤ m))
def allK (m : Int) (f0 : Bool) (a0 : Int) (gs : Nat → Int) : Nat → Int
  | 0 => a0
  | k + 1 => if fineK m f0 gs (k + 1) = true then allK m f0 a0 gs k + gs k else allK m f0 a0 gs k
def fine0 (m frames : Int) (n : Nat) : Bool := decide (0 ≤ frames) && decide (frames ≤ m) && decide ((n : Int) ≤ frames)
theorem allK_bd (m frames : Int) (n : Nat) (gs : Nat → Int) (hm : m ≤ 65536) : ∀ k, fineK m (fine0 m frames n) gs k = true → 0 ≤ allK m (fine0 m frames n) frames gs k ∧ allK m (fine0 m frames n) frames gs k ≤ 65536 * (k + 1) := by
  intro k
  induction k with
  | zero => intro h; simp [fineK, fine0] at h; simp only [allK]; omega
  | succ k ih =>
    intro h
    have h' := h
    simp only [fineK, Bool.and_eq_true, decide_eq_true_eq] at h'
    have := ih h'.1
    simp only [allK]
    rw [if_pos h]
    omega

theorem idx9 (gs : Nat → Int) : ∀ k, k < 9 → ∀ w, (Instr.index 30 (.agg #[.int .i64 (gs 0), .int .i64 (gs 1), .int .i64 (gs 2), .int .i64 (gs 3), .int .i64 (gs 4), .int .i64 (gs 5), .int .i64 (gs 6), .int .i64 (gs 7), .int .i64 (gs 8)]) (.int .i64 (k : Nat))).run Try.prog w = .ok (.int .i64 (gs k)) w := by
  refine nine ?_ ?_ ?_ ?_ ?_ ?_ ?_ ?_ ?_
  all_goals intro w; kernel_rfl

def outOk (s : PS) (n : Nat) (frames : Int) (gs : Nat → Int) : Bool := fineK s.most (fine0 s.most frames n) gs 9 && decide (allK s.most (fine0 s.most frames n) frames gs 9 ≤ s.held)
def PS.out (s : PS) (n : Nat) (frames all : Int) (gs : Nat → Int) : PS := { s with held := s.held - all, frames := s.frames + frames, packets := s.packets + n, gone := fun i => s.gone i + gs i }
def OutPost (g n : Nat) (frames : Int) (gs : Nat → Int) (s : PS) (w : World) (e : Ending) (w' : World) : Prop :=
  e = .returned (.bool (outOk s n frames gs)) ∧ Blk w' g (if outOk s n frames gs = true then s.out n frames (allK s.most (fine0 s.most frames n) frames gs 9) gs else s).cells 49 ∧ Fr (· = g) w w'

theorem fineK_no (m : Int) (gs : Nat → Int) : ∀ k, fineK m false gs k = false := by
  intro k
  induction k with
  | zero => rfl
  | succ k ih => simp [fineK, ih]

theorem may_b (r : Bool) (b g : Nat) (n : Int) (s : PS) (w : World) (hr : (decide (0 ≤ n) && decide (n ≤ s.most)) = r) (hb : w.cell? ⟨b, 0, none⟩ = some (.pointer (some ⟨g, 0, none⟩))) (hB : Blk w g s.cells 49) :
    Calls Try.prog 23 #[.int .i64 n, .pointer (some ⟨b, 0, none⟩)] w fun e w' => e = .returned (.bool r) ∧ w' = w := hr ▸ may_ b g n s w hb hB

/-- How things stand behind 'all, fine := ..': the boxes of p and c, and the pool's block. -/
structure At2 (g : Nat) (P : Option Addr) (n c : Nat) (frames : Int) (gs : Nat → Int) (s : PS) (w wx : World) : Prop where
  blk : Blk wx g s.cells 49
  p : Blk wx w.heap.size #[.pointer (some ⟨g, 0, none⟩)] 25
  c : Blk wx (w.heap.size + 1) #[.slice P n c, .int .i64 frames, .int .i64 (gs 0), .int .i64 (gs 1), .int .i64 (gs 2), .int .i64 (gs 3), .int .i64 (gs 4), .int .i64 (gs 5), .int .i64 (gs 6), .int .i64 (gs 7), .int .i64 (gs 8)] 32
  fr : Fr (· = g) w wx

theorem At2.start {g : Nat} {P : Option Addr} {n c : Nat} {frames : Int} {gs : Nat → Int} {s : PS} {w : World} (hB : Blk w g s.cells 49) :
    At2 g P n c frames gs s w ((w.alloc (Obj.cells #[Value.pointer (some { block := g, off := 0 })] 25)).alloc (Obj.cells #[.slice P n c, .int .i64 frames, .int .i64 (gs 0), .int .i64 (gs 1), .int .i64 (gs 2), .int .i64 (gs 3), .int .i64 (gs 4), .int .i64 (gs 5), .int .i64 (gs 6), .int .i64 (gs 7), .int .i64 (gs 8)] 32)) := by
  refine ⟨hB.fr (S := fun _ => False) (((Fr.refl _ _).alloc _).alloc _) (fun h => h), ?_, ?_, ((Fr.refl _ _).alloc _).alloc _⟩
  · exact (Blk.new w _ _).fr (S := fun _ => False) ((Fr.refl _ _).alloc _) (fun h => h)
  · have := Blk.new (w.alloc (Obj.cells #[Value.pointer (some { block := g, off := 0 })] 25)) #[.slice P n c, .int .i64 frames, .int .i64 (gs 0), .int .i64 (gs 1), .int .i64 (gs 2), .int .i64 (gs 3), .int .i64 (gs 4), .int .i64 (gs 5), .int .i64 (gs 6), .int .i64 (gs 7), .int .i64 (gs 8)] 32
    simpa using this
theorem At2.drewN {g : Nat} {P : Option Addr} {n c : Nat} {frames : Int} {gs : Nat → Int} {s : PS} {w wx : World} (h : At2 g P n c frames gs s w wx) (m : Nat) : At2 g P n c frames gs s w (wx.drewN m) := ⟨h.blk.drewN m, h.p.drewN m, h.c.drewN m, h.fr.drewN m⟩

theorem fineK_0 (m : Int) (f0 : Bool) (gs : Nat → Int) : ∀ k, fineK m f0 gs k = true → f0 = true := by
  intro k
  induction k with
  | zero => exact fun h => h
  | succ k ih => intro h; simp only [fineK, Bool.and_eq_true] at h; exact ih h.1
theorem fineK_at (m : Int) (f0 : Bool) (gs : Nat → Int) : ∀ k, fineK m f0 gs k = true → ∀ i, i < k → 0 ≤ gs i ∧ gs i ≤ m := by
  intro k
  induction k with
  | zero => intro _ i hi; omega
  | succ k ih =>
    intro h i hi
    simp only [fineK, Bool.and_eq_true, decide_eq_true_eq] at h
    by_cases e : i = k
    · subst e; exact h.2
    · exact ih h.1 i (by omega)
/-- The pool while what is gone is counted: the first k are. -/
def PS.outK (s : PS) (n : Nat) (frames all : Int) (gs : Nat → Int) (k : Nat) : PS := { s with held := s.held - all, frames := s.frames + frames, packets := s.packets + n, gone := fun i => if i < k then s.gone i + gs i else s.gone i }
theorem PS.outK_0 (s : PS) (n : Nat) (frames all : Int) (gs : Nat → Int) : ((s.cells.setIfInBounds 11 (.int .i64 (s.held - all))).setIfInBounds 1 (.int .i64 (s.frames + frames))).setIfInBounds 12 (.int .i64 (s.packets + n)) = (s.outK n frames all gs 0).cells := rfl
theorem PS.outK_s (s : PS) (n : Nat) (frames all : Int) (gs : Nat → Int) : ∀ k, k < 9 → (s.outK n frames all gs k).cells.setIfInBounds (2 + k) (.int .i64 (s.gone k + gs k)) = (s.outK n frames all gs (k + 1)).cells :=
  nine rfl rfl rfl rfl rfl rfl rfl rfl rfl
theorem PS.outK_9 (s : PS) (n : Nat) (frames all : Int) (gs : Nat → Int) : (s.outK n frames all gs 9).cells = (s.out n frames all gs).cells := rfl
theorem PS.outK_at (s : PS) (n : Nat) (frames all : Int) (gs : Nat → Int) (k : Nat) : (s.outK n frames all gs k).gone k = s.gone k := if_neg (by omega)

set_option maxHeartbeats 1000000 in
set_option maxRecDepth 100000 in
theorem out_ (g : Nat) (P : Option Addr) (n c : Nat) (frames : Int) (gs : Nat → Int) (s : PS) (w : World) (hB : Blk w g s.cells 49) (bd : s.Bd)
    (hn : n ≤ 9223372036854775807) :
    Calls Try.prog 14 #[.pointer (some ⟨g, 0, none⟩), come P n c frames gs] w (OutPost g n frames gs s w) := by
  have hlt := hB.lt
  have Hst := Lib.hid (At2.start (P := P) (n := n) (c := c) (frames := frames) (gs := gs) hB)
  have hq := allK_bd s.most frames n gs bd.most.2
  have Hbd := Lib.hid bd
  have HQ := Lib.hid hq
  clear hB bd hq
  unfold come
  go_enter Try.func14, Try.ntmps14
  go_upto_region 2 with fail
  go_cut [6, 7] (fun a f wx => a = .int .i64 frames ∧ f = .bool (fine0 s.most frames n) ∧ At2 g P n c frames gs s w wx)
  case first =>
    have hc1 : (((w.alloc (Obj.cells #[Value.pointer (some { block := g, off := 0 })] 25)).alloc (Obj.cells #[.slice P n c, .int .i64 frames, .int .i64 (gs 0), .int .i64 (gs 1), .int .i64 (gs 2), .int .i64 (gs 3), .int .i64 (gs 4), .int .i64 (gs 5), .int .i64 (gs 6), .int .i64 (gs 7), .int .i64 (gs 8)] 32))).cell? ⟨w.heap.size, 0, none⟩ = some (.pointer (some ⟨g, 0, none⟩)) := by go_simp
    have Hc1 := Lib.hid hc1
    clear hc1
    by_cases hm : (decide (0 ≤ frames) && decide (frames ≤ s.most)) = true
    · have Hm := Lib.hid hm
      by_cases hl : (n : Int) ≤ frames
      · have hd2 : decide ((n : Int) ≤ frames) = true := by simpa using hl
        have fin : fine0 s.most frames n = true := by simp only [fine0, hm, hd2, Bool.and_self]
        have Hfin := Lib.hid fin
        clear hm hl fin
        go_quiet (exact Calls.quiet_of_same (may_b true w.heap.size g frames s _ Hm.out (by exact Hc1.out) (by exact Hst.out.blk.drewN _)))
        go_wp2
        go_meet
        exact ⟨rfl, by rw [Hfin.out], Hst.out.drewN _⟩
      · have hd2 : decide ((n : Int) ≤ frames) = false := by simpa using hl
        have fin : fine0 s.most frames n = false := by simp only [fine0, hm, hd2, Bool.and_false]
        have Hfin := Lib.hid fin
        clear hm hl fin
        go_quiet (exact Calls.quiet_of_same (may_b true w.heap.size g frames s _ Hm.out (by exact Hc1.out) (by exact Hst.out.blk.drewN _)))
        go_wp2
        go_meet
        exact ⟨rfl, by rw [Hfin.out], Hst.out.drewN _⟩
    · have hm := Bool.eq_false_iff.2 hm
      have Hm := Lib.hid hm
      have fin : fine0 s.most frames n = false := by simp only [fine0, hm, Bool.false_and]
      have Hfin := Lib.hid fin
      clear hm fin
      go_quiet (exact Calls.quiet_of_same (may_b false w.heap.size g frames s _ Hm.out (by exact Hc1.out) (by exact Hst.out.blk.drewN _)))
      go_wp2
      go_meet
      exact ⟨rfl, by rw [Hfin.out], Hst.out.drewN _⟩
  case rest =>
    obtain ⟨rfl, rfl, hat⟩ := hcut
    have p0 : wc.cell? ⟨w.heap.size, 0, none⟩ = some (.pointer (some ⟨g, 0, none⟩)) := (hat.p.cell 0).trans rfl
    have q1 : wc.cell? ⟨w.heap.size + 1, 1, none⟩ = some (.int .i64 frames) := (hat.c.cell 1).trans rfl
    have q0 : wc.cell? ⟨w.heap.size + 1, 0, none⟩ = some (.slice P n c) := (hat.c.cell 0).trans rfl
    have g0 : wc.cell? ⟨w.heap.size + 1, 2, none⟩ = some (.int .i64 (gs 0)) := (hat.c.cell 2).trans rfl
    have g1 : wc.cell? ⟨w.heap.size + 1, 3, none⟩ = some (.int .i64 (gs 1)) := (hat.c.cell 3).trans rfl
    have g2 : wc.cell? ⟨w.heap.size + 1, 4, none⟩ = some (.int .i64 (gs 2)) := (hat.c.cell 4).trans rfl
    have g3 : wc.cell? ⟨w.heap.size + 1, 5, none⟩ = some (.int .i64 (gs 3)) := (hat.c.cell 5).trans rfl
    have g4 : wc.cell? ⟨w.heap.size + 1, 6, none⟩ = some (.int .i64 (gs 4)) := (hat.c.cell 6).trans rfl
    have g5 : wc.cell? ⟨w.heap.size + 1, 7, none⟩ = some (.int .i64 (gs 5)) := (hat.c.cell 7).trans rfl
    have g6 : wc.cell? ⟨w.heap.size + 1, 8, none⟩ = some (.int .i64 (gs 6)) := (hat.c.cell 8).trans rfl
    have g7 : wc.cell? ⟨w.heap.size + 1, 9, none⟩ = some (.int .i64 (gs 7)) := (hat.c.cell 9).trans rfl
    have g8 : wc.cell? ⟨w.heap.size + 1, 10, none⟩ = some (.int .i64 (gs 8)) := (hat.c.cell 10).trans rfl
    have hh := c_held hat.blk
    have HA := Lib.hid hat
    clear hat Hst
    go_wp2
    go_loop [6, 7, 29] (fun a f i => ∃ k : Nat, k ≤ 9 ∧ i = .int .i64 k ∧ f = .bool (fineK s.most (fine0 s.most frames n) gs k) ∧ a = .int .i64 (allK s.most (fine0 s.most frames n) frames gs k)) (fun _ _ i => 9 - (intOf i).toNat)
    case atStart => exact ⟨0, by omega, rfl, rfl, rfl⟩
    case round =>
      obtain ⟨k, hk, rfl, rfl, rfl⟩ := hrel
      by_cases hlt9 : k < 9
      · have hi := idx9 gs k hlt9
        by_cases hf : fineK s.most (fine0 s.most frames n) gs k = true
        · by_cases hm : (decide (0 ≤ gs k) && decide (gs k ≤ s.most)) = true
          · have e1 : fineK s.most (fine0 s.most frames n) gs (k + 1) = true := by simp only [fineK, hf, hm, Bool.and_self]
            have e2 : allK s.most (fine0 s.most frames n) frames gs (k + 1) = allK s.most (fine0 s.most frames n) frames gs k + gs k := by simp only [allK]; rw [if_pos e1]
            have b0 := HQ.out k hf
            have b1 : 0 ≤ gs k ∧ gs k ≤ 65536 := by simp at hm; have := Hbd.out.most; omega
            have Hm := Lib.hid hm
            have E1 := Lib.hid e1
            have E2 := Lib.hid e2
            clear hm e1 e2
            go_wp2_with (go_at_call 23; refine (may_b true w.heap.size g (gs k) s _ Hm.out p0 HA.out.blk).mono ?_; rintro e w' ⟨rfl, rfl⟩)
            go_round
            case rel => exact ⟨k + 1, by omega, by go_num, by rw [E1.out], by rw [E2.out]⟩
            case measure => simp [intOf]; omega
          · have hm := Bool.eq_false_iff.2 hm
            have e1 : fineK s.most (fine0 s.most frames n) gs (k + 1) = false := by simp only [fineK, hf, hm, Bool.and_false]
            have e2 : allK s.most (fine0 s.most frames n) frames gs (k + 1) = allK s.most (fine0 s.most frames n) frames gs k := by simp only [allK]; rw [if_neg (by rw [e1]; decide)]
            have Hm := Lib.hid hm
            have E1 := Lib.hid e1
            have E2 := Lib.hid e2
            clear hm e1 e2
            go_wp2_with (go_at_call 23; refine (may_b false w.heap.size g (gs k) s _ Hm.out p0 HA.out.blk).mono ?_; rintro e w' ⟨rfl, rfl⟩)
            go_round
            case rel => exact ⟨k + 1, by omega, by go_num, by rw [E1.out], by rw [E2.out]⟩
            case measure => simp [intOf]; omega
        · have hf := Bool.eq_false_iff.2 hf
          have e1 : fineK s.most (fine0 s.most frames n) gs (k + 1) = false := by simp only [fineK, hf, Bool.false_and]
          have e2 : allK s.most (fine0 s.most frames n) frames gs (k + 1) = allK s.most (fine0 s.most frames n) frames gs k := by simp only [allK]; rw [if_neg (by rw [e1]; decide)]
          have E1 := Lib.hid e1
          have E2 := Lib.hid e2
          clear e1 e2
          go_wp2
          go_round
          case rel => exact ⟨k + 1, by omega, by go_num, by rw [E1.out], by rw [E2.out]⟩
          case measure => simp [intOf]; omega
      · obtain rfl : k = 9 := by omega
        clear hlt9 hk
        by_cases hf : fineK s.most (fine0 s.most frames n) gs 9 = true
        · by_cases ha : allK s.most (fine0 s.most frames n) frames gs 9 ≤ s.held
          · have hyes : outOk s n frames gs = true := by simp only [outOk, hf, decide_eq_true ha, Bool.and_true]
            have ha' : decide (s.held < allK s.most (fine0 s.most frames n) frames gs 9) = false := by simp; omega
            have b0 := HQ.out 9 hf
            have b1 := fineK_at _ _ _ _ hf
            have b2 := fineK_0 _ _ _ _ hf
            have b3 := Hbd.out.held
            have b4 := Hbd.out.frames
            have b5 := Hbd.out.packets
            have b6 := Hbd.out.gone
            have b7 := Hbd.out.most
            have b8 : 0 ≤ frames ∧ frames ≤ 65536 ∧ (n : Int) ≤ 65536 := by simp [fine0] at b2; omega
            have Hyes := Lib.hid hyes
            have B1 := Lib.hid b1
            have B6 := Lib.hid b6
            have f0 := HA.out.blk.frozen 11
            have f1 := HA.out.blk.frozen 1
            have f2 := HA.out.blk.frozen 12
            have k1 := c_frames HA.out.blk
            have k2 := c_packets HA.out.blk
            have Hkeep := Lib.hid (PS.outK_0 s n frames (allK s.most (fine0 s.most frames n) frames gs 9) gs)
            clear hyes b1 b2 b6
            go_wp2
            go_region
            go_wp2
            go_region
            go_wp2
            go_loopw [89] (fun i wr => ∃ k : Nat, k ≤ 9 ∧ i = .int .i64 k ∧ Blk wr g (s.outK n frames (allK s.most (fine0 s.most frames n) frames gs 9) gs k).cells 49 ∧ Blk wr w.heap.size #[.pointer (some ⟨g, 0, none⟩)] 25 ∧ Fr (· = g) w wr) (fun i _ => 9 - (intOf i).toNat)
            case atStart =>
              refine ⟨0, by omega, rfl, ?_, ?_, ?_⟩
              · rw [← Hkeep.out]
                exact ((HA.out.blk.set 11 _).set 1 _).set 12 _
              · exact HA.out.p.fr (S := (· = g)) (by repeat (first | exact Fr.refl _ _ | apply Fr.drew | apply Fr.drewN | apply Fr.set1)) (by omega)
              · repeat (first | exact HA.out.fr | apply Fr.drew | apply Fr.drewN | apply Fr.set1)
            case round =>
              clear p0 q1 q0 g0 g1 g2 g3 g4 g5 g6 g7 g8 hh f0 f1 f2 k1 k2
              obtain ⟨k, hk, rfl, hb, hp, hF⟩ := hrel
              by_cases hlt9 : k < 9
              · have hi := idx9 gs k hlt9
                have p0 : wr.cell? ⟨w.heap.size, 0, none⟩ = some (.pointer (some ⟨g, 0, none⟩)) := (hp.cell 0).trans rfl
                have k1 := c_gone hb k hlt9
                rw [PS.outK_at] at k1
                have f0 := hb.frozen (2 + k)
                have b9 := B1.out k hlt9
                have b10 := B6.out k
                have Hs := Lib.hid (PS.outK_s s n frames (allK s.most (fine0 s.most frames n) frames gs 9) gs k hlt9)
                have HB := Lib.hid hb
                have HP := Lib.hid hp
                have HF := Lib.hid hF
                clear hb hp hF
                go_wp2
                go_region
                go_wp2
                go_roundw
                case rel =>
                  refine ⟨k + 1, by omega, by go_num, ?_, ?_, ?_⟩
                  · rw [← Hs.out]
                    exact HB.out.set _ _
                  · exact HP.out.fr (S := (· = g)) (by repeat (first | exact Fr.refl _ _ | apply Fr.drew | apply Fr.drewN | apply Fr.set1)) (by omega)
                  · repeat (first | exact HF.out | apply Fr.drew | apply Fr.drewN | apply Fr.set1)
                case measure => simp [intOf]; omega
              · obtain rfl : k = 9 := by omega
                clear hlt9 hk
                have HB := Lib.hid hb
                have HF := Lib.hid hF
                clear hb hp hF
                go_wp2
                go_ret
                refine ⟨by rw [Hyes.out]; rfl, ?_, HF.out⟩
                rw [Hyes.out, if_pos rfl, ← PS.outK_9]
                exact HB.out
          · have hno : outOk s n frames gs = false := by simp only [outOk, hf, decide_eq_false ha, Bool.and_false]
            have ha' : decide (s.held < allK s.most (fine0 s.most frames n) frames gs 9) = true := by simp; omega
            have Hno := Lib.hid hno
            clear hno ha
            go_wp2
            go_ret
            exact ⟨by rw [Hno.out]; rfl, by rw [Hno.out]; exact HA.out.blk, HA.out.fr⟩
        · have hf := Bool.eq_false_iff.2 hf
          have hno : outOk s n frames gs = false := by simp only [outOk, hf, Bool.false_and]
          have Hno := Lib.hid hno
          clear hno
          go_wp2
          go_ret
          exact ⟨by rw [Hno.out]; rfl, by rw [Hno.out]; exact HA.out.blk, HA.out.fr⟩
end Go.Proofs.Ytpnmhhckmpeogaa
