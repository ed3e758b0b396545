/- The document's pool, walked: it turns its block as the plain pool says. By this session. -/
import Derived.Test.YtpnmhhckmpeogaaPoolArg
namespace Go.Proofs.Ytpnmhhckmpeogaa
open Go.RowKit
set_option linter.unusedVariables false
set_option linter.unusedSimpArgs false

def PS.rc (s : PS) : Array Value := #[.int .i64 s.most, .int .i64 s.came, .int .i64 s.frames, .int .i64 (s.gone 0), .int .i64 (s.gone 1), .int .i64 (s.gone 2), .int .i64 (s.gone 3), .int .i64 (s.gone 4), .int .i64 (s.gone 5), .int .i64 (s.gone 6), .int .i64 (s.gone 7), .int .i64 (s.gone 8), .int .i64 s.held, .int .i64 s.packets]
theorem PS.rc_gone (s : PS) : ∀ k, k < 9 → s.rc[3 + k]? = some (.int .i64 (s.gone k)) := nine rfl rfl rfl rfl rfl rfl rfl rfl rfl
theorem PS.rc_lost (s : PS) : ∀ k, k < 9 → (s.rc.setIfInBounds 1 (.int .i64 (s.came + 1))).setIfInBounds (3 + k) (.int .i64 (s.gone k + 1)) = (s.lost k).rc :=
  nine rfl rfl rfl rfl rfl rfl rfl rfl rfl
theorem PS.rc_inn (s : PS) : (s.rc.setIfInBounds 1 (.int .i64 (s.came + 1))).setIfInBounds 12 (.int .i64 (s.held + 1)) = s.inn.rc := rfl
section
variable {s : PS} {w : World} {g : Nat}
theorem r_most (h : Blk w g s.rc 51) : w.cell? ⟨g, 0, none⟩ = some (.int .i64 s.most) := (h.cell 0).trans rfl
theorem r_came (h : Blk w g s.rc 51) : w.cell? ⟨g, 1, none⟩ = some (.int .i64 s.came) := (h.cell 1).trans rfl
theorem r_frames (h : Blk w g s.rc 51) : w.cell? ⟨g, 2, none⟩ = some (.int .i64 s.frames) := (h.cell 2).trans rfl
theorem r_gone (h : Blk w g s.rc 51) (k : Nat) (hk : k < 9) : w.cell? ⟨g, 3 + k, none⟩ = some (.int .i64 (s.gone k)) := (h.cell (3 + k)).trans (s.rc_gone k hk)
theorem r_held (h : Blk w g s.rc 51) : w.cell? ⟨g, 12, none⟩ = some (.int .i64 s.held) := (h.cell 12).trans rfl
theorem r_packets (h : Blk w g s.rc 51) : w.cell? ⟨g, 13, none⟩ = some (.int .i64 s.packets) := (h.cell 13).trans rfl
end

theorem rnew_yes (n : Int) (w : World) (h1 : 1 ≤ n) (h2 : n ≤ 65536) :
    Calls Try.prog 11 #[.int .i64 n] w fun e w' => ∃ g, e = .returned (.pointer (some ⟨g, 0, none⟩)) ∧ Blk w' g (PS.new n).rc 51 ∧ w.heap.size ≤ g ∧ Below w.heap.size w w' := by
  go_enter Try.func11, Try.ntmps11
  go_wp2
  go_ret
  exact ⟨_, rfl, Blk.new _ _ _, Nat.le_refl _, (Below.refl _ _).alloc (Nat.le_refl _) _⟩
theorem rnew_no (n : Int) (w : World) (h : n < 1 ∨ 65536 < n) :
    Calls Try.prog 11 #[.int .i64 n] w fun e w' => e = .returned (.pointer none) ∧ w' = w := by
  rcases h with h | h
  · go_enter Try.func11, Try.ntmps11
    go_wp2
    go_ret
    exact ⟨rfl, rfl⟩
  · have h' : ¬ n < 1 := by omega
    go_enter Try.func11, Try.ntmps11
    go_wp2
    go_ret
    exact ⟨rfl, rfl⟩
theorem rdrop_yes (g : Nat) (why : Int) (s : PS) (w : World) (h1 : 0 ≤ why) (h2 : why < 9) (hB : Blk w g s.rc 51) (bd : s.Bd) :
    Calls Try.prog 13 #[.pointer (some ⟨g, 0, none⟩), .int .i64 why] w fun e w' => e = .returned (.bool true) ∧ Blk w' g (s.lost why.toNat).rc 51 ∧ Fr (· = g) w w' := by
  have hc := r_came hB
  have hx := r_gone hB why.toNat (by omega)
  have f0 := hB.frozen 1
  have f1 := hB.frozen (3 + why.toNat)
  have b0 := bd.came
  have b1 := bd.gone why.toNat
  have fin := s.rc_lost why.toNat (by omega)
  have hd1 : decide (why < 0) = false := by simp; omega
  have hd : decide (9 ≤ why) = false := by simp; omega
  have Hfin := Lib.hid fin
  have HB := Lib.hid hB
  clear fin hB bd
  go_enter Try.func13, Try.ntmps13
  go_wp2
  go_region
  go_wp2
  go_ret
  refine ⟨rfl, ?_, ?_⟩
  · rw [← Hfin.out]
    exact (HB.out.set 1 _).drew.set _ _
  · repeat (first | exact Fr.refl _ _ | apply Fr.drew | apply Fr.drewN | apply Fr.set1)
theorem rdrop_no (g : Nat) (why : Int) (w : World) (h : why < 0 ∨ 9 ≤ why) :
    Calls Try.prog 13 #[.pointer (some ⟨g, 0, none⟩), .int .i64 why] w fun e w' => e = .returned (.bool false) ∧ w' = w := by
  by_cases h0 : why < 0
  · clear h
    go_enter Try.func13, Try.ntmps13
    go_wp2
    go_ret
    exact ⟨rfl, rfl⟩
  · have h1 : 9 ≤ why := by omega
    clear h
    go_enter Try.func13, Try.ntmps13
    go_wp2
    go_ret
    exact ⟨rfl, rfl⟩
theorem rin_full (g : Nat) (s : PS) (w : World) (hB : Blk w g s.rc 51) (bd : s.Bd) (h : s.held = s.most) :
    Calls Try.prog 17 #[.pointer (some ⟨g, 0, none⟩)] w fun e w' => e = .returned (.bool false) ∧ Blk w' g (s.lost 3).rc 51 ∧ Fr (· = g) w w' := by
  have hc := r_held hB
  have hx := r_most hB
  have hd : decide (s.most ≤ s.held) = true := by simp; omega
  have HB := Lib.hid hB
  have Hbd := Lib.hid bd
  clear hB bd h
  go_enter Try.func17, Try.ntmps17
  go_wp2
  go_quiet (fail)
  go_wp2_with (go_at_call 13; refine (rdrop_yes g 3 s _ (by omega) (by omega) (HB.out.drewN _) Hbd.out).mono ?_; rintro e w' ⟨rfl, hb, hf⟩)
  go_ret
  exact ⟨rfl, hb, ((Fr.refl _ _).drewN _).trans hf⟩
theorem rin_room (g : Nat) (s : PS) (w : World) (hB : Blk w g s.rc 51) (bd : s.Bd) (h : s.held < s.most) :
    Calls Try.prog 17 #[.pointer (some ⟨g, 0, none⟩)] w fun e w' => e = .returned (.bool true) ∧ Blk w' g s.inn.rc 51 ∧ Fr (· = g) w w' := by
  have hc := r_held hB
  have hx := r_most hB
  have hy := r_came hB
  have f0 := hB.frozen 1
  have f1 := hB.frozen 12
  have b0 := bd.came
  have b1 := bd.held
  have hd : decide (s.most ≤ s.held) = false := by simp; omega
  have HB := Lib.hid hB
  clear hB bd h
  go_enter Try.func17, Try.ntmps17
  go_wp2
  go_quiet (fail)
  go_wp2
  go_ret
  refine ⟨rfl, ?_, ?_⟩
  · rw [← PS.rc_inn]
    exact (HB.out.drew.set 1 _).set 12 _
  · repeat (first | exact Fr.refl _ _ | apply Fr.drew | apply Fr.drewN | apply Fr.set1)
theorem rheld_ (g : Nat) (s : PS) (w : World) (hB : Blk w g s.rc 51) :
    Calls Try.prog 21 #[.pointer (some ⟨g, 0, none⟩)] w fun e w' => e = .returned (.int .i64 s.held) ∧ w' = w := by
  have hc := r_held hB
  clear hB
  go_enter Try.func21, Try.ntmps21
  go_wp2
  go_ret
  exact ⟨rfl, rfl⟩
theorem rtally_ (g : Nat) (s : PS) (w : World) (hB : Blk w g s.rc 51) :
    Calls Try.prog 19 #[.pointer (some ⟨g, 0, none⟩)] w fun e w' => e = .returned s.tally ∧ Below w.heap.size w w' := by
  have h0 := r_came hB
  have h1 := r_frames hB
  have g0 : w.cell? ⟨g, 3, none⟩ = some (.int .i64 (s.gone 0)) := r_gone hB 0 (by omega)
  have g1 : w.cell? ⟨g, 4, none⟩ = some (.int .i64 (s.gone 1)) := r_gone hB 1 (by omega)
  have g2 : w.cell? ⟨g, 5, none⟩ = some (.int .i64 (s.gone 2)) := r_gone hB 2 (by omega)
  have g3 : w.cell? ⟨g, 6, none⟩ = some (.int .i64 (s.gone 3)) := r_gone hB 3 (by omega)
  have g4 : w.cell? ⟨g, 7, none⟩ = some (.int .i64 (s.gone 4)) := r_gone hB 4 (by omega)
  have g5 : w.cell? ⟨g, 8, none⟩ = some (.int .i64 (s.gone 5)) := r_gone hB 5 (by omega)
  have g6 : w.cell? ⟨g, 9, none⟩ = some (.int .i64 (s.gone 6)) := r_gone hB 6 (by omega)
  have g7 : w.cell? ⟨g, 10, none⟩ = some (.int .i64 (s.gone 7)) := r_gone hB 7 (by omega)
  have g8 : w.cell? ⟨g, 11, none⟩ = some (.int .i64 (s.gone 8)) := r_gone hB 8 (by omega)
  have h2 := r_held hB
  have h3 := r_packets hB
  have hlt := hB.lt
  clear hB
  go_enter Try.func19, Try.ntmps19
  go_wp2
  exact bodyPost_ret (v := s.tally) (by simp [results, Try.results19, go_sem, PS.tally]) rfl ⟨rfl, (Below.refl _ _).alloc (Nat.le_refl _) _⟩
end Go.Proofs.Ytpnmhhckmpeogaa
