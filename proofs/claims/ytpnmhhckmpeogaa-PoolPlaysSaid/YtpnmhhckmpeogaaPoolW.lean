/- The pool's functions, walked: each turns the block of its pool as the plain pool says. By this session. -/
import Derived.Test.YtpnmhhckmpeogaaProg
import Derived.Test.YtpnmhhckmpeogaaFr
import Derived.KernelRfl
import Derived.RegionTactic
import Derived.ChangeAlike
import Derived.Deep.QuietTactic
import Derived.BigQuiet
import Derived.BigRegion
import Derived.Lib.Hide
import Derived.Outline
namespace Go.Proofs.Ytpnmhhckmpeogaa
open Go.RowKit

/-- A pool, in numbers. -/
structure PS where
  came : Int
  frames : Int
  gone : Nat → Int
  held : Int
  packets : Int
  most : Int

def PS.cells (s : PS) : Array Value := #[.int .i64 s.came, .int .i64 s.frames, .int .i64 (s.gone 0), .int .i64 (s.gone 1), .int .i64 (s.gone 2), .int .i64 (s.gone 3), .int .i64 (s.gone 4), .int .i64 (s.gone 5), .int .i64 (s.gone 6), .int .i64 (s.gone 7), .int .i64 (s.gone 8), .int .i64 s.held, .int .i64 s.packets, .int .i64 s.most]
def PS.new (n : Int) : PS := ⟨0, 0, fun _ => 0, 0, 0, n⟩
def PS.lost (s : PS) (k : Nat) : PS := { s with came := s.came + 1, gone := fun i => if i = k then s.gone i + 1 else s.gone i }
def PS.inn (s : PS) : PS := { s with came := s.came + 1, held := s.held + 1 }
structure PS.Bd (s : PS) : Prop where
  came : 0 ≤ s.came ∧ s.came ≤ 1000000000000
  frames : 0 ≤ s.frames ∧ s.frames ≤ 1000000000000
  gone : ∀ i, 0 ≤ s.gone i ∧ s.gone i ≤ 1000000000000
  held : 0 ≤ s.held ∧ s.held ≤ 1000000000000
  packets : 0 ≤ s.packets ∧ s.packets ≤ 1000000000000
  most : 1 ≤ s.most ∧ s.most ≤ 65536

/-- All numbers lie from 0 to n. -/
structure PS.Bn (n : Int) (s : PS) : Prop where
  came : 0 ≤ s.came ∧ s.came ≤ n
  frames : 0 ≤ s.frames ∧ s.frames ≤ n
  gone : ∀ i, 0 ≤ s.gone i ∧ s.gone i ≤ n
  held : 0 ≤ s.held ∧ s.held ≤ n
  packets : 0 ≤ s.packets ∧ s.packets ≤ n
  most : 1 ≤ s.most ∧ s.most ≤ 65536
theorem PS.Bn.bd {n : Int} {s : PS} (h : s.Bn n) (hn : n ≤ 1000000000000) : s.Bd := by
  obtain ⟨h1, h2, h3, h4, h5, h6⟩ := h
  exact ⟨by omega, by omega, fun i => by have := h3 i; omega, by omega, by omega, h6⟩
theorem PS.Bn.new (n : Int) (h : 1 ≤ n ∧ n ≤ 65536) : (PS.new n).Bn 0 := ⟨by simp [PS.new], by simp [PS.new], by simp [PS.new], by simp [PS.new], by simp [PS.new], h⟩
theorem PS.Bn.inn {n : Int} {s : PS} (h : s.Bn n) : s.inn.Bn (n + 1) := by
  obtain ⟨h1, h2, h3, h4, h5, h6⟩ := h
  exact ⟨by simp only [PS.inn]; omega, by simp only [PS.inn]; omega, fun i => by have := h3 i; simp only [PS.inn]; omega, by simp only [PS.inn]; omega, by simp only [PS.inn]; omega, h6⟩
theorem PS.Bn.lost {n : Int} {s : PS} (h : s.Bn n) (k : Nat) : (s.lost k).Bn (n + 1) := by
  obtain ⟨h1, h2, h3, h4, h5, h6⟩ := h
  exact ⟨by simp only [PS.lost]; omega, by simp only [PS.lost]; omega, fun i => by have := h3 i; simp only [PS.lost]; split <;> omega, by simp only [PS.lost]; omega, by simp only [PS.lost]; omega, h6⟩

theorem nine {P : Nat → Prop} (h0 : P 0) (h1 : P 1) (h2 : P 2) (h3 : P 3) (h4 : P 4) (h5 : P 5) (h6 : P 6) (h7 : P 7) (h8 : P 8) : ∀ k, k < 9 → P k := by
  intro k hk
  match k, hk with
  | 0, _ => exact h0
  | 1, _ => exact h1
  | 2, _ => exact h2
  | 3, _ => exact h3
  | 4, _ => exact h4
  | 5, _ => exact h5
  | 6, _ => exact h6
  | 7, _ => exact h7
  | 8, _ => exact h8
  | n + 9, h => omega

theorem PS.at_gone (s : PS) : ∀ k, k < 9 → s.cells[2 + k]? = some (.int .i64 (s.gone k)) := nine rfl rfl rfl rfl rfl rfl rfl rfl rfl
theorem PS.cells_lost (s : PS) : ∀ k, k < 9 → (s.cells.setIfInBounds 0 (.int .i64 (s.came + 1))).setIfInBounds (2 + k) (.int .i64 (s.gone k + 1)) = (s.lost k).cells :=
  nine rfl rfl rfl rfl rfl rfl rfl rfl rfl
theorem PS.cells_inn (s : PS) : (s.cells.setIfInBounds 0 (.int .i64 (s.came + 1))).setIfInBounds 11 (.int .i64 (s.held + 1)) = s.inn.cells := rfl

section
variable {s : PS} {w : World} {g : Nat}
theorem c_came (h : Blk w g s.cells 49) : w.cell? ⟨g, 0, none⟩ = some (.int .i64 s.came) := (h.cell 0).trans rfl
theorem c_frames (h : Blk w g s.cells 49) : w.cell? ⟨g, 1, none⟩ = some (.int .i64 s.frames) := (h.cell 1).trans rfl
theorem c_gone (h : Blk w g s.cells 49) (k : Nat) (hk : k < 9) : w.cell? ⟨g, 2 + k, none⟩ = some (.int .i64 (s.gone k)) := (h.cell (2 + k)).trans (s.at_gone k hk)
theorem c_held (h : Blk w g s.cells 49) : w.cell? ⟨g, 11, none⟩ = some (.int .i64 s.held) := (h.cell 11).trans rfl
theorem c_packets (h : Blk w g s.cells 49) : w.cell? ⟨g, 12, none⟩ = some (.int .i64 s.packets) := (h.cell 12).trans rfl
theorem c_most (h : Blk w g s.cells 49) : w.cell? ⟨g, 13, none⟩ = some (.int .i64 s.most) := (h.cell 13).trans rfl
end

theorem new_yes (n : Int) (w : World) (h1 : 1 ≤ n) (h2 : n ≤ 65536) :
    Calls Try.prog 10 #[.int .i64 n] w fun e w' => ∃ g, e = .returned (.pointer (some ⟨g, 0, none⟩)) ∧ Blk w' g (PS.new n).cells 49 ∧ w.heap.size ≤ g ∧ Below w.heap.size w w' := by
  go_enter Try.func10, Try.ntmps10
  go_wp2
  go_ret
  exact ⟨_, rfl, Blk.new _ _ _, Nat.le_refl _, (Below.refl _ _).alloc (Nat.le_refl _) _⟩
theorem new_no (n : Int) (w : World) (h : n < 1 ∨ 65536 < n) :
    Calls Try.prog 10 #[.int .i64 n] w fun e w' => e = .returned (.pointer none) ∧ w' = w := by
  rcases h with h | h
  · go_enter Try.func10, Try.ntmps10
    go_wp2
    go_ret
    exact ⟨rfl, rfl⟩
  · have h' : ¬ n < 1 := by omega
    go_enter Try.func10, Try.ntmps10
    go_wp2
    go_ret
    exact ⟨rfl, rfl⟩

theorem gone_ (g : Nat) (why : Int) (s : PS) (w : World) (h1 : 0 ≤ why) (h2 : why < 9) (hB : Blk w g s.cells 49) (bd : s.Bd) :
    Calls Try.prog 22 #[.pointer (some ⟨g, 0, none⟩), .int .i64 why] w fun e w' => e = .returned (.tuple #[]) ∧ Blk w' g (s.lost why.toNat).cells 49 ∧ Fr (· = g) w w' := by
  have hc := c_came hB
  have hx := c_gone hB why.toNat (by omega)
  have f0 := hB.frozen 0
  have f1 := hB.frozen (2 + why.toNat)
  have b0 := bd.came
  have b1 := bd.gone why.toNat
  have fin := s.cells_lost why.toNat (by omega)
  have Hfin := Lib.hid fin
  have HB := Lib.hid hB
  clear fin hB bd
  go_enter Try.func22, Try.ntmps22
  go_wp2
  go_region
  all_goals go_end0
  refine ⟨rfl, ?_, ?_⟩
  · rw [← Hfin.out]
    exact (HB.out.set 0 _).drew.set _ _
  · repeat (first | exact Fr.refl _ _ | apply Fr.drew | apply Fr.drewN | apply Fr.set1)

theorem in_full (g : Nat) (s : PS) (w : World) (hB : Blk w g s.cells 49) (bd : s.Bd) (h : s.held = s.most) :
    Calls Try.prog 16 #[.pointer (some ⟨g, 0, none⟩)] w fun e w' => e = .returned (.bool false) ∧ Blk w' g (s.lost 3).cells 49 ∧ Fr (· = g) w w' := by
  have hc := c_held hB
  have hx := c_most hB
  have hd : (s.held == s.most) = true := by simpa using h
  have HB := Lib.hid hB
  have Hbd := Lib.hid bd
  clear hB bd h
  go_enter Try.func16, Try.ntmps16
  go_wp2
  go_quiet (fail)
  go_wp2_with (go_at_call 22; refine (gone_ g 3 s _ (by omega) (by omega) (HB.out.drewN _) Hbd.out).mono ?_; rintro e w' ⟨rfl, hb, hf⟩)
  go_ret
  exact ⟨rfl, hb, ((Fr.refl _ _).drewN _).trans hf⟩

theorem in_room (g : Nat) (s : PS) (w : World) (hB : Blk w g s.cells 49) (bd : s.Bd) (h : ¬ s.held = s.most) :
    Calls Try.prog 16 #[.pointer (some ⟨g, 0, none⟩)] w fun e w' => e = .returned (.bool true) ∧ Blk w' g s.inn.cells 49 ∧ Fr (· = g) w w' := by
  have hc := c_held hB
  have hx := c_most hB
  have hy := c_came hB
  have f0 := hB.frozen 0
  have f1 := hB.frozen 11
  have b0 := bd.came
  have b1 := bd.held
  have hd : (s.held == s.most) = false := by simpa using h
  have HB := Lib.hid hB
  clear hB bd h
  go_enter Try.func16, Try.ntmps16
  go_wp2
  go_quiet (fail)
  go_wp2
  go_ret
  refine ⟨rfl, ?_, ?_⟩
  · rw [← PS.cells_inn]
    exact (HB.out.drew.set 0 _).set 11 _
  · repeat (first | exact Fr.refl _ _ | apply Fr.drew | apply Fr.drewN | apply Fr.set1)

theorem drop_yes (g : Nat) (why : Int) (s : PS) (w : World) (h1 : 0 ≤ why) (h2 : why < 9) (hB : Blk w g s.cells 49) (bd : s.Bd) :
    Calls Try.prog 12 #[.pointer (some ⟨g, 0, none⟩), .int .i64 why] w fun e w' => e = .returned (.bool true) ∧ Blk w' g (s.lost why.toNat).cells 49 ∧ Fr (· = g) w w' := by
  have HB := Lib.hid hB
  have Hbd := Lib.hid bd
  have hd : decide (why < 9) = true := by simpa using h2
  clear hB bd
  go_enter Try.func12, Try.ntmps12
  go_wp2_with (go_at_call 22; refine (gone_ g why s _ h1 h2 HB.out Hbd.out).mono ?_; rintro e w' ⟨rfl, hb, hf⟩)
  go_ret
  exact ⟨rfl, hb, hf⟩
theorem drop_no (g : Nat) (why : Int) (w : World) (h : why < 0 ∨ 9 ≤ why) :
    Calls Try.prog 12 #[.pointer (some ⟨g, 0, none⟩), .int .i64 why] w fun e w' => e = .returned (.bool false) ∧ w' = w := by
  by_cases h0 : 0 ≤ why
  · have h1 : ¬ why < 9 := by omega
    clear h
    go_enter Try.func12, Try.ntmps12
    go_wp2
    go_ret
    exact ⟨rfl, rfl⟩
  · clear h
    go_enter Try.func12, Try.ntmps12
    go_wp2
    go_ret
    exact ⟨rfl, rfl⟩
theorem held_ (g : Nat) (s : PS) (w : World) (hB : Blk w g s.cells 49) :
    Calls Try.prog 20 #[.pointer (some ⟨g, 0, none⟩)] w fun e w' => e = .returned (.int .i64 s.held) ∧ w' = w := by
  have hc := c_held hB
  clear hB
  go_enter Try.func20, Try.ntmps20
  go_wp2
  go_ret
  exact ⟨rfl, rfl⟩
/-- A tally, as a value. -/
def PS.tally (s : PS) : Value := .agg #[.int .i64 s.came, .int .i64 s.frames, .int .i64 (s.gone 0), .int .i64 (s.gone 1), .int .i64 (s.gone 2), .int .i64 (s.gone 3), .int .i64 (s.gone 4), .int .i64 (s.gone 5), .int .i64 (s.gone 6), .int .i64 (s.gone 7), .int .i64 (s.gone 8), .int .i64 s.held, .int .i64 s.packets]
theorem tally_ (g : Nat) (s : PS) (w : World) (hB : Blk w g s.cells 49) :
    Calls Try.prog 18 #[.pointer (some ⟨g, 0, none⟩)] w fun e w' => e = .returned s.tally ∧ Below w.heap.size w w' := by
  have h0 := c_came hB
  have h1 := c_frames hB
  have g0 : w.cell? ⟨g, 2, none⟩ = some (.int .i64 (s.gone 0)) := c_gone hB 0 (by omega)
  have g1 : w.cell? ⟨g, 3, none⟩ = some (.int .i64 (s.gone 1)) := c_gone hB 1 (by omega)
  have g2 : w.cell? ⟨g, 4, none⟩ = some (.int .i64 (s.gone 2)) := c_gone hB 2 (by omega)
  have g3 : w.cell? ⟨g, 5, none⟩ = some (.int .i64 (s.gone 3)) := c_gone hB 3 (by omega)
  have g4 : w.cell? ⟨g, 6, none⟩ = some (.int .i64 (s.gone 4)) := c_gone hB 4 (by omega)
  have g5 : w.cell? ⟨g, 7, none⟩ = some (.int .i64 (s.gone 5)) := c_gone hB 5 (by omega)
  have g6 : w.cell? ⟨g, 8, none⟩ = some (.int .i64 (s.gone 6)) := c_gone hB 6 (by omega)
  have g7 : w.cell? ⟨g, 9, none⟩ = some (.int .i64 (s.gone 7)) := c_gone hB 7 (by omega)
  have g8 : w.cell? ⟨g, 10, none⟩ = some (.int .i64 (s.gone 8)) := c_gone hB 8 (by omega)
  have h2 := c_held hB
  have h3 := c_packets hB
  have hlt := hB.lt
  clear hB
  go_enter Try.func18, Try.ntmps18
  go_wp2
  exact bodyPost_ret (v := s.tally) (by simp [results, Try.results18, go_sem, PS.tally]) rfl ⟨rfl, (Below.refl _ _).alloc (Nat.le_refl _) _⟩

/-- What came of a call, as a value: packets, how many frames, how many of each why. -/
def come (P : Option Addr) (n c : Nat) (frames : Int) (gs : Nat → Int) : Value := .agg #[.slice P n c, .int .i64 frames, .int .i64 (gs 0), .int .i64 (gs 1), .int .i64 (gs 2), .int .i64 (gs 3), .int .i64 (gs 4), .int .i64 (gs 5), .int .i64 (gs 6), .int .i64 (gs 7), .int .i64 (gs 8)]
/-- 'may', the closure: the pool's pointer lies in a block of its own. -/
theorem may_ (b g : Nat) (n : Int) (s : PS) (w : World) (hb : w.cell? ⟨b, 0, none⟩ = some (.pointer (some ⟨g, 0, none⟩))) (hB : Blk w g s.cells 49) :
    Calls Try.prog 23 #[.int .i64 n, .pointer (some ⟨b, 0, none⟩)] w fun e w' => e = .returned (.bool (decide (0 ≤ n) && decide (n ≤ s.most))) ∧ w' = w := by
  have hc := c_most hB
  clear hB
  by_cases h0 : 0 ≤ n
  · go_enter Try.func23, Try.ntmps23
    go_wp2
    go_ret
    exact ⟨by simp [h0], rfl⟩
  · go_enter Try.func23, Try.ntmps23
    go_wp2
    go_ret
    exact ⟨by simp; omega, rfl⟩
end Go.Proofs.Ytpnmhhckmpeogaa
