/- The plain pool: what goes out, in numbers. By this session. -/
import Derived.Test.YtpnmhhckmpeogaaPoolHead
namespace Go.Proofs.Ytpnmhhckmpeogaa
open Go.RowKit

def sum9 (gs : Nat → Int) : Int := gs 0 + gs 1 + gs 2 + gs 3 + gs 4 + gs 5 + gs 6 + gs 7 + gs 8
def sumK (gs : Nat → Int) : Nat → Int
  | 0 => 0
  | k + 1 => sumK gs k + gs k
theorem sumK_9 (gs : Nat → Int) : sumK gs 9 = sum9 gs := by simp only [sumK, sum9]; omega
theorem fineK_mono (m : Int) (f0 : Bool) (gs : Nat → Int) (k : Nat) (h : fineK m f0 gs (k + 1) = true) : fineK m f0 gs k = true := by
  simp only [fineK, Bool.and_eq_true] at h; exact h.1
theorem allK_sum (m : Int) (f0 : Bool) (a0 : Int) (gs : Nat → Int) : ∀ k, fineK m f0 gs k = true → allK m f0 a0 gs k = a0 + sumK gs k := by
  intro k
  induction k with
  | zero => intro _; simp [allK, sumK]
  | succ k ih =>
    intro h
    simp only [allK, sumK]
    rw [if_pos h, ih (fineK_mono _ _ _ _ h)]
    omega
theorem fineK_all (m : Int) (gs : Nat → Int) : ∀ k, (∀ i, i < k → 0 ≤ gs i ∧ gs i ≤ m) → fineK m true gs k = true := by
  intro k
  induction k with
  | zero => intro _; rfl
  | succ k ih =>
    intro h
    have := h k (by omega)
    simp only [fineK, Bool.and_eq_true, decide_eq_true_eq]
    exact ⟨ih (fun i hi => h i (by omega)), this⟩
theorem fine0_yes {m frames : Int} {n : Nat} (h0 : 0 ≤ frames) (h1 : frames ≤ m) (h2 : (n : Int) ≤ frames) : fine0 m frames n = true := by simp [fine0, h0, h1, h2]
theorem outOk_yes {s : PS} {n : Nat} {frames : Int} {gs : Nat → Int} (h0 : 0 ≤ frames) (h1 : frames ≤ s.most) (h2 : (n : Int) ≤ frames) (hg : ∀ i, i < 9 → 0 ≤ gs i ∧ gs i ≤ s.most) (ha : frames + sum9 gs ≤ s.held) : outOk s n frames gs = true := by
  have e0 := fine0_yes h0 h1 h2
  have e1 : fineK s.most (fine0 s.most frames n) gs 9 = true := by rw [e0]; exact fineK_all _ _ _ hg
  have e2 := allK_sum s.most (fine0 s.most frames n) frames gs 9 e1
  rw [sumK_9] at e2
  simp only [outOk, e1, e2, Bool.true_and, decide_eq_true_eq]
  exact ha
theorem outAll_yes {s : PS} {n : Nat} {frames : Int} {gs : Nat → Int} (h0 : 0 ≤ frames) (h1 : frames ≤ s.most) (h2 : (n : Int) ≤ frames) (hg : ∀ i, i < 9 → 0 ≤ gs i ∧ gs i ≤ s.most) : allK s.most (fine0 s.most frames n) frames gs 9 = frames + sum9 gs := by
  have e0 := fine0_yes h0 h1 h2
  have e1 : fineK s.most (fine0 s.most frames n) gs 9 = true := by rw [e0]; exact fineK_all _ _ _ hg
  rw [allK_sum s.most (fine0 s.most frames n) frames gs 9 e1, sumK_9]
theorem outOk_frames {s : PS} {n : Nat} {frames : Int} {gs : Nat → Int} (h : s.most < frames) : outOk s n frames gs = false := by
  have : fine0 s.most frames n = false := by simp [fine0]; omega
  simp [outOk, this, fineK_no]
/-- More frames than are held do not go out. -/
theorem outOk_held {s : PS} {n : Nat} {frames : Int} (h : s.held < frames) : outOk s n frames (fun _ => 0) = false := by
  cases hf : fineK s.most (fine0 s.most frames n) (fun _ => 0) 9 with
  | false => simp [outOk, hf]
  | true =>
    have e2 := allK_sum s.most (fine0 s.most frames n) frames (fun _ => 0) 9 hf
    rw [sumK_9] at e2
    simp only [sum9] at e2
    simp only [outOk, hf, e2, Bool.true_and, decide_eq_false_iff_not]
    omega
def one (k : Nat) (n : Int) : Nat → Int := fun i => if i = k then n else 0
theorem one_bd (k : Nat) (n m : Int) (h0 : 0 ≤ n) (h1 : n ≤ m) : ∀ i, 0 ≤ one k n i ∧ one k n i ≤ m := by
  intro i
  unfold one
  split <;> omega
theorem sum9_one (n : Int) : ∀ k, k < 9 → sum9 (one k n) = n := by
  refine nine ?_ ?_ ?_ ?_ ?_ ?_ ?_ ?_ ?_
  all_goals simp [sum9, one]
theorem PS.Bn.out {B : Int} {s : PS} (h : s.Bn B) {n : Nat} {frames all M : Int} {gs : Nat → Int} (h0 : 0 ≤ frames) (h1 : frames ≤ M) (h2 : (n : Int) ≤ M) (hg : ∀ i, 0 ≤ gs i ∧ gs i ≤ M) (ha : 0 ≤ all) (hh : all ≤ s.held) : (s.out n frames all gs).Bn (B + M) := by
  obtain ⟨b1, b2, b3, b4, b5, b6⟩ := h
  exact ⟨by simp only [PS.out]; omega, by simp only [PS.out]; omega, fun i => by have := b3 i; have := hg i; simp only [PS.out]; omega, by simp only [PS.out]; omega, by simp only [PS.out]; omega, b6⟩
theorem PS.Bn.mono {B B' : Int} {s : PS} (h : s.Bn B) (hB : B ≤ B') : s.Bn B' := by
  obtain ⟨b1, b2, b3, b4, b5, b6⟩ := h
  exact ⟨by omega, by omega, fun i => by have := b3 i; omega, by omega, by omega, b6⟩
end Go.Proofs.Ytpnmhhckmpeogaa
