/- The calls that came in: []Op. By this session. -/
import Derived.Test.YtpnmhhckmpeogaaPoolPlain
import Derived.Test.YtpnmhhckmpeogaaOpen
namespace Go.Proofs.Ytpnmhhckmpeogaa
open Go.RowKit Go.Proofs.YtpnmhhckmpeogaaW.PrintWords
set_option linter.unusedVariables false

/-- A call, in numbers: what, why, and what came of a call: packets, frames, gone. -/
abbrev OpV := Int × Int × List (List Int) × Int × (Nat → Int)
def kCome : Kd (List (List Int) × Int × (Nat → Int)) := Kd.pair (Kd.slice 69 (Kd.slice 5 (Kd.int .u8))) (Kd.pair (Kd.int .i64) (arrK .i64 9))
def kOp : Kd OpV := Kd.pair (Kd.int .i64) (Kd.pair (Kd.int .i64) kCome)
theorem wf64 {n : Int} (h : (Lit.int .i64 n).wf = true) : -9223372036854775808 ≤ n ∧ n ≤ 9223372036854775807 := by
  simpa [Lit.wf, IntKind.min, IntKind.max, IntKind.signed, IntKind.bits] using h
def OpGood (y : OpV) : Prop := (-9223372036854775808 ≤ y.2.1 ∧ y.2.1 ≤ 9223372036854775807) ∧ y.2.2.1.length ≤ 9223372036854775807

theorem opens_come : Opens Try.prog kCome (fun y => y.1.length ≤ 9223372036854775807) 32 := by
  refine opens_struct Try.underlying32 (by kernel_rfl) ?_
  refine opens_imp' (opensS_cons rfl (opens_slice Try.underlying29 (by kernel_rfl) (opens_slice Try.underlying69 (by kernel_rfl) (opens_int Try.underlying5 (by kernel_rfl)))) (opensS_cons rfl (opens_int Try.underlying3 (by kernel_rfl)) (opensS_one rfl (opens_array Try.underlying30 (by kernel_rfl) Try.underlying3 (by kernel_rfl))))) ?_
  rintro y ⟨⟨h, _⟩, _⟩
  have hb : Try.prog.bytesOf 69 = 24 := by kernel_rfl
  rw [hb] at h
  simp only [reachBytes] at h
  omega
theorem opens_ops : Opens Try.prog (Kd.slice 34 kOp) (fun xs => xs.length ≤ 2000000000000 ∧ ∀ y ∈ xs, OpGood y) 22 := by
  refine opens_imp (opens_slice Try.underlying22 (by kernel_rfl) (opens_struct Try.underlying34 (by kernel_rfl) (opensS_cons rfl (opens_int Try.underlying3 (by kernel_rfl)) (opensS_cons rfl (opens_int Try.underlying3 (by kernel_rfl)) (opensS_one rfl opens_come))))) ?_
  rintro xs ⟨h1, h2⟩
  have hb : Try.prog.bytesOf 34 = 120 := by kernel_rfl
  rw [hb] at h1
  simp only [reachBytes] at h1
  refine ⟨by omega, fun y hy => ?_⟩
  obtain ⟨h3, h4, h5⟩ := h2 y hy
  exact ⟨wf64 h4, h5⟩
theorem kOp_cells {w : World} {y : OpV} {cs : List Value} (h : kOp.K w y cs) : ∃ P c, cs = [.int .i64 y.1, .int .i64 y.2.1, .slice P y.2.2.1.length c, .int .i64 y.2.2.2.1, .int .i64 (y.2.2.2.2 0), .int .i64 (y.2.2.2.2 1), .int .i64 (y.2.2.2.2 2), .int .i64 (y.2.2.2.2 3), .int .i64 (y.2.2.2.2 4), .int .i64 (y.2.2.2.2 5), .int .i64 (y.2.2.2.2 6), .int .i64 (y.2.2.2.2 7), .int .i64 (y.2.2.2.2 8)] := by
  obtain ⟨_, _, rfl, rfl, ⟨_, _, rfl, rfl, ⟨_, _, rfl, ⟨P, c, rfl, _, _⟩, ⟨_, _, rfl, rfl, rfl⟩⟩⟩⟩ := h
  exact ⟨P, c, rfl⟩
/-- The cells of a call, its packets at P. -/
def OpAt (w : World) (a : Addr) (y : OpV) (P : Option Addr) (c : Nat) : Prop := w.cell? a = some (.int .i64 y.1) ∧ w.cell? ⟨a.block, a.off + 1, none⟩ = some (.int .i64 y.2.1) ∧ w.cell? ⟨a.block, a.off + 2, none⟩ = some (.slice P y.2.2.1.length c) ∧ w.cell? ⟨a.block, a.off + 3, none⟩ = some (.int .i64 y.2.2.2.1) ∧ w.cell? ⟨a.block, a.off + 4, none⟩ = some (.int .i64 (y.2.2.2.2 0)) ∧ w.cell? ⟨a.block, a.off + 5, none⟩ = some (.int .i64 (y.2.2.2.2 1)) ∧ w.cell? ⟨a.block, a.off + 6, none⟩ = some (.int .i64 (y.2.2.2.2 2)) ∧ w.cell? ⟨a.block, a.off + 7, none⟩ = some (.int .i64 (y.2.2.2.2 3)) ∧ w.cell? ⟨a.block, a.off + 8, none⟩ = some (.int .i64 (y.2.2.2.2 4)) ∧ w.cell? ⟨a.block, a.off + 9, none⟩ = some (.int .i64 (y.2.2.2.2 5)) ∧ w.cell? ⟨a.block, a.off + 10, none⟩ = some (.int .i64 (y.2.2.2.2 6)) ∧ w.cell? ⟨a.block, a.off + 11, none⟩ = some (.int .i64 (y.2.2.2.2 7)) ∧ w.cell? ⟨a.block, a.off + 12, none⟩ = some (.int .i64 (y.2.2.2.2 8))
def opAt (xs : List OpV) (k : Nat) : OpV := xs.getD k (0, 0, [], 0, fun _ => 0)
theorem opAt_mem {xs : List OpV} {k : Nat} (hk : k < xs.length) : opAt xs k ∈ xs := by
  simp only [opAt, List.getD_eq_getElem?_getD, List.getElem?_eq_getElem hk, Option.getD_some]
  exact List.getElem_mem _
theorem op_at {A : Option Addr} {xs : List OpV} {w : World} (hr : Kd.C kOp w A xs.length xs) (k : Nat) (hk : k < xs.length) : ∃ ad P c, A = some ad ∧ OpAt w (ad.add (k * 13)) (opAt xs k) P c := by
  obtain ⟨ad, cs, e, _, hK, hc⟩ := Kd.C_get hr (0, 0, [], 0, fun _ => 0) k (by omega) (by omega)
  obtain ⟨P, c, rfl⟩ := kOp_cells hK
  refine ⟨ad, P, c, e, ?_⟩
  have h0 := hc 0 _ rfl
  rw [Nat.add_zero] at h0
  refine ⟨h0, ?_, ?_, ?_, ?_, ?_, ?_, ?_, ?_, ?_, ?_, ?_, ?_⟩
  all_goals (rw [← add_field _ _ _ (by omega)]; exact hc _ _ rfl)
/-- Too much, or no more than 1000 calls. -/
def GreatPost (n : Nat) (w : World) (e : Ending) (w' : World) : Prop := ∃ b, e = .returned (.bool b) ∧ (b = false → n ≤ 1000) ∧ w = w'
set_option maxRecDepth 100000 in
theorem great_ (A : Option Addr) (c : Nat) (xs : List OpV) (w : World) (hr : Kd.C kOp w A xs.length xs) (hl : xs.length ≤ 2000000000000) (hg : ∀ y ∈ xs, OpGood y) :
    Calls Try.prog 9 #[.slice A xs.length c] w (GreatPost xs.length w) := by
  have HR := Lib.hid hr
  have HG := Lib.hid hg
  clear hr hg
  go_enter Try.func9, Try.ntmps9
  go_wp2_with fail
  go_loop [3, 4] (fun v i => ∃ (k : Nat) (n : Int), k ≤ xs.length ∧ i = .int .i64 k ∧ v = .int .i64 n ∧ 0 ≤ n ∧ n ≤ xs.length + 18000) (fun _ i => xs.length - (intOf i).toNat)
  case atStart => exact ⟨0, _, by omega, rfl, rfl, by omega, by omega⟩
  case round =>
    obtain ⟨k, n, hk, rfl, rfl, hn0, hn1⟩ := hrel
    have key : ∀ b : Bool, (b = false → n < 9000 ∧ xs.length ≤ 1000) → GreatPost xs.length w (.returned (.bool b)) w := fun b h => ⟨b, rfl, fun e => (h e).2, rfl⟩
    have Hkey := Lib.hid key
    clear key
    by_cases hn : n < 9000
    · by_cases hk1 : k < xs.length
      · obtain ⟨ad, P, c1, rfl, hop⟩ := op_at HR.out k hk1
        have hg2 := (HG.out _ (opAt_mem hk1)).2
        obtain ⟨_, _, h2, _⟩ := hop
        obtain ⟨m, hm⟩ : ∃ m : Nat, (opAt xs k).2.2.1.length = m := ⟨_, rfl⟩
        rw [hm] at h2 hg2
        clear hm
        by_cases hm9 : (9000 : Int) < m
        · go_wp2_with fail
          go_round
          case rel => exact ⟨k + 1, n + 9000, by omega, by go_num, by first | rfl | simp [hm9], by omega, by omega⟩
          case measure => simp [intOf]; omega
        · go_wp2_with fail
          go_round
          case rel => exact ⟨k + 1, n + m, by omega, by go_num, by first | rfl | simp [hm9], by omega, by omega⟩
          case measure => simp [intOf]; omega
      · by_cases hl2 : (1000 : Int) < xs.length
        · go_wp2_with fail
          go_ret
          exact Hkey.out _ (by first | (simp; done) | (simp; omega))
        · go_wp2_with fail
          go_ret
          exact Hkey.out _ (by first | (simp; done) | (simp; omega))
    · by_cases hk1 : k < xs.length
      all_goals
        go_wp2_with fail
        go_ret
        exact Hkey.out _ (by first | (simp; done) | (simp; omega))
end Go.Proofs.Ytpnmhhckmpeogaa
