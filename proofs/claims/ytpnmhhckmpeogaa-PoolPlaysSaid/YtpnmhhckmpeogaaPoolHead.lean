/- The live question of layer 14, walked. By this session. -/
import Derived.Test.YtpnmhhckmpeogaaPoolOut
import Derived.Test.YtpnmhhckmpeogaaPoolEq
namespace Go.Proofs.Ytpnmhhckmpeogaa
open Go.RowKit

theorem tally_v (v : Value) (g : Nat) (s : PS) (w : World) (hv : s.tally = v) (hB : Blk w g s.cells 49) :
    Calls Try.prog 18 #[.pointer (some ⟨g, 0, none⟩)] w fun e w' => e = .returned v ∧ Below w.heap.size w w' := hv ▸ tally_ g s w hB
theorem held_v (v : Int) (g : Nat) (s : PS) (w : World) (hv : s.held = v) (hB : Blk w g s.cells 49) :
    Calls Try.prog 20 #[.pointer (some ⟨g, 0, none⟩)] w fun e w' => e = .returned (.int .i64 v) ∧ w' = w := hv ▸ held_ g s w hB
/-- Out, where it is known that it goes. -/
theorem out_yes (s' : PS) (all : Int) (g : Nat) (P : Option Addr) (n c : Nat) (frames : Int) (gs : Nat → Int) (s : PS) (w : World) (hB : Blk w g s.cells 49) (bd : s.Bd)
    (hn : n ≤ 9223372036854775807) (ho : outOk s n frames gs = true) (ha : allK s.most (fine0 s.most frames n) frames gs 9 = all) (hs : s.out n frames all gs = s') :
    Calls Try.prog 14 #[.pointer (some ⟨g, 0, none⟩), come P n c frames gs] w fun e w' => e = .returned (.bool true) ∧ Blk w' g s'.cells 49 ∧ Fr (· = g) w w' := by
  refine (out_ g P n c frames gs s w hB bd hn).mono ?_
  rintro e w' ⟨h1, h2, h3⟩
  rw [ho] at h1 h2
  rw [if_pos rfl, ha, hs] at h2
  exact ⟨h1, h2, h3⟩
theorem out_no (g : Nat) (P : Option Addr) (n c : Nat) (frames : Int) (gs : Nat → Int) (s : PS) (w : World) (hB : Blk w g s.cells 49) (bd : s.Bd)
    (hn : n ≤ 9223372036854775807) (ho : outOk s n frames gs = false) :
    Calls Try.prog 14 #[.pointer (some ⟨g, 0, none⟩), come P n c frames gs] w fun e w' => e = .returned (.bool false) ∧ Blk w' g s.cells 49 ∧ Fr (· = g) w w' := by
  refine (out_ g P n c frames gs s w hB bd hn).mono ?_
  rintro e w' ⟨h1, h2, h3⟩
  rw [ho] at h1 h2
  rw [if_neg (by decide)] at h2
  exact ⟨h1, h2, h3⟩

def hs0 : PS := PS.new 2
def hs1 : PS := hs0.inn
def hs2 : PS := hs1.inn
def hs3 : PS := hs2.lost 3
def hs4 : PS := hs3.lost 7
def hgs : Nat → Int := fun i => if i = 4 then 1 else 0
def hs5 : PS := hs4.out 1 1 2 hgs
theorem hs0_bn : hs0.Bn 0 := PS.Bn.new 2 (by omega)
theorem hs1_bn : hs1.Bn 1 := hs0_bn.inn
theorem hs2_bn : hs2.Bn 2 := hs1_bn.inn
theorem hs3_bn : hs3.Bn 3 := hs2_bn.lost 3
theorem hs4_bn : hs4.Bn 4 := hs3_bn.lost 7
theorem hs5_bd : hs5.Bd := by
  refine ⟨by decide, by decide, fun i => ?_, by decide, by decide, by decide⟩
  have h := hs4_bn.gone i
  show 0 ≤ hs4.gone i + hgs i ∧ hs4.gone i + hgs i ≤ _
  unfold hgs
  split <;> omega

set_option maxHeartbeats 1000000 in
theorem head_ (w : World) : Calls Try.prog 8 #[] w fun e w' => e = .returned (.bool true) ∧ Below w.heap.size w w' := by
  go_enter Try.func8, Try.ntmps8
  go_wp2_with fail
  refine (new_yes 2 _ (by omega) (by omega)).mono ?_
  rintro e w1 ⟨g, rfl, hb1, hg, hw1⟩
  have Hb := Lib.hid hb1
  clear hb1
  go_wp2_with fail
  refine (new_no 0 _ (by omega)).mono ?_
  rintro e w2 ⟨rfl, rfl⟩
  go_wp2_with fail
  refine (in_room g hs0 _ Hb.out (hs0_bn.bd (by omega)) (by decide)).mono ?_
  rintro e w2 ⟨rfl, hb2, hf2⟩
  go_wp2_with fail
  refine (in_room g hs1 _ hb2 (hs1_bn.bd (by omega)) (by decide)).mono ?_
  rintro e w3 ⟨rfl, hb3, hf3⟩
  go_wp2_with fail
  refine (in_full g hs2 _ hb3 (hs2_bn.bd (by omega)) (by decide)).mono ?_
  rintro e w4 ⟨rfl, hb4, hf4⟩
  go_wp2_with fail
  refine (drop_yes g 7 hs3 _ (by omega) (by omega) hb4 (hs3_bn.bd (by omega))).mono ?_
  rintro e w5 ⟨rfl, hb5, hf5⟩
  go_wp2_with fail
  refine (out_yes hs5 2 g _ 1 1 1 hgs hs4 _ (by exact hb5.alloc _) (hs4_bn.bd (by omega)) (by omega) (by rfl) (by rfl) rfl).mono ?_
  rintro e w6 ⟨rfl, hb6, hf6⟩
  go_wp2_with fail
  refine (out_no g none 0 0 1 (fun _ => 0) hs5 _ hb6 hs5_bd (by omega) (by rfl)).mono ?_
  rintro e w7 ⟨rfl, hb7, hf7⟩
  go_wp2_with fail
  refine (tally_v (.agg #[.int .i64 4, .int .i64 1, .int .i64 0, .int .i64 0, .int .i64 0, .int .i64 1, .int .i64 1, .int .i64 0, .int .i64 0, .int .i64 1, .int .i64 0, .int .i64 0, .int .i64 1]) g hs5 _ (by rfl) hb7).mono ?_
  rintro e w8 ⟨rfl, hf8⟩
  have he : ∀ W, (Op.equalIn 10000 38 (.agg #[.int .i64 4, .int .i64 1, .int .i64 0, .int .i64 0, .int .i64 0, .int .i64 1, .int .i64 1, .int .i64 0, .int .i64 0, .int .i64 1, .int .i64 0, .int .i64 0, .int .i64 1]) (.agg #[.int .i64 4, .int .i64 1, .int .i64 0, .int .i64 0, .int .i64 0, .int .i64 1, .int .i64 1, .int .i64 0, .int .i64 0, .int .i64 1, .int .i64 0, .int .i64 0, .int .i64 1])).run Try.prog W = .ok true W := fun W => eq38 9996 W hs5 hs5
  go_wp2_with fail
  refine (drop_no g 9 _ (by omega)).mono ?_
  rintro e w9 ⟨rfl, rfl⟩
  go_wp2_with fail
  refine (held_v 0 g hs5 _ (by rfl) (by exact (hb7.below hf8).alloc _)).mono ?_
  rintro e w10 ⟨rfl, rfl⟩
  go_wp2_with fail
  go_ret
  refine ⟨rfl, ?_⟩
  have F := ((((((hf2.trans hf3).trans hf4).trans hf5).then_ ((Fr.refl _ _).alloc _) (fun _ h => .inl h)).trans hf6).trans hf7).below hf8
  exact (Fr.to_below hw1 F hw1.size (fun k e => by subst e; exact hg)).alloc (by have := hw1.size; have := F.size; omega) _
end Go.Proofs.Ytpnmhhckmpeogaa
