-- A text out of a program of this session's. Not trusted: Lean checks it.
import Derived.Test.YtfdjfejlfkabdaaQ0
import Derived.Test.YtfdjfejlfkabdaaQ1
import Derived.Test.YtfdjfejlfkabdaaQ3
import Derived.Test.YtfdjfejlfkabdaaQ4
import Derived.Test.YtfdjfejlfkabdaaRound
import Derived.Test.YtfdjfejlfkabdaaFr
import Derived.RangeFuncBox
import Derived.Shelf.Abstract
import Derived.Shelf.RegionOpen
import Derived.OwnWalkIn
import Derived.TacticsInMore
import Derived.LoopNIn
import Derived.LoopIn
import Derived.Outline
namespace Go.Proofs.Ytfdjfejlfkabdaa.Q
open Go.RowKit Go.Proofs.YtfdjfejlfkabdaaW.PrintWords Go.Proofs.YtfdjfejlfkabdaaW.PrintLast Go.Proofs.YtfdjfejlfkabdaaW.PrintMore
attribute [local go_sem] max2_int min2_int max_two min_two max_three min_three max_four min_four   -- for this text's walks alone
set_option linter.unusedVariables false
set_option linter.unusedSimpArgs false

/-! ### frag_Split: function 15 (given) -/
-- GIVEN rounds=0 making=1
-- IMPORTS Derived.Test.YtfdjfejlfkabdaaRound,Derived.Test.YtfdjfejlfkabdaaFr,Derived.RangeFuncBox,Derived.Shelf.Abstract,Derived.Shelf.RegionOpen,Derived.OwnWalkIn,Derived.TacticsInMore,Derived.LoopNIn,Derived.LoopIn,Derived.Outline
attribute [local go_sem] Oper.semAt_some
/-- Where a piece begins, and ends. -/
abbrev CutL (L : Nat) := { p : Int × Int // 0 ≤ p.1 ∧ p.1 < p.2 ∧ p.2 ≤ L }
def rawcut (L sz : Nat) (i : Nat) : Int × Int := ((i * sz : Nat), if (L : Int) < ((i * sz : Nat) : Int) + sz then L else ((i * sz : Nat) : Int) + sz)
def rawcuts (L sz k : Nat) : List (Int × Int) := (List.range k).map (rawcut L sz)
theorem rawcuts_s (L sz k : Nat) : rawcuts L sz (k + 1) = rawcuts L sz k ++ [rawcut L sz k] := by simp [rawcuts, List.range_succ]
def KpB (B ob : Nat) (A W : World) : Prop := ∀ k, k < B → k ≠ ob → W.heap[k]? = A.heap[k]?

theorem bq_ne (a b : Bool) : (a == b) = (!a != b) := by cases a <;> cases b <;> rfl
theorem ends_makes (n s : Int) (w : World) : Calls Try.prog 22 #[.int .i64 n, .int .i64 s] w fun e w' => e = .returned (.func (.func 25) #[] #[.pointer (some ⟨w.heap.size, 0, none⟩), .pointer (some ⟨w.heap.size + 1, 0, none⟩)]) ∧ w' = (w.alloc (.cells #[.int .i64 n] 3)).alloc (.cells #[.int .i64 s] 3) := by
  go_enter Try.func22, Try.ntmps22
  go_wp2
  go_ret
  exact ⟨rfl, rfl⟩

set_option maxHeartbeats 2000000 in
theorem ends_stops (n : Nat) (B ob nB sB L sz : Nat) (hL : 1 ≤ L) (hL2 : L ≤ 2048) (hs : 1 ≤ sz) (hs2 : sz ≤ 2048) (hnB : nB < B) (hsB : sB < B) (hno : nB ≠ ob) (hso : sB ≠ ob) (w : World) (hb1 : Blk w nB #[.int .i64 L] 3) (hb2 : Blk w sB #[.int .i64 sz] 3) :
    SeqStopsK Fence.wide n Try.prog 25 #[.pointer (some ⟨nB, 0, none⟩), .pointer (some ⟨sB, 0, none⟩)] (fun x : CutL L => #[.int .i64 x.1.1, .int .i64 x.1.2]) (KpB B ob)
      (fun xs => xs.map (·.1) = rawcuts L sz ((L - 1) / sz + 1)) (fun _ => True) ((L - 1) / sz + 1) w := fun l J Jx W hW hJ hJx hY h0 => by
  have hb1W : Blk W nB #[.int .i64 L] 3 := (hW.block nB hb1.lt).trans hb1
  have hb2W : Blk W sB #[.int .i64 sz] 3 := (hW.block sB hb2.lt).trans hb2
  clear hW hb1 hb2
  refine callsIn_of_wp Try.func25 rfl trivial ?_ rfl
  simp only [Try.ntmps25, List.size_toArray, List.length_cons, List.length_nil, Nat.reduceAdd, Nat.reduceSub, Array.replicate_succ, Array.replicate_zero, List.push_toArray, List.append_toArray, List.nil_append, List.cons_append]
  gi_wp2
  gi_loopw [4] (fun v wr => ∃ (k : Nat) (x : Int) (pre : List (CutL L)), v = .int .i64 x ∧ Aside0 (x = ((k * sz : Nat) : Int) ∧ k ≤ (L - 1) / sz + 1 ∧ pre.map (·.1) = rawcuts L sz k) ∧ Aside0 (KpB B ob W wr) ∧ J pre wr)
    (fun v wr => (L : Int).toNat + 1 - (intOf v).toNat)
  case atStart => exact ⟨0, 0, [], rfl, ⟨⟨by simp, Nat.zero_le _, rfl⟩⟩, ⟨fun _ _ _ => rfl⟩, h0⟩
  case round =>
    clear h0
    obtain ⟨k, x, pre, rfl, HX, HK, hJs⟩ := hrel
    have bn : Blk wr nB #[.int .i64 L] 3 := (HK.out nB hnB hno).trans hb1W
    have bs : Blk wr sB #[.int .i64 sz] 3 := (HK.out sB hsB hso).trans hb2W
    have hcn := bn.cell 0
    have hcs := bs.cell 0
    by_cases hx : x < (L : Int)
    · have hxb : decide (x < (L : Int)) = true := decide_eq_true hx
      have hk : k < (L - 1) / sz + 1 := by
        have h1 := HX.out.1; have h2 := HX.out.2.1
        have h3 : k * sz ≤ L - 1 := by omega
        have := (Nat.le_div_iff_mul_le hs).2 h3
        omega
      have hlen : pre.length < (L - 1) / sz + 1 := by
        have h3 := congrArg List.length HX.out.2.2
        simp [rawcuts] at h3
        omega
      have hw1 : IntKind.i64.wrap (x + (sz : Int)) = x + sz := IntWalk.i64_in _ (by have := HX.out.1; omega)
      let c : CutL L := ⟨rawcut L sz k, by
        have h1 := HX.out.1
        have h4 : 0 ≤ ((k * sz : Nat) : Int) := Int.natCast_nonneg _
        refine ⟨h4, ?_, ?_⟩ <;> simp only [rawcut] <;> split <;> omega⟩
      have hmn : (if (L : Int) < x + sz then (L : Int) else x + sz) = c.1.2 := by rw [HX.out.1]; rfl
      have hc1 : c.1.1 = x := HX.out.1.symm
      obtain ⟨fn, tmps, assign, body, hy, hR⟩ := hY pre c wr hJs hlen
      rw [hc1] at hy
      have HC := Aside0.mk (show c.1 = rawcut L sz k from rfl)
      generalize hce : c = c' at *
      clear hce c
      have hx' := Aside0.mk hx
      clear hx
      gi_wp2
      refine ⟨fun h => by simp [Fence.wide] at h, hR.mono ?_⟩
      rintro e W3 (⟨rfl, hJ3, hk3⟩ | ⟨rfl, hJx3⟩)
      · have bs3 : Blk W3 sB #[.int .i64 sz] 3 := (hk3 sB hsB hso).trans bs
        have hcs3 := bs3.cell 0
        gi_wp2
        go_roundw
        case rel => exact ⟨k + 1, x + sz, pre ++ [c'], rfl, ⟨⟨by rw [HX.out.1]; push_cast; rw [Int.add_mul]; omega, by omega, by rw [List.map_append, HX.out.2.2, rawcuts_s]; simp [HC.out]⟩⟩, ⟨fun i hi hn => (hk3 i hi hn).trans (HK.out i hi hn)⟩, hJ3⟩
        case measure => have := hx'.out; simp only [intOf]; omega
      · gi_wp2
        refine bodyPost_ret (results_none rfl _ _ _) rfl ?_
        exact ⟨⟨_, rfl⟩, .inr ⟨pre ++ [c'], trivial, hJx3⟩⟩
    · have hxb : decide (x < (L : Int)) = false := decide_eq_false hx
      have hk : k = (L - 1) / sz + 1 := by
        have h1 := HX.out.1; have h2 := HX.out.2.1
        have h3 : L - 1 < k * sz := by omega
        have := (Nat.div_lt_iff_lt_mul hs).2 h3
        omega
      clear hx
      gi_wp2
      go_end0
      exact ⟨⟨_, rfl⟩, .inl ⟨pre, by rw [HX.out.2.2, hk], hJs⟩⟩

def pieceOf (l : List Int) (p : Int × Int) : S34 := ⟨p.1 == 0, p.2 == (l.length : Int), (l.take p.2.toNat).drop p.1.toNat⟩
def piecesP (l : List Int) (sz : Nat) : List S34 := (rawcuts l.length sz ((l.length - 1) / sz + 1)).map (pieceOf l)
def frag_Split.f (l0 : List Int) (a1 : Int) : Option (List S34) := some (if 1 ≤ l0.length ∧ l0.length ≤ 2048 ∧ 1 ≤ a1 ∧ a1 ≤ 2048 then piecesP l0 a1.toNat else [])
theorem many_split (l0 : List Int) (a1 : Int) (h1 : 1 ≤ l0.length) (h2 : l0.length ≤ 2048) (h3 : 1 ≤ a1) (h4 : a1 ≤ 2048) :
    ∃ M : Int, M ≠ 0 ∧ frag_Many.f (l0.length : Int) a1 = some M := by
  have e1 : frag_within.f (l0.length : Int) 1 2048 = some true := by unfold frag_within.f; rw [if_pos (by omega)]; simp; omega
  have e2 : frag_within.f a1 1 2048 = some true := by unfold frag_within.f; rw [if_pos (by omega)]; simp; omega
  have zw : ∀ x : Int, -9223372036854775808 ≤ x → x < 9223372036854775808 → wrap64 x = x := by intro x h1 h2; unfold wrap64; omega
  have z1 : wrap64 ((l0.length : Int) - 1) = (l0.length : Int) - 1 := zw _ (by omega) (by omega)
  have z2 : Int.tdiv ((l0.length : Int) - 1) a1 = ((l0.length : Int) - 1) / a1 := Int.tdiv_eq_ediv_of_nonneg (by omega)
  have z3 : 0 ≤ ((l0.length : Int) - 1) / a1 := Int.ediv_nonneg (by omega) (by omega)
  have z4 : ((l0.length : Int) - 1) / a1 ≤ (l0.length : Int) - 1 := Int.ediv_le_self _ (by omega)
  refine ⟨((l0.length : Int) - 1) / a1 + 1, by omega, ?_⟩
  unfold frag_Many.f
  rw [e1, e2]
  simp only [Option.bind_some, if_true]
  rw [if_neg (by omega), z1, z2, zw (((l0.length : Int) - 1) / a1) (by omega) (by omega), zw (((l0.length : Int) - 1) / a1 + 1) (by omega) (by omega)]

theorem blk_new' {w : World} {g : Nat} {cs : Array Value} {t : TypeId} (hg : g = w.heap.size) : Blk (w.alloc (.cells cs t)) g cs t := hg ▸ Blk.new w cs t
theorem blk_drewN {w : World} {g : Nat} {cs : Array Value} {t : TypeId} {n : Nat} (h : Blk w g cs t) : Blk (w.drewN n) g cs t := h
theorem drewN_size (w : World) (n : Nat) : (w.drewN n).heap.size = w.heap.size := rfl
theorem after_clone {W w3 : World} {B : Nat} {v v1 : Value} {xs : List S34} (hS : Kd.S k34 34 W B (fun _ => True) v xs) (hb : Below W.drew.heap.size W.drew w3) (hbase : ∀ k, v1.ownBlock = some k → W.drew.heap.size ≤ k) :
    Kd.S k34 34 w3 B (fun k => True ∧ ¬ some k = v1.ownBlock) v xs ∧ ∀ k, some k = v1.ownBlock → some k ≠ v.ownBlock :=
  ⟨Kd.S_elder' (Kd.S_drew hS) hbase hb, fun k hk e => by have h1 := Kd.S_lt hS k e.symm; have h2 := hbase k hk.symm; have h3 : W.drew.heap.size = W.heap.size := rfl; omega⟩
theorem bel3 {W w3 : World} {B : Nat} (hBW : B ≤ W.heap.size) (hb : Below W.drew.heap.size W.drew w3) : Below B W w3 := ((Below.refl B W).drew).trans (hb.mono hBW)
theorem keeps_below {W w3 : World} (hb : Below W.heap.size W w3) : KeepsOthers W w3 := ⟨hb.size, fun k o hk _ => (hb.block k (Array.getElem?_eq_some_iff.1 hk).1).trans hk⟩
theorem keeps_row {w3 w5 : World} {v : Value} {B : Nat} {xs : List S34} {ok : Nat → Prop} (hS : Kd.S k34 34 w3 B ok v xs) (hg : w3.grownBy w5 v.ownBlock) : KeepsOthers w3 w5 :=
  KeepsOthers.of_grownBy hg (fun j o hj ho => by obtain ⟨cs, hc⟩ := Kd.S_typed hS j hj; rw [hc] at ho; cases ho; rfl)
/-- Between two rounds. -/
def SplitI (w : World) (A0 : Option Addr) (c0 : Nat) (l0 : List Int) (n0 B : Nat) (pre : List (CutL l0.length)) (W : World) : Prop :=
  (∃ v, Blk W (n0 + 1) #[v] 23 ∧ Kd.S k34 34 W B (fun _ => True) v (pre.map fun c => pieceOf l0 c.1)) ∧ Blk W n0 #[.slice A0 l0.length c0] 22 ∧ B ≤ W.heap.size ∧ Below n0 w W
theorem SplitI_own (w : World) (A0 : Option Addr) (c0 : Nat) (l0 : List Int) (n0 B : Nat) (hB : n0 + 1 < B) (hw : n0 ≤ w.heap.size) : OwnFrom B (SplitI w A0 c0 l0 n0 B) := by
  rintro pre A C row ⟨⟨v, h1, h2⟩, h3, h4, h5⟩ hg hr
  refine ⟨⟨v, (hg.block _ h1.lt (fun e => by have := (hr _ e.symm).1; omega)).trans h1, ?_⟩, (hg.block _ h3.lt (fun e => by have := (hr _ e.symm).1; omega)).trans h3, Nat.le_trans h4 hg.size, ?_⟩
  · refine Kd.S_mono (Kd.S_grown (Kd.S_bound h2) hg (fun k hk e => ?_)) (fun _ _ => trivial)
    obtain ⟨_, _, _, q, _, cs, hc⟩ := hk
    obtain ⟨_, o, ho, hn⟩ := hr k e.symm
    rw [hc] at ho
    cases ho
    simp [Obj.isCells] at hn
  · exact h5.grown hg (Nat.le_trans hw h5.size) (fun k e => by have := (hr k e).1; omega)
theorem SplitI_round {w W w3 w5 : World} {A0 : Option Addr} {c0 : Nat} {l0 : List Int} {n0 B : Nat} {pre : List (CutL l0.length)} {c : CutL l0.length} {v v2 : Value} {xs : List S34} {ok ok' : Nat → Prop} (hB : n0 + 1 < B) (hBW : B ≤ W.heap.size)
    (hv : Blk W (n0 + 1) #[v] 23) (h0 : Blk W n0 #[.slice A0 l0.length c0] 22) (hw : Below n0 w W) (hb1 : Below W.drew.heap.size W.drew w3) (cs : Array Value) (hS3 : Kd.S k34 34 w3 B ok v xs)
    (hg : (w3.alloc (.cells cs 34)).grownBy w5 v.ownBlock ∨ w3.grownBy w5 v.ownBlock) (hB5 : Below B W w5) (hS5 : Kd.S k34 34 w5 B ok' v2 (pre.map (fun c => pieceOf l0 c.1) ++ [pieceOf l0 c.1])) :
    KeepsOthers W (w5.setCell ⟨n0 + 1, 0, none⟩ v2) ∧ KpB B (n0 + 1) W (w5.setCell ⟨n0 + 1, 0, none⟩ v2) ∧ SplitI w A0 c0 l0 n0 B (pre ++ [c]) (w5.setCell ⟨n0 + 1, 0, none⟩ v2) := by
  have hk : KeepsOthers w3 w5 := by
    rcases hg with hg | hg
    · exact (KeepsOthers.alloc _ _).trans (keeps_row (Kd.S_alloc hS3 _) hg)
    · exact keeps_row hS3 hg
  have hv5 : Blk w5 (n0 + 1) #[v] 23 := (hB5.block _ hB).trans hv
  refine ⟨((KeepsOthers.drew W).trans (keeps_below hb1)).trans (hk.trans (KeepsOthers.setCell _ _ _)), fun k hk hn => (Below.heap_setCell w5 ⟨n0 + 1, 0, none⟩ v2 k hn).trans (hB5.block k hk), ⟨v2, hv5.set 0 v2, ?_⟩, ?_, ?_, ?_⟩
  · rw [List.map_append]
    refine Kd.S_mono (Kd.S_far (Kd.S_bound hS5) (p := ⟨n0 + 1, 0, none⟩) (fun k hk e => ?_) v2) (fun _ _ => trivial)
    have := hk.2.1
    dsimp only at e
    omega
  · exact Blk.far (w := w5) (cs := #[.slice A0 l0.length c0]) (t := 22) ((hB5.block n0 (by omega)).trans h0) (by omega) 0 v2
  · have := hB5.size; simp [World.setCell]; omega
  · exact (hw.trans (hB5.mono (by omega))).setCell (p := ⟨n0 + 1, 0, none⟩) (by simp) v2

theorem many_none (l0 : List Int) (a1 : Int) (h : ¬ (1 ≤ l0.length ∧ l0.length ≤ 2048 ∧ 1 ≤ a1 ∧ a1 ≤ 2048)) : frag_Many.f (l0.length : Int) a1 = some 0 := by
  have e1 : ∀ n : Int, frag_within.f n 1 2048 = some (decide (1 ≤ n ∧ n ≤ 2048)) := by
    intro n
    unfold frag_within.f
    by_cases h1 : n ≥ 1
    · rw [if_pos h1]; congr 1; simp; omega
    · rw [if_neg h1]; congr 1; simp; omega
  unfold frag_Many.f
  rw [e1, e1]
  simp only [Option.bind_some, decide_eq_true_eq]
  by_cases h1 : (1 ≤ (l0.length : Int) ∧ (l0.length : Int) ≤ 2048)
  · rw [if_pos h1, if_neg (by omega)]
  · rw [if_neg h1]

set_option maxHeartbeats 4000000 in
set_option maxRecDepth 100000 in
theorem frag_Split.calls (A0 : Option Addr) (c0 : Nat) (l0 : List Int) (a1 : Int) (r : List (S34)) (w : World) (hr0 : Kd.C (Kd.int .u8) w A0 l0.length l0) (hc0 : l0.length ≤ c0) (h : frag_Split.f l0 a1 = some r) :
    Calls Try.prog 15 #[.slice A0 l0.length c0, .int .i64 a1] w fun e w' => ∃ v0_ : Value, e = .returned (v0_) ∧ Kd.S k34 34 w' w.heap.size (fun _ => True) v0_ r ∧ Below w.heap.size w w' := by
  by_cases hfit : 1 ≤ l0.length ∧ l0.length ≤ 2048 ∧ 1 ≤ a1 ∧ a1 ≤ 2048
  · obtain ⟨M, hM0, hM⟩ := many_split l0 a1 hfit.1 hfit.2.1 hfit.2.2.1 hfit.2.2.2
    obtain ⟨sz, rfl⟩ : ∃ sz : Nat, a1 = (sz : Int) := ⟨a1.toNat, by omega⟩
    have hr : r = piecesP l0 sz := by
      unfold frag_Split.f at h
      rw [if_pos hfit] at h
      exact (Option.some.inj h).symm
    subst hr
    have hMb : (M == 0) = false := beq_eq_false_iff_ne.mpr hM0
    have hM' := Aside0.mk hM
    have hF := Aside0.mk hfit
    have hR0 := Aside0.mk hr0
    have hC0 := Aside0.mk hc0
    clear hM hfit hM0 hr0 hc0 h
    refine (callsIn_wide (n := 4)).1 ?_
    refine callsIn_of_wp_marks Try.func15 rfl trivial ?_ rfl
    simp only [Try.ntmps15, List.size_toArray, List.length_cons, List.length_nil, Nat.reduceAdd, Nat.reduceSub, Array.replicate_succ, Array.replicate_zero, List.push_toArray, List.append_toArray, List.nil_append, List.cons_append]
    gi_wp2_with (first | (refine ⟨trivial, ?_⟩; gi_at_call 19; refine (callsIn_wide.2 (frag_Many.calls _ _ M _ hM'.out)).mono ?_; rintro e w' ⟨rfl, ⟨nd, rfl⟩⟩) | (refine ⟨trivial, ?_⟩; gi_at_call 22; refine (callsIn_wide.2 (ends_makes _ _ _)).mono ?_; rintro e w' ⟨rfl, rfl⟩))
    obtain ⟨n0, hn0⟩ : ∃ n0, w.heap.size = n0 := ⟨_, rfl⟩
    simp only [hn0]
    refine abs_world (fun W0 => Aside0 (Blk W0 n0 #[.slice A0 l0.length c0] 22 ∧ Blk W0 (n0 + 1) #[.slice none 0 0] 23 ∧ Blk W0 (n0 + 2) #[.int .i64 (l0.length : Int)] 3 ∧ Blk W0 (n0 + 3) #[.int .i64 (sz : Int)] 3 ∧ W0.heap.size = n0 + 4 ∧ Below n0 w W0)) ?_ (fun W0 hW0 => ?_)
    · subst hn0
      refine ⟨?_, ?_, ?_, ?_, ?_, ?_⟩
      · repeat (first | exact blk_new' (by simp) | (with_reducible apply blk_drewN) | (with_reducible apply Blk.alloc))
      · repeat (first | exact blk_new' (by simp) | (with_reducible apply blk_drewN) | (with_reducible apply Blk.alloc))
      · repeat (first | exact blk_new' (by simp) | (with_reducible apply blk_drewN) | (with_reducible apply Blk.alloc))
      · repeat (first | exact blk_new' (by simp) | (with_reducible apply blk_drewN) | (with_reducible apply Blk.alloc))
      · simp [drewN_size]
      · repeat (first | exact Below.refl _ _ | apply pw_below_drewN | apply below_alloc)
    obtain ⟨b0, b1, b2, b3, hs0, hB0⟩ := hW0.out
    clear hW0
    refine wpIn_rangeFunc_ownF rfl (by omega) (gf := 25) (lb := #[.pointer (some ⟨n0 + 2, 0, none⟩), .pointer (some ⟨n0 + 3, 0, none⟩)]) rfl trivial (enters_of Try.func25 (by kernel_rfl) rfl)
      (ends_stops _ (n0 + 4) (n0 + 1) (n0 + 2) (n0 + 3) l0.length sz (by have := hF.out; omega) (by have := hF.out; omega) (by have := hF.out; omega) (by have := hF.out; omega) (by omega) (by omega) (by omega) (by omega) W0 b2 b3)
      (fun h k i hi hn => (k i hi hn).trans (h i hi hn)) (fun W l o o' hl ho _ _ i hi hn => by rw [hs0] at hl; exact (grownBy_putObj' W l o').block i (by have := (Array.getElem?_eq_some_iff.1 ho).1; omega) (fun e => by cases e; omega)) (Below.refl _ _) (fun _ => rfl)
      (SplitI w A0 c0 l0 n0 (n0 + 4)) (fun _ _ _ => False) (by rw [hs0]; exact SplitI_own w A0 c0 l0 n0 (n0 + 4) (by omega) (by omega)) (fun _ _ _ _ _ hs _ _ => hs) ⟨⟨_, b1, Kd.S_nil _ _ _ _ _⟩, b0, by omega, hB0⟩
      (fun c => { tmps := #[.slice A0 l0.length c0, .int .i64 (sz : Int), .pointer (some ⟨n0, 0, none⟩), undef, .slice none 0 0, .pointer (some ⟨n0 + 1, 0, none⟩), .int .i64 c.1.1, .int .i64 c.1.2, .slice A0 l0.length c0, .int .i64 (l0.length : Int), .int .i64 (sz : Int), .int .i64 M, .bool false, .slice A0 l0.length c0, .int .i64 (l0.length : Int), .int .i64 (sz : Int), .func (.func 25) #[] #[.pointer (some ⟨n0 + 2, 0, none⟩), .pointer (some ⟨n0 + 3, 0, none⟩)], .int .i64 c.1.1, .int .i64 c.1.2, undef, undef, undef, undef, undef, undef, undef, undef, undef, undef, undef, undef, undef, undef, undef, undef], defers := [] }) ?assign ?body ?done ?stop
    case assign =>
      intro l x W K hK
      gi_wp2
      exact hK
    case body =>
      rintro l pre c W ⟨⟨v, hB1, hS⟩, hBk0, hBW, hBel⟩ hlen
      obtain ⟨⟨x, y⟩, hp⟩ := c
      dsimp only at hp
      have hL : l0.length ≤ 2048 := hF.out.2.1
      obtain ⟨i0, hi0, hz1, hsz0, hz2⟩ := info_parts info5
      obtain ⟨A', hcut, hA, hcc⟩ := print_mid_of (P := Try.prog) (Value.int .u8) 0 22 5 .i64 .i64 Try.underlying22 hi0 hsz0 A0 c0 l0 x y hp.1 (by omega) hp.2.2 hC0.out
      have hPc : pieceOf l0 (x, y) = (⟨x == 0, y == (l0.length : Int), (l0.take y.toNat).drop x.toNat⟩ : S34) := rfl
      have hll : ((l0.take y.toNat).drop x.toNat).length ≤ 2048 := by rw [List.length_drop, List.length_take]; omega
      obtain ⟨l', hl'⟩ : ∃ l', (l0.take y.toNat).drop x.toNat = l' := ⟨_, rfl⟩
      rw [hl'] at hcut hA hcc hPc hll
      obtain ⟨c', hcq⟩ : ∃ c', c0 - x.toNat = c' := ⟨_, rfl⟩
      rw [hcq] at hcut hcc
      have hC' : Kd.C (Kd.int .u8) W A' l'.length l' := Kd.C_of_reads (h1 := fun _ => rfl) (hA W (Kd.reads_of_C (Kd.C_below hR0.out (by rw [hn0]; exact hBel))))
      have hcl : slices_Clone_byte_byte.f l' = some l' := by unfold slices_Clone_byte_byte.f; rw [if_pos (by omega)]
      obtain ⟨xs, hxs⟩ : ∃ xs, pre.map (fun c => pieceOf l0 c.1) = xs := ⟨_, rfl⟩
      have hxl : xs.length ≤ 2048 := by
        have h3 : (l0.length - 1) / sz ≤ l0.length - 1 := Nat.div_le_self _ _
        have h4 := hF.out.1
        rw [← hxs, List.length_map]; omega
      rw [hxs] at hS
      have hv1 : W.drew.cell? ⟨n0 + 1, 0, none⟩ = some v := hB1.cell 0
      have hv0 : W.drew.cell? ⟨n0, 0, none⟩ = some (.slice A0 l0.length c0) := hBk0.cell 0
      have hf1 : W.drew.frozen? ⟨n0 + 1, 0, none⟩ = false := hB1.frozen 0
      have hlt1 : n0 + 1 < W.drew.heap.size := hB1.lt
      have hlt0 : n0 < W.drew.heap.size := hBk0.lt
      have HA := Aside0.mk hA
      have HL' := Aside0.mk hl'
      have HX := Aside0.mk hxs
      have HP := Aside0.mk hPc
      clear hi0 hsz0 hz1 hz2 i0 hA hl' hcq hxs hlen hPc
      gi_wp2
      have hQ : ¬ LetsOut (Exit.inBlock 1 (ownPostK (KpB (n0 + 4) (n0 + 1)) (SplitI w A0 c0 l0 n0 (n0 + 4)) (fun _ _ _ => False) (pre ++ [⟨(x, y), hp⟩]) W)) := by
        rintro ⟨a, w9, h⟩
        exact h
    -- REGION7
      refine startR_ (m := 16) (S := fun w' => w'.cell? ⟨n0 + 1, 0, none⟩ = some v ∧ w'.cell? ⟨n0, 0, none⟩ = some (.slice A0 l0.length c0)) (ds := [15]) #[false, false, false, false, false, false, false, false, false, false, false, false, false, false, false, false] (no_defer (by kernel_rfl)) hQ (by kernel_rfl) rfl rfl ⟨hv1, hv0⟩ (fun hHeld => ?_)
      refine pure_ (i := 1) (N := some 20) (v := ?_) (a' := ?_) #[false, true, false, false, false, false, false, false, false, false, false, false, false, false, false, false] rfl rfl (by kernel_rfl) (fun _ _ _ h => h) (Or.inl ⟨by rfl, ?_⟩) ?_ ?_
      rotate_left
      · intro w'
        go_simp
        with_reducible rfl
      rotate_left
      · simp only [Act.put, List.setIfInBounds_toArray, List.set_cons_zero, List.set_cons_succ, i64_w, i32_w]
        rfl
      refine pure_ (i := 2) (N := some 21) (v := ?_) (a' := ?_) #[false, true, true, false, false, false, false, false, false, false, false, false, false, false, false, false] rfl rfl (by kernel_rfl) (fun _ _ _ h => h) (Or.inl ⟨by rfl, ?_⟩) ?_ ?_
      rotate_left
      · intro w'
        go_simp
        with_reducible rfl
      rotate_left
      · simp only [Act.put, List.setIfInBounds_toArray, List.set_cons_zero, List.set_cons_succ, i64_w, i32_w]
        rfl
      refine pure_ (i := 3) (N := some 22) (v := ?_) (a' := ?_) #[false, true, true, true, false, false, false, false, false, false, false, false, false, false, false, false] rfl rfl (by kernel_rfl) (fun _ _ _ h => h) (Or.inl ⟨by rfl, ?_⟩) ?_ ?_
      rotate_left
      · intro w'
        go_simp
        with_reducible rfl
      rotate_left
      · simp only [Act.put, List.setIfInBounds_toArray, List.set_cons_zero, List.set_cons_succ, i64_w, i32_w]
        rfl
      refine pure_ (i := 8) (N := some 27) (v := ?_) (a' := ?_) #[false, true, true, true, false, false, false, false, true, false, false, false, false, false, false, false] rfl rfl (by kernel_rfl) (fun _ _ _ h => h) (Or.inl ⟨by rfl, ?_⟩) ?_ ?_
      rotate_left
      · intro w'
        go_simp
        with_reducible rfl
      rotate_left
      · simp only [Act.put, List.setIfInBounds_toArray, List.set_cons_zero, List.set_cons_succ, i64_w, i32_w]
        rfl
      refine pure_ (i := 9) (N := some 28) (v := ?_) (a' := ?_) #[false, true, true, true, false, false, false, false, true, true, false, false, false, false, false, false] rfl rfl (by kernel_rfl) (fun _ _ _ h => h) (Or.inl ⟨by rfl, ?_⟩) ?_ ?_
      rotate_left
      · intro w'
        go_simp
        with_reducible rfl
      rotate_left
      · simp only [Act.put, List.setIfInBounds_toArray, List.set_cons_zero, List.set_cons_succ, i64_w, i32_w]
        rfl
      refine take_ (i := 0) (N := some 19) (v := ?_) (a' := ?_) #[true, true, true, true, false, false, false, false, true, true, false, false, false, false, false, false] rfl rfl (by kernel_rfl) (fun _ _ _ h => h) (Or.inl ⟨by rfl, ?_⟩) hHeld ?_ ?_
      rotate_left
      · rintro w' ⟨s0, s1⟩
        go_simp
        with_reducible rfl
      rotate_left
      · simp only [Act.put, List.setIfInBounds_toArray, List.set_cons_zero, List.set_cons_succ, i64_w, i32_w]
        rfl
      refine take_ (i := 4) (N := some 23) (v := ?_) (a' := ?_) #[true, true, true, true, true, false, false, false, true, true, false, false, false, false, false, false] rfl rfl (by kernel_rfl) (fun _ _ _ h => h) (Or.inl ⟨by rfl, ?_⟩) hHeld ?_ ?_
      rotate_left
      · rintro w' ⟨s0, s1⟩
        go_simp
        with_reducible rfl
      rotate_left
      · simp only [Act.put, List.setIfInBounds_toArray, List.set_cons_zero, List.set_cons_succ, i64_w, i32_w]
        rfl
      refine pure_ (i := 5) (N := some 24) (v := ?_) (a' := ?_) #[true, true, true, true, true, true, false, false, true, true, false, false, false, false, false, false] rfl rfl (by kernel_rfl) (fun _ _ _ h => h) (Or.inl ⟨by rfl, ?_⟩) ?_ ?_
      rotate_left
      · intro w'
        go_simp
        with_reducible rfl
      rotate_left
      · simp only [Act.put, List.setIfInBounds_toArray, List.set_cons_zero, List.set_cons_succ, i64_w, i32_w]
        rfl
      refine pure_ (i := 6) (N := some 25) (v := ?_) (a' := ?_) #[true, true, true, true, true, true, true, false, true, true, false, false, false, false, false, false] rfl rfl (by kernel_rfl) (fun _ _ _ h => h) (Or.inl ⟨by rfl, ?_⟩) ?_ ?_
      rotate_left
      · intro w'
        go_simp
        with_reducible rfl
      rotate_left
      · simp only [Act.put, List.setIfInBounds_toArray, List.set_cons_zero, List.set_cons_succ, i64_w, i32_w]
        rfl
      refine take_ (i := 7) (N := some 26) (v := ?_) (a' := ?_) #[true, true, true, true, true, true, true, true, true, true, false, false, false, false, false, false] rfl rfl (by kernel_rfl) (fun _ _ _ h => h) (Or.inl ⟨by rfl, ?_⟩) hHeld ?_ ?_
      rotate_left
      · rintro w' ⟨s0, s1⟩
        go_simp
        with_reducible rfl
      rotate_left
      · simp only [Act.put, List.setIfInBounds_toArray, List.set_cons_zero, List.set_cons_succ, i64_w, i32_w]
        rfl
      refine pure_ (i := 10) (N := some 29) (v := ?_) (a' := ?_) #[true, true, true, true, true, true, true, true, true, true, true, false, false, false, false, false] rfl rfl (by kernel_rfl) (fun _ _ _ h => h) (Or.inl ⟨by rfl, ?_⟩) ?_ ?_
      rotate_left
      · intro w'
        go_simp
        with_reducible rfl
      rotate_left
      · simp only [Act.put, List.setIfInBounds_toArray, List.set_cons_zero, List.set_cons_succ, i64_w, i32_w]
        rfl
      refine one_ (i := 11) (N := some 30) #[true, true, true, true, true, true, true, true, true, true, true, true, false, false, false, false] rfl rfl (by kernel_rfl) (by decide) (fun K hK => ?_)
      refine goes_ Try.func23 (by kernel_rfl) rfl #[.slice A' l'.length c'] (by rfl) rfl rfl (by simp only [List.map_toArray, List.map_cons, List.map_nil]; rfl) ?_
      with_reducible refine (slices_Clone_byte_byte.calls A' c' l' l' W.drew (by exact Kd.C_drew hC') hcc hcl).mono ?_
      rintro e w3 ⟨v1, rfl, hR1, hb1⟩
      obtain ⟨A1, c1, rfl⟩ := Kd.R_slice hR1
      refine ⟨_, rfl, ?_⟩
      have hu1 : w3.cell? ⟨n0 + 1, 0, none⟩ = some v := (hb1.cell hlt1).trans hv1
      have hu0 : w3.cell? ⟨n0, 0, none⟩ = some (.slice A0 l0.length c0) := (hb1.cell hlt0).trans hv0
      refine hK.out _ _ ⟨hu1, hu0⟩ (fun hHeld => ?_)
      clear hK K
      refine norm_ (a' := ?_) ?_ ?_
      rotate_left
      · show Act.put _ (some 30) _ = _
        simp only [Act.put, List.setIfInBounds_toArray, List.set_cons_zero, List.set_cons_succ, i64_w, i32_w]
        rfl
      refine pure_ (i := 12) (N := some 31) (v := ?_) (a' := ?_) #[true, true, true, true, true, true, true, true, true, true, true, true, true, false, false, false] rfl rfl (by kernel_rfl) (fun _ _ _ h => h) (Or.inl ⟨by rfl, ?_⟩) ?_ ?_
      rotate_left
      · intro w'
        go_simp
        with_reducible rfl
      rotate_left
      · simp only [Act.put, List.setIfInBounds_toArray, List.set_cons_zero, List.set_cons_succ, i64_w, i32_w]
        rfl
      refine one_ (i := 13) (N := some 32) #[true, true, true, true, true, true, true, true, true, true, true, true, true, true, false, false] rfl rfl (by kernel_rfl) (by decide) (fun K hK => ?_)
      refine value_ (w1 := ?_) (v := ?_) (by rfl) rfl ?_ ?_
      rotate_left 2
      · go_simp
        constructor
        · rfl
        · rfl
      have ha1 := (Below.refl w3.heap.size w3).alloc (Nat.le_refl _) (.cells #[.bool (x == 0), .bool (y == (l0.length : Int)), .slice A1 l'.length c1] 34)
      refine hK.out _ _ ⟨(ha1.cell (Nat.lt_of_lt_of_le hlt1 hb1.size)).trans hu1, (ha1.cell (Nat.lt_of_lt_of_le hlt0 hb1.size)).trans hu0⟩ (fun hHeld => ?_)
      clear hK K
      refine norm_ (a' := ?_) ?_ ?_
      rotate_left
      · show Act.put _ (some 32) _ = _
        simp only [Act.put, List.setIfInBounds_toArray, List.set_cons_zero, List.set_cons_succ, i64_w, i32_w]
        rfl
      refine one_ (i := 14) (N := some 33) #[true, true, true, true, true, true, true, true, true, true, true, true, true, true, true, false] rfl rfl (by kernel_rfl) (by decide) (fun K hK => ?_)
      have hS3 := after_clone hS hb1 (Kd.R_base hR1)
      refine Kd.S_append_step k34 (w0 := W) (n0 + 4) (by rfl) (.tmp 19) (.tmp 32) 23 34 (.agg #[(.bool false), (.bool false), (.slice none 0 0)]) 32 rfl Try.underlying23 info34 rfl (by decide) (by omega) v xs (⟨x == 0, y == (l0.length : Int), l'⟩ : S34) [.bool (x == 0), .bool (y == (l0.length : Int)), .slice A1 l'.length c1] (fun _ => True) (fun k_ => some k_ = (Value.slice A1 l'.length c1).ownBlock) rfl rfl ?aP (fun k_ hk_ => ⟨trivial, hS3.2 k_ hk_⟩) (fun _ _ => trivial) hS3.1 (bel3 hBW hb1) (Nat.le_trans hBW hb1.size) ?aL ?_
      case aP => exact k34_mkM _ _ _ (⟨x == 0, y == (l0.length : Int), l'⟩ : S34) (Kd.R_mono (Kd.R_tight rfl (Kd.R_lower hR1 hBW)) (fun _ h_ => h_))
      case aL => omega
      intro v2 w5 hS5 hB5 hg5 hat5
      obtain ⟨A2, c2, rfl⟩ := Kd.S_slice hS5
      have hu51 : w5.cell? ⟨n0 + 1, 0, none⟩ = some v := (hB5.cell (by show n0 + 1 < n0 + 4; omega)).trans hv1
      have hu50 : w5.cell? ⟨n0, 0, none⟩ = some (.slice A0 l0.length c0) := (hB5.cell (by show n0 < n0 + 4; omega)).trans hv0
      have hf5 : w5.frozen? ⟨n0 + 1, 0, none⟩ = false := (hB5.frozen (by show n0 + 1 < n0 + 4; omega)).trans hf1
      refine hK.out _ _ ⟨hu51, hu50⟩ (fun hHeld => ?_)
      clear hK K
      refine norm_ (a' := ?_) ?_ ?_
      rotate_left
      · show Act.put _ (some 33) _ = _
        simp only [Act.put, List.setIfInBounds_toArray, List.set_cons_zero, List.set_cons_succ, i64_w, i32_w]
        rfl
      refine last_ (i := 15) (N := none) #[true, true, true, true, true, true, true, true, true, true, true, true, true, true, true, true] rfl rfl (by kernel_rfl) (by decide) (fun K hK => ?_)
      refine skip_ (w1 := ?_) (by rfl) rfl ?_ ?_
      rotate_left
      · go_simp
        rfl
      refine hK.out _ _ ?_
      clear hK K
      refine done_ (by kernel_rfl) ?_
    -- END7
      refine (SplitI_round (c := ⟨(x, y), hp⟩) (pre := pre) (ok' := fun _ => True) (by omega) hBW hB1 hBk0 hBel hb1 #[] hS3.1 (.inr hg5) hB5 ?_)
      rw [HX.out]
      show Kd.S k34 34 _ _ _ _ (xs ++ [pieceOf l0 (x, y)])
      rw [HP.out]
      rw [List.length_append, List.length_singleton] at hS5
      exact hS5
    case done =>
      rintro D ys W hD hys ⟨⟨v, h1, h2⟩, h3, h4, h5⟩ hK
      have hcv := h1.cell 0
      gi_wp2
      refine ⟨by simp, .inl ⟨_, _, rfl, run_takeDeferred hK, ?_⟩⟩
      refine ⟨_, results_tmp rfl _ _ _, v, rfl, ?_, ?_⟩
      · rw [hn0]
        have e : ys.map (fun c => pieceOf l0 c.1) = piecesP l0 sz := by
          rw [piecesP, ← hys, List.map_map]; rfl
        rw [e] at h2
        refine Kd.S_lower (Kd.S_mono (Kd.S_grown (Kd.S_bound h2) (grownBy_putObj' W D (.deferred none)) (fun k hk e => ?_)) (fun _ _ => trivial)) (by omega)
        obtain ⟨_, _, _, q, _, cs, hc⟩ := hk
        obtain rfl := Option.some.inj e
        rw [hK] at hc
        cases hc
      · rw [hn0]
        exact h5.grown (grownBy_putObj' W D (.deferred none)) (by have := h5.size; omega) (fun k e => by cases e; omega)
    case stop =>
      rintro D c pre W _ _ h _
      exact h.elim
  · have hr : r = [] := by
      unfold frag_Split.f at h
      rw [if_neg hfit] at h
      exact (Option.some.inj h).symm
    subst hr
    have hM := many_none l0 a1 hfit
    have HM := Aside0.mk hM
    clear hfit h hM hr0 hc0
    go_enter Try.func15, Try.ntmps15
    go_wp2_with (go_at_call 19; refine (frag_Many.calls _ _ 0 _ HM.out).mono ?_; rintro e w' ⟨rfl, ⟨nd, rfl⟩⟩)
    go_ret
    refine ⟨_, rfl, Kd.S_nil _ _ _ _ _, ?_⟩
    repeat (first | exact Below.refl _ _ | apply pw_below_drewN | apply below_alloc)

end Go.Proofs.Ytfdjfejlfkabdaa.Q
