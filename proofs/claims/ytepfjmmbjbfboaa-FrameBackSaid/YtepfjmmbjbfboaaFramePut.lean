/- frame.Put, walked. By this session. -/
import Derived.Test.YtepfjmmbjbfboaaF2
import Derived.Test.YtepfjmmbjbfboaaF5
import Derived.Test.YtepfjmmbjbfboaaF4
import Derived.Test.YtepfjmmbjbfboaaF7
namespace Go.Proofs.Ytepfjmmbjbfboaa.F
open Go.RowKit Go.Proofs.YtepfjmmbjbfboaaW.PrintWords Go.Proofs.YtepfjmmbjbfboaaW.PrintLast Go.Proofs.YtepfjmmbjbfboaaW.PrintMore
set_option linter.unusedVariables false
set_option linter.unusedSimpArgs false
def startZ : Array Value := Array.replicate 20 (.int .u8 0)
def startV : Array Value := #[.int .u8 0, .int .u8 0, .int .u8 0, .int .u8 0, .int .u8 255, .int .u8 3, .int .u8 0, .int .u8 61, .int .u8 255, .int .u8 3, .int .u8 64, .int .u8 95, .int .u8 255, .int .u8 3, .int .u8 192, .int .u8 33, .int .u8 255, .int .u8 3, .int .u8 0, .int .u8 87]
def fourZ : Array Value := Array.replicate 4 (.int .u8 0)
/-- What frames of a kind begin with. -/
def stL (k : Int) : List Int := if k = 1 then [255, 3, 0, 61] else if k = 2 then [255, 3, 64, 95] else if k = 3 then [255, 3, 192, 33] else if k = 4 then [255, 3, 0, 87] else [0, 0, 0, 0]
def stA (k : Int) : Array Value := ((stL k).map (Value.int .u8)).toArray
theorem stL_len (k : Int) : (stL k).length = 4 := by unfold stL; repeat (split <;> try rfl)
theorem stA_size (k : Int) : (stA k).size = 4 := by simp only [stA, List.size_toArray, List.length_map, stL_len]
theorem stL_oct (k : Int) : Oct (stL k) := by
  intro x hx
  unfold stL at hx
  split at hx
  · simp at hx; omega
  split at hx
  · simp at hx; omega
  split at hx
  · simp at hx; omega
  split at hx
  · simp at hx; omega
  · simp at hx; omega
set_option maxHeartbeats 1000000 in
set_option maxRecDepth 100000 in
theorem starts_makes (w : World) : Calls Try.prog 19 #[] w fun e w' => e = .returned (.agg startV) ∧ Below w.heap.size w w' := by
  have hz := zero_of (P := Try.prog) (t := 44) (z := .agg startZ) (by kernel_rfl)
  go_enter Try.func19, Try.ntmps19
  go_wp2_with (
    refine wpList_store_row rfl 44 (.tmp 0) (.tmp 5) rfl w.heap.size startV rfl (by rfl) 44 startZ (Blk.new _ _ _) (by kernel_rfl) (by kernel_rfl) (by kernel_rfl) ?_)
  exact bodyPost_ret (results_cell_row rfl _ _ w.heap.size 44 startV (0, 0) _ rfl (setRow_heap _ _ _ _ _ _ (Blk.new _ _ _)) Try.underlying44 rfl (by kernel_rfl)) rfl ⟨rfl, below_setRow ((Below.refl _ _).alloc (Nat.le_refl _) _) (Nat.le_refl _) _⟩
theorem start_at {k : Int} (h0 : 0 ≤ k) (h5 : k ≤ 4) : ∀ W : World, (Instr.index 44 (.agg startV) (.int .i64 k)).run Try.prog W = .ok (.agg (stA k)) W := by
  rcases (show k = 0 ∨ k = 1 ∨ k = 2 ∨ k = 3 ∨ k = 4 by omega) with rfl | rfl | rfl | rfl | rfl <;> intro W <;> kernel_rfl
theorem stA_one (k : Int) : (stA k).all (·.oneCell') = true := by
  unfold stA
  rw [Array.all_eq_true_iff_forall_mem]
  intro v hv
  have hv2 : v ∈ (stL k).map (Value.int .u8) := by simpa using hv
  obtain ⟨z, _, rfl⟩ := List.mem_map.1 hv2
  rfl
/-- A store of a row in a region that draws. -/
theorem store_row_step {P : Program} {ops : Array Oper} {o : Oper} {a : Act} {w : World} {K : Act → World → Prop} {Q : Exit → Act → World → Prop} (hw : Region.wanted o (yielded ops a.tmps) = true) (ty : TypeId) (x y : Operand) (ho : o.op = .store ty x y)
    (g : Nat) (cells : Array Value) (hx : a.eval x = .pointer (some ⟨g, 0, none⟩)) (hy : a.eval y = .agg cells) (t : TypeId) (old : Array Value) (hg : w.heap[g]? = some (.cells old t (0, 0))) (hi : (P.info? ty).map (·.size) = some cells.size)
    (hold : old.size = cells.size) (h1 : cells.all (·.oneCell') = true) (h : K (a.put o.dst undef) (w.setRow g cells)) :
    if Region.wanted o (yielded ops a.tmps) = true then Oper.wp P o a w K Q else K (a.put o.dst undef) w := by
  rw [if_pos hw]
  exact wp_store_row ty x y ho g cells hx hy t old hg hi hold h1 h
theorem blk_C {W : World} {g t : Nat} {xs : List Int} (h : Blk W g ((xs.map (Value.int .u8)).toArray) t) (hl : xs.length ≤ 9223372036854775807) : Kd.C (Kd.int .u8) W (some ⟨g, 0, none⟩) xs.length xs := by
  refine ⟨rfl, hl, fun _ => ⟨_, rfl, fun j p hj => ⟨[.int .u8 p], rfl, rfl, fun i u hi => ?_⟩⟩⟩
  obtain rfl : i = 0 := by
    rcases i with _ | i
    · rfl
    · simp at hi
  obtain rfl : Value.int .u8 p = u := by simpa using hi
  have e : (Addr.mk g 0 none).add (j * (Kd.int .u8).sz + 0) = ⟨g, j, none⟩ := by
    show (Addr.mk g 0 none).add (j * 1 + 0) = _
    unfold Addr.add
    split
    · have : j = 0 := by omega
      subst this; rfl
    · simp
  rw [e, h.cell j]
  simp [hj]
def putN (k : Int) (l : List Int) : List Int := if 1 ≤ k ∧ k ≤ 4 ∧ l.length ≤ 2048 then sealN (stL k ++ l) else []
def frame_Put.f (a0 : Int) (l1 : List Int) : Option (List Int) := some (putN a0 l1)
set_option maxHeartbeats 2000000 in
set_option maxRecDepth 100000 in
theorem frame_Put.calls (a0 : Int) (A1 : Option Addr) (c1 : Nat) (l1 : List Int) (r : List Int) (w : World) (hr1 : Kd.C (Kd.int .u8) w A1 l1.length l1) (hc1 : l1.length ≤ c1) (h : frame_Put.f a0 l1 = some r) :
    Calls Try.prog 13 #[.agg #[.int .i64 a0, .slice A1 l1.length c1]] w fun e w' => ∃ v0_ : Value, e = .returned (v0_) ∧ Kd.R (Kd.int .u8) 5 w' w.heap.size (fun _ => True) v0_ r ∧ Below w.heap.size w w' := by
  have H : putN a0 l1 = r := Option.some.inj h
  clear h
  have HR := Aside0.mk hr1; have HC := Aside0.mk hc1; have hmax := Kd.C_max hr1
  clear hr1 hc1
  unfold putN at H
  by_cases hk1 : a0 < 1
  · rw [if_neg (by omega)] at H
    subst H
    have hd1 : decide (a0 < 1) = true := decide_eq_true hk1
    go_enter Try.func13, Try.ntmps13
    go_wp2_with fail
    go_ret
    exact ⟨_, rfl, Kd.R_nil _ _ _ _ _, (Below.refl _ _).alloc (Nat.le_refl _) _⟩
  have hd1 : decide (a0 < 1) = false := decide_eq_false hk1
  by_cases hk4 : 4 < a0
  · rw [if_neg (by omega)] at H
    subst H
    have hd4 : decide (4 < a0) = true := decide_eq_true hk4
    go_enter Try.func13, Try.ntmps13
    go_wp2_with fail
    go_ret
    exact ⟨_, rfl, Kd.R_nil _ _ _ _ _, (Below.refl _ _).alloc (Nat.le_refl _) _⟩
  have hd4 : decide (4 < a0) = false := decide_eq_false hk4
  by_cases hlb : (2048 : Int) < (l1.length : Int)
  · rw [if_neg (by omega)] at H
    subst H
    have hdb : decide ((2048 : Int) < (l1.length : Int)) = true := decide_eq_true hlb
    go_enter Try.func13, Try.ntmps13
    go_wp2_with fail
    go_ret
    exact ⟨_, rfl, Kd.R_nil _ _ _ _ _, (Below.refl _ _).alloc (Nat.le_refl _) _⟩
  have hdb : decide ((2048 : Int) < (l1.length : Int)) = false := decide_eq_false hlb
  rw [if_pos (by omega)] at H
  have hidx := start_at (k := a0) (by omega) (by omega)
  have hz4 := zero_of (P := Try.prog) (t := 43) (z := .agg fourZ) (by kernel_rfl)
  obtain ⟨x, hx⟩ : ∃ x, Aside0 (stL a0 ++ l1 = x) := ⟨_, ⟨rfl⟩⟩
  have hxl := Aside0.mk (show x.length = l1.length + 4 by rw [← hx.out, List.length_append, stL_len]; omega)
  rw [hx.out] at H
  obtain ⟨y, hy⟩ : ∃ y, Aside0 (sealN x = y) := ⟨_, ⟨rfl⟩⟩
  rw [hy.out] at H
  have hseal := Aside0.mk (show fcs_Seal.f x = some y by rw [← hy.out]; exact if_pos (by have := hxl.out; omega))
  subst H
  go_enter Try.func13, Try.ntmps13
  go_wp2_with fail
  obtain ⟨n0, hn0⟩ : ∃ n0, w.heap.size = n0 := ⟨_, rfl⟩
  obtain ⟨wB, hwB⟩ : ∃ W, w.alloc (.cells #[.int .i64 a0, .slice A1 l1.length c1] 24) = W := ⟨_, rfl⟩
  simp only [hwB, hn0]
  have hbB := Aside0.mk (show Below n0 w wB from hwB ▸ hn0 ▸ (Below.refl _ _).alloc (Nat.le_refl _) _)
  have hBk := Aside0.mk (show Blk wB n0 #[.int .i64 a0, .slice A1 l1.length c1] 24 from hwB ▸ hn0 ▸ Blk.new _ _ _)
  have HRB := Aside0.mk (Kd.C_below HR.out (hn0 ▸ hbB.out))
  have hsz : wB.heap.size = n0 + 1 := by rw [← hwB, ← hn0]; simp
  have Hsz := Aside0.mk hsz
  clear hwB HR hsz
  have hkeep := Aside0.mk (fun (W : World) (hb : Below wB.heap.size wB W) => And.intro ((hBk.out.below hb).cell 0) ((hBk.out.below hb).cell 1))
  have hu0 := (Below.refl wB.heap.size wB).drew
  have T0 : wB.drew.cell? ⟨n0, 0, none⟩ = some (.int .i64 a0) := (hkeep.out _ hu0).1
  -- PUT3
  refine start_ (n := 6) (S := fun w' => w'.cell? ⟨n0, 0, none⟩ = some (.int .i64 a0)) (ds := []) #[false, false, false, false, false, false] (by kernel_rfl) rfl rfl (T0) (fun hHeld => ?_)
  refine pure_ (i := 1) (N := some 19) (v := ?_) (a' := ?_) #[false, true, false, false, false, false] rfl rfl (by kernel_rfl) (fun _ _ _ h => h) (Or.inl ⟨by rfl, ?_⟩) ?_ ?_
  rotate_left
  · intro w'
    go_simp
    with_reducible rfl
  rotate_left
  · simp only [Act.put, List.setIfInBounds_toArray, List.set_cons_zero, List.set_cons_succ, i64_w, i32_w]
    rfl
  refine take_ (i := 2) (N := some 20) (v := ?_) (a' := ?_) #[false, true, true, false, false, false] rfl rfl (by kernel_rfl) (fun _ _ _ h => h) (Or.inl ⟨by rfl, ?_⟩) hHeld ?_ ?_
  rotate_left
  · intro w' s0
    go_simp
    with_reducible rfl
  rotate_left
  · simp only [Act.put, List.setIfInBounds_toArray, List.set_cons_zero, List.set_cons_succ, i64_w, i32_w]
    rfl
  refine join_ (σ := Nat) 1 #[true, true, true, true, true, false] (fun s_ => [(18, .agg startV), (21, .agg (stA a0)), (3, .pointer (some ⟨s_, 0, none⟩))]) (fun s_ w' => Blk w' s_ fourZ 43 ∧ wB.heap.size ≤ s_ ∧ Below wB.heap.size wB w') ?_ ?_
  rotate_left
  · intro hCont
    refine two_ (i := 0) (j := 4) (Ni := some 18) (Nj := some 3) #[true, true, true, false, false, false] #[false, true, true, false, true, false] rfl rfl rfl rfl (by kernel_rfl) (by decide) (by decide) (fun K hK => ?_) (fun K hK => ?_)
    · skip
      refine goes_ Try.func19 (by kernel_rfl) rfl #[] (by rfl) rfl rfl (by simp) ?_
      with_reducible refine (starts_makes _).mono ?_
      rintro e u1 ⟨rfl, hb1⟩
      refine ⟨_, rfl, ?_⟩
      have hu1 := hu0.trans (hb1.mono hu0.size)
      refine hK.out _ _ ((hkeep.out _ hu1).1) (fun hHeld => ?_)
      clear hK K
      refine norm_ (a' := ?_) ?_ ?_
      rotate_left
      · show Act.put _ (some 18) _ = _
        simp only [Act.put, List.setIfInBounds_toArray, List.set_cons_zero, List.set_cons_succ, i64_w, i32_w]
        rfl
      refine take_ (i := 3) (N := some 21) (v := ?_) (a' := ?_) #[true, true, true, true, false, false] rfl rfl (by kernel_rfl) (fun _ _ _ h => h) (Or.inl ⟨by rfl, ?_⟩) hHeld ?_ ?_
      rotate_left
      · intro w' s0
        go_simp
        with_reducible rfl
      rotate_left
      · simp only [Act.put, List.setIfInBounds_toArray, List.set_cons_zero, List.set_cons_succ, i64_w, i32_w]
        rfl
      refine one_ (i := 4) (N := some 3) #[true, true, true, true, true, false] rfl rfl (by kernel_rfl) (by decide) (fun K hK => ?_)
      refine value_ (w1 := ?_) (v := ?_) (by rfl) rfl ?_ ?_
      rotate_left 2
      · go_simp
        constructor
        · rfl
        · rfl
      have hZ : Blk (u1.alloc (.cells fourZ 43)) u1.heap.size fourZ 43 := Blk.new _ _ _
      have hs_ : wB.heap.size ≤ u1.heap.size := hu1.size
      have hu2 := hu1.alloc hu1.size (.cells fourZ 43)
      refine hK.out _ _ ((hkeep.out _ hu2).1) (fun hHeld => ?_)
      clear hK K
      refine norm_ (a' := ?_) ?_ ?_
      rotate_left
      · show Act.put _ (some 3) _ = _
        simp only [Act.put, List.setIfInBounds_toArray, List.set_cons_zero, List.set_cons_succ, i64_w, i32_w]
        rfl
      exact norm_ (by simp only [putAll, Act.put, List.setIfInBounds_toArray, List.set_cons_zero, List.set_cons_succ]) (hCont u1.heap.size _ ⟨hZ, hs_, hu2⟩)
    · skip
      refine value_ (w1 := ?_) (v := ?_) (by rfl) rfl ?_ ?_
      rotate_left 2
      · go_simp
        constructor
        · rfl
        · rfl
      have hZ : Blk (wB.alloc (.cells fourZ 43)).drew wB.heap.size fourZ 43 := Blk.new _ _ _
      have hs_ : wB.heap.size ≤ wB.heap.size := Nat.le_refl _
      have hu1 : Below wB.heap.size wB (wB.alloc (.cells fourZ 43)).drew := ((Below.refl _ _).alloc (Nat.le_refl _) _).drew
      generalize hA_ : (wB.alloc (.cells fourZ 43)).drew = u1 at *
      clear hA_
      refine hK.out _ _ ((hkeep.out _ hu1).1) (fun hHeld => ?_)
      clear hK K
      refine norm_ (a' := ?_) ?_ ?_
      rotate_left
      · show Act.put _ (some 3) _ = _
        simp only [Act.put, List.setIfInBounds_toArray, List.set_cons_zero, List.set_cons_succ, i64_w, i32_w]
        rfl
      refine one_ (i := 0) (N := some 18) #[true, true, true, false, true, false] rfl rfl (by kernel_rfl) (by decide) (fun K hK => ?_)
      refine goes_ Try.func19 (by kernel_rfl) rfl #[] (by rfl) rfl rfl (by simp) ?_
      with_reducible refine (starts_makes _).mono ?_
      rintro e u2 ⟨rfl, hb2⟩
      refine ⟨_, rfl, ?_⟩
      have hu2 := hu1.trans (hb2.mono hu1.size)
      replace hZ := hZ.below hb2
      refine hK.out _ _ ((hkeep.out _ hu2).1) (fun hHeld => ?_)
      clear hK K
      refine norm_ (a' := ?_) ?_ ?_
      rotate_left
      · show Act.put _ (some 18) _ = _
        simp only [Act.put, List.setIfInBounds_toArray, List.set_cons_zero, List.set_cons_succ, i64_w, i32_w]
        rfl
      refine take_ (i := 3) (N := some 21) (v := ?_) (a' := ?_) #[true, true, true, true, true, false] rfl rfl (by kernel_rfl) (fun _ _ _ h => h) (Or.inl ⟨by rfl, ?_⟩) hHeld ?_ ?_
      rotate_left
      · intro w' s0
        go_simp
        with_reducible rfl
      rotate_left
      · simp only [Act.put, List.setIfInBounds_toArray, List.set_cons_zero, List.set_cons_succ, i64_w, i32_w]
        rfl
      exact norm_ (by simp only [putAll, Act.put, List.setIfInBounds_toArray, List.set_cons_zero, List.set_cons_succ]) (hCont wB.heap.size _ ⟨hZ, hs_, hu2⟩)
  rintro nZ u3 ⟨hZ, hs_, hu3⟩
  have hHeld : u3.cell? ⟨n0, 0, none⟩ = some (.int .i64 a0) := (hkeep.out _ hu3).1
  refine norm_ (a' := ?_) ?_ ?_
  rotate_left
  · simp only [putAll, Act.put, List.setIfInBounds_toArray, List.set_cons_zero, List.set_cons_succ]
    rfl
  refine one_ (i := 5) (N := none) #[true, true, true, true, true, true] rfl rfl (by kernel_rfl) (by decide) (fun K hK => ?_)
  refine store_row_step (by rfl) 43 (.tmp 3) (.tmp 21) rfl nZ (stA a0) rfl rfl 43 fourZ hZ (by rw [stA_size]; kernel_rfl) (by rw [stA_size]; rfl) (stA_one a0) ?_
  have hZ4 := setRow_heap _ _ _ (stA a0) _ _ hZ
  have hu4 := below_setRow hu3 hs_ (stA a0)
  refine hK.out _ _ ((hkeep.out _ hu4).1) (fun hHeld => ?_)
  clear hK K
  refine done_ (by kernel_rfl) ?_
  -- END PUT3
  have hsl : ∀ W : World, (Instr.sliceAt 43 (.pointer (some ⟨nZ, 0, none⟩)) none none none).run Try.prog W = .ok (.slice (some ⟨nZ, 0, none⟩) 4 4) W := by intro W; kernel_rfl
  obtain ⟨wC, hwC⟩ : ∃ W, u3.setRow nZ (stA a0) = W := ⟨_, rfl⟩
  rw [hwC] at hu4 hZ4
  simp only [hwC]
  have hBC := Aside0.mk hu4
  have hZC := Aside0.mk (show Blk wC nZ (stA a0) 43 from hZ4)
  clear hHeld hwC hu4 hZ4 hZ hu3 hs_
  go_wp2_with fail
  have hv0 := (Below.refl wC.heap.size wC).drew
  have hkC := Aside0.mk (fun (W : World) (hb : Below wC.heap.size wC W) => (hkeep.out W (hBC.out.trans (hb.mono hBC.out.size))).2)
  have T0 : wC.drew.cell? ⟨n0, 1, none⟩ = some (.slice A1 l1.length c1) := hkC.out _ hv0
  have hl4 := stL_len a0
  have hC4 : Kd.C (Kd.int .u8) wC (some ⟨nZ, 0, none⟩) (stL a0).length (stL a0) := blk_C (t := 43) hZC.out (by omega)
  have hC1 : Kd.C (Kd.int .u8) wC A1 l1.length l1 := Kd.C_below HRB.out hBC.out
  have hcc := lit_CC wC (some ⟨nZ, 0, none⟩) A1 4 l1.length 4 c1 (stL a0) l1 hl4.symm rfl hC4 hC1 (by omega) HC.out 22 wC.heap.size rfl
  have hflat : [stL a0, l1].flatten = x := by rw [← hx.out]; simp
  have hcall : Calls Try.prog 22 #[.slice (some ⟨wC.heap.size, 0, none⟩) 2 2] (wC.alloc (.cells #[.slice (some ⟨nZ, 0, none⟩) 4 4, .slice A1 l1.length c1] 22)).drew fun e w' => ∃ v, e = .returned v ∧ Kd.R (Kd.int .u8) 5 w' ((wC.alloc (.cells #[.slice (some ⟨nZ, 0, none⟩) 4 4, .slice A1 l1.length c1] 22)).drew).heap.size (fun _ => True) v x ∧ Below ((wC.alloc (.cells #[.slice (some ⟨nZ, 0, none⟩) 4 4, .slice A1 l1.length c1] 22)).drew).heap.size (wC.alloc (.cells #[.slice (some ⟨nZ, 0, none⟩) 4 4, .slice A1 l1.length c1] 22)).drew w' := by
    have := concat_makes (some ⟨wC.heap.size, 0, none⟩) 2 [stL a0, l1] (wC.alloc (.cells #[.slice (some ⟨nZ, 0, none⟩) 4 4, .slice A1 l1.length c1] 22)).drew (Kd.C_drew hcc) (by rw [hflat]; have := hxl.out; omega)
    rw [hflat] at this
    exact this
  have hv1 : Below wC.heap.size wC (wC.alloc (.cells #[.slice (some ⟨nZ, 0, none⟩) 4 4, .slice A1 l1.length c1] 22)).drew := ((Below.refl _ _).alloc (Nat.le_refl _) _).drew
  -- PUT4
  refine start_ (n := 7) (S := fun w' => w'.cell? ⟨n0, 1, none⟩ = some (.slice A1 l1.length c1)) (ds := []) #[false, false, false, false, false, false, false] (by kernel_rfl) rfl rfl (T0) (fun hHeld => ?_)
  refine pure_ (i := 0) (N := some 22) (v := ?_) (a' := ?_) #[true, false, false, false, false, false, false] rfl rfl (by kernel_rfl) (fun _ _ _ h => h) (Or.inl ⟨by rfl, ?_⟩) ?_ ?_
  rotate_left
  · intro w'
    go_simp
    with_reducible rfl
  rotate_left
  · simp only [Act.put, List.setIfInBounds_toArray, List.set_cons_zero, List.set_cons_succ, i64_w, i32_w]
    rfl
  refine pure_ (i := 1) (N := some 23) (v := ?_) (a' := ?_) #[true, true, false, false, false, false, false] rfl rfl (by kernel_rfl) (fun _ _ _ h => h) (Or.inl ⟨by rfl, ?_⟩) ?_ ?_
  rotate_left
  · intro w'
    go_simp
    with_reducible rfl
  rotate_left
  · simp only [Act.put, List.setIfInBounds_toArray, List.set_cons_zero, List.set_cons_succ, i64_w, i32_w]
    rfl
  refine take_ (i := 2) (N := some 24) (v := ?_) (a' := ?_) #[true, true, true, false, false, false, false] rfl rfl (by kernel_rfl) (fun _ _ _ h => h) (Or.inl ⟨by rfl, ?_⟩) hHeld ?_ ?_
  rotate_left
  · intro w' s0
    go_simp
    with_reducible rfl
  rotate_left
  · simp only [Act.put, List.setIfInBounds_toArray, List.set_cons_zero, List.set_cons_succ, i64_w, i32_w]
    rfl
  refine one_ (i := 3) (N := some 25) #[true, true, true, true, false, false, false] rfl rfl (by kernel_rfl) (by decide) (fun K hK => ?_)
  refine value_ (w1 := ?_) (v := ?_) (by rfl) rfl ?_ ?_
  rotate_left 2
  · go_simp
    constructor
    · rfl
    · rfl
  refine hK.out _ _ (hkC.out _ hv1) (fun hHeld => ?_)
  clear hK K
  refine norm_ (a' := ?_) ?_ ?_
  rotate_left
  · show Act.put _ (some 25) _ = _
    simp only [Act.put, List.setIfInBounds_toArray, List.set_cons_zero, List.set_cons_succ, i64_w, i32_w]
    rfl
  refine one_ (i := 4) (N := some 26) #[true, true, true, true, true, false, false] rfl rfl (by kernel_rfl) (by decide) (fun K hK => ?_)
  refine goes_ Try.func22 (by kernel_rfl) rfl #[.slice (some ⟨wC.heap.size, 0, none⟩) 2 2] (by rfl) rfl rfl (by simp only [List.map_toArray, List.map_cons, List.map_nil]; rfl) ?_
  with_reducible refine (hcall).mono ?_
  rintro e v5 ⟨vx, rfl, hR5, hb5⟩
  refine ⟨_, rfl, ?_⟩
  have hv5 := hv1.trans (hb5.mono hv1.size)
  obtain ⟨A5, c5, e5⟩ := Kd.R_slice hR5
  subst e5
  have HR5 := Aside0.mk (Kd.R_reads' hR5)
  refine hK.out _ _ (hkC.out _ hv5) (fun hHeld => ?_)
  clear hK K
  refine norm_ (a' := ?_) ?_ ?_
  rotate_left
  · show Act.put _ (some 26) _ = _
    simp only [Act.put, List.setIfInBounds_toArray, List.set_cons_zero, List.set_cons_succ, i64_w, i32_w]
    rfl
  refine one_ (i := 5) (N := some 27) #[true, true, true, true, true, true, false] rfl rfl (by kernel_rfl) (by decide) (fun K hK => ?_)
  refine goes_ Try.func21 (by kernel_rfl) rfl #[.slice A5 x.length c5] (by rfl) rfl rfl (by simp only [List.map_toArray, List.map_cons, List.map_nil]; rfl) ?_
  with_reducible refine (fcs_Seal.calls A5 c5 x y _ HR5.out.2.2 HR5.out.2.1 hseal.out).mono ?_
  rintro e v6 ⟨vy, rfl, hR6, hb6⟩
  refine ⟨_, rfl, ?_⟩
  have hv6 := hv5.trans (hb6.mono hv5.size)
  have HRF := Aside0.mk hR6
  have HB2 := Aside0.mk (hBC.out.trans (hv5.mono hBC.out.size))
  have HBF := Aside0.mk (hBC.out.trans (hv6.mono hBC.out.size))
  refine hK.out _ _ (hkC.out _ hv6) (fun hHeld => ?_)
  clear hK K
  refine norm_ (a' := ?_) ?_ ?_
  rotate_left
  · show Act.put _ (some 27) _ = _
    simp only [Act.put, List.setIfInBounds_toArray, List.set_cons_zero, List.set_cons_succ, i64_w, i32_w]
    rfl
  refine pure_ (i := 6) (N := some 2) (v := ?_) (a' := ?_) #[true, true, true, true, true, true, true] rfl rfl (by kernel_rfl) (fun _ _ _ h => h) (Or.inl ⟨by rfl, ?_⟩) ?_ ?_
  rotate_left
  · intro w'
    go_simp
    with_reducible rfl
  rotate_left
  · simp only [Act.put, List.setIfInBounds_toArray, List.set_cons_zero, List.set_cons_succ, i64_w, i32_w]
    rfl
  refine done_ (by kernel_rfl) ?_
  -- END PUT4
  go_wp2_with fail
  go_ret
  refine ⟨_, rfl, Kd.R_lower HRF.out ?_, (hbB.out.trans (HBF.out.mono ?_))⟩
  · have := Hsz.out; have := HB2.out.size; omega
  · have := Hsz.out; omega
end Go.Proofs.Ytepfjmmbjbfboaa.F
