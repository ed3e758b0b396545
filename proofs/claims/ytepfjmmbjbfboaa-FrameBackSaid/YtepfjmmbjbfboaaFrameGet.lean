/- frame.Get, walked. By this session. -/
import Derived.Test.YtepfjmmbjbfboaaFramePut
import Derived.Test.YtepfjmmbjbfboaaFcsPlain
namespace Go.Proofs.Ytepfjmmbjbfboaa.F
open Go.RowKit Go.Proofs.YtepfjmmbjbfboaaW.PrintWords Go.Proofs.YtepfjmmbjbfboaaW.PrintLast Go.Proofs.YtepfjmmbjbfboaaW.PrintMore
set_option linter.unusedVariables false
set_option linter.unusedSimpArgs false
/-- Which kind what was sealed tells; 0: none. -/
def kindOf (x : List Int) : Int := if x.take 4 = stL 1 then 1 else if x.take 4 = stL 2 then 2 else if x.take 4 = stL 3 then 3 else if x.take 4 = stL 4 then 4 else 0
/-- The frame of bytes. -/
def getN (b : List Int) : (Int × List Int) × Int :=
  if b.length < 8 then ((0, []), 41) else if 2056 < b.length then ((0, []), 2) else if (refopen b).2 = false then ((0, []), 42) else
    if kindOf (refopen b).1 = 0 then ((0, []), 43) else ((kindOf (refopen b).1, (refopen b).1.drop 4), 0)
/-- Bytes of the call's own, that may stand behind others in their row. -/
def Mine (w : World) (base : Nat) (A : Option Addr) (xs : List Int) : Prop := xs = [] ∨ ∃ g o cells, A = some ⟨g, o, none⟩ ∧ base ≤ g ∧ w.heap[g]? = some (.cells cells 5 (0, 0)) ∧ ∀ j x, xs[j]? = some x → cells[o + j]? = some (.int .u8 x)
section
variable {P : Program} {d : Nat} {xs ys : Array Value} {a b : Value} {r s : Bool} {w : World} {e : TypeId} {c i : Nat} {is : List Nat}
theorem eqi_cons (ha : (part e xs (i * c)).run P w = .ok a w) (hb : (part e ys (i * c)).run P w = .ok b w) (he : (Op.equalIn d e a b).run P w = .ok r w) (hr : (Op.eqItems d e c xs ys is).run P w = .ok s w) : (Op.eqItems d e c xs ys (i :: is)).run P w = .ok (r && s) w := by
  simp only [Op.eqItems, Sem.run_bind, ha, hb, he, Result.andThen_ok]
  cases r
  · simp
  · simpa using hr
theorem eqi_nil : (Op.eqItems d e c xs ys []).run P w = .ok true w := by simp [Op.eqItems]
end
theorem eq43 (d : Nat) (w : World) (x0 x1 x2 x3 y0 y1 y2 y3 : Int) :
    (Op.equalIn (d + 2) 43 (.agg #[.int .u8 x0, .int .u8 x1, .int .u8 x2, .int .u8 x3]) (.agg #[.int .u8 y0, .int .u8 y1, .int .u8 y2, .int .u8 y3])).run Try.prog w = .ok ((x0 == y0) && ((x1 == y1) && ((x2 == y2) && ((x3 == y3) && true)))) w := by
  have hc : Try.prog.cellsOf 5 = 1 := by kernel_rfl
  obtain ⟨i, hi⟩ := info_of_underlying Try.underlying5
  rw [run_equalIn_array (P := Try.prog) w (d + 1) _ _ Try.underlying43 hi, hc]
  have hr : List.range 4 = [0, 1, 2, 3] := rfl
  rw [hr]
  iterate 4 refine eqi_cons (by go_simp) (by go_simp) (run_equalIn_int w d 5 .u8 .u8 _ _ Try.underlying5) ?_
  exact eqi_nil
theorem kindOf_eq {x : List Int} {j : Int} (h1 : 1 ≤ j) (h4 : j ≤ 4) (h : x.take 4 = stL j) : kindOf x = j := by
  unfold kindOf
  rw [h]
  rcases (show j = 1 ∨ j = 2 ∨ j = 3 ∨ j = 4 by omega) with rfl | rfl | rfl | rfl <;> decide
theorem kindOf_none {x : List Int} (h : ∀ j : Int, 1 ≤ j → j ≤ 4 → x.take 4 ≠ stL j) : kindOf x = 0 := by
  unfold kindOf
  rw [if_neg (h 1 (by decide) (by decide)), if_neg (h 2 (by decide) (by decide)), if_neg (h 3 (by decide) (by decide)), if_neg (h 4 (by decide) (by decide))]
theorem mine_drop {w : World} {base : Nat} {ok : Nat → Prop} {A : Option Addr} {n c m : Nat} {xs : List Int} (h : Kd.R (Kd.int .u8) 5 w base ok (.slice A n c) xs) : Mine w base (if c = m then A else A.map (·.add (m * 1))) (xs.drop m) := by
  by_cases hm : xs.length ≤ m
  · left; exact List.drop_eq_nil_of_le hm
  · right
    have hR := Kd.R_reads' h
    obtain ⟨g, cap, hv, hg, hlt, cells, hcells⟩ := Kd.R_form h (by omega)
    injection hv with h1 h2 h3
    subst h1 h3
    rw [if_neg (by omega)]
    refine ⟨g, m, cells, ?_, hg, hcells, fun j x hx => ?_⟩
    · rw [Option.map_some]
      congr 1
      unfold Addr.add
      split
      · have : m = 0 := by omega
        subst this; rfl
      · simp
    · rw [List.getElem?_drop] at hx
      have hlt2 := (List.getElem?_eq_some_iff.1 hx).1
      obtain ⟨ad, cs, he, _, hK, hcc⟩ := Kd.C_get hR.2.2 0 ((m + j : Nat) : Int) (by omega) (by omega)
      injection he with he
      subst he
      have hK' : cs = [.int .u8 x] := by have e : cs = [.int .u8 (xs.getD ((m + j : Nat) : Int).toNat 0)] := hK; rw [e, Int.toNat_natCast, List.getD_eq_getElem?_getD, hx]; rfl
      subst hK'
      have h0 := hcc 0 _ rfl
      rw [show (((m + j : Nat) : Int).toNat * (Kd.int .u8).sz + 0) = m + j from by show ((m + j : Nat) : Int).toNat * 1 + 0 = m + j; omega] at h0
      have e2 : (Addr.mk g 0 none).add (m + j) = ⟨g, m + j, none⟩ := by
        unfold Addr.add
        split
        · have : m + j = 0 := by omega
          rw [this]
        · simp
      rw [e2, cell_of_row w g (m + j) cells 5 (0, 0) hcells] at h0
      exact h0
theorem Mine.mono {w : World} {b b' : Nat} {A : Option Addr} {xs : List Int} (h : Mine w b A xs) (hb : b' ≤ b) : Mine w b' A xs := by
  rcases h with h | ⟨g, o, cells, h1, h2, h3⟩
  · exact .inl h
  · exact .inr ⟨g, o, cells, h1, Nat.le_trans hb h2, h3⟩
theorem Mine.below {w w' : World} {b : Nat} {A : Option Addr} {xs : List Int} (h : Mine w b A xs) (hb : Below w.heap.size w w') : Mine w' b A xs := by
  rcases h with h | ⟨g, o, cells, h1, h2, h3, h4⟩
  · exact .inl h
  · exact .inr ⟨g, o, cells, h1, h2, (hb.block g (Array.getElem?_eq_some_iff.1 h3).1).trans h3, h4⟩
theorem Mine.setRow {w : World} {b g' : Nat} {A : Option Addr} {xs : List Int} (h : Mine w b A xs) (hg : g' < b) (cs : Array Value) : Mine (w.setRow g' cs) b A xs := by
  rcases h with h | ⟨g, o, cells, h1, h2, h3, h4⟩
  · exact .inl h
  · exact .inr ⟨g, o, cells, h1, h2, by rw [setRow_other _ _ _ _ (by omega)]; exact h3, h4⟩
theorem mine_C {w : World} {b : Nat} {A : Option Addr} {xs : List Int} (h : Mine w b A xs) (hl : xs.length ≤ 9223372036854775807) : Kd.C (Kd.int .u8) w A xs.length xs := by
  refine ⟨rfl, hl, fun hp => ?_⟩
  rcases h with rfl | ⟨g, o, cells, rfl, _, h3, h4⟩
  · simp at hp
  · refine ⟨_, rfl, fun j p hj => ⟨[.int .u8 p], rfl, rfl, fun i u hi => ?_⟩⟩
    obtain rfl : i = 0 := by
      rcases i with _ | i
      · rfl
      · simp at hi
    obtain rfl : Value.int .u8 p = u := by simpa using hi
    have e : (Addr.mk g o none).add (j * (Kd.int .u8).sz + 0) = ⟨g, o + j, none⟩ := by
      show (Addr.mk g o none).add (j * 1 + 0) = _
      unfold Addr.add
      split
      · have : j = 0 := by omega
        subst this; rfl
      · simp
    rw [e, cell_of_row w g (o + j) cells 5 (0, 0) h3]
    exact h4 j p hj
/-- Four bytes' cells. -/
theorem cells4 {w : World} {g : Nat} {xs : List Int} {x0 x1 x2 x3 : Int} {rest : List Int} (hx : xs = x0 :: x1 :: x2 :: x3 :: rest) (h : Kd.C (Kd.int .u8) w (some ⟨g, 0, none⟩) xs.length xs) :
    w.cell? ⟨g, 0, none⟩ = some (.int .u8 x0) ∧ w.cell? ⟨g, 1, none⟩ = some (.int .u8 x1) ∧ w.cell? ⟨g, 2, none⟩ = some (.int .u8 x2) ∧ w.cell? ⟨g, 3, none⟩ = some (.int .u8 x3) := by
  have key : ∀ (j : Nat) (v : Int), xs[j]? = some v → w.cell? ⟨g, j, none⟩ = some (.int .u8 v) := by
    intro j v hv
    have hj := (List.getElem?_eq_some_iff.1 hv).1
    obtain ⟨ad, cs, he, _, hK, hcc⟩ := Kd.C_get h 0 (j : Int) (by omega) (by omega)
    injection he with he
    subst he
    have e : cs = [.int .u8 (xs.getD (j : Int).toNat 0)] := hK
    subst e
    have h0 := hcc 0 _ rfl
    rw [show ((j : Int).toNat * (Kd.int .u8).sz + 0) = j from by show (j : Int).toNat * 1 + 0 = j; omega] at h0
    have e2 : (Addr.mk g 0 none).add j = ⟨g, j, none⟩ := by
      unfold Addr.add
      split
      · next h => subst h; rfl
      · simp
    rw [e2] at h0
    rw [h0, Int.toNat_natCast, List.getD_eq_getElem?_getD, hv]
    rfl
  subst hx
  exact ⟨key 0 x0 rfl, key 1 x1 rfl, key 2 x2 rfl, key 3 x3 rfl⟩
def frame_Get.f (b : List Int) : Option ((Int × List Int) × Int) := if Oct b ∧ b.length + 4 < 140737488355328 then some (getN b) else none
/-- The end of it. -/
theorem get_end {w W : World} {n0 : Nat} {a : Act} {k er : Int} {A : Option Addr} {c : Nat} {body : List Int} (hp : a.tmps.getD 2 undef = .pointer (some ⟨n0, 0, none⟩)) (h3 : a.tmps.getD 3 undef = .int .i64 er) (hd : a.defers = [])
    (hb : Blk W n0 #[.int .i64 k, .slice A body.length c] 24) (hl : body.length ≤ c) (hC : Kd.C (Kd.int .u8) W A body.length body) (hM : Mine W w.heap.size A body) (hB : Below w.heap.size w W) :
    bodyPost Try.prog Try.f11 (fun e w' => ∃ A c, e = .returned (.tuple #[.agg #[.int .i64 k, .slice A body.length c], .int .i64 er]) ∧ body.length ≤ c ∧ Kd.C (Kd.int .u8) w' A body.length body ∧ Mine w' w.heap.size A body ∧ Below w.heap.size w w') Exit.ret a W :=
  bodyPost_ret (results_ct rfl _ _ n0 24 _ (0, 0) _ hp hb Try.underlying24 rfl (by kernel_rfl)) hd ⟨A, c, by rw [h3], hl, hC, hM, hB⟩
theorem get_nil {w W : World} {n0 : Nat} {a : Act} {er : Int} {body : List Int} (hbd : Aside0 ([] = body)) (hp : a.tmps.getD 2 undef = .pointer (some ⟨n0, 0, none⟩)) (h3 : a.tmps.getD 3 undef = .int .i64 er) (hd : a.defers = [])
    (hb : Blk W n0 #[.int .i64 0, .slice none 0 0] 24) (hB : Below w.heap.size w W) :
    bodyPost Try.prog Try.f11 (fun e w' => ∃ A c, e = .returned (.tuple #[.agg #[.int .i64 0, .slice A body.length c], .int .i64 er]) ∧ body.length ≤ c ∧ Kd.C (Kd.int .u8) w' A body.length body ∧ Mine w' w.heap.size A body ∧ Below w.heap.size w w') Exit.ret a W := by
  obtain ⟨rfl⟩ := hbd
  exact get_end (body := []) hp h3 hd hb (Nat.le_refl _) (Kd.C_nil _ _) (.inl rfl) hB
set_option maxHeartbeats 2000000 in
set_option maxRecDepth 100000 in
theorem frame_Get.calls (A0 : Option Addr) (c0 : Nat) (l0 : List Int) (k : Int) (body : List Int) (er : Int) (w : World) (hr0 : Kd.C (Kd.int .u8) w A0 l0.length l0) (hc0 : l0.length ≤ c0) (h : frame_Get.f l0 = some ((k, body), er)) :
    Calls Try.prog 11 #[.slice A0 l0.length c0] w fun e w' => ∃ A c, e = .returned (.tuple #[.agg #[.int .i64 k, .slice A body.length c], .int .i64 er]) ∧ body.length ≤ c ∧ Kd.C (Kd.int .u8) w' A body.length body ∧ Mine w' w.heap.size A body ∧ Below w.heap.size w w' := by
  unfold frame_Get.f at h
  by_cases ho : Oct l0 ∧ l0.length + 4 < 140737488355328
  case neg => rw [if_neg ho] at h; cases h
  rw [if_pos ho] at h
  have H := Option.some.inj h
  clear h
  have HO := Aside0.mk ho.1
  have hl := ho.2
  clear ho
  have HR := Aside0.mk hr0
  have HC := Aside0.mk hc0
  clear hr0 hc0
  have hz24 := zero_of (P := Try.prog) (t := 24) (z := .agg #[.int .i64 0, .slice none 0 0]) (by kernel_rfl)
  have hz4 := zero_of (P := Try.prog) (t := 43) (z := .agg fourZ) (by kernel_rfl)
  unfold getN at H
  by_cases h8 : (l0.length : Int) < 8
  · rw [if_pos (by omega)] at H
    simp only [Prod.mk.injEq] at H
    obtain ⟨⟨rfl, hbd⟩, rfl⟩ := H
    have hbd := Aside0.mk hbd
    have hd8 : decide ((l0.length : Int) < 8) = true := decide_eq_true h8
    go_enter Try.func11, Try.ntmps11
    go_wp2_with (
      refine wpList_store_row rfl 24 (.tmp 2) (.tmp 12) rfl w.heap.size #[.int .i64 0, .slice none 0 0] rfl (by rfl) 24 #[.int .i64 0, .slice none 0 0] (Blk.new _ _ _) (by kernel_rfl) (by kernel_rfl) (by kernel_rfl) ?_)
    exact get_nil hbd rfl rfl rfl (setRow_heap _ _ _ _ _ _ (Blk.new _ _ _)) (below_setRow ((Below.refl _ _).alloc (Nat.le_refl _) _) (Nat.le_refl _) _)
  rw [if_neg (by omega)] at H
  have hd8 : decide ((l0.length : Int) < 8) = false := decide_eq_false h8
  by_cases hbig : (2056 : Int) < (l0.length : Int)
  · rw [if_pos (by omega)] at H
    simp only [Prod.mk.injEq] at H
    obtain ⟨⟨rfl, hbd⟩, rfl⟩ := H
    have hbd := Aside0.mk hbd
    have hdb : decide ((2056 : Int) < (l0.length : Int)) = true := decide_eq_true hbig
    go_enter Try.func11, Try.ntmps11
    go_wp2_with (
      refine wpList_store_row rfl 24 (.tmp 2) (.tmp 17) rfl w.heap.size #[.int .i64 0, .slice none 0 0] rfl (by rfl) 24 #[.int .i64 0, .slice none 0 0] (Blk.new _ _ _) (by kernel_rfl) (by kernel_rfl) (by kernel_rfl) ?_)
    exact get_nil hbd rfl rfl rfl (setRow_heap _ _ _ _ _ _ (Blk.new _ _ _)) (below_setRow ((Below.refl _ _).alloc (Nat.le_refl _) _) (Nat.le_refl _) _)
  rw [if_neg (by omega)] at H
  have hdb : decide ((2056 : Int) < (l0.length : Int)) = false := decide_eq_false hbig
  obtain ⟨x, it, hit⟩ : ∃ x it, Aside0 (refopen l0 = (x, it)) := ⟨_, _, ⟨rfl⟩⟩
  have hop := Aside0.mk (show fcs_Open.f l0 = some (x, it) by rw [open_eq l0 HO.out hl, hit.out])
  rw [hit.out] at H
  dsimp only at H
  go_enter Try.func11, Try.ntmps11
  go_wp2_with fail
  have hB0 := (Below.refl w.heap.size w).alloc (Nat.le_refl _) (.cells #[.int .i64 0, .slice none 0 0] 24)
  refine (fcs_Open.calls A0 c0 l0 x it _ (Kd.C_below HR.out hB0) HC.out hop.out).mono ?_
  rintro e w1 ⟨v1, rfl, hR1, hb1⟩
  obtain ⟨A1, c1, e1⟩ := Kd.R_slice hR1
  subst e1
  have hBk := Aside0.mk ((Blk.new w #[.int .i64 0, .slice none 0 0] 24).below hb1)
  have HB1 := Aside0.mk (hB0.trans (hb1.mono hB0.size))
  have HR1 := Aside0.mk (Kd.R_lower hR1 (show w.heap.size + 1 ≤ _ by simp))
  have hn1 : w.heap.size < w1.heap.size := by have := hb1.size; simp at this; omega
  have Hn1 := Aside0.mk hn1
  clear hB0 hR1 hb1 hn1
  rcases it with _ | _
  · rw [if_pos rfl] at H
    simp only [Prod.mk.injEq] at H
    obtain ⟨⟨rfl, hbd⟩, rfl⟩ := H
    have hbd := Aside0.mk hbd
    go_wp2_with (
      refine wpList_store_row rfl 24 (.tmp 2) (.tmp 25) rfl w.heap.size #[.int .i64 0, .slice none 0 0] rfl (by rfl) 24 #[.int .i64 0, .slice none 0 0] hBk.out (by kernel_rfl) (by kernel_rfl) (by kernel_rfl) ?_)
    exact get_nil hbd rfl rfl rfl (setRow_heap _ _ _ _ _ _ hBk.out) (below_setRow HB1.out (Nat.le_refl _) _)
  rw [if_neg (by decide)] at H
  obtain ⟨hse1, hse2⟩ := refopen_true (l := l0) (by rw [hit.out])
  rw [hit.out] at hse2
  dsimp only at hse2
  have hxo := Aside0.mk (show Oct x by have := refopen_oct HO.out; rw [hit.out] at this; exact this)
  obtain ⟨x0, x1, x2, x3, rest, hxe⟩ : ∃ x0 x1 x2 x3 rest, Aside0 (x = x0 :: x1 :: x2 :: x3 :: rest) := by
    match x, hse2 with
    | x0 :: x1 :: x2 :: x3 :: rest, _ => exact ⟨x0, x1, x2, x3, rest, ⟨rfl⟩⟩
    | [], h => simp at h; omega
    | [_], h => simp at h; omega
    | [_, _], h => simp at h; omega
    | [_, _, _], h => simp at h; omega
  have Hxl := Aside0.mk hse2
  clear hse1 hse2
  obtain ⟨g, cap, hgA, hgb, hgl, cells, hcells⟩ := Kd.R_form HR1.out (by have := Hxl.out; omega)
  obtain ⟨rfl, rfl⟩ : A1 = some ⟨g, 0, none⟩ ∧ c1 = cap := by injection hgA with h1 h2 h3; exact ⟨h1, h3⟩
  clear hgA hcells
  have hc1 := Aside0.mk (Kd.R_reads' HR1.out)
  go_wp2_with fail
  with_reducible refine (starts_makes _).mono ?_
  rintro e w2 ⟨rfl, hb2⟩
  have hBk2 := Aside0.mk (hBk.out.below hb2)
  have HB2 := Aside0.mk (HB1.out.trans (hb2.mono (by have := Hn1.out; omega)))
  have HR2 := Aside0.mk (Kd.R_below HR1.out hb2)
  have Hn2 := Aside0.mk (show w.heap.size < w2.heap.size by have := hb2.size; have := Hn1.out; omega)
  clear hb2 HR1 hBk HB1
  go_wp2_with fail
  go_loopw [27] (fun v wr => ∃ j : Nat, v = .int .i64 (j : Int) ∧ Aside0 (j ≤ 5 ∧ ∀ i : Int, 1 ≤ i → i < (j : Int) → x.take 4 ≠ stL i) ∧ Aside0 (Below w2.heap.size w2 wr)) (fun v _ => (5 - intOf v).toNat)
  case atStart => exact ⟨0, rfl, ⟨by omega, fun i h1 h2 => by omega⟩, ⟨Below.refl _ _⟩⟩
  case round =>
    obtain ⟨j, rfl, hj, HB⟩ := hrel
    have hBkr := Aside0.mk (hBk2.out.below HB.out)
    have HBr := Aside0.mk (HB2.out.trans (HB.out.mono (by have := Hn2.out; omega)))
    have hnr := Aside0.mk (show w.heap.size < wr.heap.size by have := HB.out.size; have := Hn2.out; omega)
    by_cases h5 : (j : Int) < 5
    · have hd5 : decide ((j : Int) < 5) = true := decide_eq_true h5
      have hidx := start_at (k := (j : Int)) (by omega) (by omega)
      obtain ⟨y0, y1, y2, y3, hye⟩ : ∃ y0 y1 y2 y3, Aside0 (stL (j : Int) = [y0, y1, y2, y3]) := by
        have := stL_len (j : Int)
        match stL (j : Int), this with
        | [y0, y1, y2, y3], _ => exact ⟨y0, y1, y2, y3, ⟨rfl⟩⟩
      have hya : stA (j : Int) = #[.int .u8 y0, .int .u8 y1, .int .u8 y2, .int .u8 y3] := by unfold stA; rw [hye.out]; rfl
      rw [hya] at hidx
      have hbz := Aside0.mk (Blk.new wr fourZ 43)
      have hi4 := Aside0.mk (show (Try.prog.info? 43).map (·.size) = some 4 by kernel_rfl)
      go_wp2_with (
        refine wpList_store_row rfl 43 (.tmp 7) (.tmp 30) rfl wr.heap.size #[.int .u8 y0, .int .u8 y1, .int .u8 y2, .int .u8 y3] rfl rfl 43 fourZ hbz.out hi4.out rfl (by kernel_rfl) ?_)
      obtain ⟨wC, hwC⟩ : ∃ W, (wr.alloc (.cells fourZ 43)).setRow wr.heap.size #[.int .u8 y0, .int .u8 y1, .int .u8 y2, .int .u8 y3] = W := ⟨_, rfl⟩
      have hbC := Aside0.mk (show Below wr.heap.size wr wC from hwC ▸ below_setRow ((Below.refl _ _).alloc (Nat.le_refl _) _) (Nat.le_refl _) _)
      have hZC := Aside0.mk (show Blk wC wr.heap.size #[.int .u8 y0, .int .u8 y1, .int .u8 y2, .int .u8 y3] 43 from hwC ▸ setRow_heap _ _ _ _ _ _ hbz.out)
      simp only [hwC]
      clear hwC hbz
      have hCx := fun (W : World) (hb : Below wC.heap.size wC W) => cells4 hxe.out (Kd.R_reads' (Kd.R_below HR2.out (HB.out.trans ((hbC.out.trans (hb.mono hbC.out.size)).mono HB.out.size)))).2.2
      have hCz := fun (W : World) (hb : Below wC.heap.size wC W) => cells4 (rest := []) rfl (blk_C (xs := [y0, y1, y2, y3]) (hZC.out.below hb) (by simp))
      obtain ⟨S0, S1, S2, S3⟩ := hCx wC.drew (Below.refl _ _).drew
      obtain ⟨S4, S5, S6, S7⟩ := hCz wC.drew (Below.refl _ _).drew
      have hcut : ∀ W : World, (Instr.slice 22 (.slice (some ⟨g, 0, none⟩) x.length c1) none (some (.int .i64 4)) none).run Try.prog W = .ok (.slice (some ⟨g, 0, none⟩) 4 c1) W := by
        obtain ⟨i0, hi0, hz1, hsz0, hz2⟩ := info_parts info5
        exact cut_to (P := Try.prog) 22 5 .i64 Try.underlying22 hi0 (some ⟨g, 0, none⟩) x.length c1 4 (by omega) (by have := Hxl.out; omega) hc1.out.2.1
      have harr : ∀ W : World, (Instr.arrayAt 43 (.slice (some ⟨g, 0, none⟩) 4 c1)).run Try.prog W = .ok (.pointer (some ⟨g, 0, none⟩)) W := by intro W; kernel_rfl
      have heq : ∀ (d : Nat) (W : World), _ := fun d W => eq43 d W x0 x1 x2 x3 y0 y1 y2 y3
      obtain ⟨e, he⟩ : ∃ e, ((x0 == y0) && ((x1 == y1) && ((x2 == y2) && ((x3 == y3) && true)))) = e := ⟨_, rfl⟩
      have hee : e = decide (x.take 4 = stL (j : Int)) := by
        rw [← he, hye.out, hxe.out]
        simp only [List.take_succ_cons, List.take_zero, List.cons.injEq, and_true, Bool.decide_and, Bool.and_true]
        rfl
      simp only [he] at heq
      go_wp2_with fail
      clear hCx hCz he
      by_cases hj0 : (0 : Int) < (j : Int)
      · have hjd : decide ((0 : Int) < (j : Int)) = true := decide_eq_true hj0
        have hjd2 : decide ((j : Int) > 0) = true := hjd
        have Hj0 := Aside0.mk hj0
        have hjn : 0 < j := by omega
        have hjnd : decide (0 < j) = true := decide_eq_true hjn
        replace hjn := eq_true hjn
        replace hj0 := eq_true hj0
        -- GETT
        refine start_ (n := 10) (S := fun w' => w'.cell? ⟨g, 0, none⟩ = some (.int .u8 x0) ∧ w'.cell? ⟨g, 1, none⟩ = some (.int .u8 x1) ∧ w'.cell? ⟨g, 2, none⟩ = some (.int .u8 x2) ∧ w'.cell? ⟨g, 3, none⟩ = some (.int .u8 x3) ∧ w'.cell? ⟨wr.heap.size, 0, none⟩ = some (.int .u8 y0) ∧ w'.cell? ⟨wr.heap.size, 1, none⟩ = some (.int .u8 y1) ∧ w'.cell? ⟨wr.heap.size, 2, none⟩ = some (.int .u8 y2) ∧ w'.cell? ⟨wr.heap.size, 3, none⟩ = some (.int .u8 y3)) (ds := []) #[false, false, false, false, false, false, false, false, false, false] (by kernel_rfl) rfl rfl ⟨S0, S1, S2, S3, S4, S5, S6, S7⟩ (fun hHeld => ?_)
        refine pure_ (i := 0) (N := some 31) (v := ?_) (a' := ?_) #[true, false, false, false, false, false, false, false, false, false] rfl rfl (by kernel_rfl) (fun _ _ _ h => h) (Or.inl ⟨by rfl, ?_⟩) ?_ ?_
        rotate_left
        · intro w'
          go_simp
          with_reducible rfl
        rotate_left
        · simp only [Act.put, List.setIfInBounds_toArray, List.set_cons_zero, List.set_cons_succ, i64_w, i32_w]
          rfl
        refine pure_ (i := 1) (N := some 32) (v := ?_) (a' := ?_) #[true, true, false, false, false, false, false, false, false, false] rfl rfl (by kernel_rfl) (fun _ _ _ h => h) (Or.inl ⟨by rfl, ?_⟩) ?_ ?_
        rotate_left
        · intro w'
          go_simp
          with_reducible rfl
        rotate_left
        · simp only [Act.put, List.setIfInBounds_toArray, List.set_cons_zero, List.set_cons_succ, i64_w, i32_w]
          rfl
        refine pure_ (i := 2) (N := some 33) (v := ?_) (a' := ?_) #[true, true, true, false, false, false, false, false, false, false] rfl rfl (by kernel_rfl) (fun _ _ _ h => h) (Or.inl ⟨by rfl, ?_⟩) ?_ ?_
        rotate_left
        · intro w'
          go_simp
          with_reducible rfl
        rotate_left
        · simp only [Act.put, List.setIfInBounds_toArray, List.set_cons_zero, List.set_cons_succ, i64_w, i32_w]
          rfl
        refine pure_ (i := 3) (N := some 34) (v := ?_) (a' := ?_) #[true, true, true, true, false, false, false, false, false, false] rfl rfl (by kernel_rfl) (fun _ _ _ h => h) (Or.inl ⟨by rfl, ?_⟩) ?_ ?_
        rotate_left
        · intro w'
          go_simp
          with_reducible rfl
        rotate_left
        · simp only [Act.put, List.setIfInBounds_toArray, List.set_cons_zero, List.set_cons_succ, i64_w, i32_w]
          rfl
        refine pure_ (i := 4) (N := some 35) (v := ?_) (a' := ?_) #[true, true, true, true, true, false, false, false, false, false] rfl rfl (by kernel_rfl) (fun _ _ _ h => h) (Or.inl ⟨by rfl, ?_⟩) ?_ ?_
        rotate_left
        · intro w'
          go_simp
          with_reducible rfl
        rotate_left
        · simp only [Act.put, List.setIfInBounds_toArray, List.set_cons_zero, List.set_cons_succ, i64_w, i32_w]
          rfl
        refine pure_ (i := 5) (N := some 36) (v := ?_) (a' := ?_) #[true, true, true, true, true, true, false, false, false, false] rfl rfl (by kernel_rfl) (fun _ _ _ h => h) (Or.inl ⟨by rfl, ?_⟩) ?_ ?_
        rotate_left
        · intro w'
          go_simp
          with_reducible rfl
        rotate_left
        · simp only [Act.put, List.setIfInBounds_toArray, List.set_cons_zero, List.set_cons_succ, i64_w, i32_w]
          rfl
        refine take_ (i := 6) (N := some 37) (v := ?_) (a' := ?_) #[true, true, true, true, true, true, true, false, false, false] rfl rfl (by kernel_rfl) (fun _ _ _ h => h) (Or.inl ⟨by rfl, ?_⟩) hHeld ?_ ?_
        rotate_left
        · rintro w' ⟨s0, s1, s2, s3, s4, s5, s6, s7⟩
          go_simp
          with_reducible rfl
        rotate_left
        · simp only [Act.put, List.setIfInBounds_toArray, List.set_cons_zero, List.set_cons_succ, i64_w, i32_w]
          rfl
        refine take_ (i := 7) (N := some 38) (v := ?_) (a' := ?_) #[true, true, true, true, true, true, true, true, false, false] rfl rfl (by kernel_rfl) (fun _ _ _ h => h) (Or.inl ⟨by rfl, ?_⟩) hHeld ?_ ?_
        rotate_left
        · rintro w' ⟨s0, s1, s2, s3, s4, s5, s6, s7⟩
          go_simp
          with_reducible rfl
        rotate_left
        · simp only [Act.put, List.setIfInBounds_toArray, List.set_cons_zero, List.set_cons_succ, i64_w, i32_w]
          rfl
        refine pure_ (i := 8) (N := some 39) (v := ?_) (a' := ?_) #[true, true, true, true, true, true, true, true, true, false] rfl rfl (by kernel_rfl) (fun _ _ _ h => h) (Or.inl ⟨by rfl, ?_⟩) ?_ ?_
        rotate_left
        · intro w'
          go_simp
          with_reducible rfl
        rotate_left
        · simp only [Act.put, List.setIfInBounds_toArray, List.set_cons_zero, List.set_cons_succ, i64_w, i32_w]
          rfl
        refine pure_ (i := 9) (N := some 40) (v := ?_) (a' := ?_) #[true, true, true, true, true, true, true, true, true, true] rfl rfl (by kernel_rfl) (fun _ _ _ h => h) (Or.inl ⟨by rfl, ?_⟩) ?_ ?_
        rotate_left
        · intro w'
          go_simp
          with_reducible rfl
        rotate_left
        · simp only [Act.put, List.setIfInBounds_toArray, List.set_cons_zero, List.set_cons_succ, i64_w, i32_w]
          rfl
        refine done_ (by kernel_rfl) ?_
        -- END GETT
        by_cases hm : x.take 4 = stL (j : Int)
        · have hmd : decide (x.take 4 = stL (j : Int)) = true := decide_eq_true hm
          have hko := kindOf_eq (x := x) (j := (j : Int)) (by have := Hj0.out; omega) (by have := hj.out; omega) hm
          rw [hko, if_neg (by have := Hj0.out; omega)] at H
          simp only [Prod.mk.injEq] at H
          obtain ⟨⟨hk_, hb_⟩, he_⟩ := H
          have HK := Aside0.mk (And.intro hk_ (And.intro hb_ he_))
          clear hk_ hb_ he_ hko
          replace hm := eq_true hm
          obtain ⟨y, hy⟩ : ∃ y, Aside0 (x.drop 4 = y) := ⟨_, ⟨rfl⟩⟩
          have hyl := Aside0.mk (show y.length = x.length - 4 by rw [← hy.out, List.length_drop])
          obtain ⟨A4, hA4⟩ : ∃ A4, Aside0 ((if c1 = 4 then some (Addr.mk g 0 none) else (some (Addr.mk g 0 none)).map (·.add (4 * 1))) = A4) := ⟨_, ⟨rfl⟩⟩
          have hcutf : ∀ W : World, (Instr.slice 22 (.slice (some ⟨g, 0, none⟩) x.length c1) (some (.int .i64 4)) none none).run Try.prog W = .ok (.slice A4 y.length (c1 - 4)) W := by
            obtain ⟨i0, hi0, hz1, hsz0, hz2⟩ := info_parts info5
            intro W
            have := cut_from (P := Try.prog) 22 5 .i64 Try.underlying22 hi0 1 hsz0 (some ⟨g, 0, none⟩) x.length c1 4 (by omega) (by have := Hxl.out; omega) W
            rw [show ((4 : Int)).toNat = 4 from rfl, hA4.out, ← hyl.out] at this
            exact this
          have hRC := Aside0.mk (Kd.R_drew (Kd.R_below HR2.out (HB.out.trans (hbC.out.mono HB.out.size))))
          have hBlC := Aside0.mk (show Blk wC.drew w.heap.size #[.int .i64 0, .slice none 0 0] 24 from (hBkr.out.below hbC.out).drew)
          have hBelC := Aside0.mk ((HBr.out.trans (hbC.out.mono (by have := hnr.out; omega))).drew)
          have hMy := Aside0.mk (show Mine wC.drew (w.heap.size + 1) A4 y by have := mine_drop (m := 4) hRC.out; rw [hA4.out, hy.out] at this; exact this)
          have hi24 := Aside0.mk (show (Try.prog.info? 24).map (·.size) = some 2 by kernel_rfl)
          have hcl := Aside0.mk (show y.length ≤ c1 - 4 by have := hyl.out; have := hc1.out.2.1; omega)
          simp only [hmd]
          go_wp2_with (
            refine wpList_store_row rfl 24 (.tmp 2) (.tmp 44) rfl w.heap.size #[.int .i64 (j : Int), .slice A4 y.length (c1 - 4)] rfl (by rfl) 24 #[.int .i64 0, .slice none 0 0] hBlC.out hi24.out rfl (by kernel_rfl) ?_)
          obtain ⟨hk_, hb_, he_⟩ := HK.out
          rw [hy.out] at hb_
          subst hk_ hb_ he_
          have hMz := hMy.out.setRow (Nat.lt_succ_self _) #[.int .i64 (j : Int), .slice A4 y.length (c1 - 4)]
          exact get_end rfl rfl rfl (setRow_heap _ _ _ _ _ _ hBlC.out) hcl.out (mine_C hMz (by have := hyl.out; have := Hxl.out; omega)) (hMz.mono (Nat.le_succ _)) (below_setRow hBelC.out (Nat.le_refl _) _)
        · have hmd : decide (x.take 4 = stL (j : Int)) = false := decide_eq_false hm
          have Hm := Aside0.mk hm
          replace hm := eq_false hm
          simp only [hmd]
          go_wp2_with fail
          refine ⟨⟨j + 1, rfl, ⟨by have := hj.out; omega, fun i h1 h2 => ?_⟩, ⟨(HB.out.trans (hbC.out.mono HB.out.size)).drew⟩⟩, ?_⟩
          · by_cases hij : i = (j : Int)
            · rw [hij]; exact Hm.out
            · exact hj.out.2 i h1 (by omega)
          · simp only [intOf]; omega
      · have hjd : decide ((0 : Int) < (j : Int)) = false := decide_eq_false hj0
        have hjd2 : decide ((j : Int) > 0) = false := hjd
        have Hj0 := Aside0.mk hj0
        have hjn : ¬ 0 < j := by omega
        have hjnd : decide (0 < j) = false := decide_eq_false hjn
        replace hjn := eq_false hjn
        replace hj0 := eq_false hj0
        -- GETF
        refine start_ (n := 10) (S := fun w' => w'.cell? ⟨g, 0, none⟩ = some (.int .u8 x0) ∧ w'.cell? ⟨g, 1, none⟩ = some (.int .u8 x1) ∧ w'.cell? ⟨g, 2, none⟩ = some (.int .u8 x2) ∧ w'.cell? ⟨g, 3, none⟩ = some (.int .u8 x3) ∧ w'.cell? ⟨wr.heap.size, 0, none⟩ = some (.int .u8 y0) ∧ w'.cell? ⟨wr.heap.size, 1, none⟩ = some (.int .u8 y1) ∧ w'.cell? ⟨wr.heap.size, 2, none⟩ = some (.int .u8 y2) ∧ w'.cell? ⟨wr.heap.size, 3, none⟩ = some (.int .u8 y3)) (ds := []) #[false, false, false, false, false, false, false, false, false, false] (by kernel_rfl) rfl rfl ⟨S0, S1, S2, S3, S4, S5, S6, S7⟩ (fun hHeld => ?_)
        refine pure_ (i := 0) (N := some 31) (v := ?_) (a' := ?_) #[true, false, false, false, false, false, false, false, false, false] rfl rfl (by kernel_rfl) (fun _ _ _ h => h) (Or.inl ⟨by rfl, ?_⟩) ?_ ?_
        rotate_left
        · intro w'
          go_simp
          with_reducible rfl
        rotate_left
        · simp only [Act.put, List.setIfInBounds_toArray, List.set_cons_zero, List.set_cons_succ, i64_w, i32_w]
          rfl
        refine pure_ (i := 1) (N := some 32) (v := ?_) (a' := ?_) #[true, true, false, false, false, false, false, false, false, false] rfl rfl (by kernel_rfl) (fun _ _ _ h => h) (Or.inl ⟨by rfl, ?_⟩) ?_ ?_
        rotate_left
        · intro w'
          go_simp
          with_reducible rfl
        rotate_left
        · simp only [Act.put, List.setIfInBounds_toArray, List.set_cons_zero, List.set_cons_succ, i64_w, i32_w]
          rfl
        refine pure_ (i := 2) (N := some 33) (v := ?_) (a' := ?_) #[true, true, true, false, false, false, false, false, false, false] rfl rfl (by kernel_rfl) (fun _ _ _ h => h) (Or.inl ⟨by rfl, ?_⟩) ?_ ?_
        rotate_left
        · intro w'
          go_simp
          with_reducible rfl
        rotate_left
        · simp only [Act.put, List.setIfInBounds_toArray, List.set_cons_zero, List.set_cons_succ, i64_w, i32_w]
          rfl
        refine pure_ (i := 3) (N := some 34) (v := undef) (a' := ?_) #[true, true, true, true, false, false, false, false, false, false] rfl rfl (by kernel_rfl) (fun _ _ _ h => h) (Or.inr ⟨by rfl, rfl⟩) ?_ ?_
        rotate_left
        · simp only [Act.put, List.setIfInBounds_toArray, List.set_cons_zero, List.set_cons_succ, i64_w, i32_w]
          rfl
        refine pure_ (i := 4) (N := some 35) (v := undef) (a' := ?_) #[true, true, true, true, true, false, false, false, false, false] rfl rfl (by kernel_rfl) (fun _ _ _ h => h) (Or.inr ⟨by rfl, rfl⟩) ?_ ?_
        rotate_left
        · simp only [Act.put, List.setIfInBounds_toArray, List.set_cons_zero, List.set_cons_succ, i64_w, i32_w]
          rfl
        refine pure_ (i := 5) (N := some 36) (v := undef) (a' := ?_) #[true, true, true, true, true, true, false, false, false, false] rfl rfl (by kernel_rfl) (fun _ _ _ h => h) (Or.inr ⟨by rfl, rfl⟩) ?_ ?_
        rotate_left
        · simp only [Act.put, List.setIfInBounds_toArray, List.set_cons_zero, List.set_cons_succ, i64_w, i32_w]
          rfl
        refine pure_ (i := 6) (N := some 37) (v := undef) (a' := ?_) #[true, true, true, true, true, true, true, false, false, false] rfl rfl (by kernel_rfl) (fun _ _ _ h => h) (Or.inr ⟨by rfl, rfl⟩) ?_ ?_
        rotate_left
        · simp only [Act.put, List.setIfInBounds_toArray, List.set_cons_zero, List.set_cons_succ, i64_w, i32_w]
          rfl
        refine pure_ (i := 7) (N := some 38) (v := undef) (a' := ?_) #[true, true, true, true, true, true, true, true, false, false] rfl rfl (by kernel_rfl) (fun _ _ _ h => h) (Or.inr ⟨by rfl, rfl⟩) ?_ ?_
        rotate_left
        · simp only [Act.put, List.setIfInBounds_toArray, List.set_cons_zero, List.set_cons_succ, i64_w, i32_w]
          rfl
        refine pure_ (i := 8) (N := some 39) (v := undef) (a' := ?_) #[true, true, true, true, true, true, true, true, true, false] rfl rfl (by kernel_rfl) (fun _ _ _ h => h) (Or.inr ⟨by rfl, rfl⟩) ?_ ?_
        rotate_left
        · simp only [Act.put, List.setIfInBounds_toArray, List.set_cons_zero, List.set_cons_succ, i64_w, i32_w]
          rfl
        refine pure_ (i := 9) (N := some 40) (v := ?_) (a' := ?_) #[true, true, true, true, true, true, true, true, true, true] rfl rfl (by kernel_rfl) (fun _ _ _ h => h) (Or.inl ⟨by rfl, ?_⟩) ?_ ?_
        rotate_left
        · intro w'
          go_simp
          with_reducible rfl
        rotate_left
        · simp only [Act.put, List.setIfInBounds_toArray, List.set_cons_zero, List.set_cons_succ, i64_w, i32_w]
          rfl
        refine done_ (by kernel_rfl) ?_
        -- END GETF
        go_wp2_with fail
        refine ⟨⟨j + 1, rfl, ⟨by have := hj.out; omega, fun i h1 h2 => ?_⟩, ⟨(HB.out.trans (hbC.out.mono HB.out.size)).drew⟩⟩, ?_⟩
        · have := Hj0.out; omega
        · simp only [intOf]; omega
    · have hd5 : decide ((j : Int) < 5) = false := decide_eq_false h5
      have hko := kindOf_none (x := x) (fun i h1 h4 => hj.out.2 i h1 (by have := hj.out; omega))
      rw [hko, if_pos rfl] at H
      simp only [Prod.mk.injEq] at H
      obtain ⟨⟨hk_, hb_⟩, he_⟩ := H
      have HK := Aside0.mk (And.intro hk_ (And.intro hb_ he_))
      clear hk_ hb_ he_ hko
      go_wp2_with (
        refine wpList_store_row rfl 24 (.tmp 2) (.tmp 46) rfl w.heap.size #[.int .i64 0, .slice none 0 0] rfl (by rfl) 24 #[.int .i64 0, .slice none 0 0] hBkr.out (by kernel_rfl) (by kernel_rfl) (by kernel_rfl) ?_)
      obtain ⟨hk_, hb_, he_⟩ := HK.out
      subst hk_ he_
      exact get_nil ⟨hb_⟩ rfl rfl rfl (setRow_heap _ _ _ _ _ _ hBkr.out) (below_setRow HBr.out (Nat.le_refl _) _)
end Go.Proofs.Ytepfjmmbjbfboaa.F
