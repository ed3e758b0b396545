/- FragLess, walked. By this session. UNDER WAY. -/
import Derived.Test.YtfdjfejlfkabdaaFragRows
namespace Go.Proofs.Ytfdjfejlfkabdaa.Q
open Go.RowKit Go.Proofs.YtfdjfejlfkabdaaW.PrintWords Go.Proofs.YtfdjfejlfkabdaaW.PrintLast Go.Proofs.YtfdjfejlfkabdaaW.PrintMore
set_option linter.unusedVariables false
set_option linter.unusedSimpArgs false

/-! ### The plain law -/
section
variable {l : List Int} {sz : Nat}
theorem refuse_first {x : List S34} {p : S34} (h0 : x[0]? = some p) (hp : p.f0 = false) : (joinN x).2 = false := by
  rcases h : (joinN x).2 with _ | _
  · rfl
  · have := (joinN_at h 0 p h0).1; rw [hp] at this; cases this
theorem refuse_at {x : List S34} {p : S34} {j : Nat} (h0 : x[j]? = some p) (hp : p.f0 = true) (hj : j ≠ 0) : (joinN x).2 = false := by
  rcases h : (joinN x).2 with _ | _
  · rfl
  · have := (joinN_at h j p h0).1; rw [hp, beq_eq_false_iff_ne.mpr hj] at this; cases this
theorem refuse_end {x : List S34} {p : S34} {j : Nat} (h0 : x[j]? = some p) (hp : p.f1 = true) (hj : j + 1 ≠ x.length) : (joinN x).2 = false := by
  rcases h : (joinN x).2 with _ | _
  · rfl
  · have := (joinN_at h j p h0).2.1; rw [hp, beq_eq_false_iff_ne.mpr hj] at this; cases this
theorem refuse_last {x : List S34} {p : S34} {j : Nat} (h0 : x[j]? = some p) (hp : p.f1 = false) (hj : j + 1 = x.length) : (joinN x).2 = false := by
  rcases h : (joinN x).2 with _ | _
  · rfl
  · have := (joinN_at h j p h0).2.1; rw [hp, beq_iff_eq.mpr hj] at this; cases this
theorem less_first (h : 2 ≤ (pcs l sz).length) : (joinN ((pcs l sz).drop 1)).2 = false := by
  have hl := pcs_len l sz
  refine refuse_first (p := pc l sz ((l.length - 1) / sz + 1) 1) ?_ rfl
  rw [List.getElem?_drop]
  exact pcs_get (by omega)
theorem less_last (h : 2 ≤ (pcs l sz).length) : (joinN ((pcs l sz).take ((pcs l sz).length - 1))).2 = false := by
  have hl := pcs_len l sz
  refine refuse_last (p := pc l sz ((l.length - 1) / sz + 1) ((pcs l sz).length - 2)) (j := (pcs l sz).length - 2) ?_ ?_ (by rw [List.length_take]; omega)
  · rw [List.getElem?_take_of_lt (by omega)]
    exact pcs_get (by omega)
  · show ((pcs l sz).length - 2 + 1 == (l.length - 1) / sz + 1) = false
    exact beq_eq_false_iff_ne.mpr (by omega)
theorem less_twice (h : 2 ≤ (pcs l sz).length) (p : S34) (hp : (pcs l sz)[0]? = some p) : (joinN ([] ++ [p] ++ pcs l sz)).2 = false := by
  have hl := pcs_len l sz
  obtain ⟨_, e⟩ := pcs_at hp
  refine refuse_at (p := p) (j := 1) ?_ (by rw [e]; rfl) (by omega)
  simpa using hp
theorem less_again (h : 2 ≤ (pcs l sz).length) (p : S34) (hp : (pcs l sz)[(pcs l sz).length - 1]? = some p) : (joinN ([] ++ pcs l sz ++ [p])).2 = false := by
  have hl := pcs_len l sz
  obtain ⟨_, e⟩ := pcs_at hp
  refine refuse_end (p := p) (j := (pcs l sz).length - 1) ?_ ?_ ?_
  · rw [List.nil_append, List.getElem?_append_left (by omega)]; exact hp
  · rw [e]; show ((pcs l sz).length - 1 + 1 == (l.length - 1) / sz + 1) = true
    exact beq_iff_eq.mpr (by omega)
  · simp; omega
theorem less_turned (h : 2 ≤ (pcs l sz).length) : (joinN (pcs l sz).reverse).2 = false := by
  have hl := pcs_len l sz
  refine refuse_first (p := pc l sz ((l.length - 1) / sz + 1) ((pcs l sz).length - 1)) ?_ ?_
  · rw [List.getElem?_reverse (by omega)]
    exact pcs_get (by omega)
  · show ((pcs l sz).length - 1 == 0) = false
    exact beq_eq_false_iff_ne.mpr (by omega)
end

/-! ### The walk -/
theorem src_step {W W' : World} {b B : Nat} {v : Value} {xs : List S34} (h : Kd.N k34 34 W b (fun k => k < B) v xs) (hb : Below B W W') : Kd.N k34 34 W' b (fun k => k < B) v xs := Kd.N_step h (fun k hk _ => hb.block k hk)
theorem fk_step {W W' : World} {B : Nat} {p : S34} {c : List Value} (h : Kd.FK k34 W (fun k => k < B) p c) (hb : Below B W W') : Kd.FK k34 W' (fun k => k < B) p c := fun W2 h2 => h W2 (fun k hk hlt => (h2 k hk (Nat.lt_of_lt_of_le hlt hb.size)).trans (hb.block k hk))
theorem elder_none {W W' : World} {b : Nat} {v u : Value} {xs : List S34} (h : Kd.N k34 34 W b (fun _ => True) v xs) (hg : W.grownBy W' none) (hat : ∃ k, u.ownBlock = some k ∧ W.heap.size ≤ k) : Kd.N k34 34 W' b (fun k => True ∧ some k ≠ u.ownBlock) v xs := by
  obtain ⟨j, hj, hjs⟩ := hat
  refine Kd.N_mono (Kd.N_grown (Kd.N_bound h) hg (fun _ _ e => by cases e)) (fun k hk => ⟨trivial, fun e => ?_⟩)
  rw [hj] at e
  injection e with e
  have := hk.2
  omega
theorem lt_of_cell {W : World} {p : Addr} {v : Value} (h : W.cell? p = some v) : p.block < W.heap.size := by
  rcases Nat.lt_or_ge p.block W.heap.size with h' | h'
  · exact h'
  · simp [World.cell?, Array.getElem?_eq_none h'] at h
theorem cell_b {W W' : World} {p : Addr} {v : Value} (h : W.cell? p = some v) (hb : Below W.heap.size W W') : W'.cell? p = some v := (hb.cell (lt_of_cell h)).trans h
set_option maxHeartbeats 1000000 in
set_option maxRecDepth 100000 in
theorem less_walk (A0 : Option Addr) (c0 : Nat) (l0 : List Int) (a1 : Int) (b1 : (-9223372036854775808 : Int) ≤ a1 ∧ a1 ≤ 9223372036854775807) (w : World)
    (hc0 : l0.length ≤ c0) (hr0 : Kd.C (Kd.int .u8) w A0 l0.length l0) (hg0 : l0.length ≤ 2000000000000000) :
    Calls Try.prog 5 #[.slice A0 l0.length c0, .int .i64 a1] w fun e w' => e = .returned (.bool true) ∧ Below w.heap.size w w' := by
  obtain ⟨ps, hps, hcase⟩ : ∃ ps, Aside0 (frag_Split.f l0 a1 = some ps) ∧ Aside0 (ps.length < 2 ∨ ps = pcs l0 a1.toNat ∧ ps.length ≤ 2048) := by
    refine ⟨_, ⟨split_eq l0 a1⟩, ⟨?_⟩⟩
    by_cases h : 1 ≤ l0.length ∧ l0.length ≤ 2048 ∧ 1 ≤ a1 ∧ a1 ≤ 2048
    · rw [if_pos h]; exact .inr ⟨rfl, pcs_len_le h.2.1 h.1⟩
    · rw [if_neg h]; left; simp
  have hC0 := Aside0.mk hc0
  have hR0 := Aside0.mk hr0
  clear hc0 hr0
  go_enter Try.func5, Try.ntmps5
  go_wp2_with fail
  with_reducible refine (bowlinelaw11_head.calls true _ rfl).mono ?_
  rintro e w1 ⟨rfl, hb1⟩
  have B1 := Aside0.mk hb1
  have hR1 := Aside0.mk (Kd.C_below hR0.out hb1)
  clear hb1 hR0
  go_wp2_with fail
  with_reducible refine (frag_Split.calls A0 c0 l0 a1 ps w1 hR1.out hC0.out hps.out).mono ?_
  rintro e w2 ⟨v, rfl, hS, hb2⟩
  have B2 := Aside0.mk (B1.out.trans (hb2.mono B1.out.size))
  obtain ⟨A, c, rfl⟩ := Kd.S_slice hS
  have hN := Aside0.mk (Kd.N_mono (ok' := fun k => k < w2.heap.size) (Kd.S_N (Kd.S_bound hS)) (fun k hk => hk.2.2.1))
  have hC := Aside0.mk (Kd.S_reads' hS).2.2
  have hcc := Aside0.mk (Kd.S_reads' hS).2.1
  clear hS hb2 hR1
  by_cases h9 : (9000 : Int) < (l0.length : Int)
  · go_wp2_with fail
    go_ret
    exact ⟨rfl, B2.out⟩
  by_cases h2 : (ps.length : Int) < 2
  · go_wp2_with fail
    go_ret
    exact ⟨rfl, B2.out⟩
  obtain ⟨hpe, hle⟩ : Aside0 (ps = pcs l0 a1.toNat) ∧ Aside0 (2 ≤ ps.length ∧ ps.length ≤ 2048) := by
    rcases hcase.out with h | h
    · omega
    · exact ⟨⟨h.1⟩, ⟨by omega, h.2⟩⟩
  obtain ⟨x1, hx1⟩ : ∃ x1, Aside0 (x1 = ps.drop 1) := ⟨_, ⟨rfl⟩⟩
  obtain ⟨x2, hx2⟩ : ∃ x2, Aside0 (x2 = ps.take (ps.length - 1)) := ⟨_, ⟨rfl⟩⟩
  obtain ⟨A', hcf, hCf⟩ : ∃ A', (∀ W : World, (Instr.slice 23 (.slice A ps.length c) (some (.int .i64 1)) none none).run Try.prog W = .ok (.slice A' x1.length (c - 1)) W) ∧ ∀ W, Kd.C k34 W A ps.length ps → Kd.C k34 W A' x1.length x1 := by
    rw [hx1.out]
    obtain ⟨i0, hi0, hz1, hsz0, hz2⟩ := info_parts info34
    refine ⟨if c = 1 then A else A.map (·.add (1 * 3)), ?_, fun W h => Kd.C_drop h (by have := hle.out; omega) hcc.out⟩
    have := cut_from (P := Try.prog) 23 34 .i64 Try.underlying23 hi0 3 hsz0 A ps.length c 1 (by omega) (by have := hle.out; omega)
    rw [List.length_drop]
    exact this
  obtain ⟨i1, hi1⟩ : ∃ i1 : Int, Aside0 (i1 = (ps.length : Int) - 1) := ⟨_, ⟨rfl⟩⟩
  have hct : ∀ W : World, (Instr.slice 23 (.slice A ps.length c) none (some (.int .i64 i1)) none).run Try.prog W = .ok (.slice A x2.length c) W := by
    rw [hx2.out, hi1.out]
    obtain ⟨i0, hi0, hz1, hsz0, hz2⟩ := info_parts info34
    have := cut_to (P := Try.prog) 23 34 .i64 Try.underlying23 hi0 A ps.length c ((ps.length : Int) - 1) (by have := hle.out; omega) (by omega) hcc.out
    rw [show ((ps.length : Int) - 1).toNat = (ps.take (ps.length - 1)).length by rw [List.length_take]; have := hle.out; omega] at this
    exact this
  have hw1 : IntKind.i64.wrap ((ps.length : Int) - 1) = i1 := by rw [hi1.out]; exact IntWalk.i64_in _ (by have := hle.out; omega)
  have hL := hle.out
  rw [hpe.out] at hL
  have j1 := Aside0.mk (show frag_Join.f 5000 x1 = some ([], false) by rw [hx1.out, hpe.out, join_eq _ (by rw [List.length_drop]; omega) _ (by rw [List.length_drop]; omega), joinN_no (less_first hL.1)])
  have j2 := Aside0.mk (show frag_Join.f 5000 x2 = some ([], false) by rw [hx2.out, hpe.out, join_eq _ (by rw [List.length_take]; omega) _ (by rw [List.length_take]; omega), joinN_no (less_last hL.1)])
  clear hL
  go_wp2_with fail
  with_reducible refine (frag_Join.calls 5000 A' (c - 1) x1 [] false _ (by exact hCf _ hC.out) (by have := hcc.out; have := hle.out; rw [hx1.out, List.length_drop]; omega) j1.out).mono ?_
  rintro e w3 ⟨v3, rfl, hR3, hb3⟩
  obtain ⟨A3, c3, rfl⟩ := Kd.R_slice hR3
  have BB3 := Aside0.mk hb3
  clear hR3 hb3
  have HN3 := Aside0.mk (src_step hN.out BB3.out)
  go_wp2_with fail
  with_reducible refine (frag_Join.calls 5000 A c x2 [] false _ (by rw [hx2.out]; exact (Kd.N_reads' (Kd.N_take HN3.out (Nat.sub_le _ _))).2.2) (by have := hcc.out; have := hle.out; rw [hx2.out, List.length_take]; omega) j2.out).mono ?_
  rintro e w4 ⟨v4, rfl, hR4, hb4⟩
  obtain ⟨A4, c4, rfl⟩ := Kd.R_slice hR4
  have BB4 := Aside0.mk (BB3.out.trans (hb4.mono BB3.out.size))
  clear hR4 hb4 HN3 BB3
  have HN4 := Aside0.mk (src_step hN.out BB4.out)
  obtain ⟨p0, hp0⟩ : ∃ p, Aside0 (ps[0]? = some p) := ⟨_, ⟨List.getElem?_eq_getElem (by have := hle.out; omega)⟩⟩
  obtain ⟨g, cap, hgA, hgb, hgl, _⟩ := Kd.N_form HN4.out (by have := hle.out; omega)
  obtain ⟨rfl, rfl⟩ : A = some ⟨g, 0, none⟩ ∧ c = cap := by injection hgA with h1 h2 h3; exact ⟨h1, h3⟩
  clear hgA
  have hL := hle.out
  rw [hpe.out] at hL
  have j3 := Aside0.mk (show frag_Join.f 5000 ([] ++ [p0] ++ ps) = some ([], false) by
    have h := hp0.out
    rw [hpe.out] at h ⊢
    rw [join_eq _ (by simp; omega) _ (by simp; omega), joinN_no (less_twice hL.1 p0 h)])
  clear hL
  obtain ⟨B0, hB0⟩ : ∃ B0, w2.heap.size = B0 := ⟨_, rfl⟩
  rw [hB0] at HN4 BB4
  have hBs : B0 ≤ w4.heap.size := by rw [← hB0]; exact BB4.out.size
  obtain ⟨x3, hx3⟩ : ∃ x, Aside0 (x = ([] : List S34) ++ [p0]) := ⟨_, ⟨rfl⟩⟩
  obtain ⟨x4, hx4⟩ : ∃ x, Aside0 (x = x3 ++ ps) := ⟨_, ⟨rfl⟩⟩
  have hl3 : x3.length = 1 := by rw [hx3.out]; rfl
  have Hl3 := Aside0.mk hl3
  clear hl3
  have hip : (0 : Int) < (ps.length : Int) := by have := hle.out; omega
  go_wp2_with (first
    | ((with_reducible refine gate_dst (N := 48) rfl ?_); refine Kd.N_lit k34 (w0 := w4) w4.heap.size 34 ?hg (N' := 48) ?hd (xs := ([] : List S34)) (inner := []) (ok := fun _ => True) (okp := fun _ => True) ?hr ?hp (fun _ hk => hk) trivial (Below.refl _ _) (Nat.le_refl _) (by simp) ?_; (case hd => rfl); (case hg => rfl); (case hr => first | (go_simp; done) | (go_simp; rfl)); (case hp => exact Reps.none _ _); intro v5 w5 hN5 hb5 hg_ hnew_; clear hg_ hnew_
       have HN5 := Aside0.mk hN5; have HB5 := Aside0.mk hb5; have HS5 := Aside0.mk (src_step HN4.out (hb5.mono hBs))
       obtain ⟨cs0, hcl0, hFK0, hcc0, _⟩ := Kd.N_elem HS5.out z34 0 (by omega) hip
       obtain ⟨Ap, cp, hcse, hlp, hFp⟩ := k34_openF hFK0
       subst hcse
       have hFK := Aside0.mk hFK0
       have hq0 : w5.cell? ⟨g, 0, none⟩ = _ := hcc0 0 _ rfl
       have hq1 : w5.cell? ⟨g, 1, none⟩ = _ := hcc0 1 _ rfl
       have hq2 : w5.cell? ⟨g, 2, none⟩ = _ := hcc0 2 _ rfl
       have hrd : (ps.getD (0 : Int).toNat z34) = p0 := by have := hp0.out; simp [List.getD_eq_getElem?_getD] at this ⊢; rw [this]; rfl
       rw [hrd] at hq0 hq1 hq2 hFK
       clear hN5 hb5 hcc0 hFK0 hlp hFp hcl0)
    | ((with_reducible refine gate_builtin (b := .append) (xs := #[.tmp 48, .tmp 52]) rfl ?_); at_builtin; refine Kd.N_append k34 (w0 := w4) w4.heap.size rfl (.tmp 48) (.tmp 52) 23 34 (.agg #[(.bool false), (.bool false), (.slice none 0 0)]) 32 rfl Try.underlying23 info34 rfl (by decide) (by omega) v5 [] p0 [.bool p0.f0, .bool p0.f1, .slice Ap p0.f2.length cp] (fun _ => True) (fun k => k < B0) rfl rfl ?aP ?aK (fun _ _ => trivial) HN5.out HB5.out HB5.out.size (by simp) ?_
       (case aP => exact Kd.FK_mono hFK.out (fun _ hk => hk.1)); (case aK => exact fun k hk => ⟨trivial, fun e => by have := Kd.N_base HN5.out k e.symm; omega⟩)
       intro v6 w6 hN6 hb6 hg6 hat6
       rw [← hx3.out] at hN6
       have HN6 := Aside0.mk hN6; have HB6 := Aside0.mk hb6; have HS6 := Aside0.mk (src_step HN4.out (hb6.mono hBs))
       obtain ⟨A6, c6, e6⟩ := Kd.N_slice hN6
       subst e6
       clear hN6 hb6 hg6 hat6 HS5 hq0 hq1 hq2)
    | ((with_reducible refine gate_builtin (b := .append) (xs := #[.tmp 53, .tmp 54]) rfl ?_); at_builtin; refine Kd.N_append_rows k34 (w0 := w4) w4.heap.size rfl (.tmp 53) (.tmp 54) 23 34 (.agg #[(.bool false), (.bool false), (.slice none 0 0)]) 32 rfl Try.underlying23 info34 rfl (by decide) (by omega) (.slice A6 x3.length c6) x3 ps _ _ _ (fun _ => True) (fun k => k < B0) rfl rfl HN6.out (Kd.N_F HS6.out) ?aK (fun _ _ => trivial) HB6.out HB6.out.size ?aL ?_
       (case aK => exact fun k hk => ⟨trivial, fun e => by have := Kd.N_base HN6.out k e.symm; omega⟩); (case aL => have := Hl3.out; have := hle.out; omega)
       intro v7 w7 hN7 hb7 hg7 hat7
       rw [← hx4.out] at hN7
       have HN7 := Aside0.mk hN7; have HB7 := Aside0.mk hb7
       obtain ⟨A7, c7, e7⟩ := Kd.N_slice hN7
       subst e7
       clear hN7 hb7 hg7 hat7 HS6))
  with_reducible refine (frag_Join.calls 5000 A7 c7 x4 [] false _ (Kd.N_reads' HN7.out).2.2 (Kd.N_reads' HN7.out).2.1 (by rw [hx4.out, hx3.out]; exact j3.out)).mono ?_
  rintro e w8 ⟨v8, rfl, hR8, hb8⟩
  obtain ⟨A8, c8, e8⟩ := Kd.R_slice hR8
  subst e8
  have HB8 := Aside0.mk (BB4.out.trans ((HB7.out.mono hBs).trans (hb8.mono (Nat.le_trans hBs HB7.out.size))))
  have HB8w := Aside0.mk (BB4.out.size)
  have hB8 : B0 ≤ w8.heap.size := by rw [← hB0]; have := HB8.out.size; omega
  have HS8 := Aside0.mk (src_step HN4.out ((HB7.out.mono hBs).trans (hb8.mono (Nat.le_trans hBs HB7.out.size))))
  clear hR8 hb8 HN7 HB7 HN6 HB6 HN5 HB5 hFK
  obtain ⟨p1, hp1⟩ : ∃ p, Aside0 (ps[ps.length - 1]? = some p) := ⟨_, ⟨List.getElem?_eq_getElem (by have := hle.out; omega)⟩⟩
  obtain ⟨x5, hx5⟩ : ∃ x, Aside0 (x = [] ++ ps ++ [p1]) := ⟨_, ⟨rfl⟩⟩
  have hL := hle.out
  rw [hpe.out] at hL
  have j4 := Aside0.mk (show frag_Join.f 5000 x5 = some ([], false) by
    have h := hp1.out
    rw [hx5.out]
    rw [hpe.out] at h ⊢
    rw [join_eq _ (by simp; omega) _ (by simp; omega), joinN_no (less_again hL.1 p1 h)])
  clear hL
  have hi2 : (0 : Int) ≤ i1 := by rw [hi1.out]; have := hle.out; omega
  have hi3 : i1 < (ps.length : Int) := by rw [hi1.out]; omega
  generalize Addr.mk g 0 none = ad at *
  obtain ⟨cs1, hcl1, hFK1, hcc1⟩ := Kd.N_get HS8.out z34 i1 hi2 hi3
  have hrd1 : (ps.getD i1.toNat z34) = p1 := by
    have := hp1.out
    have e : i1.toNat = ps.length - 1 := by rw [hi1.out]; omega
    rw [List.getD_eq_getElem?_getD, e, this]; rfl
  rw [hrd1] at hFK1
  obtain ⟨Ap, cp, hcse1, hlp1, hFp1⟩ := k34_openF hFK1
  subst hcse1
  have sq0 : w8.drew.cell? (ad.add (i1.toNat * 3)) = some (.bool p1.f0) := hcc1 0 _ rfl
  have sq1 : w8.drew.cell? ⟨(ad.add (i1.toNat * 3)).block, (ad.add (i1.toNat * 3)).off + 1, none⟩ = some (.bool p1.f1) := by rw [← add_field _ _ _ (by omega)]; exact hcc1 1 _ rfl
  have sq2 : w8.drew.cell? ⟨(ad.add (i1.toNat * 3)).block, (ad.add (i1.toNat * 3)).off + 2, none⟩ = some (.slice Ap p1.f2.length cp) := by rw [← add_field _ _ _ (by omega)]; exact hcc1 2 _ rfl
  have sr0 : w8.cell? _ = _ := sq0
  have sr1 : w8.cell? _ = _ := sq1
  have sr2 : w8.cell? _ = _ := sq2
  replace hFK1 : Kd.FK k34 w8 (fun k => k < B0) p1 [.bool p1.f0, .bool p1.f1, .slice Ap p1.f2.length cp] := Kd.FK_mono hFK1 (fun _ hk => hk.1)
  have hbd : Below w8.heap.size w8 w8.drew := (Below.refl _ _).drew
  clear hcl1 hcc1 hlp1 hFp1
  replace hi2 := eq_true hi2
  replace hi3 := eq_true hi3
  go_upto_region 8 with fail
  -- REGION8
  refine start_ (n := 17) (S := fun w' => w'.cell? (ad.add (i1.toNat * 3)) = some (.bool p1.f0) ∧ w'.cell? ⟨(ad.add (i1.toNat * 3)).block, (ad.add (i1.toNat * 3)).off + 1, none⟩ = some (.bool p1.f1) ∧ w'.cell? ⟨(ad.add (i1.toNat * 3)).block, (ad.add (i1.toNat * 3)).off + 2, none⟩ = some (.slice Ap p1.f2.length cp)) (ds := []) #[false, false, false, false, false, false, false, false, false, false, false, false, false, false, false, false, false] (by kernel_rfl) rfl rfl ⟨sq0, sq1, sq2⟩ (fun hHeld => ?_)
  refine pure_ (i := 1) (N := some 61) (v := ?_) (a' := ?_) #[false, true, false, false, false, false, false, false, false, false, false, false, false, false, false, false, false] rfl rfl (by kernel_rfl) (fun _ _ _ h => h) (Or.inl ⟨by rfl, ?_⟩) ?_ ?_
  rotate_left
  · intro w'
    go_simp
    with_reducible rfl
  rotate_left
  · simp only [Act.put, List.setIfInBounds_toArray, List.set_cons_zero, List.set_cons_succ, i64_w, i32_w]
    rfl
  refine pure_ (i := 3) (N := some 63) (v := ?_) (a' := ?_) #[false, true, false, true, false, false, false, false, false, false, false, false, false, false, false, false, false] rfl rfl (by kernel_rfl) (fun _ _ _ h => h) (Or.inl ⟨by rfl, ?_⟩) ?_ ?_
  rotate_left
  · intro w'
    go_simp
    with_reducible rfl
  rotate_left
  · simp only [Act.put, List.setIfInBounds_toArray, List.set_cons_zero, List.set_cons_succ, i64_w, i32_w]
    rfl
  refine pure_ (i := 4) (N := some 64) (v := ?_) (a' := ?_) #[false, true, false, true, true, false, false, false, false, false, false, false, false, false, false, false, false] rfl rfl (by kernel_rfl) (fun _ _ _ h => h) (Or.inl ⟨by rfl, ?_⟩) ?_ ?_
  rotate_left
  · intro w'
    go_simp
    with_reducible rfl
  rotate_left
  · simp only [Act.put, List.setIfInBounds_toArray, List.set_cons_zero, List.set_cons_succ, i64_w, i32_w]
    rfl
  refine pure_ (i := 5) (N := some 65) (v := ?_) (a' := ?_) #[false, true, false, true, true, true, false, false, false, false, false, false, false, false, false, false, false] rfl rfl (by kernel_rfl) (fun _ _ _ h => h) (Or.inl ⟨by rfl, ?_⟩) ?_ ?_
  rotate_left
  · intro w'
    go_simp
    with_reducible rfl
  rotate_left
  · simp only [Act.put, List.setIfInBounds_toArray, List.set_cons_zero, List.set_cons_succ, i64_w, i32_w]
    rfl
  refine pure_ (i := 6) (N := some 66) (v := ?_) (a' := ?_) #[false, true, false, true, true, true, true, false, false, false, false, false, false, false, false, false, false] rfl rfl (by kernel_rfl) (fun _ _ _ h => h) (Or.inl ⟨by rfl, ?_⟩) ?_ ?_
  rotate_left
  · intro w'
    go_simp
    with_reducible rfl
  rotate_left
  · simp only [Act.put, List.setIfInBounds_toArray, List.set_cons_zero, List.set_cons_succ, i64_w, i32_w]
    rfl
  refine pure_ (i := 7) (N := some 67) (v := ?_) (a' := ?_) #[false, true, false, true, true, true, true, true, false, false, false, false, false, false, false, false, false] rfl rfl (by kernel_rfl) (fun _ _ _ h => h) (Or.inl ⟨by rfl, ?_⟩) ?_ ?_
  rotate_left
  · intro w'
    go_simp
    with_reducible rfl
  rotate_left
  · simp only [Act.put, List.setIfInBounds_toArray, List.set_cons_zero, List.set_cons_succ, i64_w, i32_w]
    rfl
  refine take_ (i := 8) (N := some 68) (v := ?_) (a' := ?_) #[false, true, false, true, true, true, true, true, true, false, false, false, false, false, false, false, false] rfl rfl (by kernel_rfl) (fun _ _ _ h => h) (Or.inl ⟨by rfl, ?_⟩) hHeld ?_ ?_
  rotate_left
  · rintro w' ⟨s0, s1, s2⟩
    go_simp
    with_reducible rfl
  rotate_left
  · simp only [Act.put, List.setIfInBounds_toArray, List.set_cons_zero, List.set_cons_succ, i64_w, i32_w]
    rfl
  refine join_ (σ := Value × Value × Value) 7 #[true, true, true, true, true, true, true, true, true, true, false, false, false, false, false, false, false] (fun s => [(60, s.1), (62, s.2.1), (69, s.2.2)]) (fun s w' => Kd.N k34 34 w' w8.heap.size (fun _ => True) s.2.1 ([] ++ ps) ∧ Kd.N k34 34 w' w8.heap.size (fun k => some k ≠ s.2.1.ownBlock) s.2.2 [p1] ∧ Below w8.heap.size w8 w') ?_ ?_
  rotate_left
  · intro hCont
    refine two_ (i := 0) (j := 9) (Ni := some 60) (Nj := some 69) #[true, true, false, true, true, true, true, true, true, false, false, false, false, false, false, false, false] #[false, true, false, true, true, true, true, true, true, true, false, false, false, false, false, false, false] rfl rfl rfl rfl (by kernel_rfl) (by decide) (by decide) (fun K hK => ?_) (fun K hK => ?_)
    · skip
      refine Kd.N_lit_step k34 (w0 := w8) w8.heap.size 34 (by rfl) (N' := 60) rfl (xs := ([] : List S34)) (inner := []) (ok := fun _ => True) (okp := fun _ => True) (by first | (go_simp; done) | (go_simp; rfl)) (Reps.none _ _) (fun _ hk => hk) trivial hbd hbd.size (by simp) ?_
      intro v60 wa hNa hba hga hata
      refine hK.out _ _ ⟨(cell_b sr0 hba), (cell_b sr1 hba), (cell_b sr2 hba)⟩ (fun hHeld => ?_)
      clear hK K
      refine norm_ (a' := ?_) ?_ ?_
      rotate_left
      · show Act.put _ (some 60) _ = _
        simp only [Act.put, List.setIfInBounds_toArray, List.set_cons_zero, List.set_cons_succ, i64_w, i32_w]
        rfl
      refine two_ (i := 2) (j := 9) (Ni := some 62) (Nj := some 69) #[true, true, true, true, true, true, true, true, true, false, false, false, false, false, false, false, false] #[true, true, false, true, true, true, true, true, true, true, false, false, false, false, false, false, false] rfl rfl rfl rfl (by kernel_rfl) (by decide) (by decide) (fun K hK => ?_) (fun K hK => ?_)
      · skip
        refine Kd.N_append_rows_step k34 (w0 := w8) w8.heap.size (by rfl) (.tmp 60) (.tmp 61) 23 34 (.agg #[(.bool false), (.bool false), (.slice none 0 0)]) 32 rfl Try.underlying23 info34 rfl (by decide) (by omega) v60 [] ps _ _ _ (fun _ => True) (fun k => k < B0) rfl rfl hNa (Kd.N_F (src_step HS8.out (hba.mono hB8))) (fun k hk => ⟨trivial, fun e => by have := Kd.N_base hNa k e.symm; have hk' : k < B0 := hk; omega⟩) (fun _ _ => trivial) hba hba.size (by have := hle.out; simp; omega) ?_
        intro v62 wb hNb hbb hgb hatb
        refine hK.out _ _ ⟨(cell_b sr0 hbb), (cell_b sr1 hbb), (cell_b sr2 hbb)⟩ (fun hHeld => ?_)
        clear hK K
        refine norm_ (a' := ?_) ?_ ?_
        rotate_left
        · show Act.put _ (some 62) _ = _
          simp only [Act.put, List.setIfInBounds_toArray, List.set_cons_zero, List.set_cons_succ, i64_w, i32_w]
          rfl
        refine one_ (i := 9) (N := some 69) #[true, true, true, true, true, true, true, true, true, true, false, false, false, false, false, false, false] rfl rfl (by kernel_rfl) (by decide) (fun K hK => ?_)
        refine Kd.N_lit_step k34 (w0 := w8) w8.heap.size 34 (by rfl) (N' := 69) rfl (xs := [p1]) (inner := [.bool p1.f0, .bool p1.f1, .slice Ap p1.f2.length cp]) (ok := fun k => some k ≠ v62.ownBlock) (okp := fun k => k < B0) (by first | (go_simp; done) | (go_simp; rfl)) (Reps.c3 (show Kd.FK k34 _ _ p1 [.bool p1.f0, .bool p1.f1, .slice Ap p1.f2.length cp] from fk_step hFK1 (hbb.mono hB8)) (Reps.none _ _)) ?ok ?fr hbb hbb.size (by simp) ?_
        case ok => exact fun k hk e => by have := Kd.N_base hNb k e.symm; have hk' : k < B0 := hk; omega
        case fr => exact fun e => by have := Kd.N_lt hNb _ e.symm; omega
        intro v69 wc hNc hbc hgc hatc
        refine hK.out _ _ ⟨(cell_b sr0 hbc), (cell_b sr1 hbc), (cell_b sr2 hbc)⟩ (fun hHeld => ?_)
        clear hK K
        refine norm_ (a' := ?_) ?_ ?_
        rotate_left
        · show Act.put _ (some 69) _ = _
          simp only [Act.put, List.setIfInBounds_toArray, List.set_cons_zero, List.set_cons_succ, i64_w, i32_w]
          rfl
        exact norm_ (by simp only [putAll, Act.put, List.setIfInBounds_toArray, List.set_cons_zero, List.set_cons_succ]) (hCont (v60, v62, v69) _ ⟨Kd.N_grown hNb hgc (fun _ _ e => by cases e), hNc, hbc⟩)
      · skip
        refine Kd.N_lit_step k34 (w0 := w8) w8.heap.size 34 (by rfl) (N' := 69) rfl (xs := [p1]) (inner := [.bool p1.f0, .bool p1.f1, .slice Ap p1.f2.length cp]) (ok := fun k => some k ≠ v60.ownBlock) (okp := fun k => k < B0) (by first | (go_simp; done) | (go_simp; rfl)) (Reps.c3 (show Kd.FK k34 _ _ p1 [.bool p1.f0, .bool p1.f1, .slice Ap p1.f2.length cp] from fk_step hFK1 (hba.mono hB8)) (Reps.none _ _)) ?ok ?fr hba hba.size (by simp) ?_
        case ok => exact fun k hk e => by have := Kd.N_base hNa k e.symm; have hk' : k < B0 := hk; omega
        case fr => exact fun e => by have := Kd.N_lt hNa _ e.symm; omega
        intro v69 wb hNb hbb hgb hatb
        refine hK.out _ _ ⟨(cell_b sr0 hbb), (cell_b sr1 hbb), (cell_b sr2 hbb)⟩ (fun hHeld => ?_)
        clear hK K
        refine norm_ (a' := ?_) ?_ ?_
        rotate_left
        · show Act.put _ (some 69) _ = _
          simp only [Act.put, List.setIfInBounds_toArray, List.set_cons_zero, List.set_cons_succ, i64_w, i32_w]
          rfl
        refine one_ (i := 2) (N := some 62) #[true, true, true, true, true, true, true, true, true, true, false, false, false, false, false, false, false] rfl rfl (by kernel_rfl) (by decide) (fun K hK => ?_)
        refine Kd.N_append_rows_step k34 (w0 := w8) w8.heap.size (by rfl) (.tmp 60) (.tmp 61) 23 34 (.agg #[(.bool false), (.bool false), (.slice none 0 0)]) 32 rfl Try.underlying23 info34 rfl (by decide) (by omega) v60 [] ps _ _ _ (fun _ => True) (fun k => k < B0) rfl rfl (Kd.N_grown hNa hgb (fun _ _ e => by cases e)) (Kd.N_F (src_step HS8.out (hbb.mono hB8))) (fun k hk => ⟨trivial, fun e => by have := Kd.N_base (Kd.N_grown hNa hgb (fun _ _ e => by cases e)) k e.symm; have hk' : k < B0 := hk; omega⟩) (fun _ _ => trivial) hbb hbb.size (by have := hle.out; simp; omega) ?_
        intro v62 wc hNc hbc hgc hatc
        refine hK.out _ _ ⟨(cell_b sr0 hbc), (cell_b sr1 hbc), (cell_b sr2 hbc)⟩ (fun hHeld => ?_)
        clear hK K
        refine norm_ (a' := ?_) ?_ ?_
        rotate_left
        · show Act.put _ (some 62) _ = _
          simp only [Act.put, List.setIfInBounds_toArray, List.set_cons_zero, List.set_cons_succ, i64_w, i32_w]
          rfl
        exact norm_ (by simp only [putAll, Act.put, List.setIfInBounds_toArray, List.set_cons_zero, List.set_cons_succ]) (hCont (v60, v62, v69) _ ⟨hNc, Kd.N_mono (Kd.N_after (ok := fun _ => True) (Kd.N_mono hNb (fun _ hk => ⟨trivial, hk⟩)) hgc hatc) (fun _ hk => hk.2), hbc⟩)
    · skip
      refine Kd.N_lit_step k34 (w0 := w8) w8.heap.size 34 (by rfl) (N' := 69) rfl (xs := [p1]) (inner := [.bool p1.f0, .bool p1.f1, .slice Ap p1.f2.length cp]) (ok := fun _ => True) (okp := fun k => k < B0) (by first | (go_simp; done) | (go_simp; rfl)) (Reps.c3 (show Kd.FK k34 _ _ p1 [.bool p1.f0, .bool p1.f1, .slice Ap p1.f2.length cp] from fk_step hFK1 (hbd.mono hB8)) (Reps.none _ _)) ?ok ?fr hbd hbd.size (by simp) ?_
      case ok => exact fun _ _ => trivial
      case fr => exact trivial
      intro v69 wa hNa hba hga hata
      refine hK.out _ _ ⟨(cell_b sr0 hba), (cell_b sr1 hba), (cell_b sr2 hba)⟩ (fun hHeld => ?_)
      clear hK K
      refine norm_ (a' := ?_) ?_ ?_
      rotate_left
      · show Act.put _ (some 69) _ = _
        simp only [Act.put, List.setIfInBounds_toArray, List.set_cons_zero, List.set_cons_succ, i64_w, i32_w]
        rfl
      refine one_ (i := 0) (N := some 60) #[true, true, false, true, true, true, true, true, true, true, false, false, false, false, false, false, false] rfl rfl (by kernel_rfl) (by decide) (fun K hK => ?_)
      refine Kd.N_lit_step k34 (w0 := w8) w8.heap.size 34 (by rfl) (N' := 60) rfl (xs := ([] : List S34)) (inner := []) (ok := fun _ => True) (okp := fun _ => True) (by first | (go_simp; done) | (go_simp; rfl)) (Reps.none _ _) (fun _ hk => hk) trivial hba hba.size (by simp) ?_
      intro v60 wb hNb hbb hgb hatb
      refine hK.out _ _ ⟨(cell_b sr0 hbb), (cell_b sr1 hbb), (cell_b sr2 hbb)⟩ (fun hHeld => ?_)
      clear hK K
      refine norm_ (a' := ?_) ?_ ?_
      rotate_left
      · show Act.put _ (some 60) _ = _
        simp only [Act.put, List.setIfInBounds_toArray, List.set_cons_zero, List.set_cons_succ, i64_w, i32_w]
        rfl
      refine one_ (i := 2) (N := some 62) #[true, true, true, true, true, true, true, true, true, true, false, false, false, false, false, false, false] rfl rfl (by kernel_rfl) (by decide) (fun K hK => ?_)
      refine Kd.N_append_rows_step k34 (w0 := w8) w8.heap.size (by rfl) (.tmp 60) (.tmp 61) 23 34 (.agg #[(.bool false), (.bool false), (.slice none 0 0)]) 32 rfl Try.underlying23 info34 rfl (by decide) (by omega) v60 [] ps _ _ _ (fun _ => True) (fun k => k < B0) rfl rfl hNb (Kd.N_F (src_step HS8.out (hbb.mono hB8))) (fun k hk => ⟨trivial, fun e => by have := Kd.N_base hNb k e.symm; have hk' : k < B0 := hk; omega⟩) (fun _ _ => trivial) hbb hbb.size (by have := hle.out; simp; omega) ?_
      intro v62 wc hNc hbc hgc hatc
      refine hK.out _ _ ⟨(cell_b sr0 hbc), (cell_b sr1 hbc), (cell_b sr2 hbc)⟩ (fun hHeld => ?_)
      clear hK K
      refine norm_ (a' := ?_) ?_ ?_
      rotate_left
      · show Act.put _ (some 62) _ = _
        simp only [Act.put, List.setIfInBounds_toArray, List.set_cons_zero, List.set_cons_succ, i64_w, i32_w]
        rfl
      exact norm_ (by simp only [putAll, Act.put, List.setIfInBounds_toArray, List.set_cons_zero, List.set_cons_succ]) (hCont (v60, v62, v69) _ ⟨hNc, Kd.N_mono (Kd.N_after (ok := fun _ => True) (elder_none hNa hgb hatb) hgc hatc) (fun _ hk => hk.2), hbc⟩)
  rintro ⟨v60, v62, v69⟩ wd ⟨hNd, hLd, hbe⟩
  dsimp only at hNd hLd
  have hHeld : wd.cell? (ad.add (i1.toNat * 3)) = some (.bool p1.f0) ∧ wd.cell? ⟨(ad.add (i1.toNat * 3)).block, (ad.add (i1.toNat * 3)).off + 1, none⟩ = some (.bool p1.f1) ∧ wd.cell? ⟨(ad.add (i1.toNat * 3)).block, (ad.add (i1.toNat * 3)).off + 2, none⟩ = some (.slice Ap p1.f2.length cp) := ⟨(cell_b sr0 hbe), (cell_b sr1 hbe), (cell_b sr2 hbe)⟩
  obtain ⟨A69, c69, e69⟩ := Kd.N_slice hLd
  subst e69
  refine norm_ (a' := ?_) ?_ ?_
  rotate_left
  · simp only [putAll, Act.put, List.setIfInBounds_toArray, List.set_cons_zero, List.set_cons_succ]
    rfl
  refine one_ (i := 10) (N := some 70) #[true, true, true, true, true, true, true, true, true, true, true, false, false, false, false, false, false] rfl rfl (by kernel_rfl) (by decide) (fun K hK => ?_)
  refine Kd.N_append_rows_step k34 (w0 := w8) w8.heap.size (by rfl) (.tmp 62) (.tmp 69) 23 34 (.agg #[(.bool false), (.bool false), (.slice none 0 0)]) 32 rfl Try.underlying23 info34 rfl (by decide) (by omega) v62 ([] ++ ps) [p1] _ _ _ (fun _ => True) (fun k => some k ≠ v62.ownBlock) rfl rfl hNd (Kd.N_F hLd) (fun k hk => ⟨trivial, hk⟩) (fun _ _ => trivial) hbe hbe.size (by have := hle.out; simp; omega) ?_
  intro v70 wf hNf hbf hgf hatf
  rw [← hx5.out] at hNf
  obtain ⟨A70, c70, e70⟩ := Kd.N_slice hNf
  subst e70
  refine hK.out _ _ ⟨(cell_b sr0 hbf), (cell_b sr1 hbf), (cell_b sr2 hbf)⟩ (fun hHeld => ?_)
  clear hK K
  refine norm_ (a' := ?_) ?_ ?_
  rotate_left
  · show Act.put _ (some 70) _ = _
    simp only [Act.put, List.setIfInBounds_toArray, List.set_cons_zero, List.set_cons_succ, i64_w, i32_w]
    rfl
  refine one_ (i := 11) (N := some 71) #[true, true, true, true, true, true, true, true, true, true, true, true, false, false, false, false, false] rfl rfl (by kernel_rfl) (by decide) (fun K hK => ?_)
  refine goes_ Try.func12 (by kernel_rfl) rfl #[.slice A70 x5.length c70] (by rfl) rfl rfl (by simp only [List.map_toArray, List.map_cons, List.map_nil]; rfl) ?_
  with_reducible refine (frag_Join.calls 5000 A70 c70 x5 [] false _ (Kd.N_reads' hNf).2.2 (Kd.N_reads' hNf).2.1 j4.out).mono ?_
  rintro e w9 ⟨v9, rfl, hR9, hb9⟩
  refine ⟨_, rfl, ?_⟩
  have hbg := hbf.trans (hb9.mono hbf.size)
  refine hK.out _ _ ⟨(cell_b sr0 hbg), (cell_b sr1 hbg), (cell_b sr2 hbg)⟩ (fun hHeld => ?_)
  clear hK K
  refine norm_ (a' := ?_) ?_ ?_
  rotate_left
  · show Act.put _ (some 71) _ = _
    simp only [Act.put, List.setIfInBounds_toArray, List.set_cons_zero, List.set_cons_succ, i64_w, i32_w]
    rfl
  refine pure_ (i := 12) (N := some 59) (v := ?_) (a' := ?_) #[true, true, true, true, true, true, true, true, true, true, true, true, true, false, false, false, false] rfl rfl (by kernel_rfl) (fun _ _ _ h => h) (Or.inl ⟨by rfl, ?_⟩) ?_ ?_
  rotate_left
  · intro w'
    go_simp
    with_reducible rfl
  rotate_left
  · simp only [Act.put, List.setIfInBounds_toArray, List.set_cons_zero, List.set_cons_succ, i64_w, i32_w]
    rfl
  refine pure_ (i := 13) (N := some 72) (v := ?_) (a' := ?_) #[true, true, true, true, true, true, true, true, true, true, true, true, true, true, false, false, false] rfl rfl (by kernel_rfl) (fun _ _ _ h => h) (Or.inl ⟨by rfl, ?_⟩) ?_ ?_
  rotate_left
  · intro w'
    go_simp
    with_reducible rfl
  rotate_left
  · simp only [Act.put, List.setIfInBounds_toArray, List.set_cons_zero, List.set_cons_succ, i64_w, i32_w]
    rfl
  refine pure_ (i := 14) (N := some 73) (v := ?_) (a' := ?_) #[true, true, true, true, true, true, true, true, true, true, true, true, true, true, true, false, false] rfl rfl (by kernel_rfl) (fun _ _ _ h => h) (Or.inl ⟨by rfl, ?_⟩) ?_ ?_
  rotate_left
  · intro w'
    go_simp
    with_reducible rfl
  rotate_left
  · simp only [Act.put, List.setIfInBounds_toArray, List.set_cons_zero, List.set_cons_succ, i64_w, i32_w]
    rfl
  refine pure_ (i := 15) (N := some 13) (v := ?_) (a' := ?_) #[true, true, true, true, true, true, true, true, true, true, true, true, true, true, true, true, false] rfl rfl (by kernel_rfl) (fun _ _ _ h => h) (Or.inl ⟨by rfl, ?_⟩) ?_ ?_
  rotate_left
  · intro w'
    go_simp
    with_reducible rfl
  rotate_left
  · simp only [Act.put, List.setIfInBounds_toArray, List.set_cons_zero, List.set_cons_succ, i64_w, i32_w]
    rfl
  refine pure_ (i := 16) (N := some 14) (v := ?_) (a' := ?_) #[true, true, true, true, true, true, true, true, true, true, true, true, true, true, true, true, true] rfl rfl (by kernel_rfl) (fun _ _ _ h => h) (Or.inl ⟨by rfl, ?_⟩) ?_ ?_
  rotate_left
  · intro w'
    go_simp
    with_reducible rfl
  rotate_left
  · simp only [Act.put, List.setIfInBounds_toArray, List.set_cons_zero, List.set_cons_succ, i64_w, i32_w]
    rfl
  refine done_ (by kernel_rfl) ?_
  -- END8
  have HBg := Aside0.mk hbg
  have HS9 := Aside0.mk (src_step HS8.out (hbg.mono hB8))
  have hB9 : B0 ≤ w9.heap.size := by have := hbg.size; omega
  have HW9 := Aside0.mk (B2.out.trans ((HB8.out.mono (by rw [← hB0]; exact Nat.le_refl _)).trans (hbg.mono hB8) |>.mono (by rw [← hB0]; exact B2.out.size)))
  obtain ⟨A9, c9, e9⟩ := Kd.R_slice hR9
  subst e9
  have hLp := hle.out
  rw [hpe.out] at hLp
  have j5 := Aside0.mk (show frag_Join.f 5000 ps.reverse = some ([], false) by
    rw [hpe.out, join_eq _ (by rw [List.length_reverse]; omega) _ (by rw [List.length_reverse]; omega), joinN_no (less_turned hLp.1)])
  clear hHeld hbf hNf hgf hatf hb9 hbg hLd hNd hbe hR9 sq0 sq1 sq2 sr0 sr1 sr2 hFK1 hbd hLp HS8 HB8
  go_wp2_with fail
  go_loopw [15, 16] (fun v i wr => ∃ (k : Nat) (j : Int) (x : List S34), i = .int .i64 j ∧ Aside0 (j = (k : Int) - 1 ∧ k ≤ ps.length ∧ x = (ps.drop k).reverse) ∧ Aside0 (Kd.N k34 34 wr w9.heap.size (fun _ => True) v x) ∧ Aside0 (Below w9.heap.size w9 wr)) (fun _ i _ => (intOf i + 1).toNat)
  case atStart => exact ⟨ps.length, i1, [], rfl, ⟨⟨hi1.out, Nat.le_refl _, by simp⟩⟩, ⟨Kd.N_nil _ _ _ _ _⟩, ⟨Below.refl _ _⟩⟩
  case round =>
    obtain ⟨k, j, x, rfl, HK, HN, HB⟩ := hrel
    obtain ⟨Ax, cx, ex⟩ := Kd.N_slice HN.out
    subst ex
    have HSr := Aside0.mk (src_step HS9.out (HB.out.mono hB9))
    by_cases hj : 0 ≤ j
    · have hj2 : j < (ps.length : Int) := by have := HK.out; omega
      obtain ⟨p, hp⟩ : ∃ p, Aside0 (ps[j.toNat]? = some p) := ⟨_, ⟨List.getElem?_eq_getElem (by omega)⟩⟩
      obtain ⟨cs2, hcl2, hFK2, hcc2⟩ := Kd.N_get HSr.out z34 j hj hj2
      have hrd2 : (ps.getD j.toNat z34) = p := by rw [List.getD_eq_getElem?_getD, hp.out]; rfl
      rw [hrd2] at hFK2
      obtain ⟨Aq, cq, hcse2, hlp2, hFp2⟩ := k34_openF hFK2
      subst hcse2
      have sq0 : wr.cell? (ad.add (j.toNat * 3)) = some (.bool p.f0) := hcc2 0 _ rfl
      have sq1 : wr.cell? ⟨(ad.add (j.toNat * 3)).block, (ad.add (j.toNat * 3)).off + 1, none⟩ = some (.bool p.f1) := by rw [← add_field _ _ _ (by omega)]; exact hcc2 1 _ rfl
      have sq2 : wr.cell? ⟨(ad.add (j.toNat * 3)).block, (ad.add (j.toNat * 3)).off + 2, none⟩ = some (.slice Aq p.f2.length cq) := by rw [← add_field _ _ _ (by omega)]; exact hcc2 2 _ rfl
      have HF2 : Aside0 (Kd.FK k34 wr (fun k => k < B0) p [.bool p.f0, .bool p.f1, .slice Aq p.f2.length cq]) := ⟨Kd.FK_mono hFK2 (fun _ hk => hk.1)⟩
      obtain ⟨x', hx'⟩ : ∃ x', Aside0 (x' = x ++ [p]) := ⟨_, ⟨rfl⟩⟩
      have hwj : IntKind.i64.wrap (j - 1) = j - 1 := IntWalk.i64_in _ (by have := HK.out; have := hle.out; omega)
      have hxl : Aside0 (x.length ≤ 2048) := ⟨by have h := HK.out; rw [h.2.2, List.length_reverse, List.length_drop]; have := hle.out; omega⟩
      have hjd : decide (0 ≤ j) = true := decide_eq_true hj
      have HJ := Aside0.mk hj
      clear hcl2 hcc2 hlp2 hFp2 hFK2
      replace hj := eq_true hj
      replace hj2 := eq_true hj2
      go_wp2_with (
        (with_reducible refine gate_builtin (b := .append) (xs := #[.tmp 81, .tmp 86]) rfl ?_); at_builtin; refine Kd.N_append k34 (w0 := w9) w9.heap.size rfl (.tmp 81) (.tmp 86) 23 34 (.agg #[(.bool false), (.bool false), (.slice none 0 0)]) 32 rfl Try.underlying23 info34 rfl (by decide) (by omega) (.slice Ax x.length cx) x p [.bool p.f0, .bool p.f1, .slice Aq p.f2.length cq] (fun _ => True) (fun k => k < B0) rfl rfl HF2.out ?aK (fun _ _ => trivial) HN.out HB.out HB.out.size ?aL ?_
        (case aK => exact fun k hk => ⟨trivial, fun e => by have := Kd.N_base HN.out k e.symm; have hk' : k < B0 := hk; omega⟩); (case aL => have := hxl.out; omega)
        intro v6 w6 hN6 hb6 hg6 hat6
        rw [← hx'.out] at hN6
        have HN6 := Aside0.mk hN6; have HB6 := Aside0.mk hb6
        clear hN6 hb6 hg6 hat6 sq0 sq1 sq2)
      go_roundw
      case rel =>
        refine ⟨_, _, _, _, _, _, _, _, _, _, _, _, _, ⟨k - 1, j - 1, x', ?_, ⟨?_⟩, ?_, HB6⟩, rfl⟩
        · rfl
        rotate_left
        · exact HN6
        have h := HK.out
        have h0 := HJ.out
        refine ⟨by omega, by omega, ?_⟩
        have hk1 : k - 1 = j.toNat := by omega
        have hlt : j.toNat < ps.length := by omega
        rw [hx'.out, h.2.2, hk1, List.drop_eq_getElem_cons hlt, List.reverse_cons, show j.toNat + 1 = k by omega]
        have := hp.out
        rw [List.getElem?_eq_getElem hlt] at this
        rw [Option.some.inj this]
      case measure => have := HJ.out; show (j - 1 + 1).toNat < (j + 1).toNat; omega
    · have hjd : decide (0 ≤ j) = false := decide_eq_false hj
      have hx : x = ps.reverse := by
        have h := HK.out
        have hk0 : k = 0 := by omega
        rw [h.2.2, hk0, List.drop_zero]
      have j6 := Aside0.mk (show frag_Join.f 5000 x = some ([], false) by rw [hx]; exact j5.out)
      clear hx
      have hj0 := Aside0.mk hj
      clear hj
      go_wp2_with fail
      with_reducible refine (frag_Join.calls 5000 Ax cx x [] false _ (Kd.N_reads' HN.out).2.2 (Kd.N_reads' HN.out).2.1 j6.out).mono ?_
      rintro e wz ⟨vz, rfl, hRz, hbz⟩
      have HBz := Aside0.mk (HW9.out.trans ((HB.out.trans (hbz.mono HB.out.size)).mono HW9.out.size))
      clear hRz hbz
      go_wp2_with fail
      go_ret
      exact ⟨rfl, HBz.out⟩
end Go.Proofs.Ytfdjfejlfkabdaa.Q
