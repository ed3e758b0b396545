/- FrameSpoilt, walked. By this session. -/
import Derived.Test.YtepfjmmbjbfboaaFrameCut
namespace Go.Proofs.Ytepfjmmbjbfboaa.F
open Go.RowKit Go.Proofs.YtepfjmmbjbfboaaW.PrintWords Go.Proofs.YtepfjmmbjbfboaaW.PrintLast Go.Proofs.YtepfjmmbjbfboaaW.PrintMore
set_option linter.unusedVariables false
set_option linter.unusedSimpArgs false
theorem oct_nats {X : List Nat} (h : ∀ c ∈ X, c < 256) : Oct (X.map Int.ofNat) := by
  intro x hx
  obtain ⟨y, hy, rfl⟩ := List.mem_map.1 hx
  have := h y hy
  simp only [Int.ofNat_eq_natCast]
  omega
/-- Where a turned bit lies, and what becomes of its byte. -/
theorem turn_facts {X : List Nat} (hX : ∀ c ∈ X, c < 256) {k i : Nat} (hJ : k + i < 8 * X.length) (hL : X.length < 100000) :
    ∃ j8 m8 sh : Nat, ∃ nv : Int, IntKind.i64.wrap ((k : Int) + (i : Int)) = ((k + i : Nat) : Int) ∧ wrap64 ((k : Int) + (i : Int)) = ((k + i : Nat) : Int) ∧ Int.tdiv ((k + i : Nat) : Int) 8 = (j8 : Int) ∧ IntKind.i64.wrap (j8 : Int) = (j8 : Int) ∧ wrap64 (j8 : Int) = (j8 : Int) ∧ Int.tmod ((k + i : Nat) : Int) 8 = (m8 : Int) ∧
      IntKind.u8.wrap (2 ^ m8) = (sh : Int) ∧ m8 ≤ 7 ∧ j8 < X.length ∧ Go.bits .xor .u8 (rd (X.map Int.ofNat) (j8 : Int)) (sh : Int) = nv ∧
      (X.map Int.ofNat).set j8 nv = (X.set ((k + i) / 8) (X.getD ((k + i) / 8) 0 ^^^ 2 ^ ((k + i) % 8))).map Int.ofNat := by
  refine ⟨(k + i) / 8, (k + i) % 8, 2 ^ ((k + i) % 8), _, ?_, ?_, ?_, ?_, ?_, ?_, ?_, by omega, by omega, rfl, ?_⟩
  · rw [IntWalk.i64_in _ (by omega)]; omega
  · unfold wrap64; omega
  · rw [Int.tdiv_eq_ediv_of_nonneg (by omega)]; omega
  · exact IntWalk.i64_in _ (by omega)
  · unfold wrap64; omega
  · rw [Int.tmod_eq_emod_of_nonneg (by omega)]; omega
  · have hp : 2 ^ ((k + i) % 8) < 2 ^ 8 := Nat.pow_lt_pow_right (by decide) (by omega)
    rw [IntKind.wrap_u8, show (2 : Int) ^ ((k + i) % 8) = ((2 ^ ((k + i) % 8) : Nat) : Int) by push_cast; rfl]
    generalize (2 ^ ((k + i) % 8) : Nat) = p at hp ⊢
    omega
  · have := turn_int hX hJ
    rw [← this]
    congr 2
    unfold shl
    have hp : 2 ^ ((k + i) % 8) < 2 ^ 8 := Nat.pow_lt_pow_right (by decide) (by omega)
    rw [Int.toNat_natCast, show min ((k + i) % 8) IntKind.u8.bits = (k + i) % 8 from Nat.min_eq_left (by show (k + i) % 8 ≤ 8; omega), IntKind.wrap_u8, Int.one_mul, show (2 : Int) ^ ((k + i) % 8) = ((2 ^ ((k + i) % 8) : Nat) : Int) by push_cast; rfl]
    generalize (2 ^ ((k + i) % 8) : Nat) = p at hp ⊢
    omega
/-- A sealed frame in which something has turned is none. -/
theorem spoilt_get {k0 : Int} {l0 : List Int} (hf : 1 ≤ k0 ∧ k0 ≤ 4 ∧ l0.length ≤ 2048) (ho : Oct l0) {Y : List Nat} (hY : ∀ c ∈ Y, c < 256) (hl : Y.length = (putN k0 l0).length) {kk bits : Nat} (hb : bits < 2 ^ 32) (hb0 : bits ≠ 0) (hk : kk + 32 ≤ 8 * Y.length)
    (hN : Crc.num Y = Crc.num ((putN k0 l0).map Crc.byte) ^^^ (2 ^ kk * bits)) : frame_Get.f (Y.map Int.ofNat) = some ((0, []), 42) := by
  have hpl := putN_len hf
  have hYo := oct_nats hY
  rw [putN_fine hf] at hN
  have h1 := burst_open (a := stL k0 ++ l0) (b := Y.map Int.ofNat) ((stL_oct k0).append ho) hYo (by rw [List.length_append, stL_len]; omega) (k := kk) (bits := bits) (by rw [List.length_map, hl, hpl, List.length_append, stL_len]; omega) hb (by rw [List.length_map]; exact hk) (by rw [map_byte_ofNat hY]; exact hN)
  rw [decide_eq_false hb0] at h1
  unfold frame_Get.f getN
  rw [if_pos ⟨hYo, by rw [List.length_map]; omega⟩, if_neg (by rw [List.length_map]; omega), if_neg (by rw [List.length_map]; omega), if_pos h1]
set_option maxHeartbeats 2000000 in
set_option maxRecDepth 100000 in
theorem spoilt_walk (k0 : Int) (A0 : Option Addr) (c0 : Nat) (l0 : List Int) (a1 a2 : Int) (b0 : (-9223372036854775808 : Int) ≤ k0 ∧ k0 ≤ 9223372036854775807) (b1 : 0 ≤ a1 ∧ a1 ≤ 65535) (b2 : 0 ≤ a2 ∧ a2 ≤ 4294967295) (w : World) (hc0 : l0.length ≤ c0) (hr0 : Kd.C (Kd.int .u8) w A0 l0.length l0) (hg0 : l0.length + 4096 ≤ 140737488355328 ∧ Oct l0) :
    Calls Try.prog 5 #[.agg #[.int .i64 k0, .slice A0 l0.length c0], .int .u16 a1, .int .u32 a2] w fun e w' => e = .returned (.bool true) ∧ Below w.heap.size w w' := by
  have HC := Aside0.mk hc0; have HR := Aside0.mk hr0; have HO := Aside0.mk hg0.2
  clear hc0 hr0 hg0
  obtain ⟨bits, rfl⟩ : ∃ n : Nat, a2 = (n : Int) := ⟨a2.toNat, by omega⟩
  have hbl := Aside0.mk (show bits < 4294967296 by omega)
  obtain ⟨p, hp⟩ : ∃ p, Aside0 (putN k0 l0 = p) := ⟨_, ⟨rfl⟩⟩
  have hpo := Aside0.mk (show Oct p from hp.out ▸ putN_oct k0 HO.out)
  have hz24 := zero_of (P := Try.prog) (t := 24) (z := .agg #[.int .i64 0, .slice none 0 0]) (by kernel_rfl)
  go_enter Try.func5, Try.ntmps5
  go_wp2_with fail
  have hB0 := (Below.refl w.heap.size w).alloc (Nat.le_refl _) (.cells #[.int .i64 k0, .slice A0 l0.length c0] 24)
  refine (head_walk _).mono ?_
  rintro e w1 ⟨rfl, hb1⟩
  have HF1 := Aside0.mk ((Blk.new w #[.int .i64 k0, .slice A0 l0.length c0] 24).below hb1)
  have B1 := Aside0.mk (hB0.trans (hb1.mono hB0.size))
  have HR1 := Aside0.mk (Kd.C_below HR.out B1.out)
  clear hb1 hB0 HR
  have hk0 := HF1.out.cell 0; have hk1 := HF1.out.cell 1
  go_wp2_with fail
  clear hk0 hk1
  refine (frame_Put.calls k0 A0 c0 l0 p _ HR1.out HC.out (by rw [← hp.out]; rfl)).mono ?_
  rintro e w2 ⟨v2, rfl, hR2, hb2⟩
  obtain ⟨A2, c2, rfl⟩ := Kd.R_slice hR2
  have B2 := Aside0.mk (B1.out.trans (hb2.mono B1.out.size))
  have HF2 := Aside0.mk (HF1.out.below hb2)
  have HP2 := Aside0.mk (Kd.R_reads' hR2)
  clear hb2 hR2 HF1 HR1
  have hk0 := HF2.out.cell 0; have hk1 := HF2.out.cell 1
  by_cases h3 : (3000 : Int) < (l0.length : Int)
  · have h3d : decide ((3000 : Int) < (l0.length : Int)) = true := decide_eq_true h3
    go_wp2_with fail
    go_ret
    exact ⟨rfl, B2.out⟩
  have h3d : decide ((3000 : Int) < (l0.length : Int)) = false := decide_eq_false h3
  by_cases hf : 1 ≤ k0 ∧ k0 ≤ 4 ∧ l0.length ≤ 2048
  case neg =>
    have hp0 : p = [] := by rw [← hp.out]; exact putN_no hf
    have hq0 : ((p.length : Int) == 0) = true := by rw [hp0]; rfl
    have hq1 : (p.length == 0) = true := by rw [hp0]; rfl
    clear hp0 hf
    go_wp2_with fail
    go_ret
    exact ⟨rfl, B2.out⟩
  have hpl := Aside0.mk (show 8 ≤ p.length ∧ p.length ≤ 2056 by rw [← hp.out, putN_len hf]; omega)
  have hq0 : ((p.length : Int) == 0) = false := beq_eq_false_iff_ne.mpr (by have := hpl.out; omega)
  have hq1 : (p.length == 0) = false := beq_eq_false_iff_ne.mpr (by have := hpl.out; omega)
  have hpz3 : (p = []) = False := eq_false (fun e => by have := hpl.out; rw [e] at this; simp at this)
  by_cases hz : bits = 0
  · have hz1 : ((bits : Int) == 0) = true := beq_iff_eq.mpr (by omega)
    have hz2 : (bits == 0) = true := beq_iff_eq.mpr hz
    clear hf hz
    go_wp2_with fail
    go_ret
    exact ⟨rfl, B2.out⟩
  have hz1 : ((bits : Int) == 0) = false := beq_eq_false_iff_ne.mpr (by omega)
  have hz2 : (bits == 0) = false := beq_eq_false_iff_ne.mpr hz
  have hz3 : (bits = 0) = False := eq_false hz
  have Hz := Aside0.mk hz
  have Hf := Aside0.mk hf
  obtain ⟨m, hm⟩ : ∃ m : Nat, Aside0 (m = 8 * p.length - 31) := ⟨_, ⟨rfl⟩⟩
  obtain ⟨kk, hkk⟩ : ∃ n : Nat, Aside0 (n = a1.toNat % m) := ⟨_, ⟨rfl⟩⟩
  have hkl := Aside0.mk (show kk + 32 ≤ 8 * p.length by have := hpl.out; have h1 := hm.out; have : kk < m := by rw [hkk.out]; exact Nat.mod_lt _ (by omega)
                                                        omega)
  have hwa : IntKind.i64.wrap a1 = a1 := IntWalk.i64_in _ (by omega)
  have hw8 : IntKind.i64.wrap (8 * (p.length : Int)) = 8 * (p.length : Int) := IntWalk.i64_in _ (by have := hpl.out; omega)
  have hw31 : IntKind.i64.wrap (8 * (p.length : Int) - 31) = (m : Int) := by rw [IntWalk.i64_in _ (by have := hpl.out; omega), hm.out]; have := hpl.out; omega
  have hmod : Int.tmod a1 (m : Int) = (kk : Int) := by
    rw [Int.tmod_eq_emod_of_nonneg b1.1, hkk.out]
    have : a1 = ((a1.toNat : Nat) : Int) := by omega
    rw [this]; rfl
  have hmz1 : ((m : Int) = 0) = False := eq_false (by have := hm.out; have := hpl.out; omega)
  have hmz2 : (m = 0) = False := eq_false (by have := hm.out; have := hpl.out; omega)
  clear hf hz
  go_wp2_with (first
    | ((with_reducible refine gate_dst (N := 38) rfl ?_); refine Kd.R_lit (Kd.int .u8) (w0 := w2) w2.heap.size 5 ?hg (N := 38) ?hd (xs := ([] : List Int)) (inner := []) (ok := fun _ => True) (okp := fun _ => True) ?hr ?hp (fun _ hk => hk) trivial (Below.refl _ _) (Nat.le_refl _) (by simp) ?_; (case hd => rfl); (case hg => rfl); (case hr => first | (go_simp; done) | (go_simp; rfl)); (case hp => exact (Reps.none _ _)); intro v5 w5 ho5 hb5 hg_ hnew_; clear hg_ hnew_; have HO5 := Aside0.mk ho5; have HB5 := Aside0.mk hb5; clear ho5 hb5)
    | ((with_reducible refine gate_builtin (b := .append) (xs := #[.tmp 38, .tmp 39]) rfl ?_); at_builtin; refine Kd.R_append_rows (Kd.int .u8) (w0 := w2) w2.heap.size rfl (.tmp 38) (.tmp 39) 22 5 (.int .u8 0) 1 rfl Try.underlying22 info5 rfl (by decide) (by omega) v5 [] p _ _ _ (fun _ => True) (fun _ => False) rfl rfl HO5.out (Kd.C_below HP2.out.2.2 HB5.out) (fun _ _ h => h) (fun _ h => h.elim) (fun _ _ => trivial) HB5.out HB5.out.size (by have := hpl.out; simp; omega) ?_; intro v6 w6 ho hb hg hat; have HO6 := Aside0.mk ho; have HB6 := Aside0.mk hb; clear ho hb hg hat; rw [List.nil_append] at HO6; obtain ⟨A6, c6, e6⟩ := Kd.R_slice HO6.out; subst e6))
  clear hk0 hk1 h3 h3d hq0 hq1 hpz3 hz1 hz2 hz3 hwa hw8 hw31 hmod hmz1 hmz2 HO5 HB5
  obtain ⟨M, hM⟩ : ∃ M, Aside0 (Crc.num (p.map Crc.byte) = M) := ⟨_, ⟨rfl⟩⟩
  obtain ⟨pn, hpn⟩ : ∃ n, Aside0 (p.length = n) := ⟨_, ⟨rfl⟩⟩
  have hA6 : ∃ g, A6 = some ⟨g, 0, none⟩ ∧ w2.heap.size ≤ g := by
    obtain ⟨g, cap, hgA, hgb, _⟩ := Kd.R_form HO6.out (by have := hpl.out; omega)
    injection hgA with h1 h2 h3
    exact ⟨g, h1, hgb⟩
  obtain ⟨g, rfl, hgb⟩ := hA6
  have Hgb := Aside0.mk hgb
  rw [hpn.out] at HO6 hkl hpl
  simp only [hpn.out]
  clear hgb
  go_loopw [11] (fun v wr => ∃ (i : Nat) (X : List Nat), v = .int .i64 (i : Int) ∧ Aside0 (i ≤ 32 ∧ (∀ c ∈ X, c < 256) ∧ X.length = pn ∧ Crc.num X = M ^^^ (2 ^ kk * (bits % 2 ^ i))) ∧ Aside0 (Kd.R (Kd.int .u8) 5 wr w2.heap.size (fun _ => True) (.slice (some ⟨g, 0, none⟩) pn c6) (X.map Int.ofNat)) ∧ Aside0 (Below w2.heap.size w2 wr)) (fun v _ => (32 - intOf v).toNat)
  case atStart =>
    refine ⟨0, p.map Crc.byte, rfl, ⟨by omega, bytes_lt p, by rw [List.length_map]; exact hpn.out, by rw [hM.out, Nat.pow_zero, Nat.mod_one, Nat.mul_zero, Nat.xor_zero]⟩, ⟨?_⟩, HB6⟩
    rw [map_byte_oct hpo.out]
    exact HO6.out
  case round =>
    obtain ⟨i, X, rfl, hi, HX, HB⟩ := hrel
    have BW := Aside0.mk (B2.out.trans (HB.out.mono B2.out.size))
    by_cases h32 : (i : Int) < 32
    · have h32d : decide ((i : Int) < 32) = true := decide_eq_true h32
      obtain ⟨q, hq⟩ : ∃ q : Nat, Aside0 (bits / 2 ^ i = q) := ⟨_, ⟨rfl⟩⟩
      have hs1 : (bits : Int) / 2 ^ i = (q : Int) := by rw [← hq.out]; push_cast; rfl
      have hs2 : (bits : Int) / 2 ^ min i 32 = (q : Int) := by rw [Nat.min_eq_left (by omega)]; exact hs1
      have hq2 : Int.tmod (q : Int) 2 = ((q % 2 : Nat) : Int) := by rw [Int.tmod_eq_emod_of_nonneg (by omega)]; omega
      have hi0 : ((0 : Int) ≤ (i : Int)) = True := eq_true (by omega)
      have hin : ((i : Int) < 0) = False := eq_false (by omega)
      have H32 := Aside0.mk h32
      by_cases hbit : q % 2 = 1
      · have hb1 : (((q % 2 : Nat) : Int) == 1) = true := beq_iff_eq.mpr (by omega)
        have hb2 : ((q % 2) == 1) = true := beq_iff_eq.mpr hbit
        obtain ⟨r, hr⟩ : ∃ r, q % 2 = r := ⟨_, rfl⟩
        have Hbit := Aside0.mk hbit
        rw [hr] at hq2 hb1 hb2 hbit
        subst hbit
        go_wp2_with fail
        have HXi := hi.out
        have hkk2 : kk + i < 8 * X.length := by have := hkl.out; omega
        have hX2 : X.length < 100000 := by have := hpl.out; omega
        obtain ⟨j8, m8, sh, nv, hall⟩ := turn_facts (X := X) HXi.2.1 (k := kk) (i := i) hkk2 hX2
        have HA := Aside0.mk hall
        clear hall
        have f8 : m8 ≤ 7 := HA.out.2.2.2.2.2.2.2.1
        have f9 : j8 < pn := by have h1 := HA.out.2.2.2.2.2.2.2.2.1; have h2 := HXi.2.2.1; rw [h2] at h1; exact h1
        have hj0 : (0 : Int) ≤ (j8 : Int) := Int.natCast_nonneg j8
        have hjn : (j8 : Int) < (pn : Int) := by exact_mod_cast f9
        obtain ⟨hqc, hfz⟩ := Kd.R_celln (0 : Int) HX.out (j8 : Int) hj0 hjn
        rw [Int.toNat_natCast] at hqc hfz
        obtain ⟨v, hv⟩ : ∃ v, rd (X.map Int.ofNat) (j8 : Int) = v := ⟨_, rfl⟩
        have hqc' : wr.cell? ⟨g, j8, none⟩ = some (.int .u8 v) := by rw [← hv]; exact hqc
        have hput := Kd.R_putn HX.out (j8 : Int) nv
        rw [Int.toNat_natCast, HA.out.2.2.2.2.2.2.2.2.2.2] at hput
        have HPd := Aside0.mk (Kd.R_drew hput)
        have hm8 : min m8 8 = m8 := Nat.min_eq_left (Nat.le_trans f8 (by decide))
        have j0 := eq_true hj0
        have j1 := eq_true hjn
        have j2 := eq_true f9
        have m0 := eq_true (Int.natCast_nonneg m8)
        have m1 : ((m8 : Int) < 0) = False := eq_false (Int.not_lt.mpr (Int.natCast_nonneg m8))
        have S0 : wr.drew.cell? ⟨g, j8, none⟩ = some (.int .u8 v) := hqc'
        have hfd : wr.drew.frozen? ⟨g, j8, none⟩ = false := hfz
        obtain ⟨J, hJ⟩ : ∃ J : Nat, kk + i = J := ⟨_, rfl⟩
        obtain ⟨f1, f2, f3, f4, f5, f6, f7, _, _, f10, _⟩ := HA.out
        rw [hJ] at f1 f2 f3 f6
        rw [hv] at f10
        have g1 : IntKind.u8.wrap (1 * 2 ^ m8) = (sh : Int) := by rw [Int.one_mul]; exact f7
        have g2 : IntKind.u8.wrap (2 ^ min m8 8) = (sh : Int) := by rw [hm8]; exact f7
        have g3 : IntKind.u8.wrap (1 * 2 ^ min m8 8) = (sh : Int) := by rw [hm8, Int.one_mul]; exact f7
        clear hJ f9 f8 hput hqc hfz HXi hv hkk2 hX2 hj0 hjn hm8
        -- SPOILT
        refine start_ (n := 20) (S := fun w' => w'.cell? ⟨g, j8, none⟩ = some (.int .u8 v)) (ds := [19]) #[false, false, false, false, false, false, false, false, false, false, false, false, false, false, false, false, false, false, false, false] (by kernel_rfl) rfl rfl (S0) (fun hHeld => ?_)
        refine pure_ (i := 0) (N := some 50) (v := ?_) (a' := ?_) #[true, false, false, false, false, false, false, false, false, false, false, false, false, false, false, false, false, false, false, false] rfl rfl (by kernel_rfl) (fun _ _ _ h => h) (Or.inl ⟨by rfl, ?_⟩) ?_ ?_
        rotate_left
        · intro w'
          go_simp
          with_reducible rfl
        rotate_left
        · simp only [Act.put, List.setIfInBounds_toArray, List.set_cons_zero, List.set_cons_succ, i64_w, i32_w]
          rfl
        refine pure_ (i := 1) (N := some 51) (v := ?_) (a' := ?_) #[true, true, false, false, false, false, false, false, false, false, false, false, false, false, false, false, false, false, false, false] rfl rfl (by kernel_rfl) (fun _ _ _ h => h) (Or.inl ⟨by rfl, ?_⟩) ?_ ?_
        rotate_left
        · intro w'
          go_simp
          with_reducible rfl
        rotate_left
        · simp only [Act.put, List.setIfInBounds_toArray, List.set_cons_zero, List.set_cons_succ, i64_w, i32_w]
          rfl
        refine pure_ (i := 2) (N := some 52) (v := ?_) (a' := ?_) #[true, true, true, false, false, false, false, false, false, false, false, false, false, false, false, false, false, false, false, false] rfl rfl (by kernel_rfl) (fun _ _ _ h => h) (Or.inl ⟨by rfl, ?_⟩) ?_ ?_
        rotate_left
        · intro w'
          go_simp
          with_reducible rfl
        rotate_left
        · simp only [Act.put, List.setIfInBounds_toArray, List.set_cons_zero, List.set_cons_succ, i64_w, i32_w]
          rfl
        refine pure_ (i := 3) (N := some 53) (v := ?_) (a' := ?_) #[true, true, true, true, false, false, false, false, false, false, false, false, false, false, false, false, false, false, false, false] rfl rfl (by kernel_rfl) (fun _ _ _ h => h) (Or.inl ⟨by rfl, ?_⟩) ?_ ?_
        rotate_left
        · intro w'
          go_simp
          with_reducible rfl
        rotate_left
        · simp only [Act.put, List.setIfInBounds_toArray, List.set_cons_zero, List.set_cons_succ, i64_w, i32_w]
          rfl
        refine pure_ (i := 4) (N := some 54) (v := ?_) (a' := ?_) #[true, true, true, true, true, false, false, false, false, false, false, false, false, false, false, false, false, false, false, false] rfl rfl (by kernel_rfl) (fun _ _ _ h => h) (Or.inl ⟨by rfl, ?_⟩) ?_ ?_
        rotate_left
        · intro w'
          go_simp
          with_reducible rfl
        rotate_left
        · simp only [Act.put, List.setIfInBounds_toArray, List.set_cons_zero, List.set_cons_succ, i64_w, i32_w]
          rfl
        refine pure_ (i := 5) (N := some 55) (v := ?_) (a' := ?_) #[true, true, true, true, true, true, false, false, false, false, false, false, false, false, false, false, false, false, false, false] rfl rfl (by kernel_rfl) (fun _ _ _ h => h) (Or.inl ⟨by rfl, ?_⟩) ?_ ?_
        rotate_left
        · intro w'
          go_simp
          with_reducible rfl
        rotate_left
        · simp only [Act.put, List.setIfInBounds_toArray, List.set_cons_zero, List.set_cons_succ, i64_w, i32_w]
          rfl
        refine pure_ (i := 6) (N := some 56) (v := ?_) (a' := ?_) #[true, true, true, true, true, true, true, false, false, false, false, false, false, false, false, false, false, false, false, false] rfl rfl (by kernel_rfl) (fun _ _ _ h => h) (Or.inl ⟨by rfl, ?_⟩) ?_ ?_
        rotate_left
        · intro w'
          go_simp
          with_reducible rfl
        rotate_left
        · simp only [Act.put, List.setIfInBounds_toArray, List.set_cons_zero, List.set_cons_succ, i64_w, i32_w]
          rfl
        refine pure_ (i := 7) (N := some 57) (v := ?_) (a' := ?_) #[true, true, true, true, true, true, true, true, false, false, false, false, false, false, false, false, false, false, false, false] rfl rfl (by kernel_rfl) (fun _ _ _ h => h) (Or.inl ⟨by rfl, ?_⟩) ?_ ?_
        rotate_left
        · intro w'
          go_simp
          with_reducible rfl
        rotate_left
        · simp only [Act.put, List.setIfInBounds_toArray, List.set_cons_zero, List.set_cons_succ, i64_w, i32_w]
          rfl
        refine pure_ (i := 8) (N := some 58) (v := ?_) (a' := ?_) #[true, true, true, true, true, true, true, true, true, false, false, false, false, false, false, false, false, false, false, false] rfl rfl (by kernel_rfl) (fun _ _ _ h => h) (Or.inl ⟨by rfl, ?_⟩) ?_ ?_
        rotate_left
        · intro w'
          go_simp
          with_reducible rfl
        rotate_left
        · simp only [Act.put, List.setIfInBounds_toArray, List.set_cons_zero, List.set_cons_succ, i64_w, i32_w]
          rfl
        refine pure_ (i := 9) (N := some 59) (v := ?_) (a' := ?_) #[true, true, true, true, true, true, true, true, true, true, false, false, false, false, false, false, false, false, false, false] rfl rfl (by kernel_rfl) (fun _ _ _ h => h) (Or.inl ⟨by rfl, ?_⟩) ?_ ?_
        rotate_left
        · intro w'
          go_simp
          with_reducible rfl
        rotate_left
        · simp only [Act.put, List.setIfInBounds_toArray, List.set_cons_zero, List.set_cons_succ, i64_w, i32_w]
          rfl
        refine pure_ (i := 10) (N := some 60) (v := ?_) (a' := ?_) #[true, true, true, true, true, true, true, true, true, true, true, false, false, false, false, false, false, false, false, false] rfl rfl (by kernel_rfl) (fun _ _ _ h => h) (Or.inl ⟨by rfl, ?_⟩) ?_ ?_
        rotate_left
        · intro w'
          go_simp
          with_reducible rfl
        rotate_left
        · simp only [Act.put, List.setIfInBounds_toArray, List.set_cons_zero, List.set_cons_succ, i64_w, i32_w]
          rfl
        refine pure_ (i := 12) (N := some 62) (v := ?_) (a' := ?_) #[true, true, true, true, true, true, true, true, true, true, true, false, true, false, false, false, false, false, false, false] rfl rfl (by kernel_rfl) (fun _ _ _ h => h) (Or.inl ⟨by rfl, ?_⟩) ?_ ?_
        rotate_left
        · intro w'
          go_simp
          with_reducible rfl
        rotate_left
        · simp only [Act.put, List.setIfInBounds_toArray, List.set_cons_zero, List.set_cons_succ, i64_w, i32_w]
          rfl
        refine pure_ (i := 13) (N := some 63) (v := ?_) (a' := ?_) #[true, true, true, true, true, true, true, true, true, true, true, false, true, true, false, false, false, false, false, false] rfl rfl (by kernel_rfl) (fun _ _ _ h => h) (Or.inl ⟨by rfl, ?_⟩) ?_ ?_
        rotate_left
        · intro w'
          go_simp
          with_reducible rfl
        rotate_left
        · simp only [Act.put, List.setIfInBounds_toArray, List.set_cons_zero, List.set_cons_succ, i64_w, i32_w]
          rfl
        refine pure_ (i := 14) (N := some 64) (v := ?_) (a' := ?_) #[true, true, true, true, true, true, true, true, true, true, true, false, true, true, true, false, false, false, false, false] rfl rfl (by kernel_rfl) (fun _ _ _ h => h) (Or.inl ⟨by rfl, ?_⟩) ?_ ?_
        rotate_left
        · intro w'
          go_simp
          with_reducible rfl
        rotate_left
        · simp only [Act.put, List.setIfInBounds_toArray, List.set_cons_zero, List.set_cons_succ, i64_w, i32_w]
          rfl
        refine pure_ (i := 15) (N := some 65) (v := ?_) (a' := ?_) #[true, true, true, true, true, true, true, true, true, true, true, false, true, true, true, true, false, false, false, false] rfl rfl (by kernel_rfl) (fun _ _ _ h => h) (Or.inl ⟨by rfl, ?_⟩) ?_ ?_
        rotate_left
        · intro w'
          go_simp
          with_reducible rfl
        rotate_left
        · simp only [Act.put, List.setIfInBounds_toArray, List.set_cons_zero, List.set_cons_succ, i64_w, i32_w]
          rfl
        refine pure_ (i := 16) (N := some 66) (v := ?_) (a' := ?_) #[true, true, true, true, true, true, true, true, true, true, true, false, true, true, true, true, true, false, false, false] rfl rfl (by kernel_rfl) (fun _ _ _ h => h) (Or.inl ⟨by rfl, ?_⟩) ?_ ?_
        rotate_left
        · intro w'
          go_simp
          with_reducible rfl
        rotate_left
        · simp only [Act.put, List.setIfInBounds_toArray, List.set_cons_zero, List.set_cons_succ, i64_w, i32_w]
          rfl
        refine take_ (i := 11) (N := some 61) (v := ?_) (a' := ?_) #[true, true, true, true, true, true, true, true, true, true, true, true, true, true, true, true, true, false, false, false] rfl rfl (by kernel_rfl) (fun _ _ _ h => h) (Or.inl ⟨by rfl, ?_⟩) hHeld ?_ ?_
        rotate_left
        · intro w' s0
          go_simp
          with_reducible rfl
        rotate_left
        · simp only [Act.put, List.setIfInBounds_toArray, List.set_cons_zero, List.set_cons_succ, i64_w, i32_w]
          rfl
        refine pure_ (i := 17) (N := some 67) (v := ?_) (a' := ?_) #[true, true, true, true, true, true, true, true, true, true, true, true, true, true, true, true, true, true, false, false] rfl rfl (by kernel_rfl) (fun _ _ _ h => h) (Or.inl ⟨by rfl, ?_⟩) ?_ ?_
        rotate_left
        · intro w'
          go_simp
          with_reducible rfl
        rotate_left
        · simp only [Act.put, List.setIfInBounds_toArray, List.set_cons_zero, List.set_cons_succ, i64_w, i32_w]
          rfl
        refine pure_ (i := 18) (N := some 68) (v := ?_) (a' := ?_) #[true, true, true, true, true, true, true, true, true, true, true, true, true, true, true, true, true, true, true, false] rfl rfl (by kernel_rfl) (fun _ _ _ h => h) (Or.inl ⟨by rfl, ?_⟩) ?_ ?_
        rotate_left
        · intro w'
          go_simp
          with_reducible rfl
        rotate_left
        · simp only [Act.put, List.setIfInBounds_toArray, List.set_cons_zero, List.set_cons_succ, i64_w, i32_w]
          rfl
        refine last_ (i := 19) (N := none) #[true, true, true, true, true, true, true, true, true, true, true, true, true, true, true, true, true, true, true, true] rfl rfl (by kernel_rfl) (by decide) (fun K hK => ?_)
        refine skip_ (w1 := ?_) (by rfl) rfl ?_ ?_
        rotate_left
        · go_simp
          rfl
        refine hK.out _ _ ?_
        clear hK K
        refine done_ (by kernel_rfl) ?_
        -- END SPOILT
        clear f1 f2 f3 f4 f5 f6 f7 f10 g1 g2 g3 hs1 hs2 hq2
        have hst := Aside0.mk (turn_step (M := M) (bits := bits) (i := i) (k := kk) hi.out.2.1 (by omega) (by have := hkl.out; have := hi.out; omega) hi.out.2.2.2)
        go_wp2_with fail
        refine ⟨⟨i + 1, _, ?_, ⟨by have := H32.out; omega, ?_, ?_, ?_⟩, HPd, ⟨(HB.out.setCell Hgb.out _).drew⟩⟩, ?_⟩
        · rfl
        · exact turn_lt hi.out.2.1 (by have := hkl.out; have := hi.out; omega)
        · rw [List.length_set]; exact hi.out.2.2.1
        · have h := hst.out
          rw [hq.out, if_pos Hbit.out] at h
          exact h
        · have := H32.out
          simp only [intOf]; omega
      · have Hbit := Aside0.mk hbit
        obtain ⟨r, hr⟩ : ∃ r, q % 2 = r := ⟨_, rfl⟩
        have hb1 : (((r : Nat) : Int) == 1) = false := beq_eq_false_iff_ne.mpr (by omega)
        have hb2 : (r == 1) = false := beq_eq_false_iff_ne.mpr (by omega)
        have hb3 : (r = 1) = False := eq_false (by omega)
        rw [hr] at hq2
        clear hbit
        go_wp2_with fail
        have hst := Aside0.mk (turn_step (M := M) (bits := bits) (i := i) (k := kk) hi.out.2.1 (by have := H32.out; omega) (by have := hkl.out; have := hi.out; omega) hi.out.2.2.2)
        refine ⟨⟨i + 1, X, ?_, ⟨by have := H32.out; omega, hi.out.2.1, hi.out.2.2.1, ?_⟩, HX, HB⟩, ?_⟩
        · rfl
        · have h := hst.out
          rw [hq.out, if_neg Hbit.out] at h
          exact h
        · have := H32.out
          simp only [intOf]; omega
    · have h32d : decide ((i : Int) < 32) = false := decide_eq_false h32
      have hi32 : i = 32 := by have := hi.out; omega
      have hN := hi.out.2.2.2
      rw [hi32, Nat.mod_eq_of_lt hbl.out] at hN
      have hgf := Aside0.mk (spoilt_get (kk := kk) (bits := bits) Hf.out HO.out hi.out.2.1 (by rw [hi.out.2.2.1, hp.out, hpn.out]) hbl.out Hz.out (by have := hkl.out; have := hi.out; omega) (by rw [hp.out, hM.out]; exact hN))
      obtain ⟨xs, hxs⟩ : ∃ xs, Aside0 (X.map Int.ofNat = xs) := ⟨_, ⟨rfl⟩⟩
      have hxl : xs.length = pn := by rw [← hxs.out, List.length_map]; exact hi.out.2.2.1
      obtain ⟨z, hz⟩ : ∃ z : List Int, Aside0 ([] = z) := ⟨_, ⟨rfl⟩⟩
      rw [hxs.out] at hgf
      rw [hz.out] at hgf
      have HX' := HX.out
      rw [hxs.out] at HX'
      rw [← hxl] at HX'
      have HXr := Aside0.mk (Kd.R_reads' HX')
      have hcall := Aside0.mk (show Calls Try.prog 11 #[.slice (some ⟨g, 0, none⟩) pn c6] wr _ from hxl ▸ frame_Get.calls (some ⟨g, 0, none⟩) c6 xs 0 z 42 wr HXr.out.2.2 HXr.out.2.1 hgf.out)
      clear hi32 hN hxl HX'
      go_wp2_with fail
      refine hcall.out.mono ?_
      rintro e w7 ⟨A7, c7, rfl, hl7, hC7, _, hb7⟩
      have D7 := Aside0.mk (HB.out.trans ((hb7.alloc hb7.size (.cells #[.int .i64 0, .slice A7 z.length c7] 24)).mono HB.out.size))
      have HC7 := Aside0.mk (Kd.C_below hC7 ((Below.refl w7.heap.size w7).alloc (Nat.le_refl _) (.cells #[.int .i64 0, .slice A7 z.length c7] 24)))
      have hl7' := Aside0.mk hl7
      clear hb7 hC7 hl7
      go_wp2_with fail
      refine (bowlineref04_Same.calls 0 A7 c7 z 0 none 0 [] true _ HC7.out hl7'.out (Kd.C_nil _ _) (Nat.le_refl _) (by rw [← hz.out]; unfold bowlineref04_Same.f; rw [if_pos rfl, beq_self_eq_true])).mono ?_
      rintro e w8 ⟨rfl, hb8⟩
      have B8 := Aside0.mk (B2.out.trans ((D7.out.trans (hb8.mono D7.out.size)).mono B2.out.size))
      clear hb8
      go_wp2_with fail
      go_ret
      exact ⟨rfl, B8.out⟩
end Go.Proofs.Ytepfjmmbjbfboaa.F
