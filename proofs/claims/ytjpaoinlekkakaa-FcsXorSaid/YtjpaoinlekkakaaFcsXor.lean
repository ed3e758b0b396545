/- FcsXor, walked. By this session. -/
import Derived.Test.YtjpaoinlekkakaaFcsLaws
namespace Go.Proofs.Ytjpaoinlekkakaa.F
open Go.RowKit Go.Proofs.YtjpaoinlekkakaaW.PrintWords Go.Proofs.YtjpaoinlekkakaaW.PrintLast Go.Proofs.YtjpaoinlekkakaaW.PrintMore
set_option linter.unusedVariables false
set_option linter.unusedSimpArgs false
attribute [local go_sem] min2_int min_two
/-- Both, xored. -/
def xorZ (a b : List Int) : List Int := List.zipWith (fun x y => Go.bits .xor .u8 x y) a b
theorem xorZ_at {a b : List Int} {k : Nat} {x y : Int} (ha : a[k]? = some x) (hb : b[k]? = some y) : (xorZ a b)[k]? = some (Go.bits .xor .u8 x y) := by
  unfold xorZ
  rw [List.getElem?_zipWith, ha, hb]
theorem xorZ_byte : ∀ {a b : List Int}, Oct a → Oct b → (xorZ a b).map Crc.byte = List.zipWith (· ^^^ ·) (a.map Crc.byte) (b.map Crc.byte)
  | [], _, _, _ => by simp [xorZ]
  | _ :: _, [], _, _ => by simp [xorZ]
  | x :: a, y :: b, ha, hb => by
    have ih := xorZ_byte (a := a) (b := b) (fun z hz => ha z (by simp [hz])) (fun z hz => hb z (by simp [hz]))
    have h1 := ha x (by simp)
    have h2 := hb y (by simp)
    have e : Crc.byte (Go.bits .xor .u8 x y) = Crc.byte x ^^^ Crc.byte y := by
      have := xor8 (a := x.toNat) (by omega) y
      rw [show ((x.toNat : Nat) : Int) = x by omega] at this
      rw [this, byte_oct h1]
      have hl : x.toNat ^^^ Crc.byte y < 2 ^ 8 := Nat.xor_lt_two_pow (n := 8) (by omega) (Crc.byte_lt y)
      unfold Crc.byte at hl ⊢
      omega
    simp only [xorZ, List.zipWith_cons_cons, List.map_cons, e]
    rw [← ih]; rfl
set_option maxHeartbeats 2000000 in
set_option maxRecDepth 100000 in
theorem xor_walk (A0 : Option Addr) (c0 : Nat) (l0 : List Int) (A1 : Option Addr) (c1 : Nat) (l1 : List Int) (w : World) (hc0 : l0.length ≤ c0) (hr0 : Kd.C (Kd.int .u8) w A0 l0.length l0) (hg0 : l0.length + 4096 ≤ 140737488355328 ∧ Oct l0) (hc1 : l1.length ≤ c1) (hr1 : Kd.C (Kd.int .u8) w A1 l1.length l1) (hg1 : l1.length + 4096 ≤ 140737488355328 ∧ Oct l1) :
    Calls Try.prog 6 #[.slice A0 l0.length c0, .slice A1 l1.length c1] w fun e w' => e = .returned (.bool true) ∧ Below w.heap.size w w' := by
  have HC0 := Aside0.mk hc0; have HR0 := Aside0.mk hr0; have HO0 := Aside0.mk hg0.2; have hl0 := hg0.1
  have HC1 := Aside0.mk hc1; have HR1 := Aside0.mk hr1; have HO1 := Aside0.mk hg1.2; have hl1 := hg1.1
  clear hc0 hr0 hg0 hc1 hr1 hg1
  obtain ⟨n, hn⟩ : ∃ n : Nat, Aside0 (n = min l0.length l1.length) := ⟨_, ⟨rfl⟩⟩
  have hn' := hn.out
  have hmn : (if (l1.length : Int) < (l0.length : Int) then (l1.length : Int) else (l0.length : Int)) = (n : Int) := by split <;> omega
  have hmn2 : (if l1.length < l0.length then (l1.length : Int) else (l0.length : Int)) = (n : Int) := by split <;> omega
  obtain ⟨x0, hx0⟩ : ∃ x, Aside0 (l0.take n = x) := ⟨_, ⟨rfl⟩⟩
  obtain ⟨x1, hx1⟩ : ∃ x, Aside0 (l1.take n = x) := ⟨_, ⟨rfl⟩⟩
  have hl0x : x0.length = n := by rw [← hx0.out, List.length_take]; omega
  have hl1x : x1.length = n := by rw [← hx1.out, List.length_take]; omega
  have ho0x := Aside0.mk (show Oct x0 from hx0.out ▸ HO0.out.take _)
  have ho1x := Aside0.mk (show Oct x1 from hx1.out ▸ HO1.out.take _)
  obtain ⟨z, hz⟩ : ∃ z, Aside0 (xorZ x0 x1 = z) := ⟨_, ⟨rfl⟩⟩
  have hlz := Aside0.mk (show z.length = n by rw [← hz.out, xorZ, List.length_zipWith]; omega)
  obtain ⟨zs, hzs⟩ : ∃ zs, Aside0 (List.replicate n (0 : Int) = zs) := ⟨_, ⟨rfl⟩⟩
  obtain ⟨s0, hs0⟩ : ∃ s : Nat, Aside0 (Crc.sum (z.map Crc.byte) = s) := ⟨_, ⟨rfl⟩⟩
  obtain ⟨s1, hs1⟩ : ∃ s : Nat, Aside0 (Crc.sum (x0.map Crc.byte) = s) := ⟨_, ⟨rfl⟩⟩
  obtain ⟨s2, hs2⟩ : ∃ s : Nat, Aside0 (Crc.sum (x1.map Crc.byte) = s) := ⟨_, ⟨rfl⟩⟩
  obtain ⟨s3, hs3⟩ : ∃ s : Nat, Aside0 (Crc.sum (zs.map Crc.byte) = s) := ⟨_, ⟨rfl⟩⟩
  obtain ⟨y1, hy1⟩ : ∃ y : Nat, Aside0 (s0 ^^^ s1 = y) := ⟨_, ⟨rfl⟩⟩
  obtain ⟨y2, hy2⟩ : ∃ y : Nat, Aside0 (y1 ^^^ s2 = y) := ⟨_, ⟨rfl⟩⟩
  have hk0 := hs0.out ▸ Crc.sum_lt (bytes_lt z)
  have hk1 := hs1.out ▸ Crc.sum_lt (bytes_lt x0)
  have hk2 := hs2.out ▸ Crc.sum_lt (bytes_lt x1)
  have hk3 := hs3.out ▸ Crc.sum_lt (bytes_lt zs)
  have hj1 : y1 < 2 ^ 32 := hy1.out ▸ Nat.xor_lt_two_pow hk0 hk1
  have hj2 : y2 < 2 ^ 32 := hy2.out ▸ Nat.xor_lt_two_pow hj1 hk2
  have he1 : Go.bits .xor .u32 (s0 : Int) (s1 : Int) = (y1 : Int) := by rw [xor32 hk0 hk1, hy1.out]
  have he2 : Go.bits .xor .u32 (y1 : Int) (s2 : Int) = (y2 : Int) := by rw [xor32 hj1 hk2, hy2.out]
  have he3 : Go.bits .xor .u32 (y2 : Int) (s3 : Int) = 0 := by
    rw [xor32 hj2 hk3, ← hy2.out, ← hy1.out, ← hs0.out, ← hs1.out, ← hs2.out, ← hs3.out, ← hz.out, xorZ_byte ho0x.out ho1x.out, ← hzs.out, List.map_replicate]
    have := Crc.sum_xor (a := x0.map Crc.byte) (b := x1.map Crc.byte) (by rw [List.length_map, List.length_map]; omega)
    rw [List.length_map, hl0x] at this
    rw [show Crc.byte 0 = 0 from rfl, this]; rfl
  have Hl0x := Aside0.mk hl0x; have Hl1x := Aside0.mk hl1x
  have hct0 : ∀ W : World, (Instr.slice 22 (.slice A0 l0.length c0) none (some (.int .i64 (n : Int))) none).run Try.prog W = .ok (.slice A0 x0.length c0) W := by
    obtain ⟨i0, hi0, hz1, hsz0, hz2⟩ := info_parts info5
    intro W
    have := cut_to (P := Try.prog) 22 5 .i64 Try.underlying22 hi0 A0 l0.length c0 (n : Int) (by omega) (by omega) HC0.out W
    rw [show ((n : Int)).toNat = x0.length by omega] at this
    exact this
  have hct1 : ∀ W : World, (Instr.slice 22 (.slice A1 l1.length c1) none (some (.int .i64 (n : Int))) none).run Try.prog W = .ok (.slice A1 x1.length c1) W := by
    obtain ⟨i0, hi0, hz1, hsz0, hz2⟩ := info_parts info5
    intro W
    have := cut_to (P := Try.prog) 22 5 .i64 Try.underlying22 hi0 A1 l1.length c1 (n : Int) (by omega) (by omega) HC1.out W
    rw [show ((n : Int)).toNat = x1.length by omega] at this
    exact this
  have Hct0 := Aside0.mk hct0; have Hct1 := Aside0.mk hct1; have He1 := Aside0.mk he1; have He2 := Aside0.mk he2; have He3 := Aside0.mk he3
  clear hct0 hct1 he1 he2 he3 hk0 hk1 hk2 hk3 hj1 hj2 hl0x hl1x
  have HCx0 : ∀ W : World, Below w.heap.size w W → Kd.C (Kd.int .u8) W A0 x0.length x0 := fun W hb => by
    have := Kd.C_take (Kd.C_below HR0.out hb) (m := n) (by omega)
    rw [hx0.out] at this; exact this
  have HCx1 : ∀ W : World, Below w.heap.size w W → Kd.C (Kd.int .u8) W A1 x1.length x1 := fun W hb => by
    have := Kd.C_take (Kd.C_below HR1.out hb) (m := n) (by omega)
    rw [hx1.out] at this; exact this
  have HX0 := Aside0.mk HCx0; have HX1 := Aside0.mk HCx1
  have hnl0 : n ≤ l0.length := by omega
  have hnl1 : n ≤ l1.length := by omega
  clear HCx0 HCx1 hn'
  go_enter Try.func6, Try.ntmps6
  go_wp2_with fail
  with_reducible refine (bowlinelaw02_head.calls true _ rfl).mono ?_
  rintro e w1 ⟨rfl, hb1⟩
  have B1 := Aside0.mk hb1
  clear hb1
  by_cases h9 : (9000 : Int) < (n : Int)
  · go_wp2_with fail
    go_ret
    exact ⟨rfl, B1.out⟩
  have hl := Aside0.mk (show ((n : Int)).toNat * 1 ≤ 281474976710656 by omega)
  go_wp2_with (
    (with_reducible refine gate_dst (N := 19) rfl ?_); refine Kd.R_make (Kd.int .u8) (w0 := w1) w1.heap.size 5 rfl rfl 22 (.tmp 18) (.tmp 18) rfl (n : Int) rfl rfl Try.underlying22 (.int .u8 0) 1 info5 rfl (by decide) (by omega) (0 : Int) (ok := fun _ => True) (okp := fun _ => True) rfl (fun _ h => h) trivial (Int.natCast_nonneg n) hl.out (Below.refl _ _) (Nat.le_refl _) ?_
    intro v2 w2 hR hB hg hat
    rw [Int.toNat_natCast, hzs.out] at hR
    have HX := Aside0.mk hR; have HB := Aside0.mk hB
    obtain ⟨A2, c2, e2⟩ := Kd.R_slice HX.out
    subst e2
    clear hR hB hg hat)
  have hzl : zs.length = n := by rw [← hzs.out, List.length_replicate]
  rw [hzl] at HX
  simp only [hzl]
  go_loopw [8] (fun v wr => ∃ (k : Nat) (xs : List Int), v = .int .i64 (k : Int) ∧ Aside0 (k ≤ n ∧ xs.length = n ∧ xs.take k = z.take k) ∧ Aside0 (Kd.R (Kd.int .u8) 5 wr w1.heap.size (fun _ => True) (.slice A2 n c2) xs) ∧ Aside0 (Below w1.heap.size w1 wr)) (fun v _ => (n - intOf v).toNat)
  case atStart => exact ⟨0, zs, rfl, ⟨Nat.zero_le _, hzl, by simp⟩, HX, HB⟩
  case round =>
    obtain ⟨k, xs, rfl, hk, HX, HB⟩ := hrel
    have BW := Aside0.mk (B1.out.trans (HB.out.mono B1.out.size))
    by_cases hkn : (k : Int) < (n : Int)
    · have hkd : decide ((k : Int) < (n : Int)) = true := decide_eq_true hkn
      obtain ⟨g, cap, hgA, hgb, hgl, _⟩ := Kd.R_form HX.out (by have := hk.out; omega)
      obtain ⟨rfl, rfl⟩ : A2 = some ⟨g, 0, none⟩ ∧ c2 = cap := by injection hgA with h1 h2 h3; exact ⟨h1, h3⟩
      clear hgA
      obtain ⟨hq, hf⟩ := Kd.R_celln (0 : Int) HX.out (k : Int) (by omega) hkn
      rw [Int.toNat_natCast] at hq hf
      obtain ⟨ad0, cs0, rfl, _, hK0, hcc0⟩ := Kd.C_get (Kd.C_below HR0.out BW.out) 0 (k : Int) (by omega) (show (k : Int) < (l0.length : Int) by omega)
      obtain ⟨a, ha⟩ : ∃ a, Aside0 (l0[k]? = some a) := ⟨_, ⟨List.getElem?_eq_getElem (by omega)⟩⟩
      obtain ⟨ad1, cs1, rfl, _, hK1, hcc1⟩ := Kd.C_get (Kd.C_below HR1.out BW.out) 0 (k : Int) (by omega) (show (k : Int) < (l1.length : Int) by omega)
      obtain ⟨b, hb⟩ : ∃ b, Aside0 (l1[k]? = some b) := ⟨_, ⟨List.getElem?_eq_getElem (by omega)⟩⟩
      have hK0' : cs0 = [.int .u8 a] := by have e : cs0 = [.int .u8 (l0.getD (k : Int).toNat 0)] := hK0; rw [e, Int.toNat_natCast, List.getD_eq_getElem?_getD, ha.out]; rfl
      have hK1' : cs1 = [.int .u8 b] := by have e : cs1 = [.int .u8 (l1.getD (k : Int).toNat 0)] := hK1; rw [e, Int.toNat_natCast, List.getD_eq_getElem?_getD, hb.out]; rfl
      subst hK0' hK1'
      have q0 : wr.cell? (ad0.add k) = some (.int .u8 a) := by have := hcc0 0 _ rfl; rw [show ((k : Int).toNat * (Kd.int .u8).sz + 0) = k from by show (k : Int).toNat * 1 + 0 = k; omega] at this; exact this
      have q1 : wr.cell? (ad1.add k) = some (.int .u8 b) := by have := hcc1 0 _ rfl; rw [show ((k : Int).toNat * (Kd.int .u8).sz + 0) = k from by show (k : Int).toNat * 1 + 0 = k; omega] at this; exact this
      have hput := Kd.R_putn HX.out (k : Int) (Go.bits .xor .u8 a b)
      rw [Int.toNat_natCast] at hput
      have HP := Aside0.mk (Kd.R_drew hput)
      have hzk := Aside0.mk (show z[k]? = some (Go.bits .xor .u8 a b) by
        rw [← hz.out]
        refine xorZ_at ?_ ?_
        · rw [← hx0.out, List.getElem?_take_of_lt (by omega)]; exact ha.out
        · rw [← hx1.out, List.getElem?_take_of_lt (by omega)]; exact hb.out)
      have hka : (k : Int) < (l0.length : Int) := by omega
      have hkb : (k : Int) < (l1.length : Int) := by omega
      have hkz : (0 : Int) ≤ (k : Int) := by omega
      clear hput hK0 hK1 hcc0 hcc1
      replace hka := eq_true hka
      replace hkb := eq_true hkb
      replace hkz := eq_true hkz
      have hkn' := Aside0.mk hkn
      replace hkn := eq_true hkn
      go_wp2_with fail
      have q0d : wr.drew.cell? (ad0.add k) = some (.int .u8 a) := q0
      have q1d : wr.drew.cell? (ad1.add k) = some (.int .u8 b) := q1
      have hqd : wr.drew.cell? ⟨g, k, none⟩ = _ := hq
      have hfd : wr.drew.frozen? ⟨g, k, none⟩ = false := hf
      -- XORL
      refine start_ (n := 13) (S := fun w' => w'.cell? (ad0.add k) = some (.int .u8 a) ∧ w'.cell? (ad1.add k) = some (.int .u8 b)) (ds := [12]) #[false, false, false, false, false, false, false, false, false, false, false, false, false] (by kernel_rfl) rfl rfl ⟨q0d, q1d⟩ (fun hHeld => ?_)
      refine pure_ (i := 0) (N := some 25) (v := ?_) (a' := ?_) #[true, false, false, false, false, false, false, false, false, false, false, false, false] rfl rfl (by kernel_rfl) (fun _ _ _ h => h) (Or.inl ⟨by rfl, ?_⟩) ?_ ?_
      rotate_left
      · intro w'
        go_simp
        with_reducible rfl
      rotate_left
      · simp only [Act.put, List.setIfInBounds_toArray, List.set_cons_zero, List.set_cons_succ, i64_w, i32_w]
        rfl
      refine pure_ (i := 1) (N := some 26) (v := ?_) (a' := ?_) #[true, true, false, false, false, false, false, false, false, false, false, false, false] rfl rfl (by kernel_rfl) (fun _ _ _ h => h) (Or.inl ⟨by rfl, ?_⟩) ?_ ?_
      rotate_left
      · intro w'
        go_simp
        with_reducible rfl
      rotate_left
      · simp only [Act.put, List.setIfInBounds_toArray, List.set_cons_zero, List.set_cons_succ, i64_w, i32_w]
        rfl
      refine pure_ (i := 2) (N := some 27) (v := ?_) (a' := ?_) #[true, true, true, false, false, false, false, false, false, false, false, false, false] rfl rfl (by kernel_rfl) (fun _ _ _ h => h) (Or.inl ⟨by rfl, ?_⟩) ?_ ?_
      rotate_left
      · intro w'
        go_simp
        with_reducible rfl
      rotate_left
      · simp only [Act.put, List.setIfInBounds_toArray, List.set_cons_zero, List.set_cons_succ, i64_w, i32_w]
        rfl
      refine pure_ (i := 3) (N := some 28) (v := ?_) (a' := ?_) #[true, true, true, true, false, false, false, false, false, false, false, false, false] rfl rfl (by kernel_rfl) (fun _ _ _ h => h) (Or.inl ⟨by rfl, ?_⟩) ?_ ?_
      rotate_left
      · intro w'
        go_simp
        with_reducible rfl
      rotate_left
      · simp only [Act.put, List.setIfInBounds_toArray, List.set_cons_zero, List.set_cons_succ, i64_w, i32_w]
        rfl
      refine pure_ (i := 4) (N := some 29) (v := ?_) (a' := ?_) #[true, true, true, true, true, false, false, false, false, false, false, false, false] rfl rfl (by kernel_rfl) (fun _ _ _ h => h) (Or.inl ⟨by rfl, ?_⟩) ?_ ?_
      rotate_left
      · intro w'
        go_simp
        with_reducible rfl
      rotate_left
      · simp only [Act.put, List.setIfInBounds_toArray, List.set_cons_zero, List.set_cons_succ, i64_w, i32_w]
        rfl
      refine pure_ (i := 6) (N := some 31) (v := ?_) (a' := ?_) #[true, true, true, true, true, false, true, false, false, false, false, false, false] rfl rfl (by kernel_rfl) (fun _ _ _ h => h) (Or.inl ⟨by rfl, ?_⟩) ?_ ?_
      rotate_left
      · intro w'
        go_simp
        with_reducible rfl
      rotate_left
      · simp only [Act.put, List.setIfInBounds_toArray, List.set_cons_zero, List.set_cons_succ, i64_w, i32_w]
        rfl
      refine pure_ (i := 7) (N := some 32) (v := ?_) (a' := ?_) #[true, true, true, true, true, false, true, true, false, false, false, false, false] rfl rfl (by kernel_rfl) (fun _ _ _ h => h) (Or.inl ⟨by rfl, ?_⟩) ?_ ?_
      rotate_left
      · intro w'
        go_simp
        with_reducible rfl
      rotate_left
      · simp only [Act.put, List.setIfInBounds_toArray, List.set_cons_zero, List.set_cons_succ, i64_w, i32_w]
        rfl
      refine pure_ (i := 8) (N := some 33) (v := ?_) (a' := ?_) #[true, true, true, true, true, false, true, true, true, false, false, false, false] rfl rfl (by kernel_rfl) (fun _ _ _ h => h) (Or.inl ⟨by rfl, ?_⟩) ?_ ?_
      rotate_left
      · intro w'
        go_simp
        with_reducible rfl
      rotate_left
      · simp only [Act.put, List.setIfInBounds_toArray, List.set_cons_zero, List.set_cons_succ, i64_w, i32_w]
        rfl
      refine take_ (i := 5) (N := some 30) (v := ?_) (a' := ?_) #[true, true, true, true, true, true, true, true, true, false, false, false, false] rfl rfl (by kernel_rfl) (fun _ _ _ h => h) (Or.inl ⟨by rfl, ?_⟩) hHeld ?_ ?_
      rotate_left
      · rintro w' ⟨s0, s1⟩
        go_simp
        with_reducible rfl
      rotate_left
      · simp only [Act.put, List.setIfInBounds_toArray, List.set_cons_zero, List.set_cons_succ, i64_w, i32_w]
        rfl
      refine take_ (i := 9) (N := some 34) (v := ?_) (a' := ?_) #[true, true, true, true, true, true, true, true, true, true, false, false, false] rfl rfl (by kernel_rfl) (fun _ _ _ h => h) (Or.inl ⟨by rfl, ?_⟩) hHeld ?_ ?_
      rotate_left
      · rintro w' ⟨s0, s1⟩
        go_simp
        with_reducible rfl
      rotate_left
      · simp only [Act.put, List.setIfInBounds_toArray, List.set_cons_zero, List.set_cons_succ, i64_w, i32_w]
        rfl
      refine pure_ (i := 10) (N := some 35) (v := ?_) (a' := ?_) #[true, true, true, true, true, true, true, true, true, true, true, false, false] rfl rfl (by kernel_rfl) (fun _ _ _ h => h) (Or.inl ⟨by rfl, ?_⟩) ?_ ?_
      rotate_left
      · intro w'
        go_simp
        with_reducible rfl
      rotate_left
      · simp only [Act.put, List.setIfInBounds_toArray, List.set_cons_zero, List.set_cons_succ, i64_w, i32_w]
        rfl
      refine pure_ (i := 11) (N := some 36) (v := ?_) (a' := ?_) #[true, true, true, true, true, true, true, true, true, true, true, true, false] rfl rfl (by kernel_rfl) (fun _ _ _ h => h) (Or.inl ⟨by rfl, ?_⟩) ?_ ?_
      rotate_left
      · intro w'
        go_simp
        with_reducible rfl
      rotate_left
      · simp only [Act.put, List.setIfInBounds_toArray, List.set_cons_zero, List.set_cons_succ, i64_w, i32_w]
        rfl
      refine last_ (i := 12) (N := none) #[true, true, true, true, true, true, true, true, true, true, true, true, true] rfl rfl (by kernel_rfl) (by decide) (fun K hK => ?_)
      refine skip_ (w1 := ?_) (by rfl) rfl ?_ ?_
      rotate_left
      · go_simp
        rfl
      refine hK.out _ _ ?_
      clear hK K
      refine done_ (by kernel_rfl) ?_
      -- END XORL
      go_wp2_with fail
      refine ⟨⟨k + 1, _, by rw [show wrap64 ((k : Int) + 1) = ((k + 1 : Nat) : Int) by unfold wrap64; have := hkn'.out; omega], ⟨?_⟩, HP, ⟨(HB.out.setCell (by simp; omega) _).drew⟩⟩, ?_⟩
      · have h := hk.out
        have h2 := hkn'.out
        refine ⟨by omega, by rw [List.length_set]; exact h.2.1, ?_⟩
        have hlt : k < z.length := by have := hlz.out; omega
        rw [List.take_succ_eq_append_getElem (by rw [List.length_set]; omega), List.take_succ_eq_append_getElem hlt, List.take_set_of_le (Nat.le_refl _), h.2.2]
        have e := hzk.out
        rw [List.getElem?_eq_getElem hlt] at e
        rw [Option.some.inj e]
        simp
      · have h2 := hkn'.out
        rw [show wrap64 ((k : Int) + 1) = ((k + 1 : Nat) : Int) by unfold wrap64; omega]
        simp only [intOf]; omega
    · have hkd : decide ((k : Int) < (n : Int)) = false := decide_eq_false hkn
      have hxz : xs = z := by
        have h := hk.out
        have hz' := hlz.out
        rw [List.take_of_length_le (by omega), List.take_of_length_le (by omega)] at h
        exact h.2.2
      rw [hxz] at HX
      have hC2 := Aside0.mk (Kd.R_reads' HX.out)
      have hlz' := hlz.out
      rw [← hlz'] at hC2
      clear hk hxz HX
      have He1' := He1.out
      have He2' := He2.out
      have He3' := He3.out
      have hct0 := Hct0.out
      have hct1 := Hct1.out
      have hs0' : fcs_Sum.f z = some (s0 : Int) := by rw [sum_eq, hs0.out]
      have hs1' : fcs_Sum.f x0 = some (s1 : Int) := by rw [sum_eq, hs1.out]
      have hs2' : fcs_Sum.f x1 = some (s2 : Int) := by rw [sum_eq, hs2.out]
      have hs3' : fcs_Sum.f zs = some (s3 : Int) := by rw [sum_eq, hs3.out]
      have HS := Aside0.mk (And.intro hs0' (And.intro hs1' (And.intro hs2' hs3')))
      clear hs0' hs1' hs2' hs3'
      have HZ := Aside0.mk (fun (W : World) (h : Kd.C (Kd.int .u8) W A2 z.length z) => (show Calls Try.prog 12 #[.slice A2 n c2] W fun e w' => e = .returned (.int .u32 (s0 : Int)) ∧ Below W.heap.size W w' by
        have := fcs_Sum.calls A2 c2 z s0 W h hC2.out.2.1 HS.out.1
        rw [hlz'] at this
        exact this))
      go_wp2_with fail
      have hu0 := (Below.refl wr.heap.size wr).drew
      -- XORR
      refine start_ (n := 21) (S := fun w' => True) (ds := []) #[false, false, false, false, false, false, false, false, false, false, false, false, false, false, false, false, false, false, false, false, false] (by kernel_rfl) rfl rfl trivial (fun hHeld => ?_)
      refine pure_ (i := 0) (N := some 37) (v := ?_) (a' := ?_) #[true, false, false, false, false, false, false, false, false, false, false, false, false, false, false, false, false, false, false, false, false] rfl rfl (by kernel_rfl) (fun _ _ _ h => h) (Or.inl ⟨by rfl, ?_⟩) ?_ ?_
      rotate_left
      · intro w'
        go_simp
        with_reducible rfl
      rotate_left
      · simp only [Act.put, List.setIfInBounds_toArray, List.set_cons_zero, List.set_cons_succ, i64_w, i32_w]
        rfl
      refine pure_ (i := 1) (N := some 38) (v := ?_) (a' := ?_) #[true, true, false, false, false, false, false, false, false, false, false, false, false, false, false, false, false, false, false, false, false] rfl rfl (by kernel_rfl) (fun _ _ _ h => h) (Or.inl ⟨by rfl, ?_⟩) ?_ ?_
      rotate_left
      · intro w'
        go_simp
        with_reducible rfl
      rotate_left
      · simp only [Act.put, List.setIfInBounds_toArray, List.set_cons_zero, List.set_cons_succ, i64_w, i32_w]
        rfl
      refine pure_ (i := 2) (N := some 39) (v := ?_) (a' := ?_) #[true, true, true, false, false, false, false, false, false, false, false, false, false, false, false, false, false, false, false, false, false] rfl rfl (by kernel_rfl) (fun _ _ _ h => h) (Or.inl ⟨by rfl, ?_⟩) ?_ ?_
      rotate_left
      · intro w'
        go_simp
        with_reducible rfl
      rotate_left
      · simp only [Act.put, List.setIfInBounds_toArray, List.set_cons_zero, List.set_cons_succ, i64_w, i32_w]
        rfl
      refine pure_ (i := 4) (N := some 41) (v := ?_) (a' := ?_) #[true, true, true, false, true, false, false, false, false, false, false, false, false, false, false, false, false, false, false, false, false] rfl rfl (by kernel_rfl) (fun _ _ _ h => h) (Or.inl ⟨by rfl, ?_⟩) ?_ ?_
      rotate_left
      · intro w'
        go_simp
        with_reducible rfl
      rotate_left
      · simp only [Act.put, List.setIfInBounds_toArray, List.set_cons_zero, List.set_cons_succ, i64_w, i32_w]
        rfl
      refine pure_ (i := 5) (N := some 42) (v := ?_) (a' := ?_) #[true, true, true, false, true, true, false, false, false, false, false, false, false, false, false, false, false, false, false, false, false] rfl rfl (by kernel_rfl) (fun _ _ _ h => h) (Or.inl ⟨by rfl, ?_⟩) ?_ ?_
      rotate_left
      · intro w'
        go_simp
        with_reducible rfl
      rotate_left
      · simp only [Act.put, List.setIfInBounds_toArray, List.set_cons_zero, List.set_cons_succ, i64_w, i32_w]
        rfl
      refine pure_ (i := 6) (N := some 43) (v := ?_) (a' := ?_) #[true, true, true, false, true, true, true, false, false, false, false, false, false, false, false, false, false, false, false, false, false] rfl rfl (by kernel_rfl) (fun _ _ _ h => h) (Or.inl ⟨by rfl, ?_⟩) ?_ ?_
      rotate_left
      · intro w'
        go_simp
        with_reducible rfl
      rotate_left
      · simp only [Act.put, List.setIfInBounds_toArray, List.set_cons_zero, List.set_cons_succ, i64_w, i32_w]
        rfl
      refine pure_ (i := 9) (N := some 46) (v := ?_) (a' := ?_) #[true, true, true, false, true, true, true, false, false, true, false, false, false, false, false, false, false, false, false, false, false] rfl rfl (by kernel_rfl) (fun _ _ _ h => h) (Or.inl ⟨by rfl, ?_⟩) ?_ ?_
      rotate_left
      · intro w'
        go_simp
        with_reducible rfl
      rotate_left
      · simp only [Act.put, List.setIfInBounds_toArray, List.set_cons_zero, List.set_cons_succ, i64_w, i32_w]
        rfl
      refine pure_ (i := 10) (N := some 47) (v := ?_) (a' := ?_) #[true, true, true, false, true, true, true, false, false, true, true, false, false, false, false, false, false, false, false, false, false] rfl rfl (by kernel_rfl) (fun _ _ _ h => h) (Or.inl ⟨by rfl, ?_⟩) ?_ ?_
      rotate_left
      · intro w'
        go_simp
        with_reducible rfl
      rotate_left
      · simp only [Act.put, List.setIfInBounds_toArray, List.set_cons_zero, List.set_cons_succ, i64_w, i32_w]
        rfl
      refine pure_ (i := 11) (N := some 48) (v := ?_) (a' := ?_) #[true, true, true, false, true, true, true, false, false, true, true, true, false, false, false, false, false, false, false, false, false] rfl rfl (by kernel_rfl) (fun _ _ _ h => h) (Or.inl ⟨by rfl, ?_⟩) ?_ ?_
      rotate_left
      · intro w'
        go_simp
        with_reducible rfl
      rotate_left
      · simp only [Act.put, List.setIfInBounds_toArray, List.set_cons_zero, List.set_cons_succ, i64_w, i32_w]
        rfl
      refine pure_ (i := 14) (N := some 51) (v := ?_) (a' := ?_) #[true, true, true, false, true, true, true, false, false, true, true, true, false, false, true, false, false, false, false, false, false] rfl rfl (by kernel_rfl) (fun _ _ _ h => h) (Or.inl ⟨by rfl, ?_⟩) ?_ ?_
      rotate_left
      · intro w'
        go_simp
        with_reducible rfl
      rotate_left
      · simp only [Act.put, List.setIfInBounds_toArray, List.set_cons_zero, List.set_cons_succ, i64_w, i32_w]
        rfl
      refine join_ (σ := Value) 5 #[true, true, true, true, true, true, true, true, true, true, true, true, true, true, true, true, false, false, false, false, false] (fun s_ => [(40, .int .u32 (s0 : Int)), (44, .int .u32 (s1 : Int)), (45, .int .u32 (y1 : Int)), (49, .int .u32 (s2 : Int)), (50, .int .u32 (y2 : Int)), (52, s_)]) (fun s_ w' => Kd.R (Kd.int .u8) 5 w' wr.heap.size (fun _ => True) s_ zs ∧ Below wr.heap.size wr w') ?_ ?_
      rotate_left
      · intro hCont
        refine two_ (i := 3) (j := 15) (Ni := some 40) (Nj := some 52) #[true, true, true, true, true, true, true, false, false, true, true, true, false, false, true, false, false, false, false, false, false] #[true, true, true, false, true, true, true, false, false, true, true, true, false, false, true, true, false, false, false, false, false] rfl rfl rfl rfl (by kernel_rfl) (by decide) (by decide) (fun K hK => ?_) (fun K hK => ?_)
        · skip
          refine goes_ Try.func12 (by kernel_rfl) rfl #[.slice A2 n c2] (by rfl) rfl rfl (by simp only [List.map_toArray, List.map_cons, List.map_nil]; rfl) ?_
          with_reducible refine (HZ.out _ (Kd.C_below hC2.out.2.2 hu0)).mono ?_
          rintro e u1 ⟨rfl, hb1⟩
          refine ⟨_, rfl, ?_⟩
          have hu1 := hu0.trans (hb1.mono hu0.size)
          refine hK.out _ _ trivial (fun hHeld => ?_)
          clear hK K
          refine norm_ (a' := ?_) ?_ ?_
          rotate_left
          · show Act.put _ (some 40) _ = _
            simp only [Act.put, List.setIfInBounds_toArray, List.set_cons_zero, List.set_cons_succ, i64_w, i32_w]
            rfl
          refine two_ (i := 7) (j := 15) (Ni := some 44) (Nj := some 52) #[true, true, true, true, true, true, true, true, false, true, true, true, false, false, true, false, false, false, false, false, false] #[true, true, true, true, true, true, true, false, false, true, true, true, false, false, true, true, false, false, false, false, false] rfl rfl rfl rfl (by kernel_rfl) (by decide) (by decide) (fun K hK => ?_) (fun K hK => ?_)
          · skip
            refine goes_ Try.func12 (by kernel_rfl) rfl #[.slice A0 x0.length c0] (by rfl) rfl rfl (by simp only [List.map_toArray, List.map_cons, List.map_nil]; rfl) ?_
            with_reducible refine (fcs_Sum.calls A0 c0 x0 s1 _ (HX0.out _ (BW.out.trans (hu1.mono BW.out.size))) (by have := Hl0x.out; have := HC0.out; omega) HS.out.2.1).mono ?_
            rintro e u2 ⟨rfl, hb2⟩
            refine ⟨_, rfl, ?_⟩
            have hu2 := hu1.trans (hb2.mono hu1.size)
            refine hK.out _ _ trivial (fun hHeld => ?_)
            clear hK K
            refine norm_ (a' := ?_) ?_ ?_
            rotate_left
            · show Act.put _ (some 44) _ = _
              simp only [Act.put, List.setIfInBounds_toArray, List.set_cons_zero, List.set_cons_succ, i64_w, i32_w]
              rfl
            refine pure_ (i := 8) (N := some 45) (v := ?_) (a' := ?_) #[true, true, true, true, true, true, true, true, true, true, true, true, false, false, true, false, false, false, false, false, false] rfl rfl (by kernel_rfl) (fun _ _ _ h => h) (Or.inl ⟨by rfl, ?_⟩) ?_ ?_
            rotate_left
            · intro w'
              go_simp
              with_reducible rfl
            rotate_left
            · simp only [Act.put, List.setIfInBounds_toArray, List.set_cons_zero, List.set_cons_succ, i64_w, i32_w]
              rfl
            refine two_ (i := 12) (j := 15) (Ni := some 49) (Nj := some 52) #[true, true, true, true, true, true, true, true, true, true, true, true, true, false, true, false, false, false, false, false, false] #[true, true, true, true, true, true, true, true, true, true, true, true, false, false, true, true, false, false, false, false, false] rfl rfl rfl rfl (by kernel_rfl) (by decide) (by decide) (fun K hK => ?_) (fun K hK => ?_)
            · skip
              refine goes_ Try.func12 (by kernel_rfl) rfl #[.slice A1 x1.length c1] (by rfl) rfl rfl (by simp only [List.map_toArray, List.map_cons, List.map_nil]; rfl) ?_
              with_reducible refine (fcs_Sum.calls A1 c1 x1 s2 _ (HX1.out _ (BW.out.trans (hu2.mono BW.out.size))) (by have := Hl1x.out; have := HC1.out; omega) HS.out.2.2.1).mono ?_
              rintro e u3 ⟨rfl, hb3⟩
              refine ⟨_, rfl, ?_⟩
              have hu3 := hu2.trans (hb3.mono hu2.size)
              refine hK.out _ _ trivial (fun hHeld => ?_)
              clear hK K
              refine norm_ (a' := ?_) ?_ ?_
              rotate_left
              · show Act.put _ (some 49) _ = _
                simp only [Act.put, List.setIfInBounds_toArray, List.set_cons_zero, List.set_cons_succ, i64_w, i32_w]
                rfl
              refine pure_ (i := 13) (N := some 50) (v := ?_) (a' := ?_) #[true, true, true, true, true, true, true, true, true, true, true, true, true, true, true, false, false, false, false, false, false] rfl rfl (by kernel_rfl) (fun _ _ _ h => h) (Or.inl ⟨by rfl, ?_⟩) ?_ ?_
              rotate_left
              · intro w'
                go_simp
                with_reducible rfl
              rotate_left
              · simp only [Act.put, List.setIfInBounds_toArray, List.set_cons_zero, List.set_cons_succ, i64_w, i32_w]
                rfl
              refine one_ (i := 15) (N := some 52) #[true, true, true, true, true, true, true, true, true, true, true, true, true, true, true, true, false, false, false, false, false] rfl rfl (by kernel_rfl) (by decide) (fun K hK => ?_)
              refine Kd.R_make_step (Kd.int .u8) (w0 := u3) (u3).heap.size 5 (by rfl) rfl 22 (.tmp 51) (.tmp 51) rfl (n : Int) rfl rfl Try.underlying22 (.int .u8 0) 1 info5 rfl (by decide) (by omega) (0 : Int) (ok := fun _ => True) (okp := fun _ => True) rfl (fun _ h => h) trivial (Int.natCast_nonneg n) hl.out (Below.refl _ _) (Nat.le_refl _) ?_
              intro v52 u4 hR52 hb4 hg hat
              rw [Int.toNat_natCast, hzs.out] at hR52
              replace hR52 := Kd.R_lower hR52 hu3.size
              clear hg hat
              have hu4 := hu3.trans (hb4.mono hu3.size)
              refine hK.out _ _ trivial (fun hHeld => ?_)
              clear hK K
              refine norm_ (a' := ?_) ?_ ?_
              rotate_left
              · show Act.put _ (some 52) _ = _
                simp only [Act.put, List.setIfInBounds_toArray, List.set_cons_zero, List.set_cons_succ, i64_w, i32_w]
                rfl
              exact norm_ (by simp only [putAll, Act.put, List.setIfInBounds_toArray, List.set_cons_zero, List.set_cons_succ]) (hCont v52 _ ⟨hR52, hu4⟩)
            · skip
              refine Kd.R_make_step (Kd.int .u8) (w0 := u2) (u2).heap.size 5 (by rfl) rfl 22 (.tmp 51) (.tmp 51) rfl (n : Int) rfl rfl Try.underlying22 (.int .u8 0) 1 info5 rfl (by decide) (by omega) (0 : Int) (ok := fun _ => True) (okp := fun _ => True) rfl (fun _ h => h) trivial (Int.natCast_nonneg n) hl.out (Below.refl _ _) (Nat.le_refl _) ?_
              intro v52 u3 hR52 hb3 hg hat
              rw [Int.toNat_natCast, hzs.out] at hR52
              replace hR52 := Kd.R_lower hR52 hu2.size
              clear hg hat
              have hu3 := hu2.trans (hb3.mono hu2.size)
              refine hK.out _ _ trivial (fun hHeld => ?_)
              clear hK K
              refine norm_ (a' := ?_) ?_ ?_
              rotate_left
              · show Act.put _ (some 52) _ = _
                simp only [Act.put, List.setIfInBounds_toArray, List.set_cons_zero, List.set_cons_succ, i64_w, i32_w]
                rfl
              refine one_ (i := 12) (N := some 49) #[true, true, true, true, true, true, true, true, true, true, true, true, true, false, true, true, false, false, false, false, false] rfl rfl (by kernel_rfl) (by decide) (fun K hK => ?_)
              refine goes_ Try.func12 (by kernel_rfl) rfl #[.slice A1 x1.length c1] (by rfl) rfl rfl (by simp only [List.map_toArray, List.map_cons, List.map_nil]; rfl) ?_
              with_reducible refine (fcs_Sum.calls A1 c1 x1 s2 _ (HX1.out _ (BW.out.trans (hu3.mono BW.out.size))) (by have := Hl1x.out; have := HC1.out; omega) HS.out.2.2.1).mono ?_
              rintro e u4 ⟨rfl, hb4⟩
              refine ⟨_, rfl, ?_⟩
              have hu4 := hu3.trans (hb4.mono hu3.size)
              have hR52_ := Kd.R_below hR52 hb4
              clear hR52
              have hR52 := hR52_
              clear hR52_
              refine hK.out _ _ trivial (fun hHeld => ?_)
              clear hK K
              refine norm_ (a' := ?_) ?_ ?_
              rotate_left
              · show Act.put _ (some 49) _ = _
                simp only [Act.put, List.setIfInBounds_toArray, List.set_cons_zero, List.set_cons_succ, i64_w, i32_w]
                rfl
              refine pure_ (i := 13) (N := some 50) (v := ?_) (a' := ?_) #[true, true, true, true, true, true, true, true, true, true, true, true, true, true, true, true, false, false, false, false, false] rfl rfl (by kernel_rfl) (fun _ _ _ h => h) (Or.inl ⟨by rfl, ?_⟩) ?_ ?_
              rotate_left
              · intro w'
                go_simp
                with_reducible rfl
              rotate_left
              · simp only [Act.put, List.setIfInBounds_toArray, List.set_cons_zero, List.set_cons_succ, i64_w, i32_w]
                rfl
              exact norm_ (by simp only [putAll, Act.put, List.setIfInBounds_toArray, List.set_cons_zero, List.set_cons_succ]) (hCont v52 _ ⟨hR52, hu4⟩)
          · skip
            refine Kd.R_make_step (Kd.int .u8) (w0 := u1) (u1).heap.size 5 (by rfl) rfl 22 (.tmp 51) (.tmp 51) rfl (n : Int) rfl rfl Try.underlying22 (.int .u8 0) 1 info5 rfl (by decide) (by omega) (0 : Int) (ok := fun _ => True) (okp := fun _ => True) rfl (fun _ h => h) trivial (Int.natCast_nonneg n) hl.out (Below.refl _ _) (Nat.le_refl _) ?_
            intro v52 u2 hR52 hb2 hg hat
            rw [Int.toNat_natCast, hzs.out] at hR52
            replace hR52 := Kd.R_lower hR52 hu1.size
            clear hg hat
            have hu2 := hu1.trans (hb2.mono hu1.size)
            refine hK.out _ _ trivial (fun hHeld => ?_)
            clear hK K
            refine norm_ (a' := ?_) ?_ ?_
            rotate_left
            · show Act.put _ (some 52) _ = _
              simp only [Act.put, List.setIfInBounds_toArray, List.set_cons_zero, List.set_cons_succ, i64_w, i32_w]
              rfl
            refine one_ (i := 7) (N := some 44) #[true, true, true, true, true, true, true, true, false, true, true, true, false, false, true, true, false, false, false, false, false] rfl rfl (by kernel_rfl) (by decide) (fun K hK => ?_)
            refine goes_ Try.func12 (by kernel_rfl) rfl #[.slice A0 x0.length c0] (by rfl) rfl rfl (by simp only [List.map_toArray, List.map_cons, List.map_nil]; rfl) ?_
            with_reducible refine (fcs_Sum.calls A0 c0 x0 s1 _ (HX0.out _ (BW.out.trans (hu2.mono BW.out.size))) (by have := Hl0x.out; have := HC0.out; omega) HS.out.2.1).mono ?_
            rintro e u3 ⟨rfl, hb3⟩
            refine ⟨_, rfl, ?_⟩
            have hu3 := hu2.trans (hb3.mono hu2.size)
            have hR52_ := Kd.R_below hR52 hb3
            clear hR52
            have hR52 := hR52_
            clear hR52_
            refine hK.out _ _ trivial (fun hHeld => ?_)
            clear hK K
            refine norm_ (a' := ?_) ?_ ?_
            rotate_left
            · show Act.put _ (some 44) _ = _
              simp only [Act.put, List.setIfInBounds_toArray, List.set_cons_zero, List.set_cons_succ, i64_w, i32_w]
              rfl
            refine pure_ (i := 8) (N := some 45) (v := ?_) (a' := ?_) #[true, true, true, true, true, true, true, true, true, true, true, true, false, false, true, true, false, false, false, false, false] rfl rfl (by kernel_rfl) (fun _ _ _ h => h) (Or.inl ⟨by rfl, ?_⟩) ?_ ?_
            rotate_left
            · intro w'
              go_simp
              with_reducible rfl
            rotate_left
            · simp only [Act.put, List.setIfInBounds_toArray, List.set_cons_zero, List.set_cons_succ, i64_w, i32_w]
              rfl
            refine one_ (i := 12) (N := some 49) #[true, true, true, true, true, true, true, true, true, true, true, true, true, false, true, true, false, false, false, false, false] rfl rfl (by kernel_rfl) (by decide) (fun K hK => ?_)
            refine goes_ Try.func12 (by kernel_rfl) rfl #[.slice A1 x1.length c1] (by rfl) rfl rfl (by simp only [List.map_toArray, List.map_cons, List.map_nil]; rfl) ?_
            with_reducible refine (fcs_Sum.calls A1 c1 x1 s2 _ (HX1.out _ (BW.out.trans (hu3.mono BW.out.size))) (by have := Hl1x.out; have := HC1.out; omega) HS.out.2.2.1).mono ?_
            rintro e u4 ⟨rfl, hb4⟩
            refine ⟨_, rfl, ?_⟩
            have hu4 := hu3.trans (hb4.mono hu3.size)
            have hR52_ := Kd.R_below hR52 hb4
            clear hR52
            have hR52 := hR52_
            clear hR52_
            refine hK.out _ _ trivial (fun hHeld => ?_)
            clear hK K
            refine norm_ (a' := ?_) ?_ ?_
            rotate_left
            · show Act.put _ (some 49) _ = _
              simp only [Act.put, List.setIfInBounds_toArray, List.set_cons_zero, List.set_cons_succ, i64_w, i32_w]
              rfl
            refine pure_ (i := 13) (N := some 50) (v := ?_) (a' := ?_) #[true, true, true, true, true, true, true, true, true, true, true, true, true, true, true, true, false, false, false, false, false] rfl rfl (by kernel_rfl) (fun _ _ _ h => h) (Or.inl ⟨by rfl, ?_⟩) ?_ ?_
            rotate_left
            · intro w'
              go_simp
              with_reducible rfl
            rotate_left
            · simp only [Act.put, List.setIfInBounds_toArray, List.set_cons_zero, List.set_cons_succ, i64_w, i32_w]
              rfl
            exact norm_ (by simp only [putAll, Act.put, List.setIfInBounds_toArray, List.set_cons_zero, List.set_cons_succ]) (hCont v52 _ ⟨hR52, hu4⟩)
        · skip
          refine Kd.R_make_step (Kd.int .u8) (w0 := wr.drew) (wr.drew).heap.size 5 (by rfl) rfl 22 (.tmp 51) (.tmp 51) rfl (n : Int) rfl rfl Try.underlying22 (.int .u8 0) 1 info5 rfl (by decide) (by omega) (0 : Int) (ok := fun _ => True) (okp := fun _ => True) rfl (fun _ h => h) trivial (Int.natCast_nonneg n) hl.out (Below.refl _ _) (Nat.le_refl _) ?_
          intro v52 u1 hR52 hb1 hg hat
          rw [Int.toNat_natCast, hzs.out] at hR52
          replace hR52 := Kd.R_lower hR52 hu0.size
          clear hg hat
          have hu1 := hu0.trans (hb1.mono hu0.size)
          refine hK.out _ _ trivial (fun hHeld => ?_)
          clear hK K
          refine norm_ (a' := ?_) ?_ ?_
          rotate_left
          · show Act.put _ (some 52) _ = _
            simp only [Act.put, List.setIfInBounds_toArray, List.set_cons_zero, List.set_cons_succ, i64_w, i32_w]
            rfl
          refine one_ (i := 3) (N := some 40) #[true, true, true, true, true, true, true, false, false, true, true, true, false, false, true, true, false, false, false, false, false] rfl rfl (by kernel_rfl) (by decide) (fun K hK => ?_)
          refine goes_ Try.func12 (by kernel_rfl) rfl #[.slice A2 n c2] (by rfl) rfl rfl (by simp only [List.map_toArray, List.map_cons, List.map_nil]; rfl) ?_
          with_reducible refine (HZ.out _ (Kd.C_below hC2.out.2.2 hu1)).mono ?_
          rintro e u2 ⟨rfl, hb2⟩
          refine ⟨_, rfl, ?_⟩
          have hu2 := hu1.trans (hb2.mono hu1.size)
          have hR52_ := Kd.R_below hR52 hb2
          clear hR52
          have hR52 := hR52_
          clear hR52_
          refine hK.out _ _ trivial (fun hHeld => ?_)
          clear hK K
          refine norm_ (a' := ?_) ?_ ?_
          rotate_left
          · show Act.put _ (some 40) _ = _
            simp only [Act.put, List.setIfInBounds_toArray, List.set_cons_zero, List.set_cons_succ, i64_w, i32_w]
            rfl
          refine one_ (i := 7) (N := some 44) #[true, true, true, true, true, true, true, true, false, true, true, true, false, false, true, true, false, false, false, false, false] rfl rfl (by kernel_rfl) (by decide) (fun K hK => ?_)
          refine goes_ Try.func12 (by kernel_rfl) rfl #[.slice A0 x0.length c0] (by rfl) rfl rfl (by simp only [List.map_toArray, List.map_cons, List.map_nil]; rfl) ?_
          with_reducible refine (fcs_Sum.calls A0 c0 x0 s1 _ (HX0.out _ (BW.out.trans (hu2.mono BW.out.size))) (by have := Hl0x.out; have := HC0.out; omega) HS.out.2.1).mono ?_
          rintro e u3 ⟨rfl, hb3⟩
          refine ⟨_, rfl, ?_⟩
          have hu3 := hu2.trans (hb3.mono hu2.size)
          have hR52_ := Kd.R_below hR52 hb3
          clear hR52
          have hR52 := hR52_
          clear hR52_
          refine hK.out _ _ trivial (fun hHeld => ?_)
          clear hK K
          refine norm_ (a' := ?_) ?_ ?_
          rotate_left
          · show Act.put _ (some 44) _ = _
            simp only [Act.put, List.setIfInBounds_toArray, List.set_cons_zero, List.set_cons_succ, i64_w, i32_w]
            rfl
          refine pure_ (i := 8) (N := some 45) (v := ?_) (a' := ?_) #[true, true, true, true, true, true, true, true, true, true, true, true, false, false, true, true, false, false, false, false, false] rfl rfl (by kernel_rfl) (fun _ _ _ h => h) (Or.inl ⟨by rfl, ?_⟩) ?_ ?_
          rotate_left
          · intro w'
            go_simp
            with_reducible rfl
          rotate_left
          · simp only [Act.put, List.setIfInBounds_toArray, List.set_cons_zero, List.set_cons_succ, i64_w, i32_w]
            rfl
          refine one_ (i := 12) (N := some 49) #[true, true, true, true, true, true, true, true, true, true, true, true, true, false, true, true, false, false, false, false, false] rfl rfl (by kernel_rfl) (by decide) (fun K hK => ?_)
          refine goes_ Try.func12 (by kernel_rfl) rfl #[.slice A1 x1.length c1] (by rfl) rfl rfl (by simp only [List.map_toArray, List.map_cons, List.map_nil]; rfl) ?_
          with_reducible refine (fcs_Sum.calls A1 c1 x1 s2 _ (HX1.out _ (BW.out.trans (hu3.mono BW.out.size))) (by have := Hl1x.out; have := HC1.out; omega) HS.out.2.2.1).mono ?_
          rintro e u4 ⟨rfl, hb4⟩
          refine ⟨_, rfl, ?_⟩
          have hu4 := hu3.trans (hb4.mono hu3.size)
          have hR52_ := Kd.R_below hR52 hb4
          clear hR52
          have hR52 := hR52_
          clear hR52_
          refine hK.out _ _ trivial (fun hHeld => ?_)
          clear hK K
          refine norm_ (a' := ?_) ?_ ?_
          rotate_left
          · show Act.put _ (some 49) _ = _
            simp only [Act.put, List.setIfInBounds_toArray, List.set_cons_zero, List.set_cons_succ, i64_w, i32_w]
            rfl
          refine pure_ (i := 13) (N := some 50) (v := ?_) (a' := ?_) #[true, true, true, true, true, true, true, true, true, true, true, true, true, true, true, true, false, false, false, false, false] rfl rfl (by kernel_rfl) (fun _ _ _ h => h) (Or.inl ⟨by rfl, ?_⟩) ?_ ?_
          rotate_left
          · intro w'
            go_simp
            with_reducible rfl
          rotate_left
          · simp only [Act.put, List.setIfInBounds_toArray, List.set_cons_zero, List.set_cons_succ, i64_w, i32_w]
            rfl
          exact norm_ (by simp only [putAll, Act.put, List.setIfInBounds_toArray, List.set_cons_zero, List.set_cons_succ]) (hCont v52 _ ⟨hR52, hu4⟩)
      rintro v52 u5 ⟨hR5, hu5⟩
      obtain ⟨A5, c5, e5⟩ := Kd.R_slice hR5
      subst e5
      have hHeld : True := trivial
      refine norm_ (a' := ?_) ?_ ?_
      rotate_left
      · simp only [putAll, Act.put, List.setIfInBounds_toArray, List.set_cons_zero, List.set_cons_succ]
        rfl
      refine one_ (i := 16) (N := some 53) #[true, true, true, true, true, true, true, true, true, true, true, true, true, true, true, true, true, false, false, false, false] rfl rfl (by kernel_rfl) (by decide) (fun K hK => ?_)
      refine goes_ Try.func12 (by kernel_rfl) rfl #[.slice A5 zs.length c5] (by rfl) rfl rfl (by simp only [List.map_toArray, List.map_cons, List.map_nil]; rfl) ?_
      with_reducible refine (fcs_Sum.calls A5 c5 zs s3 _ (Kd.R_reads' hR5).2.2 (Kd.R_reads' hR5).2.1 HS.out.2.2.2).mono ?_
      rintro e u6 ⟨rfl, hb6⟩
      refine ⟨_, rfl, ?_⟩
      have B6 := Aside0.mk (BW.out.trans ((hu5.trans (hb6.mono hu5.size)).mono BW.out.size))
      refine hK.out _ _ trivial (fun hHeld => ?_)
      clear hK K
      refine norm_ (a' := ?_) ?_ ?_
      rotate_left
      · show Act.put _ (some 53) _ = _
        simp only [Act.put, List.setIfInBounds_toArray, List.set_cons_zero, List.set_cons_succ, i64_w, i32_w]
        rfl
      refine pure_ (i := 17) (N := some 54) (v := ?_) (a' := ?_) #[true, true, true, true, true, true, true, true, true, true, true, true, true, true, true, true, true, true, false, false, false] rfl rfl (by kernel_rfl) (fun _ _ _ h => h) (Or.inl ⟨by rfl, ?_⟩) ?_ ?_
      rotate_left
      · intro w'
        go_simp
        with_reducible rfl
      rotate_left
      · simp only [Act.put, List.setIfInBounds_toArray, List.set_cons_zero, List.set_cons_succ, i64_w, i32_w]
        rfl
      refine pure_ (i := 18) (N := some 55) (v := ?_) (a' := ?_) #[true, true, true, true, true, true, true, true, true, true, true, true, true, true, true, true, true, true, true, false, false] rfl rfl (by kernel_rfl) (fun _ _ _ h => h) (Or.inl ⟨by rfl, ?_⟩) ?_ ?_
      rotate_left
      · intro w'
        go_simp
        with_reducible rfl
      rotate_left
      · simp only [Act.put, List.setIfInBounds_toArray, List.set_cons_zero, List.set_cons_succ, i64_w, i32_w]
        rfl
      refine pure_ (i := 19) (N := some 56) (v := ?_) (a' := ?_) #[true, true, true, true, true, true, true, true, true, true, true, true, true, true, true, true, true, true, true, true, false] rfl rfl (by kernel_rfl) (fun _ _ _ h => h) (Or.inl ⟨by rfl, ?_⟩) ?_ ?_
      rotate_left
      · intro w'
        go_simp
        with_reducible rfl
      rotate_left
      · simp only [Act.put, List.setIfInBounds_toArray, List.set_cons_zero, List.set_cons_succ, i64_w, i32_w]
        rfl
      refine pure_ (i := 20) (N := some 4) (v := ?_) (a' := ?_) #[true, true, true, true, true, true, true, true, true, true, true, true, true, true, true, true, true, true, true, true, true] rfl rfl (by kernel_rfl) (fun _ _ _ h => h) (Or.inl ⟨by rfl, ?_⟩) ?_ ?_
      rotate_left
      · intro w'
        go_simp
        with_reducible rfl
      rotate_left
      · simp only [Act.put, List.setIfInBounds_toArray, List.set_cons_zero, List.set_cons_succ, i64_w, i32_w]
        rfl
      refine done_ (by kernel_rfl) ?_
      -- END XORR
      go_wp2_with fail
      go_ret
      exact ⟨rfl, B6.out⟩
end Go.Proofs.Ytjpaoinlekkakaa.F
