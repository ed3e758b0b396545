/- What sums of bytes are in plain numbers. By this session. -/
namespace Go.Proofs.Ytepfjmmbjbfboaa.Crc
/-- What stands in a byte. -/
def byte (x : Int) : Nat := (x % 256).toNat
theorem byte_lt (x : Int) : byte x < 256 := by unfold byte; omega
def poly : Nat := 3988292384
def step (s : Nat) : Nat := (s >>> 1) ^^^ (if s % 2 = 1 then poly else 0)
def steps : Nat → Nat → Nat
  | 0, s => s
  | n + 1, s => steps n (step s)
theorem poly_lt : poly < 2 ^ 32 := by decide
theorem shr1 (a : Nat) : a >>> 1 = a / 2 := by simp [Nat.shiftRight_succ]
theorem odd_xor (a b : Nat) : (a ^^^ b) % 2 = (a % 2 + b % 2) % 2 := by
  have h : (a ^^^ b) % 2 ^ 1 = (a % 2 ^ 1) ^^^ (b % 2 ^ 1) := Nat.xor_mod_two_pow
  rcases Nat.mod_two_eq_zero_or_one a with ha | ha <;> rcases Nat.mod_two_eq_zero_or_one b with hb | hb <;> simp only [Nat.pow_one] at h <;> rw [h, ha, hb] <;> rfl
theorem step_xor (a b : Nat) : step (a ^^^ b) = step a ^^^ step b := by
  unfold step
  rw [Nat.shiftRight_xor_distrib, odd_xor]
  rcases Nat.mod_two_eq_zero_or_one a with ha | ha <;> rcases Nat.mod_two_eq_zero_or_one b with hb | hb <;> simp only [ha, hb] <;> simp
  · rw [Nat.xor_assoc]
  · rw [Nat.xor_assoc, Nat.xor_assoc, Nat.xor_comm poly]
  · rw [Nat.xor_assoc, Nat.xor_comm (b >>> 1) poly, ← Nat.xor_assoc poly poly, Nat.xor_self, Nat.zero_xor]
theorem steps_xor (n a b : Nat) : steps n (a ^^^ b) = steps n a ^^^ steps n b := by
  induction n generalizing a b with
  | zero => rfl
  | succ n ih => simp only [steps]; rw [step_xor, ih]
theorem steps_add (m n s : Nat) : steps (m + n) s = steps n (steps m s) := by
  induction m generalizing s with
  | zero => rw [Nat.zero_add]; rfl
  | succ m ih => rw [Nat.succ_add]; simp only [steps]; rw [ih]
theorem step_even (a : Nat) : step (2 * a) = a := by unfold step; rw [shr1]; simp
theorem steps_shift (n a : Nat) : steps n (2 ^ n * a) = a := by
  induction n with
  | zero => simp [steps]
  | succ n ih => simp only [steps]; rw [show 2 ^ (n + 1) * a = 2 * (2 ^ n * a) by rw [Nat.pow_succ]; rw [Nat.mul_comm (2 ^ n) 2, Nat.mul_assoc], step_even, ih]
theorem step_lt {s : Nat} (h : s < 2 ^ 32) : step s < 2 ^ 32 := by
  unfold step
  refine Nat.xor_lt_two_pow ?_ ?_
  · rw [shr1]; omega
  · split
    · exact poly_lt
    · decide
theorem steps_lt {n s : Nat} (h : s < 2 ^ 32) : steps n s < 2 ^ 32 := by
  induction n generalizing s with
  | zero => exact h
  | succ n ih => exact ih (step_lt h)
theorem step_zero_of {s : Nat} (h : s < 2 ^ 32) (h0 : step s = 0) : s = 0 := by
  unfold step at h0
  rw [shr1] at h0
  split at h0
  · have h1 : s / 2 = poly := by
      have := congrArg (· ^^^ poly) h0
      simpa [Nat.xor_assoc] using this
    unfold poly at h1
    omega
  · simp at h0; omega
theorem steps_zero_of {n s : Nat} (h : s < 2 ^ 32) (h0 : steps n s = 0) : s = 0 := by
  induction n generalizing s with
  | zero => exact h0
  | succ n ih => exact step_zero_of h (ih (step_lt h) h0)
theorem xor_zero_eq {a b : Nat} (h : a ^^^ b = 0) : a = b := by
  have := congrArg (· ^^^ b) h
  simpa [Nat.xor_assoc] using this
theorem steps_inj {n a b : Nat} (ha : a < 2 ^ 32) (hb : b < 2 ^ 32) (h : steps n a = steps n b) : a = b := by
  have h2 : steps n (a ^^^ b) = 0 := by rw [steps_xor, h, Nat.xor_self]
  exact xor_zero_eq (steps_zero_of (Nat.xor_lt_two_pow ha hb) h2)
/-- Bytes as a number, the first one lowest. -/
def num : List Nat → Nat
  | [] => 0
  | c :: l => c + 256 * num l
def run : Nat → List Nat → Nat
  | s, [] => s
  | s, c :: l => run (steps 8 (s ^^^ c)) l
theorem num_cons_xor {c N : Nat} (hc : c < 256) : c + 256 * N = c ^^^ (2 ^ 8 * N) := by
  rw [Nat.add_comm]
  rw [show 256 * N + c = 2 ^ 8 * N + c by rfl, Nat.two_pow_add_eq_or_of_lt (by omega)]
  apply Nat.eq_of_testBit_eq
  intro i
  rw [Nat.testBit_or, Nat.testBit_xor, Nat.testBit_two_pow_mul]
  by_cases h : i < 8
  · rw [show decide (i ≥ 8) = false from decide_eq_false (by omega)]; simp
  · rw [Nat.testBit_lt_two_pow (x := c) (Nat.lt_of_lt_of_le (show c < 2 ^ 8 by omega) (Nat.pow_le_pow_right (by decide) (by omega)))]
    simp
theorem run_eq (l : List Nat) (hl : ∀ c ∈ l, c < 256) (s : Nat) : run s l = steps (8 * l.length) (s ^^^ num l) := by
  induction l generalizing s with
  | nil => simp [run, num, steps]
  | cons c l ih =>
    have hc := hl c (by simp)
    rw [run, ih (fun x hx => hl x (by simp [hx])), num, num_cons_xor hc, List.length_cons, show 8 * (l.length + 1) = 8 + 8 * l.length by omega, steps_add, ← Nat.xor_assoc, steps_xor 8 (s ^^^ c), steps_shift]
theorem run_append (s : Nat) (a b : List Nat) : run s (a ++ b) = run (run s a) b := by
  induction a generalizing s with
  | nil => rfl
  | cons c l ih => exact ih _
theorem run_lt {l : List Nat} (hl : ∀ c ∈ l, c < 256) {s : Nat} (hs : s < 2 ^ 32) : run s l < 2 ^ 32 := by
  induction l generalizing s with
  | nil => exact hs
  | cons c l ih => exact ih (fun x hx => hl x (by simp [hx])) (steps_lt (Nat.xor_lt_two_pow hs (Nat.lt_of_lt_of_le (hl c (by simp)) (by decide))))
def ff : Nat := 4294967295
theorem ff_lt : ff < 2 ^ 32 := by decide
def sum (l : List Nat) : Nat := run ff l ^^^ ff
theorem sum_lt {l : List Nat} (hl : ∀ c ∈ l, c < 256) : sum l < 2 ^ 32 := Nat.xor_lt_two_pow (run_lt hl ff_lt) ff_lt
/-- A sum's four bytes. -/
def four (s : Nat) : List Nat := [s % 256, s / 256 % 256, s / 65536 % 256, s / 16777216 % 256]
theorem num_four {s : Nat} (h : s < 2 ^ 32) : num (four s) = s := by simp only [four, num]; omega
theorem four_num {a b c d : Nat} (ha : a < 256) (hb : b < 256) (hc : c < 256) (hd : d < 256) : four (num [a, b, c, d]) = [a, b, c, d] := by
  simp only [four, num]
  congr 1
  · omega
  congr 1
  · omega
  congr 1
  · omega
  congr 1
  · omega
theorem num_lt {l : List Nat} (hl : ∀ c ∈ l, c < 256) : num l < 256 ^ l.length := by
  induction l with
  | nil => simp [num]
  | cons c l ih =>
    have h1 := ih (fun x hx => hl x (by simp [hx]))
    have h2 := hl c (by simp)
    rw [num, List.length_cons, Nat.pow_succ]; omega
theorem xor_cancel {a b : Nat} : a ^^^ b ^^^ b = a := by simp [Nat.xor_assoc]
def rest : Nat := 558161692
theorem rest_eq : steps 32 ff = rest ^^^ ff := by decide +kernel
/-- What was sealed has this sum, and nothing else has. -/
theorem sum_rest {l t : List Nat} (hl : ∀ c ∈ l, c < 256) (ht : ∀ c ∈ t, c < 256) (h4 : t.length = 4) : sum (l ++ t) = rest ↔ num t = sum l := by
  have hT : num t < 2 ^ 32 := by have := num_lt ht; rw [h4] at this; exact this
  have hS : run ff l < 2 ^ 32 := run_lt hl ff_lt
  have e : sum (l ++ t) = steps 32 (run ff l ^^^ num t) ^^^ ff := by rw [sum, run_append, run_eq t ht, h4]
  constructor
  · intro h
    rw [e] at h
    have h1 : steps 32 (run ff l ^^^ num t) = steps 32 ff := by
      rw [rest_eq, ← h, xor_cancel]
    have h2 := steps_inj (Nat.xor_lt_two_pow hS hT) ff_lt h1
    have h3 := congrArg (run ff l ^^^ ·) h2
    simp only [← Nat.xor_assoc, Nat.xor_self, Nat.zero_xor] at h3
    exact h3
  · intro h
    rw [e, h, sum, ← Nat.xor_assoc, Nat.xor_self, Nat.zero_xor, rest_eq, xor_cancel]
end Go.Proofs.Ytepfjmmbjbfboaa.Crc
namespace Go.Proofs.Ytepfjmmbjbfboaa.Crc
/-! ### Turned bits -/
theorem num_append (a b : List Nat) : num (a ++ b) = num a + 256 ^ a.length * num b := by
  induction a with
  | nil => simp [num]
  | cons c l ih => simp only [List.cons_append, num, ih, List.length_cons, Nat.pow_succ, Nat.mul_add]; rw [Nat.mul_comm (256 ^ l.length) 256, Nat.mul_assoc]; omega
/-- A byte of a number. -/
theorem num_testBit (l : List Nat) (hl : ∀ c ∈ l, c < 256) (i : Nat) : (num l).testBit i = (l.getD (i / 8) 0).testBit (i % 8) := by
  induction l generalizing i with
  | nil => simp [num]
  | cons c l ih =>
    have hc := hl c (by simp)
    rw [num, num_cons_xor hc, Nat.testBit_xor, Nat.testBit_two_pow_mul]
    by_cases h : i < 8
    · rw [show decide (i ≥ 8) = false from decide_eq_false (by omega)]
      rw [show i / 8 = 0 by omega, show i % 8 = i by omega]
      simp
    · rw [Nat.testBit_lt_two_pow (x := c) (Nat.lt_of_lt_of_le (show c < 2 ^ 8 by omega) (Nat.pow_le_pow_right (by decide) (by omega))), show decide (i ≥ 8) = true from decide_eq_true (by omega), ih (fun x hx => hl x (by simp [hx])), show i / 8 = (i - 8) / 8 + 1 by omega, show i % 8 = (i - 8) % 8 by omega]
      simp
/-- One bit turned. -/
theorem num_set {l : List Nat} (hl : ∀ c ∈ l, c < 256) {j : Nat} (hj : j < 8 * l.length) : num (l.set (j / 8) (l.getD (j / 8) 0 ^^^ 2 ^ (j % 8))) = num l ^^^ 2 ^ j := by
  have hj8 : j / 8 < l.length := by omega
  have hg : l.getD (j / 8) 0 < 256 := by
    rw [List.getD_eq_getElem?_getD, List.getElem?_eq_getElem hj8]; exact hl _ (List.getElem_mem _)
  have hp : 2 ^ (j % 8) < 2 ^ 8 := Nat.pow_lt_pow_right (by decide) (by omega)
  have hs : ∀ c ∈ l.set (j / 8) (l.getD (j / 8) 0 ^^^ 2 ^ (j % 8)), c < 256 := by
    intro c hc
    rcases List.mem_or_eq_of_mem_set hc with h | rfl
    · exact hl c h
    · exact Nat.xor_lt_two_pow (n := 8) hg hp
  apply Nat.eq_of_testBit_eq
  intro i
  rw [num_testBit _ hs, Nat.testBit_xor, num_testBit _ hl, Nat.testBit_two_pow]
  simp only [List.getD_eq_getElem?_getD, List.getElem?_set]
  by_cases h : j / 8 = i / 8
  · rw [if_pos h, if_pos (by omega), ← h, Option.getD_some, Nat.testBit_xor, Nat.testBit_two_pow]
    have : decide (j % 8 = i % 8) = decide (j = i) := by
      apply decide_eq_decide.2
      omega
    rw [this]
  · rw [if_neg h, show decide (j = i) = false from decide_eq_false (fun e => h (by rw [e]))]
    simp
theorem set_lt {l : List Nat} (hl : ∀ c ∈ l, c < 256) {j : Nat} (hj : j < 8 * l.length) : ∀ c ∈ l.set (j / 8) (l.getD (j / 8) 0 ^^^ 2 ^ (j % 8)), c < 256 := by
  have hj8 : j / 8 < l.length := by omega
  have hg : l.getD (j / 8) 0 < 256 := by
    rw [List.getD_eq_getElem?_getD, List.getElem?_eq_getElem hj8]; exact hl _ (List.getElem_mem _)
  have hp : 2 ^ (j % 8) < 2 ^ 8 := Nat.pow_lt_pow_right (by decide) (by omega)
  intro c hc
  rcases List.mem_or_eq_of_mem_set hc with h | rfl
  · exact hl c h
  · exact Nat.xor_lt_two_pow (n := 8) hg hp
/-- A burst is told. -/
theorem run_burst {a b : List Nat} (ha : ∀ c ∈ a, c < 256) (hb : ∀ c ∈ b, c < 256) (hlen : a.length = b.length) {k bits : Nat} (hbits : bits < 2 ^ 32) (hk : k + 32 ≤ 8 * a.length) (hn : num b = num a ^^^ (2 ^ k * bits)) (s : Nat) : run s b = run s a ↔ bits = 0 := by
  rw [run_eq a ha, run_eq b hb, hn, ← hlen, ← Nat.xor_assoc, steps_xor _ (s ^^^ num a)]
  rw [show 8 * a.length = k + (8 * a.length - k) by omega, steps_add k, steps_add k, steps_shift]
  constructor
  · intro h
    have h2 := congrArg (steps (8 * a.length - k) (steps k (s ^^^ num a)) ^^^ ·) h
    simp only [← Nat.xor_assoc, Nat.xor_self, Nat.zero_xor] at h2
    exact steps_zero_of hbits h2
  · rintro rfl
    have : ∀ n, steps n 0 = 0 := by intro n; induction n with
      | zero => rfl
      | succ n ih => exact ih
    rw [this]; simp
/-! ### Zeros -/
def noback : Nat → Nat → Bool
  | 0, _ => true
  | n + 1, s => let t := steps 8 s; t != ff && noback n t
theorem noback_ok : noback 256 ff = true := by decide +kernel
theorem noback_at {n : Nat} {s : Nat} (h : noback n s = true) {j : Nat} (h1 : 1 ≤ j) (hj : j ≤ n) : steps (8 * j) s ≠ ff := by
  induction n generalizing s j with
  | zero => omega
  | succ n ih =>
    simp only [noback, Bool.and_eq_true, bne_iff_ne, ne_eq] at h
    rcases Nat.lt_or_ge 1 j with h2 | h2
    · have := ih h.2 (j := j - 1) (by omega) (by omega)
      rw [← steps_add] at this
      rwa [show 8 + 8 * (j - 1) = 8 * j by omega] at this
    · obtain rfl : j = 1 := by omega
      exact h.1
theorem num_zeros (n : Nat) : num (List.replicate n 0) = 0 := by
  induction n with
  | zero => rfl
  | succ n ih => rw [List.replicate_succ, num, ih]
theorem run_zeros (s n : Nat) : run s (List.replicate n 0) = steps (8 * n) s := by
  rw [run_eq _ (by intro c hc; rw [(List.mem_replicate.1 hc).2]; decide), num_zeros, List.length_replicate, Nat.xor_zero]
theorem zeros_lt {n k : Nat} (hk : k ≤ 256) (h : n < k) : sum (List.replicate n 0) ≠ sum (List.replicate k 0) := by
  intro e
  have e2 : steps (8 * n) ff = steps (8 * k) ff := by
    have := congrArg (· ^^^ ff) e
    simp only [sum, xor_cancel, run_zeros] at this
    exact this
  rw [show 8 * k = 8 * (k - n) + 8 * n by omega, steps_add] at e2
  exact noback_at noback_ok (j := k - n) (by omega) (by omega) (steps_inj ff_lt (steps_lt ff_lt) e2).symm
theorem zeros_iff {n k : Nat} (hn : n ≤ 256) (hk : k ≤ 256) : sum (List.replicate n 0) = sum (List.replicate k 0) ↔ n = k := by
  constructor
  · intro h
    rcases Nat.lt_trichotomy n k with h1 | h1 | h1
    · exact absurd h (zeros_lt hk h1)
    · exact h1
    · exact absurd h.symm (zeros_lt hn h1)
  · rintro rfl; rfl
/-! ### Bytes xored -/
theorem run_xor : ∀ (a b : List Nat) (s t : Nat), a.length = b.length → run (s ^^^ t) (List.zipWith (· ^^^ ·) a b) = run s a ^^^ run t b
  | [], [], s, t, _ => rfl
  | x :: a, y :: b, s, t, h => by
    simp only [List.zipWith_cons_cons, run]
    rw [← run_xor a b _ _ (by simpa using h), ← steps_xor]
    congr 2
    rw [Nat.xor_assoc, Nat.xor_assoc]; congr 1
    rw [← Nat.xor_assoc, ← Nat.xor_assoc, Nat.xor_comm t x]
theorem sum_xor {a b : List Nat} (h : a.length = b.length) : sum (List.zipWith (· ^^^ ·) a b) ^^^ sum a ^^^ sum b ^^^ sum (List.replicate a.length 0) = 0 := by
  have h1 := run_xor a b ff 0 h
  have h2 := run_xor b (List.replicate a.length 0) 0 ff (by simp [h])
  have h3 : List.zipWith (· ^^^ ·) b (List.replicate a.length 0) = b := by
    rw [h]; clear h h1 h2
    induction b with
    | nil => rfl
    | cons x b ih => simp [List.replicate_succ, ih]
  rw [h3, Nat.zero_xor] at h2
  rw [Nat.xor_zero] at h1
  unfold sum
  rw [h1, h2]
  generalize run ff a = A
  generalize run 0 b = B
  generalize run ff _ = C
  apply Nat.eq_of_testBit_eq
  intro i
  simp only [Nat.testBit_xor, Nat.zero_testBit]
  cases A.testBit i <;> cases B.testBit i <;> cases C.testBit i <;> cases ff.testBit i <;> rfl
end Go.Proofs.Ytepfjmmbjbfboaa.Crc
