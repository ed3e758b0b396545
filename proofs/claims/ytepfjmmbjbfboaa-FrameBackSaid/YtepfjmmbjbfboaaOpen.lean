/- What reads as a datum of a type says a value of a kind: slices of structs, structs, arrays, at any depth. By this session. -/
import Derived.Test.YtepfjmmbjbfboaaWWords
import Derived.WalkKit
import Derived.ProofKit
import Derived.OpenShut
import Derived.SizedLaws
import Derived.Deep.Slices
namespace Go.Proofs.Ytepfjmmbjbfboaa
open Go.RowKit Go.Deep Go.Proofs.YtepfjmmbjbfboaaW.PrintWords
set_option linter.unusedVariables false
set_option linter.unusedSectionVars false

/-- Whatever reads as a datum of type t, its rows no longer than the form's reach, is a value of kind d that is good. -/
structure Opens (P : Program) {α : Type} (d : Kd α) (good : α → Prop) (t : TypeId) : Prop where
  sz : P.cellsOf t = d.sz
  op : ∀ (H : Type) (enc : TypeId × Value → H) (w : World) (base : Nat) (spare : Nat → Bool) (held : Bool) (fuel : Nat) (cs : List Value) (x : DataW H × List MemPlace),
    DataW.trod enc P w base spare held fuel t cs = some x → (∀ n ∈ x.1.weights P t, n ≤ reachBytes) → ∃ y, d.K w y cs ∧ good y

section
variable {P : Program} {t e : TypeId}

theorem opens_int {k : IntKind} (hu : P.underlying t = some (.int k)) (hc : P.cellsOf t = 1) : Opens P (Kd.int k) (fun n => (Lit.int k n).wf = true) t :=
  ⟨hc, fun _ _ _ _ _ _ _ _ _ h _ => by
    obtain ⟨n, rfl, rfl, hw⟩ := DataW.trod_int hu h
    exact ⟨n, rfl, hw⟩⟩
theorem opens_bool (hu : P.underlying t = some .bool) (hc : P.cellsOf t = 1) : Opens P Kd.bool (fun _ => True) t :=
  ⟨hc, fun _ _ _ _ _ _ _ _ _ h _ => by
    obtain ⟨n, rfl, rfl⟩ := DataW.trod_bool hu h
    exact ⟨n, rfl, trivial⟩⟩
theorem opens_imp {α : Type} {d : Kd α} {good good' : α → Prop} (h : Opens P d good t) (hg : ∀ y, good y → good' y) : Opens P d good' t :=
  ⟨h.sz, fun H enc w base spare held fuel cs x hx hw => by
    obtain ⟨y, h1, h2⟩ := h.op H enc w base spare held fuel cs x hx hw
    exact ⟨y, h1, hg y h2⟩⟩
theorem opens_iso {α β : Type} {d : Kd α} {good : α → Prop} (h : Opens P d good t) (f : β → α) (g : α → β) (hfg : ∀ y, f (g y) = y) : Opens P (Kd.iso d f) (fun z => good (f z)) t :=
  ⟨h.sz, fun H enc w base spare held fuel cs x hx hw => by
    obtain ⟨y, h1, h2⟩ := h.op H enc w base spare held fuel cs x hx hw
    exact ⟨g y, by show d.K w (f (g y)) cs; rw [hfg]; exact h1, by show good (f (g y)); rw [hfg]; exact h2⟩⟩

theorem weights_mem_all {H : Type} : ∀ (l : List (DataW H)) (i : Nat) (d : DataW H), l[i]? = some d → ∀ n ∈ d.weights P e, n ∈ DataW.weightsAll P e l
  | [], i, d, h, _, _ => by simp at h
  | d0 :: l, 0, d, h, n, hn => by
    simp only [List.getElem?_cons_zero, Option.some.injEq] at h
    subst h
    simp only [DataW.weightsAll, List.mem_append]
    exact .inl hn
  | d0 :: l, i + 1, d, h, n, hn => by
    simp only [List.getElem?_cons_succ] at h
    simp only [DataW.weightsAll, List.mem_append]
    exact .inr (weights_mem_all l i d h n hn)

theorem opens_slice {α : Type} [Inhabited α] {d : Kd α} {good : α → Prop} (hu : P.underlying t = some (.slice e)) (hc : P.cellsOf t = 1) (he : Opens P d good e) :
    Opens P (Kd.slice e d) (fun xs => xs.length * P.bytesOf e ≤ reachBytes ∧ ∀ y ∈ xs, good y) t := by
  refine ⟨hc, fun H enc w base spare held fuel cs x hx hw => ?_⟩
  rcases open_slice hu hx with ⟨rfl, rfl⟩ | ⟨a, len, cap, m, n, D, Pl, rfl, hb, hl, hm, hmm, rfl, hel⟩
  · exact ⟨[], ⟨none, 0, rfl, Nat.le_refl _, rfl, by simp, fun h => absurd h (by simp)⟩, by simp, by simp⟩
  · have hle : len ≤ m := by rw [hmm]; split <;> omega
    have hwt : ∀ n ∈ ((((List.range len).map D).length + ((List.range (m - len)).map fun j => D (len + j)).length) * P.bytesOf e :: (DataW.weightsAll P e ((List.range len).map D) ++ DataW.weightsAll P e ((List.range (m - len)).map fun j => D (len + j)))), n ≤ reachBytes := by
      intro k hk
      apply hw
      simp only [DataW.weights, hu]
      exact hk
    have key : ∀ i, i < len → ∃ y, good y ∧ ∃ c, c.length = d.sz ∧ d.K w y c ∧ ∀ j u, c[j]? = some u → w.cell? (a.add (i * d.sz + j)) = some u := by
      intro i hi
      obtain ⟨cs', h1, h2⟩ := hel i (by omega)
      obtain ⟨y, h3, h4⟩ := he.op H enc w base spare held n cs' (D i, Pl i) h2 (fun k hk => hwt k (List.mem_cons_of_mem _ (List.mem_append_left _ (weights_mem_all _ i (D i) (by simp [hi]) k hk))))
      obtain ⟨_, h5, h6⟩ := World.cells?_some h1
      refine ⟨y, h4, cs', by rw [h5, he.sz], h3, fun j u hj => ?_⟩
      have hjl : j < cs'.length := (List.getElem?_eq_some_iff.1 hj).1
      have := h6 j (by omega)
      rw [Deep.add_add, he.sz, hj] at this
      exact this
    obtain ⟨f, hf⟩ := choose_lt key
    refine ⟨(List.range len).map f, ⟨some a, cap, by simp, by simpa using hl, by simp, by simp only [maxLen] at hm; simp; omega, fun _ => ⟨a, rfl, fun j p hj => ?_⟩⟩, ?_, ?_⟩
    · simp only [List.getElem?_map, Option.map_eq_some_iff] at hj
      obtain ⟨q, hq, rfl⟩ := hj
      obtain ⟨hq1, hq2⟩ := List.getElem?_eq_some_iff.1 hq
      simp at hq1 hq2
      subst hq2
      exact (hf j hq1).2
    · have := hwt _ List.mem_cons_self
      simp at this ⊢
      refine Nat.le_trans (Nat.mul_le_mul_right _ ?_) this
      omega
    · intro y hy
      simp only [List.mem_map, List.mem_range] at hy
      obtain ⟨i, hi, rfl⟩ := hy
      exact (hf i hi).1

/-- The fields fs, from cell off on. -/
def OpensS (P : Program) {α : Type} (d : Kd α) (good : α → Prop) (fs : List Field) (off : Nat) : Prop :=
  ∀ (H : Type) (enc : TypeId × Value → H) (w : World) (base : Nat) (spare : Nat → Bool) (held : Bool) (n : Nat) (cs : List Value) (xs : List (DataW H × List MemPlace)),
    xs.length = fs.length → (∀ (i : Nat) (f : Field), fs[i]? = some f → DataW.trod enc P w base spare held n f.type ((cs.drop f.offset).take (P.cellsOf f.type)) = xs[i]?) →
    (∀ k ∈ DataW.weightsEach P (fs.map (·.type)) (xs.map (·.1)), k ≤ reachBytes) → ∃ y, d.K w y ((cs.drop off).take d.sz) ∧ good y

theorem opensS_one {α : Type} {d : Kd α} {good : α → Prop} {f : Field} {off : Nat} (ho : f.offset = off) (h : Opens P d good f.type) : OpensS P d good [f] off := by
  intro H enc w base spare held n cs xs hl hx hw
  match xs, hl with
  | [x], _ =>
    have h0 := hx 0 f rfl
    rw [ho, h.sz] at h0
    exact h.op H enc w base spare held n _ x h0 (fun k hk => hw k (by simpa [DataW.weightsEach] using hk))
theorem opensS_cons {α β : Type} {d : Kd α} {d2 : Kd β} {good : α → Prop} {good2 : β → Prop} {f : Field} {fs : List Field} {off : Nat} (ho : f.offset = off) (h : Opens P d good f.type) (h2 : OpensS P d2 good2 fs (off + d.sz)) :
    OpensS P (Kd.pair d d2) (fun y => good y.1 ∧ good2 y.2) (f :: fs) off := by
  intro H enc w base spare held n cs xs hl hx hw
  match xs, hl with
  | x :: xs, hl =>
    have h0 := hx 0 f rfl
    rw [ho, h.sz] at h0
    obtain ⟨y, k1, k2⟩ := h.op H enc w base spare held n _ x h0 (fun k hk => hw k (by simp only [List.map_cons, DataW.weightsEach, List.mem_append]; exact .inl hk))
    obtain ⟨z, k3, k4⟩ := h2 H enc w base spare held n cs xs (by simpa using hl) (fun i g hg => hx (i + 1) g hg) (fun k hk => hw k (by simp only [List.map_cons, DataW.weightsEach, List.mem_append]; exact .inr hk))
    refine ⟨(y, z), ⟨_, _, ?_, k1, k3⟩, k2, k4⟩
    show (cs.drop off).take (d.sz + d2.sz) = _
    rw [List.take_add, List.drop_drop]
theorem opens_imp' {α : Type} {d : Kd α} {good good' : α → Prop} {fs : List Field} {off : Nat} (h : OpensS P d good fs off) (hg : ∀ y, good y → good' y) : OpensS P d good' fs off := by
  intro H enc w base spare held n cs xs hl hx hw
  obtain ⟨y, h1, h2⟩ := h H enc w base spare held n cs xs hl hx hw
  exact ⟨y, h1, hg y h2⟩
theorem opens_struct {α : Type} {d : Kd α} {good : α → Prop} {fs : Array Field} (hu : P.underlying t = some (.struct fs)) (hc : P.cellsOf t = d.sz) (h : OpensS P d good fs.toList 0) : Opens P d good t := by
  refine ⟨hc, fun H enc w base spare held fuel cs x hx hw => ?_⟩
  obtain ⟨xs, n, _, rfl, hlen, hxs, hf⟩ := DataW.trod_struct hu hx
  obtain ⟨y, h1, h2⟩ := h H enc w base spare held n cs xs (by simpa using hxs) (fun i f hi => hf i f (by simpa using hi)) (fun k hk => hw k (by simp only [DataW.weights, hu]; exact hk))
  refine ⟨y, ?_, h2⟩
  rw [List.drop_zero, ← hc, ← hlen, List.take_length] at h1
  exact h1

/-- An array of whole numbers, by its places. -/
def arrK (k : IntKind) (n : Nat) : Kd (Nat → Int) where
  sz := n
  E := []
  K := fun _ x cs => cs = (List.range n).map (fun i => Value.int k (x i))
  M := fun _ _ _ x cs => cs = (List.range n).map (fun i => Value.int k (x i))
  K_len := fun h => by rw [h]; simp
  K_one := fun h u hu => by
    rw [h] at hu
    obtain ⟨i, _, rfl⟩ := List.mem_map.1 hu
    rfl
  K_below := fun _ h => h
  K_of_M := fun h => h
  M_mono := fun _ h => h
  M_bound := fun h => h
  M_move := fun _ h => h
  M_lower := fun _ h => h
theorem opens_array {n : Nat} {k : IntKind} (hu : P.underlying t = some (.array n e)) (hc : P.cellsOf t = n) (he : P.underlying e = some (.int k)) (hce : P.cellsOf e = 1) :
    Opens P (arrK k n) (fun x => ∀ i, i < n → (Lit.int k (x i)).wf = true) t := by
  refine ⟨hc, fun H enc w base spare held fuel cs x hx hw => ?_⟩
  obtain ⟨xs, m, _, rfl, hlen, hxs, hf⟩ := DataW.trod_array hu hx
  have key : ∀ i, i < n → ∃ z : Int, cs[i]? = some (.int k z) ∧ (Lit.int k z).wf = true := by
    intro i hi
    have h1 := hf i hi
    rw [hce, Nat.mul_one, List.getElem?_eq_getElem (by omega)] at h1
    obtain ⟨z, h2, _, h3⟩ := DataW.trod_int he h1
    refine ⟨z, ?_, h3⟩
    have := congrArg (fun l => l[0]?) h2
    simpa using this
  obtain ⟨f, hf2⟩ := choose_lt key
  refine ⟨f, ?_, fun i hi => (hf2 i hi).2⟩
  show cs = _
  refine List.ext_getElem? fun i => ?_
  by_cases hi : i < n
  · rw [(hf2 i hi).1]
    simp [hi]
  · rw [List.getElem?_eq_none (by rw [hlen, hc]; omega), List.getElem?_eq_none (by simp; omega)]

/-- A slice that came in. -/
theorem opens_arg {α : Type} {d : Kd α} {good : List α → Prop} {H : Type} {enc : TypeId × Value → H} {w : World} {base : Nat} {spare : Nat → Bool} {held : Bool} {A : Option Addr} {n c : Nat} {x : DataW H} {ps : List MemPlace}
    (h : Opens P (Kd.slice e d) good t) (hx : DataW.Trod enc P w base spare held t (.slice A n c) x ps) (hw : ∀ n ∈ x.weights P t, n ≤ reachBytes) :
    ∃ xs : List α, n = xs.length ∧ n ≤ c ∧ Kd.C d w A xs.length xs ∧ good xs := by
  obtain ⟨fuel, hf⟩ := hx
  obtain ⟨y, ⟨A', c', h1, h2, h3⟩, h4⟩ := h.op H enc w base spare held fuel _ _ hf hw
  simp [Value.cells] at h1
  obtain ⟨rfl, rfl, rfl⟩ := h1
  exact ⟨y, rfl, h2, h3, h4⟩
end

section
variable {H : Type} {P : Program}
theorem weights_arg {ts : List TypeId} {ds : List (DataW H)} (hsz : (DataW.weightsEach P ts ds).all (· ≤ reachBytes) = true) {j : Nat} {t : TypeId} {d : DataW H} (ht : ts[j]? = some t) (hd : ds[j]? = some d) : ∀ n ∈ d.weights P t, n ≤ reachBytes := by
  intro n hn
  have := List.all_eq_true.1 hsz n (DataW.weights_mem_each ht hd n hn)
  simpa using this
end
end Go.Proofs.Ytepfjmmbjbfboaa
