/- '==' of two tallies, as one Bool. By this session. -/
import Derived.Test.YtpnmhhckmpeogaaPoolW
import Derived.Laws.StructEq
import Derived.ChangeKeysEq
namespace Go.Proofs.Ytpnmhhckmpeogaa
open Go.RowKit
section
variable {P : Program} {d : Nat} {xs ys : Array Value} {f : Field} {fs : List Field} {a b : Value} {r s : Bool} {w : World} {e : TypeId} {c i : Nat} {is : List Nat}
theorem eqf_cons (hn : (f.name == "_") = false) (ha : (part f.type xs f.offset).run P w = .ok a w) (hb : (part f.type ys f.offset).run P w = .ok b w) (he : (Op.equalIn d f.type a b).run P w = .ok r w) (hr : (Op.eqFields d xs ys fs).run P w = .ok s w) : (Op.eqFields d xs ys (f :: fs)).run P w = .ok (r && s) w := by
  have hn' : f.name ≠ "_" := by simpa using hn
  rw [Op.eqFields]
  simp only [if_pos hn', Sem.run_bind, ha, hb, he, Result.andThen_ok]
  cases r
  · simp
  · simpa using hr
theorem eqf_nil : (Op.eqFields d xs ys []).run P w = .ok true w := by simp [Op.eqFields]
theorem eqA_of {t : TypeId} {fs : Array Field} (hu : P.underlying t = some (.struct fs)) (hp : P.stoodInHeld t = false) (h : (Op.eqFields d xs ys fs.toList).run P w = .ok r w) : (Op.equalIn (d + 1) t (.agg xs) (.agg ys)).run P w = .ok r w := by
  have hf : P.fieldsOf t = fs := by simp [Program.fieldsOf, hu]
  rw [run_equalIn_struct (P := P) w d t xs ys (by rw [hf]; exact hu) hp, hf]
  exact h
theorem eqi_cons (ha : (part e xs (i * c)).run P w = .ok a w) (hb : (part e ys (i * c)).run P w = .ok b w) (he : (Op.equalIn d e a b).run P w = .ok r w) (hr : (Op.eqItems d e c xs ys is).run P w = .ok s w) : (Op.eqItems d e c xs ys (i :: is)).run P w = .ok (r && s) w := by
  simp only [Op.eqItems, Sem.run_bind, ha, hb, he, Result.andThen_ok]
  cases r
  · simp
  · simpa using hr
theorem eqi_nil : (Op.eqItems d e c xs ys []).run P w = .ok true w := by simp [Op.eqItems]
end

theorem eq30 (d : Nat) (w : World) (x y : Nat → Int) :
    (Op.equalIn (d + 2) 30 (.agg #[.int .i64 (x 0), .int .i64 (x 1), .int .i64 (x 2), .int .i64 (x 3), .int .i64 (x 4), .int .i64 (x 5), .int .i64 (x 6), .int .i64 (x 7), .int .i64 (x 8)]) (.agg #[.int .i64 (y 0), .int .i64 (y 1), .int .i64 (y 2), .int .i64 (y 3), .int .i64 (y 4), .int .i64 (y 5), .int .i64 (y 6), .int .i64 (y 7), .int .i64 (y 8)])).run Try.prog w =
      .ok ((x 0 == y 0) && ((x 1 == y 1) && ((x 2 == y 2) && ((x 3 == y 3) && ((x 4 == y 4) && ((x 5 == y 5) && ((x 6 == y 6) && ((x 7 == y 7) && ((x 8 == y 8) && true))))))))) w := by
  have hc : Try.prog.cellsOf 3 = 1 := by kernel_rfl
  obtain ⟨i, hi⟩ := info_of_underlying Try.underlying3
  rw [run_equalIn_array (P := Try.prog) w (d + 1) _ _ Try.underlying30 hi, hc]
  have hr : List.range 9 = [0, 1, 2, 3, 4, 5, 6, 7, 8] := rfl
  rw [hr]
  iterate 9 refine eqi_cons (by go_simp) (by go_simp) (run_equalIn_int w d 3 .i64 .i64 _ _ Try.underlying3) ?_
  exact eqi_nil

/-- Are two tallies alike? -/
def alike (s t : PS) : Bool := (s.came == t.came) && ((s.frames == t.frames) && (((s.gone 0 == t.gone 0) && ((s.gone 1 == t.gone 1) && ((s.gone 2 == t.gone 2) && ((s.gone 3 == t.gone 3) && ((s.gone 4 == t.gone 4) && ((s.gone 5 == t.gone 5) && ((s.gone 6 == t.gone 6) && ((s.gone 7 == t.gone 7) && ((s.gone 8 == t.gone 8) && true))))))))) && ((s.held == t.held) && ((s.packets == t.packets) && true))))

theorem eq38 (d : Nat) (w : World) (s t : PS) : (Op.equalIn (d + 4) 38 s.tally t.tally).run Try.prog w = .ok (alike s t) w := by
  unfold PS.tally
  refine eqA_of Try.underlying38 (by kernel_rfl) ?_
  refine eqf_cons (by rfl) (by go_simp) (by go_simp) (run_equalIn_int w (d + 2) 3 .i64 .i64 _ _ Try.underlying3) ?_
  refine eqf_cons (by rfl) (by go_simp) (by go_simp) (run_equalIn_int w (d + 2) 3 .i64 .i64 _ _ Try.underlying3) ?_
  refine eqf_cons (a := .agg #[.int .i64 (s.gone 0), .int .i64 (s.gone 1), .int .i64 (s.gone 2), .int .i64 (s.gone 3), .int .i64 (s.gone 4), .int .i64 (s.gone 5), .int .i64 (s.gone 6), .int .i64 (s.gone 7), .int .i64 (s.gone 8)]) (b := .agg #[.int .i64 (t.gone 0), .int .i64 (t.gone 1), .int .i64 (t.gone 2), .int .i64 (t.gone 3), .int .i64 (t.gone 4), .int .i64 (t.gone 5), .int .i64 (t.gone 6), .int .i64 (t.gone 7), .int .i64 (t.gone 8)]) (by rfl) (by go_simp) (by go_simp) (eq30 (d + 1) w s.gone t.gone) ?_
  refine eqf_cons (by rfl) (by go_simp) (by go_simp) (run_equalIn_int w (d + 2) 3 .i64 .i64 _ _ Try.underlying3) ?_
  refine eqf_cons (by rfl) (by go_simp) (by go_simp) (run_equalIn_int w (d + 2) 3 .i64 .i64 _ _ Try.underlying3) ?_
  exact eqf_nil
end Go.Proofs.Ytpnmhhckmpeogaa
