import Derived.Test.YtbclnkhcnclfoaaDoorPuHeads
import Derived.Test.YtbclnkhcnclfoaaDoorQF5
namespace Go.Proofs.YtbclnkhcnclfoaaDoor.Q
open Go.RowKit Go.Proofs.YtbclnkhcnclfoaaDoorW.PrintWords Go.Proofs.YtbclnkhcnclfoaaDoorW.PrintLast Go.Proofs.YtbclnkhcnclfoaaDoorW.PrintMore
set_option linter.unusedVariables false
set_option linter.unusedSimpArgs false
theorem keyKinds_j (a0 : Int) (l1 : List Int) : Ev (fun k => palimpsestlaw07_KeyKinds.j0 k a0 l1 true) true :=
  Ev.step (f := fun k => (palimpsestlaw07_heads.f k).bind fun t => some t) (fun k => by simp only [palimpsestlaw07_KeyKinds.j0, if_true]) (Ev.bind heads_ev (Ev.now _))
theorem key_Of.same (k : Nat) (a a' : Int) (l : List Int) (h : a % 256 = a' % 256) : key_Of.f k a l = key_Of.f k a' l := by
  unfold key_Of.f
  rw [h]
theorem keyKinds_ev (a0 : Int) (l1 : List Int) : Ev (fun k => palimpsestlaw07_KeyKinds.f k a0 l1) true := by
  unfold palimpsestlaw07_KeyKinds.f
  by_cases h1 : (l1.length : Int) > 1000
  · simp only [if_pos h1]
    exact keyKinds_j a0 l1
  · simp only [if_neg h1]
    by_cases h2 : a0 < 0
    · simp only [if_pos h2]
      exact keyKinds_j a0 l1
    · simp only [if_neg h2]
      by_cases h3 : a0 > 255
      · simp only [decide_eq_true h3]
        exact keyKinds_j a0 l1
      · simp only [decide_eq_false h3]
        have e := key_Of.ev a0 l1 (by omega)
        refine Ev.step (fun k => by simp only [palimpsestlaw07_KeyKinds.j0, Bool.false_eq_true, if_false]; rfl) ?_
        refine Ev.bind e ?_
        have e1 : ∀ k, key_Of.f k (wrap64 (a0 + 256)) l1 = key_Of.f k a0 l1 := fun k => key_Of.same k _ _ l1 (by rw [wrap_u (by omega) (by omega)]; omega)
        have e2 : ∀ k, key_Of.f k (wrap64 (a0 - 256)) l1 = key_Of.f k a0 l1 := fun k => key_Of.same k _ _ l1 (by rw [wrap_u (by omega) (by omega)]; omega)
        simp only [e1, e2]
        refine Ev.bind e ?_
        simp only [if_true]
        refine Ev.bind e ?_
        have h4 : ([] : List Int).length + l1.length < 140737488355328 := by simp; omega
        simp only [if_true, Option.bind_some, if_pos h4, List.nil_append]
        refine Ev.bind e ?_
        simp only [if_true]
        exact Ev.bind heads_ev (Ev.now _)
theorem keyKinds_pure (a0 : Int) (l1 : List Int) (w0 : (Lit.int .i64 a0).wf = true) (hm1 : l1.length ≤ maxLen) (y1 : l1.length * 1 ≤ 140737488351232) (hw1 : ∀ x ∈ l1, (Lit.int .u8 x).wf = true) : ∃ k, palimpsestlaw07_KeyKinds.f k a0 l1 = some true := (keyKinds_ev a0 l1).rounds
end Go.Proofs.YtbclnkhcnclfoaaDoor.Q
