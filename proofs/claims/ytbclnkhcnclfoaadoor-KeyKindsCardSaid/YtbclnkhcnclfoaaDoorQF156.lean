-- Laid by wip/xprint.py (a program of this session, on the kit's printer) out of the translation. Not trusted: Lean checks it.
import Derived.Test.YtbclnkhcnclfoaaDoorQ0
namespace Go.Proofs.YtbclnkhcnclfoaaDoor.Q
open Go.RowKit Go.Proofs.YtbclnkhcnclfoaaDoorW.PrintWords Go.Proofs.YtbclnkhcnclfoaaDoorW.PrintLast Go.Proofs.YtbclnkhcnclfoaaDoorW.PrintMore
attribute [local go_sem] max2_int min2_int max_two min_two max_three min_three max_four min_four   -- for this text's walks alone
set_option linter.unusedVariables false
set_option linter.unusedSimpArgs false

/-! ### bits_Add64: function 156 -/
def bits_Add64.ok (a0 a1 a2 : Int) : Prop := 0 ≤ a0 ∧ 0 ≤ a1 ∧ 0 ≤ a2 ∧ a2 ≤ 1
instance (a0 a1 a2 : Int) : Decidable (bits_Add64.ok a0 a1 a2) := by unfold bits_Add64.ok; infer_instance
def bits_Add64.val (a0 a1 a2 : Int) : Int × Int := ((a0 + a1 + a2) % 18446744073709551616, (a0 + a1 + a2) / 18446744073709551616)
def bits_Add64.f (a0 a1 a2 : Int) : Option (Int × Int) := if bits_Add64.ok a0 a1 a2 then some (bits_Add64.val a0 a1 a2) else none
theorem bits_Add64.found : Extern.find Tryd.f156 = some add64Entry := by kernel_rfl
theorem bits_Add64.nonext : Extern.findNext Tryd.f156 = none := by kernel_rfl
theorem bits_Add64.nobody : Tryd.f156.body.isNone = true := by kernel_rfl
theorem bits_Add64.named : (Tryd.f156.name == "runtime.NumGoroutine") = false := by kernel_rfl
theorem bits_Add64.run0 (a0 a1 a2 : Int) (h : bits_Add64.ok a0 a1 a2) (w : World) :
    (callFunc 156 #[.int .u64 a0, .int .u64 a1, .int .u64 a2]).run Tryd.prog w = .ok (.value (.tuple #[.int .u64 (bits_Add64.val a0 a1 a2).1, .int .u64 (bits_Add64.val a0 a1 a2).2])) w := by
  obtain ⟨h0, h1, h2, h3⟩ := h
  have e := run_callFunc_extern (e := add64Entry) Tryd.func156 bits_Add64.named bits_Add64.nobody bits_Add64.nonext bits_Add64.found #[.int .u64 a0, .int .u64 a1, .int .u64 a2] w
  rw [run_add64 a0 a1 a2 h0 h1 h2 h3 w] at e
  exact e
theorem bits_Add64.run (a0 a1 a2 r1 r2 : Int) (h : bits_Add64.f a0 a1 a2 = some (r1, r2)) : ∀ w : World,
    (callFunc 156 #[.int .u64 a0, .int .u64 a1, .int .u64 a2]).run Tryd.prog w = .ok (.value (.tuple #[.int .u64 r1, .int .u64 r2])) w := by
  intro w
  unfold bits_Add64.f at h
  split at h
  · rename_i h'
    have e := bits_Add64.run0 a0 a1 a2 h' w
    rw [Option.some.inj h] at e
    exact e
  · cases h


end Go.Proofs.YtbclnkhcnclfoaaDoor.Q
