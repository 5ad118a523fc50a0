/- Words of this session beside the print's own: a make with a capacity of its own; arrays in memory. -/
import Derived.Test.YtbclnkhcnclfoaaDoorProg
import Derived.Test.YtbclnkhcnclfoaaDoorWWords
import Derived.Test.YtbclnkhcnclfoaaDoorWLast
import Derived.Test.YtbclnkhcnclfoaaDoorWTab
import Derived.Test.YtbclnkhcnclfoaaDoorWFour
import Derived.Test.YtbclnkhcnclfoaaDoorWQPut
import Derived.Test.YtbclnkhcnclfoaaDoorWApart
import Derived.Test.YtbclnkhcnclfoaaDoorWArr
import Derived.Test.YtbclnkhcnclfoaaDoorWZeros
import Derived.Test.YtbclnkhcnclfoaaDoorWFoot
import Derived.Test.YtbclnkhcnclfoaaDoorWKept
import Derived.Test.YtbclnkhcnclfoaaDoorWShare
import Derived.Test.YtbclnkhcnclfoaaDoorWN
import Derived.Test.YtbclnkhcnclfoaaDoorWFootNe
import Derived.Test.YtbclnkhcnclfoaaDoorWAt
import Derived.Test.YtbclnkhcnclfoaaDoorWEqStruct
import Derived.Test.YtbclnkhcnclfoaaDoorWRepsOne
import Derived.Test.YtbclnkhcnclfoaaDoorWInv
import Derived.Test.YtbclnkhcnclfoaaDoorWInvWords
import Derived.Test.YtbclnkhcnclfoaaDoorWGuard
import Derived.Test.YtbclnkhcnclfoaaDoorWNEv
import Derived.Test.YtbclnkhcnclfoaaDoorWMore
namespace Go.Proofs.YtbclnkhcnclfoaaDoorW.PrintWords
open Go.RowKit
namespace Kd
section
variable {P : Program} {ops : Array Oper} {rest : List Oper} {o : Oper} {a : Act} {Q : Exit → Act → World → Prop}
theorem madeCells_take (z : Array Value) (m n : Nat) (h : m ≤ n) : (madeCells z n).toList.take m = (madeCells z m).toList := by
  apply List.ext_getElem
  · simp [size_madeCells]; omega
  · intro i h1 h2
    simp [madeCells]
theorem madeCells_encs {α : Type} (enc : α → Value) (z0 : α) (m : Nat) : (madeCells #[enc z0] m).toList = encs enc (List.replicate m z0) := by
  apply List.ext_getElem
  · simp [size_madeCells, encs]
  · intro i h1 h2
    simp [madeCells, encs, Nat.mod_one]
/-- make([]T, n, c) of scalars: n zeros, room for c. -/
theorem R_makecap {α : Type} (d : Kd α) {w0 W : World} (base e : Nat) (hgd : o.guard = none) {N : Tmp} (_hd : o.dst = some N) (t : TypeId) (x y : Operand) (ho : o.op = .makeSlice t x y) (n c : Int) (hx : a.eval x = .int .i64 n) (hy : a.eval y = .int .i64 c)
    (ht : P.underlying t = some (.slice e)) (z : Value) (bytes : Nat) (hinfo : (P.info? e).map (fun i => (i.zero, i.size, i.bytes)) = some (some z, 1, bytes)) (hb0 : 0 < bytes)
    {enc : α → Value} {h1 : ∀ x, (enc x).oneCell' = true} (hdd : d = scalar enc h1) (z0 : α) (hzero : z.cells = #[enc z0]) {ok okp : Nat → Prop} (_hok : ∀ k, okp k → ok k) (hfresh : ok W.heap.size)
    (h0 : 0 ≤ n) (hnc : n ≤ c) {K : Int} (hcK : c ≤ K) (hK : K * bytes ≤ 281474976710656) (HB : Below base w0 W) (hbase : base ≤ W.heap.size)
    (h : ∀ v1 w1, d.R e w1 base ok v1 (List.replicate n.toNat z0) → Below base w0 w1 → W.grownBy w1 none → (∃ b, v1.ownBlock = some b ∧ W.heap.size ≤ b) → wpList P ops Q rest (a.put o.dst v1) w1) : wpList P ops Q (o :: rest) a W := by
  subst hdd
  obtain ⟨i0, hi, hzz⟩ := Option.map_eq_some_iff.1 hinfo
  simp only [Prod.mk.injEq] at hzz
  obtain ⟨hz0, hz1, hz2⟩ := hzz
  have hc0 : 0 ≤ c := by omega
  have hb1 : (1 : Int) ≤ (bytes : Int) := by omega
  have hcb : (i0.bytes : Int) * c ≤ 281474976710656 := by
    rw [hz2, Int.mul_comm]
    exact Int.le_trans (Int.mul_le_mul_of_nonneg_right hcK (by omega)) hK
  have hc63 : c ≤ 281474976710656 := by
    have h3 : (1 : Int) * c ≤ (i0.bytes : Int) * c := Int.mul_le_mul_of_nonneg_right (by rw [hz2]; exact hb1) hc0
    omega
  have hr := run_make (P := P) W t e i0 z ht hi hz0 .i64 .i64 n c h0 hnc hcb (by omega)
  rw [hz1, Nat.mul_one, hzero] at hr
  have hrun : (execOp a.eval o).run P W = .ok (.value (.slice (some ⟨W.heap.size, 0, none⟩) n.toNat c.toNat)) (W.alloc (.cells (madeCells #[enc z0] c.toNat) e)) := by
    simp [execOp, ho, hx, hy, hr]
  refine event_run hgd hrun (h _ _ (R_of_own ?_ (fun k hk => ?_)) (HB.alloc hbase _) (World.grownBy_alloc W _ none) ⟨W.heap.size, by simp [Value.ownBlock], Nat.le_refl _⟩)
  · refine ⟨by simp [encs], .inr ⟨W.heap.size, c.toNat, madeCells #[enc z0] c.toNat, by simp, hbase, by simpa using heap_alloc_new W _, by simp; omega, by simp only [maxLen]; omega, by simp [size_madeCells], ?_⟩⟩
    rw [List.length_replicate, Nat.mul_one, madeCells_take _ _ _ (by omega), madeCells_encs]
  · have : W.heap.size = k := by simpa [Value.ownBlock] using hk
    subst this
    exact hfresh
end
end Kd
end Go.Proofs.YtbclnkhcnclfoaaDoorW.PrintWords
