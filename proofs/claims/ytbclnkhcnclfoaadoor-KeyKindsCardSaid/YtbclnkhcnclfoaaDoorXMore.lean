/- Words of this session beside the print's own: blocks of numbers, a string's iterator, a look-up in the call's own map of bools, trimming. -/
import Derived.Test.YtbclnkhcnclfoaaDoorProg
import Derived.Test.YtbclnkhcnclfoaaDoorWWords
import Derived.Test.YtbclnkhcnclfoaaDoorWLast
import Derived.Test.YtbclnkhcnclfoaaDoorWTab
import Derived.Test.YtbclnkhcnclfoaaDoorWFour
import Derived.Test.YtbclnkhcnclfoaaDoorWQPut
import Derived.Test.YtbclnkhcnclfoaaDoorWApart
import Derived.Test.YtbclnkhcnclfoaaDoorWArr
import Derived.Test.YtbclnkhcnclfoaaDoorWZeros
import Derived.Test.YtbclnkhcnclfoaaDoorWFoot
import Derived.Test.YtbclnkhcnclfoaaDoorWKept
import Derived.Test.YtbclnkhcnclfoaaDoorWShare
import Derived.Test.YtbclnkhcnclfoaaDoorWN
import Derived.Test.YtbclnkhcnclfoaaDoorWFootNe
import Derived.Test.YtbclnkhcnclfoaaDoorWAt
import Derived.Test.YtbclnkhcnclfoaaDoorWEqStruct
import Derived.Test.YtbclnkhcnclfoaaDoorWRepsOne
import Derived.Test.YtbclnkhcnclfoaaDoorWInv
import Derived.Test.YtbclnkhcnclfoaaDoorWInvWords
import Derived.Test.YtbclnkhcnclfoaaDoorWGuard
import Derived.Test.YtbclnkhcnclfoaaDoorWNEv
import Derived.Test.YtbclnkhcnclfoaaDoorWMore
import Derived.Test.YtbclnkhcnclfoaaDoorXWords
import Derived.Lib.OthersKept
import Derived.Maps.OwnOps
import Derived.Maps.Views
import Derived.Sort.OwnSorted
import Derived.Recover
import Derived.Outline
import Derived.WalkLawsBesides
import Derived.Laws.EntriesVeiled
import Derived.StillTailTactics
import Derived.Lib.SlTrimSet
namespace Go.Proofs.YtbclnkhcnclfoaaDoorW.PrintWords
open Go.RowKit
theorem px_arr_cell {w : World} {g : Nat} {t : TypeId} {k : IntKind} {xs : List Int} (h : w.heap[g]? = some (.cells (nums k xs).toArray t (0, 0))) (i : Int) (h0 : 0 ≤ i) (h1 : i < xs.length) : w.cell? ⟨g, i.toNat, none⟩ = some (.int k (rd xs i)) := by
  rw [blk_cell h]
  have : i.toNat < xs.length := by omega
  simp [nums, rd, this]
theorem px_nums_put (k : IntKind) (xs : List Int) (i : Nat) (v : Int) : ((nums k xs).toArray).setIfInBounds i (.int k v) = (nums k (xs.set i v)).toArray := by
  simp [nums, List.map_set]
theorem px_R_blk {w : World} {g t base : Nat} {xs : List Int} {ok : Nat → Prop} (k : IntKind) (h : w.heap[g]? = some (.cells (nums k xs).toArray t (0, 0))) (hb : base ≤ g) (hl : xs.length ≤ 9223372036854775807) (hok : ok g) : Kd.R (Kd.int k) t w base ok (.slice (some ⟨g, 0, none⟩) xs.length xs.length) xs :=
  ⟨fun k hk => by
    have : g = k := by simpa [Value.ownBlock] using hk
    subst this
    exact hok, nums k xs, ⟨by simp [nums, Kd.int, Kd.scalar], .inr ⟨g, xs.length, (nums k xs).toArray, rfl, hb, h, by simp, by simpa [maxLen] using hl, by simp [nums, Kd.int, Kd.scalar], by simp only [nums, Kd.int, Kd.scalar, Nat.mul_one]; rw [List.take_of_length_le (by simp)]⟩⟩, by
    refine ⟨by simp [nums, Kd.int, Kd.scalar], fun j p hj => ?_⟩
    simp [Kd.int, Kd.scalar, nums, List.take_one, List.head?_drop, hj]⟩
theorem px_iter_put {W : World} {g k j p : Nat} {s : ByteArray} (h : W.heap[k]? = some (.stringIter s p)) (hne : k ≠ g) (u : Value) : (W.setCell ⟨g, j, none⟩ u).drew.iterPos k = p := by
  have e : (W.setCell ⟨g, j, none⟩ u).drew.heap[k]? = some (.stringIter s p) := (Below.heap_setCell W ⟨g, j, none⟩ u k hne).trans h
  simp [World.iterPos, e]
theorem px_dropWhile_nil {α : Type} (p : α → Bool) : ∀ l : List α, l.dropWhile p = [] → ∀ x ∈ l, p x = true
  | [], _, x, hx => by cases hx
  | a :: l, h, x, hx => by
    rw [List.dropWhile_cons] at h
    split at h
    · rename_i ha
      rcases List.mem_cons.1 hx with rfl | hx
      · exact ha
      · exact px_dropWhile_nil p l h x hx
    · cases h
theorem px_dropWhile_head {α : Type} (p : α → Bool) : ∀ (l : List α) (a : α) (m : List α), l.dropWhile p = a :: m → p a = false
  | [], _, _, h => by cases h
  | b :: l, a, m, h => by
    rw [List.dropWhile_cons] at h
    split at h
    · exact px_dropWhile_head p l a m h
    · rename_i hb
      injection h with h1 h2
      subst h1
      simpa using hb
theorem px_trimS_nil (l cs : List UInt8) (h : Lib.trimS l cs = []) : ∀ x ∈ l, cs.contains x = true := by
  unfold Lib.trimS Lib.trimLeftS at h
  have h1 := px_dropWhile_nil _ _ h
  unfold Lib.trimRightS at h1
  cases hd : l.reverse.dropWhile (cs.contains ·) with
  | nil =>
    intro x hx
    exact px_dropWhile_nil _ _ hd x (List.mem_reverse.2 hx)
  | cons a m =>
    have h2 := px_dropWhile_head _ _ _ _ hd
    have h3 := h1 a (by rw [hd]; simp)
    exact absurd (h3.symm.trans h2) (by simp)
theorem px_trimS_of (l cs : List UInt8) (h : ∀ x ∈ l, cs.contains x = true) : Lib.trimS l cs = [] := by
  have key : ∀ m : List UInt8, (∀ x ∈ m, cs.contains x = true) → m.dropWhile (cs.contains ·) = [] := by
    intro m
    induction m with
    | nil => intro _; rfl
    | cons a m ih =>
      intro hm
      rw [List.dropWhile_cons, if_pos (hm a (by simp))]
      exact ih fun x hx => hm x (by simp [hx])
  unfold Lib.trimS Lib.trimLeftS Lib.trimRightS
  rw [key l.reverse (fun x hx => h x (List.mem_reverse.1 hx))]
  rfl
theorem ownsMap_lookup_bool {H : Type} {P : Program} {w : World} {k t e : TypeId} {b n : Nat} {D : DataW H} (h : w.ownsMap P k (plainElem P e) b n D) (K : Go.Maps.Keyed P k) (ht : P.underlying t = some (.map k e)) (he : P.underlying e = some .bool) (hz : (zeroValue e).run P w = .ok (.bool false) w)
    {key : Value} {kl : Lit} (hkey : keyOf P k key = some kl) (c : Bool) (hat : D.atKey kl (.lit (.bool false)) = .lit (.bool c)) : (Instr.lookup t (.map (some b)) key false).run P w = .ok (.bool c) w := by
  obtain ⟨v, ps, hrun, hv⟩ := h.lookup K ht hz (plainElem_bool he false) hkey
  rw [hat] at hv
  unfold plainElem at hv
  rw [he] at hv
  cases v <;> simp at hv
  rw [hrun, hv.1]
theorem wpList_lookup_own_bool {H : Type} {P : Program} (w : World) {ops : Array Oper} {rest : List Oper} {o : Oper} {a : Act} {Q : Exit → Act → World → Prop}
    (hg : o.guard = none) (m x : Operand) (t : TypeId) (hop : o.op = Op.lookup t m x false)
    (k e : TypeId) (K : Go.Maps.Keyed P k) (ht : P.underlying t = some (.map k e)) (he : P.underlying e = some .bool) (hz : (zeroValue e).run P w = .ok (.bool false) w) (b n : Nat) (D : DataW H)
    (hm : a.eval m = .map (some b)) (hown : w.ownsMap P k (plainElem P e) b n D) (key : Value) (kl : Lit) (hx : a.eval x = key) (hkey : keyOf P k key = some kl)
    (c : Bool) (hat : D.atKey kl (.lit (.bool false)) = .lit (.bool c)) (hK : wpList P ops Q rest (a.put o.dst (.bool c)) w) :
    wpList P ops Q (o :: rest) a w := by
  refine wpList_plain hg fun K' hK' => ?_
  have hrun := ownsMap_lookup_bool hown K ht he hz hkey c hat
  unfold Oper.wp
  simp [execOp, hop, hm, hx, hrun, Result.andThen]
  exact hK' _ _ hK
end Go.Proofs.YtbclnkhcnclfoaaDoorW.PrintWords
