/- Words: what the texts of this seat's claims use of the print's words (trimmed by wip/trim.py) and of this session's. -/
import Derived.Test.YtbclnkhcnclfoaaDoorProg
import Derived.Lib.OthersKept
import Derived.Maps.OwnOps
import Derived.Maps.Views
import Derived.Sort.OwnSorted
import Derived.Recover
import Derived.Outline
import Derived.WalkLawsBesides
import Derived.Laws.EntriesVeiled
import Derived.StillTailTactics
import Derived.Lib.SlTrimSet
import Derived.Test.YtbclnkhcnclfoaaDoorCKmWa
namespace Go.Proofs.YtbclnkhcnclfoaaDoorW.PrintWords
open Go.RowKit
namespace Kd
section
variable {P : Program} {ops : Array Oper} {rest : List Oper} {o : Oper} {a : Act} {Q : Exit → Act → World → Prop}
theorem madeCells_take (z : Array Value) (m n : Nat) (h : m ≤ n) : (madeCells z n).toList.take m = (madeCells z m).toList := by
  apply List.ext_getElem
  · simp [size_madeCells]; omega
  · intro i h1 h2
    simp [madeCells]
theorem madeCells_encs {α : Type} (enc : α → Value) (z0 : α) (m : Nat) : (madeCells #[enc z0] m).toList = encs enc (List.replicate m z0) := by
  apply List.ext_getElem
  · simp [size_madeCells, encs]
  · intro i h1 h2
    simp [madeCells, encs, Nat.mod_one]
/-- make([]T, n, c) of scalars: n zeros, room for c. -/
theorem R_makecap {α : Type} (d : Kd α) {w0 W : World} (base e : Nat) (hgd : o.guard = none) {N : Tmp} (_hd : o.dst = some N) (t : TypeId) (x y : Operand) (ho : o.op = .makeSlice t x y) (n c : Int) (hx : a.eval x = .int .i64 n) (hy : a.eval y = .int .i64 c)
    (ht : P.underlying t = some (.slice e)) (z : Value) (bytes : Nat) (hinfo : (P.info? e).map (fun i => (i.zero, i.size, i.bytes)) = some (some z, 1, bytes)) (hb0 : 0 < bytes)
    {enc : α → Value} {h1 : ∀ x, (enc x).oneCell' = true} (hdd : d = scalar enc h1) (z0 : α) (hzero : z.cells = #[enc z0]) {ok okp : Nat → Prop} (_hok : ∀ k, okp k → ok k) (hfresh : ok W.heap.size)
    (h0 : 0 ≤ n) (hnc : n ≤ c) {K : Int} (hcK : c ≤ K) (hK : K * bytes ≤ 281474976710656) (HB : Below base w0 W) (hbase : base ≤ W.heap.size)
    (h : ∀ v1 w1, d.R e w1 base ok v1 (List.replicate n.toNat z0) → Below base w0 w1 → W.grownBy w1 none → (∃ b, v1.ownBlock = some b ∧ W.heap.size ≤ b) → wpList P ops Q rest (a.put o.dst v1) w1) : wpList P ops Q (o :: rest) a W := by
  subst hdd
  obtain ⟨i0, hi, hzz⟩ := Option.map_eq_some_iff.1 hinfo
  simp only [Prod.mk.injEq] at hzz
  obtain ⟨hz0, hz1, hz2⟩ := hzz
  have hc0 : 0 ≤ c := by omega
  have hb1 : (1 : Int) ≤ (bytes : Int) := by omega
  have hcb : (i0.bytes : Int) * c ≤ 281474976710656 := by
    rw [hz2, Int.mul_comm]
    exact Int.le_trans (Int.mul_le_mul_of_nonneg_right hcK (by omega)) hK
  have hc63 : c ≤ 281474976710656 := by
    have h3 : (1 : Int) * c ≤ (i0.bytes : Int) * c := Int.mul_le_mul_of_nonneg_right (by rw [hz2]; exact hb1) hc0
    omega
  have hr := run_make (P := P) W t e i0 z ht hi hz0 .i64 .i64 n c h0 hnc hcb (by omega)
  rw [hz1, Nat.mul_one, hzero] at hr
  have hrun : (execOp a.eval o).run P W = .ok (.value (.slice (some ⟨W.heap.size, 0, none⟩) n.toNat c.toNat)) (W.alloc (.cells (madeCells #[enc z0] c.toNat) e)) := by
    simp [execOp, ho, hx, hy, hr]
  refine event_run hgd hrun (h _ _ (R_of_own ?_ (fun k hk => ?_)) (HB.alloc hbase _) (World.grownBy_alloc W _ none) ⟨W.heap.size, by simp [Value.ownBlock], Nat.le_refl _⟩)
  · refine ⟨by simp [encs], .inr ⟨W.heap.size, c.toNat, madeCells #[enc z0] c.toNat, by simp, hbase, by simpa using heap_alloc_new W _, by simp; omega, by simp only [maxLen]; omega, by simp [size_madeCells], ?_⟩⟩
    rw [List.length_replicate, Nat.mul_one, madeCells_take _ _ _ (by omega), madeCells_encs]
  · have : W.heap.size = k := by simpa [Value.ownBlock] using hk
    subst this
    exact hfresh
end
end Kd
end Go.Proofs.YtbclnkhcnclfoaaDoorW.PrintWords
namespace Go.Proofs.YtbclnkhcnclfoaaDoorW.PrintWords
open Go.RowKit
theorem px_arr_cell {w : World} {g : Nat} {t : TypeId} {k : IntKind} {xs : List Int} (h : w.heap[g]? = some (.cells (nums k xs).toArray t (0, 0))) (i : Int) (h0 : 0 ≤ i) (h1 : i < xs.length) : w.cell? ⟨g, i.toNat, none⟩ = some (.int k (rd xs i)) := by
  rw [blk_cell h]
  have : i.toNat < xs.length := by omega
  simp [nums, rd, this]
theorem px_nums_put (k : IntKind) (xs : List Int) (i : Nat) (v : Int) : ((nums k xs).toArray).setIfInBounds i (.int k v) = (nums k (xs.set i v)).toArray := by
  simp [nums, List.map_set]
theorem px_R_blk {w : World} {g t base : Nat} {xs : List Int} {ok : Nat → Prop} (k : IntKind) (h : w.heap[g]? = some (.cells (nums k xs).toArray t (0, 0))) (hb : base ≤ g) (hl : xs.length ≤ 9223372036854775807) (hok : ok g) : Kd.R (Kd.int k) t w base ok (.slice (some ⟨g, 0, none⟩) xs.length xs.length) xs :=
  ⟨fun k hk => by
    have : g = k := by simpa [Value.ownBlock] using hk
    subst this
    exact hok, nums k xs, ⟨by simp [nums, Kd.int, Kd.scalar], .inr ⟨g, xs.length, (nums k xs).toArray, rfl, hb, h, by simp, by simpa [maxLen] using hl, by simp [nums, Kd.int, Kd.scalar], by simp only [nums, Kd.int, Kd.scalar, Nat.mul_one]; rw [List.take_of_length_le (by simp)]⟩⟩, by
    refine ⟨by simp [nums, Kd.int, Kd.scalar], fun j p hj => ?_⟩
    simp [Kd.int, Kd.scalar, nums, List.take_one, List.head?_drop, hj]⟩
theorem px_iter_put {W : World} {g k j p : Nat} {s : ByteArray} (h : W.heap[k]? = some (.stringIter s p)) (hne : k ≠ g) (u : Value) : (W.setCell ⟨g, j, none⟩ u).drew.iterPos k = p := by
  have e : (W.setCell ⟨g, j, none⟩ u).drew.heap[k]? = some (.stringIter s p) := (Below.heap_setCell W ⟨g, j, none⟩ u k hne).trans h
  simp [World.iterPos, e]
theorem px_dropWhile_nil {α : Type} (p : α → Bool) : ∀ l : List α, l.dropWhile p = [] → ∀ x ∈ l, p x = true
  | [], _, x, hx => by cases hx
  | a :: l, h, x, hx => by
    rw [List.dropWhile_cons] at h
    split at h
    · rename_i ha
      rcases List.mem_cons.1 hx with rfl | hx
      · exact ha
      · exact px_dropWhile_nil p l h x hx
    · cases h
theorem px_dropWhile_head {α : Type} (p : α → Bool) : ∀ (l : List α) (a : α) (m : List α), l.dropWhile p = a :: m → p a = false
  | [], _, _, h => by cases h
  | b :: l, a, m, h => by
    rw [List.dropWhile_cons] at h
    split at h
    · exact px_dropWhile_head p l a m h
    · rename_i hb
      injection h with h1 h2
      subst h1
      simpa using hb
theorem px_trimS_nil (l cs : List UInt8) (h : Lib.trimS l cs = []) : ∀ x ∈ l, cs.contains x = true := by
  unfold Lib.trimS Lib.trimLeftS at h
  have h1 := px_dropWhile_nil _ _ h
  unfold Lib.trimRightS at h1
  cases hd : l.reverse.dropWhile (cs.contains ·) with
  | nil =>
    intro x hx
    exact px_dropWhile_nil _ _ hd x (List.mem_reverse.2 hx)
  | cons a m =>
    have h2 := px_dropWhile_head _ _ _ _ hd
    have h3 := h1 a (by rw [hd]; simp)
    exact absurd (h3.symm.trans h2) (by simp)
theorem px_trimS_of (l cs : List UInt8) (h : ∀ x ∈ l, cs.contains x = true) : Lib.trimS l cs = [] := by
  have key : ∀ m : List UInt8, (∀ x ∈ m, cs.contains x = true) → m.dropWhile (cs.contains ·) = [] := by
    intro m
    induction m with
    | nil => intro _; rfl
    | cons a m ih =>
      intro hm
      rw [List.dropWhile_cons, if_pos (hm a (by simp))]
      exact ih fun x hx => hm x (by simp [hx])
  unfold Lib.trimS Lib.trimLeftS Lib.trimRightS
  rw [key l.reverse (fun x hx => h x (List.mem_reverse.1 hx))]
  rfl
theorem ownsMap_lookup_bool {H : Type} {P : Program} {w : World} {k t e : TypeId} {b n : Nat} {D : DataW H} (h : w.ownsMap P k (plainElem P e) b n D) (K : Go.Maps.Keyed P k) (ht : P.underlying t = some (.map k e)) (he : P.underlying e = some .bool) (hz : (zeroValue e).run P w = .ok (.bool false) w)
    {key : Value} {kl : Lit} (hkey : keyOf P k key = some kl) (c : Bool) (hat : D.atKey kl (.lit (.bool false)) = .lit (.bool c)) : (Instr.lookup t (.map (some b)) key false).run P w = .ok (.bool c) w := by
  obtain ⟨v, ps, hrun, hv⟩ := h.lookup K ht hz (plainElem_bool he false) hkey
  rw [hat] at hv
  unfold plainElem at hv
  rw [he] at hv
  cases v <;> simp at hv
  rw [hrun, hv.1]
theorem wpList_lookup_own_bool {H : Type} {P : Program} (w : World) {ops : Array Oper} {rest : List Oper} {o : Oper} {a : Act} {Q : Exit → Act → World → Prop}
    (hg : o.guard = none) (m x : Operand) (t : TypeId) (hop : o.op = Op.lookup t m x false)
    (k e : TypeId) (K : Go.Maps.Keyed P k) (ht : P.underlying t = some (.map k e)) (he : P.underlying e = some .bool) (hz : (zeroValue e).run P w = .ok (.bool false) w) (b n : Nat) (D : DataW H)
    (hm : a.eval m = .map (some b)) (hown : w.ownsMap P k (plainElem P e) b n D) (key : Value) (kl : Lit) (hx : a.eval x = key) (hkey : keyOf P k key = some kl)
    (c : Bool) (hat : D.atKey kl (.lit (.bool false)) = .lit (.bool c)) (hK : wpList P ops Q rest (a.put o.dst (.bool c)) w) :
    wpList P ops Q (o :: rest) a w := by
  refine wpList_plain hg fun K' hK' => ?_
  have hrun := ownsMap_lookup_bool hown K ht he hz hkey c hat
  unfold Oper.wp
  simp [execOp, hop, hm, hx, hrun, Result.andThen]
  exact hK' _ _ hK
end Go.Proofs.YtbclnkhcnclfoaaDoorW.PrintWords
