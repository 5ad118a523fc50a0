/- Functions of the program and of the document's answers as Lean functions, with the proofs that the Go code comes to their answers; lemmas on these functions. -/
import Derived.Test.YtbclnkhcnclfoaaDoorProg
import Derived.Outline
import Derived.WalkLawsBesides
import Derived.Laws.EntriesVeiled
import Derived.Recover
import Derived.StillTailTactics
import Derived.Test.YtbclnkhcnclfoaaDoorCKbWa
import Derived.Test.YtbclnkhcnclfoaaDoorCKbWb
namespace Go.Proofs.YtbclnkhcnclfoaaDoor.Q
open Go.RowKit Go.Proofs.YtbclnkhcnclfoaaDoorW.PrintWords Go.Proofs.YtbclnkhcnclfoaaDoorW.PrintLast Go.Proofs.YtbclnkhcnclfoaaDoorW.PrintMore
attribute [local go_sem] max2_int min2_int max_two min_two max_three min_three max_four min_four   -- for this text's walks alone
set_option linter.unusedVariables false
set_option linter.unusedSimpArgs false
def errW : Option Int → Value
  | none => .nilIface
  | some c => .iface 0 (.int .i64 c)
theorem errW_none : errW none = .nilIface := rfl
theorem errW_some (c : Int) : errW (some c) = .iface 0 (.int .i64 c) := rfl
theorem info3 : (Tryd.prog.info? 3).map (fun i => (i.zero, i.size, i.bytes)) = some (some (.int .i64 0), 1, 8) := by kernel_rfl
theorem info5 : (Tryd.prog.info? 5).map (fun i => (i.zero, i.size, i.bytes)) = some (some (.int .u8 0), 1, 1) := by kernel_rfl
theorem info22 : (Tryd.prog.info? 22).map (fun i => (i.zero, i.size, i.bytes)) = some (some (.slice none 0 0), 1, 24) := by kernel_rfl
theorem info23 : (Tryd.prog.info? 23).map (fun i => (i.zero, i.size, i.bytes)) = some (some (.string ⟨#[]⟩), 1, 16) := by kernel_rfl
theorem info84 : (Tryd.prog.info? 84).map (fun i => (i.zero, i.size, i.bytes)) = some (some (.int .u64 0), 1, 8) := by kernel_rfl
theorem info121 : (Tryd.prog.info? 121).map (fun i => (i.zero, i.size, i.bytes)) = some (some (.int .u32 0), 1, 4) := by kernel_rfl
-- the values' own types
def rd_L1 (xs : List (List Int)) (i : Int) : (List Int) := xs.getD i.toNat ([] : List Int)
theorem at_L1 {w : World} {A : Option Addr} {n : Nat} {xs : List (List Int)} (h : Kd.C (Kd.slice 5 (Kd.int .u8)) w A n xs) (i : Int) (h0 : 0 ≤ i) (h1 : i < n) : ∃ ad A0 c0, A = some ad ∧ w.cell? (ad.add i.toNat) = some (.slice A0 (rd_L1 xs i).length c0) ∧ (rd_L1 xs i).length ≤ c0 ∧ (Kd.int .u8).C w A0 (rd_L1 xs i).length (rd_L1 xs i) := by
  obtain ⟨ad, c, e, _, hK, hc0⟩ := Kd.C_get h ([] : List Int) i h0 h1
  have hc : ∀ j u, c[j]? = some u → w.cell? (ad.add (i.toNat * 1 + j)) = some u := hc0
  obtain ⟨A0, c0, rfl, l0, g0⟩ := hK
  exact ⟨ad, A0, c0, e, by have hq := hc 0 _ rfl; rwa [Nat.mul_one, Nat.add_zero] at hq, l0, g0⟩
def rd_L4 (xs : List (List Int)) (i : Int) : (List Int) := xs.getD i.toNat ([] : List Int)
theorem at_L4 {w : World} {A : Option Addr} {n : Nat} {xs : List (List Int)} (h : Kd.C (Kd.slice 3 (Kd.int .i64)) w A n xs) (i : Int) (h0 : 0 ≤ i) (h1 : i < n) : ∃ ad A0 c0, A = some ad ∧ w.cell? (ad.add i.toNat) = some (.slice A0 (rd_L4 xs i).length c0) ∧ (rd_L4 xs i).length ≤ c0 ∧ (Kd.int .i64).C w A0 (rd_L4 xs i).length (rd_L4 xs i) := by
  obtain ⟨ad, c, e, _, hK, hc0⟩ := Kd.C_get h ([] : List Int) i h0 h1
  have hc : ∀ j u, c[j]? = some u → w.cell? (ad.add (i.toNat * 1 + j)) = some u := hc0
  obtain ⟨A0, c0, rfl, l0, g0⟩ := hK
  exact ⟨ad, A0, c0, e, by have hq := hc 0 _ rfl; rwa [Nat.mul_one, Nat.add_zero] at hq, l0, g0⟩
/-! #### struct type 26 -/
structure S26 where
  f0 : Int
  f1 : ByteArray
  f2 : (List Int)
def z26 : S26 := ⟨(0 : Int), (⟨#[]⟩ : ByteArray), ([] : List Int)⟩
def k26 : Kd S26 := Kd.iso (Kd.pair (Kd.int .i64) (Kd.pair Kd.string (Kd.slice 3 (Kd.int .i64)))) (fun x : S26 => (x.f0, x.f1, x.f2))
theorem k26_heap : Kd.Heap k26 := Kd.heap_iso _ (Kd.heap_pair (Kd.heap_int .i64) (Kd.heap_pair Kd.heap_string (Kd.heap_slice 3 (Kd.heap_int .i64))))
theorem k26_open {w : World} {x : S26} {cs : List Value} (h : k26.K w x cs) : ∃ A2 c2, cs = [.int .i64 x.f0, .string x.f1, .slice A2 x.f2.length c2] ∧ x.f2.length ≤ c2 ∧ (Kd.int .i64).C w A2 x.f2.length x.f2 := by
  obtain ⟨_, _, rfl, rfl, ⟨_, _, rfl, rfl, ⟨A2, c2, rfl, l2, g2⟩⟩⟩ := h
  exact ⟨A2, c2, rfl, l2, g2⟩
theorem k26_openM {w : World} {base : Nat} {ok : Nat → Prop} {x : S26} {cs : List Value} (h : k26.M w base ok x cs) : ∃ v2, cs = [.int .i64 x.f0, .string x.f1, v2] ∧ (Kd.int .i64).R 3 w base ok v2 x.f2 := by
  obtain ⟨_, _, rfl, rfl, ⟨_, _, rfl, rfl, ⟨v2, rfl, g2⟩⟩⟩ := h
  exact ⟨v2, rfl, g2⟩
theorem k26_mk (w : World) (x : S26) {A2 : Option Addr} {c2 : Nat} (l2 : x.f2.length ≤ c2) (g2 : (Kd.int .i64).C w A2 x.f2.length x.f2) : k26.K w x [.int .i64 x.f0, .string x.f1, .slice A2 x.f2.length c2] := ⟨[.int .i64 x.f0], [.string x.f1, .slice A2 x.f2.length c2], rfl, rfl, ⟨[.string x.f1], [.slice A2 x.f2.length c2], rfl, rfl, ⟨A2, c2, rfl, l2, g2⟩⟩⟩
theorem k26_mkM (w : World) (base : Nat) (ok : Nat → Prop) (x : S26) {v2 : Value} (g2 : (Kd.int .i64).R 3 w base ok v2 x.f2) : k26.M w base ok x [.int .i64 x.f0, .string x.f1, v2] := ⟨[.int .i64 x.f0], [.string x.f1, v2], rfl, rfl, ⟨[.string x.f1], [v2], rfl, rfl, ⟨v2, rfl, g2⟩⟩⟩
theorem k26_openF {W : World} {ok : Nat → Prop} {x : S26} {cs : List Value} (h : Kd.FK k26 W ok x cs) : ∃ A2 c2, cs = [.int .i64 x.f0, .string x.f1, .slice A2 x.f2.length c2] ∧ x.f2.length ≤ c2 ∧ Kd.F (Kd.int .i64) W ok A2 x.f2.length x.f2 := by
  obtain ⟨A2, c2, rfl, l2, _⟩ := k26_open (Kd.FK_now h)
  exact ⟨A2, c2, rfl, l2, (fun W' hW => by obtain ⟨A2_, c2_, he, l2_, g2_⟩ := k26_open (h W' hW); injection (Option.some.inj (show some (Value.slice A2 x.f2.length c2) = some (Value.slice A2_ x.f2.length c2_) from congrArg (fun l => l[2]?) he)) with ha_ _ _; rw [ha_]; exact g2_)⟩
theorem k26_mkF (W : World) (ok : Nat → Prop) (x : S26) {A2 : Option Addr} {c2 : Nat} (l2 : x.f2.length ≤ c2) (g2 : Kd.F (Kd.int .i64) W ok A2 x.f2.length x.f2) : Kd.FK k26 W ok x [.int .i64 x.f0, .string x.f1, .slice A2 x.f2.length c2] := fun W2 hW => k26_mk W2 x l2 (g2 W2 hW)
def rd_T26 (xs : List S26) (i : Int) : S26 := xs.getD i.toNat z26
theorem at_T26 {w : World} {A : Option Addr} {n : Nat} {xs : List S26} (h : Kd.C k26 w A n xs) (i : Int) (h0 : 0 ≤ i) (h1 : i < n) : ∃ ad A2 c2, A = some ad ∧ w.cell? (ad.add (i.toNat * 3)) = some (.int .i64 (rd_T26 xs i).f0) ∧ w.cell? ⟨(ad.add (i.toNat * 3)).block, (ad.add (i.toNat * 3)).off + 1, none⟩ = some (.string (rd_T26 xs i).f1) ∧ w.cell? ⟨(ad.add (i.toNat * 3)).block, (ad.add (i.toNat * 3)).off + 2, none⟩ = some (.slice A2 (rd_T26 xs i).f2.length c2) ∧ (rd_T26 xs i).f2.length ≤ c2 ∧ (Kd.int .i64).C w A2 (rd_T26 xs i).f2.length (rd_T26 xs i).f2 := by
  obtain ⟨ad, c, e, _, hK, hc0⟩ := Kd.C_get h z26 i h0 h1
  have hc : ∀ j u, c[j]? = some u → w.cell? (ad.add (i.toNat * 3 + j)) = some u := hc0
  obtain ⟨A2, c2, rfl, l2, g2⟩ := k26_open hK
  exact ⟨ad, A2, c2, e, hc 0 _ rfl, by rw [← add_field _ _ 1 (by omega)]; exact hc 1 _ rfl, by rw [← add_field _ _ 2 (by omega)]; exact hc 2 _ rfl, l2, g2⟩
def rd_L6 (xs : List (List (List Int))) (i : Int) : (List (List Int)) := xs.getD i.toNat ([] : List (List Int))
theorem at_L6 {w : World} {A : Option Addr} {n : Nat} {xs : List (List (List Int))} (h : Kd.C (Kd.slice 22 (Kd.slice 5 (Kd.int .u8))) w A n xs) (i : Int) (h0 : 0 ≤ i) (h1 : i < n) : ∃ ad A0 c0, A = some ad ∧ w.cell? (ad.add i.toNat) = some (.slice A0 (rd_L6 xs i).length c0) ∧ (rd_L6 xs i).length ≤ c0 ∧ (Kd.slice 5 (Kd.int .u8)).C w A0 (rd_L6 xs i).length (rd_L6 xs i) := by
  obtain ⟨ad, c, e, _, hK, hc0⟩ := Kd.C_get h ([] : List (List Int)) i h0 h1
  have hc : ∀ j u, c[j]? = some u → w.cell? (ad.add (i.toNat * 1 + j)) = some u := hc0
  obtain ⟨A0, c0, rfl, l0, g0⟩ := hK
  exact ⟨ad, A0, c0, e, by have hq := hc 0 _ rfl; rwa [Nat.mul_one, Nat.add_zero] at hq, l0, g0⟩
def rd_L9 (xs : List (List Int)) (i : Int) : (List Int) := xs.getD i.toNat ([] : List Int)
theorem at_L9 {w : World} {A : Option Addr} {n : Nat} {xs : List (List Int)} (h : Kd.C (Kd.slice 84 (Kd.int .u64)) w A n xs) (i : Int) (h0 : 0 ≤ i) (h1 : i < n) : ∃ ad A0 c0, A = some ad ∧ w.cell? (ad.add i.toNat) = some (.slice A0 (rd_L9 xs i).length c0) ∧ (rd_L9 xs i).length ≤ c0 ∧ (Kd.int .u64).C w A0 (rd_L9 xs i).length (rd_L9 xs i) := by
  obtain ⟨ad, c, e, _, hK, hc0⟩ := Kd.C_get h ([] : List Int) i h0 h1
  have hc : ∀ j u, c[j]? = some u → w.cell? (ad.add (i.toNat * 1 + j)) = some u := hc0
  obtain ⟨A0, c0, rfl, l0, g0⟩ := hK
  exact ⟨ad, A0, c0, e, by have hq := hc 0 _ rfl; rwa [Nat.mul_one, Nat.add_zero] at hq, l0, g0⟩
def rd_L10 (xs : List (List Int)) (i : Int) : (List Int) := xs.getD i.toNat ([] : List Int)
theorem at_L10 {w : World} {A : Option Addr} {n : Nat} {xs : List (List Int)} (h : Kd.C (Kd.slice 121 (Kd.int .u32)) w A n xs) (i : Int) (h0 : 0 ≤ i) (h1 : i < n) : ∃ ad A0 c0, A = some ad ∧ w.cell? (ad.add i.toNat) = some (.slice A0 (rd_L10 xs i).length c0) ∧ (rd_L10 xs i).length ≤ c0 ∧ (Kd.int .u32).C w A0 (rd_L10 xs i).length (rd_L10 xs i) := by
  obtain ⟨ad, c, e, _, hK, hc0⟩ := Kd.C_get h ([] : List Int) i h0 h1
  have hc : ∀ j u, c[j]? = some u → w.cell? (ad.add (i.toNat * 1 + j)) = some u := hc0
  obtain ⟨A0, c0, rfl, l0, g0⟩ := hK
  exact ⟨ad, A0, c0, e, by have hq := hc 0 _ rfl; rwa [Nat.mul_one, Nat.add_zero] at hq, l0, g0⟩
/-! #### struct type 95 -/
structure S95 where
  f0 : (List Int)
  f1 : (List Int)
  f2 : Int
def z95 : S95 := ⟨([] : List Int), ([] : List Int), (0 : Int)⟩
def k95 : Kd S95 := Kd.iso (Kd.pair (Kd.slice 121 (Kd.int .u32)) (Kd.pair (Kd.slice 5 (Kd.int .u8)) (Kd.int .u64))) (fun x : S95 => (x.f0, x.f1, x.f2))
theorem k95_heap : Kd.Heap k95 := Kd.heap_iso _ (Kd.heap_pair (Kd.heap_slice 121 (Kd.heap_int .u32)) (Kd.heap_pair (Kd.heap_slice 5 (Kd.heap_int .u8)) (Kd.heap_int .u64)))
theorem k95_open {w : World} {x : S95} {cs : List Value} (h : k95.K w x cs) : ∃ A0 c0 A1 c1, cs = [.slice A0 x.f0.length c0, .slice A1 x.f1.length c1, .int .u64 x.f2] ∧ x.f0.length ≤ c0 ∧ (Kd.int .u32).C w A0 x.f0.length x.f0 ∧ x.f1.length ≤ c1 ∧ (Kd.int .u8).C w A1 x.f1.length x.f1 := by
  obtain ⟨_, _, rfl, ⟨A0, c0, rfl, l0, g0⟩, ⟨_, _, rfl, ⟨A1, c1, rfl, l1, g1⟩, rfl⟩⟩ := h
  exact ⟨A0, c0, A1, c1, rfl, l0, g0, l1, g1⟩
theorem k95_openM {w : World} {base : Nat} {ok : Nat → Prop} {x : S95} {cs : List Value} (h : k95.M w base ok x cs) : ∃ v0 v1, cs = [v0, v1, .int .u64 x.f2] ∧ (Kd.int .u32).R 121 w base ok v0 x.f0 ∧ (Kd.int .u8).R 5 w base ok v1 x.f1 := by
  obtain ⟨_, _, rfl, ⟨v0, rfl, g0⟩, ⟨_, _, rfl, ⟨v1, rfl, g1⟩, rfl⟩⟩ := h
  exact ⟨v0, v1, rfl, g0, g1⟩
theorem k95_mk (w : World) (x : S95) {A0 : Option Addr} {c0 : Nat} (l0 : x.f0.length ≤ c0) (g0 : (Kd.int .u32).C w A0 x.f0.length x.f0) {A1 : Option Addr} {c1 : Nat} (l1 : x.f1.length ≤ c1) (g1 : (Kd.int .u8).C w A1 x.f1.length x.f1) : k95.K w x [.slice A0 x.f0.length c0, .slice A1 x.f1.length c1, .int .u64 x.f2] := ⟨[.slice A0 x.f0.length c0], [.slice A1 x.f1.length c1, .int .u64 x.f2], rfl, ⟨A0, c0, rfl, l0, g0⟩, ⟨[.slice A1 x.f1.length c1], [.int .u64 x.f2], rfl, ⟨A1, c1, rfl, l1, g1⟩, rfl⟩⟩
theorem k95_mkM (w : World) (base : Nat) (ok : Nat → Prop) (x : S95) {v0 : Value} (g0 : (Kd.int .u32).R 121 w base ok v0 x.f0) {v1 : Value} (g1 : (Kd.int .u8).R 5 w base ok v1 x.f1) : k95.M w base ok x [v0, v1, .int .u64 x.f2] := ⟨[v0], [v1, .int .u64 x.f2], rfl, ⟨v0, rfl, g0⟩, ⟨[v1], [.int .u64 x.f2], rfl, ⟨v1, rfl, g1⟩, rfl⟩⟩
theorem k95_openF {W : World} {ok : Nat → Prop} {x : S95} {cs : List Value} (h : Kd.FK k95 W ok x cs) : ∃ A0 c0 A1 c1, cs = [.slice A0 x.f0.length c0, .slice A1 x.f1.length c1, .int .u64 x.f2] ∧ x.f0.length ≤ c0 ∧ Kd.F (Kd.int .u32) W ok A0 x.f0.length x.f0 ∧ x.f1.length ≤ c1 ∧ Kd.F (Kd.int .u8) W ok A1 x.f1.length x.f1 := by
  obtain ⟨A0, c0, A1, c1, rfl, l0, _, l1, _⟩ := k95_open (Kd.FK_now h)
  exact ⟨A0, c0, A1, c1, rfl, l0, (fun W' hW => by obtain ⟨A0_, c0_, A1_, c1_, he, l0_, g0_, l1_, g1_⟩ := k95_open (h W' hW); injection (Option.some.inj (show some (Value.slice A0 x.f0.length c0) = some (Value.slice A0_ x.f0.length c0_) from congrArg (fun l => l[0]?) he)) with ha_ _ _; rw [ha_]; exact g0_), l1, (fun W' hW => by obtain ⟨A0_, c0_, A1_, c1_, he, l0_, g0_, l1_, g1_⟩ := k95_open (h W' hW); injection (Option.some.inj (show some (Value.slice A1 x.f1.length c1) = some (Value.slice A1_ x.f1.length c1_) from congrArg (fun l => l[1]?) he)) with ha_ _ _; rw [ha_]; exact g1_)⟩
theorem k95_mkF (W : World) (ok : Nat → Prop) (x : S95) {A0 : Option Addr} {c0 : Nat} (l0 : x.f0.length ≤ c0) (g0 : Kd.F (Kd.int .u32) W ok A0 x.f0.length x.f0) {A1 : Option Addr} {c1 : Nat} (l1 : x.f1.length ≤ c1) (g1 : Kd.F (Kd.int .u8) W ok A1 x.f1.length x.f1) : Kd.FK k95 W ok x [.slice A0 x.f0.length c0, .slice A1 x.f1.length c1, .int .u64 x.f2] := fun W2 hW => k95_mk W2 x l0 (g0 W2 hW) l1 (g1 W2 hW)
def rd_T95 (xs : List S95) (i : Int) : S95 := xs.getD i.toNat z95
theorem at_T95 {w : World} {A : Option Addr} {n : Nat} {xs : List S95} (h : Kd.C k95 w A n xs) (i : Int) (h0 : 0 ≤ i) (h1 : i < n) : ∃ ad A0 c0 A1 c1, A = some ad ∧ w.cell? (ad.add (i.toNat * 3)) = some (.slice A0 (rd_T95 xs i).f0.length c0) ∧ w.cell? ⟨(ad.add (i.toNat * 3)).block, (ad.add (i.toNat * 3)).off + 1, none⟩ = some (.slice A1 (rd_T95 xs i).f1.length c1) ∧ w.cell? ⟨(ad.add (i.toNat * 3)).block, (ad.add (i.toNat * 3)).off + 2, none⟩ = some (.int .u64 (rd_T95 xs i).f2) ∧ (rd_T95 xs i).f0.length ≤ c0 ∧ (Kd.int .u32).C w A0 (rd_T95 xs i).f0.length (rd_T95 xs i).f0 ∧ (rd_T95 xs i).f1.length ≤ c1 ∧ (Kd.int .u8).C w A1 (rd_T95 xs i).f1.length (rd_T95 xs i).f1 := by
  obtain ⟨ad, c, e, _, hK, hc0⟩ := Kd.C_get h z95 i h0 h1
  have hc : ∀ j u, c[j]? = some u → w.cell? (ad.add (i.toNat * 3 + j)) = some u := hc0
  obtain ⟨A0, c0, A1, c1, rfl, l0, g0, l1, g1⟩ := k95_open hK
  exact ⟨ad, A0, c0, A1, c1, e, hc 0 _ rfl, by rw [← add_field _ _ 1 (by omega)]; exact hc 1 _ rfl, by rw [← add_field _ _ 2 (by omega)]; exact hc 2 _ rfl, l0, g0, l1, g1⟩
def rd_L12 (xs : List (List ByteArray)) (i : Int) : (List ByteArray) := xs.getD i.toNat ([] : List ByteArray)
theorem at_L12 {w : World} {A : Option Addr} {n : Nat} {xs : List (List ByteArray)} (h : Kd.C (Kd.slice 23 Kd.string) w A n xs) (i : Int) (h0 : 0 ≤ i) (h1 : i < n) : ∃ ad A0 c0, A = some ad ∧ w.cell? (ad.add i.toNat) = some (.slice A0 (rd_L12 xs i).length c0) ∧ (rd_L12 xs i).length ≤ c0 ∧ Kd.string.C w A0 (rd_L12 xs i).length (rd_L12 xs i) := by
  obtain ⟨ad, c, e, _, hK, hc0⟩ := Kd.C_get h ([] : List ByteArray) i h0 h1
  have hc : ∀ j u, c[j]? = some u → w.cell? (ad.add (i.toNat * 1 + j)) = some u := hc0
  obtain ⟨A0, c0, rfl, l0, g0⟩ := hK
  exact ⟨ad, A0, c0, e, by have hq := hc 0 _ rfl; rwa [Nat.mul_one, Nat.add_zero] at hq, l0, g0⟩
end Go.Proofs.YtbclnkhcnclfoaaDoor.Q
namespace Go.Proofs.YtbclnkhcnclfoaaDoor.Q
open Go.RowKit Go.Proofs.YtbclnkhcnclfoaaDoorW.PrintWords Go.Proofs.YtbclnkhcnclfoaaDoorW.PrintLast Go.Proofs.YtbclnkhcnclfoaaDoorW.PrintMore
attribute [local go_sem] max2_int min2_int max_two min_two max_three min_three max_four min_four   -- for this text's walks alone
set_option linter.unusedVariables false
set_option linter.unusedSimpArgs false
/-! ### key_text: function 54 -/
def key_text.l0 : Nat → List Int → List Int → Int → Int → Option (ByteArray)
  | 0, _, _, _, _ => none
  | k + 1, x3, x10, x11, x12 => if x12 < x11 then (if 0 ≤ x12 then (if x12 < (x10.length : Int) then (if 0 ≤ ((rd x10 x12) / 16) then (if ((rd x10 x12) / 16) < 16 then (if 0 ≤ (Go.bits .and .u8 (rd x10 x12) 15) then (if (Go.bits .and .u8 (rd x10 x12) 15) < 16 then ((some (([bt (⟨#[48, 49, 50, 51, 52, 53, 54, 55, 56, 57, 97, 98, 99, 100, 101, 102]⟩ : ByteArray) ((rd x10 x12) / 16), bt (⟨#[48, 49, 50, 51, 52, 53, 54, 55, 56, 57, 97, 98, 99, 100, 101, 102]⟩ : ByteArray) (Go.bits .and .u8 (rd x10 x12) 15)] : List Int) : List Int)).bind fun y552 => (if x3.length + y552.length < 140737488355328 then (key_text.l0 k (x3 ++ y552) x10 x11 (wrap64 (x12 + 1))) else (none))) else (none)) else (none)) else (none)) else (none)) else (none)) else (none)) else (some (strOfNums x3))
def key_text.f (k : Nat) (l0 : List Int) : Option (ByteArray) := if 0 ≤ (wrap64 (2 * (l0.length : Int))) then (if (wrap64 (2 * (l0.length : Int))) ≤ 281474976710656 then (key_text.l0 k (List.replicate 0 0) l0 (l0.length : Int) 0) else (none)) else (none)
theorem key_text.mono_l : ∀ k, (∀ y0 y1 y2 y3, LeO (key_text.l0 k y0 y1 y2 y3) (key_text.l0 (k + 1) y0 y1 y2 y3))
  | 0 => fun _ _ _ _ r h => by simp [key_text.l0] at h
  | k + 1 => by
    have ih0 := key_text.mono_l k
    · intro y0 y1 y2 y3
      unfold key_text.l0
      repeat' first
      | (with_reducible exact ih0 _ _ _ _)
      | (with_reducible exact LeO.refl _)
      | (with_reducible exact LeO.none _)
      | (with_reducible refine LeO.ite ?_ ?_)
      | (with_reducible refine LeO.bind ?_ (fun _ => ?_))
      | exact ih0 _ _ _ _
      | exact LeO.none _
      | refine LeO.ite ?_ ?_
      | refine LeO.bind ?_ (fun _ => ?_)
theorem key_text.mono : ∀ a0 k, LeO (key_text.f k a0) (key_text.f (k + 1) a0) := by
  intro a0 k
  have ih0 := key_text.mono_l k
  unfold key_text.f
  repeat' first
      | (with_reducible exact ih0 _ _ _ _)
      | (with_reducible exact LeO.refl _)
      | (with_reducible exact LeO.none _)
      | (with_reducible refine LeO.ite ?_ ?_)
      | (with_reducible refine LeO.bind ?_ (fun _ => ?_))
      | exact ih0 _ _ _ _
      | exact LeO.none _
      | refine LeO.ite ?_ ?_
      | refine LeO.bind ?_ (fun _ => ?_)
def key_text.T5 : Bool × List (List Nat × List Nat) := (true, [([], []), ([], []), ([1], [1]), ([2], [2]), ([], []), ([4], [4]), ([5], [5]), ([3, 6], [3, 6]), ([0, 7], [0, 7]), ([8, 8, 0, 1, 2, 3, 4, 5, 6, 7, 8], [0, 8])])
def key_text.B5 : List Nat := [0, 0, 2, 6, 0, 16, 48, 126, 255, 511]
theorem key_text.tab5 : rtab .any (opsOf Tryd.f54 5) = key_text.T5 := by kernel_rfl
theorem key_text.bits5 : waitsOk key_text.T5.2 key_text.B5 = true := by kernel_rfl
set_option maxHeartbeats 8000000 in
set_option maxRecDepth 100000 in
theorem key_text.calls (k : Nat) (A0 : Option Addr) (c0 : Nat) (l0 : List Int) (r : ByteArray) (w : World) (hr0 : Kd.C (Kd.int .u8) w A0 l0.length l0) (hc0 : l0.length ≤ c0) (h : key_text.f k l0 = some r) :
    Calls Tryd.prog 54 #[.slice A0 l0.length c0] w fun e w' => e = .returned (.string r) ∧ Below w.heap.size w w' := by
  have HR0 := Aside0.mk hr0
  have HC0 := Aside0.mk hc0
  clear hr0 hc0
  have HB := Aside0.mk (Below.refl w.heap.size w)
  have H : (if 0 ≤ (wrap64 (2 * (l0.length : Int))) then (if (wrap64 (2 * (l0.length : Int))) ≤ 281474976710656 then (key_text.l0 k (List.replicate 0 0) l0 (l0.length : Int) 0) else (none)) else (none)) = some r := h
  clear h
  obtain ⟨ji2, hji2⟩ : ∃ j_ : Int, (wrap64 (2 * (l0.length : Int))) = j_ := ⟨_, rfl⟩
  replace H : (if 0 ≤ (ji2) then (if (ji2) ≤ 281474976710656 then (key_text.l0 k (List.replicate 0 0) l0 (l0.length : Int) 0) else (none)) else (none)) = some r := by first | (rw [hji2] at H; exact H) | (simp only [hji2] at H ⊢; exact H)
  have hji2w : (IntKind.i64.wrap (2 * (l0.length : Int))) = ji2 := (i64_w _).trans hji2
  by_cases c3 : 0 ≤ (ji2)
  · rw [if_pos c3] at H
    have c3b0 := eq_true c3
    have c3b1 : decide (0 ≤ (ji2)) = true := decide_eq_true c3
    clear c3
    by_cases c4 : (ji2) ≤ 281474976710656
    · rw [if_pos c4] at H
      have c4b0 := eq_true c4
      have c4b1 : decide ((ji2) ≤ 281474976710656) = true := decide_eq_true c4
      clear c4
      obtain ⟨y548, hy548⟩ : ∃ y_ : List Int, y_ = (List.replicate 0 0) := ⟨_, rfl⟩
      replace H : (key_text.l0 k y548 l0 (l0.length : Int) 0) = some r := by first | (rw [hy548]; with_reducible exact H) | (have H2_ := (Option.bind_some _ _).symm.trans H; rw [hy548]; with_reducible exact H2_) | (have H2_ := (Option.bind_some _ _).symm.trans H; with_reducible exact H2_) | with_reducible exact H | (rw [hy548]; exact H) | exact H
      have Ny548 := Aside0.mk hy548
      clear hy548
      have H' := Aside0.mk H
      clear H
      go_enter Tryd.func54, Tryd.ntmps54
      go_wp2_with (first | ((with_reducible refine gate_dst (N := 9) rfl ?_); refine Kd.R_makecap (Kd.int .u8) _ 5 rfl (N := 9) rfl 22 _ _ rfl 0 ji2 rfl rfl Tryd.underlying22 (.int .u8 0) 1 info5 (by decide) rfl 0 rfl (ok := fun _ => True) (okp := fun _ => True) (fun _ hk => hk) trivial (by omega) (show (0 : Int) ≤ (ji2 : Int) from of_decide_eq_true (by first | (with_reducible assumption) | assumption)) (show (ji2 : Int) ≤ 281474976710656 from of_decide_eq_true (by first | (with_reducible assumption) | assumption)) (by omega) (Below.refl _ _) (Nat.le_refl _) ?_; intro v549 w5 ho6 hb hg_ hnew_; clear hg_ hnew_; (first | rw [← Ny548.out] at ho6 | (simp only [Int.reduceToNat] at ho6; rw [← Ny548.out] at ho6)); have n0_ := Aside0.mk (Kd.R_lower ho6 (below_size (by repeat (first | (with_reducible first | exact HB.out | apply below_alloc | apply pw_below_drewN | apply below_drew1) | exact HB.out)))); have n1_ := Aside0.mk (below_step (by repeat (first | (with_reducible first | exact HB.out | apply below_alloc | apply pw_below_drewN | apply below_drew1) | exact HB.out)) hb); clear HB; have HO550 := n0_; have HB := n1_; clear n0_ n1_; clear hb ho6))
      go_loopg [3, 12] k (fun kq v3 v12 w' => ∃ (x3_1 : List Int) (x12_1 : Int), v12 = .int .i64 x12_1 ∧ Aside0 (key_text.l0 kq x3_1 l0 (l0.length : Int) x12_1 = some r) ∧ Aside0 (kq ≤ k) ∧ Aside0 (Kd.R (Kd.int .u8) 5 w' w.heap.size (fun _ => True) v3 x3_1) ∧ Aside0 (Below w.heap.size w w'))
      case atStart => exact ⟨(y548), (0), (by first | rfl | (simp; done) | (simp [*]; done)), H', ⟨Nat.le_refl _⟩, ⟨by (with_reducible repeat (first | apply Kd.R_alloc | apply Kd.R_drewN | apply Kd.R_drew)); exact HO550.out⟩, ⟨by repeat (first | (with_reducible first | exact HB.out | apply below_alloc | apply pw_below_drewN | apply below_drew1) | exact HB.out)⟩⟩
      case round =>
        clear H'
        try clear p2
        try clear c3
        try clear c3b0
        try clear c3b1
        try clear c4
        try clear c4b0
        try clear c4b1
        try clear c5
        try clear p6
        obtain ⟨x3_1, x12_1, rfl, HA, HK1, HO_3, HB⟩ := hrel
        cases gk with
        | zero => exact absurd HA.out (by simp [key_text.l0])
        | succ k1 =>
          have H := HA.out
          clear HA
          simp only [key_text.l0] at H
          by_cases c7 : x12_1 < (l0.length : Int)
          · rw [if_pos c7] at H
            have c7b0 : decide (x12_1 < (l0.length : Int)) = true := decide_eq_true c7
            clear c7
            by_cases c8 : 0 ≤ x12_1
            · rw [if_pos c8] at H
              have c8b0 : decide (0 ≤ x12_1) = true := decide_eq_true c8
              clear c8
              by_cases c9 : x12_1 < (l0.length : Int)
              · rw [if_pos c9] at H
                have c9b0 : decide (x12_1 < (l0.length : Int)) = true := decide_eq_true c9
                clear c9
                obtain ⟨ji10, hji10⟩ : ∃ j_ : Int, ((rd l0 x12_1) / 16) = j_ := ⟨_, rfl⟩
                replace H : (if 0 ≤ (ji10) then (if (ji10) < 16 then (if 0 ≤ (Go.bits .and .u8 (rd l0 x12_1) 15) then (if (Go.bits .and .u8 (rd l0 x12_1) 15) < 16 then ((some (([bt (⟨#[48, 49, 50, 51, 52, 53, 54, 55, 56, 57, 97, 98, 99, 100, 101, 102]⟩ : ByteArray) (ji10), bt (⟨#[48, 49, 50, 51, 52, 53, 54, 55, 56, 57, 97, 98, 99, 100, 101, 102]⟩ : ByteArray) (Go.bits .and .u8 (rd l0 x12_1) 15)] : List Int) : List Int)).bind fun y552 => (if x3_1.length + y552.length < 140737488355328 then (key_text.l0 k1 (x3_1 ++ y552) l0 (l0.length : Int) (wrap64 (x12_1 + 1))) else (none))) else (none)) else (none)) else (none)) else (none)) = some r := by first | (rw [hji10] at H; exact H) | (simp only [hji10] at H ⊢; exact H)
                by_cases c11 : 0 ≤ (ji10)
                · rw [if_pos c11] at H
                  have c11b0 : decide (0 ≤ (ji10)) = true := decide_eq_true c11
                  clear c11
                  by_cases c12 : (ji10) < 16
                  · rw [if_pos c12] at H
                    have c12b0 : decide ((ji10) < 16) = true := decide_eq_true c12
                    clear c12
                    by_cases c14 : 0 ≤ (Go.bits .and .u8 (rd l0 x12_1) 15)
                    · rw [if_pos c14] at H
                      have c14b0 : decide (0 ≤ (Go.bits .and .u8 (rd l0 x12_1) 15)) = true := decide_eq_true c14
                      clear c14
                      by_cases c15 : (Go.bits .and .u8 (rd l0 x12_1) 15) < 16
                      · rw [if_pos c15] at H
                        have c15b0 : decide ((Go.bits .and .u8 (rd l0 x12_1) 15) < 16) = true := decide_eq_true c15
                        clear c15
                        obtain ⟨y552, hy552⟩ : ∃ y_ : List Int, y_ = (([bt (⟨#[48, 49, 50, 51, 52, 53, 54, 55, 56, 57, 97, 98, 99, 100, 101, 102]⟩ : ByteArray) (ji10), bt (⟨#[48, 49, 50, 51, 52, 53, 54, 55, 56, 57, 97, 98, 99, 100, 101, 102]⟩ : ByteArray) (Go.bits .and .u8 (rd l0 x12_1) 15)] : List Int)) := ⟨_, rfl⟩
                        replace H : (if x3_1.length + y552.length < 140737488355328 then (key_text.l0 k1 (x3_1 ++ y552) l0 (l0.length : Int) (wrap64 (x12_1 + 1))) else (none)) = some r := by first | (rw [hy552]; with_reducible exact H) | (have H2_ := (Option.bind_some _ _).symm.trans H; rw [hy552]; with_reducible exact H2_) | (have H2_ := (Option.bind_some _ _).symm.trans H; with_reducible exact H2_) | with_reducible exact H | (rw [hy552]; exact H) | exact H
                        have Ny552 := Aside0.mk hy552
                        clear hy552
                        by_cases c17 : x3_1.length + y552.length < 140737488355328
                        · rw [if_pos c17] at H
                          have LMc17 := Aside0.mk c17
                          clear c17
                          obtain ⟨y555, hy555⟩ : ∃ y_ : List Int, y_ = (x3_1 ++ y552) := ⟨_, rfl⟩
                          replace H : (key_text.l0 k1 y555 l0 (l0.length : Int) (wrap64 (x12_1 + 1))) = some r := by first | (rw [hy555]; with_reducible exact H) | (have H2_ := (Option.bind_some _ _).symm.trans H; rw [hy555]; with_reducible exact H2_) | (have H2_ := (Option.bind_some _ _).symm.trans H; with_reducible exact H2_) | with_reducible exact H | (rw [hy555]; exact H) | exact H
                          have Ny555 := Aside0.mk hy555
                          clear hy555
                          have H' := Aside0.mk H
                          clear H
                          have p551 : 0 ≤ (x12_1 : Int) := of_decide_eq_true (by first | (with_reducible assumption) | assumption)
                          have q551 : x12_1 < (l0.length : Int) := of_decide_eq_true (by first | (with_reducible assumption) | assumption)
                          obtain ⟨ad551, e551, hx551_0⟩ := Kd.at_int HR0.out x12_1 p551 q551
                          cases e551
                          replace hx551_0 := (HB.out.cell (World.block_lt_of_cell? w _ hx551_0)).trans hx551_0
                          replace p551 := eq_true p551
                          replace q551 := eq_true q551
                          try go_wp2
                          have n0_ := Aside0.mk (Kd.R_drew HO_3.out)
                          have n1_ := Aside0.mk (below_drew1 HB.out)
                          clear HO_3
                          clear HB
                          have HO_3 := n0_
                          have HB := n1_
                          clear n0_ n1_
                          have p13 : 0 ≤ ((ji10) : Int) := of_decide_eq_true (by first | (with_reducible assumption) | assumption)
                          have q13 : (ji10) < (16 : Int) := of_decide_eq_true (by first | (with_reducible assumption) | assumption)
                          have hx13 := bt_at (⟨#[48, 49, 50, 51, 52, 53, 54, 55, 56, 57, 97, 98, 99, 100, 101, 102]⟩ : ByteArray) (ji10)
                          replace p13 := eq_true p13
                          replace q13 := eq_true q13
                          have p16 : 0 ≤ ((Go.bits .and .u8 (rd l0 x12_1) 15) : Int) := of_decide_eq_true (by first | (with_reducible assumption) | assumption)
                          have q16 : (Go.bits .and .u8 (rd l0 x12_1) 15) < (16 : Int) := of_decide_eq_true (by first | (with_reducible assumption) | assumption)
                          have hx16 := bt_at (⟨#[48, 49, 50, 51, 52, 53, 54, 55, 56, 57, 97, 98, 99, 100, 101, 102]⟩ : ByteArray) (Go.bits .and .u8 (rd l0 x12_1) 15)
                          replace p16 := eq_true p16
                          replace q16 := eq_true q16
                          refine start_ (n := 10) (S := fun w' => True) (ds := []) #[false, false, false, false, false, false, false, false, false, false] (by kernel_rfl) rfl rfl trivial (fun hHeld => ?_); refine with_tabW key_text.tab5 key_text.bits5 (fun HT_ HW_ => ?_)
                          generalize wr.drew = w18 at HO_3 HB hHeld ⊢
                          refine pure_ (i := 0) (N := some 16) (v := ?_) (a' := ?_) #[true, false, false, false, false, false, false, false, false, false] rfl rfl (any_of HT_.out (by kernel_rfl)) (fun _ _ _ h => h) (Or.inl ⟨by rfl, ?_⟩) ?_ ?_
                          rotate_left
                          · intro w'
                            go_simp
                            with_reducible rfl
                          rotate_left
                          · simp only [Act.put, List.setIfInBounds_toArray, List.set_cons_zero, List.set_cons_succ, i64_w, i32_w]
                            rfl
                          refine pure_ (i := 1) (N := some 17) (v := ?_) (a' := ?_) #[true, true, false, false, false, false, false, false, false, false] rfl rfl (any_of HT_.out (by kernel_rfl)) (fun _ _ _ h => h) (Or.inl ⟨by rfl, ?_⟩) ?_ ?_
                          rotate_left
                          · intro w'
                            go_simp
                            with_reducible rfl
                          rotate_left
                          · simp only [Act.put, List.setIfInBounds_toArray, List.set_cons_zero, List.set_cons_succ, i64_w, i32_w]
                            rfl
                          refine pure_ (i := 2) (N := some 18) (v := ?_) (a' := ?_) #[true, true, true, false, false, false, false, false, false, false] rfl rfl (any_of HT_.out (by kernel_rfl)) (fun _ _ _ h => h) (Or.inl ⟨by rfl, ?_⟩) ?_ ?_
                          rotate_left
                          · intro w'
                            go_simp
                            with_reducible rfl
                          rotate_left
                          · simp only [Act.put, List.setIfInBounds_toArray, List.set_cons_zero, List.set_cons_succ, i64_w, i32_w]
                            rfl
                          refine pure_ (i := 4) (N := some 20) (v := ?_) (a' := ?_) #[true, true, true, false, true, false, false, false, false, false] rfl rfl (any_of HT_.out (by kernel_rfl)) (fun _ _ _ h => h) (Or.inl ⟨by rfl, ?_⟩) ?_ ?_
                          rotate_left
                          · intro w'
                            go_simp
                            with_reducible rfl
                          rotate_left
                          · simp only [Act.put, List.setIfInBounds_toArray, List.set_cons_zero, List.set_cons_succ, i64_w, i32_w]
                            rfl
                          refine pure_ (i := 5) (N := some 21) (v := ?_) (a' := ?_) #[true, true, true, false, true, true, false, false, false, false] rfl rfl (any_of HT_.out (by kernel_rfl)) (fun _ _ _ h => h) (Or.inl ⟨by rfl, ?_⟩) ?_ ?_
                          rotate_left
                          · intro w'
                            go_simp
                            with_reducible rfl
                          rotate_left
                          · simp only [Act.put, List.setIfInBounds_toArray, List.set_cons_zero, List.set_cons_succ, i64_w, i32_w]
                            rfl
                          refine take_ (i := 3) (N := some 19) (v := ?_) (a' := ?_) #[true, true, true, true, true, true, false, false, false, false] rfl rfl (take_ofW HT_.out HW_.out (by kernel_rfl)) (fun _ _ _ h => h) (Or.inl ⟨by rfl, ?_⟩) hHeld ?_ ?_
                          rotate_left
                          · intro w' _
                            go_simp
                            with_reducible rfl
                          rotate_left
                          · simp only [Act.put, List.setIfInBounds_toArray, List.set_cons_zero, List.set_cons_succ, i64_w, i32_w]
                            rfl
                          refine take_ (i := 6) (N := some 22) (v := ?_) (a' := ?_) #[true, true, true, true, true, true, true, false, false, false] rfl rfl (take_ofW HT_.out HW_.out (by kernel_rfl)) (fun _ _ _ h => h) (Or.inl ⟨by rfl, ?_⟩) hHeld ?_ ?_
                          rotate_left
                          · intro w' _
                            go_simp
                            with_reducible rfl
                          rotate_left
                          · simp only [Act.put, List.setIfInBounds_toArray, List.set_cons_zero, List.set_cons_succ, i64_w, i32_w]
                            rfl
                          refine one_ (i := 7) (N := some 23) #[true, true, true, true, true, true, true, true, false, false] rfl rfl (one_of HT_.out (by kernel_rfl)) (by decide) (fun K hK => ?_)
                          refine Kd.R_lit_step (Kd.int .u8) _ 5 ?hg (N := 23) ?hd (xs := ([bt (⟨#[48, 49, 50, 51, 52, 53, 54, 55, 56, 57, 97, 98, 99, 100, 101, 102]⟩ : ByteArray) (ji10), bt (⟨#[48, 49, 50, 51, 52, 53, 54, 55, 56, 57, 97, 98, 99, 100, 101, 102]⟩ : ByteArray) (Go.bits .and .u8 (rd l0 x12_1) 15)] : List Int)) (inner := [.int .u8 (bt (⟨#[48, 49, 50, 51, 52, 53, 54, 55, 56, 57, 97, 98, 99, 100, 101, 102]⟩ : ByteArray) (ji10)), .int .u8 (bt (⟨#[48, 49, 50, 51, 52, 53, 54, 55, 56, 57, 97, 98, 99, 100, 101, 102]⟩ : ByteArray) (Go.bits .and .u8 (rd l0 x12_1) 15))]) (ok := fun _ => True) (okp := fun _ => True) ?hr ?hp (fun _ hk => hk) trivial (Below.refl _ _) (Nat.le_refl _) (by simp) ?_; (case hd => rfl); (case hg => rfl); (case hr => first | (go_simp; done) | (go_simp; rfl)); (case hp => exact (Reps.one (show Kd.M (Kd.int .u8) _ _ _ (bt (⟨#[48, 49, 50, 51, 52, 53, 54, 55, 56, 57, 97, 98, 99, 100, 101, 102]⟩ : ByteArray) (ji10)) [.int .u8 (bt (⟨#[48, 49, 50, 51, 52, 53, 54, 55, 56, 57, 97, 98, 99, 100, 101, 102]⟩ : ByteArray) (ji10))] from rfl) (Reps.one (show Kd.M (Kd.int .u8) _ _ _ (bt (⟨#[48, 49, 50, 51, 52, 53, 54, 55, 56, 57, 97, 98, 99, 100, 101, 102]⟩ : ByteArray) (Go.bits .and .u8 (rd l0 x12_1) 15)) [.int .u8 (bt (⟨#[48, 49, 50, 51, 52, 53, 54, 55, 56, 57, 97, 98, 99, 100, 101, 102]⟩ : ByteArray) (Go.bits .and .u8 (rd l0 x12_1) 15))] from rfl) (Reps.none _ _))))
                          intro v553 w19 ho20 hb hg_ hnew_
                          clear hg_ hnew_
                          (first | rw [← Ny552.out] at ho20 | (simp only [Int.reduceToNat] at ho20; rw [← Ny552.out] at ho20))
                          have n0_ := Aside0.mk (Kd.R_elder' (by (with_reducible repeat (first | apply Kd.R_alloc | apply Kd.R_drewN | apply Kd.R_drew)); exact HO_3.out) (Kd.R_base ho20) hb)
                          have n1_ := Aside0.mk (Kd.R_lower (Kd.R_new' ho20 (Kd.R_lt (by (with_reducible repeat (first | apply Kd.R_alloc | apply Kd.R_drewN | apply Kd.R_drew)); exact HO_3.out))) (below_size (by repeat (first | (with_reducible first | exact HB.out | apply below_alloc | apply pw_below_drewN | apply below_drew1) | exact HB.out))))
                          have n2_ := Aside0.mk (below_step (by repeat (first | (with_reducible first | exact HB.out | apply below_alloc | apply pw_below_drewN | apply below_drew1) | exact HB.out)) hb)
                          clear HO_3
                          clear HB
                          have HO_3 := n0_
                          have HO554 := n1_
                          have HB := n2_
                          clear n0_ n1_ n2_
                          clear hb ho20
                          obtain ⟨Ao22, co22, eo22⟩ := Kd.R_slice HO554.out
                          (first | subst eo22 | (injection eo22 with f1_ f2_ f3_; have f4_ := f1_.symm; have f5_ := f3_.symm; clear f1_ f2_ f3_; subst f4_; subst f5_))
                          refine hK.out _ _ trivial (fun hHeld => ?_)
                          clear hK K
                          refine norm_ (a' := ?_) ?_ ?_
                          rotate_left
                          · show Act.put _ (some 23) _ = _
                            simp only [Act.put, List.setIfInBounds_toArray, List.set_cons_zero, List.set_cons_succ, i64_w, i32_w]
                            rfl
                          refine one_ (i := 8) (N := some 24) #[true, true, true, true, true, true, true, true, true, false] rfl rfl (one_of HT_.out (by kernel_rfl)) (by decide) (fun K hK => ?_)
                          refine Kd.R_append_rows_step (Kd.int .u8) (w0 := w) w.heap.size (by rfl) (.tmp 16) (.tmp 23) 22 5 (.int .u8 0) 1 rfl Tryd.underlying22 info5 rfl (by decide) (by omega) u3 x3_1 y552 _ _ _ (fun k_ => some k_ ≠ (.slice Ao22 y552.length co22 : Value).ownBlock) (fun _ => False) rfl rfl ?aO ?aR (fun _ _ h => h) (fun _ h => h.elim) ?aF ?aB ?aS ?aL ?_
                          (case aR => repeat (first | exact (Kd.R_reads' HO554.out).2.2 | (with_reducible refine Kd.C_alloc ?_ _) | (with_reducible refine Kd.C_drewN ?_ _) | (with_reducible refine Kd.C_drew ?_)))
                          (case aB => exact (by repeat (first | (with_reducible first | exact HB.out | apply below_alloc | apply pw_below_drewN | apply below_drew1) | exact HB.out)))
                          (case aF => exact (fun k_ hk => Kd.fresh' (Kd.R_lt (by (with_reducible repeat (first | apply Kd.R_alloc | apply Kd.R_drewN | apply Kd.R_drew)); exact HO554.out)) k_ hk))
                          (case aO => exact (by (with_reducible repeat (first | apply Kd.R_alloc | apply Kd.R_drewN | apply Kd.R_drew)); exact Kd.R_mono HO_3.out (fun _ hk => hk.2)))
                          (case aS => exact (below_size (by repeat (first | (with_reducible first | exact HB.out | apply below_alloc | apply pw_below_drewN | apply below_drew1) | exact HB.out))))
                          (case aL => have := LMc17.out; omega)
                          intro v556 w21 ho hb hg hat
                          rw [← Ny555.out] at ho
                          have n0_ := Aside0.mk (Kd.R_after (ok := (fun _ => True)) (by (with_reducible repeat (first | apply Kd.R_alloc | apply Kd.R_drewN | apply Kd.R_drew)); exact HO554.out) hg hat)
                          have n1_ := Aside0.mk (hb)
                          have n2_ := Aside0.mk (ho)
                          clear HO554
                          clear HB
                          clear HO_3
                          have HO554 := n0_
                          have HB := n1_
                          have HO557 := n2_
                          clear n0_ n1_ n2_
                          clear ho hb hg hat
                          refine hK.out _ _ trivial (fun hHeld => ?_)
                          clear hK K
                          refine norm_ (a' := ?_) ?_ ?_
                          rotate_left
                          · show Act.put _ (some 24) _ = _
                            simp only [Act.put, List.setIfInBounds_toArray, List.set_cons_zero, List.set_cons_succ, i64_w, i32_w]
                            rfl
                          refine pure_ (i := 9) (N := some 3) (v := ?_) (a' := ?_) #[true, true, true, true, true, true, true, true, true, true] rfl rfl (any_of HT_.out (by kernel_rfl)) (fun _ _ _ h => h) (Or.inl ⟨by rfl, ?_⟩) ?_ ?_
                          rotate_left
                          · intro w'
                            go_simp
                            with_reducible rfl
                          rotate_left
                          · simp only [Act.put, List.setIfInBounds_toArray, List.set_cons_zero, List.set_cons_succ, i64_w, i32_w]
                            rfl
                          refine done_ (done_of HT_.out (by kernel_rfl)) ?_
                          try go_wp2
                          go_roundg k1
                          case measure => have := HK1.out; omega
                          case rel => exact ⟨(y555), (wrap64 (x12_1 + 1)), (by first | rfl | (simp; done) | (simp [*]; done)), H', ⟨by have := HK1.out; omega⟩, ⟨by (with_reducible repeat (first | apply Kd.R_alloc | apply Kd.R_drewN | apply Kd.R_drew)); exact Kd.R_mono HO557.out (fun _ hk => trivial)⟩, ⟨by repeat (first | (with_reducible first | exact HB.out | apply below_alloc | apply pw_below_drewN | apply below_drew1) | exact HB.out)⟩⟩
                        · rw [if_neg c17] at H
                          exact absurd H (by simp)
                      · rw [if_neg c15] at H
                        exact absurd H (by simp)
                    · rw [if_neg c14] at H
                      exact absurd H (by simp)
                  · rw [if_neg c12] at H
                    exact absurd H (by simp)
                · rw [if_neg c11] at H
                  exact absurd H (by simp)
              · rw [if_neg c9] at H
                exact absurd H (by simp)
            · rw [if_neg c8] at H
              exact absurd H (by simp)
          · rw [if_neg c7] at H
            have c7b0 : decide (x12_1 < (l0.length : Int)) = false := decide_eq_false c7
            clear c7
            obtain rfl := Option.some.inj H
            have hcv23 := own_string (P := Tryd.prog) Tryd.underlying22 Tryd.underlying5 Tryd.underlying23 (Kd.own_of_R HO_3.out)
            go_wp2
            go_ret
            exact ⟨by first | rfl | (simp [errW_none, errW_some] <;> rfl) | (simp only [← hji2]; first | rfl | (simp [errW_none, errW_some] <;> rfl)) | (simp [*, errW_none, errW_some] <;> rfl), by repeat (first | (with_reducible first | exact HB.out | apply below_alloc | apply pw_below_drewN | apply below_drew1) | exact HB.out)⟩
    · rw [if_neg c4] at H
      exact absurd H (by simp)
  · rw [if_neg c3] at H
    exact absurd H (by simp)
end Go.Proofs.YtbclnkhcnclfoaaDoor.Q
namespace Go.Proofs.YtbclnkhcnclfoaaDoor.Q
open Go.RowKit Go.Proofs.YtbclnkhcnclfoaaDoorW.PrintWords Go.Proofs.YtbclnkhcnclfoaaDoorW.PrintLast Go.Proofs.YtbclnkhcnclfoaaDoorW.PrintMore
attribute [local go_sem] max2_int min2_int max_two min_two max_three min_three max_four min_four   -- for this text's walks alone
set_option linter.unusedVariables false
set_option linter.unusedSimpArgs false
/-! ### sha_Check: function 89 -/
def sha_Check.f (l0_0 : List Int) (l0_1 : List Int) (a0_2 : Int) : Option (Bool) := if (l0_0.length : Int) = 8 then (if (l0_1.length : Int) < 64 then (some ((IntKind.u64.wrap ((l0_1.length : Int))) == (Int.tmod a0_2 64))) else (some false)) else (some false)
set_option maxHeartbeats 8000000 in
set_option maxRecDepth 100000 in
theorem sha_Check.calls (A0_0 : Option Addr) (c0_0 : Nat) (l0_0 : List Int) (A0_1 : Option Addr) (c0_1 : Nat) (l0_1 : List Int) (a0_2 : Int) (r : Bool) (w : World) (hr0_0 : Kd.C (Kd.int .u32) w A0_0 l0_0.length l0_0) (hc0_0 : l0_0.length ≤ c0_0) (hr0_1 : Kd.C (Kd.int .u8) w A0_1 l0_1.length l0_1) (hc0_1 : l0_1.length ≤ c0_1) (h : sha_Check.f l0_0 l0_1 a0_2 = some r) :
    Calls Tryd.prog 89 #[.agg #[.slice A0_0 l0_0.length c0_0, .slice A0_1 l0_1.length c0_1, .int .u64 a0_2]] w fun e w' => e = .returned (.bool r) ∧ Below w.heap.size w w' := by
  have hu95 := Tryd.underlying95
  have HR0_0 := Aside0.mk hr0_0
  have HC0_0 := Aside0.mk hc0_0
  clear hr0_0 hc0_0
  have HR0_1 := Aside0.mk hr0_1
  have HC0_1 := Aside0.mk hc0_1
  clear hr0_1 hc0_1
  have HB := Aside0.mk (Below.refl w.heap.size w)
  have H : (if (l0_0.length : Int) = 8 then (if (l0_1.length : Int) < 64 then (some ((IntKind.u64.wrap ((l0_1.length : Int))) == (Int.tmod a0_2 64))) else (some false)) else (some false)) = some r := h
  clear h
  by_cases c2 : (l0_0.length : Int) = 8
  · rw [if_pos c2] at H
    have c2b0 : ((l0_0.length : Int) == 8) = true := beq_iff_eq.mpr c2
    have c2b1 : ((l0_0.length : Int) != 8) = false := bne_eq_false_iff_eq.mpr c2
    clear c2
    by_cases c3 : (l0_1.length : Int) < 64
    · rw [if_pos c3] at H
      have c3b0 : decide ((l0_1.length : Int) < 64) = true := decide_eq_true c3
      have c3b1 : decide (l0_1.length < 64) = true := decide_eq_true (by omega)
      clear c3
      obtain rfl := Option.some.inj H
      go_enter Tryd.func89, Tryd.ntmps89
      go_wp2_with (first | ((with_reducible refine gate_dst (N := 1) rfl ?_); (try (refine gate_guard (by rfl) ?_; dsimp only)); refine box_event ?hg (N := 1) ?hd (cs := #[.slice A0_0 l0_0.length c0_0, .slice A0_1 l0_1.length c0_1, .int .u64 a0_2]) (t := 95) ?hr ?_; (case hd => rfl); (case hg => rfl); (case hr => first | (go_simp; done) | (go_simp; rfl)); intro gb558 hg w4 hbox hb; have n0_ := Aside0.mk (below_step (by repeat (first | (with_reducible first | exact HB.out | apply below_alloc | apply pw_below_drewN | apply below_drew1) | exact HB.out)) hb); have n1_ := Aside0.mk (hbox); have n2_ := Aside0.mk ((by rw [hg]; exact (below_size (by repeat (first | (with_reducible first | exact HB.out | apply below_alloc | apply pw_below_drewN | apply below_drew1) | exact HB.out))) : w.heap.size ≤ gb558)); have n3_ := Aside0.mk ((by rw [hg]; exact (below_size (by repeat (first | (with_reducible first | exact HB.out | apply below_alloc | apply pw_below_drewN | apply below_drew1) | exact HB.out))) : w.heap.size ≤ gb558)); clear HB; have HB := n0_; have BK558 := n1_; have GW558 := n2_; have GE558 := n3_; clear n0_ n1_ n2_ n3_; clear hb hbox hg; have hcz5_0 : w4.cell? ⟨gb558, 0, none⟩ = some (.slice A0_0 l0_0.length c0_0) := (blk_cell BK558.out 0).trans rfl; have hcz5_1 : w4.cell? ⟨gb558, 1, none⟩ = some (.slice A0_1 l0_1.length c0_1) := (blk_cell BK558.out 1).trans rfl; have hcz5_2 : w4.cell? ⟨gb558, 2, none⟩ = some (.int .u64 a0_2) := (blk_cell BK558.out 2).trans rfl; have hfz5_0 := blk_frozen BK558.out 0; have hfz5_1 := blk_frozen BK558.out 1; have hfz5_2 := blk_frozen BK558.out 2))
      go_ret
      exact ⟨by first | rfl | (simp [errW_none, errW_some] <;> rfl) | (simp [*, errW_none, errW_some] <;> rfl), by repeat (first | (with_reducible first | exact HB.out | apply below_alloc | apply pw_below_drewN | apply below_drew1 | refine below_set ?_ GE558.out) | exact HB.out)⟩
    · rw [if_neg c3] at H
      have c3b0 : decide ((l0_1.length : Int) < 64) = false := decide_eq_false c3
      have c3b1 : decide (l0_1.length < 64) = false := decide_eq_false (by omega)
      clear c3
      obtain rfl := Option.some.inj H
      go_enter Tryd.func89, Tryd.ntmps89
      go_wp2_with (first | ((with_reducible refine gate_dst (N := 1) rfl ?_); (try (refine gate_guard (by rfl) ?_; dsimp only)); refine box_event ?hg (N := 1) ?hd (cs := #[.slice A0_0 l0_0.length c0_0, .slice A0_1 l0_1.length c0_1, .int .u64 a0_2]) (t := 95) ?hr ?_; (case hd => rfl); (case hg => rfl); (case hr => first | (go_simp; done) | (go_simp; rfl)); intro gb558 hg w6 hbox hb; have n0_ := Aside0.mk (below_step (by repeat (first | (with_reducible first | exact HB.out | apply below_alloc | apply pw_below_drewN | apply below_drew1) | exact HB.out)) hb); have n1_ := Aside0.mk (hbox); have n2_ := Aside0.mk ((by rw [hg]; exact (below_size (by repeat (first | (with_reducible first | exact HB.out | apply below_alloc | apply pw_below_drewN | apply below_drew1) | exact HB.out))) : w.heap.size ≤ gb558)); have n3_ := Aside0.mk ((by rw [hg]; exact (below_size (by repeat (first | (with_reducible first | exact HB.out | apply below_alloc | apply pw_below_drewN | apply below_drew1) | exact HB.out))) : w.heap.size ≤ gb558)); clear HB; have HB := n0_; have BK558 := n1_; have GW558 := n2_; have GE558 := n3_; clear n0_ n1_ n2_ n3_; clear hb hbox hg; have hcz7_0 : w6.cell? ⟨gb558, 0, none⟩ = some (.slice A0_0 l0_0.length c0_0) := (blk_cell BK558.out 0).trans rfl; have hcz7_1 : w6.cell? ⟨gb558, 1, none⟩ = some (.slice A0_1 l0_1.length c0_1) := (blk_cell BK558.out 1).trans rfl; have hcz7_2 : w6.cell? ⟨gb558, 2, none⟩ = some (.int .u64 a0_2) := (blk_cell BK558.out 2).trans rfl; have hfz7_0 := blk_frozen BK558.out 0; have hfz7_1 := blk_frozen BK558.out 1; have hfz7_2 := blk_frozen BK558.out 2))
      go_ret
      exact ⟨by first | rfl | (simp [errW_none, errW_some] <;> rfl) | (simp [*, errW_none, errW_some] <;> rfl), by repeat (first | (with_reducible first | exact HB.out | apply below_alloc | apply pw_below_drewN | apply below_drew1 | refine below_set ?_ GE558.out) | exact HB.out)⟩
  · rw [if_neg c2] at H
    have c2b0 : ((l0_0.length : Int) == 8) = false := beq_eq_false_iff_ne.mpr c2
    have c2b1 : ((l0_0.length : Int) != 8) = true := bne_iff_ne.mpr c2
    obtain rfl := Option.some.inj H
    go_enter Tryd.func89, Tryd.ntmps89
    go_wp2_with (first | ((with_reducible refine gate_dst (N := 1) rfl ?_); (try (refine gate_guard (by rfl) ?_; dsimp only)); refine box_event ?hg (N := 1) ?hd (cs := #[.slice A0_0 l0_0.length c0_0, .slice A0_1 l0_1.length c0_1, .int .u64 a0_2]) (t := 95) ?hr ?_; (case hd => rfl); (case hg => rfl); (case hr => first | (go_simp; done) | (go_simp; rfl)); intro gb558 hg w8 hbox hb; have n0_ := Aside0.mk (below_step (by repeat (first | (with_reducible first | exact HB.out | apply below_alloc | apply pw_below_drewN | apply below_drew1) | exact HB.out)) hb); have n1_ := Aside0.mk (hbox); have n2_ := Aside0.mk ((by rw [hg]; exact (below_size (by repeat (first | (with_reducible first | exact HB.out | apply below_alloc | apply pw_below_drewN | apply below_drew1) | exact HB.out))) : w.heap.size ≤ gb558)); have n3_ := Aside0.mk ((by rw [hg]; exact (below_size (by repeat (first | (with_reducible first | exact HB.out | apply below_alloc | apply pw_below_drewN | apply below_drew1) | exact HB.out))) : w.heap.size ≤ gb558)); clear HB; have HB := n0_; have BK558 := n1_; have GW558 := n2_; have GE558 := n3_; clear n0_ n1_ n2_ n3_; clear hb hbox hg; have hcz9_0 : w8.cell? ⟨gb558, 0, none⟩ = some (.slice A0_0 l0_0.length c0_0) := (blk_cell BK558.out 0).trans rfl; have hcz9_1 : w8.cell? ⟨gb558, 1, none⟩ = some (.slice A0_1 l0_1.length c0_1) := (blk_cell BK558.out 1).trans rfl; have hcz9_2 : w8.cell? ⟨gb558, 2, none⟩ = some (.int .u64 a0_2) := (blk_cell BK558.out 2).trans rfl; have hfz9_0 := blk_frozen BK558.out 0; have hfz9_1 := blk_frozen BK558.out 1; have hfz9_2 := blk_frozen BK558.out 2))
    go_ret
    exact ⟨by first | rfl | (simp [errW_none, errW_some] <;> rfl) | (simp [*, errW_none, errW_some] <;> rfl), by repeat (first | (with_reducible first | exact HB.out | apply below_alloc | apply pw_below_drewN | apply below_drew1 | refine below_set ?_ GE558.out) | exact HB.out)⟩
end Go.Proofs.YtbclnkhcnclfoaaDoor.Q
namespace Go.Proofs.YtbclnkhcnclfoaaDoor.Q
open Go.RowKit Go.Proofs.YtbclnkhcnclfoaaDoorW.PrintWords Go.Proofs.YtbclnkhcnclfoaaDoorW.PrintLast Go.Proofs.YtbclnkhcnclfoaaDoorW.PrintMore
attribute [local go_sem] max2_int min2_int max_two min_two max_three min_three max_four min_four   -- for this text's walks alone
set_option linter.unusedVariables false
set_option linter.unusedSimpArgs false
/-! ### sha_primes: function 93 -/
theorem sha_primes.cl (p x : Int) (b : Nat) (w : World) (hc : w.cell? ⟨b, 0, none⟩ = some (.int .u64 x)) (hp : 2 ≤ p) (hx0 : 0 ≤ x) :
    Calls Tryd.prog 122 #[.int .u64 p, .pointer (some ⟨b, 0, none⟩)] w fun e w' => e = .returned (.bool (x % p == 0)) ∧ w = w' := by
  have hz : ¬ p = 0 := by omega
  go_enter Tryd.func122, Tryd.ntmps122
  go_wp2
  go_ret
  exact ⟨rfl, rfl⟩
def sha_primes.Idx (l : List Int) (x : Int) (w : World) (e : Ending) (w' : World) : Prop := ∃ i : Int, e = .returned (.int .i64 i) ∧ w = w' ∧ (decide (0 ≤ i) = l.any (fun p => x % p == 0))
theorem sha_primes.any_drop (l : List Int) (q : Int → Bool) (i : Nat) (hi : i < l.length) : (l.drop i).any q = (q (rd l i) || (l.drop (i + 1)).any q) := by
  rw [List.drop_eq_getElem_cons hi, List.any_cons]
  congr 2
  simp [rd, List.getD_eq_getElem?_getD, hi]
theorem sha_primes.idx (b : Nat) (x : Int) (hx0 : 0 ≤ x) (A : Option Addr) (c : Nat) (l : List Int) (w : World) (hr : Kd.C (Kd.int .u64) w A l.length l) (hb : w.cell? ⟨b, 0, none⟩ = some (.int .u64 x)) (hl : ∀ p ∈ l, 2 ≤ p) :
    Calls Tryd.prog 154 #[.slice A l.length c, .func (.func 122) #[] #[.pointer (some ⟨b, 0, none⟩)]] w (sha_primes.Idx l x w) := by
  have hlen : l.length ≤ 9223372036854775807 := hr.2.1
  have HL := Aside0.mk hl
  have HR := Aside0.mk hr
  have HBc := Aside0.mk hb
  clear hl hr hb
  go_enter Tryd.func154, Tryd.ntmps154
  go_wp2
  go_loopg [5, 8] (l.length) (fun g v5 v8 w' => ∃ i : Nat, v8 = .int .i64 i ∧ Aside0 (i + g = l.length) ∧ w' = w ∧ Aside0 (l.any (fun p => x % p == 0) = (l.drop i).any (fun p => x % p == 0)))
  case atStart => exact ⟨0, rfl, ⟨by omega⟩, rfl, ⟨by simp⟩⟩
  case round =>
    obtain ⟨i, rfl, hg, rfl, hany⟩ := hrel
    have hle : i ≤ l.length := by have := hg.out; omega
    by_cases hi : i < l.length
    · have hi' : (i : Int) < (l.length : Int) := by omega
      obtain ⟨ad, rfl, hc⟩ := Kd.at_int HR.out (i : Int) (by omega) (by omega)
      have hp2 : 2 ≤ rd l i := HL.out _ (by simp [rd, List.getD_eq_getElem?_getD, hi])
      simp only [Int.toNat_natCast] at hc
      have hq := sha_primes.any_drop l (fun p => x % p == 0) i hi
      have HQ := Aside0.mk hq
      clear hq
      obtain ⟨p, hp⟩ : ∃ p, rd l (i : Int) = p := ⟨_, rfl⟩
      rw [hp] at hc hp2 HQ
      clear hp
      by_cases hm : x % p = 0
      · have hm' : (x % p == 0) = true := by simp [hm]
        go_wp2_with (go_at_call 122; refine (sha_primes.cl _ _ _ _ HBc.out (by assumption) (by assumption)).mono ?_; rintro e w' ⟨rfl, rfl⟩)
        go_ret
        refine ⟨_, rfl, rfl, ?_⟩
        rw [hany.out, HQ.out, hm']
        simp
      · have hm' : (x % p == 0) = false := by simp [hm]
        go_wp2_with (go_at_call 122; refine (sha_primes.cl _ _ _ _ HBc.out (by assumption) (by assumption)).mono ?_; rintro e w' ⟨rfl, rfl⟩)
        obtain ⟨g', rfl⟩ : ∃ g', gk = g' + 1 := ⟨gk - 1, by have := hg.out; omega⟩
        go_roundg g'
        case measure => omega
        case rel => exact ⟨i + 1, by go_num, ⟨by have := hg.out; omega⟩, rfl, ⟨by rw [hany.out, HQ.out, hm']; simp⟩⟩
    · have hi' : ¬ (i : Int) < (l.length : Int) := by omega
      go_wp2
      go_ret
      refine ⟨_, rfl, rfl, ?_⟩
      rw [hany.out, List.drop_of_length_le (by omega)]
      rfl
def sha_primes.dv (out : List Int) (x : Int) : Bool := out.any (fun p => x % p == 0)
def sha_primes.Has (l : List Int) (x : Int) (w : World) (e : Ending) (w' : World) : Prop := e = .returned (.bool (sha_primes.dv l x)) ∧ w = w'
theorem sha_primes.has (b : Nat) (x : Int) (hx0 : 0 ≤ x) (A : Option Addr) (c : Nat) (l : List Int) (w : World) (hr : Kd.C (Kd.int .u64) w A l.length l) (hb : w.cell? ⟨b, 0, none⟩ = some (.int .u64 x)) (hl : ∀ p ∈ l, 2 ≤ p) :
    Calls Tryd.prog 121 #[.slice A l.length c, .func (.func 122) #[] #[.pointer (some ⟨b, 0, none⟩)]] w (sha_primes.Has l x w) := by
  have HL := Aside0.mk hl
  have HR := Aside0.mk hr
  have HBc := Aside0.mk hb
  clear hl hr hb
  go_enter Tryd.func121, Tryd.ntmps121
  go_wp2_with (go_at_call 154; refine (sha_primes.idx _ _ hx0 _ _ _ _ HR.out HBc.out HL.out).mono ?_; rintro e w' ⟨i, rfl, rfl, hi⟩; have HI := Aside0.mk hi; clear hi)
  go_ret
  exact ⟨by rw [sha_primes.dv, ← HI.out]; rfl, rfl⟩
def sha_primes.l0 : Nat → Int → List Int → Int → Option (List Int)
  | 0, _, _, _ => none
  | k + 1, n, out, x => if (out.length : Int) < n then (if x < 100000 then (if sha_primes.dv out x = true then sha_primes.l0 k n out (x + 1) else sha_primes.l0 k n (out ++ [x]) (x + 1)) else none) else some out
def sha_primes.f (k : Nat) (a0 : Int) : Option (List Int) := sha_primes.l0 k a0 [] 2
theorem sha_primes.mono_l : ∀ k, (∀ y0 y1 y2, LeO (sha_primes.l0 k y0 y1 y2) (sha_primes.l0 (k + 1) y0 y1 y2))
  | 0 => fun _ _ _ r h => by simp [sha_primes.l0] at h
  | k + 1 => by
    have ih0 := sha_primes.mono_l k
    intro y0 y1 y2
    unfold sha_primes.l0
    repeat' first
      | (with_reducible exact ih0 _ _ _)
      | (with_reducible exact LeO.refl _)
      | (with_reducible exact LeO.none _)
      | (with_reducible refine LeO.ite ?_ ?_)
theorem sha_primes.mono : ∀ a0 k, LeO (sha_primes.f k a0) (sha_primes.f (k + 1) a0) := fun a0 k => sha_primes.mono_l k _ _ _
theorem sha_primes.calls (k : Nat) (a0 : Int) (r : List Int) (w : World) (h : sha_primes.f k a0 = some r) :
    Calls Tryd.prog 93 #[.int .i64 a0] w fun e w' => ∃ v0_ : Value, e = .returned (v0_) ∧ Kd.R (Kd.int .u64) 84 w' w.heap.size (fun _ => True) v0_ r ∧ Below w.heap.size w w' := by
  have H' := Aside0.mk h
  clear h
  go_enter Tryd.func93, Tryd.ntmps93
  go_wp2
  go_loopg [3, 4] k (fun kq v3 v4 w' => ∃ (out : List Int) (x : Int) (b : Nat), v4 = .pointer (some ⟨b, 0, none⟩) ∧ Aside0 (sha_primes.l0 kq a0 out x = some r) ∧ Aside0 (kq ≤ k) ∧ Aside0 (w'.heap[b]? = some (.cells #[.int .u64 x] 84 (0, 0))) ∧ Aside0 (Kd.R (Kd.int .u64) 84 w' w.heap.size (fun k => k ≠ b) v3 out) ∧ Aside0 (Below w.heap.size w w') ∧ Aside0 (out.length + 2 ≤ x ∧ ∀ p ∈ out, 2 ≤ p) ∧ Aside0 (w.heap.size ≤ b))
  case atStart => exact ⟨[], 2, w.heap.size, rfl, H', ⟨Nat.le_refl _⟩, ⟨heap_alloc_new w _⟩, ⟨Kd.R_nil _ _ _ _ _⟩, ⟨below_alloc (Below.refl _ _) _⟩, ⟨by simp⟩, ⟨Nat.le_refl _⟩⟩
  case round =>
    clear H'
    obtain ⟨out, x, b, rfl, HA, HK1, Hx, HO, HB, HP, Hb⟩ := hrel
    cases gk with
    | zero => exact absurd HA.out (by simp [sha_primes.l0])
    | succ k1 =>
      have H := HA.out
      clear HA
      simp only [sha_primes.l0] at H
      obtain ⟨A, c, rfl, hlc, hC⟩ := Kd.R_reads HO.out
      have HC := Aside0.mk hC
      have HLC := Aside0.mk hlc
      clear hC hlc
      by_cases hn : (out.length : Int) < a0
      · rw [if_pos hn] at H
        have hnb : decide ((out.length : Int) < a0) = true := decide_eq_true hn
        clear hn
        by_cases hx : x < 100000
        · rw [if_pos hx] at H
          have hx2 : 2 ≤ x := by have := HP.out.1; omega
          have hcx : wr.cell? ⟨b, 0, none⟩ = some (.int .u64 x) := by rw [cell_of_row _ _ _ _ _ _ Hx.out]; rfl
          have hfx : wr.frozen? ⟨b, 0, none⟩ = false := blk_frozen Hx.out 0
          have hlt : b < wr.heap.size := blk_lt Hx.out
          by_cases hd : sha_primes.dv out x = true
          · rw [if_pos hd] at H
            have H' := Aside0.mk H
            clear H
            go_wp2_with (go_at_call 121; refine (sha_primes.has _ x (by omega) _ _ _ _ HC.out hcx HP.out.2).mono ?_; rintro e w' ⟨rfl, rfl⟩)
            go_roundg k1
            case measure => have := HK1.out; omega
            case rel => exact ⟨out, x + 1, _, rfl, H', ⟨by have := HK1.out; omega⟩, ⟨heap_alloc_new wr _⟩, ⟨Kd.R_below (Kd.R_mono (Kd.R_bound HO.out) (fun k hk => Nat.ne_of_lt hk.2.2.1)) (below_alloc (Below.refl _ _) _)⟩, ⟨below_alloc HB.out _⟩, ⟨by have := HP.out; exact ⟨by omega, this.2⟩⟩, ⟨HB.out.size⟩⟩
          · have hd' : sha_primes.dv out x = false := by simpa using hd
            rw [if_neg hd] at H
            have H' := Aside0.mk H
            clear H hd
            have hlen : out.length < 1000000 := by have := HP.out.1; omega
            have hne : some b ≠ (Value.slice A out.length c).ownBlock := fun he => HO.out.1 b he.symm rfl
            go_wp2_with (first | (go_at_call 121; refine (sha_primes.has _ x (by omega) _ _ _ _ HC.out hcx HP.out.2).mono ?_; rintro e w' ⟨rfl, rfl⟩) | ((with_reducible refine gate_builtin (b := .append) (xs := #[.tmp 15, .tmp 17]) rfl ?_); at_builtin; refine Kd.R_append (Kd.int .u64) (w0 := w) w.heap.size rfl (.tmp 15) (.tmp 17) 132 84 (.int .u64 0) 8 rfl Tryd.underlying132 info84 rfl (by decide) (by omega) (.slice A out.length c) out x [.int .u64 x] (fun k => k ≠ b) (fun _ => False) rfl rfl ?aP (fun _ hk => hk.elim) ?aF HO.out HB.out HB.out.size ?aL ?_; (case aP => exact rfl); (case aF => exact (fun k hk => by omega)); (case aL => omega); intro v1 w1 ho hb hg hat; have Ho := Aside0.mk ho; have Hb1 := Aside0.mk hb; have Hx1 := Aside0.mk (blk_grown Hx.out hg hne); clear ho hb hg hat; have hcx1 : w1.cell? ⟨b, 0, none⟩ = some (.int .u64 x) := (blk_cell Hx1.out 0).trans rfl; have hfx1 : w1.frozen? ⟨b, 0, none⟩ = false := blk_frozen Hx1.out 0; have hlt1 : b < w1.heap.size := blk_lt Hx1.out))
            go_roundg k1
            case measure => have := HK1.out; omega
            case rel => exact ⟨out ++ [x], x + 1, _, rfl, H', ⟨by have := HK1.out; omega⟩, ⟨heap_alloc_new w1 _⟩, ⟨Kd.R_below (Kd.R_mono (Kd.R_bound Ho.out) (fun k hk => Nat.ne_of_lt hk.2.2.1)) (below_alloc (Below.refl _ _) _)⟩, ⟨below_alloc Hb1.out _⟩, ⟨by have := HP.out; refine ⟨by simp; omega, fun p hp => ?_⟩; rcases List.mem_append.1 hp with hp | hp; exact this.2 p hp; simp at hp; omega⟩, ⟨Hb1.out.size⟩⟩
        · rw [if_neg hx] at H; cases H
      · rw [if_neg hn] at H
        have hnb : decide ((out.length : Int) < a0) = false := decide_eq_false hn
        clear hn
        obtain rfl := Option.some.inj H
        go_wp2
        go_ret
        exact ⟨_, rfl, Kd.R_mono HO.out (fun _ _ => trivial), HB.out⟩
end Go.Proofs.YtbclnkhcnclfoaaDoor.Q
namespace Go.Proofs.YtbclnkhcnclfoaaDoor.Q
open Go.RowKit Go.Proofs.YtbclnkhcnclfoaaDoorW.PrintWords Go.Proofs.YtbclnkhcnclfoaaDoorW.PrintLast Go.Proofs.YtbclnkhcnclfoaaDoorW.PrintMore
attribute [local go_sem] max2_int min2_int max_two min_two max_three min_three max_four min_four   -- for this text's walks alone
set_option linter.unusedVariables false
set_option linter.unusedSimpArgs false
/-! ### bits_Mul64: function 155 -/
def bits_Mul64.f (a0 : Int) (a1 : Int) : Option (Int × Int) := some (IntKind.u64.wrap ((IntKind.u64.wrap ((IntKind.u64.wrap ((a0 / 4294967296) * (a1 / 4294967296))) + ((IntKind.u64.wrap ((IntKind.u64.wrap ((a0 / 4294967296) * (Go.bits .and .u64 a1 4294967295))) + ((IntKind.u64.wrap ((Go.bits .and .u64 a0 4294967295) * (Go.bits .and .u64 a1 4294967295))) / 4294967296))) / 4294967296))) + ((IntKind.u64.wrap ((Go.bits .and .u64 (IntKind.u64.wrap ((IntKind.u64.wrap ((a0 / 4294967296) * (Go.bits .and .u64 a1 4294967295))) + ((IntKind.u64.wrap ((Go.bits .and .u64 a0 4294967295) * (Go.bits .and .u64 a1 4294967295))) / 4294967296))) 4294967295) + (IntKind.u64.wrap ((Go.bits .and .u64 a0 4294967295) * (a1 / 4294967296))))) / 4294967296)), IntKind.u64.wrap (a0 * a1))
set_option maxHeartbeats 8000000 in
set_option maxRecDepth 100000 in
theorem bits_Mul64.calls (a0 : Int) (a1 : Int) (r1 : Int) (r2 : Int) (w : World) (h : bits_Mul64.f a0 a1 = some (r1, r2)) :
    Calls Tryd.prog 155 #[.int .u64 a0, .int .u64 a1] w fun e w' => e = .returned (.tuple #[.int .u64 r1, .int .u64 r2]) ∧ Drawn0 w w' := by
  have H : (some (IntKind.u64.wrap ((IntKind.u64.wrap ((IntKind.u64.wrap ((a0 / 4294967296) * (a1 / 4294967296))) + ((IntKind.u64.wrap ((IntKind.u64.wrap ((a0 / 4294967296) * (Go.bits .and .u64 a1 4294967295))) + ((IntKind.u64.wrap ((Go.bits .and .u64 a0 4294967295) * (Go.bits .and .u64 a1 4294967295))) / 4294967296))) / 4294967296))) + ((IntKind.u64.wrap ((Go.bits .and .u64 (IntKind.u64.wrap ((IntKind.u64.wrap ((a0 / 4294967296) * (Go.bits .and .u64 a1 4294967295))) + ((IntKind.u64.wrap ((Go.bits .and .u64 a0 4294967295) * (Go.bits .and .u64 a1 4294967295))) / 4294967296))) 4294967295) + (IntKind.u64.wrap ((Go.bits .and .u64 a0 4294967295) * (a1 / 4294967296))))) / 4294967296)), IntKind.u64.wrap (a0 * a1))) = some (r1, r2) := h
  clear h
  simp only [Option.some.injEq, Prod.mk.injEq] at H
  obtain ⟨rfl, rfl⟩ := H
  go_enter Tryd.func155, Tryd.ntmps155
  go_wp2
  go_ret2
  exact ⟨by first | rfl | (simp; done) | (simp [*]; done), by repeat (first | exact Drawn0.refl _ | apply Drawn0.step)⟩
end Go.Proofs.YtbclnkhcnclfoaaDoor.Q
namespace Go.Proofs.YtbclnkhcnclfoaaDoor.Q
open Go.RowKit Go.Proofs.YtbclnkhcnclfoaaDoorW.PrintWords Go.Proofs.YtbclnkhcnclfoaaDoorW.PrintLast Go.Proofs.YtbclnkhcnclfoaaDoorW.PrintMore
attribute [local go_sem] max2_int min2_int max_two min_two max_three min_three max_four min_four   -- for this text's walks alone
set_option linter.unusedVariables false
set_option linter.unusedSimpArgs false
/-! ### bits_Add64: function 156 -/
def bits_Add64.ok (a0 a1 a2 : Int) : Prop := 0 ≤ a0 ∧ 0 ≤ a1 ∧ 0 ≤ a2 ∧ a2 ≤ 1
instance (a0 a1 a2 : Int) : Decidable (bits_Add64.ok a0 a1 a2) := by unfold bits_Add64.ok; infer_instance
def bits_Add64.val (a0 a1 a2 : Int) : Int × Int := ((a0 + a1 + a2) % 18446744073709551616, (a0 + a1 + a2) / 18446744073709551616)
def bits_Add64.f (a0 a1 a2 : Int) : Option (Int × Int) := if bits_Add64.ok a0 a1 a2 then some (bits_Add64.val a0 a1 a2) else none
theorem bits_Add64.found : Extern.find Tryd.f156 = some add64Entry := by kernel_rfl
theorem bits_Add64.nonext : Extern.findNext Tryd.f156 = none := by kernel_rfl
theorem bits_Add64.nobody : Tryd.f156.body.isNone = true := by kernel_rfl
theorem bits_Add64.named : (Tryd.f156.name == "runtime.NumGoroutine") = false := by kernel_rfl
theorem bits_Add64.run0 (a0 a1 a2 : Int) (h : bits_Add64.ok a0 a1 a2) (w : World) :
    (callFunc 156 #[.int .u64 a0, .int .u64 a1, .int .u64 a2]).run Tryd.prog w = .ok (.value (.tuple #[.int .u64 (bits_Add64.val a0 a1 a2).1, .int .u64 (bits_Add64.val a0 a1 a2).2])) w := by
  obtain ⟨h0, h1, h2, h3⟩ := h
  have e := run_callFunc_extern (e := add64Entry) Tryd.func156 bits_Add64.named bits_Add64.nobody bits_Add64.nonext bits_Add64.found #[.int .u64 a0, .int .u64 a1, .int .u64 a2] w
  rw [run_add64 a0 a1 a2 h0 h1 h2 h3 w] at e
  exact e
theorem bits_Add64.run (a0 a1 a2 r1 r2 : Int) (h : bits_Add64.f a0 a1 a2 = some (r1, r2)) : ∀ w : World,
    (callFunc 156 #[.int .u64 a0, .int .u64 a1, .int .u64 a2]).run Tryd.prog w = .ok (.value (.tuple #[.int .u64 r1, .int .u64 r2])) w := by
  intro w
  unfold bits_Add64.f at h
  split at h
  · rename_i h'
    have e := bits_Add64.run0 a0 a1 a2 h' w
    rw [Option.some.inj h] at e
    exact e
  · cases h
end Go.Proofs.YtbclnkhcnclfoaaDoor.Q
namespace Go.Proofs.YtbclnkhcnclfoaaDoor.Q
open Go.RowKit Go.Proofs.YtbclnkhcnclfoaaDoorW.PrintWords Go.Proofs.YtbclnkhcnclfoaaDoorW.PrintLast Go.Proofs.YtbclnkhcnclfoaaDoorW.PrintMore
attribute [local go_sem] max2_int min2_int max_two min_two max_three min_three max_four min_four   -- for this text's walks alone
set_option linter.unusedVariables false
set_option linter.unusedSimpArgs false
/-! ### sha_less: function 123 -/
def sha_less.f (a0 : Int) (a1 : Int) (a2 : Bool) : Option (Bool) := (bits_Mul64.f a0 a0).bind fun bt559 => (if a2 = true then ((bits_Mul64.f bt559.2 a0).bind fun bt561 => ((bits_Mul64.f bt559.1 a0).bind fun bt563 => ((bits_Add64.f bt561.1 bt563.2 0).bind fun bt565 => (if (IntKind.u64.wrap (bt563.1 + bt565.2)) < (a1 / 4294967296) then (some true) else (if (IntKind.u64.wrap (bt563.1 + bt565.2)) = (a1 / 4294967296) then (if bt565.1 < (IntKind.u64.wrap (a1 * 4294967296)) then (some true) else (if bt565.1 = (IntKind.u64.wrap (a1 * 4294967296)) then (some (bt561.2 == 0)) else (some false))) else (some false)))))) else (if bt559.1 < a1 then (some true) else (if bt559.1 = a1 then (some (bt559.2 == 0)) else (some false))))
set_option maxHeartbeats 8000000 in
set_option maxRecDepth 100000 in
theorem sha_less.calls (a0 : Int) (a1 : Int) (a2 : Bool) (r : Bool) (w : World) (h : sha_less.f a0 a1 a2 = some r) :
    Calls Tryd.prog 123 #[.int .u64 a0, .int .u64 a1, .bool a2] w fun e w' => e = .returned (.bool r) ∧ Drawn0 w w' := by
  have H : ((bits_Mul64.f a0 a0).bind fun bt559 => (if a2 = true then ((bits_Mul64.f bt559.2 a0).bind fun bt561 => ((bits_Mul64.f bt559.1 a0).bind fun bt563 => ((bits_Add64.f bt561.1 bt563.2 0).bind fun bt565 => (if (IntKind.u64.wrap (bt563.1 + bt565.2)) < (a1 / 4294967296) then (some true) else (if (IntKind.u64.wrap (bt563.1 + bt565.2)) = (a1 / 4294967296) then (if bt565.1 < (IntKind.u64.wrap (a1 * 4294967296)) then (some true) else (if bt565.1 = (IntKind.u64.wrap (a1 * 4294967296)) then (some (bt561.2 == 0)) else (some false))) else (some false)))))) else (if bt559.1 < a1 then (some true) else (if bt559.1 = a1 then (some (bt559.2 == 0)) else (some false))))) = some r := h
  clear h
  replace H := Option.bind_eq_some_iff.mp H
  obtain ⟨⟨t559, t560⟩, A40, H⟩ := H
  replace H : (if a2 = true then ((bits_Mul64.f t560 a0).bind fun bt561 => ((bits_Mul64.f t559 a0).bind fun bt563 => ((bits_Add64.f bt561.1 bt563.2 0).bind fun bt565 => (if (IntKind.u64.wrap (bt563.1 + bt565.2)) < (a1 / 4294967296) then (some true) else (if (IntKind.u64.wrap (bt563.1 + bt565.2)) = (a1 / 4294967296) then (if bt565.1 < (IntKind.u64.wrap (a1 * 4294967296)) then (some true) else (if bt565.1 = (IntKind.u64.wrap (a1 * 4294967296)) then (some (bt561.2 == 0)) else (some false))) else (some false)))))) else (if t559 < a1 then (some true) else (if t559 = a1 then (some (t560 == 0)) else (some false)))) = some r := H
  have A4 := Aside0.mk A40
  clear A40
  by_cases c5 : a2 = true
  · subst c5
    have H1 : ((bits_Mul64.f t560 a0).bind fun bt561 => ((bits_Mul64.f t559 a0).bind fun bt563 => ((bits_Add64.f bt561.1 bt563.2 0).bind fun bt565 => (if (IntKind.u64.wrap (bt563.1 + bt565.2)) < (a1 / 4294967296) then (some true) else (if (IntKind.u64.wrap (bt563.1 + bt565.2)) = (a1 / 4294967296) then (if bt565.1 < (IntKind.u64.wrap (a1 * 4294967296)) then (some true) else (if bt565.1 = (IntKind.u64.wrap (a1 * 4294967296)) then (some (bt561.2 == 0)) else (some false))) else (some false)))))) = some r := by rw [if_pos rfl] at H; exact H
    clear H
    have H := H1
    clear H1
    replace H := Option.bind_eq_some_iff.mp H
    obtain ⟨⟨t561, t562⟩, A60, H⟩ := H
    replace H : ((bits_Mul64.f t559 a0).bind fun bt563 => ((bits_Add64.f t561 bt563.2 0).bind fun bt565 => (if (IntKind.u64.wrap (bt563.1 + bt565.2)) < (a1 / 4294967296) then (some true) else (if (IntKind.u64.wrap (bt563.1 + bt565.2)) = (a1 / 4294967296) then (if bt565.1 < (IntKind.u64.wrap (a1 * 4294967296)) then (some true) else (if bt565.1 = (IntKind.u64.wrap (a1 * 4294967296)) then (some (t562 == 0)) else (some false))) else (some false))))) = some r := H
    have A6 := Aside0.mk A60
    clear A60
    replace H := Option.bind_eq_some_iff.mp H
    obtain ⟨⟨t563, t564⟩, A70, H⟩ := H
    replace H : ((bits_Add64.f t561 t564 0).bind fun bt565 => (if (IntKind.u64.wrap (t563 + bt565.2)) < (a1 / 4294967296) then (some true) else (if (IntKind.u64.wrap (t563 + bt565.2)) = (a1 / 4294967296) then (if bt565.1 < (IntKind.u64.wrap (a1 * 4294967296)) then (some true) else (if bt565.1 = (IntKind.u64.wrap (a1 * 4294967296)) then (some (t562 == 0)) else (some false))) else (some false)))) = some r := H
    have A7 := Aside0.mk A70
    clear A70
    replace H := Option.bind_eq_some_iff.mp H
    obtain ⟨⟨t565, t566⟩, A80, H⟩ := H
    replace H : (if (IntKind.u64.wrap (t563 + t566)) < (a1 / 4294967296) then (some true) else (if (IntKind.u64.wrap (t563 + t566)) = (a1 / 4294967296) then (if t565 < (IntKind.u64.wrap (a1 * 4294967296)) then (some true) else (if t565 = (IntKind.u64.wrap (a1 * 4294967296)) then (some (t562 == 0)) else (some false))) else (some false))) = some r := H
    have A8 := Aside0.mk A80
    clear A80
    by_cases c9 : (IntKind.u64.wrap (t563 + t566)) < (a1 / 4294967296)
    · rw [if_pos c9] at H
      have c9b0 : decide ((IntKind.u64.wrap (t563 + t566)) < (a1 / 4294967296)) = true := decide_eq_true c9
      clear c9
      obtain rfl := Option.some.inj H
      go_enter Tryd.func123, Tryd.ntmps123
      have R156_A8 := bits_Add64.run t561 t564 0 t565 t566 A8.out
      go_wp2_with (first | ((with_reducible refine gate_callee (f := 155) rfl ?_); refine goesL_ (some 21) rfl rfl Tryd.func155 (by kernel_rfl) rfl #[.int .u64 a0, .int .u64 a0] rfl (by (try simp only [List.map_toArray, List.map_cons, List.map_nil]); first | done | rfl | (simp only [List.length_drop, List.length_take]; rfl)) ?_; (with_reducible refine (bits_Mul64.calls a0 a0 t559 t560 _ A4.out).mono ?_); rintro e w' ⟨rfl, ⟨nd, rfl⟩⟩; refine ⟨_, rfl, ?_⟩) | ((with_reducible refine gate_callee (f := 155) rfl ?_); refine goesL_ (some 41) rfl rfl Tryd.func155 (by kernel_rfl) rfl #[.int .u64 t560, .int .u64 a0] rfl (by (try simp only [List.map_toArray, List.map_cons, List.map_nil]); first | done | rfl | (simp only [List.length_drop, List.length_take]; rfl)) ?_; (with_reducible refine (bits_Mul64.calls t560 a0 t561 t562 _ A6.out).mono ?_); rintro e w' ⟨rfl, ⟨nd, rfl⟩⟩; refine ⟨_, rfl, ?_⟩) | ((with_reducible refine gate_callee (f := 155) rfl ?_); refine goesL_ (some 47) rfl rfl Tryd.func155 (by kernel_rfl) rfl #[.int .u64 t559, .int .u64 a0] rfl (by (try simp only [List.map_toArray, List.map_cons, List.map_nil]); first | done | rfl | (simp only [List.length_drop, List.length_take]; rfl)) ?_; (with_reducible refine (bits_Mul64.calls t559 a0 t563 t564 _ A7.out).mono ?_); rintro e w' ⟨rfl, ⟨nd, rfl⟩⟩; refine ⟨_, rfl, ?_⟩))
      go_ret
      exact ⟨by first | rfl | (simp; done) | (simp [*]; done), by repeat (first | exact Drawn0.refl _ | apply Drawn0.step)⟩
    · rw [if_neg c9] at H
      have c9b0 : decide ((IntKind.u64.wrap (t563 + t566)) < (a1 / 4294967296)) = false := decide_eq_false c9
      clear c9
      by_cases c10 : (IntKind.u64.wrap (t563 + t566)) = (a1 / 4294967296)
      · rw [if_pos c10] at H
        have c10b0 : ((IntKind.u64.wrap (t563 + t566)) == (a1 / 4294967296)) = true := beq_iff_eq.mpr c10
        have c10b1 : ((IntKind.u64.wrap (t563 + t566)) != (a1 / 4294967296)) = false := bne_eq_false_iff_eq.mpr c10
        clear c10
        by_cases c11 : t565 < (IntKind.u64.wrap (a1 * 4294967296))
        · rw [if_pos c11] at H
          have c11b0 : decide (t565 < (IntKind.u64.wrap (a1 * 4294967296))) = true := decide_eq_true c11
          clear c11
          obtain rfl := Option.some.inj H
          go_enter Tryd.func123, Tryd.ntmps123
          have R156_A8 := bits_Add64.run t561 t564 0 t565 t566 A8.out
          go_wp2_with (first | ((with_reducible refine gate_callee (f := 155) rfl ?_); refine goesL_ (some 21) rfl rfl Tryd.func155 (by kernel_rfl) rfl #[.int .u64 a0, .int .u64 a0] rfl (by (try simp only [List.map_toArray, List.map_cons, List.map_nil]); first | done | rfl | (simp only [List.length_drop, List.length_take]; rfl)) ?_; (with_reducible refine (bits_Mul64.calls a0 a0 t559 t560 _ A4.out).mono ?_); rintro e w' ⟨rfl, ⟨nd, rfl⟩⟩; refine ⟨_, rfl, ?_⟩) | ((with_reducible refine gate_callee (f := 155) rfl ?_); refine goesL_ (some 41) rfl rfl Tryd.func155 (by kernel_rfl) rfl #[.int .u64 t560, .int .u64 a0] rfl (by (try simp only [List.map_toArray, List.map_cons, List.map_nil]); first | done | rfl | (simp only [List.length_drop, List.length_take]; rfl)) ?_; (with_reducible refine (bits_Mul64.calls t560 a0 t561 t562 _ A6.out).mono ?_); rintro e w' ⟨rfl, ⟨nd, rfl⟩⟩; refine ⟨_, rfl, ?_⟩) | ((with_reducible refine gate_callee (f := 155) rfl ?_); refine goesL_ (some 47) rfl rfl Tryd.func155 (by kernel_rfl) rfl #[.int .u64 t559, .int .u64 a0] rfl (by (try simp only [List.map_toArray, List.map_cons, List.map_nil]); first | done | rfl | (simp only [List.length_drop, List.length_take]; rfl)) ?_; (with_reducible refine (bits_Mul64.calls t559 a0 t563 t564 _ A7.out).mono ?_); rintro e w' ⟨rfl, ⟨nd, rfl⟩⟩; refine ⟨_, rfl, ?_⟩))
          go_ret
          exact ⟨by first | rfl | (simp; done) | (simp [*]; done), by repeat (first | exact Drawn0.refl _ | apply Drawn0.step)⟩
        · rw [if_neg c11] at H
          have c11b0 : decide (t565 < (IntKind.u64.wrap (a1 * 4294967296))) = false := decide_eq_false c11
          clear c11
          by_cases c12 : t565 = (IntKind.u64.wrap (a1 * 4294967296))
          · rw [if_pos c12] at H
            have c12b0 : (t565 == (IntKind.u64.wrap (a1 * 4294967296))) = true := beq_iff_eq.mpr c12
            have c12b1 : (t565 != (IntKind.u64.wrap (a1 * 4294967296))) = false := bne_eq_false_iff_eq.mpr c12
            clear c12
            obtain rfl := Option.some.inj H
            go_enter Tryd.func123, Tryd.ntmps123
            have R156_A8 := bits_Add64.run t561 t564 0 t565 t566 A8.out
            go_wp2_with (first | ((with_reducible refine gate_callee (f := 155) rfl ?_); refine goesL_ (some 21) rfl rfl Tryd.func155 (by kernel_rfl) rfl #[.int .u64 a0, .int .u64 a0] rfl (by (try simp only [List.map_toArray, List.map_cons, List.map_nil]); first | done | rfl | (simp only [List.length_drop, List.length_take]; rfl)) ?_; (with_reducible refine (bits_Mul64.calls a0 a0 t559 t560 _ A4.out).mono ?_); rintro e w' ⟨rfl, ⟨nd, rfl⟩⟩; refine ⟨_, rfl, ?_⟩) | ((with_reducible refine gate_callee (f := 155) rfl ?_); refine goesL_ (some 41) rfl rfl Tryd.func155 (by kernel_rfl) rfl #[.int .u64 t560, .int .u64 a0] rfl (by (try simp only [List.map_toArray, List.map_cons, List.map_nil]); first | done | rfl | (simp only [List.length_drop, List.length_take]; rfl)) ?_; (with_reducible refine (bits_Mul64.calls t560 a0 t561 t562 _ A6.out).mono ?_); rintro e w' ⟨rfl, ⟨nd, rfl⟩⟩; refine ⟨_, rfl, ?_⟩) | ((with_reducible refine gate_callee (f := 155) rfl ?_); refine goesL_ (some 47) rfl rfl Tryd.func155 (by kernel_rfl) rfl #[.int .u64 t559, .int .u64 a0] rfl (by (try simp only [List.map_toArray, List.map_cons, List.map_nil]); first | done | rfl | (simp only [List.length_drop, List.length_take]; rfl)) ?_; (with_reducible refine (bits_Mul64.calls t559 a0 t563 t564 _ A7.out).mono ?_); rintro e w' ⟨rfl, ⟨nd, rfl⟩⟩; refine ⟨_, rfl, ?_⟩))
            go_ret
            exact ⟨by first | rfl | (simp; done) | (simp [*]; done), by repeat (first | exact Drawn0.refl _ | apply Drawn0.step)⟩
          · rw [if_neg c12] at H
            have c12b0 : (t565 == (IntKind.u64.wrap (a1 * 4294967296))) = false := beq_eq_false_iff_ne.mpr c12
            have c12b1 : (t565 != (IntKind.u64.wrap (a1 * 4294967296))) = true := bne_iff_ne.mpr c12
            obtain rfl := Option.some.inj H
            go_enter Tryd.func123, Tryd.ntmps123
            have R156_A8 := bits_Add64.run t561 t564 0 t565 t566 A8.out
            go_wp2_with (first | ((with_reducible refine gate_callee (f := 155) rfl ?_); refine goesL_ (some 21) rfl rfl Tryd.func155 (by kernel_rfl) rfl #[.int .u64 a0, .int .u64 a0] rfl (by (try simp only [List.map_toArray, List.map_cons, List.map_nil]); first | done | rfl | (simp only [List.length_drop, List.length_take]; rfl)) ?_; (with_reducible refine (bits_Mul64.calls a0 a0 t559 t560 _ A4.out).mono ?_); rintro e w' ⟨rfl, ⟨nd, rfl⟩⟩; refine ⟨_, rfl, ?_⟩) | ((with_reducible refine gate_callee (f := 155) rfl ?_); refine goesL_ (some 41) rfl rfl Tryd.func155 (by kernel_rfl) rfl #[.int .u64 t560, .int .u64 a0] rfl (by (try simp only [List.map_toArray, List.map_cons, List.map_nil]); first | done | rfl | (simp only [List.length_drop, List.length_take]; rfl)) ?_; (with_reducible refine (bits_Mul64.calls t560 a0 t561 t562 _ A6.out).mono ?_); rintro e w' ⟨rfl, ⟨nd, rfl⟩⟩; refine ⟨_, rfl, ?_⟩) | ((with_reducible refine gate_callee (f := 155) rfl ?_); refine goesL_ (some 47) rfl rfl Tryd.func155 (by kernel_rfl) rfl #[.int .u64 t559, .int .u64 a0] rfl (by (try simp only [List.map_toArray, List.map_cons, List.map_nil]); first | done | rfl | (simp only [List.length_drop, List.length_take]; rfl)) ?_; (with_reducible refine (bits_Mul64.calls t559 a0 t563 t564 _ A7.out).mono ?_); rintro e w' ⟨rfl, ⟨nd, rfl⟩⟩; refine ⟨_, rfl, ?_⟩))
            go_ret
            exact ⟨by first | rfl | (simp; done) | (simp [*]; done), by repeat (first | exact Drawn0.refl _ | apply Drawn0.step)⟩
      · rw [if_neg c10] at H
        have c10b0 : ((IntKind.u64.wrap (t563 + t566)) == (a1 / 4294967296)) = false := beq_eq_false_iff_ne.mpr c10
        have c10b1 : ((IntKind.u64.wrap (t563 + t566)) != (a1 / 4294967296)) = true := bne_iff_ne.mpr c10
        obtain rfl := Option.some.inj H
        go_enter Tryd.func123, Tryd.ntmps123
        have R156_A8 := bits_Add64.run t561 t564 0 t565 t566 A8.out
        go_wp2_with (first | ((with_reducible refine gate_callee (f := 155) rfl ?_); refine goesL_ (some 21) rfl rfl Tryd.func155 (by kernel_rfl) rfl #[.int .u64 a0, .int .u64 a0] rfl (by (try simp only [List.map_toArray, List.map_cons, List.map_nil]); first | done | rfl | (simp only [List.length_drop, List.length_take]; rfl)) ?_; (with_reducible refine (bits_Mul64.calls a0 a0 t559 t560 _ A4.out).mono ?_); rintro e w' ⟨rfl, ⟨nd, rfl⟩⟩; refine ⟨_, rfl, ?_⟩) | ((with_reducible refine gate_callee (f := 155) rfl ?_); refine goesL_ (some 41) rfl rfl Tryd.func155 (by kernel_rfl) rfl #[.int .u64 t560, .int .u64 a0] rfl (by (try simp only [List.map_toArray, List.map_cons, List.map_nil]); first | done | rfl | (simp only [List.length_drop, List.length_take]; rfl)) ?_; (with_reducible refine (bits_Mul64.calls t560 a0 t561 t562 _ A6.out).mono ?_); rintro e w' ⟨rfl, ⟨nd, rfl⟩⟩; refine ⟨_, rfl, ?_⟩) | ((with_reducible refine gate_callee (f := 155) rfl ?_); refine goesL_ (some 47) rfl rfl Tryd.func155 (by kernel_rfl) rfl #[.int .u64 t559, .int .u64 a0] rfl (by (try simp only [List.map_toArray, List.map_cons, List.map_nil]); first | done | rfl | (simp only [List.length_drop, List.length_take]; rfl)) ?_; (with_reducible refine (bits_Mul64.calls t559 a0 t563 t564 _ A7.out).mono ?_); rintro e w' ⟨rfl, ⟨nd, rfl⟩⟩; refine ⟨_, rfl, ?_⟩))
        go_ret
        exact ⟨by first | rfl | (simp; done) | (simp [*]; done), by repeat (first | exact Drawn0.refl _ | apply Drawn0.step)⟩
  · replace c5 := Bool.eq_false_iff.mpr c5
    subst c5
    have H1 : (if t559 < a1 then (some true) else (if t559 = a1 then (some (t560 == 0)) else (some false))) = some r := by rw [if_neg (show ¬ (false = true) by decide)] at H; exact H
    clear H
    have H := H1
    clear H1
    by_cases c13 : t559 < a1
    · rw [if_pos c13] at H
      have c13b0 : decide (t559 < a1) = true := decide_eq_true c13
      clear c13
      obtain rfl := Option.some.inj H
      go_enter Tryd.func123, Tryd.ntmps123
      go_wp2_with (first | ((with_reducible refine gate_callee (f := 155) rfl ?_); refine goesL_ (some 21) rfl rfl Tryd.func155 (by kernel_rfl) rfl #[.int .u64 a0, .int .u64 a0] rfl (by (try simp only [List.map_toArray, List.map_cons, List.map_nil]); first | done | rfl | (simp only [List.length_drop, List.length_take]; rfl)) ?_; (with_reducible refine (bits_Mul64.calls a0 a0 t559 t560 _ A4.out).mono ?_); rintro e w' ⟨rfl, ⟨nd, rfl⟩⟩; refine ⟨_, rfl, ?_⟩))
      go_ret
      exact ⟨by first | rfl | (simp; done) | (simp [*]; done), by repeat (first | exact Drawn0.refl _ | apply Drawn0.step)⟩
    · rw [if_neg c13] at H
      have c13b0 : decide (t559 < a1) = false := decide_eq_false c13
      clear c13
      by_cases c14 : t559 = a1
      · rw [if_pos c14] at H
        have c14b0 : (t559 == a1) = true := beq_iff_eq.mpr c14
        have c14b1 : (t559 != a1) = false := bne_eq_false_iff_eq.mpr c14
        clear c14
        obtain rfl := Option.some.inj H
        go_enter Tryd.func123, Tryd.ntmps123
        go_wp2_with (first | ((with_reducible refine gate_callee (f := 155) rfl ?_); refine goesL_ (some 21) rfl rfl Tryd.func155 (by kernel_rfl) rfl #[.int .u64 a0, .int .u64 a0] rfl (by (try simp only [List.map_toArray, List.map_cons, List.map_nil]); first | done | rfl | (simp only [List.length_drop, List.length_take]; rfl)) ?_; (with_reducible refine (bits_Mul64.calls a0 a0 t559 t560 _ A4.out).mono ?_); rintro e w' ⟨rfl, ⟨nd, rfl⟩⟩; refine ⟨_, rfl, ?_⟩))
        go_ret
        exact ⟨by first | rfl | (simp; done) | (simp [*]; done), by repeat (first | exact Drawn0.refl _ | apply Drawn0.step)⟩
      · rw [if_neg c14] at H
        have c14b0 : (t559 == a1) = false := beq_eq_false_iff_ne.mpr c14
        have c14b1 : (t559 != a1) = true := bne_iff_ne.mpr c14
        obtain rfl := Option.some.inj H
        go_enter Tryd.func123, Tryd.ntmps123
        go_wp2_with (first | ((with_reducible refine gate_callee (f := 155) rfl ?_); refine goesL_ (some 21) rfl rfl Tryd.func155 (by kernel_rfl) rfl #[.int .u64 a0, .int .u64 a0] rfl (by (try simp only [List.map_toArray, List.map_cons, List.map_nil]); first | done | rfl | (simp only [List.length_drop, List.length_take]; rfl)) ?_; (with_reducible refine (bits_Mul64.calls a0 a0 t559 t560 _ A4.out).mono ?_); rintro e w' ⟨rfl, ⟨nd, rfl⟩⟩; refine ⟨_, rfl, ?_⟩))
        go_ret
        exact ⟨by first | rfl | (simp; done) | (simp [*]; done), by repeat (first | exact Drawn0.refl _ | apply Drawn0.step)⟩
end Go.Proofs.YtbclnkhcnclfoaaDoor.Q
namespace Go.Proofs.YtbclnkhcnclfoaaDoor.Q
open Go.RowKit Go.Proofs.YtbclnkhcnclfoaaDoorW.PrintWords Go.Proofs.YtbclnkhcnclfoaaDoorW.PrintLast Go.Proofs.YtbclnkhcnclfoaaDoorW.PrintMore
attribute [local go_sem] max2_int min2_int max_two min_two max_three min_three max_four min_four   -- for this text's walks alone
set_option linter.unusedVariables false
set_option linter.unusedSimpArgs false
/-! ### sha_root: function 94 -/
def sha_root.l0 : Nat → Int → Bool → Int → Int → Option (Int)
  | 0, _, _, _, _ => none
  | k + 1, x0, x1, x5, x6 => if x6 ≥ 0 then (if 0 ≤ x6 then ((sha_less.f (Go.bits .or .u64 x5 (shl .u64 1 x6)) x0 x1).bind fun t567 => (if t567 = true then (sha_root.l0 k x0 x1 (Go.bits .or .u64 x5 (shl .u64 1 x6)) (wrap64 (x6 - 1))) else (sha_root.l0 k x0 x1 x5 (wrap64 (x6 - 1))))) else (none)) else (some ((x5) % 4294967296))
def sha_root.f (k : Nat) (a0 : Int) (a1 : Bool) : Option (Int) := sha_root.l0 k a0 a1 0 37
theorem sha_root.mono_l : ∀ k, (∀ y0 y1 y2 y3, LeO (sha_root.l0 k y0 y1 y2 y3) (sha_root.l0 (k + 1) y0 y1 y2 y3))
  | 0 => fun _ _ _ _ r h => by simp [sha_root.l0] at h
  | k + 1 => by
    have ih0 := sha_root.mono_l k
    · intro y0 y1 y2 y3
      unfold sha_root.l0
      repeat' first
      | (with_reducible exact ih0 _ _ _ _)
      | (with_reducible exact LeO.refl _)
      | (with_reducible exact LeO.none _)
      | (with_reducible refine LeO.ite ?_ ?_)
      | (with_reducible refine LeO.bind ?_ (fun _ => ?_))
      | exact ih0 _ _ _ _
      | exact LeO.none _
      | refine LeO.ite ?_ ?_
      | refine LeO.bind ?_ (fun _ => ?_)
theorem sha_root.mono : ∀ a0 a1 k, LeO (sha_root.f k a0 a1) (sha_root.f (k + 1) a0 a1) := by
  intro a0 a1 k
  have ih0 := sha_root.mono_l k
  unfold sha_root.f
  repeat' first
      | (with_reducible exact ih0 _ _ _ _)
      | (with_reducible exact LeO.refl _)
      | (with_reducible exact LeO.none _)
      | (with_reducible refine LeO.ite ?_ ?_)
      | (with_reducible refine LeO.bind ?_ (fun _ => ?_))
      | exact ih0 _ _ _ _
      | exact LeO.none _
      | refine LeO.ite ?_ ?_
      | refine LeO.bind ?_ (fun _ => ?_)
set_option maxHeartbeats 8000000 in
set_option maxRecDepth 100000 in
theorem sha_root.calls (k : Nat) (a0 : Int) (a1 : Bool) (r : Int) (w : World) (h : sha_root.f k a0 a1 = some r) :
    Calls Tryd.prog 94 #[.int .u64 a0, .bool a1] w fun e w' => e = .returned (.int .u32 r) ∧ Drawn0 w w' := by
  have H : (sha_root.l0 k a0 a1 0 37) = some r := h
  clear h
  have H' := Aside0.mk H
  clear H
  go_enter Tryd.func94, Tryd.ntmps94
  go_wp2
  go_loopg [5, 6] k (fun kq v5 v6 w' => ∃ (x5_1 : Int) (x6_1 : Int), v5 = .int .u64 x5_1 ∧ v6 = .int .i64 x6_1 ∧ Aside0 (sha_root.l0 kq a0 a1 x5_1 x6_1 = some r) ∧ Aside0 (kq ≤ k) ∧ Drawn0 w w')
  case atStart => exact ⟨(0), (37), (by first | rfl | (simp; done) | (simp [*]; done)), (by first | rfl | (simp; done) | (simp [*]; done)), H', ⟨Nat.le_refl _⟩, by repeat (first | exact Drawn0.refl _ | apply Drawn0.step)⟩
  case round =>
    clear H'
    try clear p2
    obtain ⟨x5_1, x6_1, rfl, rfl, HA, HK1, ⟨m1, rfl⟩⟩ := hrel
    cases gk with
    | zero => exact absurd HA.out (by simp [sha_root.l0])
    | succ k1 =>
      have H := HA.out
      clear HA
      simp only [sha_root.l0] at H
      by_cases c3 : x6_1 ≥ 0
      · rw [if_pos c3] at H
        have c3b0 : decide (0 ≤ x6_1) = true := decide_eq_true c3
        clear c3
        by_cases c4 : 0 ≤ x6_1
        · rw [if_pos c4] at H
          have c4b0 := eq_true c4
          have c4b1 : decide (0 ≤ x6_1) = true := decide_eq_true c4
          clear c4
          obtain ⟨ji5, hji5⟩ : ∃ j_ : Int, (shl .u64 1 x6_1) = j_ := ⟨_, rfl⟩
          replace H : ((sha_less.f (Go.bits .or .u64 x5_1 (ji5)) a0 a1).bind fun t567 => (if t567 = true then (sha_root.l0 k1 a0 a1 (Go.bits .or .u64 x5_1 (ji5)) (wrap64 (x6_1 - 1))) else (sha_root.l0 k1 a0 a1 x5_1 (wrap64 (x6_1 - 1))))) = some r := by first | (rw [hji5] at H; exact H) | (simp only [hji5] at H ⊢; exact H)
          have hji5_ : (IntKind.u64.wrap (1 * 2 ^ min x6_1.toNat 64)) = ji5 := hji5
          have hji5z : x6_1 ≤ 64 → (IntKind.u64.wrap (1 * 2 ^ x6_1.toNat)) = ji5 := shl_small hji5
          have hji5u : (IntKind.u64.wrap (2 ^ min x6_1.toNat 64)) = ji5 := by have h_ := hji5_; rw [Int.one_mul] at h_; exact h_
          have hji5v : x6_1 ≤ 64 → (IntKind.u64.wrap (2 ^ x6_1.toNat)) = ji5 := fun hle_ => by have h_ := hji5z hle_; rw [Int.one_mul] at h_; exact h_
          replace H := Option.bind_eq_some_iff.mp H
          obtain ⟨t567, A60, H⟩ := H
          replace H : (if t567 = true then (sha_root.l0 k1 a0 a1 (Go.bits .or .u64 x5_1 (ji5)) (wrap64 (x6_1 - 1))) else (sha_root.l0 k1 a0 a1 x5_1 (wrap64 (x6_1 - 1)))) = some r := H
          have A6 := Aside0.mk A60
          clear A60
          by_cases c7 : t567 = true
          · subst c7
            have H1 : (sha_root.l0 k1 a0 a1 (Go.bits .or .u64 x5_1 (ji5)) (wrap64 (x6_1 - 1))) = some r := by rw [if_pos rfl] at H; exact H
            clear H
            have H := H1
            clear H1
            have H' := Aside0.mk H
            clear H
            go_wp2_with (first | ((with_reducible refine gate_callee (f := 123) rfl ?_); refine goesL_ (some 19) rfl rfl Tryd.func123 (by kernel_rfl) rfl #[.int .u64 (Go.bits .or .u64 x5_1 (ji5)), .int .u64 a0, .bool a1] rfl (by (try simp only [List.map_toArray, List.map_cons, List.map_nil]); first | done | (simp only [hji5]; rfl) | rfl | (simp only [List.length_drop, List.length_take]; rfl)) ?_; (with_reducible refine (sha_less.calls (Go.bits .or .u64 x5_1 (ji5)) a0 a1 true _ A6.out).mono ?_); rintro e w' ⟨rfl, ⟨nd, rfl⟩⟩; refine ⟨_, rfl, ?_⟩))
            go_roundg k1
            case measure => have := HK1.out; omega
            case rel => exact ⟨(Go.bits .or .u64 x5_1 (ji5)), (wrap64 (x6_1 - 1)), (by first | rfl | (simp; done) | (simp only [← hji5] <;> (first | rfl | simp)) | (simp [*]; done)), (by first | rfl | (simp; done) | (simp [*]; done)), H', ⟨by have := HK1.out; omega⟩, by repeat (first | exact Drawn0.refl _ | apply Drawn0.step)⟩
          · replace c7 := Bool.eq_false_iff.mpr c7
            subst c7
            have H1 : (sha_root.l0 k1 a0 a1 x5_1 (wrap64 (x6_1 - 1))) = some r := by rw [if_neg (show ¬ (false = true) by decide)] at H; exact H
            clear H
            have H := H1
            clear H1
            have H' := Aside0.mk H
            clear H
            go_wp2_with (first | ((with_reducible refine gate_callee (f := 123) rfl ?_); refine goesL_ (some 19) rfl rfl Tryd.func123 (by kernel_rfl) rfl #[.int .u64 (Go.bits .or .u64 x5_1 (ji5)), .int .u64 a0, .bool a1] rfl (by (try simp only [List.map_toArray, List.map_cons, List.map_nil]); first | done | (simp only [hji5]; rfl) | rfl | (simp only [List.length_drop, List.length_take]; rfl)) ?_; (with_reducible refine (sha_less.calls (Go.bits .or .u64 x5_1 (ji5)) a0 a1 false _ A6.out).mono ?_); rintro e w' ⟨rfl, ⟨nd, rfl⟩⟩; refine ⟨_, rfl, ?_⟩))
            go_roundg k1
            case measure => have := HK1.out; omega
            case rel => exact ⟨(x5_1), (wrap64 (x6_1 - 1)), (by first | rfl | (simp; done) | (simp [*]; done)), (by first | rfl | (simp; done) | (simp [*]; done)), H', ⟨by have := HK1.out; omega⟩, by repeat (first | exact Drawn0.refl _ | apply Drawn0.step)⟩
        · rw [if_neg c4] at H
          exact absurd H (by simp)
      · rw [if_neg c3] at H
        have c3b0 : decide (0 ≤ x6_1) = false := decide_eq_false c3
        clear c3
        obtain rfl := Option.some.inj H
        go_wp2
        go_ret
        exact ⟨by first | rfl | (simp; done) | (simp [*]; done), by repeat (first | exact Drawn0.refl _ | apply Drawn0.step)⟩
end Go.Proofs.YtbclnkhcnclfoaaDoor.Q
namespace Go.Proofs.YtbclnkhcnclfoaaDoor.Q
open Go.RowKit Go.Proofs.YtbclnkhcnclfoaaDoorW.PrintWords Go.Proofs.YtbclnkhcnclfoaaDoorW.PrintLast Go.Proofs.YtbclnkhcnclfoaaDoorW.PrintMore
attribute [local go_sem] max2_int min2_int max_two min_two max_three min_three max_four min_four   -- for this text's walks alone
set_option linter.unusedVariables false
set_option linter.unusedSimpArgs false
/-! ### sha_Write: function 56 -/
-- with Derived.Outline
-- with Derived.WalkLawsBesides
-- with Derived.Laws.EntriesVeiled
-- with Derived.Recover
-- with Derived.StillTailTactics
theorem rot_cnt (c : Int) (hc : 1 ≤ c) (hc2 : c ≤ 31) : Go.bits .and .u64 (IntKind.u64.wrap (-c)) 31 = 32 - c := by
  have h : ∀ n : Fin 32, 1 ≤ n.val → Go.bits .and .u64 (IntKind.u64.wrap (-(n.val : Int))) 31 = 32 - (n.val : Int) := by decide +kernel
  obtain ⟨n, rfl⟩ := Int.eq_ofNat_of_zero_le (show 0 ≤ c by omega)
  exact h ⟨n, by omega⟩ (by simp; omega)
def sha_rot (x c : Int) : Int := Go.bits .or .u32 (x * 2 ^ (32 - c).toNat % 4294967296) (x / 2 ^ (32 - (32 - c)).toNat)
theorem rot153 (x c : Int) (w : World) (hc : 1 ≤ c) (hc2 : c ≤ 31) :
    Calls Tryd.prog 153 #[.int .u32 x, .int .i64 (-c)] w fun e w' => e = .returned (.int .u32 (sha_rot x c)) ∧ w' = w := by
  have hs := rot_cnt c hc hc2
  go_enter Tryd.func153, Tryd.ntmps153
  go_wp2
  go_ret
  exact ⟨rfl, rfl⟩
def sha_turn (a b c : Int) (s : Bool) (x : Int) : Int := Go.bits .xor .u32 (Go.bits .xor .u32 (sha_rot x a) (sha_rot x b)) (if s then x / 2 ^ c.toNat else sha_rot x c)
theorem turn152 (x a b c : Int) (s : Bool) (p1 p2 p3 p4 : Nat) (w : World) (h1 : w.cell? ⟨p1, 0, none⟩ = some (.int .i64 c)) (h2 : w.cell? ⟨p2, 0, none⟩ = some (.bool s)) (h3 : w.cell? ⟨p3, 0, none⟩ = some (.int .i64 a)) (h4 : w.cell? ⟨p4, 0, none⟩ = some (.int .i64 b)) (ha : 1 ≤ a) (ha2 : a ≤ 31) (hb : 1 ≤ b) (hb2 : b ≤ 31) (hc : 1 ≤ c) (hc2 : c ≤ 31) :
    Calls Tryd.prog 152 #[.int .u32 x, .pointer (some ⟨p1, 0, none⟩), .pointer (some ⟨p2, 0, none⟩), .pointer (some ⟨p3, 0, none⟩), .pointer (some ⟨p4, 0, none⟩)] w fun e w' => e = .returned (.int .u32 (sha_turn a b c s x)) ∧ Drawn0 w w' := by
  cases s
  · go_enter Tryd.func152, Tryd.ntmps152
    go_wp2_with (go_at_call 153; refine (rot153 _ _ _ (by assumption) (by assumption)).mono ?_; rintro e w' ⟨rfl, rfl⟩)
    go_quiet ((go_at_call 153; exact Calls.quiet_of_same (rot153 _ _ _ (by assumption) (by assumption))))
    go_wp2
    go_ret
    exact ⟨rfl, ⟨_, rfl⟩⟩
  · go_enter Tryd.func152, Tryd.ntmps152
    go_wp2_with (go_at_call 153; refine (rot153 _ _ _ (by assumption) (by assumption)).mono ?_; rintro e w' ⟨rfl, rfl⟩)
    go_quiet ((go_at_call 153; exact Calls.quiet_of_same (rot153 _ _ _ (by assumption) (by assumption))))
    go_wp2
    go_ret
    exact ⟨rfl, ⟨_, rfl⟩⟩
/-- What a function that 'turn' made leads to. -/
structure Clo (w : World) (n : Nat) (a b c : Int) (s : Bool) : Prop where
  ha : w.heap[n]? = some (.cells #[.int .i64 a] 3 (0, 0))
  hb : w.heap[n + 1]? = some (.cells #[.int .i64 b] 3 (0, 0))
  hc : w.heap[n + 2]? = some (.cells #[.int .i64 c] 3 (0, 0))
  hs : w.heap[n + 3]? = some (.cells #[.bool s] 4 (0, 0))
theorem Clo.lt {w : World} {n : Nat} {a b c : Int} {s : Bool} (h : Clo w n a b c s) : n + 4 ≤ w.heap.size := blk_lt h.hs
theorem Clo.keep {w w' : World} {n B : Nat} {a b c : Int} {s : Bool} (h : Clo w n a b c s) (hn : n + 4 ≤ B) (hb : Below B w w') : Clo w' n a b c s :=
  ⟨(hb.block _ (by omega)).trans h.ha, (hb.block _ (by omega)).trans h.hb, (hb.block _ (by omega)).trans h.hc, (hb.block _ (by omega)).trans h.hs⟩
theorem turn120 (a b c : Int) (s : Bool) (w : World) :
    Calls Tryd.prog 120 #[.int .i64 a, .int .i64 b, .int .i64 c, .bool s] w fun e w' => e = .returned (.func (.func 152) #[] #[.pointer (some ⟨w.heap.size + 2, 0, none⟩), .pointer (some ⟨w.heap.size + 3, 0, none⟩), .pointer (some ⟨w.heap.size, 0, none⟩), .pointer (some ⟨w.heap.size + 1, 0, none⟩)]) ∧ Clo w' w.heap.size a b c s ∧ Below w.heap.size w w' := by
  have hmf : ∀ (fn : Fn) (first cap : Array Value) (w : World), (Instr.makeFunc fn first cap).run Tryd.prog w = .ok (.func fn first cap) w := fun _ _ _ _ => rfl
  refine Calls.mono (R := fun e w' => e = .returned (.func (.func 152) #[] #[.pointer (some ⟨w.heap.size + 2, 0, none⟩), .pointer (some ⟨w.heap.size + 3, 0, none⟩), .pointer (some ⟨w.heap.size, 0, none⟩), .pointer (some ⟨w.heap.size + 1, 0, none⟩)]) ∧ w' = (((w.alloc (.cells #[.int .i64 a] 3)).alloc (.cells #[.int .i64 b] 3)).alloc (.cells #[.int .i64 c] 3)).alloc (.cells #[.bool s] 4)) ?_ ?_
  · go_enter Tryd.func120, Tryd.ntmps120
    go_wp2
    go_ret
    exact ⟨rfl, rfl⟩
  · rintro e w' ⟨rfl, rfl⟩
    refine ⟨rfl, ⟨?_, ?_, ?_, ?_⟩, ?_⟩
    · exact blk_alloc (blk_alloc (blk_alloc (blk_new _ _) _) _) _
    · exact blk_alloc (blk_alloc (by simpa using blk_new (w.alloc (.cells #[.int .i64 a] 3)) (.cells #[.int .i64 b] 3)) _) _
    · exact blk_alloc (by simpa using blk_new ((w.alloc (.cells #[.int .i64 a] 3)).alloc (.cells #[.int .i64 b] 3)) (.cells #[.int .i64 c] 3)) _
    · simpa using blk_new (((w.alloc (.cells #[.int .i64 a] 3)).alloc (.cells #[.int .i64 b] 3)).alloc (.cells #[.int .i64 c] 3)) (.cells #[.bool s] 4)
    · exact below_alloc (below_alloc (below_alloc (below_alloc (Below.refl _ _) _) _) _) _
theorem Clo.drewN {w : World} {n : Nat} {a b c : Int} {s : Bool} (h : Clo w n a b c s) (m : Nat) : Clo (w.drewN m) n a b c s := ⟨h.ha, h.hb, h.hc, h.hs⟩
theorem Clo.calls {w : World} {n : Nat} {a b c : Int} {s : Bool} (h : Clo w n a b c s) (x : Int) (ha : 1 ≤ a ∧ a ≤ 31) (hb : 1 ≤ b ∧ b ≤ 31) (hc : 1 ≤ c ∧ c ≤ 31) :
    Calls Tryd.prog 152 #[.int .u32 x, .pointer (some ⟨n + 2, 0, none⟩), .pointer (some ⟨n + 3, 0, none⟩), .pointer (some ⟨n, 0, none⟩), .pointer (some ⟨n + 1, 0, none⟩)] w fun e w' => e = .returned (.int .u32 (sha_turn a b c s x)) ∧ Drawn0 w w' :=
  turn152 x a b c s _ _ _ _ w ((blk_cell h.hc 0).trans rfl) ((blk_cell h.hs 0).trans rfl) ((blk_cell h.ha 0).trans rfl) ((blk_cell h.hb 0).trans rfl) ha.1 ha.2 hb.1 hb.2 hc.1 hc.2
def sha_be (bl : List Int) (j0 j1 j2 j3 : Int) : Int := Go.bits .or .u32 (Go.bits .or .u32 (Go.bits .or .u32 (rd bl j0 % 4294967296 * 16777216 % 4294967296) (rd bl j1 % 4294967296 * 65536 % 4294967296)) (rd bl j2 % 4294967296 * 256 % 4294967296)) (rd bl j3 % 4294967296)
def sha_next (bl ws : List Int) (i : Int) : Int := if i < 16 then sha_be bl (4 * i) (4 * i + 1) (4 * i + 2) (4 * i + 3) else IntKind.u32.wrap (IntKind.u32.wrap (IntKind.u32.wrap (rd ws (i - 16) + rd ws (i - 7)) + sha_turn 7 18 3 true (rd ws (i - 15))) + sha_turn 17 19 10 true (rd ws (i - 2)))
def sha_ws (bl : List Int) : Nat → List Int
  | 0 => List.replicate 64 0
  | i + 1 => (sha_ws bl i).set i (sha_next bl (sha_ws bl i) i)
theorem sha_ws_len (bl : List Int) : ∀ i, (sha_ws bl i).length = 64
  | 0 => by simp [sha_ws]
  | i + 1 => by rw [sha_ws, List.length_set, sha_ws_len bl i]
theorem nums_put (k : IntKind) (xs : List Int) (i : Nat) (v : Int) : ((nums k xs).toArray).setIfInBounds i (.int k v) = (nums k (xs.set i v)).toArray := by
  simp [nums, List.map_set]
theorem arr_cell {w : World} {g : Nat} {t : TypeId} {k : IntKind} {xs : List Int} (h : w.heap[g]? = some (.cells (nums k xs).toArray t (0, 0))) (i : Int) (h0 : 0 ≤ i) (h1 : i < xs.length) : w.cell? ⟨g, i.toNat, none⟩ = some (.int k (rd xs i)) := by
  rw [blk_cell h]
  have : i.toNat < xs.length := by omega
  simp [nums, rd, this]
theorem cell_off {w : World} {b i j : Nat} {u v : Value} (hne : ¬ j = i) (h : w.cell? ⟨b, j, none⟩ = some u) : (w.setCell ⟨b, i, none⟩ v).cell? ⟨b, j, none⟩ = some u :=
  (World.cell?_setCell_other (w := w) (v := v) (a := ⟨b, i, none⟩) (b := ⟨b, j, none⟩) (by intro e; injection e with _ e; exact hne e.symm)).trans h
theorem Clo.cells {w : World} {n : Nat} {a b c : Int} {s : Bool} (h : Clo w n a b c s) : w.cell? ⟨n + 2, 0, none⟩ = some (.int .i64 c) ∧ w.cell? ⟨n + 3, 0, none⟩ = some (.bool s) ∧ w.cell? ⟨n, 0, none⟩ = some (.int .i64 a) ∧ w.cell? ⟨n + 1, 0, none⟩ = some (.int .i64 b) :=
  ⟨(blk_cell h.hc 0).trans rfl, (blk_cell h.hs 0).trans rfl, (blk_cell h.ha 0).trans rfl, (blk_cell h.hb 0).trans rfl⟩
theorem run_index_arr (xs : List Int) (i : Nat) (hi : i < 64) (hx : xs.length = 64) (w : World) : (Instr.index 127 (.agg (nums .u32 xs).toArray) (.int .i64 (i : Int))).run Tryd.prog w = .ok (.int .u32 (rd xs i)) w := by
  have h1 : (0 : Int) ≤ (i : Int) ∧ (i : Int) < 64 := by omega
  have h2 : (nums .u32 xs)[i]? = some (.int .u32 (rd xs i)) := by simp [nums, rd, hx, hi]
  simp [Instr.index, run_underlying Tryd.underlying127, Sem.run_bind, asIntOf, Result.andThen, h1, go_sem]
  rw [if_pos hi, h2]
  rfl
theorem Clo.quiet {w : World} {n : Nat} {a b c : Int} {s : Bool} (h : Clo w n a b c s) (ha : 1 ≤ a ∧ a ≤ 31) (hb : 1 ≤ b ∧ b ≤ 31) (hc : 1 ≤ c ∧ c ≤ 31) (x : Int) (m : Nat) :
    Calls Tryd.prog 152 #[.int .u32 x, .pointer (some ⟨n + 2, 0, none⟩), .pointer (some ⟨n + 3, 0, none⟩), .pointer (some ⟨n, 0, none⟩), .pointer (some ⟨n + 1, 0, none⟩)] (w.drewN m) fun e w' => e = .returned (.int .u32 (sha_turn a b c s x)) ∧ ∃ q, w' = w.drewN q :=
  Calls.quiet_of ((Clo.calls (w := w.drewN m) ⟨h.ha, h.hb, h.hc, h.hs⟩ x ha hb hc).mono fun _ _ ⟨he, hd⟩ => ⟨he, hd.out⟩)
structure V8 where
  a : Int
  b : Int
  c : Int
  d : Int
  e : Int
  f : Int
  g : Int
  h : Int
def V8.cells (v : V8) : Array Value := #[.int .u32 v.a, .int .u32 v.b, .int .u32 v.c, .int .u32 v.d, .int .u32 v.e, .int .u32 v.f, .int .u32 v.g, .int .u32 v.h]
theorem grown_set {w W : World} {g : Nat} (h : w.grownBy W (some g)) (i : Nat) (v : Value) : w.grownBy (W.setCell ⟨g, i, none⟩ v) (some g) :=
  ⟨h.os, h.tape, h.output, by have := h.size; simpa [World.setCell] using this, fun k hk hne => (Below.heap_setCell W ⟨g, i, none⟩ v k (fun e => hne (by rw [e]))).trans (h.block k hk hne)⟩
theorem grown_drew {w W : World} {g : Option Nat} (h : w.grownBy W g) : w.grownBy W.drew g := ⟨h.os, h.tape, h.output, h.size, h.block⟩
def V8.list (v : V8) : List Int := [v.a, v.b, v.c, v.d, v.e, v.f, v.g, v.h]
theorem V8.cells_list (v : V8) : v.cells = (nums .u32 v.list).toArray := rfl
def sha_adds (vs hs : List Int) : Nat → List Int
  | 0 => hs
  | i + 1 => (sha_adds vs hs i).set i ((rd (sha_adds vs hs i) i + rd vs i) % 4294967296)
theorem sha_adds_len (vs hs : List Int) : ∀ i, (sha_adds vs hs i).length = hs.length
  | 0 => rfl
  | i + 1 => by rw [sha_adds, List.length_set, sha_adds_len vs hs i]
theorem blk_put8 {w : World} {g t : Nat} {c0 c1 c2 c3 c4 c5 c6 c7 d0 d1 d2 d3 d4 d5 d6 d7 : Value} (h : w.heap[g]? = some (.cells #[c0, c1, c2, c3, c4, c5, c6, c7] t (0, 0))) : ((((((((w.setCell ⟨g, 0, none⟩ d0).setCell ⟨g, 1, none⟩ d1).setCell ⟨g, 2, none⟩ d2).setCell ⟨g, 3, none⟩ d3).setCell ⟨g, 4, none⟩ d4).setCell ⟨g, 5, none⟩ d5).setCell ⟨g, 6, none⟩ d6).setCell ⟨g, 7, none⟩ d7).heap[g]? = some (.cells #[d0, d1, d2, d3, d4, d5, d6, d7] t (0, 0)) := by
  have e := (blk_set (blk_set (blk_set (blk_set (blk_set (blk_set (blk_set (blk_set h 0 d0) 1 d1) 2 d2) 3 d3) 4 d4) 5 d5) 6 d6) 7 d7)
  simpa using e
theorem below8 {a w : World} {B g : Nat} (h : Below B a w) (hg : B ≤ g) (d0 d1 d2 d3 d4 d5 d6 d7 : Value) : Below B a ((((((((w.setCell ⟨g, 0, none⟩ d0).setCell ⟨g, 1, none⟩ d1).setCell ⟨g, 2, none⟩ d2).setCell ⟨g, 3, none⟩ d3).setCell ⟨g, 4, none⟩ d4).setCell ⟨g, 5, none⟩ d5).setCell ⟨g, 6, none⟩ d6).setCell ⟨g, 7, none⟩ d7) := (Below.setCell (Below.setCell (Below.setCell (Below.setCell (Below.setCell (Below.setCell (Below.setCell (Below.setCell h (p := ⟨g, 0, none⟩) hg d0) (p := ⟨g, 1, none⟩) hg d1) (p := ⟨g, 2, none⟩) hg d2) (p := ⟨g, 3, none⟩) hg d3) (p := ⟨g, 4, none⟩) hg d4) (p := ⟨g, 5, none⟩) hg d5) (p := ⟨g, 6, none⟩) hg d6) (p := ⟨g, 7, none⟩) hg d7)
def sha_t (ks ws : List Int) (i : Nat) (v : V8) : Int := v.h + sha_turn 6 11 25 false v.e + Go.bits .or .u32 (Go.bits .and .u32 v.e v.f) (Go.bits .andNot .u32 v.g v.e) + rd ks i + rd ws i
def sha_u (v : V8) : Int := sha_turn 2 13 22 false v.a + Go.bits .or .u32 (Go.bits .or .u32 (Go.bits .and .u32 v.a v.b) (Go.bits .and .u32 v.a v.c)) (Go.bits .and .u32 v.b v.c)
def sha_round (ks ws : List Int) (i : Nat) (v : V8) : V8 := ⟨(sha_t ks ws i v + sha_u v) % 4294967296, v.a, v.b, v.c, (v.d + sha_t ks ws i v) % 4294967296, v.e, v.f, v.g⟩
def sha_rounds (ks ws : List Int) (v : V8) : Nat → V8
  | 0 => v
  | i + 1 => sha_round ks ws i (sha_rounds ks ws v i)
def sha_block (ks bl : List Int) (v : V8) : List Int := sha_adds (sha_rounds ks (sha_ws bl 64) v 64).list v.list 8
set_option maxHeartbeats 8000000 in
set_option maxRecDepth 100000 in
theorem block92 (hb kb : Nat) (v0 : V8) (ks : List Int) (A : Option Addr) (c : Nat) (bl : List Int) (w : World) (hH : w.heap[hb]? = some (.cells v0.cells 126 (0, 0))) (hK : w.heap[kb]? = some (.cells (nums .u32 ks).toArray 127 (0, 0)))
    (hne : hb ≠ kb) (hks : ks.length = 64) (hr : Kd.C (Kd.int .u8) w A bl.length bl) (hbl : bl.length = 64) :
    Calls Tryd.prog 92 #[.pointer (some ⟨hb, 0, none⟩), .pointer (some ⟨kb, 0, none⟩), .slice A bl.length c] w fun e w' => e = .returned (.tuple #[]) ∧ w'.heap[hb]? = some (.cells (nums .u32 (sha_block ks bl v0)).toArray 126 (0, 0)) ∧ w.grownBy w' (some hb) := by
  have H1 := Aside0.mk hH
  have H2 := Aside0.mk hK
  have H4 := Aside0.mk hks
  have HR := Aside0.mk hr
  have HL := Aside0.mk hbl
  clear hH hK hks hr hbl
  go_enter Tryd.func92, Tryd.ntmps92
  go_wp2_with fail
  refine (turn120 _ _ _ _ _).mono ?_
  rintro e w1 ⟨rfl, c1, b1⟩
  obtain ⟨n1, hn1⟩ : ∃ n, n = w.heap.size := ⟨_, rfl⟩
  rw [← hn1] at c1 ⊢
  clear hn1
  go_wp2_with fail
  refine (turn120 _ _ _ _ _).mono ?_
  rintro e w2 ⟨rfl, c2, b2⟩
  obtain ⟨n2, hn2⟩ : ∃ n, n = w1.heap.size := ⟨_, rfl⟩
  rw [← hn2] at c2 ⊢
  clear hn2
  go_wp2_with fail
  refine (turn120 _ _ _ _ _).mono ?_
  rintro e w3 ⟨rfl, c3, b3⟩
  obtain ⟨n3, hn3⟩ : ∃ n, n = w2.heap.size := ⟨_, rfl⟩
  rw [← hn3] at c3 ⊢
  clear hn3
  go_wp2_with fail
  refine (turn120 _ _ _ _ _).mono ?_
  rintro e w4 ⟨rfl, c4, b4⟩
  obtain ⟨n4, hn4⟩ : ∃ n, n = w3.heap.size := ⟨_, rfl⟩
  rw [← hn4] at c4 ⊢
  clear hn4
  have B := Aside0.mk (below_step (below_step (below_step b1 b2) b3) b4)
  have C1 := Aside0.mk (((c1.keep c1.lt b2).keep (Nat.le_trans c1.lt b2.size) b3).keep (Nat.le_trans c1.lt (Nat.le_trans b2.size b3.size)) b4)
  have C2 := Aside0.mk ((c2.keep c2.lt b3).keep (Nat.le_trans c2.lt b3.size) b4)
  have C3 := Aside0.mk (c3.keep c3.lt b4)
  have C4 := Aside0.mk c4
  clear c1 c2 c3 c4 b1 b2 b3 b4 w1 w2 w3
  go_wp2
  have e0 : w4.alloc (Obj.cells (nums .u32 (sha_ws bl 0)).toArray 127) = w4.alloc (Obj.cells (nums .u32 (sha_ws bl 0)).toArray 127) := rfl
  go_loopg [11, 22] 64 (fun g v11 v22 wr => ∃ i : Nat, v22 = .int .i64 i ∧ Aside0 (i + g = 64) ∧ Aside0 (wr.heap[w4.heap.size]? = some (.cells (nums .u32 (sha_ws bl i)).toArray 127 (0, 0))) ∧ Aside0 (Below w4.heap.size w4 wr))
  case atStart => exact ⟨0, rfl, ⟨by omega⟩, ⟨heap_alloc_new w4 _⟩, ⟨below_alloc (Below.refl _ _) _⟩⟩
  case round =>
    obtain ⟨i, rfl, Hg, Hw, HB⟩ := hrel
    have hwl := sha_ws_len bl i
    by_cases hi : i < 64
    · have hi' : (i : Int) < 64 := by omega
      by_cases h16 : i < 16
      · have h16' : (i : Int) < 16 := by omega
        have hCw := Kd.C_below HR.out (below_step B.out HB.out)
        obtain ⟨j0, hj0⟩ : ∃ j : Int, IntKind.i64.wrap (4 * (i : Int)) = j := ⟨_, rfl⟩
        obtain ⟨j1, hj1⟩ : ∃ j : Int, IntKind.i64.wrap (j0 + 1) = j := ⟨_, rfl⟩
        obtain ⟨j2, hj2⟩ : ∃ j : Int, IntKind.i64.wrap (j0 + 2) = j := ⟨_, rfl⟩
        obtain ⟨j3, hj3⟩ : ∃ j : Int, IntKind.i64.wrap (j0 + 3) = j := ⟨_, rfl⟩
        have r0 : j0 = 4 * (i : Int) := by rw [← hj0, IntKind.wrap_i64]; omega
        have r1 : j1 = 4 * (i : Int) + 1 := by rw [← hj1, IntKind.wrap_i64]; omega
        have r2 : j2 = 4 * (i : Int) + 2 := by rw [← hj2, IntKind.wrap_i64]; omega
        have r3 : j3 = 4 * (i : Int) + 3 := by rw [← hj3, IntKind.wrap_i64]; omega
        have hL := HL.out
        obtain ⟨ad, rfl, q0⟩ := Kd.at_int hCw j0 (by omega) (by omega)
        obtain ⟨_, ea, q1⟩ := Kd.at_int hCw j1 (by omega) (by omega)
        cases ea
        obtain ⟨_, ea, q2⟩ := Kd.at_int hCw j2 (by omega) (by omega)
        cases ea
        obtain ⟨_, ea, q3⟩ := Kd.at_int hCw j3 (by omega) (by omega)
        cases ea
        have g0 : 0 ≤ j0 := by omega
        have g1 : 0 ≤ j1 := by omega
        have g2 : 0 ≤ j2 := by omega
        have g3 : 0 ≤ j3 := by omega
        have l0 : j0 < (bl.length : Int) := by omega
        have l1 : j1 < (bl.length : Int) := by omega
        have l2 : j2 < (bl.length : Int) := by omega
        have l3 : j3 < (bl.length : Int) := by omega
        have R0 := Aside0.mk r0
        have R1 := Aside0.mk r1
        have R2 := Aside0.mk r2
        have R3 := Aside0.mk r3
        clear hCw hL r0 r1 r2 r3
        go_wp2
        go_still_tail 34, (by kernel_rfl)
        change wpList _ _ _ _ _ wr.drew
        have hcw : wr.cell? ⟨w4.heap.size, i, none⟩ = some (.int .u32 (rd (sha_ws bl i) i)) := by rw [blk_cell Hw.out]; simp [nums, rd, hwl, hi]
        have hfw : wr.frozen? ⟨w4.heap.size, i, none⟩ = false := blk_frozen Hw.out i
        go_wp2
        obtain ⟨g', rfl⟩ : ∃ g', gk = g' + 1 := ⟨gk - 1, by have := Hg.out; omega⟩
        go_roundg g'
        case measure => omega
        case rel =>
          refine ⟨i + 1, by go_num, ⟨by have := Hg.out; omega⟩, ⟨(blk_put (w := wr) Hw.out i _ ?_).trans rfl⟩, ⟨below_drew (Below.setCell HB.out (p := ⟨w4.heap.size, i, none⟩) (Nat.le_refl _) _)⟩⟩
          rw [nums_put, sha_ws, sha_next, if_pos h16', ← R3.out, ← R2.out, ← R1.out, ← R0.out]
          rfl
      · have h16' : ¬ (i : Int) < 16 := by omega
        obtain ⟨j0, hj0⟩ : ∃ j : Int, IntKind.i64.wrap ((i : Int) - 16) = j := ⟨_, rfl⟩
        obtain ⟨j1, hj1⟩ : ∃ j : Int, IntKind.i64.wrap ((i : Int) - 7) = j := ⟨_, rfl⟩
        obtain ⟨j2, hj2⟩ : ∃ j : Int, IntKind.i64.wrap ((i : Int) - 15) = j := ⟨_, rfl⟩
        obtain ⟨j3, hj3⟩ : ∃ j : Int, IntKind.i64.wrap ((i : Int) - 2) = j := ⟨_, rfl⟩
        have r0 : j0 = (i : Int) - 16 := by rw [← hj0, IntKind.wrap_i64]; omega
        have r1 : j1 = (i : Int) - 7 := by rw [← hj1, IntKind.wrap_i64]; omega
        have r2 : j2 = (i : Int) - 15 := by rw [← hj2, IntKind.wrap_i64]; omega
        have r3 : j3 = (i : Int) - 2 := by rw [← hj3, IntKind.wrap_i64]; omega
        have q0 := arr_cell Hw.out j0 (by omega) (by omega)
        have q1 := arr_cell Hw.out j1 (by omega) (by omega)
        have q2 := arr_cell Hw.out j2 (by omega) (by omega)
        have q3 := arr_cell Hw.out j3 (by omega) (by omega)
        have g0 : 0 ≤ j0 ∧ j0 < 64 := by omega
        have g1 : 0 ≤ j1 ∧ j1 < 64 := by omega
        have g2 : 0 ≤ j2 ∧ j2 < 64 := by omega
        have g3 : 0 ≤ j3 ∧ j3 < 64 := by omega
        have R0 := Aside0.mk r0
        have R1 := Aside0.mk r1
        have R2 := Aside0.mk r2
        have R3 := Aside0.mk r3
        obtain ⟨u1, u2, u3, u4⟩ := (C1.out.keep C1.out.lt HB.out).cells
        obtain ⟨v1, v2, v3, v4⟩ := (C2.out.keep C2.out.lt HB.out).cells
        have hcw : wr.cell? ⟨w4.heap.size, i, none⟩ = some (.int .u32 (rd (sha_ws bl i) i)) := by rw [blk_cell Hw.out]; simp [nums, rd, hwl, hi]
        have hfw : wr.frozen? ⟨w4.heap.size, i, none⟩ = false := blk_frozen Hw.out i
        have e0 : ¬ i = j0.toNat := by omega
        have e1 : ¬ i = j1.toNat := by omega
        have e2 : ¬ i = j2.toNat := by omega
        have e3 : ¬ i = j3.toNat := by omega
        have e0' : ¬ j0.toNat = i := by omega
        have e1' : ¬ j1.toNat = i := by omega
        have e2' : ¬ j2.toNat = i := by omega
        have e3' : ¬ j3.toNat = i := by omega
        have L1 := C1.out.lt
        have L2 := C2.out.lt
        have d1 : ¬ w4.heap.size = n1 ∧ ¬ w4.heap.size = n1 + 1 ∧ ¬ w4.heap.size = n1 + 2 ∧ ¬ w4.heap.size = n1 + 3 := by omega
        have d2 : ¬ w4.heap.size = n2 ∧ ¬ w4.heap.size = n2 + 1 ∧ ¬ w4.heap.size = n2 + 2 ∧ ¬ w4.heap.size = n2 + 3 := by omega
        have d3 : ¬ n1 = w4.heap.size ∧ ¬ n1 + 1 = w4.heap.size ∧ ¬ n1 + 2 = w4.heap.size ∧ ¬ n1 + 3 = w4.heap.size := by omega
        have d4 : ¬ n2 = w4.heap.size ∧ ¬ n2 + 1 = w4.heap.size ∧ ¬ n2 + 2 = w4.heap.size ∧ ¬ n2 + 3 = w4.heap.size := by omega
        clear r0 r1 r2 r3 L1 L2
        go_wp2
        go_region_held3 (fun w' => w'.cell? ⟨w4.heap.size, j0.toNat, none⟩ = some (.int .u32 (rd (sha_ws bl i) j0)) ∧ w'.cell? ⟨w4.heap.size, j1.toNat, none⟩ = some (.int .u32 (rd (sha_ws bl i) j1)) ∧ w'.cell? ⟨w4.heap.size, j2.toNat, none⟩ = some (.int .u32 (rd (sha_ws bl i) j2)) ∧ w'.cell? ⟨w4.heap.size, j3.toNat, none⟩ = some (.int .u32 (rd (sha_ws bl i) j3)) ∧ w'.cell? ⟨n1 + 2, 0, none⟩ = some (.int .i64 3) ∧ w'.cell? ⟨n1 + 3, 0, none⟩ = some (.bool true) ∧ w'.cell? ⟨n1, 0, none⟩ = some (.int .i64 7) ∧ w'.cell? ⟨n1 + 1, 0, none⟩ = some (.int .i64 18) ∧ w'.cell? ⟨n2 + 2, 0, none⟩ = some (.int .i64 10) ∧ w'.cell? ⟨n2 + 3, 0, none⟩ = some (.bool true) ∧ w'.cell? ⟨n2, 0, none⟩ = some (.int .i64 17) ∧ w'.cell? ⟨n2 + 1, 0, none⟩ = some (.int .i64 19)) ((first | ((with_reducible refine ⟨cell_off e0' ?_, cell_off e1' ?_, cell_off e2' ?_, cell_off e3' ?_, ?_, ?_, ?_, ?_, ?_, ?_, ?_, ?_⟩) <;> go_keep) | go_keep)) (first | (go_at_call 152; (with_reducible refine (turn152 _ 7 18 3 true (n1 + 2) (n1 + 3) n1 (n1 + 1) _ ?_ ?_ ?_ ?_ (by omega) (by omega) (by omega) (by omega) (by omega) (by omega)).mono ?_); (simp [*]); (simp [*]); (simp [*]); (simp [*]); rintro e w' ⟨rfl, ⟨n, rfl⟩⟩) | (go_at_call 152; (with_reducible refine (turn152 _ 17 19 10 true (n2 + 2) (n2 + 3) n2 (n2 + 1) _ ?_ ?_ ?_ ?_ (by omega) (by omega) (by omega) (by omega) (by omega) (by omega)).mono ?_); (simp [*]); (simp [*]); (simp [*]); (simp [*]); rintro e w' ⟨rfl, ⟨n, rfl⟩⟩))
        obtain ⟨g', rfl⟩ : ∃ g', gk = g' + 1 := ⟨gk - 1, by have := Hg.out; omega⟩
        go_wp2
        go_roundg g'
        case measure => omega
        case rel =>
          refine ⟨i + 1, by go_num, ⟨by have := Hg.out; omega⟩, ⟨(blk_put (w := wr) Hw.out i _ ?_).trans rfl⟩, ⟨pw_below_drewN (Below.setCell HB.out (p := ⟨w4.heap.size, i, none⟩) (Nat.le_refl _) _) _⟩⟩
          rw [nums_put, sha_ws, sha_next, if_neg (show ¬ (i : Int) < 16 by omega), ← R3.out, ← R2.out, ← R1.out, ← R0.out]
          rfl
    · have hi' : ¬ (i : Int) < 64 := by omega
      obtain ⟨ws, hws⟩ : ∃ ws, ws = sha_ws bl i := ⟨_, rfl⟩
      rw [← hws] at Hw hwl
      have HWS := Aside0.mk (show i = 64 ∧ ws = sha_ws bl i from ⟨by have := Hg.out; omega, hws⟩)
      clear hws hi Hg
      have Bw := below_step B.out HB.out
      have Hh := blk_below H1.out Bw
      have Hk := blk_below H2.out Bw
      obtain ⟨x0, x1, x2, x3, x4, x5, x6, x7⟩ := v0
      have HH := Aside0.mk (show wr.heap[hb]? = some (.cells #[.int .u32 x0, .int .u32 x1, .int .u32 x2, .int .u32 x3, .int .u32 x4, .int .u32 x5, .int .u32 x6, .int .u32 x7] 126 (0, 0)) from Hh)
      have HK := Aside0.mk Hk
      have HBw := Aside0.mk Bw
      have hul := Tryd.underlying126
      clear Hh Hk Bw
      have hidx := fun i hi => run_index_arr ws i hi hwl
      go_wp2_with (first | (with_reducible refine wpList_load_row rfl 126 (.tmp 89) rfl hb rfl 126 _ (0, 0) _ HH.out Tryd.underlying126 rfl (by kernel_rfl) ?_) | (with_reducible refine wpList_load_row rfl 127 (.tmp 10) rfl w4.heap.size rfl 127 _ (0, 0) _ (blk_alloc Hw.out _) Tryd.underlying127 rfl (by rw [List.size_toArray, nums_length, hwl]; kernel_rfl) ?_))
      obtain ⟨wo, hwo⟩ : ∃ wo : World, wo = wr := ⟨_, rfl⟩
      rw [← hwo] at HH HK HBw HB Hw ⊢
      clear hwo
      go_loopg [13, 14, 15, 16, 92] 64 (fun g v13 v14 v15 v16 v92 wr => ∃ (j : Nat) (v : V8), v92 = .int .i64 j ∧ Aside0 (j + g = 64) ∧ Aside0 (wr.heap[wo.heap.size]? = some (.cells v.cells 126 (0, 0))) ∧ Aside0 (Below wo.heap.size wo wr) ∧ Aside0 (v = sha_rounds ks ws ⟨x0, x1, x2, x3, x4, x5, x6, x7⟩ j))
      case atStart => exact ⟨0, ⟨x0, x1, x2, x3, x4, x5, x6, x7⟩, rfl, ⟨by omega⟩, ⟨heap_alloc_new wo _⟩, ⟨below_alloc (Below.refl _ _) _⟩, ⟨rfl⟩⟩
      case round =>
        obtain ⟨j, ⟨y0, y1, y2, y3, y4, y5, y6, y7⟩, rfl, Hg, Hv, HB2, HV⟩ := hrel
        by_cases hj : j < 64
        · have hj' : (j : Int) < 64 := by omega
          have hji := hidx j hj
          have q0 : wr.cell? ⟨wo.heap.size, 0, none⟩ = some (.int .u32 y0) := (blk_cell Hv.out 0).trans rfl
          have q1 : wr.cell? ⟨wo.heap.size, 1, none⟩ = some (.int .u32 y1) := (blk_cell Hv.out 1).trans rfl
          have q2 : wr.cell? ⟨wo.heap.size, 2, none⟩ = some (.int .u32 y2) := (blk_cell Hv.out 2).trans rfl
          have q3 : wr.cell? ⟨wo.heap.size, 3, none⟩ = some (.int .u32 y3) := (blk_cell Hv.out 3).trans rfl
          have q4 : wr.cell? ⟨wo.heap.size, 4, none⟩ = some (.int .u32 y4) := (blk_cell Hv.out 4).trans rfl
          have q5 : wr.cell? ⟨wo.heap.size, 5, none⟩ = some (.int .u32 y5) := (blk_cell Hv.out 5).trans rfl
          have q6 : wr.cell? ⟨wo.heap.size, 6, none⟩ = some (.int .u32 y6) := (blk_cell Hv.out 6).trans rfl
          have q7 : wr.cell? ⟨wo.heap.size, 7, none⟩ = some (.int .u32 y7) := (blk_cell Hv.out 7).trans rfl
          have qk : wr.cell? ⟨kb, j, none⟩ = some (.int .u32 (rd ks j)) := by
            have h := arr_cell (blk_below HK.out HB2.out) (j : Int) (by omega) (by have := H4.out; omega)
            simpa using h
          have K3 := (C3.out.keep C3.out.lt HB.out).keep (Nat.le_trans C3.out.lt HB.out.size) HB2.out
          have K4 := (C4.out.keep C4.out.lt HB.out).keep (Nat.le_trans C4.out.lt HB.out.size) HB2.out
          clear hidx
          go_wp2
          go_quiet ((go_at_call 152; exact Clo.quiet K4 (by omega) (by omega) (by omega) _ _))
          go_wp2
          obtain ⟨wq, hwq⟩ : ∃ wq, wq = wr.drewN nq := ⟨_, rfl⟩
          have K3q : Clo wq n3 2 13 22 false := by rw [hwq]; exact K3.drewN _
          have Hvq : wq.heap[wo.heap.size]? = some (.cells #[.int .u32 y0, .int .u32 y1, .int .u32 y2, .int .u32 y3, .int .u32 y4, .int .u32 y5, .int .u32 y6, .int .u32 y7] 126 (0, 0)) := by rw [hwq]; exact Hv.out
          have Hbq : Below wo.heap.size wo wq := by rw [hwq]; exact pw_below_drewN HB2.out _
          rw [← hwq]
          clear q0 q1 q2 q3 q4 q5 q6 q7 qk K3 K4 hwq
          have q0 : wq.cell? ⟨wo.heap.size, 0, none⟩ = some (.int .u32 y0) := (blk_cell Hvq 0).trans rfl
          have q1 : wq.cell? ⟨wo.heap.size, 1, none⟩ = some (.int .u32 y1) := (blk_cell Hvq 1).trans rfl
          have q2 : wq.cell? ⟨wo.heap.size, 2, none⟩ = some (.int .u32 y2) := (blk_cell Hvq 2).trans rfl
          have q3 : wq.cell? ⟨wo.heap.size, 3, none⟩ = some (.int .u32 y3) := (blk_cell Hvq 3).trans rfl
          have q4 : wq.cell? ⟨wo.heap.size, 4, none⟩ = some (.int .u32 y4) := (blk_cell Hvq 4).trans rfl
          have q5 : wq.cell? ⟨wo.heap.size, 5, none⟩ = some (.int .u32 y5) := (blk_cell Hvq 5).trans rfl
          have q6 : wq.cell? ⟨wo.heap.size, 6, none⟩ = some (.int .u32 y6) := (blk_cell Hvq 6).trans rfl
          have q7 : wq.cell? ⟨wo.heap.size, 7, none⟩ = some (.int .u32 y7) := (blk_cell Hvq 7).trans rfl
          have f0 : wq.frozen? ⟨wo.heap.size, 0, none⟩ = false := blk_frozen Hvq 0
          have f1 : wq.frozen? ⟨wo.heap.size, 1, none⟩ = false := blk_frozen Hvq 1
          have f2 : wq.frozen? ⟨wo.heap.size, 2, none⟩ = false := blk_frozen Hvq 2
          have f3 : wq.frozen? ⟨wo.heap.size, 3, none⟩ = false := blk_frozen Hvq 3
          have f4 : wq.frozen? ⟨wo.heap.size, 4, none⟩ = false := blk_frozen Hvq 4
          have f5 : wq.frozen? ⟨wo.heap.size, 5, none⟩ = false := blk_frozen Hvq 5
          have f6 : wq.frozen? ⟨wo.heap.size, 6, none⟩ = false := blk_frozen Hvq 6
          have f7 : wq.frozen? ⟨wo.heap.size, 7, none⟩ = false := blk_frozen Hvq 7
          have HVq := Aside0.mk Hvq
          have HBq := Aside0.mk Hbq
          clear Hvq Hbq
          go_quiet ((go_at_call 152; exact Clo.quiet K3q (by omega) (by omega) (by omega) _ _))
          obtain ⟨g', rfl⟩ : ∃ g', gk = g' + 1 := ⟨gk - 1, by have := Hg.out; omega⟩
          go_wp2
          go_roundg g'
          case measure => omega
          case rel => exact ⟨j + 1, sha_round ks ws j ⟨y0, y1, y2, y3, y4, y5, y6, y7⟩, by go_num, ⟨by have := Hg.out; omega⟩, ⟨blk_put8 (w := wq.drewN nq) HVq.out⟩, ⟨below8 (pw_below_drewN HBq.out _) (Nat.le_refl _) _ _ _ _ _ _ _ _⟩, ⟨by rw [sha_rounds, ← HV.out]⟩⟩
        · have hj' : ¬ (j : Int) < 64 := by omega
          obtain ⟨vv, hvv⟩ : ∃ vv : V8, vv = ⟨y0, y1, y2, y3, y4, y5, y6, y7⟩ := ⟨_, rfl⟩
          have HVV := Aside0.mk (show j = 64 ∧ vv = sha_rounds ks ws ⟨x0, x1, x2, x3, x4, x5, x6, x7⟩ j from ⟨by have := Hg.out; omega, hvv.trans HV.out⟩)
          have Hvl : wr.heap[wo.heap.size]? = some (.cells (nums .u32 vv.list).toArray 126 (0, 0)) := by rw [← V8.cells_list, hvv]; exact Hv.out
          have Hhl : wr.heap[hb]? = some (.cells (nums .u32 (V8.list ⟨x0, x1, x2, x3, x4, x5, x6, x7⟩)).toArray 126 (0, 0)) := by rw [← V8.cells_list]; exact blk_below HH.out HB2.out
          obtain ⟨h0, hh0⟩ : ∃ h0, h0 = V8.list ⟨x0, x1, x2, x3, x4, x5, x6, x7⟩ := ⟨_, rfl⟩
          have HH0 := Aside0.mk hh0
          rw [← hh0] at Hhl
          have hl8 : h0.length = 8 := by rw [hh0]; rfl
          have HHL := Aside0.mk Hhl
          have HVL := Aside0.mk Hvl
          have HL8 := Aside0.mk hl8
          have hhb : hb < wo.heap.size := blk_lt HH.out
          have HGr := Aside0.mk (grown_of_below (below_step HBw.out HB2.out) (some hb))
          clear hvv HV Hv Hg Hvl Hhl hh0 hl8 hidx hj HB2
          go_wp2
          obtain ⟨wp, hwp⟩ : ∃ wp : World, wp = wr := ⟨_, rfl⟩
          rw [← hwp] at HHL HVL HGr ⊢
          clear hwp
          go_loopg [17, 166] 8 (fun g v17 v166 wr => ∃ (i : Nat), v166 = .int .i64 i ∧ Aside0 (i + g = 8) ∧ Aside0 (wr.heap[hb]? = some (.cells (nums .u32 (sha_adds vv.list h0 i)).toArray 126 (0, 0))) ∧ Aside0 (wr.heap[wo.heap.size]? = some (.cells (nums .u32 vv.list).toArray 126 (0, 0))) ∧ Aside0 (w.grownBy wr (some hb)))
          case atStart => exact ⟨0, rfl, ⟨by omega⟩, HHL, HVL, HGr⟩
          case round =>
            obtain ⟨q, rfl, Hg, Hh, Hv, HG⟩ := hrel
            by_cases hq : q < 8
            · have hq' : (q : Int) < 8 := by omega
              have c0 := arr_cell Hh.out (q : Int) (by omega) (by rw [sha_adds_len, HL8.out]; omega)
              have c1 := arr_cell Hv.out (q : Int) (by omega) (by simp [V8.list]; omega)
              simp only [Int.toNat_natCast] at c0 c1
              have f0 : wr.frozen? ⟨hb, q, none⟩ = false := blk_frozen Hh.out q
              go_wp2
              go_still_tail 10, (by kernel_rfl)
              change wpList _ _ _ _ _ wr.drew
              go_wp2
              obtain ⟨g', rfl⟩ : ∃ g', gk = g' + 1 := ⟨gk - 1, by have := Hg.out; omega⟩
              go_roundg g'
              case measure => omega
              case rel =>
                refine ⟨q + 1, by go_num, ⟨by have := Hg.out; omega⟩, ⟨(blk_put (w := wr) Hh.out q _ ?_).trans rfl⟩, ⟨blk_far (w := wr) Hv.out (p := ⟨hb, q, none⟩) (fun e => by have : wo.heap.size = hb := e; omega) _⟩, ⟨grown_drew (grown_set HG.out q _)⟩⟩
                rw [nums_put, sha_adds]
            · have hq' : ¬ (q : Int) < 8 := by omega
              go_wp2
              go_end0
              refine ⟨rfl, ?_, HG.out⟩
              obtain ⟨ej, ev⟩ := HVV.out
              obtain ⟨ei, ew⟩ := HWS.out
              have eq : q = 8 := by have := Hg.out; omega
              have e := Hh.out
              rw [ev, HH0.out, ew, ej, ei, eq] at e
              exact e
def sha_constants.l0 : Nat → List Int → Nat → List Int → Option (List Int)
  | 0, _, _, _ => none
  | k + 1, ps, i, out => if i < ps.length then (if i < 64 then ((sha_root.f k (rd ps i) true).bind fun t => sha_constants.l0 k ps (i + 1) (out.set i t)) else none) else some out
def sha_constants.f (k : Nat) : Option (List Int) := (sha_primes.f k 64).bind fun ps => sha_constants.l0 k ps 0 (List.replicate 64 0)
theorem sha_constants.len : ∀ (k : Nat) (ps : List Int) (i : Nat) (out r : List Int), sha_constants.l0 k ps i out = some r → r.length = out.length
  | 0, _, _, _, _, h => by cases h
  | k + 1, ps, i, out, r, h => by
    unfold sha_constants.l0 at h
    split at h
    · split at h
      · obtain ⟨t, _, h2⟩ := Option.bind_eq_some_iff.1 h
        have := sha_constants.len k ps (i + 1) _ r h2
        simpa using this
      · cases h
    · rw [Option.some.inj h]
theorem blk_new1 (w : World) (o o' : Obj) : ((w.alloc o).alloc o').heap[w.heap.size + 1]? = some o' := by
  have e := blk_new (w.alloc o) o'
  rwa [show (w.alloc o).heap.size = w.heap.size + 1 from by simp] at e
theorem below_row {B g : Nat} {w0 w : World} (hb : Below B w0 w) (hBg : B ≤ g) (cs : Array Value) : Below B w0 (w.setRow g cs) :=
  ⟨hb.os, hb.tape, hb.output, by rw [setRow_size]; exact hb.size, fun k hk => (setRow_other w g k cs (by omega)).trans (hb.block k hk)⟩
theorem nums_one (k : IntKind) (xs : List Int) : (nums k xs).toArray.all (·.oneCell') = true := by simp [nums, Value.oneCell']
set_option maxHeartbeats 8000000 in
set_option maxRecDepth 100000 in
theorem sha_constants.calls (k : Nat) (r : List Int) (w : World) (h : sha_constants.f k = some r) :
    Calls Tryd.prog 91 #[] w fun e w' => e = .returned (.agg (nums .u32 r).toArray) ∧ Below w.heap.size w w' := by
  obtain ⟨ps, h1, h2⟩ := Option.bind_eq_some_iff.1 h
  have H1 := Aside0.mk h1
  have H2 := Aside0.mk h2
  clear h h1 h2
  go_enter Tryd.func91, Tryd.ntmps91
  go_wp2_with (go_at_call 93; refine (sha_primes.calls k 64 ps _ H1.out).mono ?_; rintro e w1 ⟨v, rfl, hR, hB⟩; have HB := Aside0.mk hB; obtain ⟨A, c, rfl, _⟩ := Kd.R_reads hR; have HR := Aside0.mk hR; clear hR hB)
  have hb0 : w1.heap[w.heap.size]? = some (.cells (nums .u32 (List.replicate 64 0)).toArray 127 (0, 0)) := blk_below (blk_alloc (blk_new w _) _) HB.out
  have hb1 : w1.heap[w.heap.size + 1]? = some (.cells (nums .u32 (List.replicate 64 0)).toArray 127 (0, 0)) := blk_below (blk_new1 w _ _) HB.out
  have hB : Below w.heap.size w w1 := below_step (below_alloc (below_alloc (Below.refl _ _) _) _) HB.out
  have hR : Kd.R (Kd.int .u64) 84 w1 (w.heap.size + 2) (fun k => w.heap.size + 2 ≤ k) (.slice A ps.length c) ps := by
    have e := Kd.R_bound HR.out
    simp at e
    exact Kd.R_mono e (fun k hk => hk.1)
  have B0 := Aside0.mk hb0
  have B1 := Aside0.mk hb1
  have BB := Aside0.mk hB
  have RR := Aside0.mk hR
  clear hb0 hb1 hB hR HB HR
  go_loopg [2, 3, 6] k (fun kq v2 v3 v6 wr => ∃ (i : Nat) (out : List Int), v6 = .int .i64 i ∧ Aside0 (sha_constants.l0 kq ps i out = some r) ∧ Aside0 (out.length = 64) ∧ Aside0 (kq ≤ k) ∧ Aside0 (wr.heap[w.heap.size]? = some (.cells (nums .u32 (List.replicate 64 0)).toArray 127 (0, 0))) ∧ Aside0 (wr.heap[w.heap.size + 1]? = some (.cells (nums .u32 out).toArray 127 (0, 0))) ∧ Aside0 (Below w.heap.size w wr) ∧ Aside0 (Kd.R (Kd.int .u64) 84 wr (w.heap.size + 2) (fun k => w.heap.size + 2 ≤ k) (.slice A ps.length c) ps))
  case atStart => exact ⟨0, List.replicate 64 0, rfl, H2, ⟨by simp⟩, ⟨Nat.le_refl _⟩, B0, B1, BB, RR⟩
  case round =>
    clear H2
    obtain ⟨i, out, rfl, HA, HL, HK, G0, G1, GB, GR⟩ := hrel
    cases gk with
    | zero => exact absurd HA.out (by simp [sha_constants.l0])
    | succ k1 =>
      have H := HA.out
      clear HA
      unfold sha_constants.l0 at H
      by_cases hi : i < ps.length
      · rw [if_pos hi] at H
        by_cases h64 : i < 64
        · rw [if_pos h64] at H
          obtain ⟨t, ht, H⟩ := Option.bind_eq_some_iff.1 H
          have HT := Aside0.mk ht
          have H' := Aside0.mk H
          clear ht H
          have hi' : (i : Int) < (ps.length : Int) := by omega
          have h64' : (i : Int) < 64 := by omega
          obtain ⟨_, _, he, hlc, hC⟩ := Kd.R_reads GR.out
          cases he
          obtain ⟨ad, rfl, hc⟩ := Kd.at_int hC (i : Int) (by omega) (by omega)
          simp only [Int.toNat_natCast] at hc
          have hcw : wr.cell? ⟨w.heap.size + 1, i, none⟩ = some (.int .u32 (rd out i)) := by
            have e := arr_cell G1.out (i : Int) (by omega) (by have := HL.out; omega)
            simpa using e
          have hfw : wr.frozen? ⟨w.heap.size + 1, i, none⟩ = false := blk_frozen G1.out i
          clear hC
          go_wp2_with (go_at_call 94; refine (sha_root.calls _ _ _ _ _ HT.out).mono ?_; rintro e w' ⟨rfl, ⟨n, rfl⟩⟩)
          go_roundg k1
          case measure => have := HK.out; omega
          case rel =>
            refine ⟨i + 1, out.set i t, by go_num, H', ⟨by rw [List.length_set]; exact HL.out⟩, ⟨by have := HK.out; omega⟩, ⟨?_⟩, ⟨?_⟩, ⟨?_⟩, ⟨?_⟩⟩
            · exact blk_far (w := wr.drewN n) (blk_drewN G0.out n) (p := ⟨w.heap.size + 1, i, none⟩) (fun e => by have : w.heap.size = w.heap.size + 1 := e; omega) _
            · exact blk_put (w := wr.drewN n) (blk_drewN G1.out n) i _ (nums_put _ _ _ _)
            · exact Below.setCell (pw_below_drewN GB.out n) (p := ⟨w.heap.size + 1, i, none⟩) (by show w.heap.size ≤ w.heap.size + 1; omega) _
            · exact Kd.R_far (w := wr.drewN n) (p := ⟨w.heap.size + 1, i, none⟩) (Kd.R_drewN GR.out n) (fun k hk e => by have : k = w.heap.size + 1 := e; omega) _
        · rw [if_neg h64] at H; cases H
      · rw [if_neg hi] at H
        obtain rfl := Option.some.inj H
        have hi' : ¬ (i : Int) < (ps.length : Int) := by omega
        have hsz : (nums .u32 out).toArray.size = 64 := by rw [List.size_toArray, nums_length, HL.out]
        go_wp2_with (first | (with_reducible refine wpList_load_row rfl 127 (.tmp 1) rfl (w.heap.size + 1) rfl 127 _ (0, 0) _ G1.out Tryd.underlying127 rfl (by rw [hsz]; kernel_rfl) ?_) | (with_reducible refine wpList_store_row rfl 127 (.tmp 0) (.tmp 16) rfl w.heap.size _ rfl rfl 127 _ G0.out (by rw [hsz]; kernel_rfl) (by rw [hsz]; simp [nums]) (nums_one _ _) ?_))
        have hrow : (wr.setRow w.heap.size (nums .u32 out).toArray).heap[w.heap.size]? = some (.cells (nums .u32 out).toArray 127 (0, 0)) := setRow_heap _ _ _ _ _ _ G0.out
        refine bodyPost_ret (v := .agg (nums .u32 out).toArray) (results_cell_row rfl _ _ w.heap.size 127 _ (0, 0) _ rfl hrow Tryd.underlying127 rfl (by rw [hsz]; kernel_rfl)) rfl ⟨rfl, below_row GB.out (Nat.le_refl _) _⟩
def bytes_Clone.ok (l : List Int) : Prop := l.length < 140737488355328
theorem bytes_Clone.some_ (ad : Addr) (c : Nat) (l : List Int) (w : World) (hr : Kd.C (Kd.int .u8) w (some ad) l.length l) (hl : l.length < 140737488355328) :
    Calls Tryd.prog 90 #[.slice (some ad) l.length c] w fun e w' => ∃ v : Value, e = .returned v ∧ Kd.R (Kd.int .u8) 5 w' w.heap.size (fun _ => True) v l ∧ Below w.heap.size w w' := by
  have HR := Aside0.mk hr
  have HL := Aside0.mk hl
  clear hr hl
  have hn := Lib.run_eql_slice_nil (P := Tryd.prog)
  go_enter Tryd.func90, Tryd.ntmps90
  go_wp2_with (first | ((with_reducible refine gate_dst (N := 5) rfl ?_); refine Kd.R_lit (Kd.int .u8) _ 5 ?hg (N := 5) ?hd (xs := ([] : List Int)) (inner := []) (ok := fun _ => True) (okp := fun _ => True) ?hr ?hp (fun _ hk => hk) trivial (Below.refl _ _) (Nat.le_refl _) (by simp) ?_; (case hd => rfl); (case hg => rfl); (case hr => first | (go_simp; done) | (go_simp; rfl)); (case hp => exact (Reps.none _ _)); intro v1 w1 ho hb _ _; have HO := Aside0.mk ho; have HB := Aside0.mk hb; clear ho hb) | ((with_reducible refine gate_builtin (b := .append) (xs := #[.tmp 5, .tmp 6]) rfl ?_); at_builtin; refine Kd.R_append_rows (Kd.int .u8) (w0 := w) w.heap.size rfl (.tmp 5) (.tmp 6) 22 5 (.int .u8 0) 1 rfl Tryd.underlying22 info5 rfl (by decide) (by omega) v1 [] l _ _ _ (fun _ => True) (fun _ => False) rfl rfl ?aO ?aR (fun _ _ h => h) (fun _ h => h.elim) ?aF ?aB ?aS ?aL ?_; (case aR => exact Kd.C_below HR.out HB.out); (case aB => exact HB.out); (case aF => exact (fun _ _ => trivial)); (case aO => exact HO.out); (case aS => exact HB.out.size); (case aL => have := HL.out; simp; omega); intro v2 w2 ho hb hg hat; have HO2 := Aside0.mk ho; have HB2 := Aside0.mk hb; clear ho hb hg hat))
  go_ret
  exact ⟨_, rfl, by simpa using HO2.out, HB2.out⟩
theorem bytes_Clone.none_ (c : Nat) (w : World) :
    Calls Tryd.prog 90 #[.slice none 0 c] w fun e w' => e = .returned (.slice none 0 0) ∧ w' = w := by
  have hn := Lib.run_eql_slice_nil (P := Tryd.prog)
  go_enter Tryd.func90, Tryd.ntmps90
  go_wp2
  go_ret
  exact ⟨rfl, rfl⟩
theorem bytes_Clone.calls (A : Option Addr) (c : Nat) (l : List Int) (w : World) (hr : Kd.C (Kd.int .u8) w A l.length l) (hl : l.length < 140737488355328) :
    Calls Tryd.prog 90 #[.slice A l.length c] w fun e w' => ∃ v : Value, e = .returned v ∧ Kd.R (Kd.int .u8) 5 w' w.heap.size (fun _ => True) v l ∧ Below w.heap.size w w' := by
  cases A with
  | some ad => exact bytes_Clone.some_ ad c l w hr hl
  | none =>
    have h0 : l.length = 0 := by
      rcases Nat.eq_zero_or_pos l.length with h | h
      · exact h
      · obtain ⟨ad, e, _⟩ := hr.2.2 h
        cases e
    obtain rfl := List.eq_nil_of_length_eq_zero h0
    exact (bytes_Clone.none_ c w).mono fun e w' ⟨he, hw⟩ => ⟨_, he, Kd.R_nil _ _ _ _ _, by rw [hw]; exact Below.refl _ _⟩
/-- A load of a whole array (or struct) out of a row, wherever it begins. -/
theorem wpList_load_list {P : Program} {ops : Array Oper} {rest : List Oper} {o : Oper} {a : Act} {w : World} {Q : Exit → Act → World → Prop} (hgd : o.guard = none) (ty : TypeId) (x : Operand) (ho : o.op = .load ty x)
    (ad : Addr) (hx : a.eval x = .pointer (some ad)) (cs : List Value) (d : TypeDesc) (hc : ∀ j v, cs[j]? = some v → w.cell? (ad.add j) = some v)
    (hu : P.underlying ty = some d) (hd : (match d with | .struct _ | .array _ _ => true | _ => false) = true) (hi : (P.info? ty).map (·.size) = some cs.length)
    (h : wpList P ops Q rest (a.put o.dst (.agg cs.toArray)) w) : wpList P ops Q (o :: rest) a w := by
  have hl : (loadCells ad cs.length).run P w = .ok cs.toArray w := run_loadCells_list (P := P) w ad cs hc
  refine wpList_plain hgd fun K hK => ?_
  unfold Oper.wp execOp
  cases hq : P.info? ty with
  | none => simp [hq] at hi
  | some i =>
    have hs : i.size = cs.length := by simp [hq] at hi; exact hi
    cases d <;> simp at hd
    all_goals
      simp [ho, hx, Instr.loadAt, Instr.sureAddr, loadVar, sizeOf, typeInfo, isAgg, run_underlying hu, hq, hs, hl, Result.andThen]
      exact hK _ _ h
def V8.of (l : List Int) : V8 := ⟨rd l 0, rd l 1, rd l 2, rd l 3, rd l 4, rd l 5, rd l 6, rd l 7⟩
def sha_loop (ks : List Int) : Nat → List Int → List Int → Option (List Int × List Int)
  | 0, _, _ => none
  | k + 1, h, all => if 64 ≤ all.length then sha_loop ks k (sha_block ks (all.take 64) (V8.of h)) (all.drop 64) else some (h, all)
def sha_Write.f (k : Nat) (H Buf : List Int) (N : Int) (b : List Int) : Option (List Int × List Int × Int) :=
  (sha_Check.f H Buf N).bind fun ok => if ok = true then (if H.length = 8 then (if Buf.length + b.length < 100000000000 then (if 64 ≤ (Buf ++ b).length then ((sha_constants.f k).bind fun ks => (sha_loop ks k H (Buf ++ b)).bind fun r => some (r.1, r.2, (N + b.length) % 18446744073709551616)) else some (H, Buf ++ b, (N + b.length) % 18446744073709551616)) else none) else none) else none
theorem C_cells {w : World} {ad : Addr} {k : IntKind} {n : Nat} {xs : List Int} (h : Kd.C (Kd.int k) w (some ad) n xs) : ∀ j v, (nums k xs)[j]? = some v → w.cell? (ad.add j) = some v := by
  intro j v hj
  have hl : j < xs.length := by
    have := (List.getElem?_eq_some_iff.1 hj).1
    simpa [nums] using this
  obtain ⟨_, e, q⟩ := Kd.at_int h (j : Int) (by omega) (by have := h.1; omega)
  cases e
  simp only [Int.toNat_natCast] at q
  rw [q, ← hj]
  simp [nums, rd, hl]
theorem row_new (w1 : World) (z cs : Array Value) (t : TypeId) (hz : z.size = cs.size) :
    ((w1.alloc (.cells z t (0, 0))).setRow w1.heap.size cs).heap[w1.heap.size]? = some (.cells cs t (0, 0)) ∧ Below w1.heap.size w1 ((w1.alloc (.cells z t (0, 0))).setRow w1.heap.size cs) ∧ w1.heap.size < ((w1.alloc (.cells z t (0, 0))).setRow w1.heap.size cs).heap.size := by
  refine ⟨setRow_heap _ _ _ _ _ _ (blk_new w1 _), below_row (below_alloc (Below.refl _ _) _) (Nat.le_refl _) _, ?_⟩
  rw [setRow_size]
  simp
/-- A whole array stored into a variable just made: the world behind it has a name of its own. -/
theorem wpList_store_new {P : Program} {ops : Array Oper} {rest : List Oper} {o : Oper} {a : Act} {w1 : World} {Q : Exit → Act → World → Prop} (hgd : o.guard = none) (ty : TypeId) (x y : Operand) (ho : o.op = .store ty x y)
    (t : TypeId) (z cells : Array Value) (hx : a.eval x = .pointer (some ⟨w1.heap.size, 0, none⟩)) (hy : a.eval y = .agg cells)
    (hi : (P.info? ty).map (·.size) = some cells.size) (hold : z.size = cells.size) (h1 : cells.all (·.oneCell') = true)
    (h : ∀ w2 : World, w2.heap[w1.heap.size]? = some (.cells cells t (0, 0)) → Below w1.heap.size w1 w2 → w1.heap.size < w2.heap.size → wpList P ops Q rest (a.put o.dst undef) w2) :
    wpList P ops Q (o :: rest) a (w1.alloc (.cells z t (0, 0))) := by
  obtain ⟨p, q, r⟩ := row_new w1 z cells t hold
  exact wpList_store_row hgd ty x y ho w1.heap.size cells hx hy t z (blk_new w1 _) hi hold h1 (h _ p q r)
theorem C_blk {w : World} {g t : Nat} {xs : List Int} (k : IntKind) (h : w.heap[g]? = some (.cells (nums k xs).toArray t (0, 0))) (hl : xs.length ≤ 9223372036854775807) : Kd.C (Kd.int k) w (some ⟨g, 0, none⟩) xs.length xs := by
  refine Kd.C_of_reads (d := (0 : Int)) ⟨rfl, hl, fun _ => ⟨_, rfl, fun j hj => ?_⟩⟩
  have e := arr_cell h (j : Int) (by omega) (by omega)
  have e2 : (⟨g, 0, none⟩ : Addr).add j = ⟨g, j, none⟩ := by cases j <;> simp [Addr.add]
  rw [e2]
  simpa [rd] using e
theorem wrap_sum64 (a b : Int) : IntKind.u64.wrap (a + IntKind.u64.wrap b) = (a + b) % 18446744073709551616 := by
  have e1 : IntKind.u64.signed = false := rfl
  have e2 : IntKind.u64.bits = 64 := rfl
  simp [IntKind.wrap, e1, e2]
/-- The struct that Write lays into its result's variable. Its row of words lies in a block of the ARRAY's type (126). -/
theorem sha_fin {w w4 w5 : World} {y hb c5 : Nat} {A5 : Option Addr} {q0 q1 q2 n : Value} {H all : List Int} (hy : w5.heap[y]? = some (.cells #[q0, q1, q2] 95 (0, 0))) (hh : w5.heap[hb]? = some (.cells (nums .u32 H).toArray 126 (0, 0))) (hl : H.length = 8)
    (hv : Kd.R (Kd.int .u8) 5 w5 w4.heap.size (fun _ => True) (.slice A5 all.length c5) all) (hyb : y < w4.heap.size) (hwy : w.heap.size ≤ y) (hwh : w.heap.size ≤ hb) (hb5 : Below w.heap.size w w5) (a : Value) :
    ∃ W, W = ((w5.setCell ⟨y, 0, none⟩ a).setCell ⟨y, 1, none⟩ (.slice A5 all.length c5)).setCell ⟨y, 2, none⟩ n ∧ W.heap[y]? = some (.cells #[a, .slice A5 all.length c5, n] 95 (0, 0)) ∧ Kd.R (Kd.int .u32) 126 W w.heap.size (fun _ => True) (.slice (some ⟨hb, 0, none⟩) 8 8) H ∧ Kd.R (Kd.int .u8) 5 W w.heap.size (fun _ => True) (.slice A5 all.length c5) all ∧ Below w.heap.size w W := by
  have hne : hb ≠ y := fun e => absurd (blk_ne hh hy (by decide)) (by simpa using e)
  refine ⟨_, rfl, ?_, ?_, ?_, ?_⟩
  · have e := blk_set (blk_set (blk_set hy 0 a) 1 (.slice A5 all.length c5)) 2 n
    simpa using e
  · refine Kd.R_of_own ⟨?_, Or.inr ⟨hb, 8, (nums .u32 H).toArray, by rw [hl], hwh, blk_far (blk_far (blk_far hh (p := ⟨y, 0, none⟩) hne _) (p := ⟨y, 1, none⟩) hne _) (p := ⟨y, 2, none⟩) hne _, by omega, by decide, by simp [nums, hl], ?_⟩⟩ (fun _ _ => trivial)
    · simp [encs]
    · simp only [nums, encs, Nat.mul_one]
      exact List.take_of_length_le (by simp)
  · have f : ∀ k, (True ∧ w4.heap.size ≤ k ∧ k < w5.heap.size ∧ ∃ q, q ∈ 5 :: (Kd.int .u8).E ∧ ∃ cells, w5.heap[k]? = some (.cells cells q (0, 0))) → k ≠ y := fun k hk e => by have := hk.2.1; omega
    exact Kd.R_mono (Kd.R_lower (Kd.R_far (Kd.R_far (Kd.R_far (Kd.R_mono (Kd.R_bound hv) (ok' := fun k => k ≠ y) f) (p := ⟨y, 0, none⟩) (fun k hk => hk) a) (p := ⟨y, 1, none⟩) (fun k hk => hk) (.slice A5 all.length c5)) (p := ⟨y, 2, none⟩) (fun k hk => hk) n) (by omega)) (fun _ _ => trivial)
  · exact Below.setCell (Below.setCell (Below.setCell hb5 (p := ⟨y, 0, none⟩) hwy _) (p := ⟨y, 1, none⟩) hwy _) (p := ⟨y, 2, none⟩) hwy _
theorem V8.cells_of {H : List Int} (h : H.length = 8) : (nums .u32 H).toArray = (V8.of H).cells := by
  match H, h with
  | [a, b, c, d, e, f, g, i], _ => rfl
/-- The first and the rest of a slice of bytes, cut at 64. -/
theorem cut64 {w : World} {A : Option Addr} {c : Nat} {l : List Int} (hC : Kd.C (Kd.int .u8) w A l.length l) (hc : l.length ≤ c) (h : 64 ≤ l.length) :
    (∀ W : World, (Instr.slice 22 (.slice A l.length c) none (some (.int .i64 64)) none).run Tryd.prog W = .ok (.slice A (l.take 64).length c) W) ∧ Kd.C (Kd.int .u8) w A (l.take 64).length (l.take 64) ∧ (l.take 64).length = 64 ∧
    ∃ A2, (∀ W : World, (Instr.slice 22 (.slice A l.length c) (some (.int .i64 64)) none none).run Tryd.prog W = .ok (.slice A2 (l.drop 64).length (c - 64)) W) ∧ Kd.C (Kd.int .u8) w A2 (l.drop 64).length (l.drop 64) ∧ (l.drop 64).length ≤ c - 64 ∧ (∀ g : Nat, (∀ ad, A = some ad → 0 < l.length → ad.block ≠ g) → ∀ ad, A2 = some ad → 0 < (l.drop 64).length → ad.block ≠ g) := by
  obtain ⟨i0, hi0, _, hsz, _⟩ := info_parts info5
  have e1 : (l.take 64).length = 64 := by rw [List.length_take]; omega
  have e2 : (l.drop 64).length = l.length - 64 := List.length_drop
  refine ⟨?_, Kd.C_take hC h, e1, (if c = 64 then A else A.map (·.add (64 * 1))), ?_, Kd.C_drop hC h hc, by omega, ?_⟩
  · intro W
    rw [e1]
    exact cut_to (P := Tryd.prog) 22 5 .i64 Tryd.underlying22 hi0 A l.length c 64 (by omega) (by omega) hc W
  · intro W
    rw [e2]
    exact cut_from (P := Tryd.prog) 22 5 .i64 Tryd.underlying22 hi0 1 hsz A l.length c 64 (by omega) (by omega) W
  · intro g hg ad ha hl
    rw [e2] at hl
    by_cases hc6 : c = 64
    · omega
    · rw [if_neg hc6] at ha
      cases A with
      | none => cases ha
      | some a =>
        have := hg a rfl (by omega)
        simp at ha
        rw [← ha]
        simpa [Addr.add] using this
set_option maxHeartbeats 8000000 in
set_option maxRecDepth 100000 in
theorem sha_Write.core (AH AB A : Option Addr) (cH cB c : Nat) (H Buf : List Int) (N : Int) (b : List Int) (w : World) (k : Nat) (all : List Int) (r : List Int × List Int) (hH : Kd.C (Kd.int .u32) w AH H.length H) (hcH : H.length ≤ cH) (hB : Kd.C (Kd.int .u8) w AB Buf.length Buf) (hcB : Buf.length ≤ cB) (hb : Kd.C (Kd.int .u8) w A b.length b) (hc : b.length ≤ c)
    (hck : sha_Check.f H Buf N = some true) (h8 : H.length = 8) (hsz : Buf.length + b.length < 100000000000) (hall : Buf ++ b = all) (hr : (if 64 ≤ all.length then ((sha_constants.f k).bind fun ks => sha_loop ks k H all) else some (H, all)) = some r) :
    Calls Tryd.prog 56 #[.agg #[.slice AH H.length cH, .slice AB Buf.length cB, .int .u64 N], .slice A b.length c] w fun e w' => ∃ v0 v1, e = .returned (.agg #[v0, v1, .int .u64 ((N + b.length) % 18446744073709551616)]) ∧ Kd.R (Kd.int .u32) 126 w' w.heap.size (fun _ => True) v0 r.1 ∧ Kd.R (Kd.int .u8) 5 w' w.heap.size (fun _ => True) v1 r.2 ∧ Below w.heap.size w w' := by
  have G0 := Aside0.mk hall
  have GR := Aside0.mk hr
  have hlen : all.length = Buf.length + b.length := by rw [← hall]; simp
  have GL := Aside0.mk hlen
  clear hall hr hlen
  have G1 := Aside0.mk hH
  have G2 := Aside0.mk hB
  have G3 := Aside0.mk hb
  have G4 := Aside0.mk hck
  have G5 := Aside0.mk hcB
  have G6 := Aside0.mk hcH
  have hu95 := Tryd.underlying95
  clear hB hb hck hcB
  obtain ⟨ad, rfl, _⟩ := Kd.at_int hH 0 (by omega) (by omega)
  clear hH
  have H8 := Aside0.mk h8
  clear h8
  go_enter Tryd.func56, Tryd.ntmps56
  go_wp2_with fail
  (with_reducible refine (sha_Check.calls (some ad) cH H AB cB Buf N true _ (Kd.C_below G1.out (below_alloc (below_alloc (Below.refl _ _) _) _)) G6.out (Kd.C_below G2.out (below_alloc (below_alloc (Below.refl _ _) _) _)) G5.out G4.out).mono ?_)
  rintro e w1 ⟨rfl, hb1⟩
  have bx : w1.heap[w.heap.size]? = some (.cells #[.slice (some ad) H.length cH, .slice AB Buf.length cB, .int .u64 N] 95 (0, 0)) := blk_below (blk_alloc (blk_new w _) _) hb1
  have by4 : w1.heap[w.heap.size + 1]? = some (.cells #[.slice none 0 0, .slice none 0 0, .int .u64 0] 95 (0, 0)) := blk_below (blk_new1 w _ _) hb1
  have hB1 : Below w.heap.size w w1 := below_step (below_alloc (below_alloc (Below.refl _ _) _) _) hb1
  have lt1 : w.heap.size + 1 < w1.heap.size := blk_lt by4
  have BX := Aside0.mk bx
  have BY := Aside0.mk by4
  have B1 := Aside0.mk hB1
  have x0 : w1.cell? ⟨w.heap.size, 0, none⟩ = some (.slice (some ad) H.length cH) := (blk_cell bx 0).trans rfl
  have x1 : w1.cell? ⟨w.heap.size, 1, none⟩ = some (.slice AB Buf.length cB) := (blk_cell bx 1).trans rfl
  have x2 : w1.cell? ⟨w.heap.size, 2, none⟩ = some (.int .u64 N) := (blk_cell bx 2).trans rfl
  have hH1 := Kd.C_below G1.out hB1
  have hcs := C_cells hH1
  have hat : ∀ w, (Instr.arrayAt 126 (.slice (some ad) H.length cH)).run Tryd.prog w = .ok (.pointer (some ad)) w := fun w => run_arrayAt w 126 _ 8 _ H.length cH Tryd.underlying126 (by rw [H8.out]; exact Nat.le_refl _)
  have HCS := Aside0.mk hcs
  have hsz8 : (nums .u32 H).length = 8 := by rw [nums_length, H8.out]
  have hsz8' : (nums .u32 H).toArray.size = 8 := by rw [List.size_toArray, hsz8]
  have HS8 := Aside0.mk hsz8
  have HT8 := Aside0.mk hsz8'
  clear hH1 hcs bx by4 hB1 hb1 hsz8 hsz8'
  go_wp2_with (first | (with_reducible refine wpList_load_list rfl 126 (.tmp 14) rfl ad rfl (nums .u32 H) _ HCS.out Tryd.underlying126 rfl (by rw [HS8.out]; kernel_rfl) ?_) | ((with_reducible refine wpList_store_new rfl 126 (.tmp 5) (.tmp 15) rfl 126 _ _ rfl rfl ?hi ?ho (nums_one _ _) ?goal); (case hi => rw [HT8.out]; kernel_rfl); (case ho => rw [HT8.out]; kernel_rfl); intro w2 r2 b2 l2; have R2 := Aside0.mk r2; have B2 := Aside0.mk (below_step B1.out b2); have X0 := Aside0.mk ((blk_cell (blk_below BX.out b2) 0).trans rfl); have x1 : w2.cell? ⟨w.heap.size, 1, none⟩ = some (.slice AB Buf.length cB) := (blk_cell (blk_below BX.out b2) 1).trans rfl; have x2 : w2.cell? ⟨w.heap.size, 2, none⟩ = some (.int .u64 N) := (blk_cell (blk_below BX.out b2) 2).trans rfl; have y2 := Aside0.mk (blk_below BY.out b2); have lt2 : w1.heap.size < w2.heap.size := l2; clear r2 b2 l2 BX BY B1) | (go_at_call 90; refine (bytes_Clone.calls AB cB Buf _ (Kd.C_below G2.out B2.out) (by omega)).mono ?_; rintro e w3 ⟨v, rfl, hv, hb3⟩; have HV := Aside0.mk hv; have HB3 := Aside0.mk hb3; clear hv hb3) | ((with_reducible refine gate_builtin (b := .append) (xs := #[.tmp 18, .tmp 19]) rfl ?_); at_builtin; refine Kd.R_append_rows (Kd.int .u8) (w0 := w2) w2.heap.size rfl (.tmp 18) (.tmp 19) 22 5 (.int .u8 0) 1 rfl Tryd.underlying22 info5 rfl (by decide) (by omega) _ Buf b _ _ _ (fun _ => True) (fun _ => False) rfl rfl ?aO ?aR (fun _ _ h => h) (fun _ h => h.elim) ?aF ?aB ?aS ?aL ?_; (case aR => exact Kd.C_below G3.out (below_step B2.out HB3.out)); (case aB => exact HB3.out); (case aF => exact (fun _ _ => trivial)); (case aO => exact HV.out); (case aS => exact HB3.out.size); (case aL => omega); intro v2 w4 ho hb hg hat; rw [G0.out] at ho; have HO2 := Aside0.mk ho; have HB4 := Aside0.mk hb; clear ho hb hg hat))
  obtain ⟨A2, c2, rfl, hl2, hC2⟩ := Kd.R_reads HO2.out
  have HC2 := Aside0.mk hC2
  have B4 := Aside0.mk (below_step B2.out HB4.out)
  have hlen : all.length < 100000000000 := by rw [GL.out]; exact hsz
  have R4 := Aside0.mk (blk_below R2.out HB4.out)
  have Y4 := Aside0.mk (blk_below y2.out HB4.out)
  have x4 : w4.cell? ⟨w.heap.size, 2, none⟩ = some (.int .u64 N) := (Below.cell HB4.out (p := ⟨w.heap.size, 2, none⟩) (by show w.heap.size < w2.heap.size; omega)).trans x2
  have lt4 : w2.heap.size ≤ w4.heap.size := HB4.out.size
  have L2 := Aside0.mk hl2
  clear hC2 R2 y2 x2 x1 X0 HB4 HB3 HV HCS hat hl2
  by_cases h64 : 64 ≤ all.length
  · rw [if_pos h64] at GR
    obtain ⟨ks, hks, hlp⟩ := Option.bind_eq_some_iff.1 GR.out
    have hkl : ks.length = 64 := by
      obtain ⟨ps, _, h2⟩ := Option.bind_eq_some_iff.1 hks
      simpa using sha_constants.len k ps 0 _ ks h2
    have KL := Aside0.mk hkl
    have KS := Aside0.mk hks
    have LP := Aside0.mk hlp
    have KT := Aside0.mk (show (nums .u32 ks).toArray.size = 64 by rw [List.size_toArray, nums_length, hkl])
    clear GR hks hlp hkl
    have h64' : (64 : Int) ≤ (all.length : Int) := by omega
    go_simp
    go_wp2_with (first | (go_at_call 91; refine (sha_constants.calls k ks _ KS.out).mono ?_; rintro e w5 ⟨rfl, hb5⟩; have HB5 := Aside0.mk hb5; clear hb5) | ((with_reducible refine wpList_store_new rfl 127 (.tmp 7) (.tmp 24) rfl 127 _ _ rfl rfl ?hi2 ?ho2 (nums_one _ _) ?goal2); (case hi2 => rw [KT.out]; kernel_rfl); (case ho2 => rw [KT.out]; kernel_rfl); intro w6 r6 b6 l6; have K6 := Aside0.mk r6; have B46 := Aside0.mk (below_step HB5.out b6); have h56 : w5.heap.size < w6.heap.size := l6; have h45 : w4.heap.size ≤ w5.heap.size := HB5.out.size; clear r6 b6 l6 HB5))
    have C6 := Aside0.mk (Kd.C_below HC2.out B46.out)
    dsimp only [Act.put]
    go_loopg [6] k (fun kq v6 wr => ∃ (A6 : Option Addr) (c6 : Nat) (l H' : List Int), v6 = .slice A6 l.length c6 ∧ Aside0 (l.length ≤ c6) ∧ Aside0 (l.length < 100000000000) ∧ Aside0 (Kd.C (Kd.int .u8) wr A6 l.length l) ∧ Aside0 (∀ ad, A6 = some ad → 0 < l.length → ad.block ≠ w1.heap.size) ∧ Aside0 (sha_loop ks kq H' l = some r) ∧ Aside0 (kq ≤ k) ∧ Aside0 (H'.length = 8) ∧ Aside0 (wr.heap[w1.heap.size]? = some (.cells (nums .u32 H').toArray 126 (0, 0))) ∧ Aside0 (wr.heap[w5.heap.size]? = some (.cells (nums .u32 ks).toArray 127 (0, 0))) ∧ Aside0 (w6.grownBy wr (some w1.heap.size)))
    case atStart =>
      refine ⟨A2, c2, all, H, rfl, L2, ⟨hlen⟩, C6, ⟨?hn0⟩, LP, ⟨Nat.le_refl _⟩, H8, ⟨blk_below R4.out B46.out⟩, K6, ⟨⟨rfl, rfl, rfl, Nat.le_refl _, fun _ _ _ => rfl⟩⟩⟩
      rintro ad' rfl hpos
      have := ((Kd.R_bound HO2.out).1 ad'.block (by simp [Value.ownBlock])).2.1
      omega
    case round =>
      obtain ⟨A6, c6, l, H', rfl, HLC, HLL, HC, HN, HL, HK, H8', GH, GK, GB⟩ := hrel
      cases gk with
      | zero => exact absurd HL.out (by simp [sha_loop])
      | succ k1 =>
        have hl := HL.out
        clear HL LP
        unfold sha_loop at hl
        by_cases h6 : 64 ≤ l.length
        · rw [if_pos h6] at hl
          obtain ⟨hc1, hC1, hn1, A7, hc2, hC2, hl2, hf2⟩ := cut64 HC.out HLC.out h6
          have h6' : (64 : Int) ≤ (l.length : Int) := by omega
          obtain ⟨bl, hbl⟩ : ∃ bl, bl = l.take 64 := ⟨_, rfl⟩
          obtain ⟨l2, hl2e⟩ : ∃ l2, l2 = l.drop 64 := ⟨_, rfl⟩
          rw [← hbl] at hc1 hC1 hn1 hl
          rw [← hl2e] at hc2 hC2 hl2 hf2 hl
          have HL := Aside0.mk hl
          have C1 := Aside0.mk hC1
          have C2 := Aside0.mk hC2
          have N1 := Aside0.mk hn1
          have F2 := Aside0.mk (hf2 _ HN.out)
          have HLL2 := Aside0.mk (show l2.length < 100000000000 by rw [hl2e, List.length_drop]; have := HLL.out; omega)
          have L2' := Aside0.mk hl2
          have GV := Aside0.mk (show wr.heap[w1.heap.size]? = some (.cells (V8.of H').cells 126 (0, 0)) from by rw [← V8.cells_of H8'.out]; exact GH.out)
          have hne : w1.heap.size ≠ w5.heap.size := by omega
          clear hl hC1 hC2 hn1 hf2 hbl hl2e hl2 h6
          go_wp2_with (first | (go_at_call 92; refine (block92 w1.heap.size w5.heap.size (V8.of H') ks A6 c6 bl _ GV.out GK.out hne KL.out C1.out N1.out).mono ?_; rintro e w' ⟨rfl, gh', gr'⟩; have GH' := Aside0.mk gh'; have GR' := Aside0.mk gr'; clear gh' gr'))
          go_roundg k1
          case measure => have := HK.out; omega
          case rel =>
            have hkb : KeepBut wr w' w1.heap.size none := ⟨GR'.out.size, fun i hi hi2 _ => GR'.out.block i hi (by simpa using hi2)⟩
            refine ⟨A7, c6 - 64, l2, sha_block ks bl (V8.of H'), rfl, L2', HLL2, ⟨Kd.C_keep (d := (0 : Int)) C2.out hkb F2.out⟩, F2, HL, ⟨by have := HK.out; omega⟩, ⟨?_⟩, GH', ⟨(GR'.out.block _ (blk_lt GK.out) (by simpa using hne.symm)).trans GK.out⟩, ⟨World.grownBy.trans GB.out GR'.out⟩⟩
            rw [sha_block, sha_adds_len]
            rfl
        · rw [if_neg h6] at hl
          have HR := Aside0.mk (Option.some.inj hl)
          have h6' : (l.length : Int) < 64 := by omega
          have hlen6 : l.length < 100000000000 := HLL.out
          have lt6 : w4.heap.size ≤ w6.heap.size := B46.out.size
          have ltr : w6.heap.size ≤ wr.heap.size := GB.out.size
          have YR := Aside0.mk (blk_grown (blk_below Y4.out B46.out) GB.out (by intro e; have := Option.some.inj e; omega))
          have XR : wr.cell? ⟨w.heap.size, 2, none⟩ = some (.int .u64 N) := GB.out.cell ((Below.cell B46.out (p := ⟨w.heap.size, 2, none⟩) (by show w.heap.size < w4.heap.size; omega)).trans x4) (by intro e; have := Option.some.inj e; have : w.heap.size = w1.heap.size := this; omega)
          have BR := Aside0.mk (show Below w.heap.size w wr from by
            have q := below_step B4.out B46.out
            exact ⟨GB.out.os.trans q.os, GB.out.tape.trans q.tape, GB.out.output.trans q.output, Nat.le_trans q.size GB.out.size, fun i hi => (GB.out.block i (by omega) (by intro e; have := Option.some.inj e; omega)).trans (q.block i hi)⟩)
          clear hl h6 HK HLL
          go_wp2
          have hdr : Below wr.heap.size wr wr.drew := pw_below_drewN (Below.refl _ _) 1
          go_region_with (first | (go_at_call 90; refine (bytes_Clone.calls A6 c6 l _ (Kd.C_below HC.out hdr) (by omega)).mono ?_; rintro e w7 ⟨v, rfl, hv, hb5⟩; obtain ⟨A5, c5, rfl, hl5, hC5⟩ := Kd.R_reads hv; have HV5 := Aside0.mk hv; have HB5 := Aside0.mk (below_step hdr hb5); have x5 : w7.cell? ⟨w.heap.size, 2, none⟩ = some (.int .u64 N) := (Below.cell HB5.out (p := ⟨w.heap.size, 2, none⟩) (by show w.heap.size < wr.heap.size; omega)).trans XR; have f0 := blk_frozen (blk_below YR.out HB5.out) 0; have f1 := blk_frozen (blk_below YR.out HB5.out) 1; have f2 := blk_frozen (blk_below YR.out HB5.out) 2; have y50 : w7.cell? ⟨w.heap.size + 1, 0, none⟩ = some _ := (blk_cell (blk_below YR.out HB5.out) 0).trans rfl; have y51 : w7.cell? ⟨w.heap.size + 1, 1, none⟩ = some _ := (blk_cell (blk_below YR.out HB5.out) 1).trans rfl; have y52 : w7.cell? ⟨w.heap.size + 1, 2, none⟩ = some _ := (blk_cell (blk_below YR.out HB5.out) 2).trans rfl; clear hv hb5 hC5))
          all_goals
            obtain ⟨W, hW, hy, hCH, hCB, hBW⟩ := sha_fin (w := w) (w4 := wr.drew) (n := .int .u64 (IntKind.u64.wrap (N + IntKind.u64.wrap (b.length : Int)))) (blk_below YR.out HB5.out) (blk_below GH.out HB5.out) H8'.out HV5.out (by show w.heap.size + 1 < wr.heap.size; omega) (by omega) (by omega) (below_step BR.out HB5.out) (.slice (some ⟨w1.heap.size, 0, none⟩) 8 8)
            rw [← hW]
            clear hW
            go_wp2
            refine bodyPost_ret (v := .agg #[.slice (some ⟨w1.heap.size, 0, none⟩) 8 8, .slice A5 l.length c5, .int .u64 (IntKind.u64.wrap (N + IntKind.u64.wrap (b.length : Int)))]) (results_cell_row rfl _ _ (w.heap.size + 1) 95 _ (0, 0) _ rfl hy hu95 rfl (by kernel_rfl)) rfl ⟨.slice (some ⟨w1.heap.size, 0, none⟩) 8 8, .slice A5 l.length c5, ?_⟩
            rw [← HR.out]
            refine ⟨?_, hCH, hCB, hBW⟩
            rw [wrap_sum64]
  · rw [if_neg h64] at GR
    obtain rfl := Option.some.inj GR.out
    clear GR
    have h64' : (all.length : Int) < 64 := by omega
    clear h64
    go_simp
    go_wp2
    have hdr : Below w4.heap.size w4 w4.drew := pw_below_drewN (Below.refl _ _) 1
    go_region_with (first | (go_at_call 90; refine (bytes_Clone.calls A2 c2 all _ (Kd.C_below HC2.out hdr) (by omega)).mono ?_; rintro e w5 ⟨v, rfl, hv, hb5⟩; obtain ⟨A5, c5, rfl, hl5, hC5⟩ := Kd.R_reads hv; have HV5 := Aside0.mk hv; have HB5 := Aside0.mk (below_step hdr hb5); have x5 : w5.cell? ⟨w.heap.size, 2, none⟩ = some (.int .u64 N) := (Below.cell HB5.out (p := ⟨w.heap.size, 2, none⟩) (by show w.heap.size < w4.heap.size; omega)).trans x4; have f0 := blk_frozen (blk_below Y4.out HB5.out) 0; have f1 := blk_frozen (blk_below Y4.out HB5.out) 1; have f2 := blk_frozen (blk_below Y4.out HB5.out) 2; have y50 : w5.cell? ⟨w.heap.size + 1, 0, none⟩ = some _ := (blk_cell (blk_below Y4.out HB5.out) 0).trans rfl; have y51 : w5.cell? ⟨w.heap.size + 1, 1, none⟩ = some _ := (blk_cell (blk_below Y4.out HB5.out) 1).trans rfl; have y52 : w5.cell? ⟨w.heap.size + 1, 2, none⟩ = some _ := (blk_cell (blk_below Y4.out HB5.out) 2).trans rfl; clear hv hb5 hC5))
    all_goals
      obtain ⟨W, hW, hy, hCH, hCB, hBW⟩ := sha_fin (w := w) (w4 := w4.drew) (n := .int .u64 (IntKind.u64.wrap (N + IntKind.u64.wrap (b.length : Int)))) (blk_below Y4.out HB5.out) (blk_below R4.out HB5.out) H8.out HV5.out (by show w.heap.size + 1 < w4.heap.size; omega) (by omega) (by omega) (below_step B4.out HB5.out) (.slice (some ⟨w1.heap.size, 0, none⟩) 8 8)
      rw [← hW]
      clear hW
      go_wp2
      refine bodyPost_ret (v := .agg #[.slice (some ⟨w1.heap.size, 0, none⟩) 8 8, .slice A5 all.length c5, .int .u64 (IntKind.u64.wrap (N + IntKind.u64.wrap (b.length : Int)))]) (results_cell_row rfl _ _ (w.heap.size + 1) 95 _ (0, 0) _ rfl hy hu95 rfl (by kernel_rfl)) rfl ⟨_, _, ?_, hCH, hCB, hBW⟩
      rw [wrap_sum64]
theorem sha_Write.calls (k : Nat) (AH : Option Addr) (cH : Nat) (H : List Int) (AB : Option Addr) (cB : Nat) (Buf : List Int) (N : Int) (A : Option Addr) (c : Nat) (b : List Int) (r1 : List Int) (r2 : List Int) (r3 : Int) (w : World) (hH : Kd.C (Kd.int .u32) w AH H.length H) (hcH : H.length ≤ cH) (hB : Kd.C (Kd.int .u8) w AB Buf.length Buf) (hcB : Buf.length ≤ cB) (hb : Kd.C (Kd.int .u8) w A b.length b) (hc : b.length ≤ c)
    (h : sha_Write.f k H Buf N b = some (r1, r2, r3)) :
    Calls Tryd.prog 56 #[.agg #[.slice AH H.length cH, .slice AB Buf.length cB, .int .u64 N], .slice A b.length c] w fun e w' => ∃ v0_ v1_ : Value, e = .returned (.agg #[v0_, v1_, .int .u64 r3]) ∧ Kd.R (Kd.int .u32) 126 w' w.heap.size (fun _ => True) v0_ r1 ∧ Kd.R (Kd.int .u8) 5 w' w.heap.size (fun _ => True) v1_ r2 ∧ Below w.heap.size w w' := by
  obtain ⟨ok, hck, h1⟩ := Option.bind_eq_some_iff.1 h
  clear h
  by_cases hok : ok = true
  · subst hok
    rw [if_pos rfl] at h1
    by_cases h8 : H.length = 8
    · rw [if_pos h8] at h1
      by_cases hsz : Buf.length + b.length < 100000000000
      · rw [if_pos hsz] at h1
        by_cases h64 : 64 ≤ (Buf ++ b).length
        · rw [if_pos h64] at h1
          obtain ⟨ks, hks, h2⟩ := Option.bind_eq_some_iff.1 h1
          obtain ⟨q, hq, h3⟩ := Option.bind_eq_some_iff.1 h2
          have e := Option.some.inj h3
          have hr : (if 64 ≤ (Buf ++ b).length then ((sha_constants.f k).bind fun ks => sha_loop ks k H (Buf ++ b)) else some (H, Buf ++ b)) = some q := by
            rw [if_pos h64, hks]
            exact hq
          cases e
          exact sha_Write.core AH AB A cH cB c H Buf N b w k (Buf ++ b) q hH hcH hB hcB hb hc hck h8 hsz rfl hr
        · rw [if_neg h64] at h1
          have e := Option.some.inj h1
          have hr : (if 64 ≤ (Buf ++ b).length then ((sha_constants.f k).bind fun ks => sha_loop ks k H (Buf ++ b)) else some (H, Buf ++ b)) = some (H, Buf ++ b) := if_neg h64
          cases e
          exact sha_Write.core AH AB A cH cB c H Buf N b w k (Buf ++ b) _ hH hcH hB hcB hb hc hck h8 hsz rfl hr
      · rw [if_neg hsz] at h1; cases h1
    · rw [if_neg h8] at h1; cases h1
  · rw [if_neg hok] at h1; cases h1
theorem sha_constants.mono_l : ∀ k ps i out, LeO (sha_constants.l0 k ps i out) (sha_constants.l0 (k + 1) ps i out)
  | 0, _, _, _ => LeO.none _
  | k + 1, ps, i, out => by
    unfold sha_constants.l0
    refine LeO.ite (LeO.ite (LeO.bind (sha_root.mono _ _ _) fun _ => sha_constants.mono_l k _ _ _) (LeO.none _)) (LeO.refl _)
theorem sha_constants.mono : ∀ k, LeO (sha_constants.f k) (sha_constants.f (k + 1)) := fun k => LeO.bind (sha_primes.mono _ _) fun _ => sha_constants.mono_l k _ _ _
theorem sha_loop.mono (ks : List Int) : ∀ k h all, LeO (sha_loop ks k h all) (sha_loop ks (k + 1) h all)
  | 0, _, _ => LeO.none _
  | k + 1, h, all => by
    unfold sha_loop
    exact LeO.ite (sha_loop.mono ks k _ _) (LeO.refl _)
theorem sha_Write.mono : ∀ a0 a1 a2 a3 k, LeO (sha_Write.f k a0 a1 a2 a3) (sha_Write.f (k + 1) a0 a1 a2 a3) := by
  intro a0 a1 a2 a3 k
  unfold sha_Write.f
  exact LeO.bind (LeO.refl _) fun _ => LeO.ite (LeO.ite (LeO.ite (LeO.ite (LeO.bind (sha_constants.mono k) fun _ => LeO.bind (sha_loop.mono _ _ _ _) fun _ => LeO.refl _) (LeO.refl _)) (LeO.none _)) (LeO.none _)) (LeO.none _)
end Go.Proofs.YtbclnkhcnclfoaaDoor.Q
namespace Go.Proofs.YtbclnkhcnclfoaaDoor.Q
open Go.RowKit Go.Proofs.YtbclnkhcnclfoaaDoorW.PrintWords Go.Proofs.YtbclnkhcnclfoaaDoorW.PrintLast Go.Proofs.YtbclnkhcnclfoaaDoorW.PrintMore
attribute [local go_sem] max2_int min2_int max_two min_two max_three min_three max_four min_four   -- for this text's walks alone
set_option linter.unusedVariables false
set_option linter.unusedSimpArgs false
/-! ### sha_Done: function 55 -/
mutual
def sha_Done.l0 : Nat → List Int → Int → List Int → List Int → Int → Option (List Int)
  | 0, _, _, _, _, _ => none
  | k + 1, x3, x20, x569000, x569001, x569002 => if x20 < 8 then (if 0 ≤ (wrap64 (56 - (wrap64 (8 * x20)))) then (if x3.length < 140737488355328 then (sha_Done.l0 k (x3 ++ [(shr .u64 (IntKind.u64.wrap (x569002 * 8)) (wrap64 (56 - (wrap64 (8 * x20))))) % 256]) (wrap64 (x20 + 1)) x569000 x569001 x569002) else (none)) else (none)) else ((sha_Write.f k x569000 x569001 x569002 x3).bind fun bt577 => (sha_Done.l1 k ([] : List Int) bt577.1 (bt577.1.length : Int) 0))
def sha_Done.l1 : Nat → List Int → List Int → Int → Int → Option (List Int)
  | 0, _, _, _, _ => none
  | k + 1, x5, x38, x39, x40 => if x40 < x39 then (if 0 ≤ x40 then (if x40 < (x38.length : Int) then ((some (([((rd x38 x40) / 16777216) % 256, ((rd x38 x40) / 65536) % 256, ((rd x38 x40) / 256) % 256, (rd x38 x40) % 256] : List Int) : List Int)).bind fun y585 => (if x5.length + y585.length < 140737488355328 then (sha_Done.l1 k (x5 ++ y585) x38 x39 (wrap64 (x40 + 1))) else (none))) else (none)) else (none)) else (some x5)
end
def sha_Done.f (k : Nat) (l0_0 : List Int) (l0_1 : List Int) (a0_2 : Int) : Option (List Int) := (sha_Check.f l0_0 l0_1 a0_2).bind fun t569 => (if t569 = true then (if 0 ≤ (wrap64 (1 + (Int.tmod (wrap64 (119 - (l0_1.length : Int))) 64))) then (if (wrap64 (1 + (Int.tmod (wrap64 (119 - (l0_1.length : Int))) 64))) ≤ 128 then (if 128 ≤ 281474976710656 then ((some (List.replicate (wrap64 (1 + (Int.tmod (wrap64 (119 - (l0_1.length : Int))) 64)) : Int).toNat 0 : List Int)).bind fun y570 => (if 0 < (y570.length : Int) then (sha_Done.l0 k (y570.set (0 : Int).toNat 128) 0 l0_0 l0_1 a0_2) else (none))) else (none)) else (none)) else (none)) else (some ([] : List Int)))
theorem sha_Done.mono_l : ∀ k, (∀ y0 y1 y2 y3 y4, LeO (sha_Done.l0 k y0 y1 y2 y3 y4) (sha_Done.l0 (k + 1) y0 y1 y2 y3 y4)) ∧ (∀ y0 y1 y2 y3, LeO (sha_Done.l1 k y0 y1 y2 y3) (sha_Done.l1 (k + 1) y0 y1 y2 y3))
  | 0 => ⟨fun _ _ _ _ _ r h => by simp [sha_Done.l0] at h, fun _ _ _ _ r h => by simp [sha_Done.l1] at h⟩
  | k + 1 => by
    obtain ⟨ih0, ih1⟩ := sha_Done.mono_l k
    refine ⟨?_, ?_⟩
    · intro y0 y1 y2 y3 y4
      unfold sha_Done.l0
      repeat' first
      | (with_reducible exact ih0 _ _ _ _ _)
      | (with_reducible exact ih1 _ _ _ _)
      | (with_reducible exact sha_Write.mono _ _ _ _ _)
      | (with_reducible exact LeO.refl _)
      | (with_reducible exact LeO.none _)
      | (with_reducible refine LeO.ite ?_ ?_)
      | (with_reducible refine LeO.bind ?_ (fun _ => ?_))
      | exact ih0 _ _ _ _ _
      | exact ih1 _ _ _ _
      | exact sha_Write.mono _ _ _ _ _
      | exact LeO.none _
      | refine LeO.ite ?_ ?_
      | refine LeO.bind ?_ (fun _ => ?_)
    · intro y0 y1 y2 y3
      unfold sha_Done.l1
      repeat' first
      | (with_reducible exact ih0 _ _ _ _ _)
      | (with_reducible exact ih1 _ _ _ _)
      | (with_reducible exact sha_Write.mono _ _ _ _ _)
      | (with_reducible exact LeO.refl _)
      | (with_reducible exact LeO.none _)
      | (with_reducible refine LeO.ite ?_ ?_)
      | (with_reducible refine LeO.bind ?_ (fun _ => ?_))
      | exact ih0 _ _ _ _ _
      | exact ih1 _ _ _ _
      | exact sha_Write.mono _ _ _ _ _
      | exact LeO.none _
      | refine LeO.ite ?_ ?_
      | refine LeO.bind ?_ (fun _ => ?_)
theorem sha_Done.mono : ∀ a0 a1 a2 k, LeO (sha_Done.f k a0 a1 a2) (sha_Done.f (k + 1) a0 a1 a2) := by
  intro a0 a1 a2 k
  obtain ⟨ih0, ih1⟩ := sha_Done.mono_l k
  unfold sha_Done.f
  repeat' first
      | (with_reducible exact ih0 _ _ _ _ _)
      | (with_reducible exact ih1 _ _ _ _)
      | (with_reducible exact sha_Write.mono _ _ _ _ _)
      | (with_reducible exact LeO.refl _)
      | (with_reducible exact LeO.none _)
      | (with_reducible refine LeO.ite ?_ ?_)
      | (with_reducible refine LeO.bind ?_ (fun _ => ?_))
      | exact ih0 _ _ _ _ _
      | exact ih1 _ _ _ _
      | exact sha_Write.mono _ _ _ _ _
      | exact LeO.none _
      | refine LeO.ite ?_ ?_
      | refine LeO.bind ?_ (fun _ => ?_)
set_option maxHeartbeats 8000000 in
set_option maxRecDepth 100000 in
theorem sha_Done.calls (k : Nat) (A0_0 : Option Addr) (c0_0 : Nat) (l0_0 : List Int) (A0_1 : Option Addr) (c0_1 : Nat) (l0_1 : List Int) (a0_2 : Int) (r : List Int) (w : World) (hr0_0 : Kd.C (Kd.int .u32) w A0_0 l0_0.length l0_0) (hc0_0 : l0_0.length ≤ c0_0) (hr0_1 : Kd.C (Kd.int .u8) w A0_1 l0_1.length l0_1) (hc0_1 : l0_1.length ≤ c0_1) (h : sha_Done.f k l0_0 l0_1 a0_2 = some r) :
    Calls Tryd.prog 55 #[.agg #[.slice A0_0 l0_0.length c0_0, .slice A0_1 l0_1.length c0_1, .int .u64 a0_2]] w fun e w' => ∃ v0_ : Value, e = .returned (v0_) ∧ Kd.R (Kd.int .u8) 5 w' w.heap.size (fun _ => True) v0_ r ∧ Below w.heap.size w w' := by
  have hu95 := Tryd.underlying95
  have HR0_0 := Aside0.mk hr0_0
  have HC0_0 := Aside0.mk hc0_0
  clear hr0_0 hc0_0
  have HR0_1 := Aside0.mk hr0_1
  have HC0_1 := Aside0.mk hc0_1
  clear hr0_1 hc0_1
  have HB := Aside0.mk (Below.refl w.heap.size w)
  have H : ((sha_Check.f l0_0 l0_1 a0_2).bind fun t569 => (if t569 = true then (if 0 ≤ (wrap64 (1 + (Int.tmod (wrap64 (119 - (l0_1.length : Int))) 64))) then (if (wrap64 (1 + (Int.tmod (wrap64 (119 - (l0_1.length : Int))) 64))) ≤ 128 then (if 128 ≤ 281474976710656 then ((some (List.replicate (wrap64 (1 + (Int.tmod (wrap64 (119 - (l0_1.length : Int))) 64)) : Int).toNat 0 : List Int)).bind fun y570 => (if 0 < (y570.length : Int) then (sha_Done.l0 k (y570.set (0 : Int).toNat 128) 0 l0_0 l0_1 a0_2) else (none))) else (none)) else (none)) else (none)) else (some ([] : List Int)))) = some r := h
  clear h
  replace H := Option.bind_eq_some_iff.mp H
  obtain ⟨t569, A20, H⟩ := H
  replace H : (if t569 = true then (if 0 ≤ (wrap64 (1 + (Int.tmod (wrap64 (119 - (l0_1.length : Int))) 64))) then (if (wrap64 (1 + (Int.tmod (wrap64 (119 - (l0_1.length : Int))) 64))) ≤ 128 then (if 128 ≤ 281474976710656 then ((some (List.replicate (wrap64 (1 + (Int.tmod (wrap64 (119 - (l0_1.length : Int))) 64)) : Int).toNat 0 : List Int)).bind fun y570 => (if 0 < (y570.length : Int) then (sha_Done.l0 k (y570.set (0 : Int).toNat 128) 0 l0_0 l0_1 a0_2) else (none))) else (none)) else (none)) else (none)) else (some ([] : List Int))) = some r := H
  have A2 := Aside0.mk A20
  clear A20
  by_cases c3 : t569 = true
  · subst c3
    have H1 : (if 0 ≤ (wrap64 (1 + (Int.tmod (wrap64 (119 - (l0_1.length : Int))) 64))) then (if (wrap64 (1 + (Int.tmod (wrap64 (119 - (l0_1.length : Int))) 64))) ≤ 128 then (if 128 ≤ 281474976710656 then ((some (List.replicate (wrap64 (1 + (Int.tmod (wrap64 (119 - (l0_1.length : Int))) 64)) : Int).toNat 0 : List Int)).bind fun y570 => (if 0 < (y570.length : Int) then (sha_Done.l0 k (y570.set (0 : Int).toNat 128) 0 l0_0 l0_1 a0_2) else (none))) else (none)) else (none)) else (none)) = some r := by rw [if_pos rfl] at H; exact H
    clear H
    have H := H1
    clear H1
    obtain ⟨ji4, hji4⟩ : ∃ j_ : Int, (wrap64 (1 + (Int.tmod (wrap64 (119 - (l0_1.length : Int))) 64))) = j_ := ⟨_, rfl⟩
    replace H : (if 0 ≤ (ji4) then (if (ji4) ≤ 128 then (if 128 ≤ 281474976710656 then ((some (List.replicate (ji4 : Int).toNat 0 : List Int)).bind fun y570 => (if 0 < (y570.length : Int) then (sha_Done.l0 k (y570.set (0 : Int).toNat 128) 0 l0_0 l0_1 a0_2) else (none))) else (none)) else (none)) else (none)) = some r := by first | (rw [hji4] at H; exact H) | (simp only [hji4] at H ⊢; exact H)
    (try rw [hji4] at A2)
    have hji4w : (IntKind.i64.wrap (1 + (Int.tmod (wrap64 (119 - (l0_1.length : Int))) 64))) = ji4 := (i64_w _).trans hji4
    by_cases c5 : 0 ≤ (ji4)
    · rw [if_pos c5] at H
      have c5b0 := eq_true c5
      have c5b1 : decide (0 ≤ (ji4)) = true := decide_eq_true c5
      clear c5
      by_cases c6 : (ji4) ≤ 128
      · rw [if_pos c6] at H
        have c6b0 := eq_true c6
        have c6b1 : decide ((ji4) ≤ 128) = true := decide_eq_true c6
        clear c6
        by_cases c7 : 128 ≤ 281474976710656
        · rw [if_pos c7] at H
          have c7b0 := eq_true c7
          have c7b1 : decide (128 ≤ 281474976710656) = true := decide_eq_true c7
          clear c7
          obtain ⟨y570, hy570⟩ : ∃ y_ : List Int, y_ = (List.replicate (ji4 : Int).toNat 0) := ⟨_, rfl⟩
          replace H : (if 0 < (y570.length : Int) then (sha_Done.l0 k (y570.set (0 : Int).toNat 128) 0 l0_0 l0_1 a0_2) else (none)) = some r := by first | (rw [hy570]; with_reducible exact H) | (have H2_ := (Option.bind_some _ _).symm.trans H; rw [hy570]; with_reducible exact H2_) | (have H2_ := (Option.bind_some _ _).symm.trans H; with_reducible exact H2_) | with_reducible exact H | (rw [hy570]; exact H) | exact H
          have Ny570 := Aside0.mk hy570
          clear hy570
          by_cases c8 : 0 < (y570.length : Int)
          · rw [if_pos c8] at H
            have c8b0 : decide (0 < (y570.length : Int)) = true := decide_eq_true c8
            have c8b1 : decide (0 < y570.length) = true := decide_eq_true (by omega)
            clear c8
            obtain ⟨y573, hy573⟩ : ∃ y_ : List Int, y_ = (y570.set (0 : Int).toNat 128) := ⟨_, rfl⟩
            replace H : (sha_Done.l0 k y573 0 l0_0 l0_1 a0_2) = some r := by first | (rw [hy573]; with_reducible exact H) | (have H2_ := (Option.bind_some _ _).symm.trans H; rw [hy573]; with_reducible exact H2_) | (have H2_ := (Option.bind_some _ _).symm.trans H; with_reducible exact H2_) | with_reducible exact H | (rw [hy573]; exact H) | exact H
            have Ny573 := Aside0.mk hy573
            clear hy573
            have H' := Aside0.mk H
            clear H
            go_enter Tryd.func55, Tryd.ntmps55
            go_wp2_with (first | ((with_reducible refine gate_dst (N := 1) rfl ?_); refine box_event ?hg (N := 1) ?hd (cs := #[.slice A0_0 l0_0.length c0_0, .slice A0_1 l0_1.length c0_1, .int .u64 a0_2]) (t := 95) ?hr ?_; (case hd => rfl); (case hg => rfl); (case hr => first | (go_simp; done) | (go_simp; rfl)); intro gb568 hg w10 hbox hb; have n0_ := Aside0.mk (below_step (by repeat (first | (with_reducible first | exact HB.out | apply below_alloc | apply pw_below_drewN | apply below_drew1) | exact HB.out)) hb); have n1_ := Aside0.mk (hbox); have n2_ := Aside0.mk ((by rw [hg]; exact (below_size (by repeat (first | (with_reducible first | exact HB.out | apply below_alloc | apply pw_below_drewN | apply below_drew1) | exact HB.out))) : w.heap.size ≤ gb568)); have n3_ := Aside0.mk ((by rw [hg]; exact (below_size (by repeat (first | (with_reducible first | exact HB.out | apply below_alloc | apply pw_below_drewN | apply below_drew1) | exact HB.out))) : w.heap.size ≤ gb568)); clear HB; have HB := n0_; have BK568 := n1_; have GW568 := n2_; have GE568 := n3_; clear n0_ n1_ n2_ n3_; clear hb hbox hg; have hcz11_0 : w10.cell? ⟨gb568, 0, none⟩ = some (.slice A0_0 l0_0.length c0_0) := (blk_cell BK568.out 0).trans rfl; have hcz11_1 : w10.cell? ⟨gb568, 1, none⟩ = some (.slice A0_1 l0_1.length c0_1) := (blk_cell BK568.out 1).trans rfl; have hcz11_2 : w10.cell? ⟨gb568, 2, none⟩ = some (.int .u64 a0_2) := (blk_cell BK568.out 2).trans rfl; have hfz11_0 := blk_frozen BK568.out 0; have hfz11_1 := blk_frozen BK568.out 1; have hfz11_2 := blk_frozen BK568.out 2) | ((with_reducible refine gate_callee (f := 89) rfl ?_); refine goesL_ (some 9) rfl rfl Tryd.func89 (by kernel_rfl) rfl #[.agg #[.slice A0_0 l0_0.length c0_0, .slice A0_1 l0_1.length c0_1, .int .u64 a0_2]] rfl (by (try simp only [List.map_toArray, List.map_cons, List.map_nil]); first | done | rfl | (simp only [List.length_drop, List.length_take]; rfl)) ?_; (with_reducible refine (sha_Check.calls _ _ l0_0 _ _ l0_1 a0_2 true _ ?side1 ?side2 ?side3 ?side4 A2.out).mono ?_); (case side1 => repeat (first | exact (Kd.C_below HR0_0.out HB.out) | (with_reducible refine Kd.C_alloc ?_ _) | (with_reducible refine Kd.C_drewN ?_ _) | (with_reducible refine Kd.C_drew ?_))); (case side2 => exact HC0_0.out); (case side3 => repeat (first | exact (Kd.C_below HR0_1.out HB.out) | (with_reducible refine Kd.C_alloc ?_ _) | (with_reducible refine Kd.C_drewN ?_ _) | (with_reducible refine Kd.C_drew ?_))); (case side4 => exact HC0_1.out); rintro e w12 ⟨rfl, hb⟩; refine ⟨_, rfl, ?_⟩; have n0_ := Aside0.mk (blk_below (g := gb568) (o := .cells #[.slice A0_0 l0_0.length c0_0, .slice A0_1 l0_1.length c0_1, .int .u64 a0_2] 95 (0, 0)) (by (with_reducible repeat (first | refine blk_drewN ?_ _ | refine blk_drew ?_ | refine blk_alloc ?_ _)); exact BK568.out) hb); have n1_ := Aside0.mk (below_step (by repeat (first | (with_reducible first | exact HB.out | apply below_alloc | apply pw_below_drewN | apply below_drew1 | refine below_set ?_ GE568.out) | exact HB.out)) hb); clear BK568; clear HB; have BK568 := n0_; have HB := n1_; clear n0_ n1_; (try clear hb); (try clear hb2); (try clear hk); (try clear hi); have hcz13_0 : w12.cell? ⟨gb568, 0, none⟩ = some (.slice A0_0 l0_0.length c0_0) := (blk_cell BK568.out 0).trans rfl; have hcz13_1 : w12.cell? ⟨gb568, 1, none⟩ = some (.slice A0_1 l0_1.length c0_1) := (blk_cell BK568.out 1).trans rfl; have hcz13_2 : w12.cell? ⟨gb568, 2, none⟩ = some (.int .u64 a0_2) := (blk_cell BK568.out 2).trans rfl; have hfz13_0 := blk_frozen BK568.out 0; have hfz13_1 := blk_frozen BK568.out 1; have hfz13_2 := blk_frozen BK568.out 2) | ((with_reducible refine gate_dst (N := 17) rfl ?_); refine Kd.R_makecap (Kd.int .u8) _ 5 rfl (N := 17) rfl 22 _ _ rfl ji4 128 rfl rfl Tryd.underlying22 (.int .u8 0) 1 info5 (by decide) rfl 0 rfl (ok := fun _ => True) (okp := fun _ => True) (fun _ hk => hk) trivial (of_decide_eq_true (by first | (with_reducible assumption) | assumption)) (show (ji4 : Int) ≤ (128 : Int) from of_decide_eq_true (by first | (with_reducible assumption) | assumption)) (show (128 : Int) ≤ 281474976710656 from by omega) (by omega) (Below.refl _ _) (Nat.le_refl _) ?_; intro v571 w14 ho15 hb hg_ hnew_; clear hg_ hnew_; (first | rw [← Ny570.out] at ho15 | (simp only [Int.reduceToNat] at ho15; rw [← Ny570.out] at ho15)); have n0_ := Aside0.mk (Kd.R_lower ho15 (below_size (by repeat (first | (with_reducible first | exact HB.out | apply below_alloc | apply pw_below_drewN | apply below_drew1 | refine below_set ?_ GE568.out) | exact HB.out)))); have n1_ := Aside0.mk (blk_below (g := gb568) (o := .cells #[.slice A0_0 l0_0.length c0_0, .slice A0_1 l0_1.length c0_1, .int .u64 a0_2] 95 (0, 0)) (by (with_reducible repeat (first | refine blk_drewN ?_ _ | refine blk_drew ?_ | refine blk_alloc ?_ _)); exact BK568.out) hb); have n2_ := Aside0.mk (below_step (by repeat (first | (with_reducible first | exact HB.out | apply below_alloc | apply pw_below_drewN | apply below_drew1 | refine below_set ?_ GE568.out) | exact HB.out)) hb); clear BK568; clear HB; have HO572 := n0_; have BK568 := n1_; have HB := n2_; clear n0_ n1_ n2_; clear hb ho15; have p9 : 0 ≤ (0 : Int) := (by omega); have q9 : (0 : Int) < ((y570.length : Int) : Int) := of_decide_eq_true (by first | (with_reducible assumption) | assumption); have qi9 : (0 < y570.length) = True := eq_true (by omega); obtain ⟨go9, co9, eo9, gb9, gl9, cl9, HG9⟩ := Kd.R_form HO572.out (by omega); (first | cases eo9 | (injection eo9 with ea_ en_ ec_; (first | subst ea_ | (injection ea_ with ea_; subst ea_)); subst ec_; clear en_)); have GB9 := Aside0.mk gb9; have GG9 := Aside0.mk HG9; clear gb9 gl9 HG9; obtain ⟨hx9_0, hf9_0⟩ := Kd.R_celln 0 HO572.out (0 : Int) p9 q9; (try rw [show ((0 : Int)).toNat = 0 from rfl] at hx9_0); (try simp only [Nat.reduceMul, Nat.zero_mul, Nat.zero_add, Nat.reduceAdd] at hx9_0); (try rw [show ((0 : Int)).toNat = 0 from rfl] at hf9_0); (try simp only [Nat.reduceMul, Nat.zero_mul, Nat.zero_add, Nat.reduceAdd] at hf9_0); replace p9 := eq_true p9; replace q9 := eq_true q9; obtain ⟨hy16_, hz16_⟩ := Kd.R_celln 0 HO572.out (0 : Int) (by omega) (of_decide_eq_true (by first | (with_reducible assumption) | assumption)); (try simp only [Int.reduceToNat, Int.toNat_zero, Int.toNat_ofNat, Nat.reduceMul, Nat.zero_mul, Nat.zero_add] at hy16_ hz16_); (try rw [show ((0 : Int)).toNat = 0 from rfl] at hy16_); (try rw [show ((0 : Int)).toNat = 0 from rfl] at hz16_); have HP16 := Kd.R_putg HO572.out (0 : Int) 128) | ((with_reducible refine gate_store (t := 5) (p := 19) rfl ?_); refine store_event (t := 5) (p := 19) (v := ?vo_w17) (w1 := (w14.setCell ⟨go9, (0 : Int).toNat, none⟩ (.int .u8 128))) ?hg ?ho ?hn ?hr ?_; (case ho => rfl); (case hg => rfl); (case hn => rfl); (case hr => first | (go_simp; done) | (go_simp; rfl)); intro w17 hw; have hg : w14.grownBy w17 (some go9) := (by rw [hw]; exact HP16.2); have hp_ : Kd.R (Kd.int .u8) 5 w17 w.heap.size (fun _ => True) (.slice (some ⟨go9, 0, none⟩) y570.length co9) y573 := (by rw [hw, Ny573.out]; exact HP16.1); clear HP16; have n0_ := Aside0.mk (blk_grown (g := gb568) (o := .cells #[.slice A0_0 l0_0.length c0_0, .slice A0_1 l0_1.length c0_1, .int .u64 a0_2] 95 (0, 0)) (by (with_reducible repeat (first | refine blk_drewN ?_ _ | refine blk_drew ?_ | refine blk_alloc ?_ _)); exact BK568.out) hg (Kd.R_ne HO572.out BK568.out (by decide))); have n1_ := Aside0.mk (hp_); have n2_ := Aside0.mk ((by rw [hw]; exact below_set (HB.out) GB9.out : Below w.heap.size w w17)); clear BK568; clear HO572; clear HB; have BK568 := n0_; have HO572 := n1_; have HB := n2_; clear n0_ n1_ n2_; clear hg hw hp_))
            go_loopg [3, 20] k (fun kq v3 v20 w' => ∃ (x3_1 : List Int) (x20_1 : Int), v20 = .int .i64 x20_1 ∧ Aside0 (sha_Done.l0 kq x3_1 x20_1 l0_0 l0_1 a0_2 = some r) ∧ Aside0 (kq ≤ k) ∧ Aside0 (Kd.R (Kd.int .u8) 5 w' w.heap.size (fun _ => True) v3 x3_1) ∧ Aside0 (w'.heap[gb568]? = some (.cells #[(.slice A0_0 l0_0.length c0_0), (.slice A0_1 l0_1.length c0_1), .int .u64 a0_2] 95 (0, 0))) ∧ Aside0 (Below w.heap.size w w'))
            case atStart => exact ⟨(y573), (0), (by first | rfl | (simp; done) | (simp [*]; done)), H', ⟨Nat.le_refl _⟩, ⟨by (with_reducible repeat (first | apply Kd.R_alloc | apply Kd.R_drewN | apply Kd.R_drew)); exact HO572.out⟩, ⟨by (with_reducible repeat (first | refine blk_drewN ?_ _ | refine blk_drew ?_ | refine blk_alloc ?_ _)); exact BK568.out⟩, ⟨by repeat (first | (with_reducible first | exact HB.out | apply below_alloc | apply pw_below_drewN | apply below_drew1 | refine below_set ?_ GE568.out) | exact HB.out)⟩⟩
            case round =>
              clear H'
              try clear p2
              try clear c3
              try clear c5
              try clear c5b0
              try clear c5b1
              try clear c6
              try clear c6b0
              try clear c6b1
              try clear p6
              try clear c7
              try clear c7b0
              try clear c7b1
              try clear c8
              try clear c8b0
              try clear c8b1
              try clear p9
              try clear q9
              try clear hx9
              try clear qi9
              try clear hf9
              try clear hcz11_0
              try clear hcz11_1
              try clear hcz11_2
              try clear hcz13_0
              try clear hcz13_1
              try clear hcz13_2
              try clear hfz11_0
              try clear hfz11_1
              try clear hfz11_2
              try clear hfz13_0
              try clear hfz13_1
              try clear hfz13_2
              try clear hx9_0
              try clear p9
              try clear q9
              obtain ⟨x3_1, x20_1, rfl, HA, HK1, HO_3, BK568, HB⟩ := hrel
              cases gk with
              | zero => exact absurd HA.out (by simp [sha_Done.l0])
              | succ k1 =>
                have H := HA.out
                clear HA
                simp only [sha_Done.l0] at H
                by_cases c18 : x20_1 < 8
                · rw [if_pos c18] at H
                  have c18b0 : decide (x20_1 < 8) = true := decide_eq_true c18
                  clear c18
                  obtain ⟨ji19, hji19⟩ : ∃ j_ : Int, (wrap64 (56 - (wrap64 (8 * x20_1)))) = j_ := ⟨_, rfl⟩
                  replace H : (if 0 ≤ (ji19) then (if x3_1.length < 140737488355328 then (sha_Done.l0 k1 (x3_1 ++ [(shr .u64 (IntKind.u64.wrap (a0_2 * 8)) (ji19)) % 256]) (wrap64 (x20_1 + 1)) l0_0 l0_1 a0_2) else (none)) else (none)) = some r := by first | (rw [hji19] at H; exact H) | (simp only [hji19] at H ⊢; exact H)
                  have hji19w : (IntKind.i64.wrap (56 - (wrap64 (8 * x20_1)))) = ji19 := (i64_w _).trans hji19
                  by_cases c20 : 0 ≤ (ji19)
                  · rw [if_pos c20] at H
                    have c20b0 := eq_true c20
                    have c20b1 : decide (0 ≤ (ji19)) = true := decide_eq_true c20
                    clear c20
                    obtain ⟨ji21, hji21⟩ : ∃ j_ : Int, (shr .u64 (IntKind.u64.wrap (a0_2 * 8)) (ji19)) = j_ := ⟨_, rfl⟩
                    replace H : (if x3_1.length < 140737488355328 then (sha_Done.l0 k1 (x3_1 ++ [(ji21) % 256]) (wrap64 (x20_1 + 1)) l0_0 l0_1 a0_2) else (none)) = some r := by first | (rw [hji21] at H; exact H) | (simp only [hji21] at H ⊢; exact H)
                    have hji21_ : ((IntKind.u64.wrap (a0_2 * 8)) / 2 ^ min (ji19).toNat 64) = ji21 := hji21
                    have hji21z : (ji19) ≤ 64 → ((IntKind.u64.wrap (a0_2 * 8)) / 2 ^ (ji19).toNat) = ji21 := shr_small hji21
                    by_cases c22 : x3_1.length < 140737488355328
                    · rw [if_pos c22] at H
                      have LMc22 := Aside0.mk c22
                      clear c22
                      obtain ⟨y574, hy574⟩ : ∃ y_ : List Int, y_ = (x3_1 ++ [(ji21) % 256]) := ⟨_, rfl⟩
                      replace H : (sha_Done.l0 k1 y574 (wrap64 (x20_1 + 1)) l0_0 l0_1 a0_2) = some r := by first | (rw [hy574]; with_reducible exact H) | (have H2_ := (Option.bind_some _ _).symm.trans H; rw [hy574]; with_reducible exact H2_) | (have H2_ := (Option.bind_some _ _).symm.trans H; with_reducible exact H2_) | with_reducible exact H | (rw [hy574]; exact H) | exact H
                      have Ny574 := Aside0.mk hy574
                      clear hy574
                      have H' := Aside0.mk H
                      clear H
                      have hcz23_0 : wr.cell? ⟨gb568, 0, none⟩ = some (.slice A0_0 l0_0.length c0_0) := (blk_cell BK568.out 0).trans rfl
                      have hcz23_1 : wr.cell? ⟨gb568, 1, none⟩ = some (.slice A0_1 l0_1.length c0_1) := (blk_cell BK568.out 1).trans rfl
                      have hcz23_2 : wr.cell? ⟨gb568, 2, none⟩ = some (.int .u64 a0_2) := (blk_cell BK568.out 2).trans rfl
                      have hfz23_0 := blk_frozen BK568.out 0
                      have hfz23_1 := blk_frozen BK568.out 1
                      have hfz23_2 := blk_frozen BK568.out 2
                      go_wp2_with (first | ((with_reducible refine gate_builtin (b := .append) (xs := #[.tmp 23, .tmp 32]) rfl ?_); at_builtin; refine Kd.R_append (Kd.int .u8) (w0 := w) w.heap.size rfl (.tmp 23) (.tmp 32) 22 5 (.int .u8 0) 1 rfl Tryd.underlying22 info5 rfl (by decide) (by omega) u3 x3_1 ((ji21) % 256) [.int .u8 ((ji21) % 256)] (fun _ => True) (fun _ => False) rfl rfl ?aP (fun _ hk => hk.elim) ?aF ?aO ?aB ?aS ?aL ?_; (case aP => exact rfl); (case aB => exact (by repeat (first | (with_reducible first | exact HB.out | apply below_alloc | apply pw_below_drewN | apply below_drew1 | refine below_set ?_ GE568.out) | exact HB.out))); (case aF => exact (fun _ _ => trivial)); (case aO => exact (by (with_reducible repeat (first | apply Kd.R_alloc | apply Kd.R_drewN | apply Kd.R_drew)); exact HO_3.out)); (case aS => exact (below_size (by repeat (first | (with_reducible first | exact HB.out | apply below_alloc | apply pw_below_drewN | apply below_drew1 | refine below_set ?_ GE568.out) | exact HB.out)))); (case aL => have := LMc22.out; omega); intro v575 w24 ho hb hg hat; rw [← Ny574.out] at ho; have n0_ := Aside0.mk (blk_grown (g := gb568) (o := .cells #[.slice A0_0 l0_0.length c0_0, .slice A0_1 l0_1.length c0_1, .int .u64 a0_2] 95 (0, 0)) (by (with_reducible repeat (first | refine blk_drewN ?_ _ | refine blk_drew ?_ | refine blk_alloc ?_ _)); exact BK568.out) hg (Kd.R_ne HO_3.out BK568.out (by decide))); have n1_ := Aside0.mk (hb); have n2_ := Aside0.mk (ho); clear BK568; clear HB; clear HO_3; have BK568 := n0_; have HB := n1_; have HO576 := n2_; clear n0_ n1_ n2_; clear ho hb hg hat))
                      go_roundg k1
                      case measure => have := HK1.out; omega
                      case rel => exact ⟨(y574), (wrap64 (x20_1 + 1)), (by first | rfl | (simp; done) | (simp [*]; done)), H', ⟨by have := HK1.out; omega⟩, ⟨by (with_reducible repeat (first | apply Kd.R_alloc | apply Kd.R_drewN | apply Kd.R_drew)); exact HO576.out⟩, ⟨by (with_reducible repeat (first | refine blk_drewN ?_ _ | refine blk_drew ?_ | refine blk_alloc ?_ _)); exact BK568.out⟩, ⟨by repeat (first | (with_reducible first | exact HB.out | apply below_alloc | apply pw_below_drewN | apply below_drew1 | refine below_set ?_ GE568.out) | exact HB.out)⟩⟩
                    · rw [if_neg c22] at H
                      exact absurd H (by simp)
                  · rw [if_neg c20] at H
                    exact absurd H (by simp)
                · rw [if_neg c18] at H
                  have c18b0 : decide (x20_1 < 8) = false := decide_eq_false c18
                  clear c18
                  replace H := Option.bind_eq_some_iff.mp H
                  obtain ⟨⟨t577, t580, t583⟩, A250, H⟩ := H
                  replace H : (sha_Done.l1 k1 ([] : List Int) t577 (t577.length : Int) 0) = some r := H
                  have A25 := Aside0.mk A250
                  clear A250
                  have H' := Aside0.mk H
                  clear H
                  have hfdH : ∀ (a b c : Value) (w : World), (Instr.field 95 (.agg #[a, b, c]) 0).run Tryd.prog w = .ok a w := fun _ _ _ _ => by kernel_rfl
                  have hcz26_0 : wr.cell? ⟨gb568, 0, none⟩ = some (.slice A0_0 l0_0.length c0_0) := (blk_cell BK568.out 0).trans rfl
                  have hcz26_1 : wr.cell? ⟨gb568, 1, none⟩ = some (.slice A0_1 l0_1.length c0_1) := (blk_cell BK568.out 1).trans rfl
                  have hcz26_2 : wr.cell? ⟨gb568, 2, none⟩ = some (.int .u64 a0_2) := (blk_cell BK568.out 2).trans rfl
                  have hfz26_0 := blk_frozen BK568.out 0
                  have hfz26_1 := blk_frozen BK568.out 1
                  have hfz26_2 := blk_frozen BK568.out 2
                  obtain ⟨Ao27, co27, eo27⟩ := Kd.R_slice HO_3.out
                  subst eo27
                  go_wp2_with (first | ((with_reducible refine gate_callee (f := 56) rfl ?_); refine goesL_ (some 37) rfl rfl Tryd.func56 (by kernel_rfl) rfl #[.agg #[.slice A0_0 l0_0.length c0_0, .slice A0_1 l0_1.length c0_1, .int .u64 a0_2], .slice Ao27 x3_1.length co27] rfl (by (try simp only [List.map_toArray, List.map_cons, List.map_nil]); first | done | rfl | (simp only [List.length_drop, List.length_take]; rfl)) ?_; (with_reducible refine (sha_Write.calls k1 _ _ l0_0 _ _ l0_1 a0_2 _ _ x3_1 t577 t580 t583 _ ?side1 ?side2 ?side3 ?side4 ?side5 ?side6 A25.out).mono ?_); (case side1 => repeat (first | exact (Kd.C_below HR0_0.out HB.out) | (with_reducible refine Kd.C_alloc ?_ _) | (with_reducible refine Kd.C_drewN ?_ _) | (with_reducible refine Kd.C_drew ?_))); (case side2 => exact HC0_0.out); (case side3 => repeat (first | exact (Kd.C_below HR0_1.out HB.out) | (with_reducible refine Kd.C_alloc ?_ _) | (with_reducible refine Kd.C_drewN ?_ _) | (with_reducible refine Kd.C_drew ?_))); (case side4 => exact HC0_1.out); (case side5 => repeat (first | exact (Kd.R_reads' HO_3.out).2.2 | (with_reducible refine Kd.C_alloc ?_ _) | (with_reducible refine Kd.C_drewN ?_ _) | (with_reducible refine Kd.C_drew ?_))); (case side6 => exact (Kd.R_reads' HO_3.out).2.1); rintro e w28 ⟨v578, v581, rfl, ho0, ho1, hb⟩; refine ⟨_, rfl, ?_⟩; have n0_ := Aside0.mk (Kd.R_elder' (by (with_reducible repeat (first | apply Kd.R_alloc | apply Kd.R_drewN | apply Kd.R_drew)); exact HO_3.out) (Kd.R_base ho1) hb); have n1_ := Aside0.mk (Kd.R_lower ho0 (below_size (by repeat (first | (with_reducible first | exact HB.out | apply below_alloc | apply pw_below_drewN | apply below_drew1 | refine below_set ?_ GE568.out) | exact HB.out)))); have n2_ := Aside0.mk (Kd.R_lower (Kd.R_new' ho1 (Kd.R_lt (by (with_reducible repeat (first | apply Kd.R_alloc | apply Kd.R_drewN | apply Kd.R_drew)); exact HO_3.out))) (below_size (by repeat (first | (with_reducible first | exact HB.out | apply below_alloc | apply pw_below_drewN | apply below_drew1 | refine below_set ?_ GE568.out) | exact HB.out)))); have n3_ := Aside0.mk (blk_below (g := gb568) (o := .cells #[.slice A0_0 l0_0.length c0_0, .slice A0_1 l0_1.length c0_1, .int .u64 a0_2] 95 (0, 0)) (by (with_reducible repeat (first | refine blk_drewN ?_ _ | refine blk_drew ?_ | refine blk_alloc ?_ _)); exact BK568.out) hb); have n4_ := Aside0.mk (below_step (by repeat (first | (with_reducible first | exact HB.out | apply below_alloc | apply pw_below_drewN | apply below_drew1 | refine below_set ?_ GE568.out) | exact HB.out)) hb); clear HO_3; clear BK568; clear HB; have HO_3 := n0_; have HO579 := n1_; have HO582 := n2_; have BK568 := n3_; have HB := n4_; clear n0_ n1_ n2_ n3_ n4_; (try clear hb); (try clear hb2); (try clear hk); (try clear hi); (try clear ho0); (try clear ho1); obtain ⟨Ao29, co29, eo29⟩ := Kd.R_slice HO579.out; subst eo29))
                  go_loopg [5, 40] k1 (fun kq v5 v40 w' => ∃ (x5_2 : List Int) (x40_2 : Int), v40 = .int .i64 x40_2 ∧ Aside0 (sha_Done.l1 kq x5_2 t577 (t577.length : Int) x40_2 = some r) ∧ Aside0 (kq ≤ k1) ∧ Aside0 (Kd.R (Kd.int .u8) 5 w' w.heap.size (fun _ => True) v5 x5_2) ∧ Aside0 (Kd.R (Kd.int .u32) 126 w' w.heap.size (fun _ => True) (.slice Ao29 t577.length co29) t577) ∧ Aside0 (w'.heap[gb568]? = some (.cells #[(.slice A0_0 l0_0.length c0_0), (.slice A0_1 l0_1.length c0_1), .int .u64 a0_2] 95 (0, 0))) ∧ Aside0 (Below w.heap.size w w'))
                  case atStart => exact ⟨(([] : List Int)), (0), (by first | rfl | (simp; done) | (simp [*]; done)), H', ⟨Nat.le_refl _⟩, ⟨by first | exact Kd.R_nil _ _ _ _ _ | exact Kd.N_nil _ _ _ _ _ | exact Kd.V_nil _ _ _ _ _ | exact Kd.Q_nil _ _ _ _ _ | exact Kd.S_nil _ _ _ _ _⟩, ⟨by (with_reducible repeat (first | apply Kd.R_alloc | apply Kd.R_drewN | apply Kd.R_drew)); exact HO579.out⟩, ⟨by (with_reducible repeat (first | refine blk_drewN ?_ _ | refine blk_drew ?_ | refine blk_alloc ?_ _)); exact BK568.out⟩, ⟨by repeat (first | (with_reducible first | exact HB.out | apply below_alloc | apply pw_below_drewN | apply below_drew1 | refine below_set ?_ GE568.out) | exact HB.out)⟩⟩
                  case round =>
                    clear H'
                    try clear c1
                    try clear c2
                    try clear p2
                    try clear c3
                    try clear c5
                    try clear c5b0
                    try clear c5b1
                    try clear c6
                    try clear c6b0
                    try clear c6b1
                    try clear p6
                    try clear c7
                    try clear c7b0
                    try clear c7b1
                    try clear c8
                    try clear c8b0
                    try clear c8b1
                    try clear p9
                    try clear q9
                    try clear hx9
                    try clear qi9
                    try clear hf9
                    try clear c18
                    try clear c18b0
                    try clear c20
                    try clear c20b0
                    try clear c20b1
                    try clear c22
                    try clear hcz11_0
                    try clear hcz11_1
                    try clear hcz11_2
                    try clear hcz13_0
                    try clear hcz13_1
                    try clear hcz13_2
                    try clear hcz23_0
                    try clear hcz23_1
                    try clear hcz23_2
                    try clear hcz26_0
                    try clear hcz26_1
                    try clear hcz26_2
                    try clear hfz11_0
                    try clear hfz11_1
                    try clear hfz11_2
                    try clear hfz13_0
                    try clear hfz13_1
                    try clear hfz13_2
                    try clear hfz23_0
                    try clear hfz23_1
                    try clear hfz23_2
                    try clear hfz26_0
                    try clear hfz26_1
                    try clear hfz26_2
                    try clear hx9_0
                    try clear p2
                    try clear p6
                    try clear p9
                    try clear q9
                    obtain ⟨x5_2, x40_2, rfl, HA, HK2, HO_5, HO_38, BK568, HB⟩ := hrel
                    cases gk with
                    | zero => exact absurd HA.out (by simp [sha_Done.l1])
                    | succ k2 =>
                      have H := HA.out
                      clear HA
                      simp only [sha_Done.l1] at H
                      by_cases c30 : x40_2 < (t577.length : Int)
                      · rw [if_pos c30] at H
                        have c30b0 : decide (x40_2 < (t577.length : Int)) = true := decide_eq_true c30
                        clear c30
                        by_cases c31 : 0 ≤ x40_2
                        · rw [if_pos c31] at H
                          have c31b0 : decide (0 ≤ x40_2) = true := decide_eq_true c31
                          clear c31
                          by_cases c32 : x40_2 < (t577.length : Int)
                          · rw [if_pos c32] at H
                            have c32b0 : decide (x40_2 < (t577.length : Int)) = true := decide_eq_true c32
                            clear c32
                            obtain ⟨y585, hy585⟩ : ∃ y_ : List Int, y_ = (([((rd t577 x40_2) / 16777216) % 256, ((rd t577 x40_2) / 65536) % 256, ((rd t577 x40_2) / 256) % 256, (rd t577 x40_2) % 256] : List Int)) := ⟨_, rfl⟩
                            replace H : (if x5_2.length + y585.length < 140737488355328 then (sha_Done.l1 k2 (x5_2 ++ y585) t577 (t577.length : Int) (wrap64 (x40_2 + 1))) else (none)) = some r := by first | (rw [hy585]; with_reducible exact H) | (have H2_ := (Option.bind_some _ _).symm.trans H; rw [hy585]; with_reducible exact H2_) | (have H2_ := (Option.bind_some _ _).symm.trans H; with_reducible exact H2_) | with_reducible exact H | (rw [hy585]; exact H) | exact H
                            have Ny585 := Aside0.mk hy585
                            clear hy585
                            by_cases c33 : x5_2.length + y585.length < 140737488355328
                            · rw [if_pos c33] at H
                              have LMc33 := Aside0.mk c33
                              clear c33
                              obtain ⟨y588, hy588⟩ : ∃ y_ : List Int, y_ = (x5_2 ++ y585) := ⟨_, rfl⟩
                              replace H : (sha_Done.l1 k2 y588 t577 (t577.length : Int) (wrap64 (x40_2 + 1))) = some r := by first | (rw [hy588]; with_reducible exact H) | (have H2_ := (Option.bind_some _ _).symm.trans H; rw [hy588]; with_reducible exact H2_) | (have H2_ := (Option.bind_some _ _).symm.trans H; with_reducible exact H2_) | with_reducible exact H | (rw [hy588]; exact H) | exact H
                              have Ny588 := Aside0.mk hy588
                              clear hy588
                              have H' := Aside0.mk H
                              clear H
                              have p584 : 0 ≤ (x40_2 : Int) := of_decide_eq_true (by first | (with_reducible assumption) | assumption)
                              have q584 : x40_2 < (t577.length : Int) := of_decide_eq_true (by first | (with_reducible assumption) | assumption)
                              obtain ⟨ad584, e584, hx584_0⟩ := Kd.at_int (Kd.R_reads' HO_38.out).2.2 x40_2 p584 q584
                              cases e584
                              replace p584 := eq_true p584
                              replace q584 := eq_true q584
                              go_wp2_with (first | ((with_reducible refine gate_dst (N := 56) rfl ?_); refine Kd.R_lit (Kd.int .u8) _ 5 ?hg (N := 56) ?hd (xs := ([((rd t577 x40_2) / 16777216) % 256, ((rd t577 x40_2) / 65536) % 256, ((rd t577 x40_2) / 256) % 256, (rd t577 x40_2) % 256] : List Int)) (inner := [.int .u8 (((rd t577 x40_2) / 16777216) % 256), .int .u8 (((rd t577 x40_2) / 65536) % 256), .int .u8 (((rd t577 x40_2) / 256) % 256), .int .u8 ((rd t577 x40_2) % 256)]) (ok := fun _ => True) (okp := fun _ => True) ?hr ?hp (fun _ hk => hk) trivial (Below.refl _ _) (Nat.le_refl _) (by simp) ?_; (case hd => rfl); (case hg => rfl); (case hr => first | (go_simp; done) | (go_simp; rfl)); (case hp => exact (Reps.one (show Kd.M (Kd.int .u8) _ _ _ (((rd t577 x40_2) / 16777216) % 256) [.int .u8 (((rd t577 x40_2) / 16777216) % 256)] from rfl) (Reps.one (show Kd.M (Kd.int .u8) _ _ _ (((rd t577 x40_2) / 65536) % 256) [.int .u8 (((rd t577 x40_2) / 65536) % 256)] from rfl) (Reps.one (show Kd.M (Kd.int .u8) _ _ _ (((rd t577 x40_2) / 256) % 256) [.int .u8 (((rd t577 x40_2) / 256) % 256)] from rfl) (Reps.one (show Kd.M (Kd.int .u8) _ _ _ ((rd t577 x40_2) % 256) [.int .u8 ((rd t577 x40_2) % 256)] from rfl) (Reps.none _ _)))))); intro v586 w34 ho35 hb hg_ hnew_; clear hg_ hnew_; (first | rw [← Ny585.out] at ho35 | (simp only [Int.reduceToNat] at ho35; rw [← Ny585.out] at ho35)); have n0_ := Aside0.mk (Kd.R_elder' (by (with_reducible repeat (first | apply Kd.R_alloc | apply Kd.R_drewN | apply Kd.R_drew)); exact HO_5.out) (Kd.R_base ho35) hb); have n1_ := Aside0.mk (Kd.R_below (by (with_reducible repeat (first | apply Kd.R_alloc | apply Kd.R_drewN | apply Kd.R_drew)); exact HO_38.out) hb); have n2_ := Aside0.mk (Kd.R_lower (Kd.R_new' ho35 (Kd.R_lt (by (with_reducible repeat (first | apply Kd.R_alloc | apply Kd.R_drewN | apply Kd.R_drew)); exact HO_5.out))) (below_size (by repeat (first | (with_reducible first | exact HB.out | apply below_alloc | apply pw_below_drewN | apply below_drew1 | refine below_set ?_ GE568.out) | exact HB.out)))); have n3_ := Aside0.mk (blk_below (g := gb568) (o := .cells #[.slice A0_0 l0_0.length c0_0, .slice A0_1 l0_1.length c0_1, .int .u64 a0_2] 95 (0, 0)) (by (with_reducible repeat (first | refine blk_drewN ?_ _ | refine blk_drew ?_ | refine blk_alloc ?_ _)); exact BK568.out) hb); have n4_ := Aside0.mk (below_step (by repeat (first | (with_reducible first | exact HB.out | apply below_alloc | apply pw_below_drewN | apply below_drew1 | refine below_set ?_ GE568.out) | exact HB.out)) hb); clear HO_5; clear HO_38; clear BK568; clear HB; have HO_5 := n0_; have HO_38 := n1_; have HO587 := n2_; have BK568 := n3_; have HB := n4_; clear n0_ n1_ n2_ n3_ n4_; clear hb ho35; obtain ⟨Ao37, co37, eo37⟩ := Kd.R_slice HO587.out; subst eo37) | ((with_reducible refine gate_builtin (b := .append) (xs := #[.tmp 44, .tmp 56]) rfl ?_); at_builtin; refine Kd.R_append_rows (Kd.int .u8) (w0 := w) w.heap.size rfl (.tmp 44) (.tmp 56) 22 5 (.int .u8 0) 1 rfl Tryd.underlying22 info5 rfl (by decide) (by omega) u5 x5_2 y585 _ _ _ (fun k_ => some k_ ≠ (.slice Ao37 y585.length co37 : Value).ownBlock) (fun _ => False) rfl rfl ?aO ?aR (fun _ _ h => h) (fun _ h => h.elim) ?aF ?aB ?aS ?aL ?_; (case aR => repeat (first | exact (Kd.R_reads' HO587.out).2.2 | (with_reducible refine Kd.C_alloc ?_ _) | (with_reducible refine Kd.C_drewN ?_ _) | (with_reducible refine Kd.C_drew ?_))); (case aB => exact (by repeat (first | (with_reducible first | exact HB.out | apply below_alloc | apply pw_below_drewN | apply below_drew1 | refine below_set ?_ GE568.out) | exact HB.out))); (case aF => exact (fun k_ hk => Kd.fresh' (Kd.R_lt (by (with_reducible repeat (first | apply Kd.R_alloc | apply Kd.R_drewN | apply Kd.R_drew)); exact HO587.out)) k_ hk)); (case aO => exact (by (with_reducible repeat (first | apply Kd.R_alloc | apply Kd.R_drewN | apply Kd.R_drew)); exact Kd.R_mono HO_5.out (fun _ hk => hk.2))); (case aS => exact (below_size (by repeat (first | (with_reducible first | exact HB.out | apply below_alloc | apply pw_below_drewN | apply below_drew1 | refine below_set ?_ GE568.out) | exact HB.out)))); (case aL => have := LMc33.out; omega); intro v589 w36 ho hb hg hat; rw [← Ny588.out] at ho; have n0_ := Aside0.mk (Kd.R_over' (by (with_reducible repeat (first | apply Kd.R_alloc | apply Kd.R_drewN | apply Kd.R_drew)); exact HO_38.out) (Kd.R_typed (by (with_reducible repeat (first | apply Kd.R_alloc | apply Kd.R_drewN | apply Kd.R_drew)); exact HO_5.out)) (by decide) hg); have n1_ := Aside0.mk (blk_grown (g := gb568) (o := .cells #[.slice A0_0 l0_0.length c0_0, .slice A0_1 l0_1.length c0_1, .int .u64 a0_2] 95 (0, 0)) (by (with_reducible repeat (first | refine blk_drewN ?_ _ | refine blk_drew ?_ | refine blk_alloc ?_ _)); exact BK568.out) hg (Kd.R_ne HO_5.out BK568.out (by decide))); have n2_ := Aside0.mk (Kd.R_after (ok := (fun _ => True)) (by (with_reducible repeat (first | apply Kd.R_alloc | apply Kd.R_drewN | apply Kd.R_drew)); exact HO587.out) hg hat); have n3_ := Aside0.mk (hb); have n4_ := Aside0.mk (ho); clear HO_38; clear BK568; clear HO587; clear HB; clear HO_5; have HO_38 := n0_; have BK568 := n1_; have HO587 := n2_; have HB := n3_; have HO590 := n4_; clear n0_ n1_ n2_ n3_ n4_; clear ho hb hg hat))
                              go_roundg k2
                              case measure => have := HK1.out; have := HK2.out; omega
                              case rel => exact ⟨(y588), (wrap64 (x40_2 + 1)), (by first | rfl | (simp; done) | (simp [*]; done)), H', ⟨by have := HK1.out; have := HK2.out; omega⟩, ⟨by (with_reducible repeat (first | apply Kd.R_alloc | apply Kd.R_drewN | apply Kd.R_drew)); exact Kd.R_mono HO590.out (fun _ hk => trivial)⟩, ⟨by (with_reducible repeat (first | apply Kd.R_alloc | apply Kd.R_drewN | apply Kd.R_drew)); exact HO_38.out⟩, ⟨by (with_reducible repeat (first | refine blk_drewN ?_ _ | refine blk_drew ?_ | refine blk_alloc ?_ _)); exact BK568.out⟩, ⟨by repeat (first | (with_reducible first | exact HB.out | apply below_alloc | apply pw_below_drewN | apply below_drew1 | refine below_set ?_ GE568.out) | exact HB.out)⟩⟩
                            · rw [if_neg c33] at H
                              exact absurd H (by simp)
                          · rw [if_neg c32] at H
                            exact absurd H (by simp)
                        · rw [if_neg c31] at H
                          exact absurd H (by simp)
                      · rw [if_neg c30] at H
                        have c30b0 : decide (x40_2 < (t577.length : Int)) = false := decide_eq_false c30
                        clear c30
                        obtain rfl := Option.some.inj H
                        go_wp2
                        go_ret
                        exact ⟨_, by first | rfl | (simp [errW_none, errW_some] <;> rfl) | (simp only [← hji4]; first | rfl | (simp [errW_none, errW_some] <;> rfl)) | (simp [*, errW_none, errW_some] <;> rfl), by (with_reducible repeat (first | apply Kd.R_alloc | apply Kd.R_drewN | apply Kd.R_drew)); exact HO_5.out, by repeat (first | (with_reducible first | exact HB.out | apply below_alloc | apply pw_below_drewN | apply below_drew1 | refine below_set ?_ GE568.out) | exact HB.out)⟩
          · rw [if_neg c8] at H
            exact absurd H (by simp)
        · rw [if_neg c7] at H
          exact absurd H (by simp)
      · rw [if_neg c6] at H
        exact absurd H (by simp)
    · rw [if_neg c5] at H
      exact absurd H (by simp)
  · replace c3 := Bool.eq_false_iff.mpr c3
    subst c3
    have H1 : (some ([] : List Int)) = some r := by rw [if_neg (show ¬ (false = true) by decide)] at H; exact H
    clear H
    have H := H1
    clear H1
    obtain rfl := Option.some.inj H
    go_enter Tryd.func55, Tryd.ntmps55
    go_wp2_with (first | ((with_reducible refine gate_dst (N := 1) rfl ?_); refine box_event ?hg (N := 1) ?hd (cs := #[.slice A0_0 l0_0.length c0_0, .slice A0_1 l0_1.length c0_1, .int .u64 a0_2]) (t := 95) ?hr ?_; (case hd => rfl); (case hg => rfl); (case hr => first | (go_simp; done) | (go_simp; rfl)); intro gb568 hg w38 hbox hb; have n0_ := Aside0.mk (below_step (by repeat (first | (with_reducible first | exact HB.out | apply below_alloc | apply pw_below_drewN | apply below_drew1) | exact HB.out)) hb); have n1_ := Aside0.mk (hbox); have n2_ := Aside0.mk ((by rw [hg]; exact (below_size (by repeat (first | (with_reducible first | exact HB.out | apply below_alloc | apply pw_below_drewN | apply below_drew1) | exact HB.out))) : w.heap.size ≤ gb568)); have n3_ := Aside0.mk ((by rw [hg]; exact (below_size (by repeat (first | (with_reducible first | exact HB.out | apply below_alloc | apply pw_below_drewN | apply below_drew1) | exact HB.out))) : w.heap.size ≤ gb568)); clear HB; have HB := n0_; have BK568 := n1_; have GW568 := n2_; have GE568 := n3_; clear n0_ n1_ n2_ n3_; clear hb hbox hg; have hcz39_0 : w38.cell? ⟨gb568, 0, none⟩ = some (.slice A0_0 l0_0.length c0_0) := (blk_cell BK568.out 0).trans rfl; have hcz39_1 : w38.cell? ⟨gb568, 1, none⟩ = some (.slice A0_1 l0_1.length c0_1) := (blk_cell BK568.out 1).trans rfl; have hcz39_2 : w38.cell? ⟨gb568, 2, none⟩ = some (.int .u64 a0_2) := (blk_cell BK568.out 2).trans rfl; have hfz39_0 := blk_frozen BK568.out 0; have hfz39_1 := blk_frozen BK568.out 1; have hfz39_2 := blk_frozen BK568.out 2) | ((with_reducible refine gate_callee (f := 89) rfl ?_); refine goesL_ (some 9) rfl rfl Tryd.func89 (by kernel_rfl) rfl #[.agg #[.slice A0_0 l0_0.length c0_0, .slice A0_1 l0_1.length c0_1, .int .u64 a0_2]] rfl (by (try simp only [List.map_toArray, List.map_cons, List.map_nil]); first | done | rfl | (simp only [List.length_drop, List.length_take]; rfl)) ?_; (with_reducible refine (sha_Check.calls _ _ l0_0 _ _ l0_1 a0_2 false _ ?side1 ?side2 ?side3 ?side4 A2.out).mono ?_); (case side1 => repeat (first | exact (Kd.C_below HR0_0.out HB.out) | (with_reducible refine Kd.C_alloc ?_ _) | (with_reducible refine Kd.C_drewN ?_ _) | (with_reducible refine Kd.C_drew ?_))); (case side2 => exact HC0_0.out); (case side3 => repeat (first | exact (Kd.C_below HR0_1.out HB.out) | (with_reducible refine Kd.C_alloc ?_ _) | (with_reducible refine Kd.C_drewN ?_ _) | (with_reducible refine Kd.C_drew ?_))); (case side4 => exact HC0_1.out); rintro e w40 ⟨rfl, hb⟩; refine ⟨_, rfl, ?_⟩; have n0_ := Aside0.mk (blk_below (g := gb568) (o := .cells #[.slice A0_0 l0_0.length c0_0, .slice A0_1 l0_1.length c0_1, .int .u64 a0_2] 95 (0, 0)) (by (with_reducible repeat (first | refine blk_drewN ?_ _ | refine blk_drew ?_ | refine blk_alloc ?_ _)); exact BK568.out) hb); have n1_ := Aside0.mk (below_step (by repeat (first | (with_reducible first | exact HB.out | apply below_alloc | apply pw_below_drewN | apply below_drew1 | refine below_set ?_ GE568.out) | exact HB.out)) hb); clear BK568; clear HB; have BK568 := n0_; have HB := n1_; clear n0_ n1_; (try clear hb); (try clear hb2); (try clear hk); (try clear hi)))
    go_ret
    exact ⟨_, by first | rfl | (simp [errW_none, errW_some] <;> rfl) | (simp [*, errW_none, errW_some] <;> rfl), by first | exact Kd.R_nil _ _ _ _ _ | exact Kd.N_nil _ _ _ _ _ | exact Kd.V_nil _ _ _ _ _ | exact Kd.Q_nil _ _ _ _ _ | exact Kd.S_nil _ _ _ _ _, by repeat (first | (with_reducible first | exact HB.out | apply below_alloc | apply pw_below_drewN | apply below_drew1 | refine below_set ?_ GE568.out) | exact HB.out)⟩
end Go.Proofs.YtbclnkhcnclfoaaDoor.Q
namespace Go.Proofs.YtbclnkhcnclfoaaDoor.Q
open Go.RowKit Go.Proofs.YtbclnkhcnclfoaaDoorW.PrintWords Go.Proofs.YtbclnkhcnclfoaaDoorW.PrintLast Go.Proofs.YtbclnkhcnclfoaaDoorW.PrintMore
attribute [local go_sem] max2_int min2_int max_two min_two max_three min_three max_four min_four   -- for this text's walks alone
set_option linter.unusedVariables false
set_option linter.unusedSimpArgs false
/-! ### sha_New: function 57 -/
def sha_New.l0 : Nat → List Int → Int → Int → List Int → Int → Option (List Int × List Int × Int)
  | 0, _, _, _, _, _ => none
  | k + 1, x4, x5, x6, x593000, x593002 => if x6 < x5 then (if 0 ≤ x6 then (if x6 < (x4.length : Int) then ((sha_root.f k (rd x4 x6) false).bind fun t597 => (if x593000.length < 35184372088832 then (sha_New.l0 k x4 x5 (wrap64 (x6 + 1)) (x593000 ++ [t597]) x593002) else (none))) else (none)) else (none)) else (some (x593000, ([] : List Int), x593002))
def sha_New.f (k : Nat)  : Option (List Int × List Int × Int) := (sha_primes.f k 8).bind fun t593 => (sha_New.l0 k t593 (t593.length : Int) 0 ([] : List Int) 0)
theorem sha_New.mono_l : ∀ k, (∀ y0 y1 y2 y3 y4, LeO (sha_New.l0 k y0 y1 y2 y3 y4) (sha_New.l0 (k + 1) y0 y1 y2 y3 y4))
  | 0 => fun _ _ _ _ _ r h => by simp [sha_New.l0] at h
  | k + 1 => by
    have ih0 := sha_New.mono_l k
    · intro y0 y1 y2 y3 y4
      unfold sha_New.l0
      repeat' first
      | (with_reducible exact ih0 _ _ _ _ _)
      | (with_reducible exact sha_primes.mono _ _)
      | (with_reducible exact sha_root.mono _ _ _)
      | (with_reducible exact LeO.refl _)
      | (with_reducible exact LeO.none _)
      | (with_reducible refine LeO.ite ?_ ?_)
      | (with_reducible refine LeO.bind ?_ (fun _ => ?_))
      | exact ih0 _ _ _ _ _
      | exact sha_primes.mono _ _
      | exact sha_root.mono _ _ _
      | exact LeO.none _
      | refine LeO.ite ?_ ?_
      | refine LeO.bind ?_ (fun _ => ?_)
theorem sha_New.mono : ∀ k, LeO (sha_New.f k ) (sha_New.f (k + 1) ) := by
  intro  k
  have ih0 := sha_New.mono_l k
  unfold sha_New.f
  repeat' first
      | (with_reducible exact ih0 _ _ _ _ _)
      | (with_reducible exact sha_primes.mono _ _)
      | (with_reducible exact sha_root.mono _ _ _)
      | (with_reducible exact LeO.refl _)
      | (with_reducible exact LeO.none _)
      | (with_reducible refine LeO.ite ?_ ?_)
      | (with_reducible refine LeO.bind ?_ (fun _ => ?_))
      | exact ih0 _ _ _ _ _
      | exact sha_primes.mono _ _
      | exact sha_root.mono _ _ _
      | exact LeO.none _
      | refine LeO.ite ?_ ?_
      | refine LeO.bind ?_ (fun _ => ?_)
def sha_New.T5 : Bool × List (List Nat × List Nat) := (true, [([], []), ([0], [0]), ([], []), ([2], [2]), ([3], [3]), ([1, 4, 3], [1, 4]), ([0, 1, 2, 3, 4, 5], []), ([6, 5, 5, 0, 1, 2, 3, 4, 5], [5, 6])])
def sha_New.B5 : List Nat := [0, 1, 0, 4, 12, 31, 63, 127]
theorem sha_New.tab5 : rtab .any (opsOf Tryd.f57 5) = sha_New.T5 := by kernel_rfl
theorem sha_New.bits5 : waitsOk sha_New.T5.2 sha_New.B5 = true := by kernel_rfl
set_option maxHeartbeats 8000000 in
set_option maxRecDepth 100000 in
theorem sha_New.calls (k : Nat)  (r1 : List Int) (r2 : List Int) (r3 : Int) (w : World) (h : sha_New.f k  = some (r1, r2, r3)) :
    Calls Tryd.prog 57 #[] w fun e w' => ∃ v0_ v1_ : Value, e = .returned (.agg #[v0_, v1_, .int .u64 r3]) ∧ Kd.R (Kd.int .u32) 121 w' w.heap.size (fun _ => True) v0_ r1 ∧ Kd.R (Kd.int .u8) 5 w' w.heap.size (fun _ => True) v1_ r2 ∧ Below w.heap.size w w' := by
  have hu95 := Tryd.underlying95
  have HB := Aside0.mk (Below.refl w.heap.size w)
  have H : ((sha_primes.f k 8).bind fun t593 => (sha_New.l0 k t593 (t593.length : Int) 0 ([] : List Int) 0)) = some (r1, r2, r3) := h
  clear h
  replace H := Option.bind_eq_some_iff.mp H
  obtain ⟨t593, A10, H⟩ := H
  replace H : (sha_New.l0 k t593 (t593.length : Int) 0 ([] : List Int) 0) = some (r1, r2, r3) := H
  have A1 := Aside0.mk A10
  clear A10
  have H' := Aside0.mk H
  clear H
  go_enter Tryd.func57, Tryd.ntmps57
  go_wp2_with (first | ((with_reducible refine gate_dst (N := 0) rfl ?_); refine box_event ?hg (N := 0) ?hd (cs := #[.slice none 0 0, .slice none 0 0, .int .u64 0]) (t := 95) ?hr ?_; (case hd => rfl); (case hg => rfl); (case hr => first | (go_simp; done) | (go_simp; rfl)); intro gb591 hg w2 hbox hb; have n0_ := Aside0.mk (below_step (by repeat (first | (with_reducible first | exact HB.out | apply below_alloc | apply pw_below_drewN | apply below_drew1) | exact HB.out)) hb); have n1_ := Aside0.mk (hbox); have n2_ := Aside0.mk ((by rw [hg]; exact (below_size (by repeat (first | (with_reducible first | exact HB.out | apply below_alloc | apply pw_below_drewN | apply below_drew1) | exact HB.out))) : w.heap.size ≤ gb591)); have n3_ := Aside0.mk ((by rw [hg]; exact (below_size (by repeat (first | (with_reducible first | exact HB.out | apply below_alloc | apply pw_below_drewN | apply below_drew1) | exact HB.out))) : w.heap.size ≤ gb591)); clear HB; have HB := n0_; have BK591 := n1_; have GW591 := n2_; have GE591 := n3_; clear n0_ n1_ n2_ n3_; clear hb hbox hg) | ((with_reducible refine gate_dst (N := 1) rfl ?_); refine box_event ?hg (N := 1) ?hd (cs := #[.slice none 0 0, .slice none 0 0, .int .u64 0]) (t := 95) ?hr ?_; (case hd => rfl); (case hg => rfl); (case hr => first | (go_simp; done) | (go_simp; rfl)); intro gb592 hg w3 hbox hb; have n0_ := Aside0.mk (blk_below (g := gb591) (o := .cells #[.slice none 0 0, .slice none 0 0, .int .u64 0] 95 (0, 0)) (by (with_reducible repeat (first | refine blk_drewN ?_ _ | refine blk_drew ?_ | refine blk_alloc ?_ _)); exact BK591.out) hb); have n1_ := Aside0.mk (below_step (by repeat (first | (with_reducible first | exact HB.out | apply below_alloc | apply pw_below_drewN | apply below_drew1 | refine below_set ?_ GE591.out) | exact HB.out)) hb); have n2_ := Aside0.mk (hbox); have n3_ := Aside0.mk ((by rw [hg]; exact (below_size (by repeat (first | (with_reducible first | exact HB.out | apply below_alloc | apply pw_below_drewN | apply below_drew1 | refine below_set ?_ GE591.out) | exact HB.out))) : w.heap.size ≤ gb592)); have n4_ := Aside0.mk ((by rw [hg]; exact (below_size (by repeat (first | (with_reducible first | exact HB.out | apply below_alloc | apply pw_below_drewN | apply below_drew1 | refine below_set ?_ GE591.out) | exact HB.out))) : w.heap.size ≤ gb592)); have n5_ := Aside0.mk ((by rw [hg]; exact Nat.ne_of_lt (blk_lt (g := gb591) (o := .cells #[.slice none 0 0, .slice none 0 0, .int .u64 0] 95 (0, 0)) (by (with_reducible repeat (first | refine blk_drewN ?_ _ | refine blk_drew ?_ | refine blk_alloc ?_ _)); exact BK591.out)) : gb591 ≠ gb592)); have n6_ := Aside0.mk ((by rw [hg]; exact Nat.ne_of_gt (blk_lt (g := gb591) (o := .cells #[.slice none 0 0, .slice none 0 0, .int .u64 0] 95 (0, 0)) (by (with_reducible repeat (first | refine blk_drewN ?_ _ | refine blk_drew ?_ | refine blk_alloc ?_ _)); exact BK591.out)) : gb592 ≠ gb591)); clear BK591; clear HB; have BK591 := n0_; have HB := n1_; have BK592 := n2_; have GW592 := n3_; have GE592 := n4_; have NB591_592 := n5_; have NB592_591 := n6_; clear n0_ n1_ n2_ n3_ n4_ n5_ n6_; clear hb hbox hg) | ((with_reducible refine gate_callee (f := 93) rfl ?_); refine goesL_ (some 4) rfl rfl Tryd.func93 (by kernel_rfl) rfl #[.int .i64 8] rfl (by (try simp only [List.map_toArray, List.map_cons, List.map_nil]); first | done | rfl | (simp only [List.length_drop, List.length_take]; rfl)) ?_; (with_reducible refine (sha_primes.calls k 8 t593 _ A1.out).mono ?_); rintro e w4 ⟨v594, rfl, ho0, hb⟩; refine ⟨_, rfl, ?_⟩; have n0_ := Aside0.mk (Kd.R_lower ho0 (below_size (by repeat (first | (with_reducible first | exact HB.out | apply below_alloc | apply pw_below_drewN | apply below_drew1 | refine below_set ?_ GE591.out | refine below_set ?_ GE592.out) | exact HB.out)))); have n1_ := Aside0.mk (blk_below (g := gb591) (o := .cells #[.slice none 0 0, .slice none 0 0, .int .u64 0] 95 (0, 0)) (by (with_reducible repeat (first | refine blk_drewN ?_ _ | refine blk_drew ?_ | refine blk_alloc ?_ _)); exact BK591.out) hb); have n2_ := Aside0.mk (blk_below (g := gb592) (o := .cells #[.slice none 0 0, .slice none 0 0, .int .u64 0] 95 (0, 0)) (by (with_reducible repeat (first | refine blk_drewN ?_ _ | refine blk_drew ?_ | refine blk_alloc ?_ _)); exact BK592.out) hb); have n3_ := Aside0.mk (below_step (by repeat (first | (with_reducible first | exact HB.out | apply below_alloc | apply pw_below_drewN | apply below_drew1 | refine below_set ?_ GE591.out | refine below_set ?_ GE592.out) | exact HB.out)) hb); clear BK591; clear BK592; clear HB; have HO595 := n0_; have BK591 := n1_; have BK592 := n2_; have HB := n3_; clear n0_ n1_ n2_ n3_; (try clear hb); (try clear hb2); (try clear hk); (try clear hi); (try clear ho0); obtain ⟨Ao5, co5, eo5⟩ := Kd.R_slice HO595.out; subst eo5))
  go_loopg [6] k (fun kq v6 w' => ∃ (x6_1 : Int) (x593000_1 : List Int) (u593000 : Value), v6 = .int .i64 x6_1 ∧ Aside0 (sha_New.l0 kq t593 (t593.length : Int) x6_1 x593000_1 0 = some (r1, r2, r3)) ∧ Aside0 (kq ≤ k) ∧ Aside0 (Kd.R (Kd.int .u64) 84 w' w.heap.size (fun _ => True) (.slice Ao5 t593.length co5) t593) ∧ Aside0 (Kd.R (Kd.int .u32) 121 w' w.heap.size (fun _ => True) u593000 x593000_1) ∧ Aside0 (w'.heap[gb591]? = some (.cells #[(.slice none 0 0), (.slice none 0 0), .int .u64 0] 95 (0, 0))) ∧ Aside0 (w'.heap[gb592]? = some (.cells #[u593000, (.slice none 0 0), .int .u64 0] 95 (0, 0))) ∧ Aside0 (Below w.heap.size w w'))
  case atStart => exact ⟨(0), (([] : List Int)), (.slice none 0 0), (by first | rfl | (simp; done) | (simp [*]; done)), H', ⟨Nat.le_refl _⟩, ⟨by (with_reducible repeat (first | apply Kd.R_alloc | apply Kd.R_drewN | apply Kd.R_drew)); exact HO595.out⟩, ⟨by first | exact Kd.R_nil _ _ _ _ _ | exact Kd.N_nil _ _ _ _ _ | exact Kd.V_nil _ _ _ _ _ | exact Kd.Q_nil _ _ _ _ _ | exact Kd.S_nil _ _ _ _ _⟩, ⟨by (with_reducible repeat (first | refine blk_drewN ?_ _ | refine blk_drew ?_ | refine blk_alloc ?_ _)); exact BK591.out⟩, ⟨by (with_reducible repeat (first | refine blk_drewN ?_ _ | refine blk_drew ?_ | refine blk_alloc ?_ _)); exact BK592.out⟩, ⟨by repeat (first | (with_reducible first | exact HB.out | apply below_alloc | apply pw_below_drewN | apply below_drew1 | refine below_set ?_ GE591.out | refine below_set ?_ GE592.out) | exact HB.out)⟩⟩
  case round =>
    clear H'
    try clear p2
    try clear c5
    obtain ⟨x6_1, x593000_1, u593000, rfl, HA, HK1, HO_4, HO_593000, BK591, BK592, HB⟩ := hrel
    cases gk with
    | zero => exact absurd HA.out (by simp [sha_New.l0])
    | succ k1 =>
      have H := HA.out
      clear HA
      simp only [sha_New.l0] at H
      by_cases c6 : x6_1 < (t593.length : Int)
      · rw [if_pos c6] at H
        have c6b0 : decide (x6_1 < (t593.length : Int)) = true := decide_eq_true c6
        clear c6
        by_cases c7 : 0 ≤ x6_1
        · rw [if_pos c7] at H
          have c7b0 : decide (0 ≤ x6_1) = true := decide_eq_true c7
          clear c7
          by_cases c8 : x6_1 < (t593.length : Int)
          · rw [if_pos c8] at H
            have c8b0 : decide (x6_1 < (t593.length : Int)) = true := decide_eq_true c8
            clear c8
            replace H := Option.bind_eq_some_iff.mp H
            obtain ⟨t597, A90, H⟩ := H
            replace H : (if x593000_1.length < 35184372088832 then (sha_New.l0 k1 t593 (t593.length : Int) (wrap64 (x6_1 + 1)) (x593000_1 ++ [t597]) 0) else (none)) = some (r1, r2, r3) := H
            have A9 := Aside0.mk A90
            clear A90
            by_cases c10 : x593000_1.length < 35184372088832
            · rw [if_pos c10] at H
              have LMc10 := Aside0.mk c10
              clear c10
              obtain ⟨y598, hy598⟩ : ∃ y_ : List Int, y_ = (x593000_1 ++ [t597]) := ⟨_, rfl⟩
              replace H : (sha_New.l0 k1 t593 (t593.length : Int) (wrap64 (x6_1 + 1)) y598 0) = some (r1, r2, r3) := by first | (rw [hy598]; with_reducible exact H) | (have H2_ := (Option.bind_some _ _).symm.trans H; rw [hy598]; with_reducible exact H2_) | (have H2_ := (Option.bind_some _ _).symm.trans H; with_reducible exact H2_) | with_reducible exact H | (rw [hy598]; exact H) | exact H
              have Ny598 := Aside0.mk hy598
              clear hy598
              have H' := Aside0.mk H
              clear H
              have p596 : 0 ≤ (x6_1 : Int) := of_decide_eq_true (by first | (with_reducible assumption) | assumption)
              have q596 : x6_1 < (t593.length : Int) := of_decide_eq_true (by first | (with_reducible assumption) | assumption)
              obtain ⟨ad596, e596, hx596_0⟩ := Kd.at_int (Kd.R_reads' HO_4.out).2.2 x6_1 p596 q596
              cases e596
              replace p596 := eq_true p596
              replace q596 := eq_true q596
              try go_wp2
              have n0_ := Aside0.mk (Kd.R_drew HO_4.out)
              have n1_ := Aside0.mk (Kd.R_drew HO_593000.out)
              have n2_ := Aside0.mk (blk_drew BK591.out)
              have n3_ := Aside0.mk (blk_drew BK592.out)
              have n4_ := Aside0.mk (below_drew1 HB.out)
              clear HO_4
              clear HO_593000
              clear BK591
              clear BK592
              clear HB
              have HO_4 := n0_
              have HO_593000 := n1_
              have BK591 := n2_
              have BK592 := n3_
              have HB := n4_
              clear n0_ n1_ n2_ n3_ n4_
              refine start_ (n := 8) (S := fun w' => w'.cell? ⟨gb592, 0, none⟩ = some (u593000) ∧ w'.cell? ⟨gb592, 1, none⟩ = some (.slice none 0 0) ∧ w'.cell? ⟨gb592, 2, none⟩ = some (.int .u64 0)) (ds := [7]) #[false, false, false, false, false, false, false, false] (by kernel_rfl) rfl rfl ⟨(blk_cell BK592.out 0).trans rfl, (blk_cell BK592.out 1).trans rfl, (blk_cell BK592.out 2).trans rfl⟩ (fun hHeld => ?_); refine with_tabW sha_New.tab5 sha_New.bits5 (fun HT_ HW_ => ?_)
              generalize wr.drew = w11 at HO_4 HO_593000 BK591 BK592 HB hHeld ⊢
              refine pure_ (i := 0) (N := some 10) (v := ?_) (a' := ?_) #[true, false, false, false, false, false, false, false] rfl rfl (any_of HT_.out (by kernel_rfl)) (fun _ _ _ h => h) (Or.inl ⟨by rfl, ?_⟩) ?_ ?_
              rotate_left
              · intro w'
                go_simp
                with_reducible rfl
              rotate_left
              · simp only [Act.put, List.setIfInBounds_toArray, List.set_cons_zero, List.set_cons_succ, i64_w, i32_w]
                rfl
              refine pure_ (i := 2) (N := some 12) (v := ?_) (a' := ?_) #[true, false, true, false, false, false, false, false] rfl rfl (any_of HT_.out (by kernel_rfl)) (fun _ _ _ h => h) (Or.inl ⟨by rfl, ?_⟩) ?_ ?_
              rotate_left
              · intro w'
                go_simp
                with_reducible rfl
              rotate_left
              · simp only [Act.put, List.setIfInBounds_toArray, List.set_cons_zero, List.set_cons_succ, i64_w, i32_w]
                rfl
              refine take_ (i := 1) (N := some 11) (v := ?_) (a' := ?_) #[true, true, true, false, false, false, false, false] rfl rfl (take_ofW HT_.out HW_.out (by kernel_rfl)) (fun _ _ _ h => h) (Or.inl ⟨by rfl, ?_⟩) hHeld ?_ ?_
              rotate_left
              · rintro w' ⟨s0, s1, s2⟩
                go_simp
                with_reducible rfl
              rotate_left
              · simp only [Act.put, List.setIfInBounds_toArray, List.set_cons_zero, List.set_cons_succ, i64_w, i32_w]
                rfl
              refine one_ (i := 3) (N := some 13) #[true, true, true, true, false, false, false, false] rfl rfl (one_of HT_.out (by kernel_rfl)) (by decide) (fun K hK => ?_)
              refine goes_ Tryd.func94 (by kernel_rfl) rfl #[.int .u64 (rd t593 x6_1), .bool false] (by rfl) rfl rfl (by (try simp only [List.map_toArray, List.map_cons, List.map_nil]); first | done | rfl | (simp only [List.length_drop, List.length_take]; rfl)) ?_
              with_reducible refine (sha_root.calls k1 (rd t593 x6_1) false t597 _ A9.out).mono ?_
              rintro e w' ⟨rfl, ⟨nd, rfl⟩⟩
              refine ⟨_, rfl, ?_⟩
              refine hK.out _ _ ⟨(blk_cell BK592.out 0).trans rfl, (blk_cell BK592.out 1).trans rfl, (blk_cell BK592.out 2).trans rfl⟩ (fun hHeld => ?_)
              clear hK K
              refine norm_ (a' := ?_) ?_ ?_
              rotate_left
              · show Act.put _ (some 13) _ = _
                simp only [Act.put, List.setIfInBounds_toArray, List.set_cons_zero, List.set_cons_succ, i64_w, i32_w]
                rfl
              refine one_ (i := 4) (N := some 14) #[true, true, true, true, true, false, false, false] rfl rfl (one_of HT_.out (by kernel_rfl)) (by decide) (fun K hK => ?_)
              refine value_ (w1 := ?_) (v := ?_) (by rfl) rfl ?_ ?_
              rotate_left 2
              · go_simp
                constructor
                · rfl
                · rfl
              refine hK.out _ _ ⟨(blk_cell (blk_alloc BK592.out _) 0).trans rfl, (blk_cell (blk_alloc BK592.out _) 1).trans rfl, (blk_cell (blk_alloc BK592.out _) 2).trans rfl⟩ (fun hHeld => ?_)
              clear hK K
              refine norm_ (a' := ?_) ?_ ?_
              rotate_left
              · show Act.put _ (some 14) _ = _
                simp only [Act.put, List.setIfInBounds_toArray, List.set_cons_zero, List.set_cons_succ, i64_w, i32_w]
                rfl
              refine one_ (i := 5) (N := some 15) #[true, true, true, true, true, true, false, false] rfl rfl (one_of HT_.out (by kernel_rfl)) (by decide) (fun K hK => ?_)
              refine Kd.R_append_step (Kd.int .u32) (w0 := w) w.heap.size (by rfl) (.tmp 11) (.tmp 14) 93 121 (.int .u32 0) 4 rfl Tryd.underlying93 info121 rfl (by decide) (by omega) u593000 x593000_1 t597 [.int .u32 t597] (fun _ => True) (fun _ => False) rfl rfl ?aP (fun _ hk => hk.elim) ?aF ?aO ?aB ?aS ?aL ?_
              (case aP => exact rfl)
              (case aB => exact (by repeat (first | (with_reducible first | exact HB.out | apply below_alloc | apply pw_below_drewN | apply below_drew1 | refine below_set ?_ GE591.out | refine below_set ?_ GE592.out) | exact HB.out)))
              (case aF => exact (fun _ _ => trivial))
              (case aO => exact (by (with_reducible repeat (first | apply Kd.R_alloc | apply Kd.R_drewN | apply Kd.R_drew)); exact HO_593000.out))
              (case aS => exact (below_size (by repeat (first | (with_reducible first | exact HB.out | apply below_alloc | apply pw_below_drewN | apply below_drew1 | refine below_set ?_ GE591.out | refine below_set ?_ GE592.out) | exact HB.out))))
              (case aL => have := LMc10.out; omega)
              intro v599 w12 ho hb hg hat
              rw [← Ny598.out] at ho
              have n0_ := Aside0.mk (Kd.R_over' (by (with_reducible repeat (first | apply Kd.R_alloc | apply Kd.R_drewN | apply Kd.R_drew)); exact HO_4.out) (Kd.R_typed (by (with_reducible repeat (first | apply Kd.R_alloc | apply Kd.R_drewN | apply Kd.R_drew)); exact HO_593000.out)) (by decide) hg)
              have n1_ := Aside0.mk (blk_grown (g := gb591) (o := .cells #[.slice none 0 0, .slice none 0 0, .int .u64 0] 95 (0, 0)) (by (with_reducible repeat (first | refine blk_drewN ?_ _ | refine blk_drew ?_ | refine blk_alloc ?_ _)); exact BK591.out) hg (Kd.R_ne HO_593000.out BK591.out (by decide)))
              have n2_ := Aside0.mk (blk_grown (g := gb592) (o := .cells #[u593000, .slice none 0 0, .int .u64 0] 95 (0, 0)) (by (with_reducible repeat (first | refine blk_drewN ?_ _ | refine blk_drew ?_ | refine blk_alloc ?_ _)); exact BK592.out) hg (Kd.R_ne HO_593000.out BK592.out (by decide)))
              have n3_ := Aside0.mk (hb)
              have n4_ := Aside0.mk (ho)
              clear HO_4
              clear BK591
              clear BK592
              clear HB
              clear HO_593000
              have HO_4 := n0_
              have BK591 := n1_
              have BK592 := n2_
              have HB := n3_
              have HO600 := n4_
              clear n0_ n1_ n2_ n3_ n4_
              clear ho hb hg hat
              obtain ⟨Ao13, co13, eo13⟩ := Kd.R_slice HO600.out
              (first | subst eo13 | (injection eo13 with f1_ f2_ f3_; have f4_ := f1_.symm; have f5_ := f3_.symm; clear f1_ f2_ f3_; subst f4_; subst f5_))
              refine hK.out _ _ ⟨(blk_cell BK592.out 0).trans rfl, (blk_cell BK592.out 1).trans rfl, (blk_cell BK592.out 2).trans rfl⟩ (fun hHeld => ?_)
              clear hK K
              refine norm_ (a' := ?_) ?_ ?_
              rotate_left
              · show Act.put _ (some 15) _ = _
                simp only [Act.put, List.setIfInBounds_toArray, List.set_cons_zero, List.set_cons_succ, i64_w, i32_w]
                rfl
              refine pure_ (i := 6) (N := some 16) (v := ?_) (a' := ?_) #[true, true, true, true, true, true, true, false] rfl rfl (any_of HT_.out (by kernel_rfl)) (fun _ _ _ h => h) (Or.inl ⟨by rfl, ?_⟩) ?_ ?_
              rotate_left
              · intro w'
                go_simp
                with_reducible rfl
              rotate_left
              · simp only [Act.put, List.setIfInBounds_toArray, List.set_cons_zero, List.set_cons_succ, i64_w, i32_w]
                rfl
              refine last_ (i := 7) (N := none) #[true, true, true, true, true, true, true, true] rfl rfl (one_of HT_.out (by kernel_rfl)) (by decide) (fun K hK => ?_)
              have hs14 : w12.cell? ⟨gb592, 0, none⟩ = some (u593000) := (blk_cell BK592.out 0).trans rfl
              have hfs14 := blk_frozen BK592.out 0
              have hns14_0 := NB591_592.out
              have hms14_0 := NB592_591.out
              refine skip_ (w1 := ?_) (by rfl) rfl ?_ ?_
              rotate_left
              · go_simp
                rfl
              refine hK.out _ _ ?_
              clear hK K
              refine done_ (done_of HT_.out (by kernel_rfl)) ?_
              try go_wp2
              go_roundg k1
              case measure => have := HK1.out; omega
              case rel => exact ⟨(wrap64 (x6_1 + 1)), (y598), (.slice Ao13 y598.length co13), (by first | rfl | (simp; done) | (simp [*]; done)), H', ⟨by have := HK1.out; omega⟩, ⟨by (with_reducible repeat (first | apply Kd.R_alloc | apply Kd.R_drewN | apply Kd.R_drew)); exact Kd.R_mono (Kd.R_far (p := ⟨gb592, 0, none⟩) (Kd.R_types HO_4.out BK592.out (by decide)) (fun _ hk => hk.2) (.slice Ao13 y598.length co13)) (fun _ hk => trivial)⟩, ⟨by (with_reducible repeat (first | apply Kd.R_alloc | apply Kd.R_drewN | apply Kd.R_drew)); exact Kd.R_mono (Kd.R_far (p := ⟨gb592, 0, none⟩) (Kd.R_types HO600.out BK592.out (by decide)) (fun _ hk => hk.2) (.slice Ao13 y598.length co13)) (fun _ hk => trivial)⟩, ⟨by (with_reducible repeat (first | refine blk_drewN ?_ _ | refine blk_drew ?_ | refine blk_alloc ?_ _)); refine blk_far ?_ NB591_592.out _; (with_reducible repeat (first | refine blk_drewN ?_ _ | refine blk_drew ?_ | refine blk_alloc ?_ _)); exact BK591.out⟩, ⟨by (with_reducible repeat (first | refine blk_drewN ?_ _ | refine blk_drew ?_ | refine blk_alloc ?_ _)); refine blk_put (cs := #[u593000, .slice none 0 0, .int .u64 0]) ?_ 0 _ rfl; (with_reducible repeat (first | refine blk_drewN ?_ _ | refine blk_drew ?_ | refine blk_alloc ?_ _)); exact BK592.out⟩, ⟨by repeat (first | (with_reducible first | exact HB.out | apply below_alloc | apply pw_below_drewN | apply below_drew1 | refine below_set ?_ GE591.out | refine below_set ?_ GE592.out) | exact HB.out)⟩⟩
            · rw [if_neg c10] at H
              exact absurd H (by simp)
          · rw [if_neg c8] at H
            exact absurd H (by simp)
        · rw [if_neg c7] at H
          exact absurd H (by simp)
      · rw [if_neg c6] at H
        have c6b0 : decide (x6_1 < (t593.length : Int)) = false := decide_eq_false c6
        clear c6
        simp only [Option.some.injEq, Prod.mk.injEq] at H
        obtain ⟨rfl, rfl, rfl⟩ := H
        have hnb15 := NB592_591.out
        have hnc15 := NB591_592.out
        have hcz16_0 : wr.cell? ⟨gb592, 0, none⟩ = some (u593000) := (blk_cell BK592.out 0).trans rfl
        have hcz16_1 : wr.cell? ⟨gb592, 1, none⟩ = some (.slice none 0 0) := (blk_cell BK592.out 1).trans rfl
        have hcz16_2 : wr.cell? ⟨gb592, 2, none⟩ = some (.int .u64 0) := (blk_cell BK592.out 2).trans rfl
        have hfz16_0 := blk_frozen BK592.out 0
        have hfz16_1 := blk_frozen BK592.out 1
        have hfz16_2 := blk_frozen BK592.out 2
        obtain ⟨Ao17, co17, eo17⟩ := Kd.R_slice HO_593000.out
        subst eo17
        have hcz18_0 : wr.cell? ⟨gb591, 0, none⟩ = some (.slice none 0 0) := (blk_cell BK591.out 0).trans rfl
        have hcz18_1 : wr.cell? ⟨gb591, 1, none⟩ = some (.slice none 0 0) := (blk_cell BK591.out 1).trans rfl
        have hcz18_2 : wr.cell? ⟨gb591, 2, none⟩ = some (.int .u64 0) := (blk_cell BK591.out 2).trans rfl
        have hfz18_0 := blk_frozen BK591.out 0
        have hfz18_1 := blk_frozen BK591.out 1
        have hfz18_2 := blk_frozen BK591.out 2
        go_wp2
        refine bodyPost_ret (results_cell_row rfl _ _ gb591 95 #[.slice Ao17 x593000_1.length co17, .slice none 0 0, .int .u64 0] (0, 0) _ rfl (by (with_reducible repeat (first | refine blk_drewN ?_ _ | refine blk_drew ?_ | refine blk_alloc ?_ _)); refine blk_put (cs := #[.slice Ao17 x593000_1.length co17, .slice none 0 0, .int .u64 0]) ?_ 2 _ rfl; (with_reducible repeat (first | refine blk_drewN ?_ _ | refine blk_drew ?_ | refine blk_alloc ?_ _)); refine blk_put (cs := #[.slice Ao17 x593000_1.length co17, .slice none 0 0, .int .u64 0]) ?_ 1 _ rfl; (with_reducible repeat (first | refine blk_drewN ?_ _ | refine blk_drew ?_ | refine blk_alloc ?_ _)); refine blk_put (cs := #[.slice none 0 0, .slice none 0 0, .int .u64 0]) ?_ 0 _ rfl; (with_reducible repeat (first | refine blk_drewN ?_ _ | refine blk_drew ?_ | refine blk_alloc ?_ _)); exact BK591.out) Tryd.underlying95 rfl (by kernel_rfl)) rfl ?_
        exact ⟨_, _, by first | rfl | (simp [errW_none, errW_some] <;> rfl) | (simp [*, errW_none, errW_some] <;> rfl), by (with_reducible repeat (first | apply Kd.R_alloc | apply Kd.R_drewN | apply Kd.R_drew)); exact Kd.R_mono (Kd.R_far (p := ⟨gb591, 2, none⟩) (Kd.R_far (p := ⟨gb591, 1, none⟩) (Kd.R_far (p := ⟨gb591, 0, none⟩) (Kd.R_types HO_593000.out BK591.out (by decide)) (fun _ hk => hk.2) (.slice Ao17 x593000_1.length co17)) (fun _ hk => hk.2) (.slice none 0 0)) (fun _ hk => hk.2) (.int .u64 0)) (fun _ hk => trivial), by first | exact Kd.R_nil _ _ _ _ _ | exact Kd.N_nil _ _ _ _ _ | exact Kd.V_nil _ _ _ _ _ | exact Kd.Q_nil _ _ _ _ _ | exact Kd.S_nil _ _ _ _ _, by repeat (first | (with_reducible first | exact HB.out | apply below_alloc | apply pw_below_drewN | apply below_drew1 | refine below_set ?_ GE591.out | refine below_set ?_ GE592.out) | exact HB.out)⟩
end Go.Proofs.YtbclnkhcnclfoaaDoor.Q
namespace Go.Proofs.YtbclnkhcnclfoaaDoor.Q
open Go.RowKit Go.Proofs.YtbclnkhcnclfoaaDoorW.PrintWords Go.Proofs.YtbclnkhcnclfoaaDoorW.PrintLast Go.Proofs.YtbclnkhcnclfoaaDoorW.PrintMore
attribute [local go_sem] max2_int min2_int max_two min_two max_three min_three max_four min_four   -- for this text's walks alone
set_option linter.unusedVariables false
set_option linter.unusedSimpArgs false
/-! ### key_Of: function 20 -/
def key_Of.f (k : Nat) (a0 : Int) (l1 : List Int) : Option (ByteArray) := (sha_New.f k).bind fun bt601 => ((sha_Write.f k bt601.1 bt601.2.1 bt601.2.2 (([(a0) % 256] : List Int))).bind fun bt611 => ((sha_Write.f k bt611.1 bt611.2.1 bt611.2.2 l1).bind fun bt618 => ((sha_Done.f k bt618.1 bt618.2.1 bt618.2.2).bind fun t625 => ((key_text.f k t625).bind fun t628 => (some t628)))))
theorem key_Of.mono : ∀ a0 a1 k, LeO (key_Of.f k a0 a1) (key_Of.f (k + 1) a0 a1) := by
  intro a0 a1 k
  unfold key_Of.f
  repeat' first
      | (with_reducible exact key_text.mono _ _)
      | (with_reducible exact sha_Done.mono _ _ _ _)
      | (with_reducible exact sha_New.mono _)
      | (with_reducible exact sha_Write.mono _ _ _ _ _)
      | (with_reducible exact LeO.refl _)
      | (with_reducible exact LeO.none _)
      | (with_reducible refine LeO.ite ?_ ?_)
      | (with_reducible refine LeO.bind ?_ (fun _ => ?_))
      | exact key_text.mono _ _
      | exact sha_Done.mono _ _ _ _
      | exact sha_New.mono _
      | exact sha_Write.mono _ _ _ _ _
      | exact LeO.none _
      | refine LeO.ite ?_ ?_
      | refine LeO.bind ?_ (fun _ => ?_)
set_option maxHeartbeats 8000000 in
set_option maxRecDepth 100000 in
theorem key_Of.calls (k : Nat) (a0 : Int) (A1 : Option Addr) (c1 : Nat) (l1 : List Int) (r : ByteArray) (w : World) (hr1 : Kd.C (Kd.int .u8) w A1 l1.length l1) (hc1 : l1.length ≤ c1) (h : key_Of.f k a0 l1 = some r) :
    Calls Tryd.prog 20 #[.int .i64 a0, .slice A1 l1.length c1] w fun e w' => e = .returned (.string r) ∧ Below w.heap.size w w' := by
  have HR1 := Aside0.mk hr1
  have HC1 := Aside0.mk hc1
  clear hr1 hc1
  have HB := Aside0.mk (Below.refl w.heap.size w)
  have H : ((sha_New.f k).bind fun bt601 => ((sha_Write.f k bt601.1 bt601.2.1 bt601.2.2 (([(a0) % 256] : List Int))).bind fun bt611 => ((sha_Write.f k bt611.1 bt611.2.1 bt611.2.2 l1).bind fun bt618 => ((sha_Done.f k bt618.1 bt618.2.1 bt618.2.2).bind fun t625 => ((key_text.f k t625).bind fun t628 => (some t628)))))) = some r := h
  clear h
  replace H := Option.bind_eq_some_iff.mp H
  obtain ⟨⟨t601, t604, t607⟩, A30, H⟩ := H
  replace H : ((sha_Write.f k t601 t604 t607 (([(a0) % 256] : List Int))).bind fun bt611 => ((sha_Write.f k bt611.1 bt611.2.1 bt611.2.2 l1).bind fun bt618 => ((sha_Done.f k bt618.1 bt618.2.1 bt618.2.2).bind fun t625 => ((key_text.f k t625).bind fun t628 => (some t628))))) = some r := H
  have A3 := Aside0.mk A30
  clear A30
  obtain ⟨y608, hy608⟩ : ∃ y_ : List Int, y_ = (([(a0) % 256] : List Int)) := ⟨_, rfl⟩
  replace H : ((sha_Write.f k t601 t604 t607 y608).bind fun bt611 => ((sha_Write.f k bt611.1 bt611.2.1 bt611.2.2 l1).bind fun bt618 => ((sha_Done.f k bt618.1 bt618.2.1 bt618.2.2).bind fun t625 => ((key_text.f k t625).bind fun t628 => (some t628))))) = some r := by first | (rw [hy608]; with_reducible exact H) | (have H2_ := (Option.bind_some _ _).symm.trans H; rw [hy608]; with_reducible exact H2_) | (have H2_ := (Option.bind_some _ _).symm.trans H; with_reducible exact H2_) | with_reducible exact H | (rw [hy608]; exact H) | exact H
  have Ny608 := Aside0.mk hy608
  clear hy608
  replace H := Option.bind_eq_some_iff.mp H
  obtain ⟨⟨t611, t614, t617⟩, A40, H⟩ := H
  replace H : ((sha_Write.f k t611 t614 t617 l1).bind fun bt618 => ((sha_Done.f k bt618.1 bt618.2.1 bt618.2.2).bind fun t625 => ((key_text.f k t625).bind fun t628 => (some t628)))) = some r := H
  have A4 := Aside0.mk A40
  clear A40
  replace H := Option.bind_eq_some_iff.mp H
  obtain ⟨⟨t618, t621, t624⟩, A50, H⟩ := H
  replace H : ((sha_Done.f k t618 t621 t624).bind fun t625 => ((key_text.f k t625).bind fun t628 => (some t628))) = some r := H
  have A5 := Aside0.mk A50
  clear A50
  replace H := Option.bind_eq_some_iff.mp H
  obtain ⟨t625, A60, H⟩ := H
  replace H : ((key_text.f k t625).bind fun t628 => (some t628)) = some r := H
  have A6 := Aside0.mk A60
  clear A60
  replace H := Option.bind_eq_some_iff.mp H
  obtain ⟨t628, A70, H⟩ := H
  replace H : (some t628) = some r := H
  have A7 := Aside0.mk A70
  clear A70
  obtain rfl := Option.some.inj H
  go_enter Tryd.func20, Tryd.ntmps20
  go_wp2_with (first | ((with_reducible refine gate_callee (f := 57) rfl ?_); refine goesL_ (some 5) rfl rfl Tryd.func57 (by kernel_rfl) rfl #[] rfl (by (try simp only [List.map_toArray, List.map_cons, List.map_nil]); first | done | rfl | (simp only [List.length_drop, List.length_take]; rfl)) ?_; (with_reducible refine (sha_New.calls k  t601 t604 t607 _ A3.out).mono ?_); rintro e w8 ⟨v602, v605, rfl, ho0, ho1, hb⟩; refine ⟨_, rfl, ?_⟩; have n0_ := Aside0.mk (Kd.R_lower ho0 (below_size (by repeat (first | (with_reducible first | exact HB.out | apply below_alloc | apply pw_below_drewN | apply below_drew1) | exact HB.out)))); have n1_ := Aside0.mk (Kd.R_lower ho1 (below_size (by repeat (first | (with_reducible first | exact HB.out | apply below_alloc | apply pw_below_drewN | apply below_drew1) | exact HB.out)))); have n2_ := Aside0.mk (below_step (by repeat (first | (with_reducible first | exact HB.out | apply below_alloc | apply pw_below_drewN | apply below_drew1) | exact HB.out)) hb); clear HB; have HO603 := n0_; have HO606 := n1_; have HB := n2_; clear n0_ n1_ n2_; (try clear hb); (try clear hb2); (try clear hk); (try clear hi); (try clear ho0); (try clear ho1)) | ((with_reducible refine gate_dst (N := 8) rfl ?_); refine Kd.R_lit (Kd.int .u8) _ 5 ?hg (N := 8) ?hd (xs := ([(a0) % 256] : List Int)) (inner := [.int .u8 ((a0) % 256)]) (ok := fun _ => True) (okp := fun _ => True) ?hr ?hp (fun _ hk => hk) trivial (Below.refl _ _) (Nat.le_refl _) (by simp) ?_; (case hd => rfl); (case hg => rfl); (case hr => first | (go_simp; done) | (go_simp; rfl)); (case hp => exact (Reps.one (show Kd.M (Kd.int .u8) _ _ _ ((a0) % 256) [.int .u8 ((a0) % 256)] from rfl) (Reps.none _ _))); intro v609 w9 ho10 hb hg_ hnew_; clear hg_ hnew_; (first | rw [← Ny608.out] at ho10 | (simp only [Int.reduceToNat] at ho10; rw [← Ny608.out] at ho10)); have n0_ := Aside0.mk (Kd.R_below (by (with_reducible repeat (first | apply Kd.R_alloc | apply Kd.R_drewN | apply Kd.R_drew)); exact HO603.out) hb); have n1_ := Aside0.mk (Kd.R_elder' (by (with_reducible repeat (first | apply Kd.R_alloc | apply Kd.R_drewN | apply Kd.R_drew)); exact HO606.out) (Kd.R_base ho10) hb); have n2_ := Aside0.mk (Kd.R_lower (Kd.R_new' ho10 (Kd.R_lt (by (with_reducible repeat (first | apply Kd.R_alloc | apply Kd.R_drewN | apply Kd.R_drew)); exact HO606.out))) (below_size (by repeat (first | (with_reducible first | exact HB.out | apply below_alloc | apply pw_below_drewN | apply below_drew1) | exact HB.out)))); have n3_ := Aside0.mk (below_step (by repeat (first | (with_reducible first | exact HB.out | apply below_alloc | apply pw_below_drewN | apply below_drew1) | exact HB.out)) hb); clear HO603; clear HO606; clear HB; have HO603 := n0_; have HO606 := n1_; have HO610 := n2_; have HB := n3_; clear n0_ n1_ n2_ n3_; clear hb ho10; obtain ⟨Ao11, co11, eo11⟩ := Kd.R_slice HO603.out; subst eo11; obtain ⟨Ao12, co12, eo12⟩ := Kd.R_slice HO606.out; subst eo12; obtain ⟨Ao13, co13, eo13⟩ := Kd.R_slice HO610.out; subst eo13) | ((with_reducible refine gate_callee (f := 56) rfl ?_); refine goesL_ (some 9) rfl rfl Tryd.func56 (by kernel_rfl) rfl #[.agg #[.slice Ao11 t601.length co11, .slice Ao12 t604.length co12, .int .u64 t607], .slice Ao13 y608.length co13] rfl (by (try simp only [List.map_toArray, List.map_cons, List.map_nil]); first | done | rfl | (simp only [List.length_drop, List.length_take]; rfl)) ?_; (with_reducible refine (sha_Write.calls k _ _ t601 _ _ t604 t607 _ _ y608 t611 t614 t617 _ ?side1 ?side2 ?side3 ?side4 ?side5 ?side6 A4.out).mono ?_); (case side1 => repeat (first | exact (Kd.R_reads' HO603.out).2.2 | (with_reducible refine Kd.C_alloc ?_ _) | (with_reducible refine Kd.C_drewN ?_ _) | (with_reducible refine Kd.C_drew ?_))); (case side2 => exact (Kd.R_reads' HO603.out).2.1); (case side3 => repeat (first | exact (Kd.R_reads' HO606.out).2.2 | (with_reducible refine Kd.C_alloc ?_ _) | (with_reducible refine Kd.C_drewN ?_ _) | (with_reducible refine Kd.C_drew ?_))); (case side4 => exact (Kd.R_reads' HO606.out).2.1); (case side5 => repeat (first | exact (Kd.R_reads' HO610.out).2.2 | (with_reducible refine Kd.C_alloc ?_ _) | (with_reducible refine Kd.C_drewN ?_ _) | (with_reducible refine Kd.C_drew ?_))); (case side6 => exact (Kd.R_reads' HO610.out).2.1); rintro e w14 ⟨v612, v615, rfl, ho0, ho1, hb⟩; refine ⟨_, rfl, ?_⟩; have n0_ := Aside0.mk (Kd.R_elder' (by (with_reducible repeat (first | apply Kd.R_alloc | apply Kd.R_drewN | apply Kd.R_drew)); exact HO603.out) (Kd.R_base ho0) hb); have n1_ := Aside0.mk (Kd.R_elder' (by (with_reducible repeat (first | apply Kd.R_alloc | apply Kd.R_drewN | apply Kd.R_drew)); exact HO606.out) (Kd.R_base ho1) hb); have n2_ := Aside0.mk (Kd.R_elder' (by (with_reducible repeat (first | apply Kd.R_alloc | apply Kd.R_drewN | apply Kd.R_drew)); exact HO610.out) (Kd.R_base ho1) hb); have n3_ := Aside0.mk (Kd.R_lower (Kd.R_new' ho0 (Kd.R_lt (by (with_reducible repeat (first | apply Kd.R_alloc | apply Kd.R_drewN | apply Kd.R_drew)); exact HO603.out))) (below_size (by repeat (first | (with_reducible first | exact HB.out | apply below_alloc | apply pw_below_drewN | apply below_drew1) | exact HB.out)))); have n4_ := Aside0.mk (Kd.R_lower (Kd.R_new' (Kd.R_new' ho1 (Kd.R_lt (by (with_reducible repeat (first | apply Kd.R_alloc | apply Kd.R_drewN | apply Kd.R_drew)); exact HO606.out))) (Kd.R_lt (by (with_reducible repeat (first | apply Kd.R_alloc | apply Kd.R_drewN | apply Kd.R_drew)); exact HO610.out))) (below_size (by repeat (first | (with_reducible first | exact HB.out | apply below_alloc | apply pw_below_drewN | apply below_drew1) | exact HB.out)))); have n5_ := Aside0.mk (below_step (by repeat (first | (with_reducible first | exact HB.out | apply below_alloc | apply pw_below_drewN | apply below_drew1) | exact HB.out)) hb); clear HO603; clear HO606; clear HO610; clear HB; have HO603 := n0_; have HO606 := n1_; have HO610 := n2_; have HO613 := n3_; have HO616 := n4_; have HB := n5_; clear n0_ n1_ n2_ n3_ n4_ n5_; (try clear hb); (try clear hb2); (try clear hk); (try clear hi); (try clear ho0); (try clear ho1); obtain ⟨Ao15, co15, eo15⟩ := Kd.R_slice HO613.out; subst eo15; obtain ⟨Ao16, co16, eo16⟩ := Kd.R_slice HO616.out; subst eo16) | ((with_reducible refine gate_callee (f := 56) rfl ?_); refine goesL_ (some 11) rfl rfl Tryd.func56 (by kernel_rfl) rfl #[.agg #[.slice Ao15 t611.length co15, .slice Ao16 t614.length co16, .int .u64 t617], .slice A1 l1.length c1] rfl (by (try simp only [List.map_toArray, List.map_cons, List.map_nil]); first | done | rfl | (simp only [List.length_drop, List.length_take]; rfl)) ?_; (with_reducible refine (sha_Write.calls k _ _ t611 _ _ t614 t617 _ _ l1 t618 t621 t624 _ ?side1 ?side2 ?side3 ?side4 ?side5 ?side6 A5.out).mono ?_); (case side1 => repeat (first | exact (Kd.R_reads' HO613.out).2.2 | (with_reducible refine Kd.C_alloc ?_ _) | (with_reducible refine Kd.C_drewN ?_ _) | (with_reducible refine Kd.C_drew ?_))); (case side2 => exact (Kd.R_reads' HO613.out).2.1); (case side3 => repeat (first | exact (Kd.R_reads' HO616.out).2.2 | (with_reducible refine Kd.C_alloc ?_ _) | (with_reducible refine Kd.C_drewN ?_ _) | (with_reducible refine Kd.C_drew ?_))); (case side4 => exact (Kd.R_reads' HO616.out).2.1); (case side5 => repeat (first | exact (Kd.C_below HR1.out HB.out) | (with_reducible refine Kd.C_alloc ?_ _) | (with_reducible refine Kd.C_drewN ?_ _) | (with_reducible refine Kd.C_drew ?_))); (case side6 => exact HC1.out); rintro e w17 ⟨v619, v622, rfl, ho0, ho1, hb⟩; refine ⟨_, rfl, ?_⟩; have n0_ := Aside0.mk (Kd.R_elder' (by (with_reducible repeat (first | apply Kd.R_alloc | apply Kd.R_drewN | apply Kd.R_drew)); exact HO603.out) (Kd.R_base ho0) hb); have n1_ := Aside0.mk (Kd.R_elder' (by (with_reducible repeat (first | apply Kd.R_alloc | apply Kd.R_drewN | apply Kd.R_drew)); exact HO606.out) (Kd.R_base ho1) hb); have n2_ := Aside0.mk (Kd.R_elder' (by (with_reducible repeat (first | apply Kd.R_alloc | apply Kd.R_drewN | apply Kd.R_drew)); exact HO610.out) (Kd.R_base ho1) hb); have n3_ := Aside0.mk (Kd.R_elder' (by (with_reducible repeat (first | apply Kd.R_alloc | apply Kd.R_drewN | apply Kd.R_drew)); exact HO613.out) (Kd.R_base ho0) hb); have n4_ := Aside0.mk (Kd.R_elder' (by (with_reducible repeat (first | apply Kd.R_alloc | apply Kd.R_drewN | apply Kd.R_drew)); exact HO616.out) (Kd.R_base ho1) hb); have n5_ := Aside0.mk (Kd.R_lower (Kd.R_new' (Kd.R_new' ho0 (Kd.R_lt (by (with_reducible repeat (first | apply Kd.R_alloc | apply Kd.R_drewN | apply Kd.R_drew)); exact HO603.out))) (Kd.R_lt (by (with_reducible repeat (first | apply Kd.R_alloc | apply Kd.R_drewN | apply Kd.R_drew)); exact HO613.out))) (below_size (by repeat (first | (with_reducible first | exact HB.out | apply below_alloc | apply pw_below_drewN | apply below_drew1) | exact HB.out)))); have n6_ := Aside0.mk (Kd.R_lower (Kd.R_new' (Kd.R_new' (Kd.R_new' ho1 (Kd.R_lt (by (with_reducible repeat (first | apply Kd.R_alloc | apply Kd.R_drewN | apply Kd.R_drew)); exact HO606.out))) (Kd.R_lt (by (with_reducible repeat (first | apply Kd.R_alloc | apply Kd.R_drewN | apply Kd.R_drew)); exact HO610.out))) (Kd.R_lt (by (with_reducible repeat (first | apply Kd.R_alloc | apply Kd.R_drewN | apply Kd.R_drew)); exact HO616.out))) (below_size (by repeat (first | (with_reducible first | exact HB.out | apply below_alloc | apply pw_below_drewN | apply below_drew1) | exact HB.out)))); have n7_ := Aside0.mk (below_step (by repeat (first | (with_reducible first | exact HB.out | apply below_alloc | apply pw_below_drewN | apply below_drew1) | exact HB.out)) hb); clear HO603; clear HO606; clear HO610; clear HO613; clear HO616; clear HB; have HO603 := n0_; have HO606 := n1_; have HO610 := n2_; have HO613 := n3_; have HO616 := n4_; have HO620 := n5_; have HO623 := n6_; have HB := n7_; clear n0_ n1_ n2_ n3_ n4_ n5_ n6_ n7_; (try clear hb); (try clear hb2); (try clear hk); (try clear hi); (try clear ho0); (try clear ho1); obtain ⟨Ao18, co18, eo18⟩ := Kd.R_slice HO620.out; subst eo18; obtain ⟨Ao19, co19, eo19⟩ := Kd.R_slice HO623.out; subst eo19) | ((with_reducible refine gate_callee (f := 55) rfl ?_); refine goesL_ (some 12) rfl rfl Tryd.func55 (by kernel_rfl) rfl #[.agg #[.slice Ao18 t618.length co18, .slice Ao19 t621.length co19, .int .u64 t624]] rfl (by (try simp only [List.map_toArray, List.map_cons, List.map_nil]); first | done | rfl | (simp only [List.length_drop, List.length_take]; rfl)) ?_; (with_reducible refine (sha_Done.calls k _ _ t618 _ _ t621 t624 t625 _ ?side1 ?side2 ?side3 ?side4 A6.out).mono ?_); (case side1 => repeat (first | exact (Kd.R_reads' HO620.out).2.2 | (with_reducible refine Kd.C_alloc ?_ _) | (with_reducible refine Kd.C_drewN ?_ _) | (with_reducible refine Kd.C_drew ?_))); (case side2 => exact (Kd.R_reads' HO620.out).2.1); (case side3 => repeat (first | exact (Kd.R_reads' HO623.out).2.2 | (with_reducible refine Kd.C_alloc ?_ _) | (with_reducible refine Kd.C_drewN ?_ _) | (with_reducible refine Kd.C_drew ?_))); (case side4 => exact (Kd.R_reads' HO623.out).2.1); rintro e w20 ⟨v626, rfl, ho0, hb⟩; refine ⟨_, rfl, ?_⟩; have n0_ := Aside0.mk (Kd.R_below (by (with_reducible repeat (first | apply Kd.R_alloc | apply Kd.R_drewN | apply Kd.R_drew)); exact HO603.out) hb); have n1_ := Aside0.mk (Kd.R_elder' (by (with_reducible repeat (first | apply Kd.R_alloc | apply Kd.R_drewN | apply Kd.R_drew)); exact HO606.out) (Kd.R_base ho0) hb); have n2_ := Aside0.mk (Kd.R_elder' (by (with_reducible repeat (first | apply Kd.R_alloc | apply Kd.R_drewN | apply Kd.R_drew)); exact HO610.out) (Kd.R_base ho0) hb); have n3_ := Aside0.mk (Kd.R_below (by (with_reducible repeat (first | apply Kd.R_alloc | apply Kd.R_drewN | apply Kd.R_drew)); exact HO613.out) hb); have n4_ := Aside0.mk (Kd.R_elder' (by (with_reducible repeat (first | apply Kd.R_alloc | apply Kd.R_drewN | apply Kd.R_drew)); exact HO616.out) (Kd.R_base ho0) hb); have n5_ := Aside0.mk (Kd.R_below (by (with_reducible repeat (first | apply Kd.R_alloc | apply Kd.R_drewN | apply Kd.R_drew)); exact HO620.out) hb); have n6_ := Aside0.mk (Kd.R_elder' (by (with_reducible repeat (first | apply Kd.R_alloc | apply Kd.R_drewN | apply Kd.R_drew)); exact HO623.out) (Kd.R_base ho0) hb); have n7_ := Aside0.mk (Kd.R_lower (Kd.R_new' (Kd.R_new' (Kd.R_new' (Kd.R_new' ho0 (Kd.R_lt (by (with_reducible repeat (first | apply Kd.R_alloc | apply Kd.R_drewN | apply Kd.R_drew)); exact HO606.out))) (Kd.R_lt (by (with_reducible repeat (first | apply Kd.R_alloc | apply Kd.R_drewN | apply Kd.R_drew)); exact HO610.out))) (Kd.R_lt (by (with_reducible repeat (first | apply Kd.R_alloc | apply Kd.R_drewN | apply Kd.R_drew)); exact HO616.out))) (Kd.R_lt (by (with_reducible repeat (first | apply Kd.R_alloc | apply Kd.R_drewN | apply Kd.R_drew)); exact HO623.out))) (below_size (by repeat (first | (with_reducible first | exact HB.out | apply below_alloc | apply pw_below_drewN | apply below_drew1) | exact HB.out)))); have n8_ := Aside0.mk (below_step (by repeat (first | (with_reducible first | exact HB.out | apply below_alloc | apply pw_below_drewN | apply below_drew1) | exact HB.out)) hb); clear HO603; clear HO606; clear HO610; clear HO613; clear HO616; clear HO620; clear HO623; clear HB; have HO603 := n0_; have HO606 := n1_; have HO610 := n2_; have HO613 := n3_; have HO616 := n4_; have HO620 := n5_; have HO623 := n6_; have HO627 := n7_; have HB := n8_; clear n0_ n1_ n2_ n3_ n4_ n5_ n6_ n7_ n8_; (try clear hb); (try clear hb2); (try clear hk); (try clear hi); (try clear ho0); obtain ⟨Ao21, co21, eo21⟩ := Kd.R_slice HO627.out; subst eo21) | ((with_reducible refine gate_callee (f := 54) rfl ?_); refine goesL_ (some 13) rfl rfl Tryd.func54 (by kernel_rfl) rfl #[.slice Ao21 t625.length co21] rfl (by (try simp only [List.map_toArray, List.map_cons, List.map_nil]); first | done | rfl | (simp only [List.length_drop, List.length_take]; rfl)) ?_; (with_reducible refine (key_text.calls k _ _ t625 t628 _ ?side1 ?side2 A7.out).mono ?_); (case side1 => repeat (first | exact (Kd.R_reads' HO627.out).2.2 | (with_reducible refine Kd.C_alloc ?_ _) | (with_reducible refine Kd.C_drewN ?_ _) | (with_reducible refine Kd.C_drew ?_))); (case side2 => exact (Kd.R_reads' HO627.out).2.1); rintro e w22 ⟨rfl, hb⟩; refine ⟨_, rfl, ?_⟩; have n0_ := Aside0.mk (Kd.R_below (by (with_reducible repeat (first | apply Kd.R_alloc | apply Kd.R_drewN | apply Kd.R_drew)); exact HO603.out) hb); have n1_ := Aside0.mk (Kd.R_below (by (with_reducible repeat (first | apply Kd.R_alloc | apply Kd.R_drewN | apply Kd.R_drew)); exact HO606.out) hb); have n2_ := Aside0.mk (Kd.R_below (by (with_reducible repeat (first | apply Kd.R_alloc | apply Kd.R_drewN | apply Kd.R_drew)); exact HO610.out) hb); have n3_ := Aside0.mk (Kd.R_below (by (with_reducible repeat (first | apply Kd.R_alloc | apply Kd.R_drewN | apply Kd.R_drew)); exact HO613.out) hb); have n4_ := Aside0.mk (Kd.R_below (by (with_reducible repeat (first | apply Kd.R_alloc | apply Kd.R_drewN | apply Kd.R_drew)); exact HO616.out) hb); have n5_ := Aside0.mk (Kd.R_below (by (with_reducible repeat (first | apply Kd.R_alloc | apply Kd.R_drewN | apply Kd.R_drew)); exact HO620.out) hb); have n6_ := Aside0.mk (Kd.R_below (by (with_reducible repeat (first | apply Kd.R_alloc | apply Kd.R_drewN | apply Kd.R_drew)); exact HO623.out) hb); have n7_ := Aside0.mk (Kd.R_below (by (with_reducible repeat (first | apply Kd.R_alloc | apply Kd.R_drewN | apply Kd.R_drew)); exact HO627.out) hb); have n8_ := Aside0.mk (below_step (by repeat (first | (with_reducible first | exact HB.out | apply below_alloc | apply pw_below_drewN | apply below_drew1) | exact HB.out)) hb); clear HO603; clear HO606; clear HO610; clear HO613; clear HO616; clear HO620; clear HO623; clear HO627; clear HB; have HO603 := n0_; have HO606 := n1_; have HO610 := n2_; have HO613 := n3_; have HO616 := n4_; have HO620 := n5_; have HO623 := n6_; have HO627 := n7_; have HB := n8_; clear n0_ n1_ n2_ n3_ n4_ n5_ n6_ n7_ n8_; (try clear hb); (try clear hb2); (try clear hk); (try clear hi)))
  go_ret
  exact ⟨by first | rfl | (simp [errW_none, errW_some] <;> rfl) | (simp [*, errW_none, errW_some] <;> rfl), by repeat (first | (with_reducible first | exact HB.out | apply below_alloc | apply pw_below_drewN | apply below_drew1) | exact HB.out)⟩
end Go.Proofs.YtbclnkhcnclfoaaDoor.Q
namespace Go.Proofs.YtbclnkhcnclfoaaDoor.Q
open Go.RowKit Go.Proofs.YtbclnkhcnclfoaaDoorW.PrintWords Go.Proofs.YtbclnkhcnclfoaaDoorW.PrintLast Go.Proofs.YtbclnkhcnclfoaaDoorW.PrintMore
set_option linter.unusedVariables false
set_option linter.unusedSimpArgs false
def sha_h0 : List Int := [1779033703, 3144134277, 1013904242, 2773480762, 1359893119, 2600822924, 528734635, 1541459225]
def sha_ks : List Int := [1116352408, 1899447441, 3049323471, 3921009573, 961987163, 1508970993, 2453635748, 2870763221, 3624381080, 310598401, 607225278, 1426881987, 1925078388, 2162078206, 2614888103, 3248222580, 3835390401, 4022224774, 264347078, 604807628, 770255983, 1249150122, 1555081692, 1996064986, 2554220882, 2821834349, 2952996808, 3210313671, 3336571891, 3584528711, 113926993, 338241895, 666307205, 773529912, 1294757372, 1396182291, 1695183700, 1986661051, 2177026350, 2456956037, 2730485921, 2820302411, 3259730800, 3345764771, 3516065817, 3600352804, 4094571909, 275423344, 430227734, 506948616, 659060556, 883997877, 958139571, 1322822218, 1537002063, 1747873779, 1955562222, 2024104815, 2227730452, 2361852424, 2428436474, 2756734187, 3204031479, 3329325298]
theorem sha_primes8 : sha_primes.f 400 8 = some [2, 3, 5, 7, 11, 13, 17, 19] := by decide +kernel
theorem sha_root2 : sha_root.f 60 2 false = some 1779033703 := by decide +kernel
theorem sha_New.at : sha_New.f 400 = some (sha_h0, [], 0) := by decide +kernel
theorem sha_constants.at : sha_constants.f 400 = some sha_ks := by decide +kernel
/-- From some number of rounds on, for all that a loop's answer hangs on: one more. -/
theorem Ev.of_eq {α : Type} {g : Nat → Option α} {r r' : α} (h : Ev g r) (e : r = r') : Ev g r' := e ▸ h
theorem Ev.if_pos' {α : Type} {c : Nat → Prop} [∀ k, Decidable (c k)] {f g : Nat → Option α} {r : α} (h : ∀ k, c k) (k : Ev f r) : Ev (fun n => if c n then f n else g n) r :=
  Ev.congr (fun n => if_pos (h n)) k
theorem wrap_u {x : Int} (h0 : -9223372036854775808 ≤ x) (h1 : x ≤ 9223372036854775807) : wrap64 x = x := IntWalk.wrap64_in x ⟨h0, h1⟩
/-! ### sha.New, sha.constants: closed -/
theorem sha_New.ev : Ev (fun k => sha_New.f k) (sha_h0, [], 0) := Ev.of sha_New.mono sha_New.at
theorem sha_constants.ev : Ev sha_constants.f sha_ks := Ev.of sha_constants.mono sha_constants.at
/-! ### blocks -/
def sha_run : Nat → List Int → List Int → List Int × List Int
  | 0, h, all => (h, all)
  | n + 1, h, all => sha_run n (sha_block sha_ks (all.take 64) (V8.of h)) (all.drop 64)
theorem sha_block_len (ks bl : List Int) (h : List Int) : (sha_block ks bl (V8.of h)).length = 8 := by
  rw [sha_block, sha_adds_len]
  rfl
theorem sha_run_ev : ∀ (n : Nat) (h all : List Int), 64 * n ≤ all.length → all.length < 64 * (n + 1) → Ev (fun k => sha_loop sha_ks k h all) (sha_run n h all)
  | 0, h, all, _, h2 => Ev.step (f := fun _ => some (h, all)) (fun k => by simp only [sha_loop]; rw [if_neg (by omega)]) (Ev.now _)
  | n + 1, h, all, h1, h2 => Ev.step (f := fun k => sha_loop sha_ks k (sha_block sha_ks (all.take 64) (V8.of h)) (all.drop 64)) (fun k => by simp only [sha_loop]; rw [if_pos (by omega)])
      (sha_run_ev n _ _ (by rw [List.length_drop]; omega) (by rw [List.length_drop]; omega))
theorem sha_run_len : ∀ (n : Nat) (h all : List Int), h.length = 8 → 64 * n ≤ all.length → (sha_run n h all).1.length = 8 ∧ (sha_run n h all).2.length = all.length - 64 * n
  | 0, h, all, h8, _ => ⟨h8, by simp [sha_run]⟩
  | n + 1, h, all, h8, h1 => by
    have e := sha_run_len n (sha_block sha_ks (all.take 64) (V8.of h)) (all.drop 64) (sha_block_len _ _ _) (by rw [List.length_drop]; omega)
    rw [List.length_drop] at e
    exact ⟨e.1, by rw [sha_run, e.2]; omega⟩
/-! ### sha.Write -/
def sha_ok (s : List Int × List Int × Int) : Prop := s.1.length = 8 ∧ s.2.1.length < 64 ∧ 0 ≤ s.2.2 ∧ s.2.2 < 18446744073709551616 ∧ (s.2.2 % 64 = s.2.1.length)
theorem sha_Check.yes {H Buf : List Int} {N : Int} (h : sha_ok (H, Buf, N)) : sha_Check.f H Buf N = some true := by
  obtain ⟨h1, h2, h3, h4, h5⟩ := h
  simp only at h1 h2 h3 h4 h5
  unfold sha_Check.f
  rw [if_pos (by omega), if_pos (by omega), IntKind.wrap_u64, Int.tmod_eq_emod_of_nonneg h3, h5]
  have : ((Buf.length : Int) % 18446744073709551616) = Buf.length := by omega
  rw [this]
  simp
def sha_wr (s : List Int × List Int × Int) (b : List Int) : List Int × List Int × Int :=
  ((sha_run ((s.2.1 ++ b).length / 64) s.1 (s.2.1 ++ b)).1, (sha_run ((s.2.1 ++ b).length / 64) s.1 (s.2.1 ++ b)).2, (s.2.2 + b.length) % 18446744073709551616)
theorem sha_wr_ok {s : List Int × List Int × Int} (h : sha_ok s) (b : List Int) : sha_ok (sha_wr s b) := by
  obtain ⟨h1, h2, h3, h4, h5⟩ := h
  have e := sha_run_len ((s.2.1 ++ b).length / 64) s.1 (s.2.1 ++ b) h1 (by omega)
  have hl : (s.2.1 ++ b).length = s.2.1.length + b.length := List.length_append
  refine ⟨e.1, ?_, ?_, ?_, ?_⟩
  · show (sha_run _ _ _).2.length < 64
    rw [e.2]
    omega
  · show 0 ≤ (s.2.2 + b.length) % 18446744073709551616
    omega
  · show (s.2.2 + b.length) % 18446744073709551616 < 18446744073709551616
    omega
  · show (s.2.2 + b.length) % 18446744073709551616 % 64 = ((sha_run _ _ _).2.length : Int)
    rw [e.2, hl]
    omega
theorem sha_Write.ev {s : List Int × List Int × Int} (h : sha_ok s) (b : List Int) (hb : b.length < 10000000000) : Ev (fun k => sha_Write.f k s.1 s.2.1 s.2.2 b) (sha_wr s b) := by
  have hc := sha_Check.yes (H := s.1) (Buf := s.2.1) (N := s.2.2) h
  obtain ⟨h1, h2, h3, h4, h5⟩ := h
  have hl : (s.2.1 ++ b).length = s.2.1.length + b.length := List.length_append
  by_cases h64 : 64 ≤ (s.2.1 ++ b).length
  · refine Ev.congr (f := fun k => (sha_constants.f k).bind fun ks => (sha_loop ks k s.1 (s.2.1 ++ b)).bind fun r => some (r.1, r.2, (s.2.2 + b.length) % 18446744073709551616)) (fun k => ?_) ?_
    · unfold sha_Write.f
      rw [hc]
      simp only [Option.bind_some]
      rw [if_pos trivial, if_pos h1, if_pos (by omega), if_pos h64]
    · refine Ev.bind sha_constants.ev ?_
      refine Ev.bind (f := fun _ r => some (r.1, r.2, (s.2.2 + b.length) % 18446744073709551616)) (sha_run_ev ((s.2.1 ++ b).length / 64) s.1 (s.2.1 ++ b) (by omega) (by omega)) ?_
      exact Ev.now _
  · refine Ev.congr (f := fun k => some (s.1, s.2.1 ++ b, (s.2.2 + b.length) % 18446744073709551616)) (fun k => ?_) ?_
    · unfold sha_Write.f
      rw [hc]
      simp only [Option.bind_some]
      rw [if_pos trivial, if_pos h1, if_pos (by omega), if_neg h64]
    · refine Ev.of_eq (Ev.now _) ?_
      have e0 : (s.2.1 ++ b).length / 64 = 0 := by omega
      rw [sha_wr, e0]
      rfl
/-! ### sha.Done -/
def sha_be4 (x : Int) : List Int := [(x / 16777216) % 256, (x / 65536) % 256, (x / 256) % 256, x % 256]
theorem rd_nat (xs : List Int) (i : Nat) (h : i < xs.length) : rd xs (i : Int) = xs[i] := by
  simp [rd, h]
theorem sha_Done.l1_ev (ws : List Int) (hw : ws.length ≤ 1000) : ∀ (d i : Nat) (x5 : List Int), i + d = ws.length → x5.length ≤ 1000000 - 4 * d → d ≤ 1000 → Ev (fun k => sha_Done.l1 k x5 ws (ws.length : Int) (i : Int)) (x5 ++ (ws.drop i).flatMap sha_be4)
  | 0, i, x5, hd, hx, _ => Ev.of_eq (Ev.step (f := fun _ => some x5) (fun k => by simp only [sha_Done.l1]; rw [if_neg (by omega)]) (Ev.now _)) (by rw [List.drop_of_length_le (by omega)]; simp)
  | d + 1, i, x5, hd, hx, h9 => by
    have hi : i < ws.length := by omega
    have e := sha_Done.l1_ev ws hw d (i + 1) (x5 ++ sha_be4 (ws[i]'hi)) (by omega) (by simp [sha_be4]; omega) (by omega)
    refine Ev.of_eq (Ev.step (fun k => ?_) e) ?_
    · simp only [sha_Done.l1]
      rw [if_pos (by omega), if_pos (by omega), if_pos (by omega), rd_nat ws i hi, Option.bind_some, if_pos (by simp; omega), wrap_u (by omega) (by omega)]
      rfl
    · rw [List.drop_eq_getElem_cons hi, List.flatMap_cons, List.append_assoc]
def sha_lenb (N : Int) (i : Nat) : Int := (shr .u64 (IntKind.u64.wrap (N * 8)) (wrap64 (56 - (wrap64 (8 * (i : Int)))))) % 256
def sha_pads (N : Int) (x3 : List Int) (i : Nat) : Nat → List Int
  | 0 => x3
  | d + 1 => sha_pads N (x3 ++ [sha_lenb N i]) (i + 1) d
theorem sha_pads_len (N : Int) : ∀ (d i : Nat) (x3 : List Int), (sha_pads N x3 i d).length = x3.length + d
  | 0, _, _ => rfl
  | d + 1, i, x3 => by rw [sha_pads, sha_pads_len N d (i + 1)]; simp; omega
def sha_out (s : List Int × List Int × Int) : List Int := s.1.flatMap sha_be4
theorem sha_Done.l0_ev {s : List Int × List Int × Int} (hs : sha_ok s) : ∀ (d i : Nat) (x3 : List Int), i + d = 8 → x3.length + d ≤ 1000 → Ev (fun k => sha_Done.l0 k x3 (i : Int) s.1 s.2.1 s.2.2) (sha_out (sha_wr s (sha_pads s.2.2 x3 i d)))
  | 0, i, x3, hd, hx => by
    have hw := sha_Write.ev hs x3 (by omega)
    have ho := sha_wr_ok hs x3
    have h8 : (sha_wr s x3).1.length = 8 := ho.1
    have e1 := sha_Done.l1_ev (sha_wr s x3).1 (by omega) (sha_wr s x3).1.length 0 [] (by omega) (by rw [h8]; simp) (by omega)
    refine Ev.step (fun k => by simp only [sha_Done.l0]; rw [if_neg (by omega)]) (Ev.bind hw ?_)
    simpa [sha_out, sha_pads] using e1
  | d + 1, i, x3, hd, hx => by
    have e := sha_Done.l0_ev hs d (i + 1) (x3 ++ [sha_lenb s.2.2 i]) (by omega) (by simp; omega)
    refine Ev.step (fun k => ?_) e
    simp only [sha_Done.l0]
    rw [if_pos (by omega), if_pos (by rw [wrap_u (x := 8 * (i : Int)) (by omega) (by omega), wrap_u (x := 56 - 8 * (i : Int)) (by omega) (by omega)]; omega), if_pos (by omega), wrap_u (x := (i : Int) + 1) (by omega) (by omega)]
    rfl
def sha_zero (n : Nat) : List Int := (List.replicate (1 + (119 - n) % 64) 0).set 0 128
def sha_sum (s : List Int × List Int × Int) : List Int := sha_out (sha_wr s (sha_pads s.2.2 (sha_zero s.2.1.length) 0 8))
theorem sha_Done.ev {s : List Int × List Int × Int} (hs : sha_ok s) : Ev (fun k => sha_Done.f k s.1 s.2.1 s.2.2) (sha_sum s) := by
  have hc := sha_Check.yes (H := s.1) (Buf := s.2.1) (N := s.2.2) hs
  have hl : s.2.1.length < 64 := hs.2.1
  have e := sha_Done.l0_ev hs 8 0 (sha_zero s.2.1.length) (by omega) (by simp [sha_zero]; omega)
  have hn : wrap64 (1 + (Int.tmod (wrap64 (119 - (s.2.1.length : Int))) 64)) = ((1 + (119 - s.2.1.length) % 64 : Nat) : Int) := by
    rw [wrap_u (x := 119 - (s.2.1.length : Int)) (by omega) (by omega), Int.tmod_eq_emod_of_nonneg (by omega), wrap_u (by omega) (by omega)]
    omega
  refine Ev.congr (fun k => ?_) e
  unfold sha_Done.f
  rw [hc, Option.bind_some, if_pos rfl, hn, if_pos (by omega), if_pos (by omega), if_pos (by omega), Option.bind_some, if_pos (by rw [List.length_replicate, Int.toNat_natCast]; omega), Int.toNat_natCast]
  rfl
theorem sha_be4_byte (x : Int) : ∀ y ∈ sha_be4 x, 0 ≤ y ∧ y ≤ 255 := by
  intro y hy
  simp only [sha_be4, List.mem_cons, List.not_mem_nil, or_false] at hy
  omega
theorem sha_sum_byte (s : List Int × List Int × Int) : ∀ y ∈ sha_sum s, 0 ≤ y ∧ y ≤ 255 := by
  intro y hy
  obtain ⟨x, _, hy⟩ := List.mem_flatMap.1 hy
  exact sha_be4_byte x y hy
theorem flat4_len : ∀ l : List Int, (l.flatMap sha_be4).length = 4 * l.length
  | [] => rfl
  | x :: l => by rw [List.flatMap_cons, List.length_append, flat4_len l]; simp [sha_be4]; omega
theorem sha_sum_len {s : List Int × List Int × Int} (hs : sha_ok s) : (sha_sum s).length = 32 := by
  have h8 : (sha_wr s (sha_pads s.2.2 (sha_zero s.2.1.length) 0 8)).1.length = 8 := (sha_wr_ok hs _).1
  show (List.flatMap sha_be4 _).length = 32
  rw [flat4_len, h8]
/-! ### key.text -/
def key_digs : ByteArray := ⟨#[48, 49, 50, 51, 52, 53, 54, 55, 56, 57, 97, 98, 99, 100, 101, 102]⟩
def key_two (x : Int) : List Int := [bt ⟨#[48, 49, 50, 51, 52, 53, 54, 55, 56, 57, 97, 98, 99, 100, 101, 102]⟩ (x / 16), bt ⟨#[48, 49, 50, 51, 52, 53, 54, 55, 56, 57, 97, 98, 99, 100, 101, 102]⟩ (Go.bits .and .u8 x 15)]
theorem and15 (x : Int) (h0 : 0 ≤ x) (h1 : x ≤ 255) : Go.bits .and .u8 x 15 = x % 16 := by
  have h : ∀ n : Fin 256, Go.bits .and .u8 (n.val : Int) 15 = (n.val : Int) % 16 := by decide +kernel
  have e := h ⟨x.toNat, by omega⟩
  have e2 : ((x.toNat : Nat) : Int) = x := by omega
  simpa [e2] using e
def key_hx (l : List Int) : List Int := l.flatMap key_two
theorem key_hx_cons (x : Int) (l : List Int) : key_hx (x :: l) = key_two x ++ key_hx l := by simp [key_hx]
theorem key_hx_len : ∀ l : List Int, (key_hx l).length = 2 * l.length
  | [] => rfl
  | x :: l => by
    have := key_hx_len l
    simp only [key_hx] at this ⊢
    rw [List.flatMap_cons, List.length_append, this]
    simp [key_two]
    omega
theorem key_text.l0_ev (l : List Int) (hl : l.length ≤ 1000000000) (hb : ∀ y ∈ l, 0 ≤ y ∧ y ≤ 255) : ∀ (d i : Nat) (x3 : List Int), i + d = l.length → x3.length + 2 * d ≤ 10000000000 → Ev (fun k => key_text.l0 k x3 l (l.length : Int) (i : Int)) (strOfNums (x3 ++ key_hx (l.drop i)))
  | 0, i, x3, hd, hx => Ev.of_eq (Ev.step (f := fun _ => some (strOfNums x3)) (fun k => by simp only [key_text.l0]; rw [if_neg (by omega)]) (Ev.now _)) (by rw [List.drop_of_length_le (by omega)]; simp [key_hx])
  | d + 1, i, x3, hd, hx => by
    have hi : i < l.length := by omega
    have e := key_text.l0_ev l hl hb d (i + 1) (x3 ++ key_two (l[i]'hi)) (by omega) (by simp [key_two]; omega)
    obtain ⟨b0, b1⟩ := hb _ (List.getElem_mem hi)
    refine Ev.of_eq (Ev.step (fun k => ?_) e) ?_
    · simp only [key_text.l0]
      rw [if_pos (by omega), if_pos (by omega), if_pos (by omega), rd_nat l i hi, if_pos (by omega), if_pos (by omega), if_pos (by rw [and15 _ b0 b1]; omega), if_pos (by rw [and15 _ b0 b1]; omega), Option.bind_some, if_pos (by simp; omega), wrap_u (x := (i : Int) + 1) (by omega) (by omega)]
      rfl
    · rw [List.drop_eq_getElem_cons hi, key_hx_cons, List.append_assoc]
def key_txt (l : List Int) : ByteArray := strOfNums (key_hx l)
theorem key_text.ev (l : List Int) (hl : l.length ≤ 1000000000) (hb : ∀ y ∈ l, 0 ≤ y ∧ y ≤ 255) : Ev (fun k => key_text.f k l) (key_txt l) := by
  have e := key_text.l0_ev l hl hb l.length 0 [] (by omega) (by simp; omega)
  refine Ev.of_eq (Ev.congr (fun k => ?_) e) (by simp [key_txt])
  unfold key_text.f
  rw [wrap_u (x := 2 * (l.length : Int)) (by omega) (by omega), if_pos (by omega), if_pos (by omega)]
  rfl
/-! ### key.Of -/
def key_sum (kind : Int) (b : List Int) : List Int := sha_sum (sha_wr (sha_wr (sha_h0, [], 0) [kind % 256]) b)
theorem sha_ok0 : sha_ok (sha_h0, [], 0) := ⟨rfl, by decide, by decide, by decide, by decide⟩
theorem key_sum_len (kind : Int) (b : List Int) : (key_sum kind b).length = 32 := sha_sum_len (sha_wr_ok (sha_wr_ok sha_ok0 _) _)
theorem key_sum_byte (kind : Int) (b : List Int) : ∀ y ∈ key_sum kind b, 0 ≤ y ∧ y ≤ 255 := sha_sum_byte _
theorem key_Of.ev (kind : Int) (b : List Int) (hb : b.length < 10000000000) : Ev (fun k => key_Of.f k kind b) (key_txt (key_sum kind b)) := by
  unfold key_Of.f
  refine Ev.bind sha_New.ev ?_
  refine Ev.bind (sha_Write.ev sha_ok0 [kind % 256] (by simp)) ?_
  refine Ev.bind (sha_Write.ev (sha_wr_ok sha_ok0 [kind % 256]) b hb) ?_
  refine Ev.bind (sha_Done.ev (sha_wr_ok (sha_wr_ok sha_ok0 [kind % 256]) b)) ?_
  refine Ev.bind (key_text.ev _ (by rw [sha_sum_len (sha_wr_ok (sha_wr_ok sha_ok0 [kind % 256]) b)]; decide) (sha_sum_byte _)) ?_
  exact Ev.now _
end Go.Proofs.YtbclnkhcnclfoaaDoor.Q
