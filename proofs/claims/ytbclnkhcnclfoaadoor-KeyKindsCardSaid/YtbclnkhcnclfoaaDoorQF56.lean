-- Laid by wip/xprint.py (a program of this session, on the kit's printer) out of the translation. Not trusted: Lean checks it.
import Derived.Test.YtbclnkhcnclfoaaDoorQ0
import Derived.Test.YtbclnkhcnclfoaaDoorQF89
import Derived.Test.YtbclnkhcnclfoaaDoorQF93
import Derived.Test.YtbclnkhcnclfoaaDoorQF94
import Derived.Outline
import Derived.WalkLawsBesides
import Derived.Laws.EntriesVeiled
import Derived.Recover
import Derived.StillTailTactics
namespace Go.Proofs.YtbclnkhcnclfoaaDoor.Q
open Go.RowKit Go.Proofs.YtbclnkhcnclfoaaDoorW.PrintWords Go.Proofs.YtbclnkhcnclfoaaDoorW.PrintLast Go.Proofs.YtbclnkhcnclfoaaDoorW.PrintMore
attribute [local go_sem] max2_int min2_int max_two min_two max_three min_three max_four min_four   -- for this text's walks alone
set_option linter.unusedVariables false
set_option linter.unusedSimpArgs false

/-! ### sha_Write: function 56 -/
-- with Derived.Outline
-- with Derived.WalkLawsBesides
-- with Derived.Laws.EntriesVeiled
-- with Derived.Recover
-- with Derived.StillTailTactics
theorem rot_cnt (c : Int) (hc : 1 ≤ c) (hc2 : c ≤ 31) : Go.bits .and .u64 (IntKind.u64.wrap (-c)) 31 = 32 - c := by
  have h : ∀ n : Fin 32, 1 ≤ n.val → Go.bits .and .u64 (IntKind.u64.wrap (-(n.val : Int))) 31 = 32 - (n.val : Int) := by decide +kernel
  obtain ⟨n, rfl⟩ := Int.eq_ofNat_of_zero_le (show 0 ≤ c by omega)
  exact h ⟨n, by omega⟩ (by simp; omega)
def sha_rot (x c : Int) : Int := Go.bits .or .u32 (x * 2 ^ (32 - c).toNat % 4294967296) (x / 2 ^ (32 - (32 - c)).toNat)
theorem rot153 (x c : Int) (w : World) (hc : 1 ≤ c) (hc2 : c ≤ 31) :
    Calls Tryd.prog 153 #[.int .u32 x, .int .i64 (-c)] w fun e w' => e = .returned (.int .u32 (sha_rot x c)) ∧ w' = w := by
  have hs := rot_cnt c hc hc2
  go_enter Tryd.func153, Tryd.ntmps153
  go_wp2
  go_ret
  exact ⟨rfl, rfl⟩
def sha_turn (a b c : Int) (s : Bool) (x : Int) : Int := Go.bits .xor .u32 (Go.bits .xor .u32 (sha_rot x a) (sha_rot x b)) (if s then x / 2 ^ c.toNat else sha_rot x c)
theorem turn152 (x a b c : Int) (s : Bool) (p1 p2 p3 p4 : Nat) (w : World) (h1 : w.cell? ⟨p1, 0, none⟩ = some (.int .i64 c)) (h2 : w.cell? ⟨p2, 0, none⟩ = some (.bool s)) (h3 : w.cell? ⟨p3, 0, none⟩ = some (.int .i64 a)) (h4 : w.cell? ⟨p4, 0, none⟩ = some (.int .i64 b)) (ha : 1 ≤ a) (ha2 : a ≤ 31) (hb : 1 ≤ b) (hb2 : b ≤ 31) (hc : 1 ≤ c) (hc2 : c ≤ 31) :
    Calls Tryd.prog 152 #[.int .u32 x, .pointer (some ⟨p1, 0, none⟩), .pointer (some ⟨p2, 0, none⟩), .pointer (some ⟨p3, 0, none⟩), .pointer (some ⟨p4, 0, none⟩)] w fun e w' => e = .returned (.int .u32 (sha_turn a b c s x)) ∧ Drawn0 w w' := by
  cases s
  · go_enter Tryd.func152, Tryd.ntmps152
    go_wp2_with (go_at_call 153; refine (rot153 _ _ _ (by assumption) (by assumption)).mono ?_; rintro e w' ⟨rfl, rfl⟩)
    go_quiet ((go_at_call 153; exact Calls.quiet_of_same (rot153 _ _ _ (by assumption) (by assumption))))
    go_wp2
    go_ret
    exact ⟨rfl, ⟨_, rfl⟩⟩
  · go_enter Tryd.func152, Tryd.ntmps152
    go_wp2_with (go_at_call 153; refine (rot153 _ _ _ (by assumption) (by assumption)).mono ?_; rintro e w' ⟨rfl, rfl⟩)
    go_quiet ((go_at_call 153; exact Calls.quiet_of_same (rot153 _ _ _ (by assumption) (by assumption))))
    go_wp2
    go_ret
    exact ⟨rfl, ⟨_, rfl⟩⟩
/-- What a function that 'turn' made leads to. -/
structure Clo (w : World) (n : Nat) (a b c : Int) (s : Bool) : Prop where
  ha : w.heap[n]? = some (.cells #[.int .i64 a] 3 (0, 0))
  hb : w.heap[n + 1]? = some (.cells #[.int .i64 b] 3 (0, 0))
  hc : w.heap[n + 2]? = some (.cells #[.int .i64 c] 3 (0, 0))
  hs : w.heap[n + 3]? = some (.cells #[.bool s] 4 (0, 0))
theorem Clo.lt {w : World} {n : Nat} {a b c : Int} {s : Bool} (h : Clo w n a b c s) : n + 4 ≤ w.heap.size := blk_lt h.hs
theorem Clo.keep {w w' : World} {n B : Nat} {a b c : Int} {s : Bool} (h : Clo w n a b c s) (hn : n + 4 ≤ B) (hb : Below B w w') : Clo w' n a b c s :=
  ⟨(hb.block _ (by omega)).trans h.ha, (hb.block _ (by omega)).trans h.hb, (hb.block _ (by omega)).trans h.hc, (hb.block _ (by omega)).trans h.hs⟩
theorem turn120 (a b c : Int) (s : Bool) (w : World) :
    Calls Tryd.prog 120 #[.int .i64 a, .int .i64 b, .int .i64 c, .bool s] w fun e w' => e = .returned (.func (.func 152) #[] #[.pointer (some ⟨w.heap.size + 2, 0, none⟩), .pointer (some ⟨w.heap.size + 3, 0, none⟩), .pointer (some ⟨w.heap.size, 0, none⟩), .pointer (some ⟨w.heap.size + 1, 0, none⟩)]) ∧ Clo w' w.heap.size a b c s ∧ Below w.heap.size w w' := by
  have hmf : ∀ (fn : Fn) (first cap : Array Value) (w : World), (Instr.makeFunc fn first cap).run Tryd.prog w = .ok (.func fn first cap) w := fun _ _ _ _ => rfl
  refine Calls.mono (R := fun e w' => e = .returned (.func (.func 152) #[] #[.pointer (some ⟨w.heap.size + 2, 0, none⟩), .pointer (some ⟨w.heap.size + 3, 0, none⟩), .pointer (some ⟨w.heap.size, 0, none⟩), .pointer (some ⟨w.heap.size + 1, 0, none⟩)]) ∧ w' = (((w.alloc (.cells #[.int .i64 a] 3)).alloc (.cells #[.int .i64 b] 3)).alloc (.cells #[.int .i64 c] 3)).alloc (.cells #[.bool s] 4)) ?_ ?_
  · go_enter Tryd.func120, Tryd.ntmps120
    go_wp2
    go_ret
    exact ⟨rfl, rfl⟩
  · rintro e w' ⟨rfl, rfl⟩
    refine ⟨rfl, ⟨?_, ?_, ?_, ?_⟩, ?_⟩
    · exact blk_alloc (blk_alloc (blk_alloc (blk_new _ _) _) _) _
    · exact blk_alloc (blk_alloc (by simpa using blk_new (w.alloc (.cells #[.int .i64 a] 3)) (.cells #[.int .i64 b] 3)) _) _
    · exact blk_alloc (by simpa using blk_new ((w.alloc (.cells #[.int .i64 a] 3)).alloc (.cells #[.int .i64 b] 3)) (.cells #[.int .i64 c] 3)) _
    · simpa using blk_new (((w.alloc (.cells #[.int .i64 a] 3)).alloc (.cells #[.int .i64 b] 3)).alloc (.cells #[.int .i64 c] 3)) (.cells #[.bool s] 4)
    · exact below_alloc (below_alloc (below_alloc (below_alloc (Below.refl _ _) _) _) _) _
theorem Clo.drewN {w : World} {n : Nat} {a b c : Int} {s : Bool} (h : Clo w n a b c s) (m : Nat) : Clo (w.drewN m) n a b c s := ⟨h.ha, h.hb, h.hc, h.hs⟩
theorem Clo.calls {w : World} {n : Nat} {a b c : Int} {s : Bool} (h : Clo w n a b c s) (x : Int) (ha : 1 ≤ a ∧ a ≤ 31) (hb : 1 ≤ b ∧ b ≤ 31) (hc : 1 ≤ c ∧ c ≤ 31) :
    Calls Tryd.prog 152 #[.int .u32 x, .pointer (some ⟨n + 2, 0, none⟩), .pointer (some ⟨n + 3, 0, none⟩), .pointer (some ⟨n, 0, none⟩), .pointer (some ⟨n + 1, 0, none⟩)] w fun e w' => e = .returned (.int .u32 (sha_turn a b c s x)) ∧ Drawn0 w w' :=
  turn152 x a b c s _ _ _ _ w ((blk_cell h.hc 0).trans rfl) ((blk_cell h.hs 0).trans rfl) ((blk_cell h.ha 0).trans rfl) ((blk_cell h.hb 0).trans rfl) ha.1 ha.2 hb.1 hb.2 hc.1 hc.2
def sha_be (bl : List Int) (j0 j1 j2 j3 : Int) : Int := Go.bits .or .u32 (Go.bits .or .u32 (Go.bits .or .u32 (rd bl j0 % 4294967296 * 16777216 % 4294967296) (rd bl j1 % 4294967296 * 65536 % 4294967296)) (rd bl j2 % 4294967296 * 256 % 4294967296)) (rd bl j3 % 4294967296)
def sha_next (bl ws : List Int) (i : Int) : Int := if i < 16 then sha_be bl (4 * i) (4 * i + 1) (4 * i + 2) (4 * i + 3) else IntKind.u32.wrap (IntKind.u32.wrap (IntKind.u32.wrap (rd ws (i - 16) + rd ws (i - 7)) + sha_turn 7 18 3 true (rd ws (i - 15))) + sha_turn 17 19 10 true (rd ws (i - 2)))
def sha_ws (bl : List Int) : Nat → List Int
  | 0 => List.replicate 64 0
  | i + 1 => (sha_ws bl i).set i (sha_next bl (sha_ws bl i) i)
theorem sha_ws_len (bl : List Int) : ∀ i, (sha_ws bl i).length = 64
  | 0 => by simp [sha_ws]
  | i + 1 => by rw [sha_ws, List.length_set, sha_ws_len bl i]
theorem nums_put (k : IntKind) (xs : List Int) (i : Nat) (v : Int) : ((nums k xs).toArray).setIfInBounds i (.int k v) = (nums k (xs.set i v)).toArray := by
  simp [nums, List.map_set]
theorem arr_cell {w : World} {g : Nat} {t : TypeId} {k : IntKind} {xs : List Int} (h : w.heap[g]? = some (.cells (nums k xs).toArray t (0, 0))) (i : Int) (h0 : 0 ≤ i) (h1 : i < xs.length) : w.cell? ⟨g, i.toNat, none⟩ = some (.int k (rd xs i)) := by
  rw [blk_cell h]
  have : i.toNat < xs.length := by omega
  simp [nums, rd, this]
theorem cell_off {w : World} {b i j : Nat} {u v : Value} (hne : ¬ j = i) (h : w.cell? ⟨b, j, none⟩ = some u) : (w.setCell ⟨b, i, none⟩ v).cell? ⟨b, j, none⟩ = some u :=
  (World.cell?_setCell_other (w := w) (v := v) (a := ⟨b, i, none⟩) (b := ⟨b, j, none⟩) (by intro e; injection e with _ e; exact hne e.symm)).trans h
theorem Clo.cells {w : World} {n : Nat} {a b c : Int} {s : Bool} (h : Clo w n a b c s) : w.cell? ⟨n + 2, 0, none⟩ = some (.int .i64 c) ∧ w.cell? ⟨n + 3, 0, none⟩ = some (.bool s) ∧ w.cell? ⟨n, 0, none⟩ = some (.int .i64 a) ∧ w.cell? ⟨n + 1, 0, none⟩ = some (.int .i64 b) :=
  ⟨(blk_cell h.hc 0).trans rfl, (blk_cell h.hs 0).trans rfl, (blk_cell h.ha 0).trans rfl, (blk_cell h.hb 0).trans rfl⟩
theorem run_index_arr (xs : List Int) (i : Nat) (hi : i < 64) (hx : xs.length = 64) (w : World) : (Instr.index 127 (.agg (nums .u32 xs).toArray) (.int .i64 (i : Int))).run Tryd.prog w = .ok (.int .u32 (rd xs i)) w := by
  have h1 : (0 : Int) ≤ (i : Int) ∧ (i : Int) < 64 := by omega
  have h2 : (nums .u32 xs)[i]? = some (.int .u32 (rd xs i)) := by simp [nums, rd, hx, hi]
  simp [Instr.index, run_underlying Tryd.underlying127, Sem.run_bind, asIntOf, Result.andThen, h1, go_sem]
  rw [if_pos hi, h2]
  rfl
theorem Clo.quiet {w : World} {n : Nat} {a b c : Int} {s : Bool} (h : Clo w n a b c s) (ha : 1 ≤ a ∧ a ≤ 31) (hb : 1 ≤ b ∧ b ≤ 31) (hc : 1 ≤ c ∧ c ≤ 31) (x : Int) (m : Nat) :
    Calls Tryd.prog 152 #[.int .u32 x, .pointer (some ⟨n + 2, 0, none⟩), .pointer (some ⟨n + 3, 0, none⟩), .pointer (some ⟨n, 0, none⟩), .pointer (some ⟨n + 1, 0, none⟩)] (w.drewN m) fun e w' => e = .returned (.int .u32 (sha_turn a b c s x)) ∧ ∃ q, w' = w.drewN q :=
  Calls.quiet_of ((Clo.calls (w := w.drewN m) ⟨h.ha, h.hb, h.hc, h.hs⟩ x ha hb hc).mono fun _ _ ⟨he, hd⟩ => ⟨he, hd.out⟩)
structure V8 where
  a : Int
  b : Int
  c : Int
  d : Int
  e : Int
  f : Int
  g : Int
  h : Int
def V8.cells (v : V8) : Array Value := #[.int .u32 v.a, .int .u32 v.b, .int .u32 v.c, .int .u32 v.d, .int .u32 v.e, .int .u32 v.f, .int .u32 v.g, .int .u32 v.h]
theorem grown_set {w W : World} {g : Nat} (h : w.grownBy W (some g)) (i : Nat) (v : Value) : w.grownBy (W.setCell ⟨g, i, none⟩ v) (some g) :=
  ⟨h.os, h.tape, h.output, by have := h.size; simpa [World.setCell] using this, fun k hk hne => (Below.heap_setCell W ⟨g, i, none⟩ v k (fun e => hne (by rw [e]))).trans (h.block k hk hne)⟩
theorem grown_drew {w W : World} {g : Option Nat} (h : w.grownBy W g) : w.grownBy W.drew g := ⟨h.os, h.tape, h.output, h.size, h.block⟩
def V8.list (v : V8) : List Int := [v.a, v.b, v.c, v.d, v.e, v.f, v.g, v.h]
theorem V8.cells_list (v : V8) : v.cells = (nums .u32 v.list).toArray := rfl
def sha_adds (vs hs : List Int) : Nat → List Int
  | 0 => hs
  | i + 1 => (sha_adds vs hs i).set i ((rd (sha_adds vs hs i) i + rd vs i) % 4294967296)
theorem sha_adds_len (vs hs : List Int) : ∀ i, (sha_adds vs hs i).length = hs.length
  | 0 => rfl
  | i + 1 => by rw [sha_adds, List.length_set, sha_adds_len vs hs i]
theorem blk_put8 {w : World} {g t : Nat} {c0 c1 c2 c3 c4 c5 c6 c7 d0 d1 d2 d3 d4 d5 d6 d7 : Value} (h : w.heap[g]? = some (.cells #[c0, c1, c2, c3, c4, c5, c6, c7] t (0, 0))) : ((((((((w.setCell ⟨g, 0, none⟩ d0).setCell ⟨g, 1, none⟩ d1).setCell ⟨g, 2, none⟩ d2).setCell ⟨g, 3, none⟩ d3).setCell ⟨g, 4, none⟩ d4).setCell ⟨g, 5, none⟩ d5).setCell ⟨g, 6, none⟩ d6).setCell ⟨g, 7, none⟩ d7).heap[g]? = some (.cells #[d0, d1, d2, d3, d4, d5, d6, d7] t (0, 0)) := by
  have e := (blk_set (blk_set (blk_set (blk_set (blk_set (blk_set (blk_set (blk_set h 0 d0) 1 d1) 2 d2) 3 d3) 4 d4) 5 d5) 6 d6) 7 d7)
  simpa using e
theorem below8 {a w : World} {B g : Nat} (h : Below B a w) (hg : B ≤ g) (d0 d1 d2 d3 d4 d5 d6 d7 : Value) : Below B a ((((((((w.setCell ⟨g, 0, none⟩ d0).setCell ⟨g, 1, none⟩ d1).setCell ⟨g, 2, none⟩ d2).setCell ⟨g, 3, none⟩ d3).setCell ⟨g, 4, none⟩ d4).setCell ⟨g, 5, none⟩ d5).setCell ⟨g, 6, none⟩ d6).setCell ⟨g, 7, none⟩ d7) := (Below.setCell (Below.setCell (Below.setCell (Below.setCell (Below.setCell (Below.setCell (Below.setCell (Below.setCell h (p := ⟨g, 0, none⟩) hg d0) (p := ⟨g, 1, none⟩) hg d1) (p := ⟨g, 2, none⟩) hg d2) (p := ⟨g, 3, none⟩) hg d3) (p := ⟨g, 4, none⟩) hg d4) (p := ⟨g, 5, none⟩) hg d5) (p := ⟨g, 6, none⟩) hg d6) (p := ⟨g, 7, none⟩) hg d7)
def sha_t (ks ws : List Int) (i : Nat) (v : V8) : Int := v.h + sha_turn 6 11 25 false v.e + Go.bits .or .u32 (Go.bits .and .u32 v.e v.f) (Go.bits .andNot .u32 v.g v.e) + rd ks i + rd ws i
def sha_u (v : V8) : Int := sha_turn 2 13 22 false v.a + Go.bits .or .u32 (Go.bits .or .u32 (Go.bits .and .u32 v.a v.b) (Go.bits .and .u32 v.a v.c)) (Go.bits .and .u32 v.b v.c)
def sha_round (ks ws : List Int) (i : Nat) (v : V8) : V8 := ⟨(sha_t ks ws i v + sha_u v) % 4294967296, v.a, v.b, v.c, (v.d + sha_t ks ws i v) % 4294967296, v.e, v.f, v.g⟩
def sha_rounds (ks ws : List Int) (v : V8) : Nat → V8
  | 0 => v
  | i + 1 => sha_round ks ws i (sha_rounds ks ws v i)
def sha_block (ks bl : List Int) (v : V8) : List Int := sha_adds (sha_rounds ks (sha_ws bl 64) v 64).list v.list 8
set_option maxHeartbeats 8000000 in
set_option maxRecDepth 100000 in
theorem block92 (hb kb : Nat) (v0 : V8) (ks : List Int) (A : Option Addr) (c : Nat) (bl : List Int) (w : World) (hH : w.heap[hb]? = some (.cells v0.cells 126 (0, 0))) (hK : w.heap[kb]? = some (.cells (nums .u32 ks).toArray 127 (0, 0)))
    (hne : hb ≠ kb) (hks : ks.length = 64) (hr : Kd.C (Kd.int .u8) w A bl.length bl) (hbl : bl.length = 64) :
    Calls Tryd.prog 92 #[.pointer (some ⟨hb, 0, none⟩), .pointer (some ⟨kb, 0, none⟩), .slice A bl.length c] w fun e w' => e = .returned (.tuple #[]) ∧ w'.heap[hb]? = some (.cells (nums .u32 (sha_block ks bl v0)).toArray 126 (0, 0)) ∧ w.grownBy w' (some hb) := by
  have H1 := Aside0.mk hH
  have H2 := Aside0.mk hK
  have H4 := Aside0.mk hks
  have HR := Aside0.mk hr
  have HL := Aside0.mk hbl
  clear hH hK hks hr hbl
  go_enter Tryd.func92, Tryd.ntmps92
  go_wp2_with fail
  refine (turn120 _ _ _ _ _).mono ?_
  rintro e w1 ⟨rfl, c1, b1⟩
  obtain ⟨n1, hn1⟩ : ∃ n, n = w.heap.size := ⟨_, rfl⟩
  rw [← hn1] at c1 ⊢
  clear hn1
  go_wp2_with fail
  refine (turn120 _ _ _ _ _).mono ?_
  rintro e w2 ⟨rfl, c2, b2⟩
  obtain ⟨n2, hn2⟩ : ∃ n, n = w1.heap.size := ⟨_, rfl⟩
  rw [← hn2] at c2 ⊢
  clear hn2
  go_wp2_with fail
  refine (turn120 _ _ _ _ _).mono ?_
  rintro e w3 ⟨rfl, c3, b3⟩
  obtain ⟨n3, hn3⟩ : ∃ n, n = w2.heap.size := ⟨_, rfl⟩
  rw [← hn3] at c3 ⊢
  clear hn3
  go_wp2_with fail
  refine (turn120 _ _ _ _ _).mono ?_
  rintro e w4 ⟨rfl, c4, b4⟩
  obtain ⟨n4, hn4⟩ : ∃ n, n = w3.heap.size := ⟨_, rfl⟩
  rw [← hn4] at c4 ⊢
  clear hn4
  have B := Aside0.mk (below_step (below_step (below_step b1 b2) b3) b4)
  have C1 := Aside0.mk (((c1.keep c1.lt b2).keep (Nat.le_trans c1.lt b2.size) b3).keep (Nat.le_trans c1.lt (Nat.le_trans b2.size b3.size)) b4)
  have C2 := Aside0.mk ((c2.keep c2.lt b3).keep (Nat.le_trans c2.lt b3.size) b4)
  have C3 := Aside0.mk (c3.keep c3.lt b4)
  have C4 := Aside0.mk c4
  clear c1 c2 c3 c4 b1 b2 b3 b4 w1 w2 w3
  go_wp2
  have e0 : w4.alloc (Obj.cells (nums .u32 (sha_ws bl 0)).toArray 127) = w4.alloc (Obj.cells (nums .u32 (sha_ws bl 0)).toArray 127) := rfl
  go_loopg [11, 22] 64 (fun g v11 v22 wr => ∃ i : Nat, v22 = .int .i64 i ∧ Aside0 (i + g = 64) ∧ Aside0 (wr.heap[w4.heap.size]? = some (.cells (nums .u32 (sha_ws bl i)).toArray 127 (0, 0))) ∧ Aside0 (Below w4.heap.size w4 wr))
  case atStart => exact ⟨0, rfl, ⟨by omega⟩, ⟨heap_alloc_new w4 _⟩, ⟨below_alloc (Below.refl _ _) _⟩⟩
  case round =>
    obtain ⟨i, rfl, Hg, Hw, HB⟩ := hrel
    have hwl := sha_ws_len bl i
    by_cases hi : i < 64
    · have hi' : (i : Int) < 64 := by omega
      by_cases h16 : i < 16
      · have h16' : (i : Int) < 16 := by omega
        have hCw := Kd.C_below HR.out (below_step B.out HB.out)
        obtain ⟨j0, hj0⟩ : ∃ j : Int, IntKind.i64.wrap (4 * (i : Int)) = j := ⟨_, rfl⟩
        obtain ⟨j1, hj1⟩ : ∃ j : Int, IntKind.i64.wrap (j0 + 1) = j := ⟨_, rfl⟩
        obtain ⟨j2, hj2⟩ : ∃ j : Int, IntKind.i64.wrap (j0 + 2) = j := ⟨_, rfl⟩
        obtain ⟨j3, hj3⟩ : ∃ j : Int, IntKind.i64.wrap (j0 + 3) = j := ⟨_, rfl⟩
        have r0 : j0 = 4 * (i : Int) := by rw [← hj0, IntKind.wrap_i64]; omega
        have r1 : j1 = 4 * (i : Int) + 1 := by rw [← hj1, IntKind.wrap_i64]; omega
        have r2 : j2 = 4 * (i : Int) + 2 := by rw [← hj2, IntKind.wrap_i64]; omega
        have r3 : j3 = 4 * (i : Int) + 3 := by rw [← hj3, IntKind.wrap_i64]; omega
        have hL := HL.out
        obtain ⟨ad, rfl, q0⟩ := Kd.at_int hCw j0 (by omega) (by omega)
        obtain ⟨_, ea, q1⟩ := Kd.at_int hCw j1 (by omega) (by omega)
        cases ea
        obtain ⟨_, ea, q2⟩ := Kd.at_int hCw j2 (by omega) (by omega)
        cases ea
        obtain ⟨_, ea, q3⟩ := Kd.at_int hCw j3 (by omega) (by omega)
        cases ea
        have g0 : 0 ≤ j0 := by omega
        have g1 : 0 ≤ j1 := by omega
        have g2 : 0 ≤ j2 := by omega
        have g3 : 0 ≤ j3 := by omega
        have l0 : j0 < (bl.length : Int) := by omega
        have l1 : j1 < (bl.length : Int) := by omega
        have l2 : j2 < (bl.length : Int) := by omega
        have l3 : j3 < (bl.length : Int) := by omega
        have R0 := Aside0.mk r0
        have R1 := Aside0.mk r1
        have R2 := Aside0.mk r2
        have R3 := Aside0.mk r3
        clear hCw hL r0 r1 r2 r3
        go_wp2
        go_still_tail 34, (by kernel_rfl)
        change wpList _ _ _ _ _ wr.drew
        have hcw : wr.cell? ⟨w4.heap.size, i, none⟩ = some (.int .u32 (rd (sha_ws bl i) i)) := by rw [blk_cell Hw.out]; simp [nums, rd, hwl, hi]
        have hfw : wr.frozen? ⟨w4.heap.size, i, none⟩ = false := blk_frozen Hw.out i
        go_wp2
        obtain ⟨g', rfl⟩ : ∃ g', gk = g' + 1 := ⟨gk - 1, by have := Hg.out; omega⟩
        go_roundg g'
        case measure => omega
        case rel =>
          refine ⟨i + 1, by go_num, ⟨by have := Hg.out; omega⟩, ⟨(blk_put (w := wr) Hw.out i _ ?_).trans rfl⟩, ⟨below_drew (Below.setCell HB.out (p := ⟨w4.heap.size, i, none⟩) (Nat.le_refl _) _)⟩⟩
          rw [nums_put, sha_ws, sha_next, if_pos h16', ← R3.out, ← R2.out, ← R1.out, ← R0.out]
          rfl
      · have h16' : ¬ (i : Int) < 16 := by omega
        obtain ⟨j0, hj0⟩ : ∃ j : Int, IntKind.i64.wrap ((i : Int) - 16) = j := ⟨_, rfl⟩
        obtain ⟨j1, hj1⟩ : ∃ j : Int, IntKind.i64.wrap ((i : Int) - 7) = j := ⟨_, rfl⟩
        obtain ⟨j2, hj2⟩ : ∃ j : Int, IntKind.i64.wrap ((i : Int) - 15) = j := ⟨_, rfl⟩
        obtain ⟨j3, hj3⟩ : ∃ j : Int, IntKind.i64.wrap ((i : Int) - 2) = j := ⟨_, rfl⟩
        have r0 : j0 = (i : Int) - 16 := by rw [← hj0, IntKind.wrap_i64]; omega
        have r1 : j1 = (i : Int) - 7 := by rw [← hj1, IntKind.wrap_i64]; omega
        have r2 : j2 = (i : Int) - 15 := by rw [← hj2, IntKind.wrap_i64]; omega
        have r3 : j3 = (i : Int) - 2 := by rw [← hj3, IntKind.wrap_i64]; omega
        have q0 := arr_cell Hw.out j0 (by omega) (by omega)
        have q1 := arr_cell Hw.out j1 (by omega) (by omega)
        have q2 := arr_cell Hw.out j2 (by omega) (by omega)
        have q3 := arr_cell Hw.out j3 (by omega) (by omega)
        have g0 : 0 ≤ j0 ∧ j0 < 64 := by omega
        have g1 : 0 ≤ j1 ∧ j1 < 64 := by omega
        have g2 : 0 ≤ j2 ∧ j2 < 64 := by omega
        have g3 : 0 ≤ j3 ∧ j3 < 64 := by omega
        have R0 := Aside0.mk r0
        have R1 := Aside0.mk r1
        have R2 := Aside0.mk r2
        have R3 := Aside0.mk r3
        obtain ⟨u1, u2, u3, u4⟩ := (C1.out.keep C1.out.lt HB.out).cells
        obtain ⟨v1, v2, v3, v4⟩ := (C2.out.keep C2.out.lt HB.out).cells
        have hcw : wr.cell? ⟨w4.heap.size, i, none⟩ = some (.int .u32 (rd (sha_ws bl i) i)) := by rw [blk_cell Hw.out]; simp [nums, rd, hwl, hi]
        have hfw : wr.frozen? ⟨w4.heap.size, i, none⟩ = false := blk_frozen Hw.out i
        have e0 : ¬ i = j0.toNat := by omega
        have e1 : ¬ i = j1.toNat := by omega
        have e2 : ¬ i = j2.toNat := by omega
        have e3 : ¬ i = j3.toNat := by omega
        have e0' : ¬ j0.toNat = i := by omega
        have e1' : ¬ j1.toNat = i := by omega
        have e2' : ¬ j2.toNat = i := by omega
        have e3' : ¬ j3.toNat = i := by omega
        have L1 := C1.out.lt
        have L2 := C2.out.lt
        have d1 : ¬ w4.heap.size = n1 ∧ ¬ w4.heap.size = n1 + 1 ∧ ¬ w4.heap.size = n1 + 2 ∧ ¬ w4.heap.size = n1 + 3 := by omega
        have d2 : ¬ w4.heap.size = n2 ∧ ¬ w4.heap.size = n2 + 1 ∧ ¬ w4.heap.size = n2 + 2 ∧ ¬ w4.heap.size = n2 + 3 := by omega
        have d3 : ¬ n1 = w4.heap.size ∧ ¬ n1 + 1 = w4.heap.size ∧ ¬ n1 + 2 = w4.heap.size ∧ ¬ n1 + 3 = w4.heap.size := by omega
        have d4 : ¬ n2 = w4.heap.size ∧ ¬ n2 + 1 = w4.heap.size ∧ ¬ n2 + 2 = w4.heap.size ∧ ¬ n2 + 3 = w4.heap.size := by omega
        clear r0 r1 r2 r3 L1 L2
        go_wp2
        go_region_held3 (fun w' => w'.cell? ⟨w4.heap.size, j0.toNat, none⟩ = some (.int .u32 (rd (sha_ws bl i) j0)) ∧ w'.cell? ⟨w4.heap.size, j1.toNat, none⟩ = some (.int .u32 (rd (sha_ws bl i) j1)) ∧ w'.cell? ⟨w4.heap.size, j2.toNat, none⟩ = some (.int .u32 (rd (sha_ws bl i) j2)) ∧ w'.cell? ⟨w4.heap.size, j3.toNat, none⟩ = some (.int .u32 (rd (sha_ws bl i) j3)) ∧ w'.cell? ⟨n1 + 2, 0, none⟩ = some (.int .i64 3) ∧ w'.cell? ⟨n1 + 3, 0, none⟩ = some (.bool true) ∧ w'.cell? ⟨n1, 0, none⟩ = some (.int .i64 7) ∧ w'.cell? ⟨n1 + 1, 0, none⟩ = some (.int .i64 18) ∧ w'.cell? ⟨n2 + 2, 0, none⟩ = some (.int .i64 10) ∧ w'.cell? ⟨n2 + 3, 0, none⟩ = some (.bool true) ∧ w'.cell? ⟨n2, 0, none⟩ = some (.int .i64 17) ∧ w'.cell? ⟨n2 + 1, 0, none⟩ = some (.int .i64 19)) ((first | ((with_reducible refine ⟨cell_off e0' ?_, cell_off e1' ?_, cell_off e2' ?_, cell_off e3' ?_, ?_, ?_, ?_, ?_, ?_, ?_, ?_, ?_⟩) <;> go_keep) | go_keep)) (first | (go_at_call 152; (with_reducible refine (turn152 _ 7 18 3 true (n1 + 2) (n1 + 3) n1 (n1 + 1) _ ?_ ?_ ?_ ?_ (by omega) (by omega) (by omega) (by omega) (by omega) (by omega)).mono ?_); (simp [*]); (simp [*]); (simp [*]); (simp [*]); rintro e w' ⟨rfl, ⟨n, rfl⟩⟩) | (go_at_call 152; (with_reducible refine (turn152 _ 17 19 10 true (n2 + 2) (n2 + 3) n2 (n2 + 1) _ ?_ ?_ ?_ ?_ (by omega) (by omega) (by omega) (by omega) (by omega) (by omega)).mono ?_); (simp [*]); (simp [*]); (simp [*]); (simp [*]); rintro e w' ⟨rfl, ⟨n, rfl⟩⟩))
        obtain ⟨g', rfl⟩ : ∃ g', gk = g' + 1 := ⟨gk - 1, by have := Hg.out; omega⟩
        go_wp2
        go_roundg g'
        case measure => omega
        case rel =>
          refine ⟨i + 1, by go_num, ⟨by have := Hg.out; omega⟩, ⟨(blk_put (w := wr) Hw.out i _ ?_).trans rfl⟩, ⟨pw_below_drewN (Below.setCell HB.out (p := ⟨w4.heap.size, i, none⟩) (Nat.le_refl _) _) _⟩⟩
          rw [nums_put, sha_ws, sha_next, if_neg (show ¬ (i : Int) < 16 by omega), ← R3.out, ← R2.out, ← R1.out, ← R0.out]
          rfl
    · have hi' : ¬ (i : Int) < 64 := by omega
      obtain ⟨ws, hws⟩ : ∃ ws, ws = sha_ws bl i := ⟨_, rfl⟩
      rw [← hws] at Hw hwl
      have HWS := Aside0.mk (show i = 64 ∧ ws = sha_ws bl i from ⟨by have := Hg.out; omega, hws⟩)
      clear hws hi Hg
      have Bw := below_step B.out HB.out
      have Hh := blk_below H1.out Bw
      have Hk := blk_below H2.out Bw
      obtain ⟨x0, x1, x2, x3, x4, x5, x6, x7⟩ := v0
      have HH := Aside0.mk (show wr.heap[hb]? = some (.cells #[.int .u32 x0, .int .u32 x1, .int .u32 x2, .int .u32 x3, .int .u32 x4, .int .u32 x5, .int .u32 x6, .int .u32 x7] 126 (0, 0)) from Hh)
      have HK := Aside0.mk Hk
      have HBw := Aside0.mk Bw
      have hul := Tryd.underlying126
      clear Hh Hk Bw
      have hidx := fun i hi => run_index_arr ws i hi hwl
      go_wp2_with (first | (with_reducible refine wpList_load_row rfl 126 (.tmp 89) rfl hb rfl 126 _ (0, 0) _ HH.out Tryd.underlying126 rfl (by kernel_rfl) ?_) | (with_reducible refine wpList_load_row rfl 127 (.tmp 10) rfl w4.heap.size rfl 127 _ (0, 0) _ (blk_alloc Hw.out _) Tryd.underlying127 rfl (by rw [List.size_toArray, nums_length, hwl]; kernel_rfl) ?_))
      obtain ⟨wo, hwo⟩ : ∃ wo : World, wo = wr := ⟨_, rfl⟩
      rw [← hwo] at HH HK HBw HB Hw ⊢
      clear hwo
      go_loopg [13, 14, 15, 16, 92] 64 (fun g v13 v14 v15 v16 v92 wr => ∃ (j : Nat) (v : V8), v92 = .int .i64 j ∧ Aside0 (j + g = 64) ∧ Aside0 (wr.heap[wo.heap.size]? = some (.cells v.cells 126 (0, 0))) ∧ Aside0 (Below wo.heap.size wo wr) ∧ Aside0 (v = sha_rounds ks ws ⟨x0, x1, x2, x3, x4, x5, x6, x7⟩ j))
      case atStart => exact ⟨0, ⟨x0, x1, x2, x3, x4, x5, x6, x7⟩, rfl, ⟨by omega⟩, ⟨heap_alloc_new wo _⟩, ⟨below_alloc (Below.refl _ _) _⟩, ⟨rfl⟩⟩
      case round =>
        obtain ⟨j, ⟨y0, y1, y2, y3, y4, y5, y6, y7⟩, rfl, Hg, Hv, HB2, HV⟩ := hrel
        by_cases hj : j < 64
        · have hj' : (j : Int) < 64 := by omega
          have hji := hidx j hj
          have q0 : wr.cell? ⟨wo.heap.size, 0, none⟩ = some (.int .u32 y0) := (blk_cell Hv.out 0).trans rfl
          have q1 : wr.cell? ⟨wo.heap.size, 1, none⟩ = some (.int .u32 y1) := (blk_cell Hv.out 1).trans rfl
          have q2 : wr.cell? ⟨wo.heap.size, 2, none⟩ = some (.int .u32 y2) := (blk_cell Hv.out 2).trans rfl
          have q3 : wr.cell? ⟨wo.heap.size, 3, none⟩ = some (.int .u32 y3) := (blk_cell Hv.out 3).trans rfl
          have q4 : wr.cell? ⟨wo.heap.size, 4, none⟩ = some (.int .u32 y4) := (blk_cell Hv.out 4).trans rfl
          have q5 : wr.cell? ⟨wo.heap.size, 5, none⟩ = some (.int .u32 y5) := (blk_cell Hv.out 5).trans rfl
          have q6 : wr.cell? ⟨wo.heap.size, 6, none⟩ = some (.int .u32 y6) := (blk_cell Hv.out 6).trans rfl
          have q7 : wr.cell? ⟨wo.heap.size, 7, none⟩ = some (.int .u32 y7) := (blk_cell Hv.out 7).trans rfl
          have qk : wr.cell? ⟨kb, j, none⟩ = some (.int .u32 (rd ks j)) := by
            have h := arr_cell (blk_below HK.out HB2.out) (j : Int) (by omega) (by have := H4.out; omega)
            simpa using h
          have K3 := (C3.out.keep C3.out.lt HB.out).keep (Nat.le_trans C3.out.lt HB.out.size) HB2.out
          have K4 := (C4.out.keep C4.out.lt HB.out).keep (Nat.le_trans C4.out.lt HB.out.size) HB2.out
          clear hidx
          go_wp2
          go_quiet ((go_at_call 152; exact Clo.quiet K4 (by omega) (by omega) (by omega) _ _))
          go_wp2
          obtain ⟨wq, hwq⟩ : ∃ wq, wq = wr.drewN nq := ⟨_, rfl⟩
          have K3q : Clo wq n3 2 13 22 false := by rw [hwq]; exact K3.drewN _
          have Hvq : wq.heap[wo.heap.size]? = some (.cells #[.int .u32 y0, .int .u32 y1, .int .u32 y2, .int .u32 y3, .int .u32 y4, .int .u32 y5, .int .u32 y6, .int .u32 y7] 126 (0, 0)) := by rw [hwq]; exact Hv.out
          have Hbq : Below wo.heap.size wo wq := by rw [hwq]; exact pw_below_drewN HB2.out _
          rw [← hwq]
          clear q0 q1 q2 q3 q4 q5 q6 q7 qk K3 K4 hwq
          have q0 : wq.cell? ⟨wo.heap.size, 0, none⟩ = some (.int .u32 y0) := (blk_cell Hvq 0).trans rfl
          have q1 : wq.cell? ⟨wo.heap.size, 1, none⟩ = some (.int .u32 y1) := (blk_cell Hvq 1).trans rfl
          have q2 : wq.cell? ⟨wo.heap.size, 2, none⟩ = some (.int .u32 y2) := (blk_cell Hvq 2).trans rfl
          have q3 : wq.cell? ⟨wo.heap.size, 3, none⟩ = some (.int .u32 y3) := (blk_cell Hvq 3).trans rfl
          have q4 : wq.cell? ⟨wo.heap.size, 4, none⟩ = some (.int .u32 y4) := (blk_cell Hvq 4).trans rfl
          have q5 : wq.cell? ⟨wo.heap.size, 5, none⟩ = some (.int .u32 y5) := (blk_cell Hvq 5).trans rfl
          have q6 : wq.cell? ⟨wo.heap.size, 6, none⟩ = some (.int .u32 y6) := (blk_cell Hvq 6).trans rfl
          have q7 : wq.cell? ⟨wo.heap.size, 7, none⟩ = some (.int .u32 y7) := (blk_cell Hvq 7).trans rfl
          have f0 : wq.frozen? ⟨wo.heap.size, 0, none⟩ = false := blk_frozen Hvq 0
          have f1 : wq.frozen? ⟨wo.heap.size, 1, none⟩ = false := blk_frozen Hvq 1
          have f2 : wq.frozen? ⟨wo.heap.size, 2, none⟩ = false := blk_frozen Hvq 2
          have f3 : wq.frozen? ⟨wo.heap.size, 3, none⟩ = false := blk_frozen Hvq 3
          have f4 : wq.frozen? ⟨wo.heap.size, 4, none⟩ = false := blk_frozen Hvq 4
          have f5 : wq.frozen? ⟨wo.heap.size, 5, none⟩ = false := blk_frozen Hvq 5
          have f6 : wq.frozen? ⟨wo.heap.size, 6, none⟩ = false := blk_frozen Hvq 6
          have f7 : wq.frozen? ⟨wo.heap.size, 7, none⟩ = false := blk_frozen Hvq 7
          have HVq := Aside0.mk Hvq
          have HBq := Aside0.mk Hbq
          clear Hvq Hbq
          go_quiet ((go_at_call 152; exact Clo.quiet K3q (by omega) (by omega) (by omega) _ _))
          obtain ⟨g', rfl⟩ : ∃ g', gk = g' + 1 := ⟨gk - 1, by have := Hg.out; omega⟩
          go_wp2
          go_roundg g'
          case measure => omega
          case rel => exact ⟨j + 1, sha_round ks ws j ⟨y0, y1, y2, y3, y4, y5, y6, y7⟩, by go_num, ⟨by have := Hg.out; omega⟩, ⟨blk_put8 (w := wq.drewN nq) HVq.out⟩, ⟨below8 (pw_below_drewN HBq.out _) (Nat.le_refl _) _ _ _ _ _ _ _ _⟩, ⟨by rw [sha_rounds, ← HV.out]⟩⟩
        · have hj' : ¬ (j : Int) < 64 := by omega
          obtain ⟨vv, hvv⟩ : ∃ vv : V8, vv = ⟨y0, y1, y2, y3, y4, y5, y6, y7⟩ := ⟨_, rfl⟩
          have HVV := Aside0.mk (show j = 64 ∧ vv = sha_rounds ks ws ⟨x0, x1, x2, x3, x4, x5, x6, x7⟩ j from ⟨by have := Hg.out; omega, hvv.trans HV.out⟩)
          have Hvl : wr.heap[wo.heap.size]? = some (.cells (nums .u32 vv.list).toArray 126 (0, 0)) := by rw [← V8.cells_list, hvv]; exact Hv.out
          have Hhl : wr.heap[hb]? = some (.cells (nums .u32 (V8.list ⟨x0, x1, x2, x3, x4, x5, x6, x7⟩)).toArray 126 (0, 0)) := by rw [← V8.cells_list]; exact blk_below HH.out HB2.out
          obtain ⟨h0, hh0⟩ : ∃ h0, h0 = V8.list ⟨x0, x1, x2, x3, x4, x5, x6, x7⟩ := ⟨_, rfl⟩
          have HH0 := Aside0.mk hh0
          rw [← hh0] at Hhl
          have hl8 : h0.length = 8 := by rw [hh0]; rfl
          have HHL := Aside0.mk Hhl
          have HVL := Aside0.mk Hvl
          have HL8 := Aside0.mk hl8
          have hhb : hb < wo.heap.size := blk_lt HH.out
          have HGr := Aside0.mk (grown_of_below (below_step HBw.out HB2.out) (some hb))
          clear hvv HV Hv Hg Hvl Hhl hh0 hl8 hidx hj HB2
          go_wp2
          obtain ⟨wp, hwp⟩ : ∃ wp : World, wp = wr := ⟨_, rfl⟩
          rw [← hwp] at HHL HVL HGr ⊢
          clear hwp
          go_loopg [17, 166] 8 (fun g v17 v166 wr => ∃ (i : Nat), v166 = .int .i64 i ∧ Aside0 (i + g = 8) ∧ Aside0 (wr.heap[hb]? = some (.cells (nums .u32 (sha_adds vv.list h0 i)).toArray 126 (0, 0))) ∧ Aside0 (wr.heap[wo.heap.size]? = some (.cells (nums .u32 vv.list).toArray 126 (0, 0))) ∧ Aside0 (w.grownBy wr (some hb)))
          case atStart => exact ⟨0, rfl, ⟨by omega⟩, HHL, HVL, HGr⟩
          case round =>
            obtain ⟨q, rfl, Hg, Hh, Hv, HG⟩ := hrel
            by_cases hq : q < 8
            · have hq' : (q : Int) < 8 := by omega
              have c0 := arr_cell Hh.out (q : Int) (by omega) (by rw [sha_adds_len, HL8.out]; omega)
              have c1 := arr_cell Hv.out (q : Int) (by omega) (by simp [V8.list]; omega)
              simp only [Int.toNat_natCast] at c0 c1
              have f0 : wr.frozen? ⟨hb, q, none⟩ = false := blk_frozen Hh.out q
              go_wp2
              go_still_tail 10, (by kernel_rfl)
              change wpList _ _ _ _ _ wr.drew
              go_wp2
              obtain ⟨g', rfl⟩ : ∃ g', gk = g' + 1 := ⟨gk - 1, by have := Hg.out; omega⟩
              go_roundg g'
              case measure => omega
              case rel =>
                refine ⟨q + 1, by go_num, ⟨by have := Hg.out; omega⟩, ⟨(blk_put (w := wr) Hh.out q _ ?_).trans rfl⟩, ⟨blk_far (w := wr) Hv.out (p := ⟨hb, q, none⟩) (fun e => by have : wo.heap.size = hb := e; omega) _⟩, ⟨grown_drew (grown_set HG.out q _)⟩⟩
                rw [nums_put, sha_adds]
            · have hq' : ¬ (q : Int) < 8 := by omega
              go_wp2
              go_end0
              refine ⟨rfl, ?_, HG.out⟩
              obtain ⟨ej, ev⟩ := HVV.out
              obtain ⟨ei, ew⟩ := HWS.out
              have eq : q = 8 := by have := Hg.out; omega
              have e := Hh.out
              rw [ev, HH0.out, ew, ej, ei, eq] at e
              exact e
def sha_constants.l0 : Nat → List Int → Nat → List Int → Option (List Int)
  | 0, _, _, _ => none
  | k + 1, ps, i, out => if i < ps.length then (if i < 64 then ((sha_root.f k (rd ps i) true).bind fun t => sha_constants.l0 k ps (i + 1) (out.set i t)) else none) else some out
def sha_constants.f (k : Nat) : Option (List Int) := (sha_primes.f k 64).bind fun ps => sha_constants.l0 k ps 0 (List.replicate 64 0)
theorem sha_constants.len : ∀ (k : Nat) (ps : List Int) (i : Nat) (out r : List Int), sha_constants.l0 k ps i out = some r → r.length = out.length
  | 0, _, _, _, _, h => by cases h
  | k + 1, ps, i, out, r, h => by
    unfold sha_constants.l0 at h
    split at h
    · split at h
      · obtain ⟨t, _, h2⟩ := Option.bind_eq_some_iff.1 h
        have := sha_constants.len k ps (i + 1) _ r h2
        simpa using this
      · cases h
    · rw [Option.some.inj h]
theorem blk_new1 (w : World) (o o' : Obj) : ((w.alloc o).alloc o').heap[w.heap.size + 1]? = some o' := by
  have e := blk_new (w.alloc o) o'
  rwa [show (w.alloc o).heap.size = w.heap.size + 1 from by simp] at e
theorem below_row {B g : Nat} {w0 w : World} (hb : Below B w0 w) (hBg : B ≤ g) (cs : Array Value) : Below B w0 (w.setRow g cs) :=
  ⟨hb.os, hb.tape, hb.output, by rw [setRow_size]; exact hb.size, fun k hk => (setRow_other w g k cs (by omega)).trans (hb.block k hk)⟩
theorem nums_one (k : IntKind) (xs : List Int) : (nums k xs).toArray.all (·.oneCell') = true := by simp [nums, Value.oneCell']
set_option maxHeartbeats 8000000 in
set_option maxRecDepth 100000 in
theorem sha_constants.calls (k : Nat) (r : List Int) (w : World) (h : sha_constants.f k = some r) :
    Calls Tryd.prog 91 #[] w fun e w' => e = .returned (.agg (nums .u32 r).toArray) ∧ Below w.heap.size w w' := by
  obtain ⟨ps, h1, h2⟩ := Option.bind_eq_some_iff.1 h
  have H1 := Aside0.mk h1
  have H2 := Aside0.mk h2
  clear h h1 h2
  go_enter Tryd.func91, Tryd.ntmps91
  go_wp2_with (go_at_call 93; refine (sha_primes.calls k 64 ps _ H1.out).mono ?_; rintro e w1 ⟨v, rfl, hR, hB⟩; have HB := Aside0.mk hB; obtain ⟨A, c, rfl, _⟩ := Kd.R_reads hR; have HR := Aside0.mk hR; clear hR hB)
  have hb0 : w1.heap[w.heap.size]? = some (.cells (nums .u32 (List.replicate 64 0)).toArray 127 (0, 0)) := blk_below (blk_alloc (blk_new w _) _) HB.out
  have hb1 : w1.heap[w.heap.size + 1]? = some (.cells (nums .u32 (List.replicate 64 0)).toArray 127 (0, 0)) := blk_below (blk_new1 w _ _) HB.out
  have hB : Below w.heap.size w w1 := below_step (below_alloc (below_alloc (Below.refl _ _) _) _) HB.out
  have hR : Kd.R (Kd.int .u64) 84 w1 (w.heap.size + 2) (fun k => w.heap.size + 2 ≤ k) (.slice A ps.length c) ps := by
    have e := Kd.R_bound HR.out
    simp at e
    exact Kd.R_mono e (fun k hk => hk.1)
  have B0 := Aside0.mk hb0
  have B1 := Aside0.mk hb1
  have BB := Aside0.mk hB
  have RR := Aside0.mk hR
  clear hb0 hb1 hB hR HB HR
  go_loopg [2, 3, 6] k (fun kq v2 v3 v6 wr => ∃ (i : Nat) (out : List Int), v6 = .int .i64 i ∧ Aside0 (sha_constants.l0 kq ps i out = some r) ∧ Aside0 (out.length = 64) ∧ Aside0 (kq ≤ k) ∧ Aside0 (wr.heap[w.heap.size]? = some (.cells (nums .u32 (List.replicate 64 0)).toArray 127 (0, 0))) ∧ Aside0 (wr.heap[w.heap.size + 1]? = some (.cells (nums .u32 out).toArray 127 (0, 0))) ∧ Aside0 (Below w.heap.size w wr) ∧ Aside0 (Kd.R (Kd.int .u64) 84 wr (w.heap.size + 2) (fun k => w.heap.size + 2 ≤ k) (.slice A ps.length c) ps))
  case atStart => exact ⟨0, List.replicate 64 0, rfl, H2, ⟨by simp⟩, ⟨Nat.le_refl _⟩, B0, B1, BB, RR⟩
  case round =>
    clear H2
    obtain ⟨i, out, rfl, HA, HL, HK, G0, G1, GB, GR⟩ := hrel
    cases gk with
    | zero => exact absurd HA.out (by simp [sha_constants.l0])
    | succ k1 =>
      have H := HA.out
      clear HA
      unfold sha_constants.l0 at H
      by_cases hi : i < ps.length
      · rw [if_pos hi] at H
        by_cases h64 : i < 64
        · rw [if_pos h64] at H
          obtain ⟨t, ht, H⟩ := Option.bind_eq_some_iff.1 H
          have HT := Aside0.mk ht
          have H' := Aside0.mk H
          clear ht H
          have hi' : (i : Int) < (ps.length : Int) := by omega
          have h64' : (i : Int) < 64 := by omega
          obtain ⟨_, _, he, hlc, hC⟩ := Kd.R_reads GR.out
          cases he
          obtain ⟨ad, rfl, hc⟩ := Kd.at_int hC (i : Int) (by omega) (by omega)
          simp only [Int.toNat_natCast] at hc
          have hcw : wr.cell? ⟨w.heap.size + 1, i, none⟩ = some (.int .u32 (rd out i)) := by
            have e := arr_cell G1.out (i : Int) (by omega) (by have := HL.out; omega)
            simpa using e
          have hfw : wr.frozen? ⟨w.heap.size + 1, i, none⟩ = false := blk_frozen G1.out i
          clear hC
          go_wp2_with (go_at_call 94; refine (sha_root.calls _ _ _ _ _ HT.out).mono ?_; rintro e w' ⟨rfl, ⟨n, rfl⟩⟩)
          go_roundg k1
          case measure => have := HK.out; omega
          case rel =>
            refine ⟨i + 1, out.set i t, by go_num, H', ⟨by rw [List.length_set]; exact HL.out⟩, ⟨by have := HK.out; omega⟩, ⟨?_⟩, ⟨?_⟩, ⟨?_⟩, ⟨?_⟩⟩
            · exact blk_far (w := wr.drewN n) (blk_drewN G0.out n) (p := ⟨w.heap.size + 1, i, none⟩) (fun e => by have : w.heap.size = w.heap.size + 1 := e; omega) _
            · exact blk_put (w := wr.drewN n) (blk_drewN G1.out n) i _ (nums_put _ _ _ _)
            · exact Below.setCell (pw_below_drewN GB.out n) (p := ⟨w.heap.size + 1, i, none⟩) (by show w.heap.size ≤ w.heap.size + 1; omega) _
            · exact Kd.R_far (w := wr.drewN n) (p := ⟨w.heap.size + 1, i, none⟩) (Kd.R_drewN GR.out n) (fun k hk e => by have : k = w.heap.size + 1 := e; omega) _
        · rw [if_neg h64] at H; cases H
      · rw [if_neg hi] at H
        obtain rfl := Option.some.inj H
        have hi' : ¬ (i : Int) < (ps.length : Int) := by omega
        have hsz : (nums .u32 out).toArray.size = 64 := by rw [List.size_toArray, nums_length, HL.out]
        go_wp2_with (first | (with_reducible refine wpList_load_row rfl 127 (.tmp 1) rfl (w.heap.size + 1) rfl 127 _ (0, 0) _ G1.out Tryd.underlying127 rfl (by rw [hsz]; kernel_rfl) ?_) | (with_reducible refine wpList_store_row rfl 127 (.tmp 0) (.tmp 16) rfl w.heap.size _ rfl rfl 127 _ G0.out (by rw [hsz]; kernel_rfl) (by rw [hsz]; simp [nums]) (nums_one _ _) ?_))
        have hrow : (wr.setRow w.heap.size (nums .u32 out).toArray).heap[w.heap.size]? = some (.cells (nums .u32 out).toArray 127 (0, 0)) := setRow_heap _ _ _ _ _ _ G0.out
        refine bodyPost_ret (v := .agg (nums .u32 out).toArray) (results_cell_row rfl _ _ w.heap.size 127 _ (0, 0) _ rfl hrow Tryd.underlying127 rfl (by rw [hsz]; kernel_rfl)) rfl ⟨rfl, below_row GB.out (Nat.le_refl _) _⟩
def bytes_Clone.ok (l : List Int) : Prop := l.length < 140737488355328
theorem bytes_Clone.some_ (ad : Addr) (c : Nat) (l : List Int) (w : World) (hr : Kd.C (Kd.int .u8) w (some ad) l.length l) (hl : l.length < 140737488355328) :
    Calls Tryd.prog 90 #[.slice (some ad) l.length c] w fun e w' => ∃ v : Value, e = .returned v ∧ Kd.R (Kd.int .u8) 5 w' w.heap.size (fun _ => True) v l ∧ Below w.heap.size w w' := by
  have HR := Aside0.mk hr
  have HL := Aside0.mk hl
  clear hr hl
  have hn := Lib.run_eql_slice_nil (P := Tryd.prog)
  go_enter Tryd.func90, Tryd.ntmps90
  go_wp2_with (first | ((with_reducible refine gate_dst (N := 5) rfl ?_); refine Kd.R_lit (Kd.int .u8) _ 5 ?hg (N := 5) ?hd (xs := ([] : List Int)) (inner := []) (ok := fun _ => True) (okp := fun _ => True) ?hr ?hp (fun _ hk => hk) trivial (Below.refl _ _) (Nat.le_refl _) (by simp) ?_; (case hd => rfl); (case hg => rfl); (case hr => first | (go_simp; done) | (go_simp; rfl)); (case hp => exact (Reps.none _ _)); intro v1 w1 ho hb _ _; have HO := Aside0.mk ho; have HB := Aside0.mk hb; clear ho hb) | ((with_reducible refine gate_builtin (b := .append) (xs := #[.tmp 5, .tmp 6]) rfl ?_); at_builtin; refine Kd.R_append_rows (Kd.int .u8) (w0 := w) w.heap.size rfl (.tmp 5) (.tmp 6) 22 5 (.int .u8 0) 1 rfl Tryd.underlying22 info5 rfl (by decide) (by omega) v1 [] l _ _ _ (fun _ => True) (fun _ => False) rfl rfl ?aO ?aR (fun _ _ h => h) (fun _ h => h.elim) ?aF ?aB ?aS ?aL ?_; (case aR => exact Kd.C_below HR.out HB.out); (case aB => exact HB.out); (case aF => exact (fun _ _ => trivial)); (case aO => exact HO.out); (case aS => exact HB.out.size); (case aL => have := HL.out; simp; omega); intro v2 w2 ho hb hg hat; have HO2 := Aside0.mk ho; have HB2 := Aside0.mk hb; clear ho hb hg hat))
  go_ret
  exact ⟨_, rfl, by simpa using HO2.out, HB2.out⟩
theorem bytes_Clone.none_ (c : Nat) (w : World) :
    Calls Tryd.prog 90 #[.slice none 0 c] w fun e w' => e = .returned (.slice none 0 0) ∧ w' = w := by
  have hn := Lib.run_eql_slice_nil (P := Tryd.prog)
  go_enter Tryd.func90, Tryd.ntmps90
  go_wp2
  go_ret
  exact ⟨rfl, rfl⟩
theorem bytes_Clone.calls (A : Option Addr) (c : Nat) (l : List Int) (w : World) (hr : Kd.C (Kd.int .u8) w A l.length l) (hl : l.length < 140737488355328) :
    Calls Tryd.prog 90 #[.slice A l.length c] w fun e w' => ∃ v : Value, e = .returned v ∧ Kd.R (Kd.int .u8) 5 w' w.heap.size (fun _ => True) v l ∧ Below w.heap.size w w' := by
  cases A with
  | some ad => exact bytes_Clone.some_ ad c l w hr hl
  | none =>
    have h0 : l.length = 0 := by
      rcases Nat.eq_zero_or_pos l.length with h | h
      · exact h
      · obtain ⟨ad, e, _⟩ := hr.2.2 h
        cases e
    obtain rfl := List.eq_nil_of_length_eq_zero h0
    exact (bytes_Clone.none_ c w).mono fun e w' ⟨he, hw⟩ => ⟨_, he, Kd.R_nil _ _ _ _ _, by rw [hw]; exact Below.refl _ _⟩
/-- A load of a whole array (or struct) out of a row, wherever it begins. -/
theorem wpList_load_list {P : Program} {ops : Array Oper} {rest : List Oper} {o : Oper} {a : Act} {w : World} {Q : Exit → Act → World → Prop} (hgd : o.guard = none) (ty : TypeId) (x : Operand) (ho : o.op = .load ty x)
    (ad : Addr) (hx : a.eval x = .pointer (some ad)) (cs : List Value) (d : TypeDesc) (hc : ∀ j v, cs[j]? = some v → w.cell? (ad.add j) = some v)
    (hu : P.underlying ty = some d) (hd : (match d with | .struct _ | .array _ _ => true | _ => false) = true) (hi : (P.info? ty).map (·.size) = some cs.length)
    (h : wpList P ops Q rest (a.put o.dst (.agg cs.toArray)) w) : wpList P ops Q (o :: rest) a w := by
  have hl : (loadCells ad cs.length).run P w = .ok cs.toArray w := run_loadCells_list (P := P) w ad cs hc
  refine wpList_plain hgd fun K hK => ?_
  unfold Oper.wp execOp
  cases hq : P.info? ty with
  | none => simp [hq] at hi
  | some i =>
    have hs : i.size = cs.length := by simp [hq] at hi; exact hi
    cases d <;> simp at hd
    all_goals
      simp [ho, hx, Instr.loadAt, Instr.sureAddr, loadVar, sizeOf, typeInfo, isAgg, run_underlying hu, hq, hs, hl, Result.andThen]
      exact hK _ _ h
def V8.of (l : List Int) : V8 := ⟨rd l 0, rd l 1, rd l 2, rd l 3, rd l 4, rd l 5, rd l 6, rd l 7⟩
def sha_loop (ks : List Int) : Nat → List Int → List Int → Option (List Int × List Int)
  | 0, _, _ => none
  | k + 1, h, all => if 64 ≤ all.length then sha_loop ks k (sha_block ks (all.take 64) (V8.of h)) (all.drop 64) else some (h, all)
def sha_Write.f (k : Nat) (H Buf : List Int) (N : Int) (b : List Int) : Option (List Int × List Int × Int) :=
  (sha_Check.f H Buf N).bind fun ok => if ok = true then (if H.length = 8 then (if Buf.length + b.length < 100000000000 then (if 64 ≤ (Buf ++ b).length then ((sha_constants.f k).bind fun ks => (sha_loop ks k H (Buf ++ b)).bind fun r => some (r.1, r.2, (N + b.length) % 18446744073709551616)) else some (H, Buf ++ b, (N + b.length) % 18446744073709551616)) else none) else none) else none
theorem C_cells {w : World} {ad : Addr} {k : IntKind} {n : Nat} {xs : List Int} (h : Kd.C (Kd.int k) w (some ad) n xs) : ∀ j v, (nums k xs)[j]? = some v → w.cell? (ad.add j) = some v := by
  intro j v hj
  have hl : j < xs.length := by
    have := (List.getElem?_eq_some_iff.1 hj).1
    simpa [nums] using this
  obtain ⟨_, e, q⟩ := Kd.at_int h (j : Int) (by omega) (by have := h.1; omega)
  cases e
  simp only [Int.toNat_natCast] at q
  rw [q, ← hj]
  simp [nums, rd, hl]
theorem row_new (w1 : World) (z cs : Array Value) (t : TypeId) (hz : z.size = cs.size) :
    ((w1.alloc (.cells z t (0, 0))).setRow w1.heap.size cs).heap[w1.heap.size]? = some (.cells cs t (0, 0)) ∧ Below w1.heap.size w1 ((w1.alloc (.cells z t (0, 0))).setRow w1.heap.size cs) ∧ w1.heap.size < ((w1.alloc (.cells z t (0, 0))).setRow w1.heap.size cs).heap.size := by
  refine ⟨setRow_heap _ _ _ _ _ _ (blk_new w1 _), below_row (below_alloc (Below.refl _ _) _) (Nat.le_refl _) _, ?_⟩
  rw [setRow_size]
  simp
/-- A whole array stored into a variable just made: the world behind it has a name of its own. -/
theorem wpList_store_new {P : Program} {ops : Array Oper} {rest : List Oper} {o : Oper} {a : Act} {w1 : World} {Q : Exit → Act → World → Prop} (hgd : o.guard = none) (ty : TypeId) (x y : Operand) (ho : o.op = .store ty x y)
    (t : TypeId) (z cells : Array Value) (hx : a.eval x = .pointer (some ⟨w1.heap.size, 0, none⟩)) (hy : a.eval y = .agg cells)
    (hi : (P.info? ty).map (·.size) = some cells.size) (hold : z.size = cells.size) (h1 : cells.all (·.oneCell') = true)
    (h : ∀ w2 : World, w2.heap[w1.heap.size]? = some (.cells cells t (0, 0)) → Below w1.heap.size w1 w2 → w1.heap.size < w2.heap.size → wpList P ops Q rest (a.put o.dst undef) w2) :
    wpList P ops Q (o :: rest) a (w1.alloc (.cells z t (0, 0))) := by
  obtain ⟨p, q, r⟩ := row_new w1 z cells t hold
  exact wpList_store_row hgd ty x y ho w1.heap.size cells hx hy t z (blk_new w1 _) hi hold h1 (h _ p q r)
theorem C_blk {w : World} {g t : Nat} {xs : List Int} (k : IntKind) (h : w.heap[g]? = some (.cells (nums k xs).toArray t (0, 0))) (hl : xs.length ≤ 9223372036854775807) : Kd.C (Kd.int k) w (some ⟨g, 0, none⟩) xs.length xs := by
  refine Kd.C_of_reads (d := (0 : Int)) ⟨rfl, hl, fun _ => ⟨_, rfl, fun j hj => ?_⟩⟩
  have e := arr_cell h (j : Int) (by omega) (by omega)
  have e2 : (⟨g, 0, none⟩ : Addr).add j = ⟨g, j, none⟩ := by cases j <;> simp [Addr.add]
  rw [e2]
  simpa [rd] using e
theorem wrap_sum64 (a b : Int) : IntKind.u64.wrap (a + IntKind.u64.wrap b) = (a + b) % 18446744073709551616 := by
  have e1 : IntKind.u64.signed = false := rfl
  have e2 : IntKind.u64.bits = 64 := rfl
  simp [IntKind.wrap, e1, e2]
/-- The struct that Write lays into its result's variable. Its row of words lies in a block of the ARRAY's type (126). -/
theorem sha_fin {w w4 w5 : World} {y hb c5 : Nat} {A5 : Option Addr} {q0 q1 q2 n : Value} {H all : List Int} (hy : w5.heap[y]? = some (.cells #[q0, q1, q2] 95 (0, 0))) (hh : w5.heap[hb]? = some (.cells (nums .u32 H).toArray 126 (0, 0))) (hl : H.length = 8)
    (hv : Kd.R (Kd.int .u8) 5 w5 w4.heap.size (fun _ => True) (.slice A5 all.length c5) all) (hyb : y < w4.heap.size) (hwy : w.heap.size ≤ y) (hwh : w.heap.size ≤ hb) (hb5 : Below w.heap.size w w5) (a : Value) :
    ∃ W, W = ((w5.setCell ⟨y, 0, none⟩ a).setCell ⟨y, 1, none⟩ (.slice A5 all.length c5)).setCell ⟨y, 2, none⟩ n ∧ W.heap[y]? = some (.cells #[a, .slice A5 all.length c5, n] 95 (0, 0)) ∧ Kd.R (Kd.int .u32) 126 W w.heap.size (fun _ => True) (.slice (some ⟨hb, 0, none⟩) 8 8) H ∧ Kd.R (Kd.int .u8) 5 W w.heap.size (fun _ => True) (.slice A5 all.length c5) all ∧ Below w.heap.size w W := by
  have hne : hb ≠ y := fun e => absurd (blk_ne hh hy (by decide)) (by simpa using e)
  refine ⟨_, rfl, ?_, ?_, ?_, ?_⟩
  · have e := blk_set (blk_set (blk_set hy 0 a) 1 (.slice A5 all.length c5)) 2 n
    simpa using e
  · refine Kd.R_of_own ⟨?_, Or.inr ⟨hb, 8, (nums .u32 H).toArray, by rw [hl], hwh, blk_far (blk_far (blk_far hh (p := ⟨y, 0, none⟩) hne _) (p := ⟨y, 1, none⟩) hne _) (p := ⟨y, 2, none⟩) hne _, by omega, by decide, by simp [nums, hl], ?_⟩⟩ (fun _ _ => trivial)
    · simp [encs]
    · simp only [nums, encs, Nat.mul_one]
      exact List.take_of_length_le (by simp)
  · have f : ∀ k, (True ∧ w4.heap.size ≤ k ∧ k < w5.heap.size ∧ ∃ q, q ∈ 5 :: (Kd.int .u8).E ∧ ∃ cells, w5.heap[k]? = some (.cells cells q (0, 0))) → k ≠ y := fun k hk e => by have := hk.2.1; omega
    exact Kd.R_mono (Kd.R_lower (Kd.R_far (Kd.R_far (Kd.R_far (Kd.R_mono (Kd.R_bound hv) (ok' := fun k => k ≠ y) f) (p := ⟨y, 0, none⟩) (fun k hk => hk) a) (p := ⟨y, 1, none⟩) (fun k hk => hk) (.slice A5 all.length c5)) (p := ⟨y, 2, none⟩) (fun k hk => hk) n) (by omega)) (fun _ _ => trivial)
  · exact Below.setCell (Below.setCell (Below.setCell hb5 (p := ⟨y, 0, none⟩) hwy _) (p := ⟨y, 1, none⟩) hwy _) (p := ⟨y, 2, none⟩) hwy _
theorem V8.cells_of {H : List Int} (h : H.length = 8) : (nums .u32 H).toArray = (V8.of H).cells := by
  match H, h with
  | [a, b, c, d, e, f, g, i], _ => rfl
/-- The first and the rest of a slice of bytes, cut at 64. -/
theorem cut64 {w : World} {A : Option Addr} {c : Nat} {l : List Int} (hC : Kd.C (Kd.int .u8) w A l.length l) (hc : l.length ≤ c) (h : 64 ≤ l.length) :
    (∀ W : World, (Instr.slice 22 (.slice A l.length c) none (some (.int .i64 64)) none).run Tryd.prog W = .ok (.slice A (l.take 64).length c) W) ∧ Kd.C (Kd.int .u8) w A (l.take 64).length (l.take 64) ∧ (l.take 64).length = 64 ∧
    ∃ A2, (∀ W : World, (Instr.slice 22 (.slice A l.length c) (some (.int .i64 64)) none none).run Tryd.prog W = .ok (.slice A2 (l.drop 64).length (c - 64)) W) ∧ Kd.C (Kd.int .u8) w A2 (l.drop 64).length (l.drop 64) ∧ (l.drop 64).length ≤ c - 64 ∧ (∀ g : Nat, (∀ ad, A = some ad → 0 < l.length → ad.block ≠ g) → ∀ ad, A2 = some ad → 0 < (l.drop 64).length → ad.block ≠ g) := by
  obtain ⟨i0, hi0, _, hsz, _⟩ := info_parts info5
  have e1 : (l.take 64).length = 64 := by rw [List.length_take]; omega
  have e2 : (l.drop 64).length = l.length - 64 := List.length_drop
  refine ⟨?_, Kd.C_take hC h, e1, (if c = 64 then A else A.map (·.add (64 * 1))), ?_, Kd.C_drop hC h hc, by omega, ?_⟩
  · intro W
    rw [e1]
    exact cut_to (P := Tryd.prog) 22 5 .i64 Tryd.underlying22 hi0 A l.length c 64 (by omega) (by omega) hc W
  · intro W
    rw [e2]
    exact cut_from (P := Tryd.prog) 22 5 .i64 Tryd.underlying22 hi0 1 hsz A l.length c 64 (by omega) (by omega) W
  · intro g hg ad ha hl
    rw [e2] at hl
    by_cases hc6 : c = 64
    · omega
    · rw [if_neg hc6] at ha
      cases A with
      | none => cases ha
      | some a =>
        have := hg a rfl (by omega)
        simp at ha
        rw [← ha]
        simpa [Addr.add] using this
set_option maxHeartbeats 8000000 in
set_option maxRecDepth 100000 in
theorem sha_Write.core (AH AB A : Option Addr) (cH cB c : Nat) (H Buf : List Int) (N : Int) (b : List Int) (w : World) (k : Nat) (all : List Int) (r : List Int × List Int) (hH : Kd.C (Kd.int .u32) w AH H.length H) (hcH : H.length ≤ cH) (hB : Kd.C (Kd.int .u8) w AB Buf.length Buf) (hcB : Buf.length ≤ cB) (hb : Kd.C (Kd.int .u8) w A b.length b) (hc : b.length ≤ c)
    (hck : sha_Check.f H Buf N = some true) (h8 : H.length = 8) (hsz : Buf.length + b.length < 100000000000) (hall : Buf ++ b = all) (hr : (if 64 ≤ all.length then ((sha_constants.f k).bind fun ks => sha_loop ks k H all) else some (H, all)) = some r) :
    Calls Tryd.prog 56 #[.agg #[.slice AH H.length cH, .slice AB Buf.length cB, .int .u64 N], .slice A b.length c] w fun e w' => ∃ v0 v1, e = .returned (.agg #[v0, v1, .int .u64 ((N + b.length) % 18446744073709551616)]) ∧ Kd.R (Kd.int .u32) 126 w' w.heap.size (fun _ => True) v0 r.1 ∧ Kd.R (Kd.int .u8) 5 w' w.heap.size (fun _ => True) v1 r.2 ∧ Below w.heap.size w w' := by
  have G0 := Aside0.mk hall
  have GR := Aside0.mk hr
  have hlen : all.length = Buf.length + b.length := by rw [← hall]; simp
  have GL := Aside0.mk hlen
  clear hall hr hlen
  have G1 := Aside0.mk hH
  have G2 := Aside0.mk hB
  have G3 := Aside0.mk hb
  have G4 := Aside0.mk hck
  have G5 := Aside0.mk hcB
  have G6 := Aside0.mk hcH
  have hu95 := Tryd.underlying95
  clear hB hb hck hcB
  obtain ⟨ad, rfl, _⟩ := Kd.at_int hH 0 (by omega) (by omega)
  clear hH
  have H8 := Aside0.mk h8
  clear h8
  go_enter Tryd.func56, Tryd.ntmps56
  go_wp2_with fail
  (with_reducible refine (sha_Check.calls (some ad) cH H AB cB Buf N true _ (Kd.C_below G1.out (below_alloc (below_alloc (Below.refl _ _) _) _)) G6.out (Kd.C_below G2.out (below_alloc (below_alloc (Below.refl _ _) _) _)) G5.out G4.out).mono ?_)
  rintro e w1 ⟨rfl, hb1⟩
  have bx : w1.heap[w.heap.size]? = some (.cells #[.slice (some ad) H.length cH, .slice AB Buf.length cB, .int .u64 N] 95 (0, 0)) := blk_below (blk_alloc (blk_new w _) _) hb1
  have by4 : w1.heap[w.heap.size + 1]? = some (.cells #[.slice none 0 0, .slice none 0 0, .int .u64 0] 95 (0, 0)) := blk_below (blk_new1 w _ _) hb1
  have hB1 : Below w.heap.size w w1 := below_step (below_alloc (below_alloc (Below.refl _ _) _) _) hb1
  have lt1 : w.heap.size + 1 < w1.heap.size := blk_lt by4
  have BX := Aside0.mk bx
  have BY := Aside0.mk by4
  have B1 := Aside0.mk hB1
  have x0 : w1.cell? ⟨w.heap.size, 0, none⟩ = some (.slice (some ad) H.length cH) := (blk_cell bx 0).trans rfl
  have x1 : w1.cell? ⟨w.heap.size, 1, none⟩ = some (.slice AB Buf.length cB) := (blk_cell bx 1).trans rfl
  have x2 : w1.cell? ⟨w.heap.size, 2, none⟩ = some (.int .u64 N) := (blk_cell bx 2).trans rfl
  have hH1 := Kd.C_below G1.out hB1
  have hcs := C_cells hH1
  have hat : ∀ w, (Instr.arrayAt 126 (.slice (some ad) H.length cH)).run Tryd.prog w = .ok (.pointer (some ad)) w := fun w => run_arrayAt w 126 _ 8 _ H.length cH Tryd.underlying126 (by rw [H8.out]; exact Nat.le_refl _)
  have HCS := Aside0.mk hcs
  have hsz8 : (nums .u32 H).length = 8 := by rw [nums_length, H8.out]
  have hsz8' : (nums .u32 H).toArray.size = 8 := by rw [List.size_toArray, hsz8]
  have HS8 := Aside0.mk hsz8
  have HT8 := Aside0.mk hsz8'
  clear hH1 hcs bx by4 hB1 hb1 hsz8 hsz8'
  go_wp2_with (first | (with_reducible refine wpList_load_list rfl 126 (.tmp 14) rfl ad rfl (nums .u32 H) _ HCS.out Tryd.underlying126 rfl (by rw [HS8.out]; kernel_rfl) ?_) | ((with_reducible refine wpList_store_new rfl 126 (.tmp 5) (.tmp 15) rfl 126 _ _ rfl rfl ?hi ?ho (nums_one _ _) ?goal); (case hi => rw [HT8.out]; kernel_rfl); (case ho => rw [HT8.out]; kernel_rfl); intro w2 r2 b2 l2; have R2 := Aside0.mk r2; have B2 := Aside0.mk (below_step B1.out b2); have X0 := Aside0.mk ((blk_cell (blk_below BX.out b2) 0).trans rfl); have x1 : w2.cell? ⟨w.heap.size, 1, none⟩ = some (.slice AB Buf.length cB) := (blk_cell (blk_below BX.out b2) 1).trans rfl; have x2 : w2.cell? ⟨w.heap.size, 2, none⟩ = some (.int .u64 N) := (blk_cell (blk_below BX.out b2) 2).trans rfl; have y2 := Aside0.mk (blk_below BY.out b2); have lt2 : w1.heap.size < w2.heap.size := l2; clear r2 b2 l2 BX BY B1) | (go_at_call 90; refine (bytes_Clone.calls AB cB Buf _ (Kd.C_below G2.out B2.out) (by omega)).mono ?_; rintro e w3 ⟨v, rfl, hv, hb3⟩; have HV := Aside0.mk hv; have HB3 := Aside0.mk hb3; clear hv hb3) | ((with_reducible refine gate_builtin (b := .append) (xs := #[.tmp 18, .tmp 19]) rfl ?_); at_builtin; refine Kd.R_append_rows (Kd.int .u8) (w0 := w2) w2.heap.size rfl (.tmp 18) (.tmp 19) 22 5 (.int .u8 0) 1 rfl Tryd.underlying22 info5 rfl (by decide) (by omega) _ Buf b _ _ _ (fun _ => True) (fun _ => False) rfl rfl ?aO ?aR (fun _ _ h => h) (fun _ h => h.elim) ?aF ?aB ?aS ?aL ?_; (case aR => exact Kd.C_below G3.out (below_step B2.out HB3.out)); (case aB => exact HB3.out); (case aF => exact (fun _ _ => trivial)); (case aO => exact HV.out); (case aS => exact HB3.out.size); (case aL => omega); intro v2 w4 ho hb hg hat; rw [G0.out] at ho; have HO2 := Aside0.mk ho; have HB4 := Aside0.mk hb; clear ho hb hg hat))
  obtain ⟨A2, c2, rfl, hl2, hC2⟩ := Kd.R_reads HO2.out
  have HC2 := Aside0.mk hC2
  have B4 := Aside0.mk (below_step B2.out HB4.out)
  have hlen : all.length < 100000000000 := by rw [GL.out]; exact hsz
  have R4 := Aside0.mk (blk_below R2.out HB4.out)
  have Y4 := Aside0.mk (blk_below y2.out HB4.out)
  have x4 : w4.cell? ⟨w.heap.size, 2, none⟩ = some (.int .u64 N) := (Below.cell HB4.out (p := ⟨w.heap.size, 2, none⟩) (by show w.heap.size < w2.heap.size; omega)).trans x2
  have lt4 : w2.heap.size ≤ w4.heap.size := HB4.out.size
  have L2 := Aside0.mk hl2
  clear hC2 R2 y2 x2 x1 X0 HB4 HB3 HV HCS hat hl2
  by_cases h64 : 64 ≤ all.length
  · rw [if_pos h64] at GR
    obtain ⟨ks, hks, hlp⟩ := Option.bind_eq_some_iff.1 GR.out
    have hkl : ks.length = 64 := by
      obtain ⟨ps, _, h2⟩ := Option.bind_eq_some_iff.1 hks
      simpa using sha_constants.len k ps 0 _ ks h2
    have KL := Aside0.mk hkl
    have KS := Aside0.mk hks
    have LP := Aside0.mk hlp
    have KT := Aside0.mk (show (nums .u32 ks).toArray.size = 64 by rw [List.size_toArray, nums_length, hkl])
    clear GR hks hlp hkl
    have h64' : (64 : Int) ≤ (all.length : Int) := by omega
    go_simp
    go_wp2_with (first | (go_at_call 91; refine (sha_constants.calls k ks _ KS.out).mono ?_; rintro e w5 ⟨rfl, hb5⟩; have HB5 := Aside0.mk hb5; clear hb5) | ((with_reducible refine wpList_store_new rfl 127 (.tmp 7) (.tmp 24) rfl 127 _ _ rfl rfl ?hi2 ?ho2 (nums_one _ _) ?goal2); (case hi2 => rw [KT.out]; kernel_rfl); (case ho2 => rw [KT.out]; kernel_rfl); intro w6 r6 b6 l6; have K6 := Aside0.mk r6; have B46 := Aside0.mk (below_step HB5.out b6); have h56 : w5.heap.size < w6.heap.size := l6; have h45 : w4.heap.size ≤ w5.heap.size := HB5.out.size; clear r6 b6 l6 HB5))
    have C6 := Aside0.mk (Kd.C_below HC2.out B46.out)
    dsimp only [Act.put]
    go_loopg [6] k (fun kq v6 wr => ∃ (A6 : Option Addr) (c6 : Nat) (l H' : List Int), v6 = .slice A6 l.length c6 ∧ Aside0 (l.length ≤ c6) ∧ Aside0 (l.length < 100000000000) ∧ Aside0 (Kd.C (Kd.int .u8) wr A6 l.length l) ∧ Aside0 (∀ ad, A6 = some ad → 0 < l.length → ad.block ≠ w1.heap.size) ∧ Aside0 (sha_loop ks kq H' l = some r) ∧ Aside0 (kq ≤ k) ∧ Aside0 (H'.length = 8) ∧ Aside0 (wr.heap[w1.heap.size]? = some (.cells (nums .u32 H').toArray 126 (0, 0))) ∧ Aside0 (wr.heap[w5.heap.size]? = some (.cells (nums .u32 ks).toArray 127 (0, 0))) ∧ Aside0 (w6.grownBy wr (some w1.heap.size)))
    case atStart =>
      refine ⟨A2, c2, all, H, rfl, L2, ⟨hlen⟩, C6, ⟨?hn0⟩, LP, ⟨Nat.le_refl _⟩, H8, ⟨blk_below R4.out B46.out⟩, K6, ⟨⟨rfl, rfl, rfl, Nat.le_refl _, fun _ _ _ => rfl⟩⟩⟩
      rintro ad' rfl hpos
      have := ((Kd.R_bound HO2.out).1 ad'.block (by simp [Value.ownBlock])).2.1
      omega
    case round =>
      obtain ⟨A6, c6, l, H', rfl, HLC, HLL, HC, HN, HL, HK, H8', GH, GK, GB⟩ := hrel
      cases gk with
      | zero => exact absurd HL.out (by simp [sha_loop])
      | succ k1 =>
        have hl := HL.out
        clear HL LP
        unfold sha_loop at hl
        by_cases h6 : 64 ≤ l.length
        · rw [if_pos h6] at hl
          obtain ⟨hc1, hC1, hn1, A7, hc2, hC2, hl2, hf2⟩ := cut64 HC.out HLC.out h6
          have h6' : (64 : Int) ≤ (l.length : Int) := by omega
          obtain ⟨bl, hbl⟩ : ∃ bl, bl = l.take 64 := ⟨_, rfl⟩
          obtain ⟨l2, hl2e⟩ : ∃ l2, l2 = l.drop 64 := ⟨_, rfl⟩
          rw [← hbl] at hc1 hC1 hn1 hl
          rw [← hl2e] at hc2 hC2 hl2 hf2 hl
          have HL := Aside0.mk hl
          have C1 := Aside0.mk hC1
          have C2 := Aside0.mk hC2
          have N1 := Aside0.mk hn1
          have F2 := Aside0.mk (hf2 _ HN.out)
          have HLL2 := Aside0.mk (show l2.length < 100000000000 by rw [hl2e, List.length_drop]; have := HLL.out; omega)
          have L2' := Aside0.mk hl2
          have GV := Aside0.mk (show wr.heap[w1.heap.size]? = some (.cells (V8.of H').cells 126 (0, 0)) from by rw [← V8.cells_of H8'.out]; exact GH.out)
          have hne : w1.heap.size ≠ w5.heap.size := by omega
          clear hl hC1 hC2 hn1 hf2 hbl hl2e hl2 h6
          go_wp2_with (first | (go_at_call 92; refine (block92 w1.heap.size w5.heap.size (V8.of H') ks A6 c6 bl _ GV.out GK.out hne KL.out C1.out N1.out).mono ?_; rintro e w' ⟨rfl, gh', gr'⟩; have GH' := Aside0.mk gh'; have GR' := Aside0.mk gr'; clear gh' gr'))
          go_roundg k1
          case measure => have := HK.out; omega
          case rel =>
            have hkb : KeepBut wr w' w1.heap.size none := ⟨GR'.out.size, fun i hi hi2 _ => GR'.out.block i hi (by simpa using hi2)⟩
            refine ⟨A7, c6 - 64, l2, sha_block ks bl (V8.of H'), rfl, L2', HLL2, ⟨Kd.C_keep (d := (0 : Int)) C2.out hkb F2.out⟩, F2, HL, ⟨by have := HK.out; omega⟩, ⟨?_⟩, GH', ⟨(GR'.out.block _ (blk_lt GK.out) (by simpa using hne.symm)).trans GK.out⟩, ⟨World.grownBy.trans GB.out GR'.out⟩⟩
            rw [sha_block, sha_adds_len]
            rfl
        · rw [if_neg h6] at hl
          have HR := Aside0.mk (Option.some.inj hl)
          have h6' : (l.length : Int) < 64 := by omega
          have hlen6 : l.length < 100000000000 := HLL.out
          have lt6 : w4.heap.size ≤ w6.heap.size := B46.out.size
          have ltr : w6.heap.size ≤ wr.heap.size := GB.out.size
          have YR := Aside0.mk (blk_grown (blk_below Y4.out B46.out) GB.out (by intro e; have := Option.some.inj e; omega))
          have XR : wr.cell? ⟨w.heap.size, 2, none⟩ = some (.int .u64 N) := GB.out.cell ((Below.cell B46.out (p := ⟨w.heap.size, 2, none⟩) (by show w.heap.size < w4.heap.size; omega)).trans x4) (by intro e; have := Option.some.inj e; have : w.heap.size = w1.heap.size := this; omega)
          have BR := Aside0.mk (show Below w.heap.size w wr from by
            have q := below_step B4.out B46.out
            exact ⟨GB.out.os.trans q.os, GB.out.tape.trans q.tape, GB.out.output.trans q.output, Nat.le_trans q.size GB.out.size, fun i hi => (GB.out.block i (by omega) (by intro e; have := Option.some.inj e; omega)).trans (q.block i hi)⟩)
          clear hl h6 HK HLL
          go_wp2
          have hdr : Below wr.heap.size wr wr.drew := pw_below_drewN (Below.refl _ _) 1
          go_region_with (first | (go_at_call 90; refine (bytes_Clone.calls A6 c6 l _ (Kd.C_below HC.out hdr) (by omega)).mono ?_; rintro e w7 ⟨v, rfl, hv, hb5⟩; obtain ⟨A5, c5, rfl, hl5, hC5⟩ := Kd.R_reads hv; have HV5 := Aside0.mk hv; have HB5 := Aside0.mk (below_step hdr hb5); have x5 : w7.cell? ⟨w.heap.size, 2, none⟩ = some (.int .u64 N) := (Below.cell HB5.out (p := ⟨w.heap.size, 2, none⟩) (by show w.heap.size < wr.heap.size; omega)).trans XR; have f0 := blk_frozen (blk_below YR.out HB5.out) 0; have f1 := blk_frozen (blk_below YR.out HB5.out) 1; have f2 := blk_frozen (blk_below YR.out HB5.out) 2; have y50 : w7.cell? ⟨w.heap.size + 1, 0, none⟩ = some _ := (blk_cell (blk_below YR.out HB5.out) 0).trans rfl; have y51 : w7.cell? ⟨w.heap.size + 1, 1, none⟩ = some _ := (blk_cell (blk_below YR.out HB5.out) 1).trans rfl; have y52 : w7.cell? ⟨w.heap.size + 1, 2, none⟩ = some _ := (blk_cell (blk_below YR.out HB5.out) 2).trans rfl; clear hv hb5 hC5))
          all_goals
            obtain ⟨W, hW, hy, hCH, hCB, hBW⟩ := sha_fin (w := w) (w4 := wr.drew) (n := .int .u64 (IntKind.u64.wrap (N + IntKind.u64.wrap (b.length : Int)))) (blk_below YR.out HB5.out) (blk_below GH.out HB5.out) H8'.out HV5.out (by show w.heap.size + 1 < wr.heap.size; omega) (by omega) (by omega) (below_step BR.out HB5.out) (.slice (some ⟨w1.heap.size, 0, none⟩) 8 8)
            rw [← hW]
            clear hW
            go_wp2
            refine bodyPost_ret (v := .agg #[.slice (some ⟨w1.heap.size, 0, none⟩) 8 8, .slice A5 l.length c5, .int .u64 (IntKind.u64.wrap (N + IntKind.u64.wrap (b.length : Int)))]) (results_cell_row rfl _ _ (w.heap.size + 1) 95 _ (0, 0) _ rfl hy hu95 rfl (by kernel_rfl)) rfl ⟨.slice (some ⟨w1.heap.size, 0, none⟩) 8 8, .slice A5 l.length c5, ?_⟩
            rw [← HR.out]
            refine ⟨?_, hCH, hCB, hBW⟩
            rw [wrap_sum64]
  · rw [if_neg h64] at GR
    obtain rfl := Option.some.inj GR.out
    clear GR
    have h64' : (all.length : Int) < 64 := by omega
    clear h64
    go_simp
    go_wp2
    have hdr : Below w4.heap.size w4 w4.drew := pw_below_drewN (Below.refl _ _) 1
    go_region_with (first | (go_at_call 90; refine (bytes_Clone.calls A2 c2 all _ (Kd.C_below HC2.out hdr) (by omega)).mono ?_; rintro e w5 ⟨v, rfl, hv, hb5⟩; obtain ⟨A5, c5, rfl, hl5, hC5⟩ := Kd.R_reads hv; have HV5 := Aside0.mk hv; have HB5 := Aside0.mk (below_step hdr hb5); have x5 : w5.cell? ⟨w.heap.size, 2, none⟩ = some (.int .u64 N) := (Below.cell HB5.out (p := ⟨w.heap.size, 2, none⟩) (by show w.heap.size < w4.heap.size; omega)).trans x4; have f0 := blk_frozen (blk_below Y4.out HB5.out) 0; have f1 := blk_frozen (blk_below Y4.out HB5.out) 1; have f2 := blk_frozen (blk_below Y4.out HB5.out) 2; have y50 : w5.cell? ⟨w.heap.size + 1, 0, none⟩ = some _ := (blk_cell (blk_below Y4.out HB5.out) 0).trans rfl; have y51 : w5.cell? ⟨w.heap.size + 1, 1, none⟩ = some _ := (blk_cell (blk_below Y4.out HB5.out) 1).trans rfl; have y52 : w5.cell? ⟨w.heap.size + 1, 2, none⟩ = some _ := (blk_cell (blk_below Y4.out HB5.out) 2).trans rfl; clear hv hb5 hC5))
    all_goals
      obtain ⟨W, hW, hy, hCH, hCB, hBW⟩ := sha_fin (w := w) (w4 := w4.drew) (n := .int .u64 (IntKind.u64.wrap (N + IntKind.u64.wrap (b.length : Int)))) (blk_below Y4.out HB5.out) (blk_below R4.out HB5.out) H8.out HV5.out (by show w.heap.size + 1 < w4.heap.size; omega) (by omega) (by omega) (below_step B4.out HB5.out) (.slice (some ⟨w1.heap.size, 0, none⟩) 8 8)
      rw [← hW]
      clear hW
      go_wp2
      refine bodyPost_ret (v := .agg #[.slice (some ⟨w1.heap.size, 0, none⟩) 8 8, .slice A5 all.length c5, .int .u64 (IntKind.u64.wrap (N + IntKind.u64.wrap (b.length : Int)))]) (results_cell_row rfl _ _ (w.heap.size + 1) 95 _ (0, 0) _ rfl hy hu95 rfl (by kernel_rfl)) rfl ⟨_, _, ?_, hCH, hCB, hBW⟩
      rw [wrap_sum64]
theorem sha_Write.calls (k : Nat) (AH : Option Addr) (cH : Nat) (H : List Int) (AB : Option Addr) (cB : Nat) (Buf : List Int) (N : Int) (A : Option Addr) (c : Nat) (b : List Int) (r1 : List Int) (r2 : List Int) (r3 : Int) (w : World) (hH : Kd.C (Kd.int .u32) w AH H.length H) (hcH : H.length ≤ cH) (hB : Kd.C (Kd.int .u8) w AB Buf.length Buf) (hcB : Buf.length ≤ cB) (hb : Kd.C (Kd.int .u8) w A b.length b) (hc : b.length ≤ c)
    (h : sha_Write.f k H Buf N b = some (r1, r2, r3)) :
    Calls Tryd.prog 56 #[.agg #[.slice AH H.length cH, .slice AB Buf.length cB, .int .u64 N], .slice A b.length c] w fun e w' => ∃ v0_ v1_ : Value, e = .returned (.agg #[v0_, v1_, .int .u64 r3]) ∧ Kd.R (Kd.int .u32) 126 w' w.heap.size (fun _ => True) v0_ r1 ∧ Kd.R (Kd.int .u8) 5 w' w.heap.size (fun _ => True) v1_ r2 ∧ Below w.heap.size w w' := by
  obtain ⟨ok, hck, h1⟩ := Option.bind_eq_some_iff.1 h
  clear h
  by_cases hok : ok = true
  · subst hok
    rw [if_pos rfl] at h1
    by_cases h8 : H.length = 8
    · rw [if_pos h8] at h1
      by_cases hsz : Buf.length + b.length < 100000000000
      · rw [if_pos hsz] at h1
        by_cases h64 : 64 ≤ (Buf ++ b).length
        · rw [if_pos h64] at h1
          obtain ⟨ks, hks, h2⟩ := Option.bind_eq_some_iff.1 h1
          obtain ⟨q, hq, h3⟩ := Option.bind_eq_some_iff.1 h2
          have e := Option.some.inj h3
          have hr : (if 64 ≤ (Buf ++ b).length then ((sha_constants.f k).bind fun ks => sha_loop ks k H (Buf ++ b)) else some (H, Buf ++ b)) = some q := by
            rw [if_pos h64, hks]
            exact hq
          cases e
          exact sha_Write.core AH AB A cH cB c H Buf N b w k (Buf ++ b) q hH hcH hB hcB hb hc hck h8 hsz rfl hr
        · rw [if_neg h64] at h1
          have e := Option.some.inj h1
          have hr : (if 64 ≤ (Buf ++ b).length then ((sha_constants.f k).bind fun ks => sha_loop ks k H (Buf ++ b)) else some (H, Buf ++ b)) = some (H, Buf ++ b) := if_neg h64
          cases e
          exact sha_Write.core AH AB A cH cB c H Buf N b w k (Buf ++ b) _ hH hcH hB hcB hb hc hck h8 hsz rfl hr
      · rw [if_neg hsz] at h1; cases h1
    · rw [if_neg h8] at h1; cases h1
  · rw [if_neg hok] at h1; cases h1
theorem sha_constants.mono_l : ∀ k ps i out, LeO (sha_constants.l0 k ps i out) (sha_constants.l0 (k + 1) ps i out)
  | 0, _, _, _ => LeO.none _
  | k + 1, ps, i, out => by
    unfold sha_constants.l0
    refine LeO.ite (LeO.ite (LeO.bind (sha_root.mono _ _ _) fun _ => sha_constants.mono_l k _ _ _) (LeO.none _)) (LeO.refl _)
theorem sha_constants.mono : ∀ k, LeO (sha_constants.f k) (sha_constants.f (k + 1)) := fun k => LeO.bind (sha_primes.mono _ _) fun _ => sha_constants.mono_l k _ _ _
theorem sha_loop.mono (ks : List Int) : ∀ k h all, LeO (sha_loop ks k h all) (sha_loop ks (k + 1) h all)
  | 0, _, _ => LeO.none _
  | k + 1, h, all => by
    unfold sha_loop
    exact LeO.ite (sha_loop.mono ks k _ _) (LeO.refl _)
theorem sha_Write.mono : ∀ a0 a1 a2 a3 k, LeO (sha_Write.f k a0 a1 a2 a3) (sha_Write.f (k + 1) a0 a1 a2 a3) := by
  intro a0 a1 a2 a3 k
  unfold sha_Write.f
  exact LeO.bind (LeO.refl _) fun _ => LeO.ite (LeO.ite (LeO.ite (LeO.ite (LeO.bind (sha_constants.mono k) fun _ => LeO.bind (sha_loop.mono _ _ _ _) fun _ => LeO.refl _) (LeO.refl _)) (LeO.none _)) (LeO.none _)) (LeO.none _)


end Go.Proofs.YtbclnkhcnclfoaaDoor.Q
