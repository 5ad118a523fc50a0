-- Laid by wip/xprint.py (a program of this session, on the kit's printer) out of the translation. Not trusted: Lean checks it.
import Derived.Test.YtbclnkhcnclfoaaDoorQ0
import Derived.Test.YtbclnkhcnclfoaaDoorXMore
import Derived.Test.YtbclnkhcnclfoaaDoorSh1
namespace Go.Proofs.YtbclnkhcnclfoaaDoor.Q
open Go.RowKit Go.Proofs.YtbclnkhcnclfoaaDoorW.PrintWords Go.Proofs.YtbclnkhcnclfoaaDoorW.PrintLast Go.Proofs.YtbclnkhcnclfoaaDoorW.PrintMore
attribute [local go_sem] max2_int min2_int max_two min_two max_three min_three max_four min_four   -- for this text's walks alone
set_option linter.unusedVariables false
set_option linter.unusedSimpArgs false

/-! ### key_Bytes: function 21 -/
-- with Derived.Test.YtbclnkhcnclfoaaDoorXMore
-- with Derived.Test.YtbclnkhcnclfoaaDoorSh1
def key_hexs : List UInt8 := [48, 49, 50, 51, 52, 53, 54, 55, 56, 57, 97, 98, 99, 100, 101, 102]
/-- What a hex digit is worth. -/
def key_hex (c : Int) : Int := Lib.indexByte key_hexs c.toNat.toUInt8
theorem key_hex_of (b : UInt8) (h : key_hexs.contains b = true) : 0 ≤ key_hex (b.toNat : Int) ∧ key_hex (b.toNat : Int) ≤ 15 ∧ b.toNat < 128 := by
  have e : ((b.toNat : Int)).toNat.toUInt8 = b := by simp
  unfold key_hex
  rw [e]
  clear e
  have hm : b ∈ key_hexs := by simpa using h
  simp only [key_hexs, List.mem_cons, List.not_mem_nil, or_false] at hm
  rcases hm with rfl | rfl | rfl | rfl | rfl | rfl | rfl | rfl | rfl | rfl | rfl | rfl | rfl | rfl | rfl | rfl <;> decide
def key_all (s : ByteArray) : Bool := s.data.toList.all (key_hexs.contains ·)
theorem key_trim (s : ByteArray) (w : World) (hs : s.size ≤ 9223372036854775807) :
    Calls Tryd.prog 58 #[.string s, .string ⟨#[48, 49, 50, 51, 52, 53, 54, 55, 56, 57, 97, 98, 99, 100, 101, 102]⟩] w fun e w' => e = .returned (.string ⟨(Lib.trimS s.data.toList key_hexs).toArray⟩) ∧ Below w.heap.size w w' :=
  Any.strings_Trim_laid Tryd.laysTrim (by kernel_rfl) s ⟨#[48, 49, 50, 51, 52, 53, 54, 55, 56, 57, 97, 98, 99, 100, 101, 102]⟩ w hs (by decide) (ascii_of_all (by decide))
theorem key_index (c : Int) (w : World) :
    Calls Tryd.prog 59 #[.string ⟨#[48, 49, 50, 51, 52, 53, 54, 55, 56, 57, 97, 98, 99, 100, 101, 102]⟩, .int .u8 c] w fun e w' => e = .returned (.int .i64 (key_hex c)) ∧ w = w' :=
  (Any.strings_IndexByte Tryd.laysIndexByte ⟨#[48, 49, 50, 51, 52, 53, 54, 55, 56, 57, 97, 98, 99, 100, 101, 102]⟩ c w).mono fun _ _ ⟨h1, h2⟩ => ⟨h1, h2.symm⟩
def key_put (out : List Int) (s : ByteArray) (i : Nat) : List Int := out.set (i / 2) (Go.bits .or .u8 (rd out ((i / 2 : Nat) : Int)) (if i % 2 = 0 then key_hex (bt s i) * 16 else key_hex (bt s i)))
def key_fill (s : ByteArray) : Nat → List Int
  | 0 => List.replicate 32 0
  | i + 1 => key_put (key_fill s i) s i
theorem key_fill_len (s : ByteArray) : ∀ i, (key_fill s i).length = 32
  | 0 => by simp [key_fill]
  | i + 1 => by simp [key_fill, key_put, key_fill_len s i]
theorem key_Bytes.size (s : ByteArray) (w : World) (h : ((s.size : Int) != 64) = true) :
    Calls Tryd.prog 21 #[.string s] w fun e w' => e = .returned (.tuple #[.slice none 0 0, .int .i64 70]) ∧ Below w.heap.size w w' := by
  go_enter Tryd.func21, Tryd.ntmps21
  go_wp2
  go_ret2
  exact ⟨rfl, Below.refl _ _⟩
set_option maxRecDepth 100000 in
theorem key_Bytes.trim (s r : ByteArray) (w : World) (h : ((s.size : Int) != 64) = false) (h64 : s.size = 64) (hr : r = ⟨(Lib.trimS s.data.toList key_hexs).toArray⟩) (hne : (!r.toList.isEmpty) = true) :
    Calls Tryd.prog 21 #[.string s] w fun e w' => e = .returned (.tuple #[.slice none 0 0, .int .i64 70]) ∧ Below w.heap.size w w' := by
  have hcon := key_trim s w (by omega)
  rw [← hr] at hcon
  have HC := Aside0.mk hcon
  have hz : s.size ≤ 64 := by omega
  clear hcon hr h64
  go_enter Tryd.func21, Tryd.ntmps21
  go_wp2_with (go_at_call 58; refine HC.out.mono ?_; rintro e w' ⟨rfl, hB⟩)
  go_ret2
  exact ⟨rfl, hB⟩
set_option maxRecDepth 100000 in
set_option maxHeartbeats 1000000 in
theorem key_Bytes.good (s r : ByteArray) (w : World) (h : ((s.size : Int) != 64) = false) (h64 : s.size = 64) (hr : r = ⟨(Lib.trimS s.data.toList key_hexs).toArray⟩) (hne : (!r.toList.isEmpty) = false) (hall : ∀ x ∈ s.data.toList, key_hexs.contains x = true) :
    Calls Tryd.prog 21 #[.string s] w fun e w' => ∃ g, e = .returned (.tuple #[.slice (some ⟨g, 0, none⟩) 32 32, .int .i64 0]) ∧ w.heap.size ≤ g ∧ w'.heap[g]? = some (.cells (nums .u8 (key_fill s 64)).toArray 5 (0, 0)) ∧ Below w.heap.size w w' := by
  have hcon := key_trim s w (by omega)
  rw [← hr] at hcon
  have HC := Aside0.mk hcon
  have HA := Aside0.mk hall
  have hz : s.size ≤ 64 := by omega
  have H64 := Aside0.mk h64
  clear hcon hr h64 hall
  have hmk : ∀ w : World, (Instr.makeSlice 22 (.int .i64 32) (.int .i64 32)).run Tryd.prog w = .ok (.slice (some ⟨w.heap.size, 0, none⟩) 32 32) (w.alloc (.cells (nums .u8 (key_fill s 0)).toArray 5)) := fun _ => by kernel_rfl
  go_enter Tryd.func21, Tryd.ntmps21
  go_wp2_with (go_at_call 58; refine HC.out.mono ?_; rintro e w1 ⟨rfl, hB⟩; have HB := Aside0.mk hB; clear hB)
  have hk0 : ((w1.alloc (.cells (nums .u8 (key_fill s 0)).toArray 5)).iter s 0).heap[w1.heap.size + 1]? = some (.stringIter s 0) := by
    have h5 := World.iter_heap (w1.alloc (.cells (nums .u8 (key_fill s 0)).toArray 5)) s 0
    simpa using h5
  have hg0 : ((w1.alloc (.cells (nums .u8 (key_fill s 0)).toArray 5)).iter s 0).heap[w1.heap.size]? = some (.cells (nums .u8 (key_fill s 0)).toArray 5 (0, 0)) := blk_alloc (blk_new _ _) _
  have hb0 : Below w.heap.size w ((w1.alloc (.cells (nums .u8 (key_fill s 0)).toArray 5)).iter s 0) := below_alloc (below_alloc HB.out _) _
  have K0 := Aside0.mk hk0
  have G0 := Aside0.mk hg0
  have B0 := Aside0.mk hb0
  have hws : w.heap.size ≤ w1.heap.size := HB.out.size
  clear hk0 hg0 hb0 HC HB hmk
  go_loopw [5] (fun _ wr => ∃ pos : Nat, pos ≤ s.size ∧ Aside0 (wr.heap[w1.heap.size + 1]? = some (.stringIter s pos)) ∧ Aside0 (wr.heap[w1.heap.size]? = some (.cells (nums .u8 (key_fill s pos)).toArray 5 (0, 0))) ∧ Aside0 (Below w.heap.size w wr))
    (fun _ wr => s.size - wr.iterPos (w1.heap.size + 1))
  case atStart => exact ⟨0, Nat.zero_le _, K0, G0, B0⟩
  case round =>
    obtain ⟨pos, hps, HK, HG, HBl⟩ := hrel
    clear K0 G0 B0
    by_cases hp : pos < s.size
    · have hc := HA.out (s[pos]'hp) (by simp [ByteArray.getElem_eq_getElem_data])
      obtain ⟨x0, x1, x2⟩ := key_hex_of _ hc
      have hnext : ∀ ty, (Instr.next (.pointer (some ⟨w1.heap.size + 1, 0, none⟩)) true ty).run Tryd.prog wr = _ := fun ty => Lib.run_next_ascii_at wr (w1.heap.size + 1) s pos ty HK.out hp x2
      have hk1 := Lib.iterAt_heap wr (w1.heap.size + 1) s pos (pos + 1) HK.out
      have hg1 := (Lib.iterAt_other wr (w1.heap.size + 1) w1.heap.size s (pos + 1) (by omega)).trans HG.out
      have hb1 := Lib.below_iterAt HBl.out (k := w1.heap.size + 1) (by omega) s (pos + 1)
      have hmu : wr.iterPos (w1.heap.size + 1) = pos := by simp [World.iterPos, HK.out]
      have MU := Aside0.mk hmu
      have hbt := bt_at s pos hp
      simp only [Int.toNat_natCast] at hbt
      rw [hbt] at x0 x1 hnext
      clear hc x2
      generalize wr.iterAt (w1.heap.size + 1) s (pos + 1) = W1 at hnext hk1 hg1 hb1
      have HK1 := Aside0.mk hk1
      have HG1 := Aside0.mk hg1
      have HB1 := Aside0.mk hb1
      have hcell : W1.cell? ⟨w1.heap.size, pos / 2, none⟩ = some (.int .u8 (rd (key_fill s pos) ((pos / 2 : Nat) : Int))) := by
        have e := px_arr_cell hg1 ((pos / 2 : Nat) : Int) (by omega) (by rw [key_fill_len]; omega)
        simpa only [Int.toNat_natCast] using e
      have hfr : W1.frozen? ⟨w1.heap.size, pos / 2, none⟩ = false := blk_frozen hg1 _
      clear hk1 hg1 hb1 hmu
      have hp' : (pos : Int) < (s.size : Int) := by omega
      obtain ⟨d, hd⟩ : ∃ d, d = key_hex (bt s pos) := ⟨_, rfl⟩
      rw [← hd] at x0 x1
      have HD := Aside0.mk hd
      have HBT := Aside0.mk hbt
      have hix := (key_index (bt s pos))
      rw [← hd] at hix
      have HIX := Aside0.mk hix
      clear hd hbt hix
      go_wp2_with (go_at_call 59; rw [HBT.out]; refine (HIX.out _).mono ?_; rintro e w' ⟨rfl, rfl⟩)
      rcases Nat.mod_two_eq_zero_or_one pos with h2 | h2
      · obtain ⟨j, hj⟩ : ∃ j : Nat, pos / 2 = j := ⟨_, rfl⟩
        rw [hj] at hcell hfr
        have j0 : (0 : Int) ≤ (j : Int) := by omega
        have j1 : (j : Int) < 32 := by omega
        have q28 : IntKind.i64.wrap ((pos : Int) / 2) = (j : Int) := by rw [IntKind.wrap_i64]; omega
        have q33 : (pos : Int).tmod 2 = 0 := by rw [Int.tmod_eq_emod_of_nonneg (by omega)]; omega
        have w0 : IntKind.i64.wrap 0 = 0 := by decide
        have w4 : IntKind.i64.wrap 4 = 4 := by decide
        have J := Aside0.mk hj
        have H2 := Aside0.mk h2
        clear hj h2
        go_still_tail 13, (by kernel_rfl)
        change wpList _ _ _ _ _ W1.drew
        clear q28 q33 w0 w4
        go_wp2
        go_roundw
        case rel =>
          refine ⟨pos + 1, by omega, ⟨?_⟩, ⟨?_⟩, ⟨below_drew (Below.setCell HB1.out (p := ⟨w1.heap.size, j, none⟩) hws _)⟩⟩
          · exact (Below.heap_setCell W1 ⟨w1.heap.size, j, none⟩ _ _ (fun e => by have : w1.heap.size + 1 = w1.heap.size := e; omega)).trans HK1.out
          · refine (blk_put (w := W1) HG1.out j _ ?_).trans rfl
            rw [px_nums_put, key_fill, key_put, J.out, if_pos H2.out, ← HD.out]
        case measure =>
          rw [px_iter_put HK1.out (by omega), MU.out]
          omega
      · obtain ⟨j, hj⟩ : ∃ j : Nat, pos / 2 = j := ⟨_, rfl⟩
        rw [hj] at hcell hfr
        have j0 : (0 : Int) ≤ (j : Int) := by omega
        have j1 : (j : Int) < 32 := by omega
        have q28 : IntKind.i64.wrap ((pos : Int) / 2) = (j : Int) := by rw [IntKind.wrap_i64]; omega
        have q33 : (pos : Int).tmod 2 = 1 := by rw [Int.tmod_eq_emod_of_nonneg (by omega)]; omega
        have w0 : IntKind.i64.wrap 0 = 0 := by decide
        have w4 : IntKind.i64.wrap 4 = 4 := by decide
        have J := Aside0.mk hj
        have H2 := Aside0.mk h2
        clear hj h2
        go_still_tail 13, (by kernel_rfl)
        change wpList _ _ _ _ _ W1.drew
        clear q28 q33 w0 w4
        go_wp2
        go_roundw
        case rel =>
          refine ⟨pos + 1, by omega, ⟨?_⟩, ⟨?_⟩, ⟨below_drew (Below.setCell HB1.out (p := ⟨w1.heap.size, j, none⟩) hws _)⟩⟩
          · exact (Below.heap_setCell W1 ⟨w1.heap.size, j, none⟩ _ _ (fun e => by have : w1.heap.size + 1 = w1.heap.size := e; omega)).trans HK1.out
          · refine (blk_put (w := W1) HG1.out j _ ?_).trans rfl
            rw [px_nums_put, key_fill, key_put, J.out, if_neg (by rw [H2.out]; decide), ← HD.out]
        case measure =>
          rw [px_iter_put HK1.out (by omega), MU.out]
          omega
    · have hnext : ∀ ty, (Instr.next (.pointer (some ⟨w1.heap.size + 1, 0, none⟩)) true ty).run Tryd.prog wr = _ := fun ty => Lib.run_next_end_at wr (w1.heap.size + 1) s pos ty HK.out hp
      have hp64 : pos = 64 := by have := H64.out; omega
      have HG' := HG
      rw [hp64] at HG'
      clear hp64
      go_wp2
      go_ret2
      exact ⟨_, rfl, hws, HG'.out, HBl.out⟩
def key_out (s : ByteArray) : List Int := key_fill s 64
theorem key_out_len (s : ByteArray) : (key_out s).length = 32 := key_fill_len s 64
def key_Bytes.ok (s : ByteArray) : Bool := decide (s.size = 64) && key_all s
def key_Bytes.f (a0 : ByteArray) : Option (List Int × Int) := if key_Bytes.ok a0 = true then some (key_out a0, 0) else some ([], 70)
theorem key_Bytes.f_yes (a0 : ByteArray) (h : key_Bytes.ok a0 = true) : key_Bytes.f a0 = some (key_out a0, 0) := if_pos h
theorem key_Bytes.f_no (a0 : ByteArray) (h : ¬ key_Bytes.ok a0 = true) : key_Bytes.f a0 = some ([], 70) := if_neg h
theorem key_Bytes.calls_no (a0 : ByteArray) (w : World) (h : ¬ key_Bytes.ok a0 = true) :
    Calls Tryd.prog 21 #[.string a0] w fun e w' => e = .returned (.tuple #[.slice none 0 0, .int .i64 70]) ∧ Below w.heap.size w w' := by
  by_cases h64 : a0.size = 64
  · have hne : ((a0.size : Int) != 64) = false := by rw [h64]; rfl
    have hall : ¬ key_all a0 = true := fun e => h (by simp [key_Bytes.ok, h64, e])
    refine key_Bytes.trim a0 _ w hne h64 rfl ?_
    cases hr : Lib.trimS a0.data.toList key_hexs with
    | nil => exact absurd (by simpa only [key_all, List.all_eq_true] using px_trimS_nil _ _ hr) hall
    | cons a m => rw [ByteArray.toList_eq]; rfl
  · exact key_Bytes.size a0 w (by rw [bne_iff_ne]; omega)
theorem key_Bytes.calls_yes (a0 : ByteArray) (w : World) (h : key_Bytes.ok a0 = true) :
    Calls Tryd.prog 21 #[.string a0] w fun e w' => ∃ g, e = .returned (.tuple #[.slice (some ⟨g, 0, none⟩) 32 32, .int .i64 0]) ∧ w.heap.size ≤ g ∧ w'.heap[g]? = some (.cells (nums .u8 (key_out a0)).toArray 5 (0, 0)) ∧ Below w.heap.size w w' := by
  have h2 : a0.size = 64 ∧ key_all a0 = true := by simpa [key_Bytes.ok] using h
  obtain ⟨h64, hall⟩ := h2
  have hne : ((a0.size : Int) != 64) = false := by rw [h64]; rfl
  have hall' : ∀ x ∈ a0.data.toList, key_hexs.contains x = true := by
    simpa only [key_all, List.all_eq_true] using hall
  exact key_Bytes.good a0 _ w hne h64 rfl (by rw [px_trimS_of _ _ hall', ByteArray.toList_eq]; rfl) hall'
theorem key_Bytes.calls (a0 : ByteArray) (r1 : List Int) (r2 : Int) (w : World) (h : key_Bytes.f a0 = some (r1, r2)) :
    Calls Tryd.prog 21 #[.string a0] w fun e w' => ∃ v0_ : Value, e = .returned (.tuple #[v0_, .int .i64 r2]) ∧ Kd.R (Kd.int .u8) 5 w' w.heap.size (fun _ => True) v0_ r1 ∧ Below w.heap.size w w' := by
  by_cases hok : key_Bytes.ok a0 = true
  · obtain ⟨e1, e2⟩ := Prod.mk.inj (Option.some.inj ((key_Bytes.f_yes a0 hok).symm.trans h))
    refine (key_Bytes.calls_yes a0 w hok).mono ?_
    rintro e w' ⟨g, rfl, hg, hh, hB⟩
    subst e2
    rw [← e1]
    have e := px_R_blk .u8 (xs := key_out a0) (base := w.heap.size) (ok := fun _ => True) hh hg (by rw [key_out_len]; decide) trivial
    rw [key_out_len] at e
    exact ⟨_, rfl, e, hB⟩
  · obtain ⟨e1, e2⟩ := Prod.mk.inj (Option.some.inj ((key_Bytes.f_no a0 hok).symm.trans h))
    refine (key_Bytes.calls_no a0 w hok).mono ?_
    rintro e w' ⟨rfl, hB⟩
    subst e2
    rw [← e1]
    exact ⟨_, rfl, Kd.R_nil _ _ _ _ _, hB⟩


end Go.Proofs.YtbclnkhcnclfoaaDoor.Q
