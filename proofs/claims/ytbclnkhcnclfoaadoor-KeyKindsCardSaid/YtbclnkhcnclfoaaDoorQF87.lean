-- Laid by wip/xprint.py (a program of this session, on the kit's printer) out of the translation. Not trusted: Lean checks it.
import Derived.Test.YtbclnkhcnclfoaaDoorQ0
import Derived.Test.YtbclnkhcnclfoaaDoorXMore
import Derived.Test.YtbclnkhcnclfoaaDoorSh1
namespace Go.Proofs.YtbclnkhcnclfoaaDoor.Q
open Go.RowKit Go.Proofs.YtbclnkhcnclfoaaDoorW.PrintWords Go.Proofs.YtbclnkhcnclfoaaDoorW.PrintLast Go.Proofs.YtbclnkhcnclfoaaDoorW.PrintMore
attribute [local go_sem] max2_int min2_int max_two min_two max_three min_three max_four min_four   -- for this text's walks alone
set_option linter.unusedVariables false
set_option linter.unusedSimpArgs false

/-! ### api_Key_87: function 87 -/
-- with Derived.Test.YtbclnkhcnclfoaaDoorXMore
-- with Derived.Test.YtbclnkhcnclfoaaDoorSh1
def key_sortS (xs : List ByteArray) : List ByteArray := ((xs.map (·.data.toList)).mergeSort fun x y => decide (x ≤ y)).map fun l => ⟨l.toArray⟩
theorem key_sortS_len (xs : List ByteArray) : (key_sortS xs).length = xs.length := by simp [key_sortS]
theorem key_encs (xs : List ByteArray) : encs Value.string xs = (xs.map (·.data.toList)).map encStr := by
  simp [encs, encStr]
theorem key_encs_sort (xs : List ByteArray) : encs Value.string (key_sortS xs) = ((xs.map (·.data.toList)).mergeSort fun x y => decide (x ≤ y)).map encStr := by
  simp [encs, encStr, key_sortS]
set_option maxRecDepth 100000 in
theorem key_sort_calls (v : Value) (xs : List ByteArray) (w : World) (base : Nat) (ok : Nat → Prop) (h : Kd.R Kd.string 23 w base ok v xs) (hl : xs.length < 4611686018427387904) :
    Calls Tryd.prog 119 #[v] w fun e w' => e = .returned (.tuple #[]) ∧ Kd.R Kd.string 23 w' base ok v (key_sortS xs) ∧ w.grownBy w' v.ownBlock := by
  have hown := Kd.own_of_R h
  by_cases h0 : xs.length = 0
  · have hnil := List.eq_nil_of_length_eq_zero h0
    subst hnil
    obtain ⟨A, c, rfl⟩ := Kd.R_slice h
    refine (AnyM.slices_Sort_string_none Tryd.laysSortKey A c w).mono ?_
    rintro e w' ⟨rfl, rfl⟩
    have e1 : key_sortS [] = [] := by simp [key_sortS]
    rw [e1]
    exact ⟨rfl, h, ⟨rfl, rfl, rfl, Nat.le_refl _, fun _ _ _ => rfl⟩⟩
  · have hown' := hown
    rw [key_encs] at hown
    rcases hown.2 with ⟨rfl, hx⟩ | ⟨g, cap, cur, rfl, hbase, hb, h1, h2, h3, h4⟩
    · exact absurd (by simpa using hx) (fun e => h0 (by rw [e]; rfl))
    · have hcon := AnyM.slices_Sort_string Tryd.laysSortKey g 0 cap (xs.map (·.data.toList)) w (holds_of_block hb (by simpa using h4)) (Array.getElem?_eq_some_iff.1 hb).1 (by rw [List.length_map]; exact hl)
      rw [List.length_map] at hcon
      refine Calls.mono hcon ?_
      rintro e w' ⟨rfl, n, os, rfl⟩
      refine ⟨rfl, ?_, grownBy_sorted _⟩
      have ho := ownsRow_sorted (w := w) (n := n) (os := os) (ss := xs.map (·.data.toList)) (ts := (xs.map (·.data.toList)).mergeSort fun x y => decide (x ≤ y)) (by simp) hbase hb (by rw [List.length_map]; exact h1) h2 h3
      rw [List.length_map, ← key_encs_sort] at ho
      have hr := Kd.R_of_own (enc := Value.string) (h1 := fun _ => rfl) (xs := key_sortS xs) (ok := ok) (v := .slice (some ⟨g, 0, none⟩) xs.length cap) (by rw [key_sortS_len]; exact ho) h.1
      exact hr
def key_has (out : List ByteArray) (x : ByteArray) : Bool := out.any fun y => decide (y.data.toList = x.data.toList)
def key_add (acc : List ByteArray) (x : ByteArray) : List ByteArray := if key_has acc x = true then acc else acc ++ [x]
def key_nub (l : List ByteArray) : List ByteArray := l.foldl key_add []
theorem key_has_snoc (out : List ByteArray) (x y : ByteArray) : key_has (out ++ [x]) y = (key_has out y || decide (x.data.toList = y.data.toList)) := by simp [key_has]
theorem key_nub_succ (l : List ByteArray) (i : Nat) (hi : i < l.length) : key_nub (l.take (i + 1)) = key_add (key_nub (l.take i)) (rdOf ByteArray.empty l i) := by
  unfold key_nub
  rw [List.take_succ_eq_append_getElem hi, List.foldl_append]
  simp [rdOf, hi]
theorem key_add_len (acc : List ByteArray) (x : ByteArray) : (key_add acc x).length ≤ acc.length + 1 := by
  unfold key_add
  split <;> simp
theorem key_foldl_len : ∀ (l acc : List ByteArray), (l.foldl key_add acc).length ≤ acc.length + l.length
  | [], acc => by simp
  | x :: l, acc => by
    have h1 := key_foldl_len l (key_add acc x)
    have h2 := key_add_len acc x
    simp only [List.foldl_cons, List.length_cons]
    omega
theorem key_nub_len (l : List ByteArray) : (key_nub l).length ≤ l.length := by
  have := key_foldl_len l []
  simpa [key_nub] using this
def key_met (D : DataW Unit) (out : List ByteArray) : Prop := Go.Maps.IsMap D ∧ ∀ x : ByteArray, D.atKey (.string x.data.toList) (.lit (.bool false)) = .lit (.bool (key_has out x))
theorem key_met_none : key_met (.map []) [] := ⟨Go.Maps.isMap_empty, fun x => by simp [DataW.atKey, key_has]⟩
theorem key_met_put {D : DataW Unit} {out : List ByteArray} (h : key_met D out) (x : ByteArray) : key_met (D.put (.string x.data.toList) (.lit (.bool true))) (key_add out x) := by
  refine ⟨h.1.put _ _, fun y => ?_⟩
  by_cases e : y.data.toList = x.data.toList
  · rw [e, Go.Maps.atKey_put_same h.1 (k := .string x.data.toList) trivial]
    have : key_has (key_add out x) y = true := by
      unfold key_add
      split
      · rename_i hx
        simpa [key_has, e] using hx
      · rw [key_has_snoc, e]
        simp
    rw [this]
  · rw [Go.Maps.atKey_put_other (fun q => e (by injection q)), h.2 y]
    have : key_has (key_add out x) y = key_has out y := by
      unfold key_add
      split
      · rfl
      · rw [key_has_snoc]
        simp [Ne.symm e]
    rw [this]
theorem key_zero (w : World) : (zeroValue 4).run Tryd.prog w = .ok (.bool false) w := by kernel_rfl
set_option maxRecDepth 100000 in
set_option maxHeartbeats 1000000 in
theorem key_sorted_walk (A : Option Addr) (c : Nat) (l : List ByteArray) (w : World) (hC : Kd.C Kd.string w A l.length l) (hl : l.length < 1000000000000) (hs : ∀ x ∈ l, x.size ≤ maxLen) :
    Calls Tryd.prog 87 #[.slice A l.length c] w fun e w' => ∃ v : Value, e = .returned v ∧ Kd.R Kd.string 23 w' w.heap.size (fun _ => True) v (key_sortS (key_nub l)) ∧ Below w.heap.size w w' := by
  have hmm := @run_makeMap Tryd.prog
  have HC := Aside0.mk hC
  have HS := Aside0.mk hs
  clear hC hs
  go_enter Tryd.func87, Tryd.ntmps87
  go_wp2
  have m0 := Aside0.mk (World.ownsMap_made w Tryd.prog 23 (plainElem (H := Unit) Tryd.prog 4))
  have r0 := Aside0.mk (Kd.R_nil Kd.string 23 (w.alloc (.map #[] 0)) w.heap.size (fun k => k ≠ w.heap.size))
  have b0 := Aside0.mk (below_alloc (Below.refl w.heap.size w) (.map #[] 0))
  clear hmm
  go_loopg [4, 10] (l.length) (fun g v4 v10 wr => ∃ (i : Nat) (D : DataW Unit), v10 = .int .i64 i ∧ Aside0 (i + g = l.length) ∧ Aside0 (Kd.R Kd.string 23 wr w.heap.size (fun k => k ≠ w.heap.size) v4 (key_nub (l.take i))) ∧ Aside0 (wr.ownsMap Tryd.prog 23 (plainElem (H := Unit) Tryd.prog 4) w.heap.size i D) ∧ Aside0 (key_met D (key_nub (l.take i))) ∧ Aside0 (Below w.heap.size w wr))
  case atStart => exact ⟨0, .map [], rfl, ⟨by omega⟩, r0, m0, ⟨key_met_none⟩, b0⟩
  case round =>
    clear m0 r0 b0
    obtain ⟨i, D, rfl, HG, HR, HM, HD, HB⟩ := hrel
    have hle : i ≤ l.length := by have := HG.out; omega
    by_cases hi : i < l.length
    · have hi' : (i : Int) < (l.length : Int) := by omega
      obtain ⟨ad, rfl, hc⟩ := Kd.at_string (Kd.C_below HC.out HB.out) (i : Int) (by omega) (by omega)
      simp only [Int.toNat_natCast] at hc
      have hsx : (rdOf ByteArray.empty l i).size ≤ maxLen := HS.out _ (by simp [rdOf, hi])
      have hsucc := key_nub_succ l i hi
      obtain ⟨x, hx⟩ : ∃ x, rdOf ByteArray.empty l i = x := ⟨_, rfl⟩
      have hx' : rdOf ByteArray.empty l ((i : Nat) : Int) = x := hx
      rw [hx'] at hc hsx hsucc
      clear hx hx'
      have hkey : keyOf Tryd.prog 23 (.string x) = some (.string x.data.toList) := Go.WideMaps.keyOf_string_mk Tryd.underlying23 hsx
      have hlen : (key_nub (l.take i)).length ≤ i := by
        have e := key_nub_len (l.take i)
        rw [List.length_take] at e
        omega
      have hBl : w.heap.size < wr.heap.size := HM.out.lt
      have HSU := Aside0.mk hsucc
      have HKEY := Aside0.mk hkey
      clear hsucc hkey hsx
      obtain ⟨g', rfl⟩ : ∃ g', gk = g' + 1 := ⟨gk - 1, by have := HG.out; omega⟩
      cases hhas : key_has (key_nub (l.take i)) x
      · have hat := HD.out.2 x
        rw [hhas] at hat
        have HAT := Aside0.mk hat
        have HH := Aside0.mk hhas
        clear hat hhas
        have HR0 := HR
        obtain ⟨out, hout⟩ : ∃ out, key_nub (l.take i) = out := ⟨_, rfl⟩
        rw [hout] at HR HSU hlen HD HH
        clear hout HR0
        go_wp2_with (first | (at_lookup; refine wpList_lookup_own_bool _ rfl _ _ 156 rfl 23 4 (Go.Maps.string_keyed Tryd.underlying23) Tryd.underlying156 Tryd.underlying4 (key_zero _) w.heap.size i D rfl HM.out _ _ rfl HKEY.out false HAT.out ?_) | ((with_reducible refine gate_builtin (b := .append) (xs := #[.tmp 18, .tmp 20]) rfl ?_); at_builtin; refine Kd.R_append Kd.string (w0 := w) w.heap.size rfl (.tmp 18) (.tmp 20) 88 23 (.string ⟨#[]⟩) 16 rfl Tryd.underlying88 info23 rfl (by decide) (by omega) u4 out x [.string x] (fun k => k ≠ w.heap.size) (fun _ => False) rfl rfl ?aP (fun _ hk => hk.elim) ?aF ?aO ?aB ?aS ?aL ?_; (case aP => exact rfl); (case aB => exact HB.out); (case aO => exact HR.out); (case aF => intro k hk; omega); (case aS => omega); (case aL => omega); intro v5 w5 ho hb hg hat; have HO5 := Aside0.mk ho; have HB5 := Aside0.mk hb; have HG5 := Aside0.mk hg; clear ho hb hg hat) | (at_mapUpdate; refine wpList_mapUpdate_own _ rfl _ _ _ 156 rfl 23 4 (Go.Maps.string_keyed Tryd.underlying23) Tryd.underlying156 _ w.heap.size i D rfl (HM.out.kept HG5.out (fun e => HR.out.1 _ e.symm rfl)) (by unfold maxLen; omega) _ _ _ rfl rfl HKEY.out _ [] (plainElem_bool Tryd.underlying4 true) ?_; intro w6 hm6 hg6; have HM6 := Aside0.mk hm6; have HG6 := Aside0.mk hg6; clear hm6 hg6))
        go_roundg g'
        case measure => omega
        case rel =>
          have e1 : key_nub (l.take (i + 1)) = out ++ [x] := by rw [HSU.out, key_add, if_neg (by rw [HH.out]; decide)]
          have e2 : key_add out x = out ++ [x] := by rw [key_add, if_neg (by rw [HH.out]; decide)]
          refine ⟨i + 1, _, by go_num, ⟨by have := HG.out; omega⟩, ⟨?_⟩, HM6, ⟨?_⟩, ⟨pw_below_grown HB5.out _ HB5.out.size HG6.out (fun k hk => by cases hk; exact Nat.le_refl _)⟩⟩
          · rw [e1]
            exact Kd.R_grown HO5.out HG6.out (fun k hk e => hk (Option.some.inj e))
          · rw [e1, ← e2]
            exact key_met_put HD.out x
      · have hat := HD.out.2 x
        rw [hhas] at hat
        have HAT := Aside0.mk hat
        have HH := Aside0.mk hhas
        clear hat hhas
        go_wp2_with (first | (at_lookup; refine wpList_lookup_own_bool _ rfl _ _ 156 rfl 23 4 (Go.Maps.string_keyed Tryd.underlying23) Tryd.underlying156 Tryd.underlying4 (key_zero _) w.heap.size i D rfl HM.out _ _ rfl HKEY.out true HAT.out ?_) | (at_mapUpdate; refine wpList_mapUpdate_own _ rfl _ _ _ 156 rfl 23 4 (Go.Maps.string_keyed Tryd.underlying23) Tryd.underlying156 _ w.heap.size i D rfl HM.out (by unfold maxLen; omega) _ _ _ rfl rfl HKEY.out _ [] (plainElem_bool Tryd.underlying4 true) ?_; intro w6 hm6 hg6; have HM6 := Aside0.mk hm6; have HG6 := Aside0.mk hg6; clear hm6 hg6))
        go_roundg g'
        case measure => omega
        case rel =>
          have e1 : key_nub (l.take (i + 1)) = key_nub (l.take i) := by rw [HSU.out, key_add, if_pos HH.out]
          have e2 : key_add (key_nub (l.take i)) x = key_nub (l.take i) := by rw [key_add, if_pos HH.out]
          refine ⟨i + 1, _, by go_num, ⟨by have := HG.out; omega⟩, ⟨?_⟩, HM6, ⟨?_⟩, ⟨pw_below_grown HB.out _ HB.out.size HG6.out (fun k hk => by cases hk; exact Nat.le_refl _)⟩⟩
          · rw [e1]
            exact Kd.R_grown HR.out HG6.out (fun k hk e => hk (Option.some.inj e))
          · rw [e1, ← e2]
            exact key_met_put HD.out x
    · have hi' : ¬ (i : Int) < (l.length : Int) := by omega
      have ht : l.take i = l := List.take_of_length_le (by omega)
      rw [ht] at HR
      have hnl := key_nub_len l
      have HBs : w.heap.size ≤ wr.heap.size := HB.out.size
      go_wp2_with (go_at_call 119; refine (key_sort_calls u4 (key_nub l) _ w.heap.size _ HR.out (by omega)).mono ?_; rintro e w7 ⟨rfl, hr7, hg7⟩; have HR7 := Aside0.mk hr7; have HG7 := Aside0.mk hg7; clear hr7 hg7)
      go_ret
      exact ⟨_, rfl, Kd.R_mono HR7.out (fun _ _ => trivial), pw_below_grown HB.out _ HBs HG7.out (fun k hk => ((Kd.R_bound HR.out).1 k hk).2.1)⟩
def key_sorted.ok (l : List ByteArray) : Bool := decide (l.length < 1000000000000) && l.all (fun x => decide (x.size ≤ 9223372036854775807))
def api_Key_87.f (l : List ByteArray) : Option (List ByteArray) := if key_sorted.ok l = true then some (key_sortS (key_nub l)) else none
theorem api_Key_87.calls (A : Option Addr) (c : Nat) (l r : List ByteArray) (w : World) (hC : Kd.C Kd.string w A l.length l) (hc : l.length ≤ c) (h : api_Key_87.f l = some r) :
    Calls Tryd.prog 87 #[.slice A l.length c] w fun e w' => ∃ v : Value, e = .returned v ∧ Kd.R Kd.string 23 w' w.heap.size (fun _ => True) v r ∧ Below w.heap.size w w' := by
  unfold api_Key_87.f at h
  split at h
  · rename_i hok
    have e := Option.some.inj h
    subst e
    have h2 : l.length < 1000000000000 ∧ ∀ x ∈ l, x.size ≤ 9223372036854775807 := by simpa [key_sorted.ok] using hok
    exact key_sorted_walk A c l w hC h2.1 (fun x hx => h2.2 x hx)
  · cases h


end Go.Proofs.YtbclnkhcnclfoaaDoor.Q
