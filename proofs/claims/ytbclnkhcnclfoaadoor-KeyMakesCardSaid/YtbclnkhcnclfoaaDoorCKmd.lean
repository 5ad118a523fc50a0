/- Functions of the program and of the document's answers as Lean functions, with the proofs that the Go code comes to their answers; lemmas on these functions. -/
import Derived.Test.YtbclnkhcnclfoaaDoorProg
import Derived.Shelf.SlGeneric
import Derived.Ground.NamesProg
import Derived.Ground.SlgmProg
import Derived.Shelf.Strings.SlTrimAscii
import Derived.Shelf.Small.Strs
import Derived.Shelf.SortM.Plain
import Derived.Shelf.SortM.SortNone
import Derived.Test.YtbclnkhcnclfoaaDoorCKmWa
import Derived.Test.YtbclnkhcnclfoaaDoorCKmWb
import Derived.Test.YtbclnkhcnclfoaaDoorCKma
import Derived.Test.YtbclnkhcnclfoaaDoorCKmb
import Derived.Test.YtbclnkhcnclfoaaDoorCKmc
namespace Go.Proofs.YtbclnkhcnclfoaaDoor.Q
open Go.RowKit Go.Proofs.YtbclnkhcnclfoaaDoorW.PrintWords Go.Proofs.YtbclnkhcnclfoaaDoorW.PrintLast Go.Proofs.YtbclnkhcnclfoaaDoorW.PrintMore
attribute [local go_sem] max2_int min2_int max_two min_two max_three min_three max_four min_four   -- for this text's walks alone
set_option linter.unusedVariables false
set_option linter.unusedSimpArgs false
/-! ### palimpsestref07_Bytes: function 22 -/
def palimpsestref07_Bytes.l0 : Nat → ByteArray → List Int → Int → Option (List Int × Int)
  | 0, _, _, _ => none
  | k + 1, x0, x4, x5 => if x5 < 64 then (if 0 ≤ x5 then (if x5 < (x0.size : Int) then ((palimpsestref07_digit.f k (bt x0 x5)).bind fun t372 => (if 0 ≤ (wrap64 (x5 + 1)) then (if (wrap64 (x5 + 1)) < (x0.size : Int) then ((palimpsestref07_digit.f k (bt x0 (wrap64 (x5 + 1)))).bind fun t373 => (if t372 < 0 then (some (([] : List Int), 70)) else (if t373 < 0 then (some (([] : List Int), 70)) else (if x4.length < 140737488355328 then (palimpsestref07_Bytes.l0 k x0 (x4 ++ [(wrap64 ((wrap64 (16 * t372)) + t373)) % 256]) (wrap64 (x5 + 2))) else (none))))) else (none)) else (none))) else (none)) else (none)) else (some (x4, 0))
def palimpsestref07_Bytes.f (k : Nat) (a0 : ByteArray) : Option (List Int × Int) := if (a0.size : Int) = 64 then (palimpsestref07_Bytes.l0 k a0 ([] : List Int) 0) else (some (([] : List Int), 70))
theorem palimpsestref07_Bytes.mono_l : ∀ k, (∀ y0 y1 y2, LeO (palimpsestref07_Bytes.l0 k y0 y1 y2) (palimpsestref07_Bytes.l0 (k + 1) y0 y1 y2))
  | 0 => fun _ _ _ r h => by simp [palimpsestref07_Bytes.l0] at h
  | k + 1 => by
    have ih0 := palimpsestref07_Bytes.mono_l k
    · intro y0 y1 y2
      unfold palimpsestref07_Bytes.l0
      repeat' first
      | (with_reducible exact ih0 _ _ _)
      | (with_reducible exact palimpsestref07_digit.mono _ _)
      | (with_reducible exact LeO.refl _)
      | (with_reducible exact LeO.none _)
      | (with_reducible refine LeO.ite ?_ ?_)
      | (with_reducible refine LeO.bind ?_ (fun _ => ?_))
      | exact ih0 _ _ _
      | exact palimpsestref07_digit.mono _ _
      | exact LeO.none _
      | refine LeO.ite ?_ ?_
      | refine LeO.bind ?_ (fun _ => ?_)
theorem palimpsestref07_Bytes.mono : ∀ a0 k, LeO (palimpsestref07_Bytes.f k a0) (palimpsestref07_Bytes.f (k + 1) a0) := by
  intro a0 k
  have ih0 := palimpsestref07_Bytes.mono_l k
  unfold palimpsestref07_Bytes.f
  repeat' first
      | (with_reducible exact ih0 _ _ _)
      | (with_reducible exact palimpsestref07_digit.mono _ _)
      | (with_reducible exact LeO.refl _)
      | (with_reducible exact LeO.none _)
      | (with_reducible refine LeO.ite ?_ ?_)
      | (with_reducible refine LeO.bind ?_ (fun _ => ?_))
      | exact ih0 _ _ _
      | exact palimpsestref07_digit.mono _ _
      | exact LeO.none _
      | refine LeO.ite ?_ ?_
      | refine LeO.bind ?_ (fun _ => ?_)
set_option maxHeartbeats 8000000 in
set_option maxRecDepth 100000 in
theorem palimpsestref07_Bytes.calls (k : Nat) (a0 : ByteArray) (r1 : List Int) (r2 : Int) (w : World) (h : palimpsestref07_Bytes.f k a0 = some (r1, r2)) :
    Calls Tryd.prog 22 #[.string a0] w fun e w' => ∃ v0_ : Value, e = .returned (.tuple #[v0_, .int .i64 r2]) ∧ Kd.R (Kd.int .u8) 5 w' w.heap.size (fun _ => True) v0_ r1 ∧ Below w.heap.size w w' := by
  have HB := Aside0.mk (Below.refl w.heap.size w)
  have H : (if (a0.size : Int) = 64 then (palimpsestref07_Bytes.l0 k a0 ([] : List Int) 0) else (some (([] : List Int), 70))) = some (r1, r2) := h
  clear h
  by_cases c2 : (a0.size : Int) = 64
  · rw [if_pos c2] at H
    have c2b0 : ((a0.size : Int) == 64) = true := beq_iff_eq.mpr c2
    have c2b1 : ((a0.size : Int) != 64) = false := bne_eq_false_iff_eq.mpr c2
    clear c2
    have H' := Aside0.mk H
    clear H
    go_enter Tryd.func22, Tryd.ntmps22
    go_wp2
    repeat (go_quiet (fail); try go_wp2)
    go_loopg [4, 5] k (fun kq v4 v5 w' => ∃ (x4_1 : List Int) (x5_1 : Int), v5 = .int .i64 x5_1 ∧ Aside0 (palimpsestref07_Bytes.l0 kq a0 x4_1 x5_1 = some (r1, r2)) ∧ Aside0 (kq ≤ k) ∧ Aside0 (Kd.R (Kd.int .u8) 5 w' w.heap.size (fun _ => True) v4 x4_1) ∧ Aside0 (Below w.heap.size w w'))
    case atStart => exact ⟨(([] : List Int)), (0), (by first | rfl | (simp; done) | (simp [*]; done)), H', ⟨Nat.le_refl _⟩, ⟨by first | exact Kd.R_nil _ _ _ _ _ | exact Kd.N_nil _ _ _ _ _ | exact Kd.V_nil _ _ _ _ _ | exact Kd.Q_nil _ _ _ _ _ | exact Kd.S_nil _ _ _ _ _⟩, ⟨by repeat (first | (with_reducible first | exact HB.out | apply below_alloc | apply pw_below_drewN | apply below_drew1) | exact HB.out)⟩⟩
    case round =>
      clear H'
      try clear c2
      try clear c2b0
      try clear c2b1
      try clear p2
      obtain ⟨x4_1, x5_1, rfl, HA, HK1, HO_4, HB⟩ := hrel
      cases gk with
      | zero => exact absurd HA.out (by simp [palimpsestref07_Bytes.l0])
      | succ k1 =>
        have H := HA.out
        clear HA
        simp only [palimpsestref07_Bytes.l0] at H
        by_cases c3 : x5_1 < 64
        · rw [if_pos c3] at H
          have c3b0 : decide (x5_1 < 64) = true := decide_eq_true c3
          clear c3
          by_cases c4 : 0 ≤ x5_1
          · rw [if_pos c4] at H
            have c4b0 : decide (0 ≤ x5_1) = true := decide_eq_true c4
            clear c4
            by_cases c5 : x5_1 < (a0.size : Int)
            · rw [if_pos c5] at H
              have c5b0 : decide (x5_1 < (a0.size : Int)) = true := decide_eq_true c5
              clear c5
              replace H := Option.bind_eq_some_iff.mp H
              obtain ⟨t372, A70, H⟩ := H
              replace H : (if 0 ≤ (wrap64 (x5_1 + 1)) then (if (wrap64 (x5_1 + 1)) < (a0.size : Int) then ((palimpsestref07_digit.f k1 (bt a0 (wrap64 (x5_1 + 1)))).bind fun t373 => (if t372 < 0 then (some (([] : List Int), 70)) else (if t373 < 0 then (some (([] : List Int), 70)) else (if x4_1.length < 140737488355328 then (palimpsestref07_Bytes.l0 k1 a0 (x4_1 ++ [(wrap64 ((wrap64 (16 * t372)) + t373)) % 256]) (wrap64 (x5_1 + 2))) else (none))))) else (none)) else (none)) = some (r1, r2) := H
              have A7 := Aside0.mk A70
              clear A70
              obtain ⟨ji8, hji8⟩ : ∃ j_ : Int, (wrap64 (x5_1 + 1)) = j_ := ⟨_, rfl⟩
              replace H : (if 0 ≤ (ji8) then (if (ji8) < (a0.size : Int) then ((palimpsestref07_digit.f k1 (bt a0 (ji8))).bind fun t373 => (if t372 < 0 then (some (([] : List Int), 70)) else (if t373 < 0 then (some (([] : List Int), 70)) else (if x4_1.length < 140737488355328 then (palimpsestref07_Bytes.l0 k1 a0 (x4_1 ++ [(wrap64 ((wrap64 (16 * t372)) + t373)) % 256]) (wrap64 (x5_1 + 2))) else (none))))) else (none)) else (none)) = some (r1, r2) := by first | (rw [hji8] at H; exact H) | (simp only [hji8] at H ⊢; exact H)
              (try rw [hji8] at A7)
              have hji8w : (IntKind.i64.wrap (x5_1 + 1)) = ji8 := (i64_w _).trans hji8
              by_cases c9 : 0 ≤ (ji8)
              · rw [if_pos c9] at H
                have c9b0 : decide (0 ≤ (ji8)) = true := decide_eq_true c9
                clear c9
                by_cases c10 : (ji8) < (a0.size : Int)
                · rw [if_pos c10] at H
                  have c10b0 : decide ((ji8) < (a0.size : Int)) = true := decide_eq_true c10
                  clear c10
                  replace H := Option.bind_eq_some_iff.mp H
                  obtain ⟨t373, A120, H⟩ := H
                  replace H : (if t372 < 0 then (some (([] : List Int), 70)) else (if t373 < 0 then (some (([] : List Int), 70)) else (if x4_1.length < 140737488355328 then (palimpsestref07_Bytes.l0 k1 a0 (x4_1 ++ [(wrap64 ((wrap64 (16 * t372)) + t373)) % 256]) (wrap64 (x5_1 + 2))) else (none)))) = some (r1, r2) := H
                  have A12 := Aside0.mk A120
                  clear A120
                  by_cases c13 : t372 < 0
                  · rw [if_pos c13] at H
                    have c13b0 : decide (t372 < 0) = true := decide_eq_true c13
                    clear c13
                    simp only [Option.some.injEq, Prod.mk.injEq] at H
                    obtain ⟨rfl, rfl⟩ := H
                    have p6 : 0 ≤ (x5_1 : Int) := of_decide_eq_true (by first | (with_reducible assumption) | assumption)
                    have q6 : x5_1 < (a0.size : Int) := of_decide_eq_true (by first | (with_reducible assumption) | assumption)
                    have hx6 := bt_at a0 x5_1
                    replace p6 := eq_true p6
                    replace q6 := eq_true q6
                    go_wp2_with (first | (go_at_call 60; (with_reducible refine (palimpsestref07_digit.calls k1 (bt a0 x5_1) t372 _ A7.out).mono ?_); rintro e w' ⟨rfl, ⟨nd, rfl⟩⟩; (try first | exact ⟨rfl, _, World.drewN_drewN _ _ _⟩ | exact ⟨rfl, _, Eq.trans (World.drewN_drewN _ _ _) (congrArg (World.drewN _) (Nat.add_assoc _ _ _))⟩); have p11 : 0 ≤ ((ji8) : Int) := of_decide_eq_true (by first | (with_reducible assumption) | assumption); have q11 : (ji8) < (a0.size : Int) := of_decide_eq_true (by first | (with_reducible assumption) | assumption); have hx11 := bt_at a0 (ji8); replace p11 := eq_true p11; replace q11 := eq_true q11) | (go_at_call 60; (with_reducible refine (palimpsestref07_digit.calls k1 (bt a0 (ji8)) t373 _ A12.out).mono ?_); rintro e w' ⟨rfl, ⟨nd, rfl⟩⟩; (try first | exact ⟨rfl, _, World.drewN_drewN _ _ _⟩ | exact ⟨rfl, _, Eq.trans (World.drewN_drewN _ _ _) (congrArg (World.drewN _) (Nat.add_assoc _ _ _))⟩)))
                    repeat (go_quiet (first | (go_at_call 60; (with_reducible refine (palimpsestref07_digit.calls k1 (bt a0 x5_1) t372 _ A7.out).mono ?_); rintro e w' ⟨rfl, ⟨nd, rfl⟩⟩; (try first | exact ⟨rfl, _, World.drewN_drewN _ _ _⟩ | exact ⟨rfl, _, Eq.trans (World.drewN_drewN _ _ _) (congrArg (World.drewN _) (Nat.add_assoc _ _ _))⟩); have p11 : 0 ≤ ((ji8) : Int) := of_decide_eq_true (by first | (with_reducible assumption) | assumption); have q11 : (ji8) < (a0.size : Int) := of_decide_eq_true (by first | (with_reducible assumption) | assumption); have hx11 := bt_at a0 (ji8); replace p11 := eq_true p11; replace q11 := eq_true q11) | (go_at_call 60; (with_reducible refine (palimpsestref07_digit.calls k1 (bt a0 (ji8)) t373 _ A12.out).mono ?_); rintro e w' ⟨rfl, ⟨nd, rfl⟩⟩; (try first | exact ⟨rfl, _, World.drewN_drewN _ _ _⟩ | exact ⟨rfl, _, Eq.trans (World.drewN_drewN _ _ _) (congrArg (World.drewN _) (Nat.add_assoc _ _ _))⟩))); try go_wp2_with (first | (go_at_call 60; (with_reducible refine (palimpsestref07_digit.calls k1 (bt a0 x5_1) t372 _ A7.out).mono ?_); rintro e w' ⟨rfl, ⟨nd, rfl⟩⟩; (try first | exact ⟨rfl, _, World.drewN_drewN _ _ _⟩ | exact ⟨rfl, _, Eq.trans (World.drewN_drewN _ _ _) (congrArg (World.drewN _) (Nat.add_assoc _ _ _))⟩); have p11 : 0 ≤ ((ji8) : Int) := of_decide_eq_true (by first | (with_reducible assumption) | assumption); have q11 : (ji8) < (a0.size : Int) := of_decide_eq_true (by first | (with_reducible assumption) | assumption); have hx11 := bt_at a0 (ji8); replace p11 := eq_true p11; replace q11 := eq_true q11) | (go_at_call 60; (with_reducible refine (palimpsestref07_digit.calls k1 (bt a0 (ji8)) t373 _ A12.out).mono ?_); rintro e w' ⟨rfl, ⟨nd, rfl⟩⟩; (try first | exact ⟨rfl, _, World.drewN_drewN _ _ _⟩ | exact ⟨rfl, _, Eq.trans (World.drewN_drewN _ _ _) (congrArg (World.drewN _) (Nat.add_assoc _ _ _))⟩))))
                    go_ret2
                    exact ⟨_, by first | rfl | (simp [errW_none, errW_some] <;> rfl) | (simp only [← hji8]; first | rfl | (simp [errW_none, errW_some] <;> rfl)) | (simp [*, errW_none, errW_some] <;> rfl), by first | exact Kd.R_nil _ _ _ _ _ | exact Kd.N_nil _ _ _ _ _ | exact Kd.V_nil _ _ _ _ _ | exact Kd.Q_nil _ _ _ _ _ | exact Kd.S_nil _ _ _ _ _, by repeat (first | (with_reducible first | exact HB.out | apply below_alloc | apply pw_below_drewN | apply below_drew1) | exact HB.out)⟩
                  · rw [if_neg c13] at H
                    have c13b0 : decide (t372 < 0) = false := decide_eq_false c13
                    clear c13
                    by_cases c14 : t373 < 0
                    · rw [if_pos c14] at H
                      have c14b0 : decide (t373 < 0) = true := decide_eq_true c14
                      clear c14
                      simp only [Option.some.injEq, Prod.mk.injEq] at H
                      obtain ⟨rfl, rfl⟩ := H
                      have p6 : 0 ≤ (x5_1 : Int) := of_decide_eq_true (by first | (with_reducible assumption) | assumption)
                      have q6 : x5_1 < (a0.size : Int) := of_decide_eq_true (by first | (with_reducible assumption) | assumption)
                      have hx6 := bt_at a0 x5_1
                      replace p6 := eq_true p6
                      replace q6 := eq_true q6
                      go_wp2_with (first | (go_at_call 60; (with_reducible refine (palimpsestref07_digit.calls k1 (bt a0 x5_1) t372 _ A7.out).mono ?_); rintro e w' ⟨rfl, ⟨nd, rfl⟩⟩; (try first | exact ⟨rfl, _, World.drewN_drewN _ _ _⟩ | exact ⟨rfl, _, Eq.trans (World.drewN_drewN _ _ _) (congrArg (World.drewN _) (Nat.add_assoc _ _ _))⟩); have p11 : 0 ≤ ((ji8) : Int) := of_decide_eq_true (by first | (with_reducible assumption) | assumption); have q11 : (ji8) < (a0.size : Int) := of_decide_eq_true (by first | (with_reducible assumption) | assumption); have hx11 := bt_at a0 (ji8); replace p11 := eq_true p11; replace q11 := eq_true q11) | (go_at_call 60; (with_reducible refine (palimpsestref07_digit.calls k1 (bt a0 (ji8)) t373 _ A12.out).mono ?_); rintro e w' ⟨rfl, ⟨nd, rfl⟩⟩; (try first | exact ⟨rfl, _, World.drewN_drewN _ _ _⟩ | exact ⟨rfl, _, Eq.trans (World.drewN_drewN _ _ _) (congrArg (World.drewN _) (Nat.add_assoc _ _ _))⟩)))
                      repeat (go_quiet (first | (go_at_call 60; (with_reducible refine (palimpsestref07_digit.calls k1 (bt a0 x5_1) t372 _ A7.out).mono ?_); rintro e w' ⟨rfl, ⟨nd, rfl⟩⟩; (try first | exact ⟨rfl, _, World.drewN_drewN _ _ _⟩ | exact ⟨rfl, _, Eq.trans (World.drewN_drewN _ _ _) (congrArg (World.drewN _) (Nat.add_assoc _ _ _))⟩); have p11 : 0 ≤ ((ji8) : Int) := of_decide_eq_true (by first | (with_reducible assumption) | assumption); have q11 : (ji8) < (a0.size : Int) := of_decide_eq_true (by first | (with_reducible assumption) | assumption); have hx11 := bt_at a0 (ji8); replace p11 := eq_true p11; replace q11 := eq_true q11) | (go_at_call 60; (with_reducible refine (palimpsestref07_digit.calls k1 (bt a0 (ji8)) t373 _ A12.out).mono ?_); rintro e w' ⟨rfl, ⟨nd, rfl⟩⟩; (try first | exact ⟨rfl, _, World.drewN_drewN _ _ _⟩ | exact ⟨rfl, _, Eq.trans (World.drewN_drewN _ _ _) (congrArg (World.drewN _) (Nat.add_assoc _ _ _))⟩))); try go_wp2_with (first | (go_at_call 60; (with_reducible refine (palimpsestref07_digit.calls k1 (bt a0 x5_1) t372 _ A7.out).mono ?_); rintro e w' ⟨rfl, ⟨nd, rfl⟩⟩; (try first | exact ⟨rfl, _, World.drewN_drewN _ _ _⟩ | exact ⟨rfl, _, Eq.trans (World.drewN_drewN _ _ _) (congrArg (World.drewN _) (Nat.add_assoc _ _ _))⟩); have p11 : 0 ≤ ((ji8) : Int) := of_decide_eq_true (by first | (with_reducible assumption) | assumption); have q11 : (ji8) < (a0.size : Int) := of_decide_eq_true (by first | (with_reducible assumption) | assumption); have hx11 := bt_at a0 (ji8); replace p11 := eq_true p11; replace q11 := eq_true q11) | (go_at_call 60; (with_reducible refine (palimpsestref07_digit.calls k1 (bt a0 (ji8)) t373 _ A12.out).mono ?_); rintro e w' ⟨rfl, ⟨nd, rfl⟩⟩; (try first | exact ⟨rfl, _, World.drewN_drewN _ _ _⟩ | exact ⟨rfl, _, Eq.trans (World.drewN_drewN _ _ _) (congrArg (World.drewN _) (Nat.add_assoc _ _ _))⟩))))
                      go_ret2
                      exact ⟨_, by first | rfl | (simp [errW_none, errW_some] <;> rfl) | (simp only [← hji8]; first | rfl | (simp [errW_none, errW_some] <;> rfl)) | (simp [*, errW_none, errW_some] <;> rfl), by first | exact Kd.R_nil _ _ _ _ _ | exact Kd.N_nil _ _ _ _ _ | exact Kd.V_nil _ _ _ _ _ | exact Kd.Q_nil _ _ _ _ _ | exact Kd.S_nil _ _ _ _ _, by repeat (first | (with_reducible first | exact HB.out | apply below_alloc | apply pw_below_drewN | apply below_drew1) | exact HB.out)⟩
                    · rw [if_neg c14] at H
                      have c14b0 : decide (t373 < 0) = false := decide_eq_false c14
                      clear c14
                      by_cases c15 : x4_1.length < 140737488355328
                      · rw [if_pos c15] at H
                        have LMc15 := Aside0.mk c15
                        clear c15
                        obtain ⟨y374, hy374⟩ : ∃ y_ : List Int, y_ = (x4_1 ++ [(wrap64 ((wrap64 (16 * t372)) + t373)) % 256]) := ⟨_, rfl⟩
                        replace H : (palimpsestref07_Bytes.l0 k1 a0 y374 (wrap64 (x5_1 + 2))) = some (r1, r2) := by first | (rw [hy374]; with_reducible exact H) | (have H2_ := (Option.bind_some _ _).symm.trans H; rw [hy374]; with_reducible exact H2_) | (have H2_ := (Option.bind_some _ _).symm.trans H; with_reducible exact H2_) | with_reducible exact H | (rw [hy374]; exact H) | exact H
                        have Ny374 := Aside0.mk hy374
                        clear hy374
                        have H' := Aside0.mk H
                        clear H
                        have p6 : 0 ≤ (x5_1 : Int) := of_decide_eq_true (by first | (with_reducible assumption) | assumption)
                        have q6 : x5_1 < (a0.size : Int) := of_decide_eq_true (by first | (with_reducible assumption) | assumption)
                        have hx6 := bt_at a0 x5_1
                        replace p6 := eq_true p6
                        replace q6 := eq_true q6
                        go_wp2_with (first | (go_at_call 60; (with_reducible refine (palimpsestref07_digit.calls k1 (bt a0 x5_1) t372 _ A7.out).mono ?_); rintro e w' ⟨rfl, ⟨nd, rfl⟩⟩; (try first | exact ⟨rfl, _, World.drewN_drewN _ _ _⟩ | exact ⟨rfl, _, Eq.trans (World.drewN_drewN _ _ _) (congrArg (World.drewN _) (Nat.add_assoc _ _ _))⟩); have p11 : 0 ≤ ((ji8) : Int) := of_decide_eq_true (by first | (with_reducible assumption) | assumption); have q11 : (ji8) < (a0.size : Int) := of_decide_eq_true (by first | (with_reducible assumption) | assumption); have hx11 := bt_at a0 (ji8); replace p11 := eq_true p11; replace q11 := eq_true q11) | (go_at_call 60; (with_reducible refine (palimpsestref07_digit.calls k1 (bt a0 (ji8)) t373 _ A12.out).mono ?_); rintro e w' ⟨rfl, ⟨nd, rfl⟩⟩; (try first | exact ⟨rfl, _, World.drewN_drewN _ _ _⟩ | exact ⟨rfl, _, Eq.trans (World.drewN_drewN _ _ _) (congrArg (World.drewN _) (Nat.add_assoc _ _ _))⟩)) | ((with_reducible refine gate_builtin (b := .append) (xs := #[.tmp 30, .tmp 36]) rfl ?_); at_builtin; refine Kd.R_append (Kd.int .u8) (w0 := w) w.heap.size rfl (.tmp 30) (.tmp 36) 22 5 (.int .u8 0) 1 rfl Tryd.underlying22 info5 rfl (by decide) (by omega) u4 x4_1 ((wrap64 ((wrap64 (16 * t372)) + t373)) % 256) [.int .u8 ((wrap64 ((wrap64 (16 * t372)) + t373)) % 256)] (fun _ => True) (fun _ => False) rfl rfl ?aP (fun _ hk => hk.elim) ?aF ?aO ?aB ?aS ?aL ?_; (case aP => exact rfl); (case aB => exact (by repeat (first | (with_reducible first | exact HB.out | apply below_alloc | apply pw_below_drewN | apply below_drew1) | exact HB.out))); (case aF => exact (fun _ _ => trivial)); (case aO => exact (by (with_reducible repeat (first | apply Kd.R_alloc | apply Kd.R_drewN | apply Kd.R_drew)); exact HO_4.out)); (case aS => exact (below_size (by repeat (first | (with_reducible first | exact HB.out | apply below_alloc | apply pw_below_drewN | apply below_drew1) | exact HB.out)))); (case aL => have := LMc15.out; omega); intro v375 w16 ho hb hg hat; rw [← Ny374.out] at ho; have n0_ := Aside0.mk (hb); have n1_ := Aside0.mk (ho); clear HB; clear HO_4; have HB := n0_; have HO376 := n1_; clear n0_ n1_; clear ho hb hg hat))
                        repeat (go_quiet (first | (go_at_call 60; (with_reducible refine (palimpsestref07_digit.calls k1 (bt a0 x5_1) t372 _ A7.out).mono ?_); rintro e w' ⟨rfl, ⟨nd, rfl⟩⟩; (try first | exact ⟨rfl, _, World.drewN_drewN _ _ _⟩ | exact ⟨rfl, _, Eq.trans (World.drewN_drewN _ _ _) (congrArg (World.drewN _) (Nat.add_assoc _ _ _))⟩); have p11 : 0 ≤ ((ji8) : Int) := of_decide_eq_true (by first | (with_reducible assumption) | assumption); have q11 : (ji8) < (a0.size : Int) := of_decide_eq_true (by first | (with_reducible assumption) | assumption); have hx11 := bt_at a0 (ji8); replace p11 := eq_true p11; replace q11 := eq_true q11) | (go_at_call 60; (with_reducible refine (palimpsestref07_digit.calls k1 (bt a0 (ji8)) t373 _ A12.out).mono ?_); rintro e w' ⟨rfl, ⟨nd, rfl⟩⟩; (try first | exact ⟨rfl, _, World.drewN_drewN _ _ _⟩ | exact ⟨rfl, _, Eq.trans (World.drewN_drewN _ _ _) (congrArg (World.drewN _) (Nat.add_assoc _ _ _))⟩)) | ((with_reducible refine gate_builtin (b := .append) (xs := #[.tmp 30, .tmp 36]) rfl ?_); at_builtin; refine Kd.R_append (Kd.int .u8) (w0 := w) w.heap.size rfl (.tmp 30) (.tmp 36) 22 5 (.int .u8 0) 1 rfl Tryd.underlying22 info5 rfl (by decide) (by omega) u4 x4_1 ((wrap64 ((wrap64 (16 * t372)) + t373)) % 256) [.int .u8 ((wrap64 ((wrap64 (16 * t372)) + t373)) % 256)] (fun _ => True) (fun _ => False) rfl rfl ?aP (fun _ hk => hk.elim) ?aF ?aO ?aB ?aS ?aL ?_; (case aP => exact rfl); (case aB => exact (by repeat (first | (with_reducible first | exact HB.out | apply below_alloc | apply pw_below_drewN | apply below_drew1) | exact HB.out))); (case aF => exact (fun _ _ => trivial)); (case aO => exact (by (with_reducible repeat (first | apply Kd.R_alloc | apply Kd.R_drewN | apply Kd.R_drew)); exact HO_4.out)); (case aS => exact (below_size (by repeat (first | (with_reducible first | exact HB.out | apply below_alloc | apply pw_below_drewN | apply below_drew1) | exact HB.out)))); (case aL => have := LMc15.out; omega); intro v375 w16 ho hb hg hat; rw [← Ny374.out] at ho; have n0_ := Aside0.mk (hb); have n1_ := Aside0.mk (ho); clear HB; clear HO_4; have HB := n0_; have HO376 := n1_; clear n0_ n1_; clear ho hb hg hat)); try go_wp2_with (first | (go_at_call 60; (with_reducible refine (palimpsestref07_digit.calls k1 (bt a0 x5_1) t372 _ A7.out).mono ?_); rintro e w' ⟨rfl, ⟨nd, rfl⟩⟩; (try first | exact ⟨rfl, _, World.drewN_drewN _ _ _⟩ | exact ⟨rfl, _, Eq.trans (World.drewN_drewN _ _ _) (congrArg (World.drewN _) (Nat.add_assoc _ _ _))⟩); have p11 : 0 ≤ ((ji8) : Int) := of_decide_eq_true (by first | (with_reducible assumption) | assumption); have q11 : (ji8) < (a0.size : Int) := of_decide_eq_true (by first | (with_reducible assumption) | assumption); have hx11 := bt_at a0 (ji8); replace p11 := eq_true p11; replace q11 := eq_true q11) | (go_at_call 60; (with_reducible refine (palimpsestref07_digit.calls k1 (bt a0 (ji8)) t373 _ A12.out).mono ?_); rintro e w' ⟨rfl, ⟨nd, rfl⟩⟩; (try first | exact ⟨rfl, _, World.drewN_drewN _ _ _⟩ | exact ⟨rfl, _, Eq.trans (World.drewN_drewN _ _ _) (congrArg (World.drewN _) (Nat.add_assoc _ _ _))⟩)) | ((with_reducible refine gate_builtin (b := .append) (xs := #[.tmp 30, .tmp 36]) rfl ?_); at_builtin; refine Kd.R_append (Kd.int .u8) (w0 := w) w.heap.size rfl (.tmp 30) (.tmp 36) 22 5 (.int .u8 0) 1 rfl Tryd.underlying22 info5 rfl (by decide) (by omega) u4 x4_1 ((wrap64 ((wrap64 (16 * t372)) + t373)) % 256) [.int .u8 ((wrap64 ((wrap64 (16 * t372)) + t373)) % 256)] (fun _ => True) (fun _ => False) rfl rfl ?aP (fun _ hk => hk.elim) ?aF ?aO ?aB ?aS ?aL ?_; (case aP => exact rfl); (case aB => exact (by repeat (first | (with_reducible first | exact HB.out | apply below_alloc | apply pw_below_drewN | apply below_drew1) | exact HB.out))); (case aF => exact (fun _ _ => trivial)); (case aO => exact (by (with_reducible repeat (first | apply Kd.R_alloc | apply Kd.R_drewN | apply Kd.R_drew)); exact HO_4.out)); (case aS => exact (below_size (by repeat (first | (with_reducible first | exact HB.out | apply below_alloc | apply pw_below_drewN | apply below_drew1) | exact HB.out)))); (case aL => have := LMc15.out; omega); intro v375 w16 ho hb hg hat; rw [← Ny374.out] at ho; have n0_ := Aside0.mk (hb); have n1_ := Aside0.mk (ho); clear HB; clear HO_4; have HB := n0_; have HO376 := n1_; clear n0_ n1_; clear ho hb hg hat)))
                        go_roundg k1
                        case measure => have := HK1.out; omega
                        case rel => exact ⟨(y374), (wrap64 (x5_1 + 2)), (by first | rfl | (simp; done) | (simp [*]; done)), H', ⟨by have := HK1.out; omega⟩, ⟨by (with_reducible repeat (first | apply Kd.R_alloc | apply Kd.R_drewN | apply Kd.R_drew)); exact HO376.out⟩, ⟨by repeat (first | (with_reducible first | exact HB.out | apply below_alloc | apply pw_below_drewN | apply below_drew1) | exact HB.out)⟩⟩
                      · rw [if_neg c15] at H
                        exact absurd H (by simp)
                · rw [if_neg c10] at H
                  exact absurd H (by simp)
              · rw [if_neg c9] at H
                exact absurd H (by simp)
            · rw [if_neg c5] at H
              exact absurd H (by simp)
          · rw [if_neg c4] at H
            exact absurd H (by simp)
        · rw [if_neg c3] at H
          have c3b0 : decide (x5_1 < 64) = false := decide_eq_false c3
          clear c3
          simp only [Option.some.injEq, Prod.mk.injEq] at H
          obtain ⟨rfl, rfl⟩ := H
          go_wp2
          repeat (go_quiet (fail); try go_wp2)
          go_ret2
          exact ⟨_, by first | rfl | (simp [errW_none, errW_some] <;> rfl) | (simp [*, errW_none, errW_some] <;> rfl), by (with_reducible repeat (first | apply Kd.R_alloc | apply Kd.R_drewN | apply Kd.R_drew)); exact HO_4.out, by repeat (first | (with_reducible first | exact HB.out | apply below_alloc | apply pw_below_drewN | apply below_drew1) | exact HB.out)⟩
  · rw [if_neg c2] at H
    have c2b0 : ((a0.size : Int) == 64) = false := beq_eq_false_iff_ne.mpr c2
    have c2b1 : ((a0.size : Int) != 64) = true := bne_iff_ne.mpr c2
    simp only [Option.some.injEq, Prod.mk.injEq] at H
    obtain ⟨rfl, rfl⟩ := H
    go_enter Tryd.func22, Tryd.ntmps22
    go_wp2
    repeat (go_quiet (fail); try go_wp2)
    go_ret2
    exact ⟨_, by first | rfl | (simp [errW_none, errW_some] <;> rfl) | (simp [*, errW_none, errW_some] <;> rfl), by first | exact Kd.R_nil _ _ _ _ _ | exact Kd.N_nil _ _ _ _ _ | exact Kd.V_nil _ _ _ _ _ | exact Kd.Q_nil _ _ _ _ _ | exact Kd.S_nil _ _ _ _ _, by repeat (first | (with_reducible first | exact HB.out | apply below_alloc | apply pw_below_drewN | apply below_drew1) | exact HB.out)⟩
end Go.Proofs.YtbclnkhcnclfoaaDoor.Q
namespace Go.Proofs.YtbclnkhcnclfoaaDoor.Q
open Go.RowKit Go.Proofs.YtbclnkhcnclfoaaDoorW.PrintWords Go.Proofs.YtbclnkhcnclfoaaDoorW.PrintLast Go.Proofs.YtbclnkhcnclfoaaDoorW.PrintMore
attribute [local go_sem] max2_int min2_int max_two min_two max_three min_three max_four min_four   -- for this text's walks alone
set_option linter.unusedVariables false
set_option linter.unusedSimpArgs false
/-! ### key_From: function 23 -/
def key_From.f (k : Nat) (l0 : List Int) : Option (ByteArray × Int) := if (l0.length : Int) = 32 then ((key_text.f k l0).bind fun t629 => (some (t629, 0))) else (some ((⟨#[]⟩ : ByteArray), 70))
theorem key_From.mono : ∀ a0 k, LeO (key_From.f k a0) (key_From.f (k + 1) a0) := by
  intro a0 k
  unfold key_From.f
  repeat' first
      | (with_reducible exact key_text.mono _ _)
      | (with_reducible exact LeO.refl _)
      | (with_reducible exact LeO.none _)
      | (with_reducible refine LeO.ite ?_ ?_)
      | (with_reducible refine LeO.bind ?_ (fun _ => ?_))
      | exact key_text.mono _ _
      | exact LeO.none _
      | refine LeO.ite ?_ ?_
      | refine LeO.bind ?_ (fun _ => ?_)
set_option maxHeartbeats 8000000 in
set_option maxRecDepth 100000 in
theorem key_From.calls (k : Nat) (A0 : Option Addr) (c0 : Nat) (l0 : List Int) (r1 : ByteArray) (r2 : Int) (w : World) (hr0 : Kd.C (Kd.int .u8) w A0 l0.length l0) (hc0 : l0.length ≤ c0) (h : key_From.f k l0 = some (r1, r2)) :
    Calls Tryd.prog 23 #[.slice A0 l0.length c0] w fun e w' => e = .returned (.tuple #[.string r1, .int .i64 r2]) ∧ Below w.heap.size w w' := by
  have HR0 := Aside0.mk hr0
  have HC0 := Aside0.mk hc0
  clear hr0 hc0
  have HB := Aside0.mk (Below.refl w.heap.size w)
  have H : (if (l0.length : Int) = 32 then ((key_text.f k l0).bind fun t629 => (some (t629, 0))) else (some ((⟨#[]⟩ : ByteArray), 70))) = some (r1, r2) := h
  clear h
  by_cases c2 : (l0.length : Int) = 32
  · rw [if_pos c2] at H
    have c2b0 : ((l0.length : Int) == 32) = true := beq_iff_eq.mpr c2
    have c2b1 : ((l0.length : Int) != 32) = false := bne_eq_false_iff_eq.mpr c2
    clear c2
    replace H := Option.bind_eq_some_iff.mp H
    obtain ⟨t629, A30, H⟩ := H
    replace H : (some (t629, 0)) = some (r1, r2) := H
    have A3 := Aside0.mk A30
    clear A30
    simp only [Option.some.injEq, Prod.mk.injEq] at H
    obtain ⟨rfl, rfl⟩ := H
    go_enter Tryd.func23, Tryd.ntmps23
    go_wp2_with (first | ((with_reducible refine gate_callee (f := 54) rfl ?_); refine goesL_ (some 8) rfl rfl Tryd.func54 (by kernel_rfl) rfl #[.slice A0 l0.length c0] rfl (by (try simp only [List.map_toArray, List.map_cons, List.map_nil]); first | done | rfl | (simp only [List.length_drop, List.length_take]; rfl)) ?_; (with_reducible refine (key_text.calls k _ _ l0 t629 _ ?side1 ?side2 A3.out).mono ?_); (case side1 => repeat (first | exact HR0.out | (with_reducible refine Kd.C_alloc ?_ _) | (with_reducible refine Kd.C_drewN ?_ _) | (with_reducible refine Kd.C_drew ?_))); (case side2 => exact HC0.out); rintro e w4 ⟨rfl, hb⟩; refine ⟨_, rfl, ?_⟩; have n0_ := Aside0.mk (below_step (by repeat (first | (with_reducible first | exact HB.out | apply below_alloc | apply pw_below_drewN | apply below_drew1) | exact HB.out)) hb); clear HB; have HB := n0_; clear n0_; (try clear hb); (try clear hb2); (try clear hk); (try clear hi)))
    go_ret2
    exact ⟨by first | rfl | (simp [errW_none, errW_some] <;> rfl) | (simp [*, errW_none, errW_some] <;> rfl), by repeat (first | (with_reducible first | exact HB.out | apply below_alloc | apply pw_below_drewN | apply below_drew1) | exact HB.out)⟩
  · rw [if_neg c2] at H
    have c2b0 : ((l0.length : Int) == 32) = false := beq_eq_false_iff_ne.mpr c2
    have c2b1 : ((l0.length : Int) != 32) = true := bne_iff_ne.mpr c2
    simp only [Option.some.injEq, Prod.mk.injEq] at H
    obtain ⟨rfl, rfl⟩ := H
    go_enter Tryd.func23, Tryd.ntmps23
    go_wp2
    go_ret2
    exact ⟨by first | rfl | (simp [errW_none, errW_some] <;> rfl) | (simp [*, errW_none, errW_some] <;> rfl), by repeat (first | (with_reducible first | exact HB.out | apply below_alloc | apply pw_below_drewN | apply below_drew1) | exact HB.out)⟩
end Go.Proofs.YtbclnkhcnclfoaaDoor.Q
namespace Go.Proofs
open Go.Shelf
def Tryd.laysTrim_ren : Go.Shelf.Ren := ⟨fun | 160 => 58 | 232 => 96 | 231 => 95 | 227 => 97 | 234 => 99 | 233 => 98 | 236 => 101 | 235 => 100 | 228 => 124 | 271 => 127 | 151 => 126 | 197 => 125 | 120 => 159 | 152 => 158 | 260 => 157 | 137 => 59 | 119 => 181 | 224 => 182 | 225 => 183 | 217 => 102 | 266 => 128 | n => n, fun | 9 => 9 | 4 => 4 | 3 => 3 | 5 => 5 | 117 => 138 | 116 => 137 | 0 => 0 | 124 => 141 | 21 => 21 | 105 => 164 | 46 => 41 | 119 => 117 | 139 => 210 | 138 => 209 | n => n, fun | 3 => 1 | 4 => 2 | n => n⟩
theorem Tryd.laysTrim : Go.Proofs.Lays.n160 Tryd.prog Tryd.laysTrim_ren := {
  mixed := by kernel_rfl
  f119 := Tryd.func181.trans (congrArg some (by kernel_rfl))
  f120 := Tryd.func159.trans (congrArg some (by kernel_rfl))
  f137 := Tryd.func59.trans (congrArg some (by kernel_rfl))
  f151 := Tryd.func126.trans (congrArg some (by kernel_rfl))
  f152 := Tryd.func158.trans (congrArg some (by kernel_rfl))
  f160 := Tryd.func58.trans (congrArg some (by kernel_rfl))
  f197 := Tryd.func125.trans (congrArg some (by kernel_rfl))
  f217 := Tryd.func102.trans (congrArg some (by kernel_rfl))
  f224 := Tryd.func182.trans (congrArg some (by kernel_rfl))
  f225 := Tryd.func183.trans (congrArg some (by kernel_rfl))
  f227 := Tryd.func97.trans (congrArg some (by kernel_rfl))
  f228 := Tryd.func124.trans (congrArg some (by kernel_rfl))
  f231 := Tryd.func95.trans (congrArg some (by kernel_rfl))
  f232 := Tryd.func96.trans (congrArg some (by kernel_rfl))
  f233 := Tryd.func98.trans (congrArg some (by kernel_rfl))
  f234 := Tryd.func99.trans (congrArg some (by kernel_rfl))
  f235 := Tryd.func100.trans (congrArg some (by kernel_rfl))
  f236 := Tryd.func101.trans (congrArg some (by kernel_rfl))
  f260 := Tryd.func157.trans (congrArg some (by kernel_rfl))
  f266 := Tryd.func128.trans (congrArg some (by kernel_rfl))
  f271 := Tryd.func127.trans (congrArg some (by kernel_rfl))
  t0 := Tryd.underlying0
  a0 := Tryd.isAgg0
  z0 := Tryd.sizeOf0
  v0 := Tryd.zeroValue0
  t3 := Tryd.underlying3
  a3 := Tryd.isAgg3
  z3 := Tryd.sizeOf3
  v3 := Tryd.zeroValue3
  t4 := Tryd.underlying4
  a4 := Tryd.isAgg4
  z4 := Tryd.sizeOf4
  v4 := Tryd.zeroValue4
  t5 := Tryd.underlying5
  a5 := Tryd.isAgg5
  z5 := Tryd.sizeOf5
  v5 := Tryd.zeroValue5
  t9 := Tryd.underlying9
  a9 := Tryd.isAgg9
  z9 := Tryd.sizeOf9
  v9 := Tryd.zeroValue9
  t21 := Tryd.underlying21
  a21 := Tryd.isAgg21
  z21 := Tryd.sizeOf21
  v21 := Tryd.zeroValue21
  t46 := Tryd.underlying41
  a46 := Tryd.isAgg41
  z46 := Tryd.sizeOf41
  v46 := Tryd.zeroValue41
  t105 := Tryd.underlying164
  a105 := Tryd.isAgg164
  z105 := Tryd.sizeOf164
  v105 := Tryd.zeroValue164
  t116 := Tryd.underlying137
  a116 := Tryd.isAgg137
  z116 := Tryd.sizeOf137
  t117 := Tryd.underlying138
  a117 := Tryd.isAgg138
  z117 := Tryd.sizeOf138
  v117 := Tryd.zeroValue138
  t119 := Tryd.underlying117
  a119 := Tryd.isAgg117
  z119 := Tryd.sizeOf117
  t124 := Tryd.underlying141
  a124 := Tryd.isAgg141
  z124 := Tryd.sizeOf141
  v124 := Tryd.zeroValue141
  t138 := Tryd.underlying209
  a138 := Tryd.isAgg209
  z138 := Tryd.sizeOf209
  v138 := Tryd.zeroValue209
  t139 := Tryd.underlying210
  a139 := Tryd.isAgg210
  z139 := Tryd.sizeOf210
  v139 := Tryd.zeroValue210
  g3 := by kernel_rfl
  g4 := by kernel_rfl }
def Tryd.laysIndexByte_ren : Go.Shelf.Ren := ⟨fun | 137 => 59 | 217 => 102 | 266 => 128 | n => n, fun | 9 => 9 | 5 => 5 | 3 => 3 | n => n, fun | n => n⟩
theorem Tryd.laysIndexByte : Go.Proofs.Lays.n137 Tryd.prog Tryd.laysIndexByte_ren := {
  mixed := by kernel_rfl
  f137 := Tryd.func59.trans (congrArg some (by kernel_rfl))
  f217 := Tryd.func102.trans (congrArg some (by kernel_rfl))
  f266 := Tryd.func128.trans (congrArg some (by kernel_rfl))
  t3 := Tryd.underlying3
  a3 := Tryd.isAgg3
  z3 := Tryd.sizeOf3
  v3 := Tryd.zeroValue3
  t5 := Tryd.underlying5
  a5 := Tryd.isAgg5
  z5 := Tryd.sizeOf5
  v5 := Tryd.zeroValue5
  t9 := Tryd.underlying9
  a9 := Tryd.isAgg9
  z9 := Tryd.sizeOf9
  v9 := Tryd.zeroValue9 }
def Tryd.laysSortKey_ren : Go.Shelf.Ren := ⟨fun | 6 => 119 | 8 => 117 | 9 => 151 | 19 => 149 | 20 => 150 | 21 => 172 | 22 => 173 | 23 => 174 | 24 => 175 | 25 => 176 | 26 => 177 | 27 => 178 | 28 => 179 | 29 => 180 | 36 => 196 | 31 => 167 | 32 => 168 | 37 => 197 | 38 => 198 | 39 => 199 | 41 => 204 | n => n, fun | 27 => 88 | 29 => 23 | 3 => 3 | 32 => 41 | 26 => 88 | 0 => 0 | 44 => 121 | 46 => 84 | 4 => 4 | 36 => 177 | 35 => 176 | 41 => 114 | 5 => 5 | 9 => 9 | 53 => 196 | 57 => 200 | 63 => 222 | 64 => 223 | n => n, fun | n => n⟩
theorem Tryd.laysSortKey : Go.Proofs.SlLaysM.n6 Tryd.prog Tryd.laysSortKey_ren := {
  mixed := by kernel_rfl
  f6 := ⟨Tryd.f119.name, by decide, Tryd.func119.trans (congrArg some (by kernel_rfl))⟩
  f8 := Tryd.func117.trans (congrArg some (by kernel_rfl))
  f9 := ⟨Tryd.f151.name, by decide, Tryd.func151.trans (congrArg some (by kernel_rfl))⟩
  f19 := Tryd.func149.trans (congrArg some (by kernel_rfl))
  f20 := Tryd.func150.trans (congrArg some (by kernel_rfl))
  f21 := ⟨Tryd.f172.name, by decide, Tryd.func172.trans (congrArg some (by kernel_rfl))⟩
  f22 := ⟨Tryd.f173.name, by decide, Tryd.func173.trans (congrArg some (by kernel_rfl))⟩
  f23 := ⟨Tryd.f174.name, by decide, Tryd.func174.trans (congrArg some (by kernel_rfl))⟩
  f24 := ⟨Tryd.f175.name, by decide, Tryd.func175.trans (congrArg some (by kernel_rfl))⟩
  f25 := ⟨Tryd.f176.name, by decide, Tryd.func176.trans (congrArg some (by kernel_rfl))⟩
  f26 := ⟨Tryd.f177.name, by decide, Tryd.func177.trans (congrArg some (by kernel_rfl))⟩
  f27 := ⟨Tryd.f178.name, by decide, Tryd.func178.trans (congrArg some (by kernel_rfl))⟩
  f28 := ⟨Tryd.f179.name, by decide, Tryd.func179.trans (congrArg some (by kernel_rfl))⟩
  f29 := ⟨Tryd.f180.name, by decide, Tryd.func180.trans (congrArg some (by kernel_rfl))⟩
  f31 := Tryd.func167.trans (congrArg some (by kernel_rfl))
  f32 := Tryd.func168.trans (congrArg some (by kernel_rfl))
  f36 := ⟨Tryd.f196.name, by decide, Tryd.func196.trans (congrArg some (by kernel_rfl))⟩
  f37 := ⟨Tryd.f197.name, by decide, Tryd.func197.trans (congrArg some (by kernel_rfl))⟩
  f38 := ⟨Tryd.f198.name, by decide, Tryd.func198.trans (congrArg some (by kernel_rfl))⟩
  f39 := ⟨Tryd.f199.name, by decide, Tryd.func199.trans (congrArg some (by kernel_rfl))⟩
  f41 := ⟨Tryd.f204.name, by decide, Tryd.func204.trans (congrArg some (by kernel_rfl))⟩
  t0 := Tryd.underlying0
  a0 := Tryd.isAgg0
  z0 := Tryd.sizeOf0
  v0 := Tryd.zeroValue0
  t3 := Tryd.underlying3
  a3 := Tryd.isAgg3
  z3 := Tryd.sizeOf3
  v3 := Tryd.zeroValue3
  t4 := Tryd.underlying4
  a4 := Tryd.isAgg4
  z4 := Tryd.sizeOf4
  v4 := Tryd.zeroValue4
  t5 := Tryd.underlying5
  a5 := Tryd.isAgg5
  z5 := Tryd.sizeOf5
  v5 := Tryd.zeroValue5
  t9 := Tryd.underlying9
  a9 := Tryd.isAgg9
  z9 := Tryd.sizeOf9
  v9 := Tryd.zeroValue9
  t26 := Tryd.underlying88
  a26 := Tryd.isAgg88
  z26 := Tryd.sizeOf88
  v26 := Tryd.zeroValue88
  t27 := Tryd.underlying88
  a27 := Tryd.isAgg88
  z27 := Tryd.sizeOf88
  v27 := Tryd.zeroValue88
  t29 := Tryd.underlying23
  a29 := Tryd.isAgg23
  z29 := Tryd.sizeOf23
  v29 := Tryd.zeroValue23
  t32 := Tryd.underlying41
  a32 := Tryd.isAgg41
  z32 := Tryd.sizeOf41
  v32 := Tryd.zeroValue41
  t35 := Tryd.underlying176
  a35 := Tryd.isAgg176
  z35 := Tryd.sizeOf176
  v35 := Tryd.zeroValue176
  t36 := Tryd.underlying177
  a36 := Tryd.isAgg177
  z36 := Tryd.sizeOf177
  v36 := Tryd.zeroValue177
  t41 := Tryd.underlying114
  a41 := Tryd.isAgg114
  z41 := Tryd.sizeOf114
  v41 := Tryd.zeroValue114
  t44 := Tryd.underlying121
  a44 := Tryd.isAgg121
  z44 := Tryd.sizeOf121
  v44 := Tryd.zeroValue121
  t46 := Tryd.underlying84
  a46 := Tryd.isAgg84
  z46 := Tryd.sizeOf84
  v46 := Tryd.zeroValue84
  t53 := Tryd.underlying196
  a53 := Tryd.isAgg196
  z53 := Tryd.sizeOf196
  v53 := Tryd.zeroValue196
  t57 := Tryd.underlying200
  a57 := Tryd.isAgg200
  z57 := Tryd.sizeOf200
  v57 := Tryd.zeroValue200
  t63 := Tryd.underlying222
  a63 := Tryd.isAgg222
  z63 := Tryd.sizeOf222
  v63 := Tryd.zeroValue222
  t64 := Tryd.underlying223
  a64 := Tryd.isAgg223
  z64 := Tryd.sizeOf223
  v64 := Tryd.zeroValue223 }
end Go.Proofs
namespace Go.Proofs.YtbclnkhcnclfoaaDoor.Q
open Go.RowKit Go.Proofs.YtbclnkhcnclfoaaDoorW.PrintWords Go.Proofs.YtbclnkhcnclfoaaDoorW.PrintLast Go.Proofs.YtbclnkhcnclfoaaDoorW.PrintMore
attribute [local go_sem] max2_int min2_int max_two min_two max_three min_three max_four min_four   -- for this text's walks alone
set_option linter.unusedVariables false
set_option linter.unusedSimpArgs false
/-! ### key_Bytes: function 21 -/
-- with Derived.Test.YtbclnkhcnclfoaaDoorXMore
-- with Derived.Test.YtbclnkhcnclfoaaDoorSh1
def key_hexs : List UInt8 := [48, 49, 50, 51, 52, 53, 54, 55, 56, 57, 97, 98, 99, 100, 101, 102]
/-- What a hex digit is worth. -/
def key_hex (c : Int) : Int := Lib.indexByte key_hexs c.toNat.toUInt8
theorem key_hex_of (b : UInt8) (h : key_hexs.contains b = true) : 0 ≤ key_hex (b.toNat : Int) ∧ key_hex (b.toNat : Int) ≤ 15 ∧ b.toNat < 128 := by
  have e : ((b.toNat : Int)).toNat.toUInt8 = b := by simp
  unfold key_hex
  rw [e]
  clear e
  have hm : b ∈ key_hexs := by simpa using h
  simp only [key_hexs, List.mem_cons, List.not_mem_nil, or_false] at hm
  rcases hm with rfl | rfl | rfl | rfl | rfl | rfl | rfl | rfl | rfl | rfl | rfl | rfl | rfl | rfl | rfl | rfl <;> decide
def key_all (s : ByteArray) : Bool := s.data.toList.all (key_hexs.contains ·)
theorem key_trim (s : ByteArray) (w : World) (hs : s.size ≤ 9223372036854775807) :
    Calls Tryd.prog 58 #[.string s, .string ⟨#[48, 49, 50, 51, 52, 53, 54, 55, 56, 57, 97, 98, 99, 100, 101, 102]⟩] w fun e w' => e = .returned (.string ⟨(Lib.trimS s.data.toList key_hexs).toArray⟩) ∧ Below w.heap.size w w' :=
  Any.strings_Trim_laid Tryd.laysTrim (by kernel_rfl) s ⟨#[48, 49, 50, 51, 52, 53, 54, 55, 56, 57, 97, 98, 99, 100, 101, 102]⟩ w hs (by decide) (ascii_of_all (by decide))
theorem key_index (c : Int) (w : World) :
    Calls Tryd.prog 59 #[.string ⟨#[48, 49, 50, 51, 52, 53, 54, 55, 56, 57, 97, 98, 99, 100, 101, 102]⟩, .int .u8 c] w fun e w' => e = .returned (.int .i64 (key_hex c)) ∧ w = w' :=
  (Any.strings_IndexByte Tryd.laysIndexByte ⟨#[48, 49, 50, 51, 52, 53, 54, 55, 56, 57, 97, 98, 99, 100, 101, 102]⟩ c w).mono fun _ _ ⟨h1, h2⟩ => ⟨h1, h2.symm⟩
def key_put (out : List Int) (s : ByteArray) (i : Nat) : List Int := out.set (i / 2) (Go.bits .or .u8 (rd out ((i / 2 : Nat) : Int)) (if i % 2 = 0 then key_hex (bt s i) * 16 else key_hex (bt s i)))
def key_fill (s : ByteArray) : Nat → List Int
  | 0 => List.replicate 32 0
  | i + 1 => key_put (key_fill s i) s i
theorem key_fill_len (s : ByteArray) : ∀ i, (key_fill s i).length = 32
  | 0 => by simp [key_fill]
  | i + 1 => by simp [key_fill, key_put, key_fill_len s i]
theorem key_Bytes.size (s : ByteArray) (w : World) (h : ((s.size : Int) != 64) = true) :
    Calls Tryd.prog 21 #[.string s] w fun e w' => e = .returned (.tuple #[.slice none 0 0, .int .i64 70]) ∧ Below w.heap.size w w' := by
  go_enter Tryd.func21, Tryd.ntmps21
  go_wp2
  go_ret2
  exact ⟨rfl, Below.refl _ _⟩
set_option maxRecDepth 100000 in
theorem key_Bytes.trim (s r : ByteArray) (w : World) (h : ((s.size : Int) != 64) = false) (h64 : s.size = 64) (hr : r = ⟨(Lib.trimS s.data.toList key_hexs).toArray⟩) (hne : (!r.toList.isEmpty) = true) :
    Calls Tryd.prog 21 #[.string s] w fun e w' => e = .returned (.tuple #[.slice none 0 0, .int .i64 70]) ∧ Below w.heap.size w w' := by
  have hcon := key_trim s w (by omega)
  rw [← hr] at hcon
  have HC := Aside0.mk hcon
  have hz : s.size ≤ 64 := by omega
  clear hcon hr h64
  go_enter Tryd.func21, Tryd.ntmps21
  go_wp2_with (go_at_call 58; refine HC.out.mono ?_; rintro e w' ⟨rfl, hB⟩)
  go_ret2
  exact ⟨rfl, hB⟩
set_option maxRecDepth 100000 in
set_option maxHeartbeats 1000000 in
theorem key_Bytes.good (s r : ByteArray) (w : World) (h : ((s.size : Int) != 64) = false) (h64 : s.size = 64) (hr : r = ⟨(Lib.trimS s.data.toList key_hexs).toArray⟩) (hne : (!r.toList.isEmpty) = false) (hall : ∀ x ∈ s.data.toList, key_hexs.contains x = true) :
    Calls Tryd.prog 21 #[.string s] w fun e w' => ∃ g, e = .returned (.tuple #[.slice (some ⟨g, 0, none⟩) 32 32, .int .i64 0]) ∧ w.heap.size ≤ g ∧ w'.heap[g]? = some (.cells (nums .u8 (key_fill s 64)).toArray 5 (0, 0)) ∧ Below w.heap.size w w' := by
  have hcon := key_trim s w (by omega)
  rw [← hr] at hcon
  have HC := Aside0.mk hcon
  have HA := Aside0.mk hall
  have hz : s.size ≤ 64 := by omega
  have H64 := Aside0.mk h64
  clear hcon hr h64 hall
  have hmk : ∀ w : World, (Instr.makeSlice 22 (.int .i64 32) (.int .i64 32)).run Tryd.prog w = .ok (.slice (some ⟨w.heap.size, 0, none⟩) 32 32) (w.alloc (.cells (nums .u8 (key_fill s 0)).toArray 5)) := fun _ => by kernel_rfl
  go_enter Tryd.func21, Tryd.ntmps21
  go_wp2_with (go_at_call 58; refine HC.out.mono ?_; rintro e w1 ⟨rfl, hB⟩; have HB := Aside0.mk hB; clear hB)
  have hk0 : ((w1.alloc (.cells (nums .u8 (key_fill s 0)).toArray 5)).iter s 0).heap[w1.heap.size + 1]? = some (.stringIter s 0) := by
    have h5 := World.iter_heap (w1.alloc (.cells (nums .u8 (key_fill s 0)).toArray 5)) s 0
    simpa using h5
  have hg0 : ((w1.alloc (.cells (nums .u8 (key_fill s 0)).toArray 5)).iter s 0).heap[w1.heap.size]? = some (.cells (nums .u8 (key_fill s 0)).toArray 5 (0, 0)) := blk_alloc (blk_new _ _) _
  have hb0 : Below w.heap.size w ((w1.alloc (.cells (nums .u8 (key_fill s 0)).toArray 5)).iter s 0) := below_alloc (below_alloc HB.out _) _
  have K0 := Aside0.mk hk0
  have G0 := Aside0.mk hg0
  have B0 := Aside0.mk hb0
  have hws : w.heap.size ≤ w1.heap.size := HB.out.size
  clear hk0 hg0 hb0 HC HB hmk
  go_loopw [5] (fun _ wr => ∃ pos : Nat, pos ≤ s.size ∧ Aside0 (wr.heap[w1.heap.size + 1]? = some (.stringIter s pos)) ∧ Aside0 (wr.heap[w1.heap.size]? = some (.cells (nums .u8 (key_fill s pos)).toArray 5 (0, 0))) ∧ Aside0 (Below w.heap.size w wr))
    (fun _ wr => s.size - wr.iterPos (w1.heap.size + 1))
  case atStart => exact ⟨0, Nat.zero_le _, K0, G0, B0⟩
  case round =>
    obtain ⟨pos, hps, HK, HG, HBl⟩ := hrel
    clear K0 G0 B0
    by_cases hp : pos < s.size
    · have hc := HA.out (s[pos]'hp) (by simp [ByteArray.getElem_eq_getElem_data])
      obtain ⟨x0, x1, x2⟩ := key_hex_of _ hc
      have hnext : ∀ ty, (Instr.next (.pointer (some ⟨w1.heap.size + 1, 0, none⟩)) true ty).run Tryd.prog wr = _ := fun ty => Lib.run_next_ascii_at wr (w1.heap.size + 1) s pos ty HK.out hp x2
      have hk1 := Lib.iterAt_heap wr (w1.heap.size + 1) s pos (pos + 1) HK.out
      have hg1 := (Lib.iterAt_other wr (w1.heap.size + 1) w1.heap.size s (pos + 1) (by omega)).trans HG.out
      have hb1 := Lib.below_iterAt HBl.out (k := w1.heap.size + 1) (by omega) s (pos + 1)
      have hmu : wr.iterPos (w1.heap.size + 1) = pos := by simp [World.iterPos, HK.out]
      have MU := Aside0.mk hmu
      have hbt := bt_at s pos hp
      simp only [Int.toNat_natCast] at hbt
      rw [hbt] at x0 x1 hnext
      clear hc x2
      generalize wr.iterAt (w1.heap.size + 1) s (pos + 1) = W1 at hnext hk1 hg1 hb1
      have HK1 := Aside0.mk hk1
      have HG1 := Aside0.mk hg1
      have HB1 := Aside0.mk hb1
      have hcell : W1.cell? ⟨w1.heap.size, pos / 2, none⟩ = some (.int .u8 (rd (key_fill s pos) ((pos / 2 : Nat) : Int))) := by
        have e := px_arr_cell hg1 ((pos / 2 : Nat) : Int) (by omega) (by rw [key_fill_len]; omega)
        simpa only [Int.toNat_natCast] using e
      have hfr : W1.frozen? ⟨w1.heap.size, pos / 2, none⟩ = false := blk_frozen hg1 _
      clear hk1 hg1 hb1 hmu
      have hp' : (pos : Int) < (s.size : Int) := by omega
      obtain ⟨d, hd⟩ : ∃ d, d = key_hex (bt s pos) := ⟨_, rfl⟩
      rw [← hd] at x0 x1
      have HD := Aside0.mk hd
      have HBT := Aside0.mk hbt
      have hix := (key_index (bt s pos))
      rw [← hd] at hix
      have HIX := Aside0.mk hix
      clear hd hbt hix
      go_wp2_with (go_at_call 59; rw [HBT.out]; refine (HIX.out _).mono ?_; rintro e w' ⟨rfl, rfl⟩)
      rcases Nat.mod_two_eq_zero_or_one pos with h2 | h2
      · obtain ⟨j, hj⟩ : ∃ j : Nat, pos / 2 = j := ⟨_, rfl⟩
        rw [hj] at hcell hfr
        have j0 : (0 : Int) ≤ (j : Int) := by omega
        have j1 : (j : Int) < 32 := by omega
        have q28 : IntKind.i64.wrap ((pos : Int) / 2) = (j : Int) := by rw [IntKind.wrap_i64]; omega
        have q33 : (pos : Int).tmod 2 = 0 := by rw [Int.tmod_eq_emod_of_nonneg (by omega)]; omega
        have w0 : IntKind.i64.wrap 0 = 0 := by decide
        have w4 : IntKind.i64.wrap 4 = 4 := by decide
        have J := Aside0.mk hj
        have H2 := Aside0.mk h2
        clear hj h2
        go_still_tail 13, (by kernel_rfl)
        change wpList _ _ _ _ _ W1.drew
        clear q28 q33 w0 w4
        go_wp2
        go_roundw
        case rel =>
          refine ⟨pos + 1, by omega, ⟨?_⟩, ⟨?_⟩, ⟨below_drew (Below.setCell HB1.out (p := ⟨w1.heap.size, j, none⟩) hws _)⟩⟩
          · exact (Below.heap_setCell W1 ⟨w1.heap.size, j, none⟩ _ _ (fun e => by have : w1.heap.size + 1 = w1.heap.size := e; omega)).trans HK1.out
          · refine (blk_put (w := W1) HG1.out j _ ?_).trans rfl
            rw [px_nums_put, key_fill, key_put, J.out, if_pos H2.out, ← HD.out]
        case measure =>
          rw [px_iter_put HK1.out (by omega), MU.out]
          omega
      · obtain ⟨j, hj⟩ : ∃ j : Nat, pos / 2 = j := ⟨_, rfl⟩
        rw [hj] at hcell hfr
        have j0 : (0 : Int) ≤ (j : Int) := by omega
        have j1 : (j : Int) < 32 := by omega
        have q28 : IntKind.i64.wrap ((pos : Int) / 2) = (j : Int) := by rw [IntKind.wrap_i64]; omega
        have q33 : (pos : Int).tmod 2 = 1 := by rw [Int.tmod_eq_emod_of_nonneg (by omega)]; omega
        have w0 : IntKind.i64.wrap 0 = 0 := by decide
        have w4 : IntKind.i64.wrap 4 = 4 := by decide
        have J := Aside0.mk hj
        have H2 := Aside0.mk h2
        clear hj h2
        go_still_tail 13, (by kernel_rfl)
        change wpList _ _ _ _ _ W1.drew
        clear q28 q33 w0 w4
        go_wp2
        go_roundw
        case rel =>
          refine ⟨pos + 1, by omega, ⟨?_⟩, ⟨?_⟩, ⟨below_drew (Below.setCell HB1.out (p := ⟨w1.heap.size, j, none⟩) hws _)⟩⟩
          · exact (Below.heap_setCell W1 ⟨w1.heap.size, j, none⟩ _ _ (fun e => by have : w1.heap.size + 1 = w1.heap.size := e; omega)).trans HK1.out
          · refine (blk_put (w := W1) HG1.out j _ ?_).trans rfl
            rw [px_nums_put, key_fill, key_put, J.out, if_neg (by rw [H2.out]; decide), ← HD.out]
        case measure =>
          rw [px_iter_put HK1.out (by omega), MU.out]
          omega
    · have hnext : ∀ ty, (Instr.next (.pointer (some ⟨w1.heap.size + 1, 0, none⟩)) true ty).run Tryd.prog wr = _ := fun ty => Lib.run_next_end_at wr (w1.heap.size + 1) s pos ty HK.out hp
      have hp64 : pos = 64 := by have := H64.out; omega
      have HG' := HG
      rw [hp64] at HG'
      clear hp64
      go_wp2
      go_ret2
      exact ⟨_, rfl, hws, HG'.out, HBl.out⟩
def key_out (s : ByteArray) : List Int := key_fill s 64
theorem key_out_len (s : ByteArray) : (key_out s).length = 32 := key_fill_len s 64
def key_Bytes.ok (s : ByteArray) : Bool := decide (s.size = 64) && key_all s
def key_Bytes.f (a0 : ByteArray) : Option (List Int × Int) := if key_Bytes.ok a0 = true then some (key_out a0, 0) else some ([], 70)
theorem key_Bytes.f_yes (a0 : ByteArray) (h : key_Bytes.ok a0 = true) : key_Bytes.f a0 = some (key_out a0, 0) := if_pos h
theorem key_Bytes.f_no (a0 : ByteArray) (h : ¬ key_Bytes.ok a0 = true) : key_Bytes.f a0 = some ([], 70) := if_neg h
theorem key_Bytes.calls_no (a0 : ByteArray) (w : World) (h : ¬ key_Bytes.ok a0 = true) :
    Calls Tryd.prog 21 #[.string a0] w fun e w' => e = .returned (.tuple #[.slice none 0 0, .int .i64 70]) ∧ Below w.heap.size w w' := by
  by_cases h64 : a0.size = 64
  · have hne : ((a0.size : Int) != 64) = false := by rw [h64]; rfl
    have hall : ¬ key_all a0 = true := fun e => h (by simp [key_Bytes.ok, h64, e])
    refine key_Bytes.trim a0 _ w hne h64 rfl ?_
    cases hr : Lib.trimS a0.data.toList key_hexs with
    | nil => exact absurd (by simpa only [key_all, List.all_eq_true] using px_trimS_nil _ _ hr) hall
    | cons a m => rw [ByteArray.toList_eq]; rfl
  · exact key_Bytes.size a0 w (by rw [bne_iff_ne]; omega)
theorem key_Bytes.calls_yes (a0 : ByteArray) (w : World) (h : key_Bytes.ok a0 = true) :
    Calls Tryd.prog 21 #[.string a0] w fun e w' => ∃ g, e = .returned (.tuple #[.slice (some ⟨g, 0, none⟩) 32 32, .int .i64 0]) ∧ w.heap.size ≤ g ∧ w'.heap[g]? = some (.cells (nums .u8 (key_out a0)).toArray 5 (0, 0)) ∧ Below w.heap.size w w' := by
  have h2 : a0.size = 64 ∧ key_all a0 = true := by simpa [key_Bytes.ok] using h
  obtain ⟨h64, hall⟩ := h2
  have hne : ((a0.size : Int) != 64) = false := by rw [h64]; rfl
  have hall' : ∀ x ∈ a0.data.toList, key_hexs.contains x = true := by
    simpa only [key_all, List.all_eq_true] using hall
  exact key_Bytes.good a0 _ w hne h64 rfl (by rw [px_trimS_of _ _ hall', ByteArray.toList_eq]; rfl) hall'
theorem key_Bytes.calls (a0 : ByteArray) (r1 : List Int) (r2 : Int) (w : World) (h : key_Bytes.f a0 = some (r1, r2)) :
    Calls Tryd.prog 21 #[.string a0] w fun e w' => ∃ v0_ : Value, e = .returned (.tuple #[v0_, .int .i64 r2]) ∧ Kd.R (Kd.int .u8) 5 w' w.heap.size (fun _ => True) v0_ r1 ∧ Below w.heap.size w w' := by
  by_cases hok : key_Bytes.ok a0 = true
  · obtain ⟨e1, e2⟩ := Prod.mk.inj (Option.some.inj ((key_Bytes.f_yes a0 hok).symm.trans h))
    refine (key_Bytes.calls_yes a0 w hok).mono ?_
    rintro e w' ⟨g, rfl, hg, hh, hB⟩
    subst e2
    rw [← e1]
    have e := px_R_blk .u8 (xs := key_out a0) (base := w.heap.size) (ok := fun _ => True) hh hg (by rw [key_out_len]; decide) trivial
    rw [key_out_len] at e
    exact ⟨_, rfl, e, hB⟩
  · obtain ⟨e1, e2⟩ := Prod.mk.inj (Option.some.inj ((key_Bytes.f_no a0 hok).symm.trans h))
    refine (key_Bytes.calls_no a0 w hok).mono ?_
    rintro e w' ⟨rfl, hB⟩
    subst e2
    rw [← e1]
    exact ⟨_, rfl, Kd.R_nil _ _ _ _ _, hB⟩
end Go.Proofs.YtbclnkhcnclfoaaDoor.Q
namespace Go.Proofs.YtbclnkhcnclfoaaDoor.Q
open Go.RowKit Go.Proofs.YtbclnkhcnclfoaaDoorW.PrintWords Go.Proofs.YtbclnkhcnclfoaaDoorW.PrintLast Go.Proofs.YtbclnkhcnclfoaaDoorW.PrintMore
attribute [local go_sem] max2_int min2_int max_two min_two max_three min_three max_four min_four   -- for this text's walks alone
set_option linter.unusedVariables false
set_option linter.unusedSimpArgs false
/-! ### key_Check: function 26 -/
def key_Check.f (a0 : ByteArray) : Option (Bool) := (key_Bytes.f a0).bind fun bt120 => (some (bt120.2 == 0))
set_option maxHeartbeats 8000000 in
set_option maxRecDepth 100000 in
theorem key_Check.calls (a0 : ByteArray) (r : Bool) (w : World) (h : key_Check.f a0 = some r) :
    Calls Tryd.prog 26 #[.string a0] w fun e w' => e = .returned (.bool r) ∧ Below w.heap.size w w' := by
  have HB := Aside0.mk (Below.refl w.heap.size w)
  have H : ((key_Bytes.f a0).bind fun bt120 => (some (bt120.2 == 0))) = some r := h
  clear h
  replace H := Option.bind_eq_some_iff.mp H
  obtain ⟨⟨t120, t121⟩, A20, H⟩ := H
  replace H : (some (t121 == 0)) = some r := H
  have A2 := Aside0.mk A20
  clear A20
  obtain rfl := Option.some.inj H
  go_enter Tryd.func26, Tryd.ntmps26
  go_wp2_with (first | ((with_reducible refine gate_callee (f := 21) rfl ?_); refine goesL_ (some 7) rfl rfl Tryd.func21 (by kernel_rfl) rfl #[.string a0] rfl (by (try simp only [List.map_toArray, List.map_cons, List.map_nil]); first | done | rfl | (simp only [List.length_drop, List.length_take]; rfl)) ?_; (with_reducible refine (key_Bytes.calls a0 t120 t121 _ A2.out).mono ?_); rintro e w3 ⟨v122, rfl, ho0, hb⟩; refine ⟨_, rfl, ?_⟩; have n0_ := Aside0.mk (Kd.R_lower ho0 (below_size (by repeat (first | (with_reducible first | exact HB.out | apply below_alloc | apply pw_below_drewN | apply below_drew1) | exact HB.out)))); have n1_ := Aside0.mk (below_step (by repeat (first | (with_reducible first | exact HB.out | apply below_alloc | apply pw_below_drewN | apply below_drew1) | exact HB.out)) hb); clear HB; have HO123 := n0_; have HB := n1_; clear n0_ n1_; (try clear hb); (try clear hb2); (try clear hk); (try clear hi); (try clear ho0)))
  go_ret
  exact ⟨by first | rfl | (simp [errW_none, errW_some] <;> rfl) | (simp [*, errW_none, errW_some] <;> rfl), by repeat (first | (with_reducible first | exact HB.out | apply below_alloc | apply pw_below_drewN | apply below_drew1) | exact HB.out)⟩
end Go.Proofs.YtbclnkhcnclfoaaDoor.Q
namespace Go.Proofs.YtbclnkhcnclfoaaDoor.Q
open Go.RowKit Go.Proofs.YtbclnkhcnclfoaaDoorW.PrintWords Go.Proofs.YtbclnkhcnclfoaaDoorW.PrintLast Go.Proofs.YtbclnkhcnclfoaaDoorW.PrintMore
set_option linter.unusedVariables false
set_option linter.unusedSimpArgs false
/-! ### the document's text -/
theorem strOf_append (xs ys : List Int) : strOfNums (xs ++ ys) = strOfNums xs ++ strOfNums ys := by
  apply Go.WideShapes.bytes_inj
  simp [strOfNums, ByteArray.data_append]
theorem strOf_size (xs : List Int) : (strOfNums xs).size = xs.length := by simp [strOfNums, ByteArray.size]
theorem dig_cut (x : Int) (h0 : 0 ≤ x) (h1 : x < 16) : (⟨#[48, 49, 50, 51, 52, 53, 54, 55, 56, 57, 97, 98, 99, 100, 101, 102]⟩ : ByteArray).extract x.toNat (x + 1).toNat = strOfNums [bt ⟨#[48, 49, 50, 51, 52, 53, 54, 55, 56, 57, 97, 98, 99, 100, 101, 102]⟩ x] := by
  have h : ∀ n : Fin 16, ((⟨#[48, 49, 50, 51, 52, 53, 54, 55, 56, 57, 97, 98, 99, 100, 101, 102]⟩ : ByteArray).extract n.val (n.val + 1)).data.toList = (strOfNums [bt ⟨#[48, 49, 50, 51, 52, 53, 54, 55, 56, 57, 97, 98, 99, 100, 101, 102]⟩ (n.val : Int)]).data.toList := by decide +kernel
  have e := h ⟨x.toNat, by omega⟩
  apply Go.WideShapes.bytes_inj
  have e1 : (x + 1).toNat = x.toNat + 1 := by omega
  have e2 : ((x.toNat : Nat) : Int) = x := by omega
  rw [e1]
  rw [show ((⟨x.toNat, by omega⟩ : Fin 16).val : Int) = x from e2] at e
  exact e
theorem refText_l0 (l : List Int) (hl : l.length ≤ 1000000000) (hb : ∀ y ∈ l, 0 ≤ y ∧ y ≤ 255) : ∀ (d i : Nat) (x3 : List Int), i + d = l.length → x3.length + 2 * d ≤ 10000000000 → Ev (fun k => palimpsestref07_text.l0 k l (strOfNums x3) (i : Int)) (strOfNums (x3 ++ key_hx (l.drop i)))
  | 0, i, x3, hd, hx => Ev.of_eq (Ev.step (f := fun _ => some (strOfNums x3)) (fun k => by simp only [palimpsestref07_text.l0]; rw [if_neg (by omega)]) (Ev.now _)) (by rw [List.drop_of_length_le (by omega)]; simp [key_hx])
  | d + 1, i, x3, hd, hx => by
    have hi : i < l.length := by omega
    have e := refText_l0 l hl hb d (i + 1) (x3 ++ key_two (l[i]'hi)) (by omega) (by simp [key_two]; omega)
    obtain ⟨b0, b1⟩ := hb _ (List.getElem_mem hi)
    have r := rd_nat l i hi
    obtain ⟨x, hxe⟩ : ∃ x, l[i]'hi = x := ⟨_, rfl⟩
    rw [hxe] at b0 b1 r e
    have p1 : (i : Int) < (l.length : Int) := by omega
    have p2 : (0 : Int) ≤ (i : Int) := by omega
    have p3 : 0 ≤ x / 16 := by omega
    have p4 : x / 16 ≤ x / 16 + 1 := by omega
    have p5 : x / 16 + 1 ≤ 16 := by omega
    have p6 : x3.length + 1 ≤ 9223372036854775807 := by omega
    have p7 : 0 ≤ x % 16 := by omega
    have p8 : x % 16 ≤ x % 16 + 1 := by omega
    have p9 : x % 16 + 1 ≤ 16 := by omega
    have p10 : x3.length + 1 + 1 ≤ 9223372036854775807 := by omega
    have t1 : (Int.tdiv x 16) % 256 = x / 16 := by rw [Int.tdiv_eq_ediv_of_nonneg b0]; omega
    have t2 : Int.tmod x 16 = x % 16 := Int.tmod_eq_emod_of_nonneg b0
    have w1 : wrap64 (x % 16) = x % 16 := wrap_u (by omega) (by omega)
    have w2 : wrap64 (x % 16 + 1) = x % 16 + 1 := wrap_u (by omega) (by omega)
    have wi : wrap64 ((i : Int) + 1) = ((i + 1 : Nat) : Int) := wrap_u (by omega) (by omega)
    have c1 := dig_cut (x / 16) (by omega) (by omega)
    have c2 := dig_cut (x % 16) (by omega) (by omega)
    have a15 := and15 x b0 b1
    refine Ev.of_eq (Ev.step (fun k => ?_) e) ?_
    · simp only [palimpsestref07_text.l0]
      rw [r, t1, t2, w1, w2, c1, c2, wi]
      rw [if_pos p1, if_pos p2, if_pos p3, if_pos p4, if_pos p5, strOf_size, strOf_size, if_pos (by simpa using p6), if_pos p7, if_pos p8, if_pos p9, ← strOf_append, strOf_size, strOf_size, if_pos (by simpa using p10), ← strOf_append]
      congr 2
      rw [key_two, a15, List.append_assoc]
      rfl
    · rw [List.drop_eq_getElem_cons hi, key_hx_cons, List.append_assoc, hxe]
theorem refText_ev (l : List Int) (hl : l.length ≤ 1000000000) (hb : ∀ y ∈ l, 0 ≤ y ∧ y ≤ 255) : Ev (fun k => palimpsestref07_text.f k l) (key_txt l) := by
  have e := refText_l0 l hl hb l.length 0 [] (by omega) (by simp; omega)
  rw [show strOfNums ([] : List Int) = ⟨#[]⟩ from rfl, Int.natCast_zero, List.nil_append, List.drop_zero] at e
  unfold palimpsestref07_text.f
  exact e
theorem refOf_ev (kind : Int) (b : List Int) (hb : b.length < 1000000000) : Ev (fun k => palimpsestref07_Of.f k kind b) (key_txt (key_sum kind b)) := by
  unfold palimpsestref07_Of.f
  have e1 : [kind % 256].length + b.length < 140737488355328 := by simp; omega
  simp only [Option.bind_some, if_pos e1]
  refine Ev.bind (key_sum_ref kind b hb) ?_
  refine Ev.bind (refText_ev _ (by rw [key_sum_len]; decide) (key_sum_byte kind b)) ?_
  exact Ev.now _
theorem key_From.ev (l : List Int) (hb : ∀ y ∈ l, 0 ≤ y ∧ y ≤ 255) : Ev (fun k => key_From.f k l) (if l.length = 32 then (key_txt l, 0) else (⟨#[]⟩, 70)) := by
  unfold key_From.f
  by_cases h : l.length = 32
  · have h' : (l.length : Int) = 32 := by omega
    simp only [if_pos h, if_pos h']
    exact Ev.bind (key_text.ev l (by omega) hb) (Ev.now _)
  · have h' : ¬ (l.length : Int) = 32 := by omega
    simp only [if_neg h, if_neg h']
    exact Ev.now _
theorem refFrom_ev (l : List Int) (hb : ∀ y ∈ l, 0 ≤ y ∧ y ≤ 255) : Ev (fun k => palimpsestref07_From.f k l) (if l.length = 32 then (key_txt l, 0) else (⟨#[]⟩, 70)) := by
  unfold palimpsestref07_From.f
  by_cases h : l.length = 32
  · have h' : (l.length : Int) = 32 := by omega
    simp only [if_pos h, if_pos h']
    exact Ev.bind (refText_ev l (by omega) hb) (Ev.now _)
  · have h' : ¬ (l.length : Int) = 32 := by omega
    simp only [if_neg h, if_neg h']
    exact Ev.now _
/-! ### digits -/
theorem hex_at (c : Int) (h0 : 0 ≤ c) (h1 : c ≤ 255) : palimpsestref07_digit.f 20 c = some (key_hex c) ∧ -1 ≤ key_hex c ∧ key_hex c ≤ 15 := by
  have h : ∀ n : Fin 256, palimpsestref07_digit.f 20 (n.val : Int) = some (key_hex (n.val : Int)) ∧ -1 ≤ key_hex (n.val : Int) ∧ key_hex (n.val : Int) ≤ 15 := by decide +kernel
  have e := h ⟨c.toNat, by omega⟩
  have e2 : ((c.toNat : Nat) : Int) = c := by omega
  rw [show ((⟨c.toNat, by omega⟩ : Fin 256).val : Int) = c from e2] at e
  exact e
theorem hex_in (b : UInt8) : decide (0 ≤ key_hex (b.toNat : Int)) = key_hexs.contains b := by
  have h : ∀ n : Fin 256, decide (0 ≤ key_hex (n.val : Int)) = key_hexs.contains (UInt8.ofNat n.val) := by decide +kernel
  have e := h ⟨b.toNat, b.toNat_lt⟩
  simpa using e
theorem digit_ev (c : Int) (h0 : 0 ≤ c) (h1 : c ≤ 255) : Ev (fun k => palimpsestref07_digit.f k c) (key_hex c) := Ev.of (palimpsestref07_digit.mono _) (hex_at c h0 h1).1
def hxi (s : ByteArray) (i : Nat) : Int := key_hex (bt s (i : Int))
theorem hxi_le (s : ByteArray) (i : Nat) : -1 ≤ hxi s i ∧ hxi s i ≤ 15 := by
  have h := bt_range s (i : Int)
  exact (hex_at _ h.1 h.2).2
def hx_ok (s : ByteArray) : Nat → Nat → Bool
  | _, 0 => true
  | n, d + 1 => decide (0 ≤ hxi s (2 * n)) && decide (0 ≤ hxi s (2 * n + 1)) && hx_ok s (n + 1) d
def hx_list (s : ByteArray) : Nat → Nat → List Int
  | _, 0 => []
  | n, d + 1 => (16 * hxi s (2 * n) + hxi s (2 * n + 1)) :: hx_list s (n + 1) d
theorem refBytes_l0 (s : ByteArray) (h64 : s.size = 64) : ∀ (d n : Nat) (x4 : List Int), n + d = 32 → x4.length + d ≤ 1000 → Ev (fun k => palimpsestref07_Bytes.l0 k s x4 ((2 * n : Nat) : Int)) (if hx_ok s n d = true then (x4 ++ hx_list s n d, 0) else ([], 70))
  | 0, n, x4, hd, hx => by
    refine Ev.of_eq (Ev.step (f := fun _ => some (x4, 0)) (fun k => ?_) (Ev.now _)) (by rw [hx_ok, if_pos rfl]; simp [hx_list])
    simp only [palimpsestref07_Bytes.l0]
    rw [if_neg (by omega)]
  | d + 1, n, x4, hd, hx => by
    have ih := refBytes_l0 s h64 d (n + 1) (x4 ++ [16 * hxi s (2 * n) + hxi s (2 * n + 1)]) (by omega) (by simp; omega)
    have b1 := bt_range s ((2 * n : Nat) : Int)
    have b2 := bt_range s ((2 * n + 1 : Nat) : Int)
    have g1 := hxi_le s (2 * n)
    have g2 := hxi_le s (2 * n + 1)
    have w1 : wrap64 (((2 * n : Nat) : Int) + 1) = ((2 * n + 1 : Nat) : Int) := wrap_u (by omega) (by omega)
    have w2 : wrap64 (((2 * n : Nat) : Int) + 2) = ((2 * (n + 1) : Nat) : Int) := wrap_u (by omega) (by omega)
    have e1 := digit_ev _ b1.1 b1.2
    have e2 := digit_ev _ b2.1 b2.2
    have p1 : ((2 * n : Nat) : Int) < 64 := by omega
    have p2 : (0 : Int) ≤ ((2 * n : Nat) : Int) := by omega
    have p3 : ((2 * n : Nat) : Int) < (s.size : Int) := by omega
    have p4 : (0 : Int) ≤ ((2 * n + 1 : Nat) : Int) := by omega
    have p5 : ((2 * n + 1 : Nat) : Int) < (s.size : Int) := by omega
    refine Ev.step (fun k => by simp only [palimpsestref07_Bytes.l0]; rw [if_pos p1, if_pos p2, if_pos p3, w1]) ?_
    refine Ev.bind e1 ?_
    simp only [if_pos p4, if_pos p5, w2]
    refine Ev.bind e2 ?_
    change Ev (fun k => if hxi s (2 * n) < 0 then _ else if hxi s (2 * n + 1) < 0 then _ else _) _
    by_cases h1 : hxi s (2 * n) < 0
    · simp only [if_pos h1]
      have : hx_ok s n (d + 1) = false := by rw [hx_ok, decide_eq_false (by omega)]; rfl
      rw [this]
      exact Ev.now _
    · simp only [if_neg h1]
      by_cases h2 : hxi s (2 * n + 1) < 0
      · simp only [if_pos h2]
        have : hx_ok s n (d + 1) = false := by rw [hx_ok, decide_eq_false (p := 0 ≤ hxi s (2 * n + 1)) (by omega), Bool.and_false]; rfl
        rw [this]
        exact Ev.now _
      · simp only [if_neg h2]
        have e3 : hx_ok s n (d + 1) = hx_ok s (n + 1) d := by rw [hx_ok, decide_eq_true (by omega), decide_eq_true (by omega)]; rfl
        have p6 : x4.length < 140737488355328 := by omega
        have e4 : (wrap64 ((wrap64 (16 * hxi s (2 * n))) + hxi s (2 * n + 1))) % 256 = 16 * hxi s (2 * n) + hxi s (2 * n + 1) := by
          rw [wrap_u (x := 16 * hxi s (2 * n)) (by omega) (by omega), wrap_u (by omega) (by omega)]
          omega
        have e5 : (wrap64 ((wrap64 (16 * key_hex (bt s ((2 * n : Nat) : Int)))) + key_hex (bt s ((2 * n + 1 : Nat) : Int)))) % 256 = 16 * hxi s (2 * n) + hxi s (2 * n + 1) := e4
        simp only [if_pos p6, e5]
        rw [e3, hx_list]
        simpa using ih
theorem refBytes_ev (s : ByteArray) : Ev (fun k => palimpsestref07_Bytes.f k s) (if s.size = 64 ∧ hx_ok s 0 32 = true then (hx_list s 0 32, 0) else ([], 70)) := by
  unfold palimpsestref07_Bytes.f
  by_cases h64 : s.size = 64
  · have h' : (s.size : Int) = 64 := by omega
    have e := refBytes_l0 s h64 32 0 [] (by omega) (by simp)
    simp only [if_pos h', h64, true_and]
    simpa using e
  · have h' : ¬ (s.size : Int) = 64 := by omega
    simp only [if_neg h', h64, false_and, if_false]
    exact Ev.now _
theorem hx_ok_iff (s : ByteArray) : ∀ (d n : Nat), hx_ok s n d = true ↔ ∀ i, 2 * n ≤ i → i < 2 * n + 2 * d → 0 ≤ hxi s i
  | 0, n => by simp [hx_ok]; intro i h1 h2; omega
  | d + 1, n => by
    have ih := hx_ok_iff s d (n + 1)
    rw [hx_ok, Bool.and_eq_true, Bool.and_eq_true, decide_eq_true_eq, decide_eq_true_eq, ih]
    constructor
    · rintro ⟨⟨h1, h2⟩, h3⟩ i g1 g2
      by_cases e1 : i = 2 * n
      · rw [e1]; exact h1
      · by_cases e2 : i = 2 * n + 1
        · rw [e2]; exact h2
        · exact h3 i (by omega) (by omega)
    · intro h
      exact ⟨⟨h _ (by omega) (by omega), h _ (by omega) (by omega)⟩, fun i g1 g2 => h i (by omega) (by omega)⟩
theorem key_all_iff (s : ByteArray) (h64 : s.size = 64) : key_all s = hx_ok s 0 32 := by
  rw [Bool.eq_iff_iff, hx_ok_iff, key_all, List.all_eq_true]
  have hlen : s.data.toList.length = 64 := by rw [Array.length_toList]; exact h64
  constructor
  · intro h i _ hi
    have hi' : i < s.size := by omega
    have e := h (s[i]'hi') (by simp [ByteArray.getElem_eq_getElem_data])
    rw [← hex_in] at e
    have b := bt_at s (i : Int) (by simpa using hi')
    simp only [Int.toNat_natCast] at b
    rw [b] at e
    simpa [hxi] using e
  · intro h x hx
    obtain ⟨i, hi, rfl⟩ := List.getElem_of_mem hx
    have hi' : i < s.size := by omega
    have e := h i (by omega) (by omega)
    have b := bt_at s (i : Int) (by simpa using hi')
    simp only [Int.toNat_natCast] at b
    have e2 : s.data.toList[i] = s[i]'hi' := by simp [ByteArray.getElem_eq_getElem_data]
    rw [← hex_in, e2, b]
    simpa [hxi] using e
/-! ### key.Bytes in closed form -/
theorem or_zero (h : Int) (h0 : 0 ≤ h) (h1 : h ≤ 15) : Go.bits .or .u8 0 (h * 16) = h * 16 := by
  rw [u8_or 0 (h * 16) (by omega) (by omega) (by omega) (by omega)]
  simp
  omega
theorem or_join (a b : Int) (a0 : 0 ≤ a) (a1 : a ≤ 15) (b0 : 0 ≤ b) (b1 : b ≤ 15) : Go.bits .or .u8 (a * 16) b = 16 * a + b := by
  have e := bits_join .u8 8 (by decide) wraps_u8 4 (a * 16) b (by omega) (by omega) (by omega) b0 (by omega) (by omega)
  rw [e]
  omega
theorem set_len {α : Type} (xs : List α) (x y : α) (r : List α) : (xs ++ x :: r).set xs.length y = xs ++ y :: r := by simp
theorem rd_len (xs : List Int) (x : Int) (r : List Int) : rd (xs ++ x :: r) (xs.length : Int) = x := by simp [rd]
theorem key_fill_ev (s : ByteArray) : ∀ (d n : Nat) (xs : List Int), n + d = 32 → xs.length = n → key_fill s (2 * n) = xs ++ List.replicate d 0 → hx_ok s n d = true → key_fill s 64 = xs ++ hx_list s n d
  | 0, n, xs, hd, hx, hf, _ => by
    obtain rfl : n = 32 := by omega
    rw [hf]
    simp [hx_list]
  | d + 1, n, xs, hd, hx, hf, hok => by
    have h3 := hok
    rw [hx_ok, Bool.and_eq_true, Bool.and_eq_true, decide_eq_true_eq, decide_eq_true_eq] at h3
    obtain ⟨⟨g1, g2⟩, hok'⟩ := h3
    have l1 := hxi_le s (2 * n)
    have l2 := hxi_le s (2 * n + 1)
    have q1 : 2 * n / 2 = n := by omega
    have q2 : (2 * n + 1) / 2 = n := by omega
    have m1 : 2 * n % 2 = 0 := by omega
    have m2 : ¬ (2 * n + 1) % 2 = 0 := by omega
    have e1 : key_fill s (2 * n + 1) = xs ++ (hxi s (2 * n) * 16) :: List.replicate d 0 := by
      rw [key_fill, key_put, q1, if_pos m1, hf, List.replicate_succ, ← hx, rd_len, hx]
      rw [show key_hex (bt s ((2 * n : Nat) : Int)) = hxi s (2 * n) from rfl, or_zero _ g1 l1.2, ← hx, set_len]
    have e2 : key_fill s (2 * n + 2) = xs ++ (16 * hxi s (2 * n) + hxi s (2 * n + 1)) :: List.replicate d 0 := by
      rw [key_fill, key_put, q2, if_neg m2, e1, ← hx, rd_len, hx]
      rw [show key_hex (bt s ((2 * n + 1 : Nat) : Int)) = hxi s (2 * n + 1) from rfl, or_join _ _ g1 l1.2 g2 l2.2, ← hx, set_len]
    have e := key_fill_ev s d (n + 1) (xs ++ [16 * hxi s (2 * n) + hxi s (2 * n + 1)]) (by omega) (by simp [hx]) (by rw [show 2 * (n + 1) = 2 * n + 2 from by omega, e2]; simp) hok'
    rw [e, hx_list]
    simp
theorem key_out_eq (s : ByteArray) (h : hx_ok s 0 32 = true) : key_out s = hx_list s 0 32 := by
  have e := key_fill_ev s 32 0 [] (by omega) rfl rfl h
  rw [key_out, e]
  rfl
theorem key_Bytes.eq (s : ByteArray) : key_Bytes.f s = some (if s.size = 64 ∧ hx_ok s 0 32 = true then (hx_list s 0 32, 0) else ([], 70)) := by
  by_cases h : s.size = 64 ∧ hx_ok s 0 32 = true
  · rw [if_pos h, key_Bytes.f_yes s (by rw [key_Bytes.ok, h.1, key_all_iff s h.1, h.2]; rfl), key_out_eq s h.2]
  · rw [if_neg h, key_Bytes.f_no s (fun e => h (by
      rw [key_Bytes.ok, Bool.and_eq_true, decide_eq_true_eq] at e
      exact ⟨e.1, by rw [← key_all_iff s e.1]; exact e.2⟩))]
/-! ### a key is its bytes -/
theorem key_txt_size (l : List Int) : (key_txt l).size = 2 * l.length := by rw [key_txt, strOf_size, key_hx_len]
theorem key_hx_at : ∀ (l : List Int) (j : Nat) (h : j < l.length), (key_hx l)[2 * j]? = some (bt ⟨#[48, 49, 50, 51, 52, 53, 54, 55, 56, 57, 97, 98, 99, 100, 101, 102]⟩ (l[j] / 16)) ∧ (key_hx l)[2 * j + 1]? = some (bt ⟨#[48, 49, 50, 51, 52, 53, 54, 55, 56, 57, 97, 98, 99, 100, 101, 102]⟩ (Go.bits .and .u8 l[j] 15))
  | [], j, h => absurd h (by simp)
  | x :: l, 0, _ => by rw [key_hx_cons]; simp [key_two]
  | x :: l, j + 1, h => by
    have e := key_hx_at l j (by simpa using h)
    rw [key_hx_cons, show 2 * (j + 1) = 2 * j + 2 from by omega]
    simpa [key_two] using e
theorem bt_strOf (xs : List Int) (i : Nat) (x : Int) (h : xs[i]? = some x) (h0 : 0 ≤ x) (h1 : x ≤ 255) : bt (strOfNums xs) (i : Int) = x := by
  obtain ⟨hi, e⟩ := List.getElem?_eq_some_iff.1 h
  have hs : (i : Int).toNat < (strOfNums xs).size := by rw [strOf_size]; simpa using hi
  rw [← bt_at _ _ hs]
  simp only [Int.toNat_natCast, strOfNums, ByteArray.getElem_eq_getElem_data, List.getElem_toArray, List.getElem_map, e]
  have : x.toNat < 256 := by omega
  simp [UInt8.toNat_ofNat, Nat.mod_eq_of_lt this]
  omega
theorem hex_dig (x : Int) (h0 : 0 ≤ x) (h1 : x < 16) : key_hex (bt ⟨#[48, 49, 50, 51, 52, 53, 54, 55, 56, 57, 97, 98, 99, 100, 101, 102]⟩ x) = x := by
  have h : ∀ n : Fin 16, key_hex (bt ⟨#[48, 49, 50, 51, 52, 53, 54, 55, 56, 57, 97, 98, 99, 100, 101, 102]⟩ (n.val : Int)) = (n.val : Int) := by decide +kernel
  have e := h ⟨x.toNat, by omega⟩
  have e2 : ((x.toNat : Nat) : Int) = x := by omega
  rw [show ((⟨x.toNat, by omega⟩ : Fin 16).val : Int) = x from e2] at e
  exact e
theorem hxi_txt (l : List Int) (hb : ∀ y ∈ l, 0 ≤ y ∧ y ≤ 255) (j : Nat) (h : j < l.length) : hxi (key_txt l) (2 * j) = l[j] / 16 ∧ hxi (key_txt l) (2 * j + 1) = l[j] % 16 := by
  obtain ⟨e1, e2⟩ := key_hx_at l j h
  obtain ⟨b0, b1⟩ := hb _ (List.getElem_mem h)
  have a15 := and15 _ b0 b1
  rw [a15] at e2
  have r1 := bt_range ⟨#[48, 49, 50, 51, 52, 53, 54, 55, 56, 57, 97, 98, 99, 100, 101, 102]⟩ (l[j] / 16)
  have r2 := bt_range ⟨#[48, 49, 50, 51, 52, 53, 54, 55, 56, 57, 97, 98, 99, 100, 101, 102]⟩ (l[j] % 16)
  refine ⟨?_, ?_⟩
  · unfold hxi key_txt
    rw [bt_strOf _ _ _ e1 r1.1 r1.2, hex_dig _ (by omega) (by omega)]
  · unfold hxi key_txt
    rw [bt_strOf _ _ _ e2 r2.1 r2.2, hex_dig _ (by omega) (by omega)]
theorem hx_list_txt (l : List Int) (hb : ∀ y ∈ l, 0 ≤ y ∧ y ≤ 255) : ∀ (d n : Nat), n + d = l.length → hx_list (key_txt l) n d = l.drop n
  | 0, n, hd => by rw [List.drop_of_length_le (by omega)]; rfl
  | d + 1, n, hd => by
    have hn : n < l.length := by omega
    obtain ⟨e1, e2⟩ := hxi_txt l hb n hn
    rw [hx_list, e1, e2, hx_list_txt l hb d (n + 1) (by omega), List.drop_eq_getElem_cons hn]
    congr 1
    omega
theorem hx_ok_txt (l : List Int) (hb : ∀ y ∈ l, 0 ≤ y ∧ y ≤ 255) : ∀ (d n : Nat), n + d = l.length → hx_ok (key_txt l) n d = true
  | 0, n, hd => rfl
  | d + 1, n, hd => by
    have hn : n < l.length := by omega
    obtain ⟨e1, e2⟩ := hxi_txt l hb n hn
    obtain ⟨b0, b1⟩ := hb _ (List.getElem_mem hn)
    rw [hx_ok, e1, e2, hx_ok_txt l hb d (n + 1) (by omega), decide_eq_true (by omega), decide_eq_true (by omega)]
    rfl
theorem key_Bytes.txt (l : List Int) (hb : ∀ y ∈ l, 0 ≤ y ∧ y ≤ 255) (h32 : l.length = 32) : key_Bytes.f (key_txt l) = some (l, 0) := by
  rw [key_Bytes.eq, if_pos ⟨by rw [key_txt_size, h32], hx_ok_txt l hb 32 0 (by omega)⟩, hx_list_txt l hb 32 0 (by omega)]
  rfl
end Go.Proofs.YtbclnkhcnclfoaaDoor.Q
namespace Go.Proofs.YtbclnkhcnclfoaaDoor.Q
open Go.RowKit Go.Proofs.YtbclnkhcnclfoaaDoorW.PrintWords Go.Proofs.YtbclnkhcnclfoaaDoorW.PrintLast Go.Proofs.YtbclnkhcnclfoaaDoorW.PrintMore
attribute [local go_sem] max2_int min2_int max_two min_two max_three min_three max_four min_four   -- for this text's walks alone
set_option linter.unusedVariables false
set_option linter.unusedSimpArgs false
/-! ### palimpsestref07_Same: function 51 -/
def palimpsestref07_Same.l0 : Nat → List ByteArray → List ByteArray → Int → Option (Bool)
  | 0, _, _, _ => none
  | k + 1, x0, x1, x5 => if x5 < (x0.length : Int) then (if 0 ≤ x5 then (if x5 < (x1.length : Int) then (if (rdOf ByteArray.empty x0 x5).toList = (rdOf ByteArray.empty x1 x5).toList then (palimpsestref07_Same.l0 k x0 x1 (wrap64 (x5 + 1))) else (some false)) else (none)) else (none)) else (some true)
def palimpsestref07_Same.f (k : Nat) (l0 : List ByteArray) (l1 : List ByteArray) : Option (Bool) := if (l0.length : Int) = (l1.length : Int) then (palimpsestref07_Same.l0 k l0 l1 0) else (some false)
theorem palimpsestref07_Same.mono_l : ∀ k, (∀ y0 y1 y2, LeO (palimpsestref07_Same.l0 k y0 y1 y2) (palimpsestref07_Same.l0 (k + 1) y0 y1 y2))
  | 0 => fun _ _ _ r h => by simp [palimpsestref07_Same.l0] at h
  | k + 1 => by
    have ih0 := palimpsestref07_Same.mono_l k
    · intro y0 y1 y2
      unfold palimpsestref07_Same.l0
      repeat' first
      | (with_reducible exact ih0 _ _ _)
      | (with_reducible exact LeO.refl _)
      | (with_reducible exact LeO.none _)
      | (with_reducible refine LeO.ite ?_ ?_)
      | (with_reducible refine LeO.bind ?_ (fun _ => ?_))
      | exact ih0 _ _ _
      | exact LeO.none _
      | refine LeO.ite ?_ ?_
      | refine LeO.bind ?_ (fun _ => ?_)
theorem palimpsestref07_Same.mono : ∀ a0 a1 k, LeO (palimpsestref07_Same.f k a0 a1) (palimpsestref07_Same.f (k + 1) a0 a1) := by
  intro a0 a1 k
  have ih0 := palimpsestref07_Same.mono_l k
  unfold palimpsestref07_Same.f
  repeat' first
      | (with_reducible exact ih0 _ _ _)
      | (with_reducible exact LeO.refl _)
      | (with_reducible exact LeO.none _)
      | (with_reducible refine LeO.ite ?_ ?_)
      | (with_reducible refine LeO.bind ?_ (fun _ => ?_))
      | exact ih0 _ _ _
      | exact LeO.none _
      | refine LeO.ite ?_ ?_
      | refine LeO.bind ?_ (fun _ => ?_)
set_option maxHeartbeats 8000000 in
set_option maxRecDepth 100000 in
theorem palimpsestref07_Same.calls (k : Nat) (A0 : Option Addr) (c0 : Nat) (l0 : List ByteArray) (A1 : Option Addr) (c1 : Nat) (l1 : List ByteArray) (r : Bool) (w : World) (hr0 : Kd.C Kd.string w A0 l0.length l0) (hc0 : l0.length ≤ c0) (hr1 : Kd.C Kd.string w A1 l1.length l1) (hc1 : l1.length ≤ c1) (h : palimpsestref07_Same.f k l0 l1 = some r) :
    Calls Tryd.prog 51 #[.slice A0 l0.length c0, .slice A1 l1.length c1] w fun e w' => e = .returned (.bool r) ∧ Drawn0 w w' := by
  have HR0 := Aside0.mk hr0
  have HC0 := Aside0.mk hc0
  clear hr0 hc0
  have HR1 := Aside0.mk hr1
  have HC1 := Aside0.mk hc1
  clear hr1 hc1
  have H : (if (l0.length : Int) = (l1.length : Int) then (palimpsestref07_Same.l0 k l0 l1 0) else (some false)) = some r := h
  clear h
  by_cases c3 : (l0.length : Int) = (l1.length : Int)
  · rw [if_pos c3] at H
    have c3b0 : ((l0.length : Int) == (l1.length : Int)) = true := beq_iff_eq.mpr c3
    have c3b1 : ((l0.length : Int) != (l1.length : Int)) = false := bne_eq_false_iff_eq.mpr c3
    have c3b2 : (l0.length == l1.length) = true := by first | simpa using c3 | (simp at c3 ⊢; omega)
    clear c3
    have H' := Aside0.mk H
    clear H
    go_enter Tryd.func51, Tryd.ntmps51
    go_wp2
    repeat (go_quiet (fail); try go_wp2)
    go_loopg [5] k (fun kq v5 w' => ∃ (x5_1 : Int), v5 = .int .i64 x5_1 ∧ Aside0 (palimpsestref07_Same.l0 kq l0 l1 x5_1 = some r) ∧ Aside0 (kq ≤ k) ∧ Drawn0 w w')
    case atStart => exact ⟨(0), (by first | rfl | (simp; done) | (simp [*]; done)), H', ⟨Nat.le_refl _⟩, by repeat (first | exact Drawn0.refl _ | apply Drawn0.step)⟩
    case round =>
      clear H'
      try clear c1
      try clear p2
      try clear c3
      try clear c3b0
      try clear c3b1
      try clear c3b2
      obtain ⟨x5_1, rfl, HA, HK1, ⟨m1, rfl⟩⟩ := hrel
      cases gk with
      | zero => exact absurd HA.out (by simp [palimpsestref07_Same.l0])
      | succ k1 =>
        have H := HA.out
        clear HA
        simp only [palimpsestref07_Same.l0] at H
        by_cases c4 : x5_1 < (l0.length : Int)
        · rw [if_pos c4] at H
          have c4b0 : decide (x5_1 < (l0.length : Int)) = true := decide_eq_true c4
          clear c4
          by_cases c5 : 0 ≤ x5_1
          · rw [if_pos c5] at H
            have c5b0 : decide (0 ≤ x5_1) = true := decide_eq_true c5
            clear c5
            by_cases c6 : x5_1 < (l1.length : Int)
            · rw [if_pos c6] at H
              have c6b0 : decide (x5_1 < (l1.length : Int)) = true := decide_eq_true c6
              clear c6
              by_cases c7 : (rdOf ByteArray.empty l0 x5_1).toList = (rdOf ByteArray.empty l1 x5_1).toList
              · rw [if_pos c7] at H
                have c7b0 : ((rdOf ByteArray.empty l0 x5_1).toList == (rdOf ByteArray.empty l1 x5_1).toList) = true := beq_iff_eq.mpr c7
                have c7b1 : ((rdOf ByteArray.empty l0 x5_1).toList != (rdOf ByteArray.empty l1 x5_1).toList) = false := bne_eq_false_iff_eq.mpr c7
                clear c7
                have H' := Aside0.mk H
                clear H
                have p630 : 0 ≤ (x5_1 : Int) := of_decide_eq_true (by first | (with_reducible assumption) | assumption)
                have q630 : x5_1 < (l0.length : Int) := of_decide_eq_true (by first | (with_reducible assumption) | assumption)
                obtain ⟨ad630, e630, hx630_0⟩ := Kd.at_string HR0.out x5_1 p630 q630
                cases e630
                replace p630 := eq_true p630
                replace q630 := eq_true q630
                have p631 : 0 ≤ (x5_1 : Int) := of_decide_eq_true (by first | (with_reducible assumption) | assumption)
                have q631 : x5_1 < (l1.length : Int) := of_decide_eq_true (by first | (with_reducible assumption) | assumption)
                obtain ⟨ad631, e631, hx631_0⟩ := Kd.at_string HR1.out x5_1 p631 q631
                cases e631
                replace p631 := eq_true p631
                replace q631 := eq_true q631
                go_wp2
                repeat (go_quiet (fail); try go_wp2)
                go_roundg k1
                case measure => have := HK1.out; omega
                case rel => exact ⟨(wrap64 (x5_1 + 1)), (by first | rfl | (simp; done) | (simp [*]; done)), H', ⟨by have := HK1.out; omega⟩, by repeat (first | exact Drawn0.refl _ | apply Drawn0.step)⟩
              · rw [if_neg c7] at H
                have c7b0 : ((rdOf ByteArray.empty l0 x5_1).toList == (rdOf ByteArray.empty l1 x5_1).toList) = false := beq_eq_false_iff_ne.mpr c7
                have c7b1 : ((rdOf ByteArray.empty l0 x5_1).toList != (rdOf ByteArray.empty l1 x5_1).toList) = true := bne_iff_ne.mpr c7
                obtain rfl := Option.some.inj H
                have p630 : 0 ≤ (x5_1 : Int) := of_decide_eq_true (by first | (with_reducible assumption) | assumption)
                have q630 : x5_1 < (l0.length : Int) := of_decide_eq_true (by first | (with_reducible assumption) | assumption)
                obtain ⟨ad630, e630, hx630_0⟩ := Kd.at_string HR0.out x5_1 p630 q630
                cases e630
                replace p630 := eq_true p630
                replace q630 := eq_true q630
                have p631 : 0 ≤ (x5_1 : Int) := of_decide_eq_true (by first | (with_reducible assumption) | assumption)
                have q631 : x5_1 < (l1.length : Int) := of_decide_eq_true (by first | (with_reducible assumption) | assumption)
                obtain ⟨ad631, e631, hx631_0⟩ := Kd.at_string HR1.out x5_1 p631 q631
                cases e631
                replace p631 := eq_true p631
                replace q631 := eq_true q631
                go_wp2
                repeat (go_quiet (fail); try go_wp2)
                go_ret
                exact ⟨by first | rfl | (simp; done) | (simp [*]; done), by repeat (first | exact Drawn0.refl _ | apply Drawn0.step)⟩
            · rw [if_neg c6] at H
              exact absurd H (by simp)
          · rw [if_neg c5] at H
            exact absurd H (by simp)
        · rw [if_neg c4] at H
          have c4b0 : decide (x5_1 < (l0.length : Int)) = false := decide_eq_false c4
          clear c4
          obtain rfl := Option.some.inj H
          go_wp2
          repeat (go_quiet (fail); try go_wp2)
          go_ret
          exact ⟨by first | rfl | (simp; done) | (simp [*]; done), by repeat (first | exact Drawn0.refl _ | apply Drawn0.step)⟩
  · rw [if_neg c3] at H
    have c3b0 : ((l0.length : Int) == (l1.length : Int)) = false := beq_eq_false_iff_ne.mpr c3
    have c3b1 : ((l0.length : Int) != (l1.length : Int)) = true := bne_iff_ne.mpr c3
    have c3b2 : (l0.length == l1.length) = false := by first | simpa using c3 | (simp at c3 ⊢; omega)
    obtain rfl := Option.some.inj H
    go_enter Tryd.func51, Tryd.ntmps51
    go_wp2
    repeat (go_quiet (fail); try go_wp2)
    go_ret
    exact ⟨by first | rfl | (simp; done) | (simp [*]; done), by repeat (first | exact Drawn0.refl _ | apply Drawn0.step)⟩
end Go.Proofs.YtbclnkhcnclfoaaDoor.Q
namespace Go.Proofs.YtbclnkhcnclfoaaDoor.Q
open Go.RowKit Go.Proofs.YtbclnkhcnclfoaaDoorW.PrintWords Go.Proofs.YtbclnkhcnclfoaaDoorW.PrintLast Go.Proofs.YtbclnkhcnclfoaaDoorW.PrintMore
attribute [local go_sem] max2_int min2_int max_two min_two max_three min_three max_four min_four   -- for this text's walks alone
set_option linter.unusedVariables false
set_option linter.unusedSimpArgs false
/-! ### api_Key_87: function 87 -/
-- with Derived.Test.YtbclnkhcnclfoaaDoorXMore
-- with Derived.Test.YtbclnkhcnclfoaaDoorSh1
def key_sortS (xs : List ByteArray) : List ByteArray := ((xs.map (·.data.toList)).mergeSort fun x y => decide (x ≤ y)).map fun l => ⟨l.toArray⟩
theorem key_sortS_len (xs : List ByteArray) : (key_sortS xs).length = xs.length := by simp [key_sortS]
theorem key_encs (xs : List ByteArray) : encs Value.string xs = (xs.map (·.data.toList)).map encStr := by
  simp [encs, encStr]
theorem key_encs_sort (xs : List ByteArray) : encs Value.string (key_sortS xs) = ((xs.map (·.data.toList)).mergeSort fun x y => decide (x ≤ y)).map encStr := by
  simp [encs, encStr, key_sortS]
set_option maxRecDepth 100000 in
theorem key_sort_calls (v : Value) (xs : List ByteArray) (w : World) (base : Nat) (ok : Nat → Prop) (h : Kd.R Kd.string 23 w base ok v xs) (hl : xs.length < 4611686018427387904) :
    Calls Tryd.prog 119 #[v] w fun e w' => e = .returned (.tuple #[]) ∧ Kd.R Kd.string 23 w' base ok v (key_sortS xs) ∧ w.grownBy w' v.ownBlock := by
  have hown := Kd.own_of_R h
  by_cases h0 : xs.length = 0
  · have hnil := List.eq_nil_of_length_eq_zero h0
    subst hnil
    obtain ⟨A, c, rfl⟩ := Kd.R_slice h
    refine (AnyM.slices_Sort_string_none Tryd.laysSortKey A c w).mono ?_
    rintro e w' ⟨rfl, rfl⟩
    have e1 : key_sortS [] = [] := by simp [key_sortS]
    rw [e1]
    exact ⟨rfl, h, ⟨rfl, rfl, rfl, Nat.le_refl _, fun _ _ _ => rfl⟩⟩
  · have hown' := hown
    rw [key_encs] at hown
    rcases hown.2 with ⟨rfl, hx⟩ | ⟨g, cap, cur, rfl, hbase, hb, h1, h2, h3, h4⟩
    · exact absurd (by simpa using hx) (fun e => h0 (by rw [e]; rfl))
    · have hcon := AnyM.slices_Sort_string Tryd.laysSortKey g 0 cap (xs.map (·.data.toList)) w (holds_of_block hb (by simpa using h4)) (Array.getElem?_eq_some_iff.1 hb).1 (by rw [List.length_map]; exact hl)
      rw [List.length_map] at hcon
      refine Calls.mono hcon ?_
      rintro e w' ⟨rfl, n, os, rfl⟩
      refine ⟨rfl, ?_, grownBy_sorted _⟩
      have ho := ownsRow_sorted (w := w) (n := n) (os := os) (ss := xs.map (·.data.toList)) (ts := (xs.map (·.data.toList)).mergeSort fun x y => decide (x ≤ y)) (by simp) hbase hb (by rw [List.length_map]; exact h1) h2 h3
      rw [List.length_map, ← key_encs_sort] at ho
      have hr := Kd.R_of_own (enc := Value.string) (h1 := fun _ => rfl) (xs := key_sortS xs) (ok := ok) (v := .slice (some ⟨g, 0, none⟩) xs.length cap) (by rw [key_sortS_len]; exact ho) h.1
      exact hr
def key_has (out : List ByteArray) (x : ByteArray) : Bool := out.any fun y => decide (y.data.toList = x.data.toList)
def key_add (acc : List ByteArray) (x : ByteArray) : List ByteArray := if key_has acc x = true then acc else acc ++ [x]
def key_nub (l : List ByteArray) : List ByteArray := l.foldl key_add []
theorem key_has_snoc (out : List ByteArray) (x y : ByteArray) : key_has (out ++ [x]) y = (key_has out y || decide (x.data.toList = y.data.toList)) := by simp [key_has]
theorem key_nub_succ (l : List ByteArray) (i : Nat) (hi : i < l.length) : key_nub (l.take (i + 1)) = key_add (key_nub (l.take i)) (rdOf ByteArray.empty l i) := by
  unfold key_nub
  rw [List.take_succ_eq_append_getElem hi, List.foldl_append]
  simp [rdOf, hi]
theorem key_add_len (acc : List ByteArray) (x : ByteArray) : (key_add acc x).length ≤ acc.length + 1 := by
  unfold key_add
  split <;> simp
theorem key_foldl_len : ∀ (l acc : List ByteArray), (l.foldl key_add acc).length ≤ acc.length + l.length
  | [], acc => by simp
  | x :: l, acc => by
    have h1 := key_foldl_len l (key_add acc x)
    have h2 := key_add_len acc x
    simp only [List.foldl_cons, List.length_cons]
    omega
theorem key_nub_len (l : List ByteArray) : (key_nub l).length ≤ l.length := by
  have := key_foldl_len l []
  simpa [key_nub] using this
def key_met (D : DataW Unit) (out : List ByteArray) : Prop := Go.Maps.IsMap D ∧ ∀ x : ByteArray, D.atKey (.string x.data.toList) (.lit (.bool false)) = .lit (.bool (key_has out x))
theorem key_met_none : key_met (.map []) [] := ⟨Go.Maps.isMap_empty, fun x => by simp [DataW.atKey, key_has]⟩
theorem key_met_put {D : DataW Unit} {out : List ByteArray} (h : key_met D out) (x : ByteArray) : key_met (D.put (.string x.data.toList) (.lit (.bool true))) (key_add out x) := by
  refine ⟨h.1.put _ _, fun y => ?_⟩
  by_cases e : y.data.toList = x.data.toList
  · rw [e, Go.Maps.atKey_put_same h.1 (k := .string x.data.toList) trivial]
    have : key_has (key_add out x) y = true := by
      unfold key_add
      split
      · rename_i hx
        simpa [key_has, e] using hx
      · rw [key_has_snoc, e]
        simp
    rw [this]
  · rw [Go.Maps.atKey_put_other (fun q => e (by injection q)), h.2 y]
    have : key_has (key_add out x) y = key_has out y := by
      unfold key_add
      split
      · rfl
      · rw [key_has_snoc]
        simp [Ne.symm e]
    rw [this]
theorem key_zero (w : World) : (zeroValue 4).run Tryd.prog w = .ok (.bool false) w := by kernel_rfl
set_option maxRecDepth 100000 in
set_option maxHeartbeats 1000000 in
theorem key_sorted_walk (A : Option Addr) (c : Nat) (l : List ByteArray) (w : World) (hC : Kd.C Kd.string w A l.length l) (hl : l.length < 1000000000000) (hs : ∀ x ∈ l, x.size ≤ maxLen) :
    Calls Tryd.prog 87 #[.slice A l.length c] w fun e w' => ∃ v : Value, e = .returned v ∧ Kd.R Kd.string 23 w' w.heap.size (fun _ => True) v (key_sortS (key_nub l)) ∧ Below w.heap.size w w' := by
  have hmm := @run_makeMap Tryd.prog
  have HC := Aside0.mk hC
  have HS := Aside0.mk hs
  clear hC hs
  go_enter Tryd.func87, Tryd.ntmps87
  go_wp2
  have m0 := Aside0.mk (World.ownsMap_made w Tryd.prog 23 (plainElem (H := Unit) Tryd.prog 4))
  have r0 := Aside0.mk (Kd.R_nil Kd.string 23 (w.alloc (.map #[] 0)) w.heap.size (fun k => k ≠ w.heap.size))
  have b0 := Aside0.mk (below_alloc (Below.refl w.heap.size w) (.map #[] 0))
  clear hmm
  go_loopg [4, 10] (l.length) (fun g v4 v10 wr => ∃ (i : Nat) (D : DataW Unit), v10 = .int .i64 i ∧ Aside0 (i + g = l.length) ∧ Aside0 (Kd.R Kd.string 23 wr w.heap.size (fun k => k ≠ w.heap.size) v4 (key_nub (l.take i))) ∧ Aside0 (wr.ownsMap Tryd.prog 23 (plainElem (H := Unit) Tryd.prog 4) w.heap.size i D) ∧ Aside0 (key_met D (key_nub (l.take i))) ∧ Aside0 (Below w.heap.size w wr))
  case atStart => exact ⟨0, .map [], rfl, ⟨by omega⟩, r0, m0, ⟨key_met_none⟩, b0⟩
  case round =>
    clear m0 r0 b0
    obtain ⟨i, D, rfl, HG, HR, HM, HD, HB⟩ := hrel
    have hle : i ≤ l.length := by have := HG.out; omega
    by_cases hi : i < l.length
    · have hi' : (i : Int) < (l.length : Int) := by omega
      obtain ⟨ad, rfl, hc⟩ := Kd.at_string (Kd.C_below HC.out HB.out) (i : Int) (by omega) (by omega)
      simp only [Int.toNat_natCast] at hc
      have hsx : (rdOf ByteArray.empty l i).size ≤ maxLen := HS.out _ (by simp [rdOf, hi])
      have hsucc := key_nub_succ l i hi
      obtain ⟨x, hx⟩ : ∃ x, rdOf ByteArray.empty l i = x := ⟨_, rfl⟩
      have hx' : rdOf ByteArray.empty l ((i : Nat) : Int) = x := hx
      rw [hx'] at hc hsx hsucc
      clear hx hx'
      have hkey : keyOf Tryd.prog 23 (.string x) = some (.string x.data.toList) := Go.WideMaps.keyOf_string_mk Tryd.underlying23 hsx
      have hlen : (key_nub (l.take i)).length ≤ i := by
        have e := key_nub_len (l.take i)
        rw [List.length_take] at e
        omega
      have hBl : w.heap.size < wr.heap.size := HM.out.lt
      have HSU := Aside0.mk hsucc
      have HKEY := Aside0.mk hkey
      clear hsucc hkey hsx
      obtain ⟨g', rfl⟩ : ∃ g', gk = g' + 1 := ⟨gk - 1, by have := HG.out; omega⟩
      cases hhas : key_has (key_nub (l.take i)) x
      · have hat := HD.out.2 x
        rw [hhas] at hat
        have HAT := Aside0.mk hat
        have HH := Aside0.mk hhas
        clear hat hhas
        have HR0 := HR
        obtain ⟨out, hout⟩ : ∃ out, key_nub (l.take i) = out := ⟨_, rfl⟩
        rw [hout] at HR HSU hlen HD HH
        clear hout HR0
        go_wp2_with (first | (at_lookup; refine wpList_lookup_own_bool _ rfl _ _ 156 rfl 23 4 (Go.Maps.string_keyed Tryd.underlying23) Tryd.underlying156 Tryd.underlying4 (key_zero _) w.heap.size i D rfl HM.out _ _ rfl HKEY.out false HAT.out ?_) | ((with_reducible refine gate_builtin (b := .append) (xs := #[.tmp 18, .tmp 20]) rfl ?_); at_builtin; refine Kd.R_append Kd.string (w0 := w) w.heap.size rfl (.tmp 18) (.tmp 20) 88 23 (.string ⟨#[]⟩) 16 rfl Tryd.underlying88 info23 rfl (by decide) (by omega) u4 out x [.string x] (fun k => k ≠ w.heap.size) (fun _ => False) rfl rfl ?aP (fun _ hk => hk.elim) ?aF ?aO ?aB ?aS ?aL ?_; (case aP => exact rfl); (case aB => exact HB.out); (case aO => exact HR.out); (case aF => intro k hk; omega); (case aS => omega); (case aL => omega); intro v5 w5 ho hb hg hat; have HO5 := Aside0.mk ho; have HB5 := Aside0.mk hb; have HG5 := Aside0.mk hg; clear ho hb hg hat) | (at_mapUpdate; refine wpList_mapUpdate_own _ rfl _ _ _ 156 rfl 23 4 (Go.Maps.string_keyed Tryd.underlying23) Tryd.underlying156 _ w.heap.size i D rfl (HM.out.kept HG5.out (fun e => HR.out.1 _ e.symm rfl)) (by unfold maxLen; omega) _ _ _ rfl rfl HKEY.out _ [] (plainElem_bool Tryd.underlying4 true) ?_; intro w6 hm6 hg6; have HM6 := Aside0.mk hm6; have HG6 := Aside0.mk hg6; clear hm6 hg6))
        go_roundg g'
        case measure => omega
        case rel =>
          have e1 : key_nub (l.take (i + 1)) = out ++ [x] := by rw [HSU.out, key_add, if_neg (by rw [HH.out]; decide)]
          have e2 : key_add out x = out ++ [x] := by rw [key_add, if_neg (by rw [HH.out]; decide)]
          refine ⟨i + 1, _, by go_num, ⟨by have := HG.out; omega⟩, ⟨?_⟩, HM6, ⟨?_⟩, ⟨pw_below_grown HB5.out _ HB5.out.size HG6.out (fun k hk => by cases hk; exact Nat.le_refl _)⟩⟩
          · rw [e1]
            exact Kd.R_grown HO5.out HG6.out (fun k hk e => hk (Option.some.inj e))
          · rw [e1, ← e2]
            exact key_met_put HD.out x
      · have hat := HD.out.2 x
        rw [hhas] at hat
        have HAT := Aside0.mk hat
        have HH := Aside0.mk hhas
        clear hat hhas
        go_wp2_with (first | (at_lookup; refine wpList_lookup_own_bool _ rfl _ _ 156 rfl 23 4 (Go.Maps.string_keyed Tryd.underlying23) Tryd.underlying156 Tryd.underlying4 (key_zero _) w.heap.size i D rfl HM.out _ _ rfl HKEY.out true HAT.out ?_) | (at_mapUpdate; refine wpList_mapUpdate_own _ rfl _ _ _ 156 rfl 23 4 (Go.Maps.string_keyed Tryd.underlying23) Tryd.underlying156 _ w.heap.size i D rfl HM.out (by unfold maxLen; omega) _ _ _ rfl rfl HKEY.out _ [] (plainElem_bool Tryd.underlying4 true) ?_; intro w6 hm6 hg6; have HM6 := Aside0.mk hm6; have HG6 := Aside0.mk hg6; clear hm6 hg6))
        go_roundg g'
        case measure => omega
        case rel =>
          have e1 : key_nub (l.take (i + 1)) = key_nub (l.take i) := by rw [HSU.out, key_add, if_pos HH.out]
          have e2 : key_add (key_nub (l.take i)) x = key_nub (l.take i) := by rw [key_add, if_pos HH.out]
          refine ⟨i + 1, _, by go_num, ⟨by have := HG.out; omega⟩, ⟨?_⟩, HM6, ⟨?_⟩, ⟨pw_below_grown HB.out _ HB.out.size HG6.out (fun k hk => by cases hk; exact Nat.le_refl _)⟩⟩
          · rw [e1]
            exact Kd.R_grown HR.out HG6.out (fun k hk e => hk (Option.some.inj e))
          · rw [e1, ← e2]
            exact key_met_put HD.out x
    · have hi' : ¬ (i : Int) < (l.length : Int) := by omega
      have ht : l.take i = l := List.take_of_length_le (by omega)
      rw [ht] at HR
      have hnl := key_nub_len l
      have HBs : w.heap.size ≤ wr.heap.size := HB.out.size
      go_wp2_with (go_at_call 119; refine (key_sort_calls u4 (key_nub l) _ w.heap.size _ HR.out (by omega)).mono ?_; rintro e w7 ⟨rfl, hr7, hg7⟩; have HR7 := Aside0.mk hr7; have HG7 := Aside0.mk hg7; clear hr7 hg7)
      go_ret
      exact ⟨_, rfl, Kd.R_mono HR7.out (fun _ _ => trivial), pw_below_grown HB.out _ HBs HG7.out (fun k hk => ((Kd.R_bound HR.out).1 k hk).2.1)⟩
def key_sorted.ok (l : List ByteArray) : Bool := decide (l.length < 1000000000000) && l.all (fun x => decide (x.size ≤ 9223372036854775807))
def api_Key_87.f (l : List ByteArray) : Option (List ByteArray) := if key_sorted.ok l = true then some (key_sortS (key_nub l)) else none
theorem api_Key_87.calls (A : Option Addr) (c : Nat) (l r : List ByteArray) (w : World) (hC : Kd.C Kd.string w A l.length l) (hc : l.length ≤ c) (h : api_Key_87.f l = some r) :
    Calls Tryd.prog 87 #[.slice A l.length c] w fun e w' => ∃ v : Value, e = .returned v ∧ Kd.R Kd.string 23 w' w.heap.size (fun _ => True) v r ∧ Below w.heap.size w w' := by
  unfold api_Key_87.f at h
  split at h
  · rename_i hok
    have e := Option.some.inj h
    subst e
    have h2 : l.length < 1000000000000 ∧ ∀ x ∈ l, x.size ≤ 9223372036854775807 := by simpa [key_sorted.ok] using hok
    exact key_sorted_walk A c l w hC h2.1 (fun x hx => h2.2 x hx)
  · cases h
end Go.Proofs.YtbclnkhcnclfoaaDoor.Q
namespace Go.Proofs.YtbclnkhcnclfoaaDoor.Q
open Go.RowKit Go.Proofs.YtbclnkhcnclfoaaDoorW.PrintWords Go.Proofs.YtbclnkhcnclfoaaDoorW.PrintLast Go.Proofs.YtbclnkhcnclfoaaDoorW.PrintMore
attribute [local go_sem] max2_int min2_int max_two min_two max_three min_three max_four min_four   -- for this text's walks alone
set_option linter.unusedVariables false
set_option linter.unusedSimpArgs false
/-! ### key_Sort: function 52 -/
def key_Sort.f (l0 : List ByteArray) : Option (List ByteArray) := (api_Key_87.f l0).bind fun t632 => (some t632)
set_option maxHeartbeats 8000000 in
set_option maxRecDepth 100000 in
theorem key_Sort.calls (A0 : Option Addr) (c0 : Nat) (l0 : List ByteArray) (r : List ByteArray) (w : World) (hr0 : Kd.C Kd.string w A0 l0.length l0) (hc0 : l0.length ≤ c0) (h : key_Sort.f l0 = some r) :
    Calls Tryd.prog 52 #[.slice A0 l0.length c0] w fun e w' => ∃ v0_ : Value, e = .returned (v0_) ∧ Kd.R Kd.string 23 w' w.heap.size (fun _ => True) v0_ r ∧ Below w.heap.size w w' := by
  have HR0 := Aside0.mk hr0
  have HC0 := Aside0.mk hc0
  clear hr0 hc0
  have HB := Aside0.mk (Below.refl w.heap.size w)
  have H : ((api_Key_87.f l0).bind fun t632 => (some t632)) = some r := h
  clear h
  replace H := Option.bind_eq_some_iff.mp H
  obtain ⟨t632, A20, H⟩ := H
  replace H : (some t632) = some r := H
  have A2 := Aside0.mk A20
  clear A20
  obtain rfl := Option.some.inj H
  go_enter Tryd.func52, Tryd.ntmps52
  go_wp2_with (first | ((with_reducible refine gate_callee (f := 87) rfl ?_); refine goesL_ (some 4) rfl rfl Tryd.func87 (by kernel_rfl) rfl #[.slice A0 l0.length c0] rfl (by (try simp only [List.map_toArray, List.map_cons, List.map_nil]); first | done | rfl | (simp only [List.length_drop, List.length_take]; rfl)) ?_; (with_reducible refine (api_Key_87.calls _ _ l0 t632 _ ?side1 ?side2 A2.out).mono ?_); (case side1 => repeat (first | exact HR0.out | (with_reducible refine Kd.C_alloc ?_ _) | (with_reducible refine Kd.C_drewN ?_ _) | (with_reducible refine Kd.C_drew ?_))); (case side2 => exact HC0.out); rintro e w3 ⟨v633, rfl, ho0, hb⟩; refine ⟨_, rfl, ?_⟩; have n0_ := Aside0.mk (Kd.R_lower ho0 (below_size (by repeat (first | (with_reducible first | exact HB.out | apply below_alloc | apply pw_below_drewN | apply below_drew1) | exact HB.out)))); have n1_ := Aside0.mk (below_step (by repeat (first | (with_reducible first | exact HB.out | apply below_alloc | apply pw_below_drewN | apply below_drew1) | exact HB.out)) hb); clear HB; have HO634 := n0_; have HB := n1_; clear n0_ n1_; (try clear hb); (try clear hb2); (try clear hk); (try clear hi); (try clear ho0)))
  go_ret
  exact ⟨_, by first | rfl | (simp [errW_none, errW_some] <;> rfl) | (simp [*, errW_none, errW_some] <;> rfl), by (with_reducible repeat (first | apply Kd.R_alloc | apply Kd.R_drewN | apply Kd.R_drew)); exact HO634.out, by repeat (first | (with_reducible first | exact HB.out | apply below_alloc | apply pw_below_drewN | apply below_drew1) | exact HB.out)⟩
end Go.Proofs.YtbclnkhcnclfoaaDoor.Q
namespace Go.Proofs.YtbclnkhcnclfoaaDoor.Q
open Go.RowKit Go.Proofs.YtbclnkhcnclfoaaDoorW.PrintWords Go.Proofs.YtbclnkhcnclfoaaDoorW.PrintLast Go.Proofs.YtbclnkhcnclfoaaDoorW.PrintMore
attribute [local go_sem] max2_int min2_int max_two min_two max_three min_three max_four min_four   -- for this text's walks alone
set_option linter.unusedVariables false
set_option linter.unusedSimpArgs false
/-! ### api_Key_88: function 88 -/
def api_Key_88.l0 : Nat → List ByteArray → ByteArray → Int → Int → Option (Int)
  | 0, _, _, _, _ => none
  | k + 1, x0, x1, x7, x8 => if x8 < x7 then (if 0 ≤ x8 then (if x8 < (x0.length : Int) then (if x1.toList = (rdOf ByteArray.empty x0 x8).toList then (some x8) else (api_Key_88.l0 k x0 x1 x7 (wrap64 (x8 + 1)))) else (none)) else (none)) else (some (-1))
def api_Key_88.f (k : Nat) (l0 : List ByteArray) (a1 : ByteArray) : Option (Int) := api_Key_88.l0 k l0 a1 (l0.length : Int) 0
theorem api_Key_88.mono_l : ∀ k, (∀ y0 y1 y2 y3, LeO (api_Key_88.l0 k y0 y1 y2 y3) (api_Key_88.l0 (k + 1) y0 y1 y2 y3))
  | 0 => fun _ _ _ _ r h => by simp [api_Key_88.l0] at h
  | k + 1 => by
    have ih0 := api_Key_88.mono_l k
    · intro y0 y1 y2 y3
      unfold api_Key_88.l0
      repeat' first
      | (with_reducible exact ih0 _ _ _ _)
      | (with_reducible exact LeO.refl _)
      | (with_reducible exact LeO.none _)
      | (with_reducible refine LeO.ite ?_ ?_)
      | (with_reducible refine LeO.bind ?_ (fun _ => ?_))
      | exact ih0 _ _ _ _
      | exact LeO.none _
      | refine LeO.ite ?_ ?_
      | refine LeO.bind ?_ (fun _ => ?_)
theorem api_Key_88.mono : ∀ a0 a1 k, LeO (api_Key_88.f k a0 a1) (api_Key_88.f (k + 1) a0 a1) := by
  intro a0 a1 k
  have ih0 := api_Key_88.mono_l k
  unfold api_Key_88.f
  repeat' first
      | (with_reducible exact ih0 _ _ _ _)
      | (with_reducible exact LeO.refl _)
      | (with_reducible exact LeO.none _)
      | (with_reducible refine LeO.ite ?_ ?_)
      | (with_reducible refine LeO.bind ?_ (fun _ => ?_))
      | exact ih0 _ _ _ _
      | exact LeO.none _
      | refine LeO.ite ?_ ?_
      | refine LeO.bind ?_ (fun _ => ?_)
set_option maxHeartbeats 8000000 in
set_option maxRecDepth 100000 in
theorem api_Key_88.calls (k : Nat) (A0 : Option Addr) (c0 : Nat) (l0 : List ByteArray) (a1 : ByteArray) (r : Int) (w : World) (hr0 : Kd.C Kd.string w A0 l0.length l0) (hc0 : l0.length ≤ c0) (h : api_Key_88.f k l0 a1 = some r) :
    Calls Tryd.prog 88 #[.slice A0 l0.length c0, .string a1] w fun e w' => e = .returned (.int .i64 r) ∧ Drawn0 w w' := by
  have HR0 := Aside0.mk hr0
  have HC0 := Aside0.mk hc0
  clear hr0 hc0
  have H : (api_Key_88.l0 k l0 a1 (l0.length : Int) 0) = some r := h
  clear h
  have H' := Aside0.mk H
  clear H
  go_enter Tryd.func88, Tryd.ntmps88
  go_wp2
  go_loopg [8] k (fun kq v8 w' => ∃ (x8_1 : Int), v8 = .int .i64 x8_1 ∧ Aside0 (api_Key_88.l0 kq l0 a1 (l0.length : Int) x8_1 = some r) ∧ Aside0 (kq ≤ k) ∧ Drawn0 w w')
  case atStart => exact ⟨(0), (by first | rfl | (simp; done) | (simp [*]; done)), H', ⟨Nat.le_refl _⟩, by repeat (first | exact Drawn0.refl _ | apply Drawn0.step)⟩
  case round =>
    clear H'
    try clear p2
    obtain ⟨x8_1, rfl, HA, HK1, ⟨m1, rfl⟩⟩ := hrel
    cases gk with
    | zero => exact absurd HA.out (by simp [api_Key_88.l0])
    | succ k1 =>
      have H := HA.out
      clear HA
      simp only [api_Key_88.l0] at H
      by_cases c3 : x8_1 < (l0.length : Int)
      · rw [if_pos c3] at H
        have c3b0 : decide (x8_1 < (l0.length : Int)) = true := decide_eq_true c3
        clear c3
        by_cases c4 : 0 ≤ x8_1
        · rw [if_pos c4] at H
          have c4b0 : decide (0 ≤ x8_1) = true := decide_eq_true c4
          clear c4
          by_cases c5 : x8_1 < (l0.length : Int)
          · rw [if_pos c5] at H
            have c5b0 : decide (x8_1 < (l0.length : Int)) = true := decide_eq_true c5
            clear c5
            by_cases c6 : a1.toList = (rdOf ByteArray.empty l0 x8_1).toList
            · rw [if_pos c6] at H
              have c6b0 : (a1.toList == (rdOf ByteArray.empty l0 x8_1).toList) = true := beq_iff_eq.mpr c6
              have c6b1 : (a1.toList != (rdOf ByteArray.empty l0 x8_1).toList) = false := bne_eq_false_iff_eq.mpr c6
              clear c6
              obtain rfl := Option.some.inj H
              have p635 : 0 ≤ (x8_1 : Int) := of_decide_eq_true (by first | (with_reducible assumption) | assumption)
              have q635 : x8_1 < (l0.length : Int) := of_decide_eq_true (by first | (with_reducible assumption) | assumption)
              obtain ⟨ad635, e635, hx635_0⟩ := Kd.at_string HR0.out x8_1 p635 q635
              cases e635
              replace p635 := eq_true p635
              replace q635 := eq_true q635
              go_wp2
              go_ret
              exact ⟨by first | rfl | (simp; done) | (simp [*]; done), by repeat (first | exact Drawn0.refl _ | apply Drawn0.step)⟩
            · rw [if_neg c6] at H
              have c6b0 : (a1.toList == (rdOf ByteArray.empty l0 x8_1).toList) = false := beq_eq_false_iff_ne.mpr c6
              have c6b1 : (a1.toList != (rdOf ByteArray.empty l0 x8_1).toList) = true := bne_iff_ne.mpr c6
              have H' := Aside0.mk H
              clear H
              have p635 : 0 ≤ (x8_1 : Int) := of_decide_eq_true (by first | (with_reducible assumption) | assumption)
              have q635 : x8_1 < (l0.length : Int) := of_decide_eq_true (by first | (with_reducible assumption) | assumption)
              obtain ⟨ad635, e635, hx635_0⟩ := Kd.at_string HR0.out x8_1 p635 q635
              cases e635
              replace p635 := eq_true p635
              replace q635 := eq_true q635
              go_wp2
              go_roundg k1
              case measure => have := HK1.out; omega
              case rel => exact ⟨(wrap64 (x8_1 + 1)), (by first | rfl | (simp; done) | (simp [*]; done)), H', ⟨by have := HK1.out; omega⟩, by repeat (first | exact Drawn0.refl _ | apply Drawn0.step)⟩
          · rw [if_neg c5] at H
            exact absurd H (by simp)
        · rw [if_neg c4] at H
          exact absurd H (by simp)
      · rw [if_neg c3] at H
        have c3b0 : decide (x8_1 < (l0.length : Int)) = false := decide_eq_false c3
        clear c3
        obtain rfl := Option.some.inj H
        go_wp2
        go_ret
        exact ⟨by first | rfl | (simp; done) | (simp [*]; done), by repeat (first | exact Drawn0.refl _ | apply Drawn0.step)⟩
end Go.Proofs.YtbclnkhcnclfoaaDoor.Q
namespace Go.Proofs.YtbclnkhcnclfoaaDoor.Q
open Go.RowKit Go.Proofs.YtbclnkhcnclfoaaDoorW.PrintWords Go.Proofs.YtbclnkhcnclfoaaDoorW.PrintLast Go.Proofs.YtbclnkhcnclfoaaDoorW.PrintMore
attribute [local go_sem] max2_int min2_int max_two min_two max_three min_three max_four min_four   -- for this text's walks alone
set_option linter.unusedVariables false
set_option linter.unusedSimpArgs false
/-! ### key_Find: function 53 -/
def key_Find.f (k : Nat) (l0 : List ByteArray) (a1 : ByteArray) : Option (Int) := (api_Key_88.f k l0 a1).bind fun t636 => (some t636)
theorem key_Find.mono : ∀ a0 a1 k, LeO (key_Find.f k a0 a1) (key_Find.f (k + 1) a0 a1) := by
  intro a0 a1 k
  unfold key_Find.f
  repeat' first
      | (with_reducible exact api_Key_88.mono _ _ _)
      | (with_reducible exact LeO.refl _)
      | (with_reducible exact LeO.none _)
      | (with_reducible refine LeO.ite ?_ ?_)
      | (with_reducible refine LeO.bind ?_ (fun _ => ?_))
      | exact api_Key_88.mono _ _ _
      | exact LeO.none _
      | refine LeO.ite ?_ ?_
      | refine LeO.bind ?_ (fun _ => ?_)
set_option maxHeartbeats 8000000 in
set_option maxRecDepth 100000 in
theorem key_Find.calls (k : Nat) (A0 : Option Addr) (c0 : Nat) (l0 : List ByteArray) (a1 : ByteArray) (r : Int) (w : World) (hr0 : Kd.C Kd.string w A0 l0.length l0) (hc0 : l0.length ≤ c0) (h : key_Find.f k l0 a1 = some r) :
    Calls Tryd.prog 53 #[.slice A0 l0.length c0, .string a1] w fun e w' => e = .returned (.int .i64 r) ∧ Drawn0 w w' := by
  have HR0 := Aside0.mk hr0
  have HC0 := Aside0.mk hc0
  clear hr0 hc0
  have H : ((api_Key_88.f k l0 a1).bind fun t636 => (some t636)) = some r := h
  clear h
  replace H := Option.bind_eq_some_iff.mp H
  obtain ⟨t636, A30, H⟩ := H
  replace H : (some t636) = some r := H
  have A3 := Aside0.mk A30
  clear A30
  obtain rfl := Option.some.inj H
  go_enter Tryd.func53, Tryd.ntmps53
  go_wp2_with (first | ((with_reducible refine gate_callee (f := 88) rfl ?_); refine goesL_ (some 7) rfl rfl Tryd.func88 (by kernel_rfl) rfl #[.slice A0 l0.length c0, .string a1] rfl (by (try simp only [List.map_toArray, List.map_cons, List.map_nil]); first | done | rfl | (simp only [List.length_drop, List.length_take]; rfl)) ?_; (with_reducible refine (api_Key_88.calls k _ _ l0 a1 t636 _ ?side1 ?side2 A3.out).mono ?_); (case side1 => repeat (first | exact HR0.out | (with_reducible refine Kd.C_alloc ?_ _) | (with_reducible refine Kd.C_drewN ?_ _) | (with_reducible refine Kd.C_drew ?_))); (case side2 => exact HC0.out); rintro e w' ⟨rfl, ⟨nd, rfl⟩⟩; refine ⟨_, rfl, ?_⟩))
  go_ret
  exact ⟨by first | rfl | (simp; done) | (simp [*]; done), by repeat (first | exact Drawn0.refl _ | apply Drawn0.step)⟩
end Go.Proofs.YtbclnkhcnclfoaaDoor.Q
namespace Go.Proofs.YtbclnkhcnclfoaaDoor.Q
open Go.RowKit Go.Proofs.YtbclnkhcnclfoaaDoorW.PrintWords Go.Proofs.YtbclnkhcnclfoaaDoorW.PrintLast Go.Proofs.YtbclnkhcnclfoaaDoorW.PrintMore
attribute [local go_sem] max2_int min2_int max_two min_two max_three min_three max_four min_four   -- for this text's walks alone
set_option linter.unusedVariables false
set_option linter.unusedSimpArgs false
/-! ### palimpsestlaw07_heads: function 19 -/
def palimpsestlaw07_heads.f (k : Nat)  : Option (Bool) := (key_Of.f k 0 ([] : List Int)).bind fun t637 => ((key_Bytes.f t637).bind fun bt638 => ((key_From.f k bt638.1).bind fun bt642 => ((key_Bytes.f (⟨#[120]⟩ : ByteArray)).bind fun bt644 => (if (t637.size : Int) = 64 then (if 0 ≤ 8 then (if 8 ≤ (t637.size : Int) then (if (t637.extract 0 8).toList = ([54, 101, 51, 52, 48, 98, 57, 99] : List UInt8) then (if bt638.2 = 0 then (if bt642.2 = 0 then (if bt642.1.toList = t637.toList then (if bt644.2 = 70 then ((key_Sort.f (([(⟨#[98]⟩ : ByteArray), (⟨#[97]⟩ : ByteArray), (⟨#[98]⟩ : ByteArray)] : List ByteArray))).bind fun t651 => ((palimpsestref07_Same.f k t651 (([(⟨#[97]⟩ : ByteArray), (⟨#[98]⟩ : ByteArray)] : List ByteArray))).bind fun t657 => (if t657 = true then ((key_Find.f k (([(⟨#[97]⟩ : ByteArray), (⟨#[98]⟩ : ByteArray)] : List ByteArray)) (⟨#[98]⟩ : ByteArray)).bind fun t661 => (if t661 = 1 then ((key_Find.f k ([] : List ByteArray) (⟨#[]⟩ : ByteArray)).bind fun t662 => (some (t662 == (-1)))) else (some false))) else (some false)))) else (some false)) else (some false)) else (some false)) else (some false)) else (some false)) else (none)) else (none)) else (some false)))))
theorem palimpsestlaw07_heads.mono : ∀ k, LeO (palimpsestlaw07_heads.f k ) (palimpsestlaw07_heads.f (k + 1) ) := by
  intro  k
  unfold palimpsestlaw07_heads.f
  repeat' first
      | (with_reducible exact key_Find.mono _ _ _)
      | (with_reducible exact key_From.mono _ _)
      | (with_reducible exact key_Of.mono _ _ _)
      | (with_reducible exact palimpsestref07_Same.mono _ _ _)
      | (with_reducible exact LeO.refl _)
      | (with_reducible exact LeO.none _)
      | (with_reducible refine LeO.ite ?_ ?_)
      | (with_reducible refine LeO.bind ?_ (fun _ => ?_))
      | exact key_Find.mono _ _ _
      | exact key_From.mono _ _
      | exact key_Of.mono _ _ _
      | exact palimpsestref07_Same.mono _ _ _
      | exact LeO.none _
      | refine LeO.ite ?_ ?_
      | refine LeO.bind ?_ (fun _ => ?_)
set_option maxHeartbeats 8000000 in
set_option maxRecDepth 100000 in
theorem palimpsestlaw07_heads.calls (k : Nat)  (r : Bool) (w : World) (h : palimpsestlaw07_heads.f k  = some r) :
    Calls Tryd.prog 19 #[] w fun e w' => e = .returned (.bool r) ∧ Below w.heap.size w w' := by
  have HB := Aside0.mk (Below.refl w.heap.size w)
  have H : ((key_Of.f k 0 ([] : List Int)).bind fun t637 => ((key_Bytes.f t637).bind fun bt638 => ((key_From.f k bt638.1).bind fun bt642 => ((key_Bytes.f (⟨#[120]⟩ : ByteArray)).bind fun bt644 => (if (t637.size : Int) = 64 then (if 0 ≤ 8 then (if 8 ≤ (t637.size : Int) then (if (t637.extract 0 8).toList = ([54, 101, 51, 52, 48, 98, 57, 99] : List UInt8) then (if bt638.2 = 0 then (if bt642.2 = 0 then (if bt642.1.toList = t637.toList then (if bt644.2 = 70 then ((key_Sort.f (([(⟨#[98]⟩ : ByteArray), (⟨#[97]⟩ : ByteArray), (⟨#[98]⟩ : ByteArray)] : List ByteArray))).bind fun t651 => ((palimpsestref07_Same.f k t651 (([(⟨#[97]⟩ : ByteArray), (⟨#[98]⟩ : ByteArray)] : List ByteArray))).bind fun t657 => (if t657 = true then ((key_Find.f k (([(⟨#[97]⟩ : ByteArray), (⟨#[98]⟩ : ByteArray)] : List ByteArray)) (⟨#[98]⟩ : ByteArray)).bind fun t661 => (if t661 = 1 then ((key_Find.f k ([] : List ByteArray) (⟨#[]⟩ : ByteArray)).bind fun t662 => (some (t662 == (-1)))) else (some false))) else (some false)))) else (some false)) else (some false)) else (some false)) else (some false)) else (some false)) else (none)) else (none)) else (some false)))))) = some r := h
  clear h
  replace H := Option.bind_eq_some_iff.mp H
  obtain ⟨t637, A10, H⟩ := H
  replace H : ((key_Bytes.f t637).bind fun bt638 => ((key_From.f k bt638.1).bind fun bt642 => ((key_Bytes.f (⟨#[120]⟩ : ByteArray)).bind fun bt644 => (if (t637.size : Int) = 64 then (if 0 ≤ 8 then (if 8 ≤ (t637.size : Int) then (if (t637.extract 0 8).toList = ([54, 101, 51, 52, 48, 98, 57, 99] : List UInt8) then (if bt638.2 = 0 then (if bt642.2 = 0 then (if bt642.1.toList = t637.toList then (if bt644.2 = 70 then ((key_Sort.f (([(⟨#[98]⟩ : ByteArray), (⟨#[97]⟩ : ByteArray), (⟨#[98]⟩ : ByteArray)] : List ByteArray))).bind fun t651 => ((palimpsestref07_Same.f k t651 (([(⟨#[97]⟩ : ByteArray), (⟨#[98]⟩ : ByteArray)] : List ByteArray))).bind fun t657 => (if t657 = true then ((key_Find.f k (([(⟨#[97]⟩ : ByteArray), (⟨#[98]⟩ : ByteArray)] : List ByteArray)) (⟨#[98]⟩ : ByteArray)).bind fun t661 => (if t661 = 1 then ((key_Find.f k ([] : List ByteArray) (⟨#[]⟩ : ByteArray)).bind fun t662 => (some (t662 == (-1)))) else (some false))) else (some false)))) else (some false)) else (some false)) else (some false)) else (some false)) else (some false)) else (none)) else (none)) else (some false))))) = some r := H
  have A1 := Aside0.mk A10
  clear A10
  replace H := Option.bind_eq_some_iff.mp H
  obtain ⟨⟨t638, t639⟩, A20, H⟩ := H
  replace H : ((key_From.f k t638).bind fun bt642 => ((key_Bytes.f (⟨#[120]⟩ : ByteArray)).bind fun bt644 => (if (t637.size : Int) = 64 then (if 0 ≤ 8 then (if 8 ≤ (t637.size : Int) then (if (t637.extract 0 8).toList = ([54, 101, 51, 52, 48, 98, 57, 99] : List UInt8) then (if t639 = 0 then (if bt642.2 = 0 then (if bt642.1.toList = t637.toList then (if bt644.2 = 70 then ((key_Sort.f (([(⟨#[98]⟩ : ByteArray), (⟨#[97]⟩ : ByteArray), (⟨#[98]⟩ : ByteArray)] : List ByteArray))).bind fun t651 => ((palimpsestref07_Same.f k t651 (([(⟨#[97]⟩ : ByteArray), (⟨#[98]⟩ : ByteArray)] : List ByteArray))).bind fun t657 => (if t657 = true then ((key_Find.f k (([(⟨#[97]⟩ : ByteArray), (⟨#[98]⟩ : ByteArray)] : List ByteArray)) (⟨#[98]⟩ : ByteArray)).bind fun t661 => (if t661 = 1 then ((key_Find.f k ([] : List ByteArray) (⟨#[]⟩ : ByteArray)).bind fun t662 => (some (t662 == (-1)))) else (some false))) else (some false)))) else (some false)) else (some false)) else (some false)) else (some false)) else (some false)) else (none)) else (none)) else (some false)))) = some r := H
  have A2 := Aside0.mk A20
  clear A20
  replace H := Option.bind_eq_some_iff.mp H
  obtain ⟨⟨t642, t643⟩, A30, H⟩ := H
  replace H : ((key_Bytes.f (⟨#[120]⟩ : ByteArray)).bind fun bt644 => (if (t637.size : Int) = 64 then (if 0 ≤ 8 then (if 8 ≤ (t637.size : Int) then (if (t637.extract 0 8).toList = ([54, 101, 51, 52, 48, 98, 57, 99] : List UInt8) then (if t639 = 0 then (if t643 = 0 then (if t642.toList = t637.toList then (if bt644.2 = 70 then ((key_Sort.f (([(⟨#[98]⟩ : ByteArray), (⟨#[97]⟩ : ByteArray), (⟨#[98]⟩ : ByteArray)] : List ByteArray))).bind fun t651 => ((palimpsestref07_Same.f k t651 (([(⟨#[97]⟩ : ByteArray), (⟨#[98]⟩ : ByteArray)] : List ByteArray))).bind fun t657 => (if t657 = true then ((key_Find.f k (([(⟨#[97]⟩ : ByteArray), (⟨#[98]⟩ : ByteArray)] : List ByteArray)) (⟨#[98]⟩ : ByteArray)).bind fun t661 => (if t661 = 1 then ((key_Find.f k ([] : List ByteArray) (⟨#[]⟩ : ByteArray)).bind fun t662 => (some (t662 == (-1)))) else (some false))) else (some false)))) else (some false)) else (some false)) else (some false)) else (some false)) else (some false)) else (none)) else (none)) else (some false))) = some r := H
  have A3 := Aside0.mk A30
  clear A30
  replace H := Option.bind_eq_some_iff.mp H
  obtain ⟨⟨t644, t645⟩, A40, H⟩ := H
  replace H : (if (t637.size : Int) = 64 then (if 0 ≤ 8 then (if 8 ≤ (t637.size : Int) then (if (t637.extract 0 8).toList = ([54, 101, 51, 52, 48, 98, 57, 99] : List UInt8) then (if t639 = 0 then (if t643 = 0 then (if t642.toList = t637.toList then (if t645 = 70 then ((key_Sort.f (([(⟨#[98]⟩ : ByteArray), (⟨#[97]⟩ : ByteArray), (⟨#[98]⟩ : ByteArray)] : List ByteArray))).bind fun t651 => ((palimpsestref07_Same.f k t651 (([(⟨#[97]⟩ : ByteArray), (⟨#[98]⟩ : ByteArray)] : List ByteArray))).bind fun t657 => (if t657 = true then ((key_Find.f k (([(⟨#[97]⟩ : ByteArray), (⟨#[98]⟩ : ByteArray)] : List ByteArray)) (⟨#[98]⟩ : ByteArray)).bind fun t661 => (if t661 = 1 then ((key_Find.f k ([] : List ByteArray) (⟨#[]⟩ : ByteArray)).bind fun t662 => (some (t662 == (-1)))) else (some false))) else (some false)))) else (some false)) else (some false)) else (some false)) else (some false)) else (some false)) else (none)) else (none)) else (some false)) = some r := H
  have A4 := Aside0.mk A40
  clear A40
  by_cases c5 : (t637.size : Int) = 64
  · rw [if_pos c5] at H
    have c5b0 : ((t637.size : Int) == 64) = true := beq_iff_eq.mpr c5
    have c5b1 : ((t637.size : Int) != 64) = false := bne_eq_false_iff_eq.mpr c5
    clear c5
    by_cases c6 : 0 ≤ 8
    · rw [if_pos c6] at H
      have c6b0 := eq_true c6
      have c6b1 : decide (0 ≤ 8) = true := decide_eq_true c6
      clear c6
      by_cases c7 : 8 ≤ (t637.size : Int)
      · rw [if_pos c7] at H
        have c7b0 := eq_true c7
        have c7b1 : decide (8 ≤ (t637.size : Int)) = true := decide_eq_true c7
        clear c7
        by_cases c8 : (t637.extract 0 8).toList = ([54, 101, 51, 52, 48, 98, 57, 99] : List UInt8)
        · rw [if_pos c8] at H
          have c8b0 : ((t637.extract 0 8).toList == ([54, 101, 51, 52, 48, 98, 57, 99] : List UInt8)) = true := beq_iff_eq.mpr c8
          have c8b1 : ((t637.extract 0 8).toList != ([54, 101, 51, 52, 48, 98, 57, 99] : List UInt8)) = false := bne_eq_false_iff_eq.mpr c8
          clear c8
          by_cases c9 : t639 = 0
          · rw [if_pos c9] at H
            have c9b0 : (t639 == 0) = true := beq_iff_eq.mpr c9
            have c9b1 : (t639 != 0) = false := bne_eq_false_iff_eq.mpr c9
            clear c9
            by_cases c10 : t643 = 0
            · rw [if_pos c10] at H
              have c10b0 : (t643 == 0) = true := beq_iff_eq.mpr c10
              have c10b1 : (t643 != 0) = false := bne_eq_false_iff_eq.mpr c10
              clear c10
              by_cases c11 : t642.toList = t637.toList
              · rw [if_pos c11] at H
                have c11b0 : (t642.toList == t637.toList) = true := beq_iff_eq.mpr c11
                have c11b1 : (t642.toList != t637.toList) = false := bne_eq_false_iff_eq.mpr c11
                clear c11
                by_cases c12 : t645 = 70
                · rw [if_pos c12] at H
                  have c12b0 : (t645 == 70) = true := beq_iff_eq.mpr c12
                  have c12b1 : (t645 != 70) = false := bne_eq_false_iff_eq.mpr c12
                  clear c12
                  obtain ⟨y648, hy648⟩ : ∃ y_ : List ByteArray, y_ = (([(⟨#[98]⟩ : ByteArray), (⟨#[97]⟩ : ByteArray), (⟨#[98]⟩ : ByteArray)] : List ByteArray)) := ⟨_, rfl⟩
                  replace H : ((key_Sort.f y648).bind fun t651 => ((palimpsestref07_Same.f k t651 (([(⟨#[97]⟩ : ByteArray), (⟨#[98]⟩ : ByteArray)] : List ByteArray))).bind fun t657 => (if t657 = true then ((key_Find.f k (([(⟨#[97]⟩ : ByteArray), (⟨#[98]⟩ : ByteArray)] : List ByteArray)) (⟨#[98]⟩ : ByteArray)).bind fun t661 => (if t661 = 1 then ((key_Find.f k ([] : List ByteArray) (⟨#[]⟩ : ByteArray)).bind fun t662 => (some (t662 == (-1)))) else (some false))) else (some false)))) = some r := by first | (rw [hy648]; with_reducible exact H) | (have H2_ := (Option.bind_some _ _).symm.trans H; rw [hy648]; with_reducible exact H2_) | (have H2_ := (Option.bind_some _ _).symm.trans H; with_reducible exact H2_) | with_reducible exact H | (rw [hy648]; exact H) | exact H
                  have Ny648 := Aside0.mk hy648
                  clear hy648
                  replace H := Option.bind_eq_some_iff.mp H
                  obtain ⟨t651, A130, H⟩ := H
                  replace H : ((palimpsestref07_Same.f k t651 (([(⟨#[97]⟩ : ByteArray), (⟨#[98]⟩ : ByteArray)] : List ByteArray))).bind fun t657 => (if t657 = true then ((key_Find.f k (([(⟨#[97]⟩ : ByteArray), (⟨#[98]⟩ : ByteArray)] : List ByteArray)) (⟨#[98]⟩ : ByteArray)).bind fun t661 => (if t661 = 1 then ((key_Find.f k ([] : List ByteArray) (⟨#[]⟩ : ByteArray)).bind fun t662 => (some (t662 == (-1)))) else (some false))) else (some false))) = some r := H
                  have A13 := Aside0.mk A130
                  clear A130
                  obtain ⟨y654, hy654⟩ : ∃ y_ : List ByteArray, y_ = (([(⟨#[97]⟩ : ByteArray), (⟨#[98]⟩ : ByteArray)] : List ByteArray)) := ⟨_, rfl⟩
                  replace H : ((palimpsestref07_Same.f k t651 y654).bind fun t657 => (if t657 = true then ((key_Find.f k (([(⟨#[97]⟩ : ByteArray), (⟨#[98]⟩ : ByteArray)] : List ByteArray)) (⟨#[98]⟩ : ByteArray)).bind fun t661 => (if t661 = 1 then ((key_Find.f k ([] : List ByteArray) (⟨#[]⟩ : ByteArray)).bind fun t662 => (some (t662 == (-1)))) else (some false))) else (some false))) = some r := by first | (rw [hy654]; with_reducible exact H) | (have H2_ := (Option.bind_some _ _).symm.trans H; rw [hy654]; with_reducible exact H2_) | (have H2_ := (Option.bind_some _ _).symm.trans H; with_reducible exact H2_) | with_reducible exact H | (rw [hy654]; exact H) | exact H
                  have Ny654 := Aside0.mk hy654
                  clear hy654
                  replace H := Option.bind_eq_some_iff.mp H
                  obtain ⟨t657, A140, H⟩ := H
                  replace H : (if t657 = true then ((key_Find.f k (([(⟨#[97]⟩ : ByteArray), (⟨#[98]⟩ : ByteArray)] : List ByteArray)) (⟨#[98]⟩ : ByteArray)).bind fun t661 => (if t661 = 1 then ((key_Find.f k ([] : List ByteArray) (⟨#[]⟩ : ByteArray)).bind fun t662 => (some (t662 == (-1)))) else (some false))) else (some false)) = some r := H
                  have A14 := Aside0.mk A140
                  clear A140
                  by_cases c15 : t657 = true
                  · subst c15
                    have H1 : ((key_Find.f k (([(⟨#[97]⟩ : ByteArray), (⟨#[98]⟩ : ByteArray)] : List ByteArray)) (⟨#[98]⟩ : ByteArray)).bind fun t661 => (if t661 = 1 then ((key_Find.f k ([] : List ByteArray) (⟨#[]⟩ : ByteArray)).bind fun t662 => (some (t662 == (-1)))) else (some false))) = some r := by rw [if_pos rfl] at H; exact H
                    clear H
                    have H := H1
                    clear H1
                    obtain ⟨y658, hy658⟩ : ∃ y_ : List ByteArray, y_ = (([(⟨#[97]⟩ : ByteArray), (⟨#[98]⟩ : ByteArray)] : List ByteArray)) := ⟨_, rfl⟩
                    replace H : ((key_Find.f k y658 (⟨#[98]⟩ : ByteArray)).bind fun t661 => (if t661 = 1 then ((key_Find.f k ([] : List ByteArray) (⟨#[]⟩ : ByteArray)).bind fun t662 => (some (t662 == (-1)))) else (some false))) = some r := by first | (rw [hy658]; with_reducible exact H) | (have H2_ := (Option.bind_some _ _).symm.trans H; rw [hy658]; with_reducible exact H2_) | (have H2_ := (Option.bind_some _ _).symm.trans H; with_reducible exact H2_) | with_reducible exact H | (rw [hy658]; exact H) | exact H
                    have Ny658 := Aside0.mk hy658
                    clear hy658
                    replace H := Option.bind_eq_some_iff.mp H
                    obtain ⟨t661, A160, H⟩ := H
                    replace H : (if t661 = 1 then ((key_Find.f k ([] : List ByteArray) (⟨#[]⟩ : ByteArray)).bind fun t662 => (some (t662 == (-1)))) else (some false)) = some r := H
                    have A16 := Aside0.mk A160
                    clear A160
                    by_cases c17 : t661 = 1
                    · rw [if_pos c17] at H
                      have c17b0 : (t661 == 1) = true := beq_iff_eq.mpr c17
                      have c17b1 : (t661 != 1) = false := bne_eq_false_iff_eq.mpr c17
                      clear c17
                      replace H := Option.bind_eq_some_iff.mp H
                      obtain ⟨t662, A180, H⟩ := H
                      replace H : (some (t662 == (-1))) = some r := H
                      have A18 := Aside0.mk A180
                      clear A180
                      obtain rfl := Option.some.inj H
                      go_enter Tryd.func19, Tryd.ntmps19
                      go_wp2_with (first | ((with_reducible refine gate_callee (f := 20) rfl ?_); refine goesL_ (some 8) rfl rfl Tryd.func20 (by kernel_rfl) rfl #[.int .i64 0, .slice none 0 0] rfl (by (try simp only [List.map_toArray, List.map_cons, List.map_nil]); first | done | rfl | (simp only [List.length_drop, List.length_take]; rfl)) ?_; (refine (key_Of.calls k 0 _ _ ([] : List Int) t637 _ ?side1 ?side2 A1.out).mono ?_); (case side1 => exact Kd.C_nil _ _); (case side2 => exact Nat.le_refl _); rintro e w19 ⟨rfl, hb⟩; refine ⟨_, rfl, ?_⟩; have n0_ := Aside0.mk (below_step (by repeat (first | (with_reducible first | exact HB.out | apply below_alloc | apply pw_below_drewN | apply below_drew1) | exact HB.out)) hb); clear HB; have HB := n0_; clear n0_; (try clear hb); (try clear hb2); (try clear hk); (try clear hi)) | ((with_reducible refine gate_callee (f := 21) rfl ?_); refine goesL_ (some 11) rfl rfl Tryd.func21 (by kernel_rfl) rfl #[.string t637] rfl (by (try simp only [List.map_toArray, List.map_cons, List.map_nil]); first | done | rfl | (simp only [List.length_drop, List.length_take]; rfl)) ?_; (with_reducible refine (key_Bytes.calls t637 t638 t639 _ A2.out).mono ?_); rintro e w20 ⟨v640, rfl, ho0, hb⟩; refine ⟨_, rfl, ?_⟩; have n0_ := Aside0.mk (Kd.R_lower ho0 (below_size (by repeat (first | (with_reducible first | exact HB.out | apply below_alloc | apply pw_below_drewN | apply below_drew1) | exact HB.out)))); have n1_ := Aside0.mk (below_step (by repeat (first | (with_reducible first | exact HB.out | apply below_alloc | apply pw_below_drewN | apply below_drew1) | exact HB.out)) hb); clear HB; have HO641 := n0_; have HB := n1_; clear n0_ n1_; (try clear hb); (try clear hb2); (try clear hk); (try clear hi); (try clear ho0); obtain ⟨Ao21, co21, eo21⟩ := Kd.R_slice HO641.out; subst eo21) | ((with_reducible refine gate_callee (f := 23) rfl ?_); refine goesL_ (some 16) rfl rfl Tryd.func23 (by kernel_rfl) rfl #[.slice Ao21 t638.length co21] rfl (by (try simp only [List.map_toArray, List.map_cons, List.map_nil]); first | done | rfl | (simp only [List.length_drop, List.length_take]; rfl)) ?_; (with_reducible refine (key_From.calls k _ _ t638 t642 t643 _ ?side1 ?side2 A3.out).mono ?_); (case side1 => repeat (first | exact (Kd.R_reads' HO641.out).2.2 | (with_reducible refine Kd.C_alloc ?_ _) | (with_reducible refine Kd.C_drewN ?_ _) | (with_reducible refine Kd.C_drew ?_))); (case side2 => exact (Kd.R_reads' HO641.out).2.1); rintro e w22 ⟨rfl, hb⟩; refine ⟨_, rfl, ?_⟩; have n0_ := Aside0.mk (Kd.R_below (by (with_reducible repeat (first | apply Kd.R_alloc | apply Kd.R_drewN | apply Kd.R_drew)); exact HO641.out) hb); have n1_ := Aside0.mk (below_step (by repeat (first | (with_reducible first | exact HB.out | apply below_alloc | apply pw_below_drewN | apply below_drew1) | exact HB.out)) hb); clear HO641; clear HB; have HO641 := n0_; have HB := n1_; clear n0_ n1_; (try clear hb); (try clear hb2); (try clear hk); (try clear hi)) | ((with_reducible refine gate_callee (f := 21) rfl ?_); refine goesL_ (some 20) rfl rfl Tryd.func21 (by kernel_rfl) rfl #[.string (⟨#[120]⟩ : ByteArray)] rfl (by (try simp only [List.map_toArray, List.map_cons, List.map_nil]); first | done | rfl | (simp only [List.length_drop, List.length_take]; rfl)) ?_; (with_reducible refine (key_Bytes.calls (⟨#[120]⟩ : ByteArray) t644 t645 _ A4.out).mono ?_); rintro e w23 ⟨v646, rfl, ho0, hb⟩; refine ⟨_, rfl, ?_⟩; have n0_ := Aside0.mk (Kd.R_elder' (by (with_reducible repeat (first | apply Kd.R_alloc | apply Kd.R_drewN | apply Kd.R_drew)); exact HO641.out) (Kd.R_base ho0) hb); have n1_ := Aside0.mk (Kd.R_lower (Kd.R_new' ho0 (Kd.R_lt (by (with_reducible repeat (first | apply Kd.R_alloc | apply Kd.R_drewN | apply Kd.R_drew)); exact HO641.out))) (below_size (by repeat (first | (with_reducible first | exact HB.out | apply below_alloc | apply pw_below_drewN | apply below_drew1) | exact HB.out)))); have n2_ := Aside0.mk (below_step (by repeat (first | (with_reducible first | exact HB.out | apply below_alloc | apply pw_below_drewN | apply below_drew1) | exact HB.out)) hb); clear HO641; clear HB; have HO641 := n0_; have HO647 := n1_; have HB := n2_; clear n0_ n1_ n2_; (try clear hb); (try clear hb2); (try clear hk); (try clear hi); (try clear ho0)) | ((with_reducible refine gate_dst (N := 49) rfl ?_); (try (refine gate_guard (by rfl) ?_; dsimp only)); refine Kd.R_lit Kd.string _ 23 ?hg (N := 49) ?hd (xs := ([(⟨#[98]⟩ : ByteArray), (⟨#[97]⟩ : ByteArray), (⟨#[98]⟩ : ByteArray)] : List ByteArray)) (inner := [.string (⟨#[98]⟩ : ByteArray), .string (⟨#[97]⟩ : ByteArray), .string (⟨#[98]⟩ : ByteArray)]) (ok := fun _ => True) (okp := fun _ => True) ?hr ?hp (fun _ hk => hk) trivial (Below.refl _ _) (Nat.le_refl _) (by simp) ?_; (case hd => rfl); (case hg => rfl); (case hr => first | (go_simp; done) | (go_simp; rfl)); (case hp => exact (Reps.one (show Kd.M Kd.string _ _ _ (⟨#[98]⟩ : ByteArray) [.string (⟨#[98]⟩ : ByteArray)] from rfl) (Reps.one (show Kd.M Kd.string _ _ _ (⟨#[97]⟩ : ByteArray) [.string (⟨#[97]⟩ : ByteArray)] from rfl) (Reps.one (show Kd.M Kd.string _ _ _ (⟨#[98]⟩ : ByteArray) [.string (⟨#[98]⟩ : ByteArray)] from rfl) (Reps.none _ _))))); intro v649 w24 ho25 hb hg_ hnew_; clear hg_ hnew_; (first | rw [← Ny648.out] at ho25 | (simp only [Int.reduceToNat] at ho25; rw [← Ny648.out] at ho25)); have n0_ := Aside0.mk (Kd.R_below (by (with_reducible repeat (first | apply Kd.R_alloc | apply Kd.R_drewN | apply Kd.R_drew)); exact HO641.out) hb); have n1_ := Aside0.mk (Kd.R_below (by (with_reducible repeat (first | apply Kd.R_alloc | apply Kd.R_drewN | apply Kd.R_drew)); exact HO647.out) hb); have n2_ := Aside0.mk (Kd.R_lower ho25 (below_size (by repeat (first | (with_reducible first | exact HB.out | apply below_alloc | apply pw_below_drewN | apply below_drew1) | exact HB.out)))); have n3_ := Aside0.mk (below_step (by repeat (first | (with_reducible first | exact HB.out | apply below_alloc | apply pw_below_drewN | apply below_drew1) | exact HB.out)) hb); clear HO641; clear HO647; clear HB; have HO641 := n0_; have HO647 := n1_; have HO650 := n2_; have HB := n3_; clear n0_ n1_ n2_ n3_; clear hb ho25; obtain ⟨Ao26, co26, eo26⟩ := Kd.R_slice HO650.out; subst eo26) | (go_at_call 52; (with_reducible refine (key_Sort.calls _ _ y648 t651 _ ?side1 ?side2 A13.out).mono ?_); (case side1 => repeat (first | exact (Kd.R_reads' HO650.out).2.2 | (with_reducible refine Kd.C_alloc ?_ _) | (with_reducible refine Kd.C_drewN ?_ _) | (with_reducible refine Kd.C_drew ?_))); (case side2 => exact (Kd.R_reads' HO650.out).2.1); rintro e w27 ⟨v652, rfl, ho0, hb⟩; have n0_ := Aside0.mk (Kd.R_below (by (with_reducible repeat (first | apply Kd.R_alloc | apply Kd.R_drewN | apply Kd.R_drew)); exact HO641.out) hb); have n1_ := Aside0.mk (Kd.R_below (by (with_reducible repeat (first | apply Kd.R_alloc | apply Kd.R_drewN | apply Kd.R_drew)); exact HO647.out) hb); have n2_ := Aside0.mk (Kd.R_elder' (by (with_reducible repeat (first | apply Kd.R_alloc | apply Kd.R_drewN | apply Kd.R_drew)); exact HO650.out) (Kd.R_base ho0) hb); have n3_ := Aside0.mk (Kd.R_lower (Kd.R_new' ho0 (Kd.R_lt (by (with_reducible repeat (first | apply Kd.R_alloc | apply Kd.R_drewN | apply Kd.R_drew)); exact HO650.out))) (below_size (by repeat (first | (with_reducible first | exact HB.out | apply below_alloc | apply pw_below_drewN | apply below_drew1) | exact HB.out)))); have n4_ := Aside0.mk (below_step (by repeat (first | (with_reducible first | exact HB.out | apply below_alloc | apply pw_below_drewN | apply below_drew1) | exact HB.out)) hb); clear HO641; clear HO647; clear HO650; clear HB; have HO641 := n0_; have HO647 := n1_; have HO650 := n2_; have HO653 := n3_; have HB := n4_; clear n0_ n1_ n2_ n3_ n4_; (try clear hb); (try clear hb2); (try clear hk); (try clear hi); (try clear ho0)) | ((with_reducible refine gate_dst (N := 51) rfl ?_); (try (refine gate_guard (by rfl) ?_; dsimp only)); refine Kd.R_lit Kd.string _ 23 ?hg (N := 51) ?hd (xs := ([(⟨#[97]⟩ : ByteArray), (⟨#[98]⟩ : ByteArray)] : List ByteArray)) (inner := [.string (⟨#[97]⟩ : ByteArray), .string (⟨#[98]⟩ : ByteArray)]) (ok := fun _ => True) (okp := fun _ => True) ?hr ?hp (fun _ hk => hk) trivial (Below.refl _ _) (Nat.le_refl _) (by simp) ?_; (case hd => rfl); (case hg => rfl); (case hr => first | (go_simp; done) | (go_simp; rfl)); (case hp => exact (Reps.one (show Kd.M Kd.string _ _ _ (⟨#[97]⟩ : ByteArray) [.string (⟨#[97]⟩ : ByteArray)] from rfl) (Reps.one (show Kd.M Kd.string _ _ _ (⟨#[98]⟩ : ByteArray) [.string (⟨#[98]⟩ : ByteArray)] from rfl) (Reps.none _ _)))); intro v655 w28 ho29 hb hg_ hnew_; clear hg_ hnew_; (first | rw [← Ny654.out] at ho29 | (simp only [Int.reduceToNat] at ho29; rw [← Ny654.out] at ho29)); have n0_ := Aside0.mk (Kd.R_below (by (with_reducible repeat (first | apply Kd.R_alloc | apply Kd.R_drewN | apply Kd.R_drew)); exact HO641.out) hb); have n1_ := Aside0.mk (Kd.R_below (by (with_reducible repeat (first | apply Kd.R_alloc | apply Kd.R_drewN | apply Kd.R_drew)); exact HO647.out) hb); have n2_ := Aside0.mk (Kd.R_elder' (by (with_reducible repeat (first | apply Kd.R_alloc | apply Kd.R_drewN | apply Kd.R_drew)); exact HO650.out) (Kd.R_base ho29) hb); have n3_ := Aside0.mk (Kd.R_elder' (by (with_reducible repeat (first | apply Kd.R_alloc | apply Kd.R_drewN | apply Kd.R_drew)); exact HO653.out) (Kd.R_base ho29) hb); have n4_ := Aside0.mk (Kd.R_lower (Kd.R_new' (Kd.R_new' ho29 (Kd.R_lt (by (with_reducible repeat (first | apply Kd.R_alloc | apply Kd.R_drewN | apply Kd.R_drew)); exact HO650.out))) (Kd.R_lt (by (with_reducible repeat (first | apply Kd.R_alloc | apply Kd.R_drewN | apply Kd.R_drew)); exact HO653.out))) (below_size (by repeat (first | (with_reducible first | exact HB.out | apply below_alloc | apply pw_below_drewN | apply below_drew1) | exact HB.out)))); have n5_ := Aside0.mk (below_step (by repeat (first | (with_reducible first | exact HB.out | apply below_alloc | apply pw_below_drewN | apply below_drew1) | exact HB.out)) hb); clear HO641; clear HO647; clear HO650; clear HO653; clear HB; have HO641 := n0_; have HO647 := n1_; have HO650 := n2_; have HO653 := n3_; have HO656 := n4_; have HB := n5_; clear n0_ n1_ n2_ n3_ n4_ n5_; clear hb ho29; obtain ⟨Ao30, co30, eo30⟩ := Kd.R_slice HO653.out; subst eo30; obtain ⟨Ao31, co31, eo31⟩ := Kd.R_slice HO656.out; subst eo31) | (go_at_call 51; (with_reducible refine (palimpsestref07_Same.calls k _ _ t651 _ _ y654 true _ ?side1 ?side2 ?side3 ?side4 A14.out).mono ?_); (case side1 => repeat (first | exact (Kd.R_reads' HO653.out).2.2 | (with_reducible refine Kd.C_alloc ?_ _) | (with_reducible refine Kd.C_drewN ?_ _) | (with_reducible refine Kd.C_drew ?_))); (case side2 => exact (Kd.R_reads' HO653.out).2.1); (case side3 => repeat (first | exact (Kd.R_reads' HO656.out).2.2 | (with_reducible refine Kd.C_alloc ?_ _) | (with_reducible refine Kd.C_drewN ?_ _) | (with_reducible refine Kd.C_drew ?_))); (case side4 => exact (Kd.R_reads' HO656.out).2.1); rintro e w' ⟨rfl, ⟨nd, rfl⟩⟩) | ((with_reducible refine gate_dst (N := 55) rfl ?_); (try (refine gate_guard (by rfl) ?_; dsimp only)); refine Kd.R_lit Kd.string _ 23 ?hg (N := 55) ?hd (xs := ([(⟨#[97]⟩ : ByteArray), (⟨#[98]⟩ : ByteArray)] : List ByteArray)) (inner := [.string (⟨#[97]⟩ : ByteArray), .string (⟨#[98]⟩ : ByteArray)]) (ok := fun _ => True) (okp := fun _ => True) ?hr ?hp (fun _ hk => hk) trivial (Below.refl _ _) (Nat.le_refl _) (by simp) ?_; (case hd => rfl); (case hg => rfl); (case hr => first | (go_simp; done) | (go_simp; rfl)); (case hp => exact (Reps.one (show Kd.M Kd.string _ _ _ (⟨#[97]⟩ : ByteArray) [.string (⟨#[97]⟩ : ByteArray)] from rfl) (Reps.one (show Kd.M Kd.string _ _ _ (⟨#[98]⟩ : ByteArray) [.string (⟨#[98]⟩ : ByteArray)] from rfl) (Reps.none _ _)))); intro v659 w32 ho33 hb hg_ hnew_; clear hg_ hnew_; (first | rw [← Ny658.out] at ho33 | (simp only [Int.reduceToNat] at ho33; rw [← Ny658.out] at ho33)); have n0_ := Aside0.mk (Kd.R_below (by (with_reducible repeat (first | apply Kd.R_alloc | apply Kd.R_drewN | apply Kd.R_drew)); exact HO641.out) hb); have n1_ := Aside0.mk (Kd.R_below (by (with_reducible repeat (first | apply Kd.R_alloc | apply Kd.R_drewN | apply Kd.R_drew)); exact HO647.out) hb); have n2_ := Aside0.mk (Kd.R_elder' (by (with_reducible repeat (first | apply Kd.R_alloc | apply Kd.R_drewN | apply Kd.R_drew)); exact HO650.out) (Kd.R_base ho33) hb); have n3_ := Aside0.mk (Kd.R_elder' (by (with_reducible repeat (first | apply Kd.R_alloc | apply Kd.R_drewN | apply Kd.R_drew)); exact HO653.out) (Kd.R_base ho33) hb); have n4_ := Aside0.mk (Kd.R_elder' (by (with_reducible repeat (first | apply Kd.R_alloc | apply Kd.R_drewN | apply Kd.R_drew)); exact HO656.out) (Kd.R_base ho33) hb); have n5_ := Aside0.mk (Kd.R_lower (Kd.R_new' (Kd.R_new' (Kd.R_new' ho33 (Kd.R_lt (by (with_reducible repeat (first | apply Kd.R_alloc | apply Kd.R_drewN | apply Kd.R_drew)); exact HO650.out))) (Kd.R_lt (by (with_reducible repeat (first | apply Kd.R_alloc | apply Kd.R_drewN | apply Kd.R_drew)); exact HO653.out))) (Kd.R_lt (by (with_reducible repeat (first | apply Kd.R_alloc | apply Kd.R_drewN | apply Kd.R_drew)); exact HO656.out))) (below_size (by repeat (first | (with_reducible first | exact HB.out | apply below_alloc | apply pw_below_drewN | apply below_drew1) | exact HB.out)))); have n6_ := Aside0.mk (below_step (by repeat (first | (with_reducible first | exact HB.out | apply below_alloc | apply pw_below_drewN | apply below_drew1) | exact HB.out)) hb); clear HO641; clear HO647; clear HO650; clear HO653; clear HO656; clear HB; have HO641 := n0_; have HO647 := n1_; have HO650 := n2_; have HO653 := n3_; have HO656 := n4_; have HO660 := n5_; have HB := n6_; clear n0_ n1_ n2_ n3_ n4_ n5_ n6_; clear hb ho33; obtain ⟨Ao34, co34, eo34⟩ := Kd.R_slice HO660.out; subst eo34) | (go_at_call 53; (with_reducible refine (key_Find.calls k _ _ y658 (⟨#[98]⟩ : ByteArray) t661 _ ?side1 ?side2 A16.out).mono ?_); (case side1 => repeat (first | exact (Kd.R_reads' HO660.out).2.2 | (with_reducible refine Kd.C_alloc ?_ _) | (with_reducible refine Kd.C_drewN ?_ _) | (with_reducible refine Kd.C_drew ?_))); (case side2 => exact (Kd.R_reads' HO660.out).2.1); rintro e w' ⟨rfl, ⟨nd, rfl⟩⟩) | (go_at_call 53; (refine (key_Find.calls k _ _ ([] : List ByteArray) (⟨#[]⟩ : ByteArray) t662 _ ?side1 ?side2 A18.out).mono ?_); (case side1 => exact Kd.C_nil _ _); (case side2 => exact Nat.le_refl _); rintro e w' ⟨rfl, ⟨nd, rfl⟩⟩))
                      go_ret
                      exact ⟨by first | rfl | (simp [errW_none, errW_some] <;> rfl) | (simp [*, errW_none, errW_some] <;> rfl), by repeat (first | (with_reducible first | exact HB.out | apply below_alloc | apply pw_below_drewN | apply below_drew1) | exact HB.out)⟩
                    · rw [if_neg c17] at H
                      have c17b0 : (t661 == 1) = false := beq_eq_false_iff_ne.mpr c17
                      have c17b1 : (t661 != 1) = true := bne_iff_ne.mpr c17
                      obtain rfl := Option.some.inj H
                      go_enter Tryd.func19, Tryd.ntmps19
                      go_wp2_with (first | ((with_reducible refine gate_callee (f := 20) rfl ?_); refine goesL_ (some 8) rfl rfl Tryd.func20 (by kernel_rfl) rfl #[.int .i64 0, .slice none 0 0] rfl (by (try simp only [List.map_toArray, List.map_cons, List.map_nil]); first | done | rfl | (simp only [List.length_drop, List.length_take]; rfl)) ?_; (refine (key_Of.calls k 0 _ _ ([] : List Int) t637 _ ?side1 ?side2 A1.out).mono ?_); (case side1 => exact Kd.C_nil _ _); (case side2 => exact Nat.le_refl _); rintro e w35 ⟨rfl, hb⟩; refine ⟨_, rfl, ?_⟩; have n0_ := Aside0.mk (below_step (by repeat (first | (with_reducible first | exact HB.out | apply below_alloc | apply pw_below_drewN | apply below_drew1) | exact HB.out)) hb); clear HB; have HB := n0_; clear n0_; (try clear hb); (try clear hb2); (try clear hk); (try clear hi)) | ((with_reducible refine gate_callee (f := 21) rfl ?_); refine goesL_ (some 11) rfl rfl Tryd.func21 (by kernel_rfl) rfl #[.string t637] rfl (by (try simp only [List.map_toArray, List.map_cons, List.map_nil]); first | done | rfl | (simp only [List.length_drop, List.length_take]; rfl)) ?_; (with_reducible refine (key_Bytes.calls t637 t638 t639 _ A2.out).mono ?_); rintro e w36 ⟨v640, rfl, ho0, hb⟩; refine ⟨_, rfl, ?_⟩; have n0_ := Aside0.mk (Kd.R_lower ho0 (below_size (by repeat (first | (with_reducible first | exact HB.out | apply below_alloc | apply pw_below_drewN | apply below_drew1) | exact HB.out)))); have n1_ := Aside0.mk (below_step (by repeat (first | (with_reducible first | exact HB.out | apply below_alloc | apply pw_below_drewN | apply below_drew1) | exact HB.out)) hb); clear HB; have HO641 := n0_; have HB := n1_; clear n0_ n1_; (try clear hb); (try clear hb2); (try clear hk); (try clear hi); (try clear ho0); obtain ⟨Ao37, co37, eo37⟩ := Kd.R_slice HO641.out; subst eo37) | ((with_reducible refine gate_callee (f := 23) rfl ?_); refine goesL_ (some 16) rfl rfl Tryd.func23 (by kernel_rfl) rfl #[.slice Ao37 t638.length co37] rfl (by (try simp only [List.map_toArray, List.map_cons, List.map_nil]); first | done | rfl | (simp only [List.length_drop, List.length_take]; rfl)) ?_; (with_reducible refine (key_From.calls k _ _ t638 t642 t643 _ ?side1 ?side2 A3.out).mono ?_); (case side1 => repeat (first | exact (Kd.R_reads' HO641.out).2.2 | (with_reducible refine Kd.C_alloc ?_ _) | (with_reducible refine Kd.C_drewN ?_ _) | (with_reducible refine Kd.C_drew ?_))); (case side2 => exact (Kd.R_reads' HO641.out).2.1); rintro e w38 ⟨rfl, hb⟩; refine ⟨_, rfl, ?_⟩; have n0_ := Aside0.mk (Kd.R_below (by (with_reducible repeat (first | apply Kd.R_alloc | apply Kd.R_drewN | apply Kd.R_drew)); exact HO641.out) hb); have n1_ := Aside0.mk (below_step (by repeat (first | (with_reducible first | exact HB.out | apply below_alloc | apply pw_below_drewN | apply below_drew1) | exact HB.out)) hb); clear HO641; clear HB; have HO641 := n0_; have HB := n1_; clear n0_ n1_; (try clear hb); (try clear hb2); (try clear hk); (try clear hi)) | ((with_reducible refine gate_callee (f := 21) rfl ?_); refine goesL_ (some 20) rfl rfl Tryd.func21 (by kernel_rfl) rfl #[.string (⟨#[120]⟩ : ByteArray)] rfl (by (try simp only [List.map_toArray, List.map_cons, List.map_nil]); first | done | rfl | (simp only [List.length_drop, List.length_take]; rfl)) ?_; (with_reducible refine (key_Bytes.calls (⟨#[120]⟩ : ByteArray) t644 t645 _ A4.out).mono ?_); rintro e w39 ⟨v646, rfl, ho0, hb⟩; refine ⟨_, rfl, ?_⟩; have n0_ := Aside0.mk (Kd.R_elder' (by (with_reducible repeat (first | apply Kd.R_alloc | apply Kd.R_drewN | apply Kd.R_drew)); exact HO641.out) (Kd.R_base ho0) hb); have n1_ := Aside0.mk (Kd.R_lower (Kd.R_new' ho0 (Kd.R_lt (by (with_reducible repeat (first | apply Kd.R_alloc | apply Kd.R_drewN | apply Kd.R_drew)); exact HO641.out))) (below_size (by repeat (first | (with_reducible first | exact HB.out | apply below_alloc | apply pw_below_drewN | apply below_drew1) | exact HB.out)))); have n2_ := Aside0.mk (below_step (by repeat (first | (with_reducible first | exact HB.out | apply below_alloc | apply pw_below_drewN | apply below_drew1) | exact HB.out)) hb); clear HO641; clear HB; have HO641 := n0_; have HO647 := n1_; have HB := n2_; clear n0_ n1_ n2_; (try clear hb); (try clear hb2); (try clear hk); (try clear hi); (try clear ho0)) | ((with_reducible refine gate_dst (N := 49) rfl ?_); (try (refine gate_guard (by rfl) ?_; dsimp only)); refine Kd.R_lit Kd.string _ 23 ?hg (N := 49) ?hd (xs := ([(⟨#[98]⟩ : ByteArray), (⟨#[97]⟩ : ByteArray), (⟨#[98]⟩ : ByteArray)] : List ByteArray)) (inner := [.string (⟨#[98]⟩ : ByteArray), .string (⟨#[97]⟩ : ByteArray), .string (⟨#[98]⟩ : ByteArray)]) (ok := fun _ => True) (okp := fun _ => True) ?hr ?hp (fun _ hk => hk) trivial (Below.refl _ _) (Nat.le_refl _) (by simp) ?_; (case hd => rfl); (case hg => rfl); (case hr => first | (go_simp; done) | (go_simp; rfl)); (case hp => exact (Reps.one (show Kd.M Kd.string _ _ _ (⟨#[98]⟩ : ByteArray) [.string (⟨#[98]⟩ : ByteArray)] from rfl) (Reps.one (show Kd.M Kd.string _ _ _ (⟨#[97]⟩ : ByteArray) [.string (⟨#[97]⟩ : ByteArray)] from rfl) (Reps.one (show Kd.M Kd.string _ _ _ (⟨#[98]⟩ : ByteArray) [.string (⟨#[98]⟩ : ByteArray)] from rfl) (Reps.none _ _))))); intro v649 w40 ho41 hb hg_ hnew_; clear hg_ hnew_; (first | rw [← Ny648.out] at ho41 | (simp only [Int.reduceToNat] at ho41; rw [← Ny648.out] at ho41)); have n0_ := Aside0.mk (Kd.R_below (by (with_reducible repeat (first | apply Kd.R_alloc | apply Kd.R_drewN | apply Kd.R_drew)); exact HO641.out) hb); have n1_ := Aside0.mk (Kd.R_below (by (with_reducible repeat (first | apply Kd.R_alloc | apply Kd.R_drewN | apply Kd.R_drew)); exact HO647.out) hb); have n2_ := Aside0.mk (Kd.R_lower ho41 (below_size (by repeat (first | (with_reducible first | exact HB.out | apply below_alloc | apply pw_below_drewN | apply below_drew1) | exact HB.out)))); have n3_ := Aside0.mk (below_step (by repeat (first | (with_reducible first | exact HB.out | apply below_alloc | apply pw_below_drewN | apply below_drew1) | exact HB.out)) hb); clear HO641; clear HO647; clear HB; have HO641 := n0_; have HO647 := n1_; have HO650 := n2_; have HB := n3_; clear n0_ n1_ n2_ n3_; clear hb ho41; obtain ⟨Ao42, co42, eo42⟩ := Kd.R_slice HO650.out; subst eo42) | (go_at_call 52; (with_reducible refine (key_Sort.calls _ _ y648 t651 _ ?side1 ?side2 A13.out).mono ?_); (case side1 => repeat (first | exact (Kd.R_reads' HO650.out).2.2 | (with_reducible refine Kd.C_alloc ?_ _) | (with_reducible refine Kd.C_drewN ?_ _) | (with_reducible refine Kd.C_drew ?_))); (case side2 => exact (Kd.R_reads' HO650.out).2.1); rintro e w43 ⟨v652, rfl, ho0, hb⟩; have n0_ := Aside0.mk (Kd.R_below (by (with_reducible repeat (first | apply Kd.R_alloc | apply Kd.R_drewN | apply Kd.R_drew)); exact HO641.out) hb); have n1_ := Aside0.mk (Kd.R_below (by (with_reducible repeat (first | apply Kd.R_alloc | apply Kd.R_drewN | apply Kd.R_drew)); exact HO647.out) hb); have n2_ := Aside0.mk (Kd.R_elder' (by (with_reducible repeat (first | apply Kd.R_alloc | apply Kd.R_drewN | apply Kd.R_drew)); exact HO650.out) (Kd.R_base ho0) hb); have n3_ := Aside0.mk (Kd.R_lower (Kd.R_new' ho0 (Kd.R_lt (by (with_reducible repeat (first | apply Kd.R_alloc | apply Kd.R_drewN | apply Kd.R_drew)); exact HO650.out))) (below_size (by repeat (first | (with_reducible first | exact HB.out | apply below_alloc | apply pw_below_drewN | apply below_drew1) | exact HB.out)))); have n4_ := Aside0.mk (below_step (by repeat (first | (with_reducible first | exact HB.out | apply below_alloc | apply pw_below_drewN | apply below_drew1) | exact HB.out)) hb); clear HO641; clear HO647; clear HO650; clear HB; have HO641 := n0_; have HO647 := n1_; have HO650 := n2_; have HO653 := n3_; have HB := n4_; clear n0_ n1_ n2_ n3_ n4_; (try clear hb); (try clear hb2); (try clear hk); (try clear hi); (try clear ho0)) | ((with_reducible refine gate_dst (N := 51) rfl ?_); (try (refine gate_guard (by rfl) ?_; dsimp only)); refine Kd.R_lit Kd.string _ 23 ?hg (N := 51) ?hd (xs := ([(⟨#[97]⟩ : ByteArray), (⟨#[98]⟩ : ByteArray)] : List ByteArray)) (inner := [.string (⟨#[97]⟩ : ByteArray), .string (⟨#[98]⟩ : ByteArray)]) (ok := fun _ => True) (okp := fun _ => True) ?hr ?hp (fun _ hk => hk) trivial (Below.refl _ _) (Nat.le_refl _) (by simp) ?_; (case hd => rfl); (case hg => rfl); (case hr => first | (go_simp; done) | (go_simp; rfl)); (case hp => exact (Reps.one (show Kd.M Kd.string _ _ _ (⟨#[97]⟩ : ByteArray) [.string (⟨#[97]⟩ : ByteArray)] from rfl) (Reps.one (show Kd.M Kd.string _ _ _ (⟨#[98]⟩ : ByteArray) [.string (⟨#[98]⟩ : ByteArray)] from rfl) (Reps.none _ _)))); intro v655 w44 ho45 hb hg_ hnew_; clear hg_ hnew_; (first | rw [← Ny654.out] at ho45 | (simp only [Int.reduceToNat] at ho45; rw [← Ny654.out] at ho45)); have n0_ := Aside0.mk (Kd.R_below (by (with_reducible repeat (first | apply Kd.R_alloc | apply Kd.R_drewN | apply Kd.R_drew)); exact HO641.out) hb); have n1_ := Aside0.mk (Kd.R_below (by (with_reducible repeat (first | apply Kd.R_alloc | apply Kd.R_drewN | apply Kd.R_drew)); exact HO647.out) hb); have n2_ := Aside0.mk (Kd.R_elder' (by (with_reducible repeat (first | apply Kd.R_alloc | apply Kd.R_drewN | apply Kd.R_drew)); exact HO650.out) (Kd.R_base ho45) hb); have n3_ := Aside0.mk (Kd.R_elder' (by (with_reducible repeat (first | apply Kd.R_alloc | apply Kd.R_drewN | apply Kd.R_drew)); exact HO653.out) (Kd.R_base ho45) hb); have n4_ := Aside0.mk (Kd.R_lower (Kd.R_new' (Kd.R_new' ho45 (Kd.R_lt (by (with_reducible repeat (first | apply Kd.R_alloc | apply Kd.R_drewN | apply Kd.R_drew)); exact HO650.out))) (Kd.R_lt (by (with_reducible repeat (first | apply Kd.R_alloc | apply Kd.R_drewN | apply Kd.R_drew)); exact HO653.out))) (below_size (by repeat (first | (with_reducible first | exact HB.out | apply below_alloc | apply pw_below_drewN | apply below_drew1) | exact HB.out)))); have n5_ := Aside0.mk (below_step (by repeat (first | (with_reducible first | exact HB.out | apply below_alloc | apply pw_below_drewN | apply below_drew1) | exact HB.out)) hb); clear HO641; clear HO647; clear HO650; clear HO653; clear HB; have HO641 := n0_; have HO647 := n1_; have HO650 := n2_; have HO653 := n3_; have HO656 := n4_; have HB := n5_; clear n0_ n1_ n2_ n3_ n4_ n5_; clear hb ho45; obtain ⟨Ao46, co46, eo46⟩ := Kd.R_slice HO653.out; subst eo46; obtain ⟨Ao47, co47, eo47⟩ := Kd.R_slice HO656.out; subst eo47) | (go_at_call 51; (with_reducible refine (palimpsestref07_Same.calls k _ _ t651 _ _ y654 true _ ?side1 ?side2 ?side3 ?side4 A14.out).mono ?_); (case side1 => repeat (first | exact (Kd.R_reads' HO653.out).2.2 | (with_reducible refine Kd.C_alloc ?_ _) | (with_reducible refine Kd.C_drewN ?_ _) | (with_reducible refine Kd.C_drew ?_))); (case side2 => exact (Kd.R_reads' HO653.out).2.1); (case side3 => repeat (first | exact (Kd.R_reads' HO656.out).2.2 | (with_reducible refine Kd.C_alloc ?_ _) | (with_reducible refine Kd.C_drewN ?_ _) | (with_reducible refine Kd.C_drew ?_))); (case side4 => exact (Kd.R_reads' HO656.out).2.1); rintro e w' ⟨rfl, ⟨nd, rfl⟩⟩) | ((with_reducible refine gate_dst (N := 55) rfl ?_); (try (refine gate_guard (by rfl) ?_; dsimp only)); refine Kd.R_lit Kd.string _ 23 ?hg (N := 55) ?hd (xs := ([(⟨#[97]⟩ : ByteArray), (⟨#[98]⟩ : ByteArray)] : List ByteArray)) (inner := [.string (⟨#[97]⟩ : ByteArray), .string (⟨#[98]⟩ : ByteArray)]) (ok := fun _ => True) (okp := fun _ => True) ?hr ?hp (fun _ hk => hk) trivial (Below.refl _ _) (Nat.le_refl _) (by simp) ?_; (case hd => rfl); (case hg => rfl); (case hr => first | (go_simp; done) | (go_simp; rfl)); (case hp => exact (Reps.one (show Kd.M Kd.string _ _ _ (⟨#[97]⟩ : ByteArray) [.string (⟨#[97]⟩ : ByteArray)] from rfl) (Reps.one (show Kd.M Kd.string _ _ _ (⟨#[98]⟩ : ByteArray) [.string (⟨#[98]⟩ : ByteArray)] from rfl) (Reps.none _ _)))); intro v659 w48 ho49 hb hg_ hnew_; clear hg_ hnew_; (first | rw [← Ny658.out] at ho49 | (simp only [Int.reduceToNat] at ho49; rw [← Ny658.out] at ho49)); have n0_ := Aside0.mk (Kd.R_below (by (with_reducible repeat (first | apply Kd.R_alloc | apply Kd.R_drewN | apply Kd.R_drew)); exact HO641.out) hb); have n1_ := Aside0.mk (Kd.R_below (by (with_reducible repeat (first | apply Kd.R_alloc | apply Kd.R_drewN | apply Kd.R_drew)); exact HO647.out) hb); have n2_ := Aside0.mk (Kd.R_elder' (by (with_reducible repeat (first | apply Kd.R_alloc | apply Kd.R_drewN | apply Kd.R_drew)); exact HO650.out) (Kd.R_base ho49) hb); have n3_ := Aside0.mk (Kd.R_elder' (by (with_reducible repeat (first | apply Kd.R_alloc | apply Kd.R_drewN | apply Kd.R_drew)); exact HO653.out) (Kd.R_base ho49) hb); have n4_ := Aside0.mk (Kd.R_elder' (by (with_reducible repeat (first | apply Kd.R_alloc | apply Kd.R_drewN | apply Kd.R_drew)); exact HO656.out) (Kd.R_base ho49) hb); have n5_ := Aside0.mk (Kd.R_lower (Kd.R_new' (Kd.R_new' (Kd.R_new' ho49 (Kd.R_lt (by (with_reducible repeat (first | apply Kd.R_alloc | apply Kd.R_drewN | apply Kd.R_drew)); exact HO650.out))) (Kd.R_lt (by (with_reducible repeat (first | apply Kd.R_alloc | apply Kd.R_drewN | apply Kd.R_drew)); exact HO653.out))) (Kd.R_lt (by (with_reducible repeat (first | apply Kd.R_alloc | apply Kd.R_drewN | apply Kd.R_drew)); exact HO656.out))) (below_size (by repeat (first | (with_reducible first | exact HB.out | apply below_alloc | apply pw_below_drewN | apply below_drew1) | exact HB.out)))); have n6_ := Aside0.mk (below_step (by repeat (first | (with_reducible first | exact HB.out | apply below_alloc | apply pw_below_drewN | apply below_drew1) | exact HB.out)) hb); clear HO641; clear HO647; clear HO650; clear HO653; clear HO656; clear HB; have HO641 := n0_; have HO647 := n1_; have HO650 := n2_; have HO653 := n3_; have HO656 := n4_; have HO660 := n5_; have HB := n6_; clear n0_ n1_ n2_ n3_ n4_ n5_ n6_; clear hb ho49; obtain ⟨Ao50, co50, eo50⟩ := Kd.R_slice HO660.out; subst eo50) | (go_at_call 53; (with_reducible refine (key_Find.calls k _ _ y658 (⟨#[98]⟩ : ByteArray) t661 _ ?side1 ?side2 A16.out).mono ?_); (case side1 => repeat (first | exact (Kd.R_reads' HO660.out).2.2 | (with_reducible refine Kd.C_alloc ?_ _) | (with_reducible refine Kd.C_drewN ?_ _) | (with_reducible refine Kd.C_drew ?_))); (case side2 => exact (Kd.R_reads' HO660.out).2.1); rintro e w' ⟨rfl, ⟨nd, rfl⟩⟩))
                      go_ret
                      exact ⟨by first | rfl | (simp [errW_none, errW_some] <;> rfl) | (simp [*, errW_none, errW_some] <;> rfl), by repeat (first | (with_reducible first | exact HB.out | apply below_alloc | apply pw_below_drewN | apply below_drew1) | exact HB.out)⟩
                  · replace c15 := Bool.eq_false_iff.mpr c15
                    subst c15
                    have H1 : (some false) = some r := by rw [if_neg (show ¬ (false = true) by decide)] at H; exact H
                    clear H
                    have H := H1
                    clear H1
                    obtain rfl := Option.some.inj H
                    go_enter Tryd.func19, Tryd.ntmps19
                    go_wp2_with (first | ((with_reducible refine gate_callee (f := 20) rfl ?_); refine goesL_ (some 8) rfl rfl Tryd.func20 (by kernel_rfl) rfl #[.int .i64 0, .slice none 0 0] rfl (by (try simp only [List.map_toArray, List.map_cons, List.map_nil]); first | done | rfl | (simp only [List.length_drop, List.length_take]; rfl)) ?_; (refine (key_Of.calls k 0 _ _ ([] : List Int) t637 _ ?side1 ?side2 A1.out).mono ?_); (case side1 => exact Kd.C_nil _ _); (case side2 => exact Nat.le_refl _); rintro e w51 ⟨rfl, hb⟩; refine ⟨_, rfl, ?_⟩; have n0_ := Aside0.mk (below_step (by repeat (first | (with_reducible first | exact HB.out | apply below_alloc | apply pw_below_drewN | apply below_drew1) | exact HB.out)) hb); clear HB; have HB := n0_; clear n0_; (try clear hb); (try clear hb2); (try clear hk); (try clear hi)) | ((with_reducible refine gate_callee (f := 21) rfl ?_); refine goesL_ (some 11) rfl rfl Tryd.func21 (by kernel_rfl) rfl #[.string t637] rfl (by (try simp only [List.map_toArray, List.map_cons, List.map_nil]); first | done | rfl | (simp only [List.length_drop, List.length_take]; rfl)) ?_; (with_reducible refine (key_Bytes.calls t637 t638 t639 _ A2.out).mono ?_); rintro e w52 ⟨v640, rfl, ho0, hb⟩; refine ⟨_, rfl, ?_⟩; have n0_ := Aside0.mk (Kd.R_lower ho0 (below_size (by repeat (first | (with_reducible first | exact HB.out | apply below_alloc | apply pw_below_drewN | apply below_drew1) | exact HB.out)))); have n1_ := Aside0.mk (below_step (by repeat (first | (with_reducible first | exact HB.out | apply below_alloc | apply pw_below_drewN | apply below_drew1) | exact HB.out)) hb); clear HB; have HO641 := n0_; have HB := n1_; clear n0_ n1_; (try clear hb); (try clear hb2); (try clear hk); (try clear hi); (try clear ho0); obtain ⟨Ao53, co53, eo53⟩ := Kd.R_slice HO641.out; subst eo53) | ((with_reducible refine gate_callee (f := 23) rfl ?_); refine goesL_ (some 16) rfl rfl Tryd.func23 (by kernel_rfl) rfl #[.slice Ao53 t638.length co53] rfl (by (try simp only [List.map_toArray, List.map_cons, List.map_nil]); first | done | rfl | (simp only [List.length_drop, List.length_take]; rfl)) ?_; (with_reducible refine (key_From.calls k _ _ t638 t642 t643 _ ?side1 ?side2 A3.out).mono ?_); (case side1 => repeat (first | exact (Kd.R_reads' HO641.out).2.2 | (with_reducible refine Kd.C_alloc ?_ _) | (with_reducible refine Kd.C_drewN ?_ _) | (with_reducible refine Kd.C_drew ?_))); (case side2 => exact (Kd.R_reads' HO641.out).2.1); rintro e w54 ⟨rfl, hb⟩; refine ⟨_, rfl, ?_⟩; have n0_ := Aside0.mk (Kd.R_below (by (with_reducible repeat (first | apply Kd.R_alloc | apply Kd.R_drewN | apply Kd.R_drew)); exact HO641.out) hb); have n1_ := Aside0.mk (below_step (by repeat (first | (with_reducible first | exact HB.out | apply below_alloc | apply pw_below_drewN | apply below_drew1) | exact HB.out)) hb); clear HO641; clear HB; have HO641 := n0_; have HB := n1_; clear n0_ n1_; (try clear hb); (try clear hb2); (try clear hk); (try clear hi)) | ((with_reducible refine gate_callee (f := 21) rfl ?_); refine goesL_ (some 20) rfl rfl Tryd.func21 (by kernel_rfl) rfl #[.string (⟨#[120]⟩ : ByteArray)] rfl (by (try simp only [List.map_toArray, List.map_cons, List.map_nil]); first | done | rfl | (simp only [List.length_drop, List.length_take]; rfl)) ?_; (with_reducible refine (key_Bytes.calls (⟨#[120]⟩ : ByteArray) t644 t645 _ A4.out).mono ?_); rintro e w55 ⟨v646, rfl, ho0, hb⟩; refine ⟨_, rfl, ?_⟩; have n0_ := Aside0.mk (Kd.R_elder' (by (with_reducible repeat (first | apply Kd.R_alloc | apply Kd.R_drewN | apply Kd.R_drew)); exact HO641.out) (Kd.R_base ho0) hb); have n1_ := Aside0.mk (Kd.R_lower (Kd.R_new' ho0 (Kd.R_lt (by (with_reducible repeat (first | apply Kd.R_alloc | apply Kd.R_drewN | apply Kd.R_drew)); exact HO641.out))) (below_size (by repeat (first | (with_reducible first | exact HB.out | apply below_alloc | apply pw_below_drewN | apply below_drew1) | exact HB.out)))); have n2_ := Aside0.mk (below_step (by repeat (first | (with_reducible first | exact HB.out | apply below_alloc | apply pw_below_drewN | apply below_drew1) | exact HB.out)) hb); clear HO641; clear HB; have HO641 := n0_; have HO647 := n1_; have HB := n2_; clear n0_ n1_ n2_; (try clear hb); (try clear hb2); (try clear hk); (try clear hi); (try clear ho0)) | ((with_reducible refine gate_dst (N := 49) rfl ?_); (try (refine gate_guard (by rfl) ?_; dsimp only)); refine Kd.R_lit Kd.string _ 23 ?hg (N := 49) ?hd (xs := ([(⟨#[98]⟩ : ByteArray), (⟨#[97]⟩ : ByteArray), (⟨#[98]⟩ : ByteArray)] : List ByteArray)) (inner := [.string (⟨#[98]⟩ : ByteArray), .string (⟨#[97]⟩ : ByteArray), .string (⟨#[98]⟩ : ByteArray)]) (ok := fun _ => True) (okp := fun _ => True) ?hr ?hp (fun _ hk => hk) trivial (Below.refl _ _) (Nat.le_refl _) (by simp) ?_; (case hd => rfl); (case hg => rfl); (case hr => first | (go_simp; done) | (go_simp; rfl)); (case hp => exact (Reps.one (show Kd.M Kd.string _ _ _ (⟨#[98]⟩ : ByteArray) [.string (⟨#[98]⟩ : ByteArray)] from rfl) (Reps.one (show Kd.M Kd.string _ _ _ (⟨#[97]⟩ : ByteArray) [.string (⟨#[97]⟩ : ByteArray)] from rfl) (Reps.one (show Kd.M Kd.string _ _ _ (⟨#[98]⟩ : ByteArray) [.string (⟨#[98]⟩ : ByteArray)] from rfl) (Reps.none _ _))))); intro v649 w56 ho57 hb hg_ hnew_; clear hg_ hnew_; (first | rw [← Ny648.out] at ho57 | (simp only [Int.reduceToNat] at ho57; rw [← Ny648.out] at ho57)); have n0_ := Aside0.mk (Kd.R_below (by (with_reducible repeat (first | apply Kd.R_alloc | apply Kd.R_drewN | apply Kd.R_drew)); exact HO641.out) hb); have n1_ := Aside0.mk (Kd.R_below (by (with_reducible repeat (first | apply Kd.R_alloc | apply Kd.R_drewN | apply Kd.R_drew)); exact HO647.out) hb); have n2_ := Aside0.mk (Kd.R_lower ho57 (below_size (by repeat (first | (with_reducible first | exact HB.out | apply below_alloc | apply pw_below_drewN | apply below_drew1) | exact HB.out)))); have n3_ := Aside0.mk (below_step (by repeat (first | (with_reducible first | exact HB.out | apply below_alloc | apply pw_below_drewN | apply below_drew1) | exact HB.out)) hb); clear HO641; clear HO647; clear HB; have HO641 := n0_; have HO647 := n1_; have HO650 := n2_; have HB := n3_; clear n0_ n1_ n2_ n3_; clear hb ho57; obtain ⟨Ao58, co58, eo58⟩ := Kd.R_slice HO650.out; subst eo58) | (go_at_call 52; (with_reducible refine (key_Sort.calls _ _ y648 t651 _ ?side1 ?side2 A13.out).mono ?_); (case side1 => repeat (first | exact (Kd.R_reads' HO650.out).2.2 | (with_reducible refine Kd.C_alloc ?_ _) | (with_reducible refine Kd.C_drewN ?_ _) | (with_reducible refine Kd.C_drew ?_))); (case side2 => exact (Kd.R_reads' HO650.out).2.1); rintro e w59 ⟨v652, rfl, ho0, hb⟩; have n0_ := Aside0.mk (Kd.R_below (by (with_reducible repeat (first | apply Kd.R_alloc | apply Kd.R_drewN | apply Kd.R_drew)); exact HO641.out) hb); have n1_ := Aside0.mk (Kd.R_below (by (with_reducible repeat (first | apply Kd.R_alloc | apply Kd.R_drewN | apply Kd.R_drew)); exact HO647.out) hb); have n2_ := Aside0.mk (Kd.R_elder' (by (with_reducible repeat (first | apply Kd.R_alloc | apply Kd.R_drewN | apply Kd.R_drew)); exact HO650.out) (Kd.R_base ho0) hb); have n3_ := Aside0.mk (Kd.R_lower (Kd.R_new' ho0 (Kd.R_lt (by (with_reducible repeat (first | apply Kd.R_alloc | apply Kd.R_drewN | apply Kd.R_drew)); exact HO650.out))) (below_size (by repeat (first | (with_reducible first | exact HB.out | apply below_alloc | apply pw_below_drewN | apply below_drew1) | exact HB.out)))); have n4_ := Aside0.mk (below_step (by repeat (first | (with_reducible first | exact HB.out | apply below_alloc | apply pw_below_drewN | apply below_drew1) | exact HB.out)) hb); clear HO641; clear HO647; clear HO650; clear HB; have HO641 := n0_; have HO647 := n1_; have HO650 := n2_; have HO653 := n3_; have HB := n4_; clear n0_ n1_ n2_ n3_ n4_; (try clear hb); (try clear hb2); (try clear hk); (try clear hi); (try clear ho0)) | ((with_reducible refine gate_dst (N := 51) rfl ?_); (try (refine gate_guard (by rfl) ?_; dsimp only)); refine Kd.R_lit Kd.string _ 23 ?hg (N := 51) ?hd (xs := ([(⟨#[97]⟩ : ByteArray), (⟨#[98]⟩ : ByteArray)] : List ByteArray)) (inner := [.string (⟨#[97]⟩ : ByteArray), .string (⟨#[98]⟩ : ByteArray)]) (ok := fun _ => True) (okp := fun _ => True) ?hr ?hp (fun _ hk => hk) trivial (Below.refl _ _) (Nat.le_refl _) (by simp) ?_; (case hd => rfl); (case hg => rfl); (case hr => first | (go_simp; done) | (go_simp; rfl)); (case hp => exact (Reps.one (show Kd.M Kd.string _ _ _ (⟨#[97]⟩ : ByteArray) [.string (⟨#[97]⟩ : ByteArray)] from rfl) (Reps.one (show Kd.M Kd.string _ _ _ (⟨#[98]⟩ : ByteArray) [.string (⟨#[98]⟩ : ByteArray)] from rfl) (Reps.none _ _)))); intro v655 w60 ho61 hb hg_ hnew_; clear hg_ hnew_; (first | rw [← Ny654.out] at ho61 | (simp only [Int.reduceToNat] at ho61; rw [← Ny654.out] at ho61)); have n0_ := Aside0.mk (Kd.R_below (by (with_reducible repeat (first | apply Kd.R_alloc | apply Kd.R_drewN | apply Kd.R_drew)); exact HO641.out) hb); have n1_ := Aside0.mk (Kd.R_below (by (with_reducible repeat (first | apply Kd.R_alloc | apply Kd.R_drewN | apply Kd.R_drew)); exact HO647.out) hb); have n2_ := Aside0.mk (Kd.R_elder' (by (with_reducible repeat (first | apply Kd.R_alloc | apply Kd.R_drewN | apply Kd.R_drew)); exact HO650.out) (Kd.R_base ho61) hb); have n3_ := Aside0.mk (Kd.R_elder' (by (with_reducible repeat (first | apply Kd.R_alloc | apply Kd.R_drewN | apply Kd.R_drew)); exact HO653.out) (Kd.R_base ho61) hb); have n4_ := Aside0.mk (Kd.R_lower (Kd.R_new' (Kd.R_new' ho61 (Kd.R_lt (by (with_reducible repeat (first | apply Kd.R_alloc | apply Kd.R_drewN | apply Kd.R_drew)); exact HO650.out))) (Kd.R_lt (by (with_reducible repeat (first | apply Kd.R_alloc | apply Kd.R_drewN | apply Kd.R_drew)); exact HO653.out))) (below_size (by repeat (first | (with_reducible first | exact HB.out | apply below_alloc | apply pw_below_drewN | apply below_drew1) | exact HB.out)))); have n5_ := Aside0.mk (below_step (by repeat (first | (with_reducible first | exact HB.out | apply below_alloc | apply pw_below_drewN | apply below_drew1) | exact HB.out)) hb); clear HO641; clear HO647; clear HO650; clear HO653; clear HB; have HO641 := n0_; have HO647 := n1_; have HO650 := n2_; have HO653 := n3_; have HO656 := n4_; have HB := n5_; clear n0_ n1_ n2_ n3_ n4_ n5_; clear hb ho61; obtain ⟨Ao62, co62, eo62⟩ := Kd.R_slice HO653.out; subst eo62; obtain ⟨Ao63, co63, eo63⟩ := Kd.R_slice HO656.out; subst eo63) | (go_at_call 51; (with_reducible refine (palimpsestref07_Same.calls k _ _ t651 _ _ y654 false _ ?side1 ?side2 ?side3 ?side4 A14.out).mono ?_); (case side1 => repeat (first | exact (Kd.R_reads' HO653.out).2.2 | (with_reducible refine Kd.C_alloc ?_ _) | (with_reducible refine Kd.C_drewN ?_ _) | (with_reducible refine Kd.C_drew ?_))); (case side2 => exact (Kd.R_reads' HO653.out).2.1); (case side3 => repeat (first | exact (Kd.R_reads' HO656.out).2.2 | (with_reducible refine Kd.C_alloc ?_ _) | (with_reducible refine Kd.C_drewN ?_ _) | (with_reducible refine Kd.C_drew ?_))); (case side4 => exact (Kd.R_reads' HO656.out).2.1); rintro e w' ⟨rfl, ⟨nd, rfl⟩⟩))
                    go_ret
                    exact ⟨by first | rfl | (simp [errW_none, errW_some] <;> rfl) | (simp [*, errW_none, errW_some] <;> rfl), by repeat (first | (with_reducible first | exact HB.out | apply below_alloc | apply pw_below_drewN | apply below_drew1) | exact HB.out)⟩
                · rw [if_neg c12] at H
                  have c12b0 : (t645 == 70) = false := beq_eq_false_iff_ne.mpr c12
                  have c12b1 : (t645 != 70) = true := bne_iff_ne.mpr c12
                  obtain rfl := Option.some.inj H
                  go_enter Tryd.func19, Tryd.ntmps19
                  go_wp2_with (first | ((with_reducible refine gate_callee (f := 20) rfl ?_); refine goesL_ (some 8) rfl rfl Tryd.func20 (by kernel_rfl) rfl #[.int .i64 0, .slice none 0 0] rfl (by (try simp only [List.map_toArray, List.map_cons, List.map_nil]); first | done | rfl | (simp only [List.length_drop, List.length_take]; rfl)) ?_; (refine (key_Of.calls k 0 _ _ ([] : List Int) t637 _ ?side1 ?side2 A1.out).mono ?_); (case side1 => exact Kd.C_nil _ _); (case side2 => exact Nat.le_refl _); rintro e w64 ⟨rfl, hb⟩; refine ⟨_, rfl, ?_⟩; have n0_ := Aside0.mk (below_step (by repeat (first | (with_reducible first | exact HB.out | apply below_alloc | apply pw_below_drewN | apply below_drew1) | exact HB.out)) hb); clear HB; have HB := n0_; clear n0_; (try clear hb); (try clear hb2); (try clear hk); (try clear hi)) | ((with_reducible refine gate_callee (f := 21) rfl ?_); refine goesL_ (some 11) rfl rfl Tryd.func21 (by kernel_rfl) rfl #[.string t637] rfl (by (try simp only [List.map_toArray, List.map_cons, List.map_nil]); first | done | rfl | (simp only [List.length_drop, List.length_take]; rfl)) ?_; (with_reducible refine (key_Bytes.calls t637 t638 t639 _ A2.out).mono ?_); rintro e w65 ⟨v640, rfl, ho0, hb⟩; refine ⟨_, rfl, ?_⟩; have n0_ := Aside0.mk (Kd.R_lower ho0 (below_size (by repeat (first | (with_reducible first | exact HB.out | apply below_alloc | apply pw_below_drewN | apply below_drew1) | exact HB.out)))); have n1_ := Aside0.mk (below_step (by repeat (first | (with_reducible first | exact HB.out | apply below_alloc | apply pw_below_drewN | apply below_drew1) | exact HB.out)) hb); clear HB; have HO641 := n0_; have HB := n1_; clear n0_ n1_; (try clear hb); (try clear hb2); (try clear hk); (try clear hi); (try clear ho0); obtain ⟨Ao66, co66, eo66⟩ := Kd.R_slice HO641.out; subst eo66) | ((with_reducible refine gate_callee (f := 23) rfl ?_); refine goesL_ (some 16) rfl rfl Tryd.func23 (by kernel_rfl) rfl #[.slice Ao66 t638.length co66] rfl (by (try simp only [List.map_toArray, List.map_cons, List.map_nil]); first | done | rfl | (simp only [List.length_drop, List.length_take]; rfl)) ?_; (with_reducible refine (key_From.calls k _ _ t638 t642 t643 _ ?side1 ?side2 A3.out).mono ?_); (case side1 => repeat (first | exact (Kd.R_reads' HO641.out).2.2 | (with_reducible refine Kd.C_alloc ?_ _) | (with_reducible refine Kd.C_drewN ?_ _) | (with_reducible refine Kd.C_drew ?_))); (case side2 => exact (Kd.R_reads' HO641.out).2.1); rintro e w67 ⟨rfl, hb⟩; refine ⟨_, rfl, ?_⟩; have n0_ := Aside0.mk (Kd.R_below (by (with_reducible repeat (first | apply Kd.R_alloc | apply Kd.R_drewN | apply Kd.R_drew)); exact HO641.out) hb); have n1_ := Aside0.mk (below_step (by repeat (first | (with_reducible first | exact HB.out | apply below_alloc | apply pw_below_drewN | apply below_drew1) | exact HB.out)) hb); clear HO641; clear HB; have HO641 := n0_; have HB := n1_; clear n0_ n1_; (try clear hb); (try clear hb2); (try clear hk); (try clear hi)) | ((with_reducible refine gate_callee (f := 21) rfl ?_); refine goesL_ (some 20) rfl rfl Tryd.func21 (by kernel_rfl) rfl #[.string (⟨#[120]⟩ : ByteArray)] rfl (by (try simp only [List.map_toArray, List.map_cons, List.map_nil]); first | done | rfl | (simp only [List.length_drop, List.length_take]; rfl)) ?_; (with_reducible refine (key_Bytes.calls (⟨#[120]⟩ : ByteArray) t644 t645 _ A4.out).mono ?_); rintro e w68 ⟨v646, rfl, ho0, hb⟩; refine ⟨_, rfl, ?_⟩; have n0_ := Aside0.mk (Kd.R_elder' (by (with_reducible repeat (first | apply Kd.R_alloc | apply Kd.R_drewN | apply Kd.R_drew)); exact HO641.out) (Kd.R_base ho0) hb); have n1_ := Aside0.mk (Kd.R_lower (Kd.R_new' ho0 (Kd.R_lt (by (with_reducible repeat (first | apply Kd.R_alloc | apply Kd.R_drewN | apply Kd.R_drew)); exact HO641.out))) (below_size (by repeat (first | (with_reducible first | exact HB.out | apply below_alloc | apply pw_below_drewN | apply below_drew1) | exact HB.out)))); have n2_ := Aside0.mk (below_step (by repeat (first | (with_reducible first | exact HB.out | apply below_alloc | apply pw_below_drewN | apply below_drew1) | exact HB.out)) hb); clear HO641; clear HB; have HO641 := n0_; have HO647 := n1_; have HB := n2_; clear n0_ n1_ n2_; (try clear hb); (try clear hb2); (try clear hk); (try clear hi); (try clear ho0)))
                  go_ret
                  exact ⟨by first | rfl | (simp [errW_none, errW_some] <;> rfl) | (simp [*, errW_none, errW_some] <;> rfl), by repeat (first | (with_reducible first | exact HB.out | apply below_alloc | apply pw_below_drewN | apply below_drew1) | exact HB.out)⟩
              · rw [if_neg c11] at H
                have c11b0 : (t642.toList == t637.toList) = false := beq_eq_false_iff_ne.mpr c11
                have c11b1 : (t642.toList != t637.toList) = true := bne_iff_ne.mpr c11
                obtain rfl := Option.some.inj H
                go_enter Tryd.func19, Tryd.ntmps19
                go_wp2_with (first | ((with_reducible refine gate_callee (f := 20) rfl ?_); refine goesL_ (some 8) rfl rfl Tryd.func20 (by kernel_rfl) rfl #[.int .i64 0, .slice none 0 0] rfl (by (try simp only [List.map_toArray, List.map_cons, List.map_nil]); first | done | rfl | (simp only [List.length_drop, List.length_take]; rfl)) ?_; (refine (key_Of.calls k 0 _ _ ([] : List Int) t637 _ ?side1 ?side2 A1.out).mono ?_); (case side1 => exact Kd.C_nil _ _); (case side2 => exact Nat.le_refl _); rintro e w69 ⟨rfl, hb⟩; refine ⟨_, rfl, ?_⟩; have n0_ := Aside0.mk (below_step (by repeat (first | (with_reducible first | exact HB.out | apply below_alloc | apply pw_below_drewN | apply below_drew1) | exact HB.out)) hb); clear HB; have HB := n0_; clear n0_; (try clear hb); (try clear hb2); (try clear hk); (try clear hi)) | ((with_reducible refine gate_callee (f := 21) rfl ?_); refine goesL_ (some 11) rfl rfl Tryd.func21 (by kernel_rfl) rfl #[.string t637] rfl (by (try simp only [List.map_toArray, List.map_cons, List.map_nil]); first | done | rfl | (simp only [List.length_drop, List.length_take]; rfl)) ?_; (with_reducible refine (key_Bytes.calls t637 t638 t639 _ A2.out).mono ?_); rintro e w70 ⟨v640, rfl, ho0, hb⟩; refine ⟨_, rfl, ?_⟩; have n0_ := Aside0.mk (Kd.R_lower ho0 (below_size (by repeat (first | (with_reducible first | exact HB.out | apply below_alloc | apply pw_below_drewN | apply below_drew1) | exact HB.out)))); have n1_ := Aside0.mk (below_step (by repeat (first | (with_reducible first | exact HB.out | apply below_alloc | apply pw_below_drewN | apply below_drew1) | exact HB.out)) hb); clear HB; have HO641 := n0_; have HB := n1_; clear n0_ n1_; (try clear hb); (try clear hb2); (try clear hk); (try clear hi); (try clear ho0); obtain ⟨Ao71, co71, eo71⟩ := Kd.R_slice HO641.out; subst eo71) | ((with_reducible refine gate_callee (f := 23) rfl ?_); refine goesL_ (some 16) rfl rfl Tryd.func23 (by kernel_rfl) rfl #[.slice Ao71 t638.length co71] rfl (by (try simp only [List.map_toArray, List.map_cons, List.map_nil]); first | done | rfl | (simp only [List.length_drop, List.length_take]; rfl)) ?_; (with_reducible refine (key_From.calls k _ _ t638 t642 t643 _ ?side1 ?side2 A3.out).mono ?_); (case side1 => repeat (first | exact (Kd.R_reads' HO641.out).2.2 | (with_reducible refine Kd.C_alloc ?_ _) | (with_reducible refine Kd.C_drewN ?_ _) | (with_reducible refine Kd.C_drew ?_))); (case side2 => exact (Kd.R_reads' HO641.out).2.1); rintro e w72 ⟨rfl, hb⟩; refine ⟨_, rfl, ?_⟩; have n0_ := Aside0.mk (Kd.R_below (by (with_reducible repeat (first | apply Kd.R_alloc | apply Kd.R_drewN | apply Kd.R_drew)); exact HO641.out) hb); have n1_ := Aside0.mk (below_step (by repeat (first | (with_reducible first | exact HB.out | apply below_alloc | apply pw_below_drewN | apply below_drew1) | exact HB.out)) hb); clear HO641; clear HB; have HO641 := n0_; have HB := n1_; clear n0_ n1_; (try clear hb); (try clear hb2); (try clear hk); (try clear hi)) | ((with_reducible refine gate_callee (f := 21) rfl ?_); refine goesL_ (some 20) rfl rfl Tryd.func21 (by kernel_rfl) rfl #[.string (⟨#[120]⟩ : ByteArray)] rfl (by (try simp only [List.map_toArray, List.map_cons, List.map_nil]); first | done | rfl | (simp only [List.length_drop, List.length_take]; rfl)) ?_; (with_reducible refine (key_Bytes.calls (⟨#[120]⟩ : ByteArray) t644 t645 _ A4.out).mono ?_); rintro e w73 ⟨v646, rfl, ho0, hb⟩; refine ⟨_, rfl, ?_⟩; have n0_ := Aside0.mk (Kd.R_elder' (by (with_reducible repeat (first | apply Kd.R_alloc | apply Kd.R_drewN | apply Kd.R_drew)); exact HO641.out) (Kd.R_base ho0) hb); have n1_ := Aside0.mk (Kd.R_lower (Kd.R_new' ho0 (Kd.R_lt (by (with_reducible repeat (first | apply Kd.R_alloc | apply Kd.R_drewN | apply Kd.R_drew)); exact HO641.out))) (below_size (by repeat (first | (with_reducible first | exact HB.out | apply below_alloc | apply pw_below_drewN | apply below_drew1) | exact HB.out)))); have n2_ := Aside0.mk (below_step (by repeat (first | (with_reducible first | exact HB.out | apply below_alloc | apply pw_below_drewN | apply below_drew1) | exact HB.out)) hb); clear HO641; clear HB; have HO641 := n0_; have HO647 := n1_; have HB := n2_; clear n0_ n1_ n2_; (try clear hb); (try clear hb2); (try clear hk); (try clear hi); (try clear ho0)))
                go_ret
                exact ⟨by first | rfl | (simp [errW_none, errW_some] <;> rfl) | (simp [*, errW_none, errW_some] <;> rfl), by repeat (first | (with_reducible first | exact HB.out | apply below_alloc | apply pw_below_drewN | apply below_drew1) | exact HB.out)⟩
            · rw [if_neg c10] at H
              have c10b0 : (t643 == 0) = false := beq_eq_false_iff_ne.mpr c10
              have c10b1 : (t643 != 0) = true := bne_iff_ne.mpr c10
              obtain rfl := Option.some.inj H
              go_enter Tryd.func19, Tryd.ntmps19
              go_wp2_with (first | ((with_reducible refine gate_callee (f := 20) rfl ?_); refine goesL_ (some 8) rfl rfl Tryd.func20 (by kernel_rfl) rfl #[.int .i64 0, .slice none 0 0] rfl (by (try simp only [List.map_toArray, List.map_cons, List.map_nil]); first | done | rfl | (simp only [List.length_drop, List.length_take]; rfl)) ?_; (refine (key_Of.calls k 0 _ _ ([] : List Int) t637 _ ?side1 ?side2 A1.out).mono ?_); (case side1 => exact Kd.C_nil _ _); (case side2 => exact Nat.le_refl _); rintro e w74 ⟨rfl, hb⟩; refine ⟨_, rfl, ?_⟩; have n0_ := Aside0.mk (below_step (by repeat (first | (with_reducible first | exact HB.out | apply below_alloc | apply pw_below_drewN | apply below_drew1) | exact HB.out)) hb); clear HB; have HB := n0_; clear n0_; (try clear hb); (try clear hb2); (try clear hk); (try clear hi)) | ((with_reducible refine gate_callee (f := 21) rfl ?_); refine goesL_ (some 11) rfl rfl Tryd.func21 (by kernel_rfl) rfl #[.string t637] rfl (by (try simp only [List.map_toArray, List.map_cons, List.map_nil]); first | done | rfl | (simp only [List.length_drop, List.length_take]; rfl)) ?_; (with_reducible refine (key_Bytes.calls t637 t638 t639 _ A2.out).mono ?_); rintro e w75 ⟨v640, rfl, ho0, hb⟩; refine ⟨_, rfl, ?_⟩; have n0_ := Aside0.mk (Kd.R_lower ho0 (below_size (by repeat (first | (with_reducible first | exact HB.out | apply below_alloc | apply pw_below_drewN | apply below_drew1) | exact HB.out)))); have n1_ := Aside0.mk (below_step (by repeat (first | (with_reducible first | exact HB.out | apply below_alloc | apply pw_below_drewN | apply below_drew1) | exact HB.out)) hb); clear HB; have HO641 := n0_; have HB := n1_; clear n0_ n1_; (try clear hb); (try clear hb2); (try clear hk); (try clear hi); (try clear ho0); obtain ⟨Ao76, co76, eo76⟩ := Kd.R_slice HO641.out; subst eo76) | ((with_reducible refine gate_callee (f := 23) rfl ?_); refine goesL_ (some 16) rfl rfl Tryd.func23 (by kernel_rfl) rfl #[.slice Ao76 t638.length co76] rfl (by (try simp only [List.map_toArray, List.map_cons, List.map_nil]); first | done | rfl | (simp only [List.length_drop, List.length_take]; rfl)) ?_; (with_reducible refine (key_From.calls k _ _ t638 t642 t643 _ ?side1 ?side2 A3.out).mono ?_); (case side1 => repeat (first | exact (Kd.R_reads' HO641.out).2.2 | (with_reducible refine Kd.C_alloc ?_ _) | (with_reducible refine Kd.C_drewN ?_ _) | (with_reducible refine Kd.C_drew ?_))); (case side2 => exact (Kd.R_reads' HO641.out).2.1); rintro e w77 ⟨rfl, hb⟩; refine ⟨_, rfl, ?_⟩; have n0_ := Aside0.mk (Kd.R_below (by (with_reducible repeat (first | apply Kd.R_alloc | apply Kd.R_drewN | apply Kd.R_drew)); exact HO641.out) hb); have n1_ := Aside0.mk (below_step (by repeat (first | (with_reducible first | exact HB.out | apply below_alloc | apply pw_below_drewN | apply below_drew1) | exact HB.out)) hb); clear HO641; clear HB; have HO641 := n0_; have HB := n1_; clear n0_ n1_; (try clear hb); (try clear hb2); (try clear hk); (try clear hi)) | ((with_reducible refine gate_callee (f := 21) rfl ?_); refine goesL_ (some 20) rfl rfl Tryd.func21 (by kernel_rfl) rfl #[.string (⟨#[120]⟩ : ByteArray)] rfl (by (try simp only [List.map_toArray, List.map_cons, List.map_nil]); first | done | rfl | (simp only [List.length_drop, List.length_take]; rfl)) ?_; (with_reducible refine (key_Bytes.calls (⟨#[120]⟩ : ByteArray) t644 t645 _ A4.out).mono ?_); rintro e w78 ⟨v646, rfl, ho0, hb⟩; refine ⟨_, rfl, ?_⟩; have n0_ := Aside0.mk (Kd.R_elder' (by (with_reducible repeat (first | apply Kd.R_alloc | apply Kd.R_drewN | apply Kd.R_drew)); exact HO641.out) (Kd.R_base ho0) hb); have n1_ := Aside0.mk (Kd.R_lower (Kd.R_new' ho0 (Kd.R_lt (by (with_reducible repeat (first | apply Kd.R_alloc | apply Kd.R_drewN | apply Kd.R_drew)); exact HO641.out))) (below_size (by repeat (first | (with_reducible first | exact HB.out | apply below_alloc | apply pw_below_drewN | apply below_drew1) | exact HB.out)))); have n2_ := Aside0.mk (below_step (by repeat (first | (with_reducible first | exact HB.out | apply below_alloc | apply pw_below_drewN | apply below_drew1) | exact HB.out)) hb); clear HO641; clear HB; have HO641 := n0_; have HO647 := n1_; have HB := n2_; clear n0_ n1_ n2_; (try clear hb); (try clear hb2); (try clear hk); (try clear hi); (try clear ho0)))
              go_ret
              exact ⟨by first | rfl | (simp [errW_none, errW_some] <;> rfl) | (simp [*, errW_none, errW_some] <;> rfl), by repeat (first | (with_reducible first | exact HB.out | apply below_alloc | apply pw_below_drewN | apply below_drew1) | exact HB.out)⟩
          · rw [if_neg c9] at H
            have c9b0 : (t639 == 0) = false := beq_eq_false_iff_ne.mpr c9
            have c9b1 : (t639 != 0) = true := bne_iff_ne.mpr c9
            obtain rfl := Option.some.inj H
            go_enter Tryd.func19, Tryd.ntmps19
            go_wp2_with (first | ((with_reducible refine gate_callee (f := 20) rfl ?_); refine goesL_ (some 8) rfl rfl Tryd.func20 (by kernel_rfl) rfl #[.int .i64 0, .slice none 0 0] rfl (by (try simp only [List.map_toArray, List.map_cons, List.map_nil]); first | done | rfl | (simp only [List.length_drop, List.length_take]; rfl)) ?_; (refine (key_Of.calls k 0 _ _ ([] : List Int) t637 _ ?side1 ?side2 A1.out).mono ?_); (case side1 => exact Kd.C_nil _ _); (case side2 => exact Nat.le_refl _); rintro e w79 ⟨rfl, hb⟩; refine ⟨_, rfl, ?_⟩; have n0_ := Aside0.mk (below_step (by repeat (first | (with_reducible first | exact HB.out | apply below_alloc | apply pw_below_drewN | apply below_drew1) | exact HB.out)) hb); clear HB; have HB := n0_; clear n0_; (try clear hb); (try clear hb2); (try clear hk); (try clear hi)) | ((with_reducible refine gate_callee (f := 21) rfl ?_); refine goesL_ (some 11) rfl rfl Tryd.func21 (by kernel_rfl) rfl #[.string t637] rfl (by (try simp only [List.map_toArray, List.map_cons, List.map_nil]); first | done | rfl | (simp only [List.length_drop, List.length_take]; rfl)) ?_; (with_reducible refine (key_Bytes.calls t637 t638 t639 _ A2.out).mono ?_); rintro e w80 ⟨v640, rfl, ho0, hb⟩; refine ⟨_, rfl, ?_⟩; have n0_ := Aside0.mk (Kd.R_lower ho0 (below_size (by repeat (first | (with_reducible first | exact HB.out | apply below_alloc | apply pw_below_drewN | apply below_drew1) | exact HB.out)))); have n1_ := Aside0.mk (below_step (by repeat (first | (with_reducible first | exact HB.out | apply below_alloc | apply pw_below_drewN | apply below_drew1) | exact HB.out)) hb); clear HB; have HO641 := n0_; have HB := n1_; clear n0_ n1_; (try clear hb); (try clear hb2); (try clear hk); (try clear hi); (try clear ho0); obtain ⟨Ao81, co81, eo81⟩ := Kd.R_slice HO641.out; subst eo81) | ((with_reducible refine gate_callee (f := 23) rfl ?_); refine goesL_ (some 16) rfl rfl Tryd.func23 (by kernel_rfl) rfl #[.slice Ao81 t638.length co81] rfl (by (try simp only [List.map_toArray, List.map_cons, List.map_nil]); first | done | rfl | (simp only [List.length_drop, List.length_take]; rfl)) ?_; (with_reducible refine (key_From.calls k _ _ t638 t642 t643 _ ?side1 ?side2 A3.out).mono ?_); (case side1 => repeat (first | exact (Kd.R_reads' HO641.out).2.2 | (with_reducible refine Kd.C_alloc ?_ _) | (with_reducible refine Kd.C_drewN ?_ _) | (with_reducible refine Kd.C_drew ?_))); (case side2 => exact (Kd.R_reads' HO641.out).2.1); rintro e w82 ⟨rfl, hb⟩; refine ⟨_, rfl, ?_⟩; have n0_ := Aside0.mk (Kd.R_below (by (with_reducible repeat (first | apply Kd.R_alloc | apply Kd.R_drewN | apply Kd.R_drew)); exact HO641.out) hb); have n1_ := Aside0.mk (below_step (by repeat (first | (with_reducible first | exact HB.out | apply below_alloc | apply pw_below_drewN | apply below_drew1) | exact HB.out)) hb); clear HO641; clear HB; have HO641 := n0_; have HB := n1_; clear n0_ n1_; (try clear hb); (try clear hb2); (try clear hk); (try clear hi)) | ((with_reducible refine gate_callee (f := 21) rfl ?_); refine goesL_ (some 20) rfl rfl Tryd.func21 (by kernel_rfl) rfl #[.string (⟨#[120]⟩ : ByteArray)] rfl (by (try simp only [List.map_toArray, List.map_cons, List.map_nil]); first | done | rfl | (simp only [List.length_drop, List.length_take]; rfl)) ?_; (with_reducible refine (key_Bytes.calls (⟨#[120]⟩ : ByteArray) t644 t645 _ A4.out).mono ?_); rintro e w83 ⟨v646, rfl, ho0, hb⟩; refine ⟨_, rfl, ?_⟩; have n0_ := Aside0.mk (Kd.R_elder' (by (with_reducible repeat (first | apply Kd.R_alloc | apply Kd.R_drewN | apply Kd.R_drew)); exact HO641.out) (Kd.R_base ho0) hb); have n1_ := Aside0.mk (Kd.R_lower (Kd.R_new' ho0 (Kd.R_lt (by (with_reducible repeat (first | apply Kd.R_alloc | apply Kd.R_drewN | apply Kd.R_drew)); exact HO641.out))) (below_size (by repeat (first | (with_reducible first | exact HB.out | apply below_alloc | apply pw_below_drewN | apply below_drew1) | exact HB.out)))); have n2_ := Aside0.mk (below_step (by repeat (first | (with_reducible first | exact HB.out | apply below_alloc | apply pw_below_drewN | apply below_drew1) | exact HB.out)) hb); clear HO641; clear HB; have HO641 := n0_; have HO647 := n1_; have HB := n2_; clear n0_ n1_ n2_; (try clear hb); (try clear hb2); (try clear hk); (try clear hi); (try clear ho0)))
            go_ret
            exact ⟨by first | rfl | (simp [errW_none, errW_some] <;> rfl) | (simp [*, errW_none, errW_some] <;> rfl), by repeat (first | (with_reducible first | exact HB.out | apply below_alloc | apply pw_below_drewN | apply below_drew1) | exact HB.out)⟩
        · rw [if_neg c8] at H
          have c8b0 : ((t637.extract 0 8).toList == ([54, 101, 51, 52, 48, 98, 57, 99] : List UInt8)) = false := beq_eq_false_iff_ne.mpr c8
          have c8b1 : ((t637.extract 0 8).toList != ([54, 101, 51, 52, 48, 98, 57, 99] : List UInt8)) = true := bne_iff_ne.mpr c8
          obtain rfl := Option.some.inj H
          go_enter Tryd.func19, Tryd.ntmps19
          go_wp2_with (first | ((with_reducible refine gate_callee (f := 20) rfl ?_); refine goesL_ (some 8) rfl rfl Tryd.func20 (by kernel_rfl) rfl #[.int .i64 0, .slice none 0 0] rfl (by (try simp only [List.map_toArray, List.map_cons, List.map_nil]); first | done | rfl | (simp only [List.length_drop, List.length_take]; rfl)) ?_; (refine (key_Of.calls k 0 _ _ ([] : List Int) t637 _ ?side1 ?side2 A1.out).mono ?_); (case side1 => exact Kd.C_nil _ _); (case side2 => exact Nat.le_refl _); rintro e w84 ⟨rfl, hb⟩; refine ⟨_, rfl, ?_⟩; have n0_ := Aside0.mk (below_step (by repeat (first | (with_reducible first | exact HB.out | apply below_alloc | apply pw_below_drewN | apply below_drew1) | exact HB.out)) hb); clear HB; have HB := n0_; clear n0_; (try clear hb); (try clear hb2); (try clear hk); (try clear hi)) | ((with_reducible refine gate_callee (f := 21) rfl ?_); refine goesL_ (some 11) rfl rfl Tryd.func21 (by kernel_rfl) rfl #[.string t637] rfl (by (try simp only [List.map_toArray, List.map_cons, List.map_nil]); first | done | rfl | (simp only [List.length_drop, List.length_take]; rfl)) ?_; (with_reducible refine (key_Bytes.calls t637 t638 t639 _ A2.out).mono ?_); rintro e w85 ⟨v640, rfl, ho0, hb⟩; refine ⟨_, rfl, ?_⟩; have n0_ := Aside0.mk (Kd.R_lower ho0 (below_size (by repeat (first | (with_reducible first | exact HB.out | apply below_alloc | apply pw_below_drewN | apply below_drew1) | exact HB.out)))); have n1_ := Aside0.mk (below_step (by repeat (first | (with_reducible first | exact HB.out | apply below_alloc | apply pw_below_drewN | apply below_drew1) | exact HB.out)) hb); clear HB; have HO641 := n0_; have HB := n1_; clear n0_ n1_; (try clear hb); (try clear hb2); (try clear hk); (try clear hi); (try clear ho0); obtain ⟨Ao86, co86, eo86⟩ := Kd.R_slice HO641.out; subst eo86) | ((with_reducible refine gate_callee (f := 23) rfl ?_); refine goesL_ (some 16) rfl rfl Tryd.func23 (by kernel_rfl) rfl #[.slice Ao86 t638.length co86] rfl (by (try simp only [List.map_toArray, List.map_cons, List.map_nil]); first | done | rfl | (simp only [List.length_drop, List.length_take]; rfl)) ?_; (with_reducible refine (key_From.calls k _ _ t638 t642 t643 _ ?side1 ?side2 A3.out).mono ?_); (case side1 => repeat (first | exact (Kd.R_reads' HO641.out).2.2 | (with_reducible refine Kd.C_alloc ?_ _) | (with_reducible refine Kd.C_drewN ?_ _) | (with_reducible refine Kd.C_drew ?_))); (case side2 => exact (Kd.R_reads' HO641.out).2.1); rintro e w87 ⟨rfl, hb⟩; refine ⟨_, rfl, ?_⟩; have n0_ := Aside0.mk (Kd.R_below (by (with_reducible repeat (first | apply Kd.R_alloc | apply Kd.R_drewN | apply Kd.R_drew)); exact HO641.out) hb); have n1_ := Aside0.mk (below_step (by repeat (first | (with_reducible first | exact HB.out | apply below_alloc | apply pw_below_drewN | apply below_drew1) | exact HB.out)) hb); clear HO641; clear HB; have HO641 := n0_; have HB := n1_; clear n0_ n1_; (try clear hb); (try clear hb2); (try clear hk); (try clear hi)) | ((with_reducible refine gate_callee (f := 21) rfl ?_); refine goesL_ (some 20) rfl rfl Tryd.func21 (by kernel_rfl) rfl #[.string (⟨#[120]⟩ : ByteArray)] rfl (by (try simp only [List.map_toArray, List.map_cons, List.map_nil]); first | done | rfl | (simp only [List.length_drop, List.length_take]; rfl)) ?_; (with_reducible refine (key_Bytes.calls (⟨#[120]⟩ : ByteArray) t644 t645 _ A4.out).mono ?_); rintro e w88 ⟨v646, rfl, ho0, hb⟩; refine ⟨_, rfl, ?_⟩; have n0_ := Aside0.mk (Kd.R_elder' (by (with_reducible repeat (first | apply Kd.R_alloc | apply Kd.R_drewN | apply Kd.R_drew)); exact HO641.out) (Kd.R_base ho0) hb); have n1_ := Aside0.mk (Kd.R_lower (Kd.R_new' ho0 (Kd.R_lt (by (with_reducible repeat (first | apply Kd.R_alloc | apply Kd.R_drewN | apply Kd.R_drew)); exact HO641.out))) (below_size (by repeat (first | (with_reducible first | exact HB.out | apply below_alloc | apply pw_below_drewN | apply below_drew1) | exact HB.out)))); have n2_ := Aside0.mk (below_step (by repeat (first | (with_reducible first | exact HB.out | apply below_alloc | apply pw_below_drewN | apply below_drew1) | exact HB.out)) hb); clear HO641; clear HB; have HO641 := n0_; have HO647 := n1_; have HB := n2_; clear n0_ n1_ n2_; (try clear hb); (try clear hb2); (try clear hk); (try clear hi); (try clear ho0)))
          go_ret
          exact ⟨by first | rfl | (simp [errW_none, errW_some] <;> rfl) | (simp [*, errW_none, errW_some] <;> rfl), by repeat (first | (with_reducible first | exact HB.out | apply below_alloc | apply pw_below_drewN | apply below_drew1) | exact HB.out)⟩
      · rw [if_neg c7] at H
        exact absurd H (by simp)
    · rw [if_neg c6] at H
      exact absurd H (by simp)
  · rw [if_neg c5] at H
    have c5b0 : ((t637.size : Int) == 64) = false := beq_eq_false_iff_ne.mpr c5
    have c5b1 : ((t637.size : Int) != 64) = true := bne_iff_ne.mpr c5
    obtain rfl := Option.some.inj H
    go_enter Tryd.func19, Tryd.ntmps19
    go_wp2_with (first | ((with_reducible refine gate_callee (f := 20) rfl ?_); refine goesL_ (some 8) rfl rfl Tryd.func20 (by kernel_rfl) rfl #[.int .i64 0, .slice none 0 0] rfl (by (try simp only [List.map_toArray, List.map_cons, List.map_nil]); first | done | rfl | (simp only [List.length_drop, List.length_take]; rfl)) ?_; (refine (key_Of.calls k 0 _ _ ([] : List Int) t637 _ ?side1 ?side2 A1.out).mono ?_); (case side1 => exact Kd.C_nil _ _); (case side2 => exact Nat.le_refl _); rintro e w89 ⟨rfl, hb⟩; refine ⟨_, rfl, ?_⟩; have n0_ := Aside0.mk (below_step (by repeat (first | (with_reducible first | exact HB.out | apply below_alloc | apply pw_below_drewN | apply below_drew1) | exact HB.out)) hb); clear HB; have HB := n0_; clear n0_; (try clear hb); (try clear hb2); (try clear hk); (try clear hi)) | ((with_reducible refine gate_callee (f := 21) rfl ?_); refine goesL_ (some 11) rfl rfl Tryd.func21 (by kernel_rfl) rfl #[.string t637] rfl (by (try simp only [List.map_toArray, List.map_cons, List.map_nil]); first | done | rfl | (simp only [List.length_drop, List.length_take]; rfl)) ?_; (with_reducible refine (key_Bytes.calls t637 t638 t639 _ A2.out).mono ?_); rintro e w90 ⟨v640, rfl, ho0, hb⟩; refine ⟨_, rfl, ?_⟩; have n0_ := Aside0.mk (Kd.R_lower ho0 (below_size (by repeat (first | (with_reducible first | exact HB.out | apply below_alloc | apply pw_below_drewN | apply below_drew1) | exact HB.out)))); have n1_ := Aside0.mk (below_step (by repeat (first | (with_reducible first | exact HB.out | apply below_alloc | apply pw_below_drewN | apply below_drew1) | exact HB.out)) hb); clear HB; have HO641 := n0_; have HB := n1_; clear n0_ n1_; (try clear hb); (try clear hb2); (try clear hk); (try clear hi); (try clear ho0); obtain ⟨Ao91, co91, eo91⟩ := Kd.R_slice HO641.out; subst eo91) | ((with_reducible refine gate_callee (f := 23) rfl ?_); refine goesL_ (some 16) rfl rfl Tryd.func23 (by kernel_rfl) rfl #[.slice Ao91 t638.length co91] rfl (by (try simp only [List.map_toArray, List.map_cons, List.map_nil]); first | done | rfl | (simp only [List.length_drop, List.length_take]; rfl)) ?_; (with_reducible refine (key_From.calls k _ _ t638 t642 t643 _ ?side1 ?side2 A3.out).mono ?_); (case side1 => repeat (first | exact (Kd.R_reads' HO641.out).2.2 | (with_reducible refine Kd.C_alloc ?_ _) | (with_reducible refine Kd.C_drewN ?_ _) | (with_reducible refine Kd.C_drew ?_))); (case side2 => exact (Kd.R_reads' HO641.out).2.1); rintro e w92 ⟨rfl, hb⟩; refine ⟨_, rfl, ?_⟩; have n0_ := Aside0.mk (Kd.R_below (by (with_reducible repeat (first | apply Kd.R_alloc | apply Kd.R_drewN | apply Kd.R_drew)); exact HO641.out) hb); have n1_ := Aside0.mk (below_step (by repeat (first | (with_reducible first | exact HB.out | apply below_alloc | apply pw_below_drewN | apply below_drew1) | exact HB.out)) hb); clear HO641; clear HB; have HO641 := n0_; have HB := n1_; clear n0_ n1_; (try clear hb); (try clear hb2); (try clear hk); (try clear hi)) | ((with_reducible refine gate_callee (f := 21) rfl ?_); refine goesL_ (some 20) rfl rfl Tryd.func21 (by kernel_rfl) rfl #[.string (⟨#[120]⟩ : ByteArray)] rfl (by (try simp only [List.map_toArray, List.map_cons, List.map_nil]); first | done | rfl | (simp only [List.length_drop, List.length_take]; rfl)) ?_; (with_reducible refine (key_Bytes.calls (⟨#[120]⟩ : ByteArray) t644 t645 _ A4.out).mono ?_); rintro e w93 ⟨v646, rfl, ho0, hb⟩; refine ⟨_, rfl, ?_⟩; have n0_ := Aside0.mk (Kd.R_elder' (by (with_reducible repeat (first | apply Kd.R_alloc | apply Kd.R_drewN | apply Kd.R_drew)); exact HO641.out) (Kd.R_base ho0) hb); have n1_ := Aside0.mk (Kd.R_lower (Kd.R_new' ho0 (Kd.R_lt (by (with_reducible repeat (first | apply Kd.R_alloc | apply Kd.R_drewN | apply Kd.R_drew)); exact HO641.out))) (below_size (by repeat (first | (with_reducible first | exact HB.out | apply below_alloc | apply pw_below_drewN | apply below_drew1) | exact HB.out)))); have n2_ := Aside0.mk (below_step (by repeat (first | (with_reducible first | exact HB.out | apply below_alloc | apply pw_below_drewN | apply below_drew1) | exact HB.out)) hb); clear HO641; clear HB; have HO641 := n0_; have HO647 := n1_; have HB := n2_; clear n0_ n1_ n2_; (try clear hb); (try clear hb2); (try clear hk); (try clear hi); (try clear ho0)))
    go_ret
    exact ⟨by first | rfl | (simp [errW_none, errW_some] <;> rfl) | (simp [*, errW_none, errW_some] <;> rfl), by repeat (first | (with_reducible first | exact HB.out | apply below_alloc | apply pw_below_drewN | apply below_drew1) | exact HB.out)⟩
end Go.Proofs.YtbclnkhcnclfoaaDoor.Q
namespace Go.Proofs.YtbclnkhcnclfoaaDoor.Q
open Go.RowKit Go.Proofs.YtbclnkhcnclfoaaDoorW.PrintWords Go.Proofs.YtbclnkhcnclfoaaDoorW.PrintLast Go.Proofs.YtbclnkhcnclfoaaDoorW.PrintMore
set_option linter.unusedVariables false
set_option linter.unusedSimpArgs false
def hd_sum : List Int := [110, 52, 11, 156, 255, 179, 122, 152, 156, 165, 68, 230, 187, 120, 10, 44, 120, 144, 29, 63, 179, 55, 56, 118, 133, 17, 163, 6, 23, 175, 160, 29]
def hd_key : ByteArray := ⟨#[54, 101, 51, 52, 48, 98, 57, 99, 102, 102, 98, 51, 55, 97, 57, 56, 57, 99, 97, 53, 52, 52, 101, 54, 98, 98, 55, 56, 48, 97, 50, 99, 55, 56, 57, 48, 49, 100, 51, 102, 98, 51, 51, 55, 51, 56, 55, 54, 56, 53, 49, 49, 97, 51, 48, 54, 49, 55, 97, 102, 97, 48, 49, 100]⟩
theorem hd_sum_eq : key_sum 0 [] = hd_sum := by decide +kernel
theorem hd_key_eq : key_txt hd_sum = hd_key := by kernel_rfl
theorem hd_bytes : key_Bytes.f hd_key = some (hd_sum, 0) := by decide +kernel
theorem hd_bytes_x : key_Bytes.f (⟨#[120]⟩ : ByteArray) = some ([], 70) := by decide +kernel
theorem hd_merge : ([[98], [97]] : List (List UInt8)).mergeSort (fun x y => decide (x ≤ y)) = [[97], [98]] := by
  simp [List.mergeSort, List.merge, List.MergeSort.Internal.splitInTwo]
  decide
theorem hd_nub : key_nub [(⟨#[98]⟩ : ByteArray), ⟨#[97]⟩, ⟨#[98]⟩] = [⟨#[98]⟩, ⟨#[97]⟩] := by kernel_rfl
theorem hd_sort : key_Sort.f [(⟨#[98]⟩ : ByteArray), ⟨#[97]⟩, ⟨#[98]⟩] = some [⟨#[97]⟩, ⟨#[98]⟩] := by
  have hok : key_sorted.ok [(⟨#[98]⟩ : ByteArray), ⟨#[97]⟩, ⟨#[98]⟩] = true := by kernel_rfl
  unfold key_Sort.f api_Key_87.f
  rw [if_pos hok, hd_nub]
  have e : key_sortS [(⟨#[98]⟩ : ByteArray), ⟨#[97]⟩] = [⟨#[97]⟩, ⟨#[98]⟩] := by
    unfold key_sortS
    rw [show ([(⟨#[98]⟩ : ByteArray), ⟨#[97]⟩].map (·.data.toList)) = [[98], [97]] from rfl, hd_merge]
    rfl
  rw [e]
  rfl
theorem hd_same : Ev (fun k => palimpsestref07_Same.f k [(⟨#[97]⟩ : ByteArray), ⟨#[98]⟩] [⟨#[97]⟩, ⟨#[98]⟩]) true := Ev.of (palimpsestref07_Same.mono _ _) (k := 5) (by
  unfold palimpsestref07_Same.f
  simp [palimpsestref07_Same.l0, wrap64, rdOf])
theorem hd_find : Ev (fun k => key_Find.f k [(⟨#[97]⟩ : ByteArray), ⟨#[98]⟩] ⟨#[98]⟩) 1 := Ev.of (key_Find.mono _ _) (k := 5) (by
  unfold key_Find.f api_Key_88.f
  simp [api_Key_88.l0, wrap64, rdOf, ByteArray.toList_eq])
theorem hd_find0 : Ev (fun k => key_Find.f k ([] : List ByteArray) ⟨#[]⟩) (-1) := Ev.of (key_Find.mono _ _) (k := 5) (by
  unfold key_Find.f api_Key_88.f
  simp [api_Key_88.l0])
theorem heads_ev : Ev (fun k => palimpsestlaw07_heads.f k) true := by
  have e0 := key_Of.ev 0 [] (by simp)
  rw [hd_sum_eq, hd_key_eq] at e0
  have et := key_text.ev hd_sum (by decide) (by decide)
  rw [hd_key_eq] at et
  have ef : Ev (fun k => key_From.f k hd_sum) (hd_key, 0) := by
    unfold key_From.f
    refine Ev.congr (fun k => if_pos (by decide)) ?_
    exact Ev.bind et (Ev.now _)
  have s1 : (hd_key.size : Int) = 64 := by decide
  have s2 : (hd_key.extract 0 8).toList = ([54, 101, 51, 52, 48, 98, 57, 99] : List UInt8) := by rw [ByteArray.toList_eq]; decide
  have s3 : (0 : Int) ≤ 8 := by decide
  have s4 : (8 : Int) ≤ (hd_key.size : Int) := by rw [s1]; decide
  unfold palimpsestlaw07_heads.f
  refine Ev.bind e0 ?_
  simp only [hd_bytes, Option.bind_some]
  refine Ev.bind ef ?_
  simp only [hd_bytes_x, Option.bind_some, hd_sort]
  simp only [if_pos s1, if_pos s3, if_pos s4, if_pos s2, if_true]
  refine Ev.bind hd_same ?_
  simp only [if_true]
  refine Ev.bind hd_find ?_
  simp only [if_true]
  refine Ev.bind hd_find0 ?_
  exact Ev.now _
end Go.Proofs.YtbclnkhcnclfoaaDoor.Q
namespace Go.Proofs.YtbclnkhcnclfoaaDoor.Q
open Go.RowKit Go.Proofs.YtbclnkhcnclfoaaDoorW.PrintWords Go.Proofs.YtbclnkhcnclfoaaDoorW.PrintLast Go.Proofs.YtbclnkhcnclfoaaDoorW.PrintMore
attribute [local go_sem] max2_int min2_int max_two min_two max_three min_three max_four min_four   -- for this text's walks alone
set_option linter.unusedVariables false
set_option linter.unusedSimpArgs false
/-! ### palimpsestref07_Check: function 27 -/
def palimpsestref07_Check.f (k : Nat) (a0 : ByteArray) : Option (Bool) := (palimpsestref07_Bytes.f k a0).bind fun bt377 => (some (bt377.2 == 0))
theorem palimpsestref07_Check.mono : ∀ a0 k, LeO (palimpsestref07_Check.f k a0) (palimpsestref07_Check.f (k + 1) a0) := by
  intro a0 k
  unfold palimpsestref07_Check.f
  repeat' first
      | (with_reducible exact palimpsestref07_Bytes.mono _ _)
      | (with_reducible exact LeO.refl _)
      | (with_reducible exact LeO.none _)
      | (with_reducible refine LeO.ite ?_ ?_)
      | (with_reducible refine LeO.bind ?_ (fun _ => ?_))
      | exact palimpsestref07_Bytes.mono _ _
      | exact LeO.none _
      | refine LeO.ite ?_ ?_
      | refine LeO.bind ?_ (fun _ => ?_)
set_option maxHeartbeats 8000000 in
set_option maxRecDepth 100000 in
theorem palimpsestref07_Check.calls (k : Nat) (a0 : ByteArray) (r : Bool) (w : World) (h : palimpsestref07_Check.f k a0 = some r) :
    Calls Tryd.prog 27 #[.string a0] w fun e w' => e = .returned (.bool r) ∧ Below w.heap.size w w' := by
  have HB := Aside0.mk (Below.refl w.heap.size w)
  have H : ((palimpsestref07_Bytes.f k a0).bind fun bt377 => (some (bt377.2 == 0))) = some r := h
  clear h
  replace H := Option.bind_eq_some_iff.mp H
  obtain ⟨⟨t377, t378⟩, A20, H⟩ := H
  replace H : (some (t378 == 0)) = some r := H
  have A2 := Aside0.mk A20
  clear A20
  obtain rfl := Option.some.inj H
  go_enter Tryd.func27, Tryd.ntmps27
  go_wp2_with (first | ((with_reducible refine gate_callee (f := 22) rfl ?_); refine goesL_ (some 7) rfl rfl Tryd.func22 (by kernel_rfl) rfl #[.string a0] rfl (by (try simp only [List.map_toArray, List.map_cons, List.map_nil]); first | done | rfl | (simp only [List.length_drop, List.length_take]; rfl)) ?_; (with_reducible refine (palimpsestref07_Bytes.calls k a0 t377 t378 _ A2.out).mono ?_); rintro e w3 ⟨v379, rfl, ho0, hb⟩; refine ⟨_, rfl, ?_⟩; have n0_ := Aside0.mk (Kd.R_lower ho0 (below_size (by repeat (first | (with_reducible first | exact HB.out | apply below_alloc | apply pw_below_drewN | apply below_drew1) | exact HB.out)))); have n1_ := Aside0.mk (below_step (by repeat (first | (with_reducible first | exact HB.out | apply below_alloc | apply pw_below_drewN | apply below_drew1) | exact HB.out)) hb); clear HB; have HO380 := n0_; have HB := n1_; clear n0_ n1_; (try clear hb); (try clear hb2); (try clear hk); (try clear hi); (try clear ho0)))
  go_ret
  exact ⟨by first | rfl | (simp [errW_none, errW_some] <;> rfl) | (simp [*, errW_none, errW_some] <;> rfl), by repeat (first | (with_reducible first | exact HB.out | apply below_alloc | apply pw_below_drewN | apply below_drew1) | exact HB.out)⟩
end Go.Proofs.YtbclnkhcnclfoaaDoor.Q
namespace Go.Proofs.YtbclnkhcnclfoaaDoor.Q
open Go.RowKit Go.Proofs.YtbclnkhcnclfoaaDoorW.PrintWords Go.Proofs.YtbclnkhcnclfoaaDoorW.PrintLast Go.Proofs.YtbclnkhcnclfoaaDoorW.PrintMore
attribute [local go_sem] max2_int min2_int max_two min_two max_three min_three max_four min_four   -- for this text's walks alone
set_option linter.unusedVariables false
set_option linter.unusedSimpArgs false
/-! ### palimpsestref02_Same: function 28 -/
def palimpsestref02_Same.f (l0 : List Int) (l1 : List Int) : Option (Bool) := some ((strOfNums l0).toList == (strOfNums l1).toList)
set_option maxHeartbeats 8000000 in
set_option maxRecDepth 100000 in
theorem palimpsestref02_Same.calls (A0 : Option Addr) (c0 : Nat) (l0 : List Int) (A1 : Option Addr) (c1 : Nat) (l1 : List Int) (r : Bool) (w : World) (hr0 : Kd.C (Kd.int .u8) w A0 l0.length l0) (hc0 : l0.length ≤ c0) (hr1 : Kd.C (Kd.int .u8) w A1 l1.length l1) (hc1 : l1.length ≤ c1) (h : palimpsestref02_Same.f l0 l1 = some r) :
    Calls Tryd.prog 28 #[.slice A0 l0.length c0, .slice A1 l1.length c1] w fun e w' => e = .returned (.bool r) ∧ Drawn0 w w' := by
  have HR0 := Aside0.mk hr0
  have HC0 := Aside0.mk hc0
  clear hr0 hc0
  have HR1 := Aside0.mk hr1
  have HC1 := Aside0.mk hc1
  clear hr1 hc1
  have H : (some ((strOfNums l0).toList == (strOfNums l1).toList)) = some r := h
  clear h
  obtain rfl := Option.some.inj H
  have hcv3 := Kd.C_string (P := Tryd.prog) (A := A0) (c := c0) Tryd.underlying22 Tryd.underlying5 Tryd.underlying9 HR0.out
  have hcv4 := Kd.C_string (P := Tryd.prog) (A := A1) (c := c1) Tryd.underlying22 Tryd.underlying5 Tryd.underlying9 HR1.out
  go_enter Tryd.func28, Tryd.ntmps28
  go_wp2
  go_ret
  exact ⟨by first | rfl | (simp; done) | (simp [*]; done), by repeat (first | exact Drawn0.refl _ | apply Drawn0.step)⟩
end Go.Proofs.YtbclnkhcnclfoaaDoor.Q
