-- Laid by wip/xprint.py (a program of this session, on the kit's printer) out of the translation. Not trusted: Lean checks it.
import Derived.Test.YtbclnkhcnclfoaaDoorQ0
import Derived.Test.YtbclnkhcnclfoaaDoorQF155
import Derived.Test.YtbclnkhcnclfoaaDoorQF156
namespace Go.Proofs.YtbclnkhcnclfoaaDoor.Q
open Go.RowKit Go.Proofs.YtbclnkhcnclfoaaDoorW.PrintWords Go.Proofs.YtbclnkhcnclfoaaDoorW.PrintLast Go.Proofs.YtbclnkhcnclfoaaDoorW.PrintMore
attribute [local go_sem] max2_int min2_int max_two min_two max_three min_three max_four min_four   -- for this text's walks alone
set_option linter.unusedVariables false
set_option linter.unusedSimpArgs false

/-! ### sha_less: function 123 -/
def sha_less.f (a0 : Int) (a1 : Int) (a2 : Bool) : Option (Bool) := (bits_Mul64.f a0 a0).bind fun bt559 => (if a2 = true then ((bits_Mul64.f bt559.2 a0).bind fun bt561 => ((bits_Mul64.f bt559.1 a0).bind fun bt563 => ((bits_Add64.f bt561.1 bt563.2 0).bind fun bt565 => (if (IntKind.u64.wrap (bt563.1 + bt565.2)) < (a1 / 4294967296) then (some true) else (if (IntKind.u64.wrap (bt563.1 + bt565.2)) = (a1 / 4294967296) then (if bt565.1 < (IntKind.u64.wrap (a1 * 4294967296)) then (some true) else (if bt565.1 = (IntKind.u64.wrap (a1 * 4294967296)) then (some (bt561.2 == 0)) else (some false))) else (some false)))))) else (if bt559.1 < a1 then (some true) else (if bt559.1 = a1 then (some (bt559.2 == 0)) else (some false))))
set_option maxHeartbeats 8000000 in
set_option maxRecDepth 100000 in
theorem sha_less.calls (a0 : Int) (a1 : Int) (a2 : Bool) (r : Bool) (w : World) (h : sha_less.f a0 a1 a2 = some r) :
    Calls Tryd.prog 123 #[.int .u64 a0, .int .u64 a1, .bool a2] w fun e w' => e = .returned (.bool r) ∧ Drawn0 w w' := by
  have H : ((bits_Mul64.f a0 a0).bind fun bt559 => (if a2 = true then ((bits_Mul64.f bt559.2 a0).bind fun bt561 => ((bits_Mul64.f bt559.1 a0).bind fun bt563 => ((bits_Add64.f bt561.1 bt563.2 0).bind fun bt565 => (if (IntKind.u64.wrap (bt563.1 + bt565.2)) < (a1 / 4294967296) then (some true) else (if (IntKind.u64.wrap (bt563.1 + bt565.2)) = (a1 / 4294967296) then (if bt565.1 < (IntKind.u64.wrap (a1 * 4294967296)) then (some true) else (if bt565.1 = (IntKind.u64.wrap (a1 * 4294967296)) then (some (bt561.2 == 0)) else (some false))) else (some false)))))) else (if bt559.1 < a1 then (some true) else (if bt559.1 = a1 then (some (bt559.2 == 0)) else (some false))))) = some r := h
  clear h
  replace H := Option.bind_eq_some_iff.mp H
  obtain ⟨⟨t559, t560⟩, A40, H⟩ := H
  replace H : (if a2 = true then ((bits_Mul64.f t560 a0).bind fun bt561 => ((bits_Mul64.f t559 a0).bind fun bt563 => ((bits_Add64.f bt561.1 bt563.2 0).bind fun bt565 => (if (IntKind.u64.wrap (bt563.1 + bt565.2)) < (a1 / 4294967296) then (some true) else (if (IntKind.u64.wrap (bt563.1 + bt565.2)) = (a1 / 4294967296) then (if bt565.1 < (IntKind.u64.wrap (a1 * 4294967296)) then (some true) else (if bt565.1 = (IntKind.u64.wrap (a1 * 4294967296)) then (some (bt561.2 == 0)) else (some false))) else (some false)))))) else (if t559 < a1 then (some true) else (if t559 = a1 then (some (t560 == 0)) else (some false)))) = some r := H
  have A4 := Aside0.mk A40
  clear A40
  by_cases c5 : a2 = true
  · subst c5
    have H1 : ((bits_Mul64.f t560 a0).bind fun bt561 => ((bits_Mul64.f t559 a0).bind fun bt563 => ((bits_Add64.f bt561.1 bt563.2 0).bind fun bt565 => (if (IntKind.u64.wrap (bt563.1 + bt565.2)) < (a1 / 4294967296) then (some true) else (if (IntKind.u64.wrap (bt563.1 + bt565.2)) = (a1 / 4294967296) then (if bt565.1 < (IntKind.u64.wrap (a1 * 4294967296)) then (some true) else (if bt565.1 = (IntKind.u64.wrap (a1 * 4294967296)) then (some (bt561.2 == 0)) else (some false))) else (some false)))))) = some r := by rw [if_pos rfl] at H; exact H
    clear H
    have H := H1
    clear H1
    replace H := Option.bind_eq_some_iff.mp H
    obtain ⟨⟨t561, t562⟩, A60, H⟩ := H
    replace H : ((bits_Mul64.f t559 a0).bind fun bt563 => ((bits_Add64.f t561 bt563.2 0).bind fun bt565 => (if (IntKind.u64.wrap (bt563.1 + bt565.2)) < (a1 / 4294967296) then (some true) else (if (IntKind.u64.wrap (bt563.1 + bt565.2)) = (a1 / 4294967296) then (if bt565.1 < (IntKind.u64.wrap (a1 * 4294967296)) then (some true) else (if bt565.1 = (IntKind.u64.wrap (a1 * 4294967296)) then (some (t562 == 0)) else (some false))) else (some false))))) = some r := H
    have A6 := Aside0.mk A60
    clear A60
    replace H := Option.bind_eq_some_iff.mp H
    obtain ⟨⟨t563, t564⟩, A70, H⟩ := H
    replace H : ((bits_Add64.f t561 t564 0).bind fun bt565 => (if (IntKind.u64.wrap (t563 + bt565.2)) < (a1 / 4294967296) then (some true) else (if (IntKind.u64.wrap (t563 + bt565.2)) = (a1 / 4294967296) then (if bt565.1 < (IntKind.u64.wrap (a1 * 4294967296)) then (some true) else (if bt565.1 = (IntKind.u64.wrap (a1 * 4294967296)) then (some (t562 == 0)) else (some false))) else (some false)))) = some r := H
    have A7 := Aside0.mk A70
    clear A70
    replace H := Option.bind_eq_some_iff.mp H
    obtain ⟨⟨t565, t566⟩, A80, H⟩ := H
    replace H : (if (IntKind.u64.wrap (t563 + t566)) < (a1 / 4294967296) then (some true) else (if (IntKind.u64.wrap (t563 + t566)) = (a1 / 4294967296) then (if t565 < (IntKind.u64.wrap (a1 * 4294967296)) then (some true) else (if t565 = (IntKind.u64.wrap (a1 * 4294967296)) then (some (t562 == 0)) else (some false))) else (some false))) = some r := H
    have A8 := Aside0.mk A80
    clear A80
    by_cases c9 : (IntKind.u64.wrap (t563 + t566)) < (a1 / 4294967296)
    · rw [if_pos c9] at H
      have c9b0 : decide ((IntKind.u64.wrap (t563 + t566)) < (a1 / 4294967296)) = true := decide_eq_true c9
      clear c9
      obtain rfl := Option.some.inj H
      go_enter Tryd.func123, Tryd.ntmps123
      have R156_A8 := bits_Add64.run t561 t564 0 t565 t566 A8.out
      go_wp2_with (first | ((with_reducible refine gate_callee (f := 155) rfl ?_); refine goesL_ (some 21) rfl rfl Tryd.func155 (by kernel_rfl) rfl #[.int .u64 a0, .int .u64 a0] rfl (by (try simp only [List.map_toArray, List.map_cons, List.map_nil]); first | done | rfl | (simp only [List.length_drop, List.length_take]; rfl)) ?_; (with_reducible refine (bits_Mul64.calls a0 a0 t559 t560 _ A4.out).mono ?_); rintro e w' ⟨rfl, ⟨nd, rfl⟩⟩; refine ⟨_, rfl, ?_⟩) | ((with_reducible refine gate_callee (f := 155) rfl ?_); refine goesL_ (some 41) rfl rfl Tryd.func155 (by kernel_rfl) rfl #[.int .u64 t560, .int .u64 a0] rfl (by (try simp only [List.map_toArray, List.map_cons, List.map_nil]); first | done | rfl | (simp only [List.length_drop, List.length_take]; rfl)) ?_; (with_reducible refine (bits_Mul64.calls t560 a0 t561 t562 _ A6.out).mono ?_); rintro e w' ⟨rfl, ⟨nd, rfl⟩⟩; refine ⟨_, rfl, ?_⟩) | ((with_reducible refine gate_callee (f := 155) rfl ?_); refine goesL_ (some 47) rfl rfl Tryd.func155 (by kernel_rfl) rfl #[.int .u64 t559, .int .u64 a0] rfl (by (try simp only [List.map_toArray, List.map_cons, List.map_nil]); first | done | rfl | (simp only [List.length_drop, List.length_take]; rfl)) ?_; (with_reducible refine (bits_Mul64.calls t559 a0 t563 t564 _ A7.out).mono ?_); rintro e w' ⟨rfl, ⟨nd, rfl⟩⟩; refine ⟨_, rfl, ?_⟩))
      go_ret
      exact ⟨by first | rfl | (simp; done) | (simp [*]; done), by repeat (first | exact Drawn0.refl _ | apply Drawn0.step)⟩
    · rw [if_neg c9] at H
      have c9b0 : decide ((IntKind.u64.wrap (t563 + t566)) < (a1 / 4294967296)) = false := decide_eq_false c9
      clear c9
      by_cases c10 : (IntKind.u64.wrap (t563 + t566)) = (a1 / 4294967296)
      · rw [if_pos c10] at H
        have c10b0 : ((IntKind.u64.wrap (t563 + t566)) == (a1 / 4294967296)) = true := beq_iff_eq.mpr c10
        have c10b1 : ((IntKind.u64.wrap (t563 + t566)) != (a1 / 4294967296)) = false := bne_eq_false_iff_eq.mpr c10
        clear c10
        by_cases c11 : t565 < (IntKind.u64.wrap (a1 * 4294967296))
        · rw [if_pos c11] at H
          have c11b0 : decide (t565 < (IntKind.u64.wrap (a1 * 4294967296))) = true := decide_eq_true c11
          clear c11
          obtain rfl := Option.some.inj H
          go_enter Tryd.func123, Tryd.ntmps123
          have R156_A8 := bits_Add64.run t561 t564 0 t565 t566 A8.out
          go_wp2_with (first | ((with_reducible refine gate_callee (f := 155) rfl ?_); refine goesL_ (some 21) rfl rfl Tryd.func155 (by kernel_rfl) rfl #[.int .u64 a0, .int .u64 a0] rfl (by (try simp only [List.map_toArray, List.map_cons, List.map_nil]); first | done | rfl | (simp only [List.length_drop, List.length_take]; rfl)) ?_; (with_reducible refine (bits_Mul64.calls a0 a0 t559 t560 _ A4.out).mono ?_); rintro e w' ⟨rfl, ⟨nd, rfl⟩⟩; refine ⟨_, rfl, ?_⟩) | ((with_reducible refine gate_callee (f := 155) rfl ?_); refine goesL_ (some 41) rfl rfl Tryd.func155 (by kernel_rfl) rfl #[.int .u64 t560, .int .u64 a0] rfl (by (try simp only [List.map_toArray, List.map_cons, List.map_nil]); first | done | rfl | (simp only [List.length_drop, List.length_take]; rfl)) ?_; (with_reducible refine (bits_Mul64.calls t560 a0 t561 t562 _ A6.out).mono ?_); rintro e w' ⟨rfl, ⟨nd, rfl⟩⟩; refine ⟨_, rfl, ?_⟩) | ((with_reducible refine gate_callee (f := 155) rfl ?_); refine goesL_ (some 47) rfl rfl Tryd.func155 (by kernel_rfl) rfl #[.int .u64 t559, .int .u64 a0] rfl (by (try simp only [List.map_toArray, List.map_cons, List.map_nil]); first | done | rfl | (simp only [List.length_drop, List.length_take]; rfl)) ?_; (with_reducible refine (bits_Mul64.calls t559 a0 t563 t564 _ A7.out).mono ?_); rintro e w' ⟨rfl, ⟨nd, rfl⟩⟩; refine ⟨_, rfl, ?_⟩))
          go_ret
          exact ⟨by first | rfl | (simp; done) | (simp [*]; done), by repeat (first | exact Drawn0.refl _ | apply Drawn0.step)⟩
        · rw [if_neg c11] at H
          have c11b0 : decide (t565 < (IntKind.u64.wrap (a1 * 4294967296))) = false := decide_eq_false c11
          clear c11
          by_cases c12 : t565 = (IntKind.u64.wrap (a1 * 4294967296))
          · rw [if_pos c12] at H
            have c12b0 : (t565 == (IntKind.u64.wrap (a1 * 4294967296))) = true := beq_iff_eq.mpr c12
            have c12b1 : (t565 != (IntKind.u64.wrap (a1 * 4294967296))) = false := bne_eq_false_iff_eq.mpr c12
            clear c12
            obtain rfl := Option.some.inj H
            go_enter Tryd.func123, Tryd.ntmps123
            have R156_A8 := bits_Add64.run t561 t564 0 t565 t566 A8.out
            go_wp2_with (first | ((with_reducible refine gate_callee (f := 155) rfl ?_); refine goesL_ (some 21) rfl rfl Tryd.func155 (by kernel_rfl) rfl #[.int .u64 a0, .int .u64 a0] rfl (by (try simp only [List.map_toArray, List.map_cons, List.map_nil]); first | done | rfl | (simp only [List.length_drop, List.length_take]; rfl)) ?_; (with_reducible refine (bits_Mul64.calls a0 a0 t559 t560 _ A4.out).mono ?_); rintro e w' ⟨rfl, ⟨nd, rfl⟩⟩; refine ⟨_, rfl, ?_⟩) | ((with_reducible refine gate_callee (f := 155) rfl ?_); refine goesL_ (some 41) rfl rfl Tryd.func155 (by kernel_rfl) rfl #[.int .u64 t560, .int .u64 a0] rfl (by (try simp only [List.map_toArray, List.map_cons, List.map_nil]); first | done | rfl | (simp only [List.length_drop, List.length_take]; rfl)) ?_; (with_reducible refine (bits_Mul64.calls t560 a0 t561 t562 _ A6.out).mono ?_); rintro e w' ⟨rfl, ⟨nd, rfl⟩⟩; refine ⟨_, rfl, ?_⟩) | ((with_reducible refine gate_callee (f := 155) rfl ?_); refine goesL_ (some 47) rfl rfl Tryd.func155 (by kernel_rfl) rfl #[.int .u64 t559, .int .u64 a0] rfl (by (try simp only [List.map_toArray, List.map_cons, List.map_nil]); first | done | rfl | (simp only [List.length_drop, List.length_take]; rfl)) ?_; (with_reducible refine (bits_Mul64.calls t559 a0 t563 t564 _ A7.out).mono ?_); rintro e w' ⟨rfl, ⟨nd, rfl⟩⟩; refine ⟨_, rfl, ?_⟩))
            go_ret
            exact ⟨by first | rfl | (simp; done) | (simp [*]; done), by repeat (first | exact Drawn0.refl _ | apply Drawn0.step)⟩
          · rw [if_neg c12] at H
            have c12b0 : (t565 == (IntKind.u64.wrap (a1 * 4294967296))) = false := beq_eq_false_iff_ne.mpr c12
            have c12b1 : (t565 != (IntKind.u64.wrap (a1 * 4294967296))) = true := bne_iff_ne.mpr c12
            obtain rfl := Option.some.inj H
            go_enter Tryd.func123, Tryd.ntmps123
            have R156_A8 := bits_Add64.run t561 t564 0 t565 t566 A8.out
            go_wp2_with (first | ((with_reducible refine gate_callee (f := 155) rfl ?_); refine goesL_ (some 21) rfl rfl Tryd.func155 (by kernel_rfl) rfl #[.int .u64 a0, .int .u64 a0] rfl (by (try simp only [List.map_toArray, List.map_cons, List.map_nil]); first | done | rfl | (simp only [List.length_drop, List.length_take]; rfl)) ?_; (with_reducible refine (bits_Mul64.calls a0 a0 t559 t560 _ A4.out).mono ?_); rintro e w' ⟨rfl, ⟨nd, rfl⟩⟩; refine ⟨_, rfl, ?_⟩) | ((with_reducible refine gate_callee (f := 155) rfl ?_); refine goesL_ (some 41) rfl rfl Tryd.func155 (by kernel_rfl) rfl #[.int .u64 t560, .int .u64 a0] rfl (by (try simp only [List.map_toArray, List.map_cons, List.map_nil]); first | done | rfl | (simp only [List.length_drop, List.length_take]; rfl)) ?_; (with_reducible refine (bits_Mul64.calls t560 a0 t561 t562 _ A6.out).mono ?_); rintro e w' ⟨rfl, ⟨nd, rfl⟩⟩; refine ⟨_, rfl, ?_⟩) | ((with_reducible refine gate_callee (f := 155) rfl ?_); refine goesL_ (some 47) rfl rfl Tryd.func155 (by kernel_rfl) rfl #[.int .u64 t559, .int .u64 a0] rfl (by (try simp only [List.map_toArray, List.map_cons, List.map_nil]); first | done | rfl | (simp only [List.length_drop, List.length_take]; rfl)) ?_; (with_reducible refine (bits_Mul64.calls t559 a0 t563 t564 _ A7.out).mono ?_); rintro e w' ⟨rfl, ⟨nd, rfl⟩⟩; refine ⟨_, rfl, ?_⟩))
            go_ret
            exact ⟨by first | rfl | (simp; done) | (simp [*]; done), by repeat (first | exact Drawn0.refl _ | apply Drawn0.step)⟩
      · rw [if_neg c10] at H
        have c10b0 : ((IntKind.u64.wrap (t563 + t566)) == (a1 / 4294967296)) = false := beq_eq_false_iff_ne.mpr c10
        have c10b1 : ((IntKind.u64.wrap (t563 + t566)) != (a1 / 4294967296)) = true := bne_iff_ne.mpr c10
        obtain rfl := Option.some.inj H
        go_enter Tryd.func123, Tryd.ntmps123
        have R156_A8 := bits_Add64.run t561 t564 0 t565 t566 A8.out
        go_wp2_with (first | ((with_reducible refine gate_callee (f := 155) rfl ?_); refine goesL_ (some 21) rfl rfl Tryd.func155 (by kernel_rfl) rfl #[.int .u64 a0, .int .u64 a0] rfl (by (try simp only [List.map_toArray, List.map_cons, List.map_nil]); first | done | rfl | (simp only [List.length_drop, List.length_take]; rfl)) ?_; (with_reducible refine (bits_Mul64.calls a0 a0 t559 t560 _ A4.out).mono ?_); rintro e w' ⟨rfl, ⟨nd, rfl⟩⟩; refine ⟨_, rfl, ?_⟩) | ((with_reducible refine gate_callee (f := 155) rfl ?_); refine goesL_ (some 41) rfl rfl Tryd.func155 (by kernel_rfl) rfl #[.int .u64 t560, .int .u64 a0] rfl (by (try simp only [List.map_toArray, List.map_cons, List.map_nil]); first | done | rfl | (simp only [List.length_drop, List.length_take]; rfl)) ?_; (with_reducible refine (bits_Mul64.calls t560 a0 t561 t562 _ A6.out).mono ?_); rintro e w' ⟨rfl, ⟨nd, rfl⟩⟩; refine ⟨_, rfl, ?_⟩) | ((with_reducible refine gate_callee (f := 155) rfl ?_); refine goesL_ (some 47) rfl rfl Tryd.func155 (by kernel_rfl) rfl #[.int .u64 t559, .int .u64 a0] rfl (by (try simp only [List.map_toArray, List.map_cons, List.map_nil]); first | done | rfl | (simp only [List.length_drop, List.length_take]; rfl)) ?_; (with_reducible refine (bits_Mul64.calls t559 a0 t563 t564 _ A7.out).mono ?_); rintro e w' ⟨rfl, ⟨nd, rfl⟩⟩; refine ⟨_, rfl, ?_⟩))
        go_ret
        exact ⟨by first | rfl | (simp; done) | (simp [*]; done), by repeat (first | exact Drawn0.refl _ | apply Drawn0.step)⟩
  · replace c5 := Bool.eq_false_iff.mpr c5
    subst c5
    have H1 : (if t559 < a1 then (some true) else (if t559 = a1 then (some (t560 == 0)) else (some false))) = some r := by rw [if_neg (show ¬ (false = true) by decide)] at H; exact H
    clear H
    have H := H1
    clear H1
    by_cases c13 : t559 < a1
    · rw [if_pos c13] at H
      have c13b0 : decide (t559 < a1) = true := decide_eq_true c13
      clear c13
      obtain rfl := Option.some.inj H
      go_enter Tryd.func123, Tryd.ntmps123
      go_wp2_with (first | ((with_reducible refine gate_callee (f := 155) rfl ?_); refine goesL_ (some 21) rfl rfl Tryd.func155 (by kernel_rfl) rfl #[.int .u64 a0, .int .u64 a0] rfl (by (try simp only [List.map_toArray, List.map_cons, List.map_nil]); first | done | rfl | (simp only [List.length_drop, List.length_take]; rfl)) ?_; (with_reducible refine (bits_Mul64.calls a0 a0 t559 t560 _ A4.out).mono ?_); rintro e w' ⟨rfl, ⟨nd, rfl⟩⟩; refine ⟨_, rfl, ?_⟩))
      go_ret
      exact ⟨by first | rfl | (simp; done) | (simp [*]; done), by repeat (first | exact Drawn0.refl _ | apply Drawn0.step)⟩
    · rw [if_neg c13] at H
      have c13b0 : decide (t559 < a1) = false := decide_eq_false c13
      clear c13
      by_cases c14 : t559 = a1
      · rw [if_pos c14] at H
        have c14b0 : (t559 == a1) = true := beq_iff_eq.mpr c14
        have c14b1 : (t559 != a1) = false := bne_eq_false_iff_eq.mpr c14
        clear c14
        obtain rfl := Option.some.inj H
        go_enter Tryd.func123, Tryd.ntmps123
        go_wp2_with (first | ((with_reducible refine gate_callee (f := 155) rfl ?_); refine goesL_ (some 21) rfl rfl Tryd.func155 (by kernel_rfl) rfl #[.int .u64 a0, .int .u64 a0] rfl (by (try simp only [List.map_toArray, List.map_cons, List.map_nil]); first | done | rfl | (simp only [List.length_drop, List.length_take]; rfl)) ?_; (with_reducible refine (bits_Mul64.calls a0 a0 t559 t560 _ A4.out).mono ?_); rintro e w' ⟨rfl, ⟨nd, rfl⟩⟩; refine ⟨_, rfl, ?_⟩))
        go_ret
        exact ⟨by first | rfl | (simp; done) | (simp [*]; done), by repeat (first | exact Drawn0.refl _ | apply Drawn0.step)⟩
      · rw [if_neg c14] at H
        have c14b0 : (t559 == a1) = false := beq_eq_false_iff_ne.mpr c14
        have c14b1 : (t559 != a1) = true := bne_iff_ne.mpr c14
        obtain rfl := Option.some.inj H
        go_enter Tryd.func123, Tryd.ntmps123
        go_wp2_with (first | ((with_reducible refine gate_callee (f := 155) rfl ?_); refine goesL_ (some 21) rfl rfl Tryd.func155 (by kernel_rfl) rfl #[.int .u64 a0, .int .u64 a0] rfl (by (try simp only [List.map_toArray, List.map_cons, List.map_nil]); first | done | rfl | (simp only [List.length_drop, List.length_take]; rfl)) ?_; (with_reducible refine (bits_Mul64.calls a0 a0 t559 t560 _ A4.out).mono ?_); rintro e w' ⟨rfl, ⟨nd, rfl⟩⟩; refine ⟨_, rfl, ?_⟩))
        go_ret
        exact ⟨by first | rfl | (simp; done) | (simp [*]; done), by repeat (first | exact Drawn0.refl _ | apply Drawn0.step)⟩

end Go.Proofs.YtbclnkhcnclfoaaDoor.Q
