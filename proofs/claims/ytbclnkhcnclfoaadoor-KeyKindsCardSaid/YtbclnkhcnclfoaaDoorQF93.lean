-- Laid by wip/xprint.py (a program of this session, on the kit's printer) out of the translation. Not trusted: Lean checks it.
import Derived.Test.YtbclnkhcnclfoaaDoorQ0
namespace Go.Proofs.YtbclnkhcnclfoaaDoor.Q
open Go.RowKit Go.Proofs.YtbclnkhcnclfoaaDoorW.PrintWords Go.Proofs.YtbclnkhcnclfoaaDoorW.PrintLast Go.Proofs.YtbclnkhcnclfoaaDoorW.PrintMore
attribute [local go_sem] max2_int min2_int max_two min_two max_three min_three max_four min_four   -- for this text's walks alone
set_option linter.unusedVariables false
set_option linter.unusedSimpArgs false

/-! ### sha_primes: function 93 -/
theorem sha_primes.cl (p x : Int) (b : Nat) (w : World) (hc : w.cell? ⟨b, 0, none⟩ = some (.int .u64 x)) (hp : 2 ≤ p) (hx0 : 0 ≤ x) :
    Calls Tryd.prog 122 #[.int .u64 p, .pointer (some ⟨b, 0, none⟩)] w fun e w' => e = .returned (.bool (x % p == 0)) ∧ w = w' := by
  have hz : ¬ p = 0 := by omega
  go_enter Tryd.func122, Tryd.ntmps122
  go_wp2
  go_ret
  exact ⟨rfl, rfl⟩
def sha_primes.Idx (l : List Int) (x : Int) (w : World) (e : Ending) (w' : World) : Prop := ∃ i : Int, e = .returned (.int .i64 i) ∧ w = w' ∧ (decide (0 ≤ i) = l.any (fun p => x % p == 0))
theorem sha_primes.any_drop (l : List Int) (q : Int → Bool) (i : Nat) (hi : i < l.length) : (l.drop i).any q = (q (rd l i) || (l.drop (i + 1)).any q) := by
  rw [List.drop_eq_getElem_cons hi, List.any_cons]
  congr 2
  simp [rd, List.getD_eq_getElem?_getD, hi]
theorem sha_primes.idx (b : Nat) (x : Int) (hx0 : 0 ≤ x) (A : Option Addr) (c : Nat) (l : List Int) (w : World) (hr : Kd.C (Kd.int .u64) w A l.length l) (hb : w.cell? ⟨b, 0, none⟩ = some (.int .u64 x)) (hl : ∀ p ∈ l, 2 ≤ p) :
    Calls Tryd.prog 154 #[.slice A l.length c, .func (.func 122) #[] #[.pointer (some ⟨b, 0, none⟩)]] w (sha_primes.Idx l x w) := by
  have hlen : l.length ≤ 9223372036854775807 := hr.2.1
  have HL := Aside0.mk hl
  have HR := Aside0.mk hr
  have HBc := Aside0.mk hb
  clear hl hr hb
  go_enter Tryd.func154, Tryd.ntmps154
  go_wp2
  go_loopg [5, 8] (l.length) (fun g v5 v8 w' => ∃ i : Nat, v8 = .int .i64 i ∧ Aside0 (i + g = l.length) ∧ w' = w ∧ Aside0 (l.any (fun p => x % p == 0) = (l.drop i).any (fun p => x % p == 0)))
  case atStart => exact ⟨0, rfl, ⟨by omega⟩, rfl, ⟨by simp⟩⟩
  case round =>
    obtain ⟨i, rfl, hg, rfl, hany⟩ := hrel
    have hle : i ≤ l.length := by have := hg.out; omega
    by_cases hi : i < l.length
    · have hi' : (i : Int) < (l.length : Int) := by omega
      obtain ⟨ad, rfl, hc⟩ := Kd.at_int HR.out (i : Int) (by omega) (by omega)
      have hp2 : 2 ≤ rd l i := HL.out _ (by simp [rd, List.getD_eq_getElem?_getD, hi])
      simp only [Int.toNat_natCast] at hc
      have hq := sha_primes.any_drop l (fun p => x % p == 0) i hi
      have HQ := Aside0.mk hq
      clear hq
      obtain ⟨p, hp⟩ : ∃ p, rd l (i : Int) = p := ⟨_, rfl⟩
      rw [hp] at hc hp2 HQ
      clear hp
      by_cases hm : x % p = 0
      · have hm' : (x % p == 0) = true := by simp [hm]
        go_wp2_with (go_at_call 122; refine (sha_primes.cl _ _ _ _ HBc.out (by assumption) (by assumption)).mono ?_; rintro e w' ⟨rfl, rfl⟩)
        go_ret
        refine ⟨_, rfl, rfl, ?_⟩
        rw [hany.out, HQ.out, hm']
        simp
      · have hm' : (x % p == 0) = false := by simp [hm]
        go_wp2_with (go_at_call 122; refine (sha_primes.cl _ _ _ _ HBc.out (by assumption) (by assumption)).mono ?_; rintro e w' ⟨rfl, rfl⟩)
        obtain ⟨g', rfl⟩ : ∃ g', gk = g' + 1 := ⟨gk - 1, by have := hg.out; omega⟩
        go_roundg g'
        case measure => omega
        case rel => exact ⟨i + 1, by go_num, ⟨by have := hg.out; omega⟩, rfl, ⟨by rw [hany.out, HQ.out, hm']; simp⟩⟩
    · have hi' : ¬ (i : Int) < (l.length : Int) := by omega
      go_wp2
      go_ret
      refine ⟨_, rfl, rfl, ?_⟩
      rw [hany.out, List.drop_of_length_le (by omega)]
      rfl
def sha_primes.dv (out : List Int) (x : Int) : Bool := out.any (fun p => x % p == 0)
def sha_primes.Has (l : List Int) (x : Int) (w : World) (e : Ending) (w' : World) : Prop := e = .returned (.bool (sha_primes.dv l x)) ∧ w = w'
theorem sha_primes.has (b : Nat) (x : Int) (hx0 : 0 ≤ x) (A : Option Addr) (c : Nat) (l : List Int) (w : World) (hr : Kd.C (Kd.int .u64) w A l.length l) (hb : w.cell? ⟨b, 0, none⟩ = some (.int .u64 x)) (hl : ∀ p ∈ l, 2 ≤ p) :
    Calls Tryd.prog 121 #[.slice A l.length c, .func (.func 122) #[] #[.pointer (some ⟨b, 0, none⟩)]] w (sha_primes.Has l x w) := by
  have HL := Aside0.mk hl
  have HR := Aside0.mk hr
  have HBc := Aside0.mk hb
  clear hl hr hb
  go_enter Tryd.func121, Tryd.ntmps121
  go_wp2_with (go_at_call 154; refine (sha_primes.idx _ _ hx0 _ _ _ _ HR.out HBc.out HL.out).mono ?_; rintro e w' ⟨i, rfl, rfl, hi⟩; have HI := Aside0.mk hi; clear hi)
  go_ret
  exact ⟨by rw [sha_primes.dv, ← HI.out]; rfl, rfl⟩
def sha_primes.l0 : Nat → Int → List Int → Int → Option (List Int)
  | 0, _, _, _ => none
  | k + 1, n, out, x => if (out.length : Int) < n then (if x < 100000 then (if sha_primes.dv out x = true then sha_primes.l0 k n out (x + 1) else sha_primes.l0 k n (out ++ [x]) (x + 1)) else none) else some out
def sha_primes.f (k : Nat) (a0 : Int) : Option (List Int) := sha_primes.l0 k a0 [] 2
theorem sha_primes.mono_l : ∀ k, (∀ y0 y1 y2, LeO (sha_primes.l0 k y0 y1 y2) (sha_primes.l0 (k + 1) y0 y1 y2))
  | 0 => fun _ _ _ r h => by simp [sha_primes.l0] at h
  | k + 1 => by
    have ih0 := sha_primes.mono_l k
    intro y0 y1 y2
    unfold sha_primes.l0
    repeat' first
      | (with_reducible exact ih0 _ _ _)
      | (with_reducible exact LeO.refl _)
      | (with_reducible exact LeO.none _)
      | (with_reducible refine LeO.ite ?_ ?_)
theorem sha_primes.mono : ∀ a0 k, LeO (sha_primes.f k a0) (sha_primes.f (k + 1) a0) := fun a0 k => sha_primes.mono_l k _ _ _
theorem sha_primes.calls (k : Nat) (a0 : Int) (r : List Int) (w : World) (h : sha_primes.f k a0 = some r) :
    Calls Tryd.prog 93 #[.int .i64 a0] w fun e w' => ∃ v0_ : Value, e = .returned (v0_) ∧ Kd.R (Kd.int .u64) 84 w' w.heap.size (fun _ => True) v0_ r ∧ Below w.heap.size w w' := by
  have H' := Aside0.mk h
  clear h
  go_enter Tryd.func93, Tryd.ntmps93
  go_wp2
  go_loopg [3, 4] k (fun kq v3 v4 w' => ∃ (out : List Int) (x : Int) (b : Nat), v4 = .pointer (some ⟨b, 0, none⟩) ∧ Aside0 (sha_primes.l0 kq a0 out x = some r) ∧ Aside0 (kq ≤ k) ∧ Aside0 (w'.heap[b]? = some (.cells #[.int .u64 x] 84 (0, 0))) ∧ Aside0 (Kd.R (Kd.int .u64) 84 w' w.heap.size (fun k => k ≠ b) v3 out) ∧ Aside0 (Below w.heap.size w w') ∧ Aside0 (out.length + 2 ≤ x ∧ ∀ p ∈ out, 2 ≤ p) ∧ Aside0 (w.heap.size ≤ b))
  case atStart => exact ⟨[], 2, w.heap.size, rfl, H', ⟨Nat.le_refl _⟩, ⟨heap_alloc_new w _⟩, ⟨Kd.R_nil _ _ _ _ _⟩, ⟨below_alloc (Below.refl _ _) _⟩, ⟨by simp⟩, ⟨Nat.le_refl _⟩⟩
  case round =>
    clear H'
    obtain ⟨out, x, b, rfl, HA, HK1, Hx, HO, HB, HP, Hb⟩ := hrel
    cases gk with
    | zero => exact absurd HA.out (by simp [sha_primes.l0])
    | succ k1 =>
      have H := HA.out
      clear HA
      simp only [sha_primes.l0] at H
      obtain ⟨A, c, rfl, hlc, hC⟩ := Kd.R_reads HO.out
      have HC := Aside0.mk hC
      have HLC := Aside0.mk hlc
      clear hC hlc
      by_cases hn : (out.length : Int) < a0
      · rw [if_pos hn] at H
        have hnb : decide ((out.length : Int) < a0) = true := decide_eq_true hn
        clear hn
        by_cases hx : x < 100000
        · rw [if_pos hx] at H
          have hx2 : 2 ≤ x := by have := HP.out.1; omega
          have hcx : wr.cell? ⟨b, 0, none⟩ = some (.int .u64 x) := by rw [cell_of_row _ _ _ _ _ _ Hx.out]; rfl
          have hfx : wr.frozen? ⟨b, 0, none⟩ = false := blk_frozen Hx.out 0
          have hlt : b < wr.heap.size := blk_lt Hx.out
          by_cases hd : sha_primes.dv out x = true
          · rw [if_pos hd] at H
            have H' := Aside0.mk H
            clear H
            go_wp2_with (go_at_call 121; refine (sha_primes.has _ x (by omega) _ _ _ _ HC.out hcx HP.out.2).mono ?_; rintro e w' ⟨rfl, rfl⟩)
            go_roundg k1
            case measure => have := HK1.out; omega
            case rel => exact ⟨out, x + 1, _, rfl, H', ⟨by have := HK1.out; omega⟩, ⟨heap_alloc_new wr _⟩, ⟨Kd.R_below (Kd.R_mono (Kd.R_bound HO.out) (fun k hk => Nat.ne_of_lt hk.2.2.1)) (below_alloc (Below.refl _ _) _)⟩, ⟨below_alloc HB.out _⟩, ⟨by have := HP.out; exact ⟨by omega, this.2⟩⟩, ⟨HB.out.size⟩⟩
          · have hd' : sha_primes.dv out x = false := by simpa using hd
            rw [if_neg hd] at H
            have H' := Aside0.mk H
            clear H hd
            have hlen : out.length < 1000000 := by have := HP.out.1; omega
            have hne : some b ≠ (Value.slice A out.length c).ownBlock := fun he => HO.out.1 b he.symm rfl
            go_wp2_with (first | (go_at_call 121; refine (sha_primes.has _ x (by omega) _ _ _ _ HC.out hcx HP.out.2).mono ?_; rintro e w' ⟨rfl, rfl⟩) | ((with_reducible refine gate_builtin (b := .append) (xs := #[.tmp 15, .tmp 17]) rfl ?_); at_builtin; refine Kd.R_append (Kd.int .u64) (w0 := w) w.heap.size rfl (.tmp 15) (.tmp 17) 132 84 (.int .u64 0) 8 rfl Tryd.underlying132 info84 rfl (by decide) (by omega) (.slice A out.length c) out x [.int .u64 x] (fun k => k ≠ b) (fun _ => False) rfl rfl ?aP (fun _ hk => hk.elim) ?aF HO.out HB.out HB.out.size ?aL ?_; (case aP => exact rfl); (case aF => exact (fun k hk => by omega)); (case aL => omega); intro v1 w1 ho hb hg hat; have Ho := Aside0.mk ho; have Hb1 := Aside0.mk hb; have Hx1 := Aside0.mk (blk_grown Hx.out hg hne); clear ho hb hg hat; have hcx1 : w1.cell? ⟨b, 0, none⟩ = some (.int .u64 x) := (blk_cell Hx1.out 0).trans rfl; have hfx1 : w1.frozen? ⟨b, 0, none⟩ = false := blk_frozen Hx1.out 0; have hlt1 : b < w1.heap.size := blk_lt Hx1.out))
            go_roundg k1
            case measure => have := HK1.out; omega
            case rel => exact ⟨out ++ [x], x + 1, _, rfl, H', ⟨by have := HK1.out; omega⟩, ⟨heap_alloc_new w1 _⟩, ⟨Kd.R_below (Kd.R_mono (Kd.R_bound Ho.out) (fun k hk => Nat.ne_of_lt hk.2.2.1)) (below_alloc (Below.refl _ _) _)⟩, ⟨below_alloc Hb1.out _⟩, ⟨by have := HP.out; refine ⟨by simp; omega, fun p hp => ?_⟩; rcases List.mem_append.1 hp with hp | hp; exact this.2 p hp; simp at hp; omega⟩, ⟨Hb1.out.size⟩⟩
        · rw [if_neg hx] at H; cases H
      · rw [if_neg hn] at H
        have hnb : decide ((out.length : Int) < a0) = false := decide_eq_false hn
        clear hn
        obtain rfl := Option.some.inj H
        go_wp2
        go_ret
        exact ⟨_, rfl, Kd.R_mono HO.out (fun _ _ => trivial), HB.out⟩


end Go.Proofs.YtbclnkhcnclfoaaDoor.Q
