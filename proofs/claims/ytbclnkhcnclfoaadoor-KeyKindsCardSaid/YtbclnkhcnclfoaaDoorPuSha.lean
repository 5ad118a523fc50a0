import Derived.Test.YtbclnkhcnclfoaaDoorQF20
namespace Go.Proofs.YtbclnkhcnclfoaaDoor.Q
open Go.RowKit Go.Proofs.YtbclnkhcnclfoaaDoorW.PrintWords Go.Proofs.YtbclnkhcnclfoaaDoorW.PrintLast Go.Proofs.YtbclnkhcnclfoaaDoorW.PrintMore
set_option linter.unusedVariables false
set_option linter.unusedSimpArgs false
def sha_h0 : List Int := [1779033703, 3144134277, 1013904242, 2773480762, 1359893119, 2600822924, 528734635, 1541459225]
def sha_ks : List Int := [1116352408, 1899447441, 3049323471, 3921009573, 961987163, 1508970993, 2453635748, 2870763221, 3624381080, 310598401, 607225278, 1426881987, 1925078388, 2162078206, 2614888103, 3248222580, 3835390401, 4022224774, 264347078, 604807628, 770255983, 1249150122, 1555081692, 1996064986, 2554220882, 2821834349, 2952996808, 3210313671, 3336571891, 3584528711, 113926993, 338241895, 666307205, 773529912, 1294757372, 1396182291, 1695183700, 1986661051, 2177026350, 2456956037, 2730485921, 2820302411, 3259730800, 3345764771, 3516065817, 3600352804, 4094571909, 275423344, 430227734, 506948616, 659060556, 883997877, 958139571, 1322822218, 1537002063, 1747873779, 1955562222, 2024104815, 2227730452, 2361852424, 2428436474, 2756734187, 3204031479, 3329325298]
theorem sha_primes8 : sha_primes.f 400 8 = some [2, 3, 5, 7, 11, 13, 17, 19] := by decide +kernel
theorem sha_root2 : sha_root.f 60 2 false = some 1779033703 := by decide +kernel
theorem sha_New.at : sha_New.f 400 = some (sha_h0, [], 0) := by decide +kernel
theorem sha_constants.at : sha_constants.f 400 = some sha_ks := by decide +kernel
/-- From some number of rounds on, for all that a loop's answer hangs on: one more. -/
theorem Ev.of_eq {α : Type} {g : Nat → Option α} {r r' : α} (h : Ev g r) (e : r = r') : Ev g r' := e ▸ h
theorem Ev.if_pos' {α : Type} {c : Nat → Prop} [∀ k, Decidable (c k)] {f g : Nat → Option α} {r : α} (h : ∀ k, c k) (k : Ev f r) : Ev (fun n => if c n then f n else g n) r :=
  Ev.congr (fun n => if_pos (h n)) k
theorem wrap_u {x : Int} (h0 : -9223372036854775808 ≤ x) (h1 : x ≤ 9223372036854775807) : wrap64 x = x := IntWalk.wrap64_in x ⟨h0, h1⟩
/-! ### sha.New, sha.constants: closed -/
theorem sha_New.ev : Ev (fun k => sha_New.f k) (sha_h0, [], 0) := Ev.of sha_New.mono sha_New.at
theorem sha_constants.ev : Ev sha_constants.f sha_ks := Ev.of sha_constants.mono sha_constants.at
/-! ### blocks -/
def sha_run : Nat → List Int → List Int → List Int × List Int
  | 0, h, all => (h, all)
  | n + 1, h, all => sha_run n (sha_block sha_ks (all.take 64) (V8.of h)) (all.drop 64)
theorem sha_block_len (ks bl : List Int) (h : List Int) : (sha_block ks bl (V8.of h)).length = 8 := by
  rw [sha_block, sha_adds_len]
  rfl
theorem sha_run_ev : ∀ (n : Nat) (h all : List Int), 64 * n ≤ all.length → all.length < 64 * (n + 1) → Ev (fun k => sha_loop sha_ks k h all) (sha_run n h all)
  | 0, h, all, _, h2 => Ev.step (f := fun _ => some (h, all)) (fun k => by simp only [sha_loop]; rw [if_neg (by omega)]) (Ev.now _)
  | n + 1, h, all, h1, h2 => Ev.step (f := fun k => sha_loop sha_ks k (sha_block sha_ks (all.take 64) (V8.of h)) (all.drop 64)) (fun k => by simp only [sha_loop]; rw [if_pos (by omega)])
      (sha_run_ev n _ _ (by rw [List.length_drop]; omega) (by rw [List.length_drop]; omega))
theorem sha_run_len : ∀ (n : Nat) (h all : List Int), h.length = 8 → 64 * n ≤ all.length → (sha_run n h all).1.length = 8 ∧ (sha_run n h all).2.length = all.length - 64 * n
  | 0, h, all, h8, _ => ⟨h8, by simp [sha_run]⟩
  | n + 1, h, all, h8, h1 => by
    have e := sha_run_len n (sha_block sha_ks (all.take 64) (V8.of h)) (all.drop 64) (sha_block_len _ _ _) (by rw [List.length_drop]; omega)
    rw [List.length_drop] at e
    exact ⟨e.1, by rw [sha_run, e.2]; omega⟩
/-! ### sha.Write -/
def sha_ok (s : List Int × List Int × Int) : Prop := s.1.length = 8 ∧ s.2.1.length < 64 ∧ 0 ≤ s.2.2 ∧ s.2.2 < 18446744073709551616 ∧ (s.2.2 % 64 = s.2.1.length)
theorem sha_Check.yes {H Buf : List Int} {N : Int} (h : sha_ok (H, Buf, N)) : sha_Check.f H Buf N = some true := by
  obtain ⟨h1, h2, h3, h4, h5⟩ := h
  simp only at h1 h2 h3 h4 h5
  unfold sha_Check.f
  rw [if_pos (by omega), if_pos (by omega), IntKind.wrap_u64, Int.tmod_eq_emod_of_nonneg h3, h5]
  have : ((Buf.length : Int) % 18446744073709551616) = Buf.length := by omega
  rw [this]
  simp
def sha_wr (s : List Int × List Int × Int) (b : List Int) : List Int × List Int × Int :=
  ((sha_run ((s.2.1 ++ b).length / 64) s.1 (s.2.1 ++ b)).1, (sha_run ((s.2.1 ++ b).length / 64) s.1 (s.2.1 ++ b)).2, (s.2.2 + b.length) % 18446744073709551616)
theorem sha_wr_ok {s : List Int × List Int × Int} (h : sha_ok s) (b : List Int) : sha_ok (sha_wr s b) := by
  obtain ⟨h1, h2, h3, h4, h5⟩ := h
  have e := sha_run_len ((s.2.1 ++ b).length / 64) s.1 (s.2.1 ++ b) h1 (by omega)
  have hl : (s.2.1 ++ b).length = s.2.1.length + b.length := List.length_append
  refine ⟨e.1, ?_, ?_, ?_, ?_⟩
  · show (sha_run _ _ _).2.length < 64
    rw [e.2]
    omega
  · show 0 ≤ (s.2.2 + b.length) % 18446744073709551616
    omega
  · show (s.2.2 + b.length) % 18446744073709551616 < 18446744073709551616
    omega
  · show (s.2.2 + b.length) % 18446744073709551616 % 64 = ((sha_run _ _ _).2.length : Int)
    rw [e.2, hl]
    omega
theorem sha_Write.ev {s : List Int × List Int × Int} (h : sha_ok s) (b : List Int) (hb : b.length < 10000000000) : Ev (fun k => sha_Write.f k s.1 s.2.1 s.2.2 b) (sha_wr s b) := by
  have hc := sha_Check.yes (H := s.1) (Buf := s.2.1) (N := s.2.2) h
  obtain ⟨h1, h2, h3, h4, h5⟩ := h
  have hl : (s.2.1 ++ b).length = s.2.1.length + b.length := List.length_append
  by_cases h64 : 64 ≤ (s.2.1 ++ b).length
  · refine Ev.congr (f := fun k => (sha_constants.f k).bind fun ks => (sha_loop ks k s.1 (s.2.1 ++ b)).bind fun r => some (r.1, r.2, (s.2.2 + b.length) % 18446744073709551616)) (fun k => ?_) ?_
    · unfold sha_Write.f
      rw [hc]
      simp only [Option.bind_some]
      rw [if_pos trivial, if_pos h1, if_pos (by omega), if_pos h64]
    · refine Ev.bind sha_constants.ev ?_
      refine Ev.bind (f := fun _ r => some (r.1, r.2, (s.2.2 + b.length) % 18446744073709551616)) (sha_run_ev ((s.2.1 ++ b).length / 64) s.1 (s.2.1 ++ b) (by omega) (by omega)) ?_
      exact Ev.now _
  · refine Ev.congr (f := fun k => some (s.1, s.2.1 ++ b, (s.2.2 + b.length) % 18446744073709551616)) (fun k => ?_) ?_
    · unfold sha_Write.f
      rw [hc]
      simp only [Option.bind_some]
      rw [if_pos trivial, if_pos h1, if_pos (by omega), if_neg h64]
    · refine Ev.of_eq (Ev.now _) ?_
      have e0 : (s.2.1 ++ b).length / 64 = 0 := by omega
      rw [sha_wr, e0]
      rfl
/-! ### sha.Done -/
def sha_be4 (x : Int) : List Int := [(x / 16777216) % 256, (x / 65536) % 256, (x / 256) % 256, x % 256]
theorem rd_nat (xs : List Int) (i : Nat) (h : i < xs.length) : rd xs (i : Int) = xs[i] := by
  simp [rd, h]
theorem sha_Done.l1_ev (ws : List Int) (hw : ws.length ≤ 1000) : ∀ (d i : Nat) (x5 : List Int), i + d = ws.length → x5.length ≤ 1000000 - 4 * d → d ≤ 1000 → Ev (fun k => sha_Done.l1 k x5 ws (ws.length : Int) (i : Int)) (x5 ++ (ws.drop i).flatMap sha_be4)
  | 0, i, x5, hd, hx, _ => Ev.of_eq (Ev.step (f := fun _ => some x5) (fun k => by simp only [sha_Done.l1]; rw [if_neg (by omega)]) (Ev.now _)) (by rw [List.drop_of_length_le (by omega)]; simp)
  | d + 1, i, x5, hd, hx, h9 => by
    have hi : i < ws.length := by omega
    have e := sha_Done.l1_ev ws hw d (i + 1) (x5 ++ sha_be4 (ws[i]'hi)) (by omega) (by simp [sha_be4]; omega) (by omega)
    refine Ev.of_eq (Ev.step (fun k => ?_) e) ?_
    · simp only [sha_Done.l1]
      rw [if_pos (by omega), if_pos (by omega), if_pos (by omega), rd_nat ws i hi, Option.bind_some, if_pos (by simp; omega), wrap_u (by omega) (by omega)]
      rfl
    · rw [List.drop_eq_getElem_cons hi, List.flatMap_cons, List.append_assoc]
def sha_lenb (N : Int) (i : Nat) : Int := (shr .u64 (IntKind.u64.wrap (N * 8)) (wrap64 (56 - (wrap64 (8 * (i : Int)))))) % 256
def sha_pads (N : Int) (x3 : List Int) (i : Nat) : Nat → List Int
  | 0 => x3
  | d + 1 => sha_pads N (x3 ++ [sha_lenb N i]) (i + 1) d
theorem sha_pads_len (N : Int) : ∀ (d i : Nat) (x3 : List Int), (sha_pads N x3 i d).length = x3.length + d
  | 0, _, _ => rfl
  | d + 1, i, x3 => by rw [sha_pads, sha_pads_len N d (i + 1)]; simp; omega
def sha_out (s : List Int × List Int × Int) : List Int := s.1.flatMap sha_be4
theorem sha_Done.l0_ev {s : List Int × List Int × Int} (hs : sha_ok s) : ∀ (d i : Nat) (x3 : List Int), i + d = 8 → x3.length + d ≤ 1000 → Ev (fun k => sha_Done.l0 k x3 (i : Int) s.1 s.2.1 s.2.2) (sha_out (sha_wr s (sha_pads s.2.2 x3 i d)))
  | 0, i, x3, hd, hx => by
    have hw := sha_Write.ev hs x3 (by omega)
    have ho := sha_wr_ok hs x3
    have h8 : (sha_wr s x3).1.length = 8 := ho.1
    have e1 := sha_Done.l1_ev (sha_wr s x3).1 (by omega) (sha_wr s x3).1.length 0 [] (by omega) (by rw [h8]; simp) (by omega)
    refine Ev.step (fun k => by simp only [sha_Done.l0]; rw [if_neg (by omega)]) (Ev.bind hw ?_)
    simpa [sha_out, sha_pads] using e1
  | d + 1, i, x3, hd, hx => by
    have e := sha_Done.l0_ev hs d (i + 1) (x3 ++ [sha_lenb s.2.2 i]) (by omega) (by simp; omega)
    refine Ev.step (fun k => ?_) e
    simp only [sha_Done.l0]
    rw [if_pos (by omega), if_pos (by rw [wrap_u (x := 8 * (i : Int)) (by omega) (by omega), wrap_u (x := 56 - 8 * (i : Int)) (by omega) (by omega)]; omega), if_pos (by omega), wrap_u (x := (i : Int) + 1) (by omega) (by omega)]
    rfl
def sha_zero (n : Nat) : List Int := (List.replicate (1 + (119 - n) % 64) 0).set 0 128
def sha_sum (s : List Int × List Int × Int) : List Int := sha_out (sha_wr s (sha_pads s.2.2 (sha_zero s.2.1.length) 0 8))
theorem sha_Done.ev {s : List Int × List Int × Int} (hs : sha_ok s) : Ev (fun k => sha_Done.f k s.1 s.2.1 s.2.2) (sha_sum s) := by
  have hc := sha_Check.yes (H := s.1) (Buf := s.2.1) (N := s.2.2) hs
  have hl : s.2.1.length < 64 := hs.2.1
  have e := sha_Done.l0_ev hs 8 0 (sha_zero s.2.1.length) (by omega) (by simp [sha_zero]; omega)
  have hn : wrap64 (1 + (Int.tmod (wrap64 (119 - (s.2.1.length : Int))) 64)) = ((1 + (119 - s.2.1.length) % 64 : Nat) : Int) := by
    rw [wrap_u (x := 119 - (s.2.1.length : Int)) (by omega) (by omega), Int.tmod_eq_emod_of_nonneg (by omega), wrap_u (by omega) (by omega)]
    omega
  refine Ev.congr (fun k => ?_) e
  unfold sha_Done.f
  rw [hc, Option.bind_some, if_pos rfl, hn, if_pos (by omega), if_pos (by omega), if_pos (by omega), Option.bind_some, if_pos (by rw [List.length_replicate, Int.toNat_natCast]; omega), Int.toNat_natCast]
  rfl
theorem sha_be4_byte (x : Int) : ∀ y ∈ sha_be4 x, 0 ≤ y ∧ y ≤ 255 := by
  intro y hy
  simp only [sha_be4, List.mem_cons, List.not_mem_nil, or_false] at hy
  omega
theorem sha_sum_byte (s : List Int × List Int × Int) : ∀ y ∈ sha_sum s, 0 ≤ y ∧ y ≤ 255 := by
  intro y hy
  obtain ⟨x, _, hy⟩ := List.mem_flatMap.1 hy
  exact sha_be4_byte x y hy
theorem flat4_len : ∀ l : List Int, (l.flatMap sha_be4).length = 4 * l.length
  | [] => rfl
  | x :: l => by rw [List.flatMap_cons, List.length_append, flat4_len l]; simp [sha_be4]; omega
theorem sha_sum_len {s : List Int × List Int × Int} (hs : sha_ok s) : (sha_sum s).length = 32 := by
  have h8 : (sha_wr s (sha_pads s.2.2 (sha_zero s.2.1.length) 0 8)).1.length = 8 := (sha_wr_ok hs _).1
  show (List.flatMap sha_be4 _).length = 32
  rw [flat4_len, h8]

/-! ### key.text -/
def key_digs : ByteArray := ⟨#[48, 49, 50, 51, 52, 53, 54, 55, 56, 57, 97, 98, 99, 100, 101, 102]⟩
def key_two (x : Int) : List Int := [bt ⟨#[48, 49, 50, 51, 52, 53, 54, 55, 56, 57, 97, 98, 99, 100, 101, 102]⟩ (x / 16), bt ⟨#[48, 49, 50, 51, 52, 53, 54, 55, 56, 57, 97, 98, 99, 100, 101, 102]⟩ (Go.bits .and .u8 x 15)]
theorem and15 (x : Int) (h0 : 0 ≤ x) (h1 : x ≤ 255) : Go.bits .and .u8 x 15 = x % 16 := by
  have h : ∀ n : Fin 256, Go.bits .and .u8 (n.val : Int) 15 = (n.val : Int) % 16 := by decide +kernel
  have e := h ⟨x.toNat, by omega⟩
  have e2 : ((x.toNat : Nat) : Int) = x := by omega
  simpa [e2] using e
def key_hx (l : List Int) : List Int := l.flatMap key_two
theorem key_hx_cons (x : Int) (l : List Int) : key_hx (x :: l) = key_two x ++ key_hx l := by simp [key_hx]
theorem key_hx_len : ∀ l : List Int, (key_hx l).length = 2 * l.length
  | [] => rfl
  | x :: l => by
    have := key_hx_len l
    simp only [key_hx] at this ⊢
    rw [List.flatMap_cons, List.length_append, this]
    simp [key_two]
    omega
theorem key_text.l0_ev (l : List Int) (hl : l.length ≤ 1000000000) (hb : ∀ y ∈ l, 0 ≤ y ∧ y ≤ 255) : ∀ (d i : Nat) (x3 : List Int), i + d = l.length → x3.length + 2 * d ≤ 10000000000 → Ev (fun k => key_text.l0 k x3 l (l.length : Int) (i : Int)) (strOfNums (x3 ++ key_hx (l.drop i)))
  | 0, i, x3, hd, hx => Ev.of_eq (Ev.step (f := fun _ => some (strOfNums x3)) (fun k => by simp only [key_text.l0]; rw [if_neg (by omega)]) (Ev.now _)) (by rw [List.drop_of_length_le (by omega)]; simp [key_hx])
  | d + 1, i, x3, hd, hx => by
    have hi : i < l.length := by omega
    have e := key_text.l0_ev l hl hb d (i + 1) (x3 ++ key_two (l[i]'hi)) (by omega) (by simp [key_two]; omega)
    obtain ⟨b0, b1⟩ := hb _ (List.getElem_mem hi)
    refine Ev.of_eq (Ev.step (fun k => ?_) e) ?_
    · simp only [key_text.l0]
      rw [if_pos (by omega), if_pos (by omega), if_pos (by omega), rd_nat l i hi, if_pos (by omega), if_pos (by omega), if_pos (by rw [and15 _ b0 b1]; omega), if_pos (by rw [and15 _ b0 b1]; omega), Option.bind_some, if_pos (by simp; omega), wrap_u (x := (i : Int) + 1) (by omega) (by omega)]
      rfl
    · rw [List.drop_eq_getElem_cons hi, key_hx_cons, List.append_assoc]
def key_txt (l : List Int) : ByteArray := strOfNums (key_hx l)
theorem key_text.ev (l : List Int) (hl : l.length ≤ 1000000000) (hb : ∀ y ∈ l, 0 ≤ y ∧ y ≤ 255) : Ev (fun k => key_text.f k l) (key_txt l) := by
  have e := key_text.l0_ev l hl hb l.length 0 [] (by omega) (by simp; omega)
  refine Ev.of_eq (Ev.congr (fun k => ?_) e) (by simp [key_txt])
  unfold key_text.f
  rw [wrap_u (x := 2 * (l.length : Int)) (by omega) (by omega), if_pos (by omega), if_pos (by omega)]
  rfl
/-! ### key.Of -/
def key_sum (kind : Int) (b : List Int) : List Int := sha_sum (sha_wr (sha_wr (sha_h0, [], 0) [kind % 256]) b)
theorem sha_ok0 : sha_ok (sha_h0, [], 0) := ⟨rfl, by decide, by decide, by decide, by decide⟩
theorem key_sum_len (kind : Int) (b : List Int) : (key_sum kind b).length = 32 := sha_sum_len (sha_wr_ok (sha_wr_ok sha_ok0 _) _)
theorem key_sum_byte (kind : Int) (b : List Int) : ∀ y ∈ key_sum kind b, 0 ≤ y ∧ y ≤ 255 := sha_sum_byte _
theorem key_Of.ev (kind : Int) (b : List Int) (hb : b.length < 10000000000) : Ev (fun k => key_Of.f k kind b) (key_txt (key_sum kind b)) := by
  unfold key_Of.f
  refine Ev.bind sha_New.ev ?_
  refine Ev.bind (sha_Write.ev sha_ok0 [kind % 256] (by simp)) ?_
  refine Ev.bind (sha_Write.ev (sha_wr_ok sha_ok0 [kind % 256]) b hb) ?_
  refine Ev.bind (sha_Done.ev (sha_wr_ok (sha_wr_ok sha_ok0 [kind % 256]) b)) ?_
  refine Ev.bind (key_text.ev _ (by rw [sha_sum_len (sha_wr_ok (sha_wr_ok sha_ok0 [kind % 256]) b)]; decide) (sha_sum_byte _)) ?_
  exact Ev.now _
end Go.Proofs.YtbclnkhcnclfoaaDoor.Q
