import Derived.Test.YtbclnkhcnclfoaaDoorPuSha
import Derived.Test.YtbclnkhcnclfoaaDoorQF19
namespace Go.Proofs.YtbclnkhcnclfoaaDoor.Q
open Go.RowKit Go.Proofs.YtbclnkhcnclfoaaDoorW.PrintWords Go.Proofs.YtbclnkhcnclfoaaDoorW.PrintLast Go.Proofs.YtbclnkhcnclfoaaDoorW.PrintMore
set_option linter.unusedVariables false
set_option linter.unusedSimpArgs false

def hd_sum : List Int := [110, 52, 11, 156, 255, 179, 122, 152, 156, 165, 68, 230, 187, 120, 10, 44, 120, 144, 29, 63, 179, 55, 56, 118, 133, 17, 163, 6, 23, 175, 160, 29]
def hd_key : ByteArray := ⟨#[54, 101, 51, 52, 48, 98, 57, 99, 102, 102, 98, 51, 55, 97, 57, 56, 57, 99, 97, 53, 52, 52, 101, 54, 98, 98, 55, 56, 48, 97, 50, 99, 55, 56, 57, 48, 49, 100, 51, 102, 98, 51, 51, 55, 51, 56, 55, 54, 56, 53, 49, 49, 97, 51, 48, 54, 49, 55, 97, 102, 97, 48, 49, 100]⟩
theorem hd_sum_eq : key_sum 0 [] = hd_sum := by decide +kernel
theorem hd_key_eq : key_txt hd_sum = hd_key := by kernel_rfl
theorem hd_bytes : key_Bytes.f hd_key = some (hd_sum, 0) := by decide +kernel
theorem hd_bytes_x : key_Bytes.f (⟨#[120]⟩ : ByteArray) = some ([], 70) := by decide +kernel
theorem hd_merge : ([[98], [97]] : List (List UInt8)).mergeSort (fun x y => decide (x ≤ y)) = [[97], [98]] := by
  simp [List.mergeSort, List.merge, List.MergeSort.Internal.splitInTwo]
  decide
theorem hd_nub : key_nub [(⟨#[98]⟩ : ByteArray), ⟨#[97]⟩, ⟨#[98]⟩] = [⟨#[98]⟩, ⟨#[97]⟩] := by kernel_rfl
theorem hd_sort : key_Sort.f [(⟨#[98]⟩ : ByteArray), ⟨#[97]⟩, ⟨#[98]⟩] = some [⟨#[97]⟩, ⟨#[98]⟩] := by
  have hok : key_sorted.ok [(⟨#[98]⟩ : ByteArray), ⟨#[97]⟩, ⟨#[98]⟩] = true := by kernel_rfl
  unfold key_Sort.f api_Key_87.f
  rw [if_pos hok, hd_nub]
  have e : key_sortS [(⟨#[98]⟩ : ByteArray), ⟨#[97]⟩] = [⟨#[97]⟩, ⟨#[98]⟩] := by
    unfold key_sortS
    rw [show ([(⟨#[98]⟩ : ByteArray), ⟨#[97]⟩].map (·.data.toList)) = [[98], [97]] from rfl, hd_merge]
    rfl
  rw [e]
  rfl
theorem hd_same : Ev (fun k => palimpsestref07_Same.f k [(⟨#[97]⟩ : ByteArray), ⟨#[98]⟩] [⟨#[97]⟩, ⟨#[98]⟩]) true := Ev.of (palimpsestref07_Same.mono _ _) (k := 5) (by
  unfold palimpsestref07_Same.f
  simp [palimpsestref07_Same.l0, wrap64, rdOf])
theorem hd_find : Ev (fun k => key_Find.f k [(⟨#[97]⟩ : ByteArray), ⟨#[98]⟩] ⟨#[98]⟩) 1 := Ev.of (key_Find.mono _ _) (k := 5) (by
  unfold key_Find.f api_Key_88.f
  simp [api_Key_88.l0, wrap64, rdOf, ByteArray.toList_eq])
theorem hd_find0 : Ev (fun k => key_Find.f k ([] : List ByteArray) ⟨#[]⟩) (-1) := Ev.of (key_Find.mono _ _) (k := 5) (by
  unfold key_Find.f api_Key_88.f
  simp [api_Key_88.l0])
theorem heads_ev : Ev (fun k => palimpsestlaw07_heads.f k) true := by
  have e0 := key_Of.ev 0 [] (by simp)
  rw [hd_sum_eq, hd_key_eq] at e0
  have et := key_text.ev hd_sum (by decide) (by decide)
  rw [hd_key_eq] at et
  have ef : Ev (fun k => key_From.f k hd_sum) (hd_key, 0) := by
    unfold key_From.f
    refine Ev.congr (fun k => if_pos (by decide)) ?_
    exact Ev.bind et (Ev.now _)
  have s1 : (hd_key.size : Int) = 64 := by decide
  have s2 : (hd_key.extract 0 8).toList = ([54, 101, 51, 52, 48, 98, 57, 99] : List UInt8) := by rw [ByteArray.toList_eq]; decide
  have s3 : (0 : Int) ≤ 8 := by decide
  have s4 : (8 : Int) ≤ (hd_key.size : Int) := by rw [s1]; decide
  unfold palimpsestlaw07_heads.f
  refine Ev.bind e0 ?_
  simp only [hd_bytes, Option.bind_some]
  refine Ev.bind ef ?_
  simp only [hd_bytes_x, Option.bind_some, hd_sort]
  simp only [if_pos s1, if_pos s3, if_pos s4, if_pos s2, if_true]
  refine Ev.bind hd_same ?_
  simp only [if_true]
  refine Ev.bind hd_find ?_
  simp only [if_true]
  refine Ev.bind hd_find0 ?_
  exact Ev.now _
end Go.Proofs.YtbclnkhcnclfoaaDoor.Q
