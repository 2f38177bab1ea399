/- Lemmas on the printed functions, without Go and memory. -/
import Derived.Lib.ItoaLen
import Derived.Lib.ItoaMem
import Derived.Test.YtjckholdcgjdnaaDoorPx3
import Derived.Test.YtjckholdcgjdnaaDoorPx9
import Derived.Test.YtjckholdcgjdnaaDoorQPage
namespace Go.Proofs.YtjckholdcgjdnaaDoor.Pure
open Go.RowKit Go.Proofs.YtjckholdcgjdnaaDoor.Px Go.Proofs.YtjckholdcgjdnaaDoorW.PrintWords Go.Proofs.YtjckholdcgjdnaaDoorW.PrintLast
set_option linter.unusedVariables false
set_option linter.unusedSimpArgs false

/-! decimal numerals -/
def numT (n : Int) : ByteArray := ⟨(Lib.itoa n).toArray⟩
theorem numT_list (n : Int) : (numT n).data.toList = Lib.itoa n := by simp [numT]
theorem numT_size (n : Int) : (numT n).size = (Lib.itoa n).length := by rw [← data_length, numT_list]
theorem numT_le (n : Int) (h0 : -9223372036854775808 ≤ n) (h1 : n ≤ 9223372036854775807) : (numT n).size ≤ 21 := by rw [numT_size]; exact Lib.itoa_length_le n h0 h1
theorem numT_nat (u : Nat) : numT (u : Int) = ⟨(Lib.decDigits u).toArray⟩ := by unfold numT; rw [Lib.itoa_nonneg]
theorem itoa_some (n : Int) (h0 : -9223372036854775808 ≤ n) (h1 : n ≤ 9223372036854775807) : strconv_Itoa_71.f n = some (numT n) := by
  unfold strconv_Itoa_71.f
  rw [if_pos h0, if_pos h1]
  rfl
theorem digit_fin : ∀ i : Fin 10, (⟨#[48, 49, 50, 51, 52, 53, 54, 55, 56, 57]⟩ : ByteArray).extract i.val (i.val + 1) = ⟨#[UInt8.ofNat (48 + i.val)]⟩ := by decide +kernel
theorem digit_cut (d : Int) (h0 : 0 ≤ d) (h1 : d < 10) : (⟨#[48, 49, 50, 51, 52, 53, 54, 55, 56, 57]⟩ : ByteArray).extract d.toNat (wrap64 (d + 1)).toNat = ⟨#[UInt8.ofNat (48 + d.toNat)]⟩ := by
  have := digit_fin ⟨d.toNat, by omega⟩
  rw [wrap_small (by omega) (by omega), show (d + 1).toNat = d.toNat + 1 from by omega]
  exact this
theorem num_ev (u : Nat) (hu : u ≤ 1000000) : Ev (fun k => spec_l1Num.f k (u : Int)) (numT u) := by
  induction u using Nat.strongRecOn with
  | _ u ih =>
    by_cases h : u < 10
    · refine Ev.step (f := fun _ => some (numT u)) (fun k => ?_) (Ev.now _)
      simp only [spec_l1Num.f]
      rw [if_neg (by omega), if_pos (by omega), if_pos (by omega), digit_cut _ (by omega) (by omega), wrap_small (by omega) (by omega), if_pos (by omega), if_pos (by omega), numT_nat, Lib.decDigits_one h]
      rfl
    · have e := ih (u / 10) (by omega) (by omega)
      have hd : Int.tdiv (u : Int) 10 = ((u / 10 : Nat) : Int) := by rw [Int.tdiv_eq_ediv_of_nonneg (by omega)]; omega
      have hm : Int.tmod (u : Int) 10 = ((u % 10 : Nat) : Int) := by rw [Int.tmod_eq_emod_of_nonneg (by omega)]; omega
      have hs := numT_le ((u / 10 : Nat) : Int) (by omega) (by omega)
      have hz : (⟨#[UInt8.ofNat (48 + u % 10)]⟩ : ByteArray).size = 1 := rfl
      refine Ev.step (f := fun k => (spec_l1Num.f k ((u / 10 : Nat) : Int)).bind fun t => if t.size + (⟨#[UInt8.ofNat (48 + u % 10)]⟩ : ByteArray).size ≤ 9223372036854775807 then some (t ++ ⟨#[UInt8.ofNat (48 + u % 10)]⟩) else none) (fun k => ?_) (Ev.bind e ?_)
      · simp only [spec_l1Num.f]
        rw [if_neg (by omega), if_neg (by omega), hd, hm, digit_cut _ (by omega) (by omega), wrap_small (x := ((u / 10 : Nat) : Int)) (by omega) (by omega), wrap_small (by omega) (by omega)]
        simp only [if_pos (show (0 : Int) ≤ ((u % 10 : Nat) : Int) by omega), if_pos (show ((u % 10 : Nat) : Int) ≤ ((u % 10 : Nat) : Int) + 1 by omega), if_pos (show ((u % 10 : Nat) : Int) + 1 ≤ 10 by omega), Int.toNat_natCast]
      · refine Ev.congr (fun _ => if_pos (by omega)) ?_
        have : numT ((u / 10 : Nat) : Int) ++ ⟨#[UInt8.ofNat (48 + u % 10)]⟩ = numT u := by
          rw [numT_nat, numT_nat u, Lib.decDigits.eq_def u, dif_neg h]
          apply ByteArray.ext
          simp
        rw [this]
        exact Ev.now _
theorem num_evI (n : Int) (h0 : 0 ≤ n) (h1 : n ≤ 1000000) : Ev (fun k => spec_l1Num.f k n) (numT n) := by
  have := num_ev n.toNat (by omega)
  rwa [show ((n.toNat : Nat) : Int) = n from by omega] at this
theorem numT_pos (n : Int) : 0 < (numT n).size := by
  rw [numT_size]
  unfold Lib.itoa
  split
  · simp
  · rw [Lib.decDigits_length]; exact Lib.nDigits_pos _

end Go.Proofs.YtjckholdcgjdnaaDoor.Pure
