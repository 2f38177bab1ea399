/- Lemmas on the printed functions, without Go and memory. -/
import Derived.Lib.Join
import Derived.Test.YtilchcponlgmjaaDoorPx1
import Derived.Test.YtilchcponlgmjaaDoorPx12
import Derived.Test.YtilchcponlgmjaaDoorPx3
import Derived.Test.YtilchcponlgmjaaDoorPx4
import Derived.Test.YtilchcponlgmjaaDoorPx8
import Derived.Test.YtilchcponlgmjaaDoorQTitF
namespace Go.Proofs.YtilchcponlgmjaaDoor.Pure
open Go.RowKit Go.Proofs.YtilchcponlgmjaaDoor.Px Go.Proofs.YtilchcponlgmjaaDoorW.PrintWords Go.Proofs.YtilchcponlgmjaaDoorW.PrintLast
set_option linter.unusedVariables false
set_option linter.unusedSimpArgs false

def JN (ws : List ByteArray) : ByteArray := ofL (Lib.join (ws.map (·.data.toList)) [32])
def tot (ws : List ByteArray) : Nat := (ws.map (·.size)).sum
theorem join_len (ws : List ByteArray) : (Lib.join (ws.map (·.data.toList)) [32]).length ≤ tot ws + ws.length := by
  cases ws with
  | nil => simp [Lib.join_nil, tot]
  | cons w ws =>
    rw [List.map_cons, Lib.join_cons]
    have : ∀ r : List ByteArray, (Lib.joinTail [32] (r.map (·.data.toList))).length = tot r + r.length := fun r => by
      induction r with
      | nil => rfl
      | cons x r ih =>
        have hx := data_length x
        unfold Lib.joinTail tot at *
        simp only [List.map_cons, List.flatten_cons, List.length_append, List.length_cons, List.length_nil, List.sum_cons, ih]
        omega
    have hx := data_length w
    rw [List.length_append, this ws]
    unfold tot
    simp only [List.map_cons, List.sum_cons, List.length_cons]
    omega
theorem tot_le (ws : List ByteArray) (n : Nat) (h : ∀ w ∈ ws, w.size ≤ n) : tot ws ≤ n * ws.length := by
  induction ws with
  | nil => simp [tot]
  | cons w ws ih =>
    have a := h w (by simp)
    have b := ih (fun x hx => h x (List.mem_cons_of_mem _ hx))
    unfold tot at *
    simp only [List.map_cons, List.sum_cons, List.length_cons]
    rw [Nat.mul_succ]
    omega
theorem join_snoc (ps : List (List UInt8)) (p : List UInt8) (h : ps ≠ []) : Lib.join (ps ++ [p]) [32] = Lib.join ps [32] ++ ([32] ++ p) := by
  obtain ⟨x, r, rfl⟩ : ∃ x r, ps = x :: r := by cases ps with
    | nil => exact absurd rfl h
    | cons x r => exact ⟨x, r, rfl⟩
  rw [List.cons_append, Lib.join_cons, Lib.join_cons]
  simp [Lib.joinTail]
theorem implJoin (ws : List ByteArray) (h : tot ws ≤ 1048576) (h2 : ws.length ≤ 1048576) : strings_Join.f ws (⟨#[32]⟩ : ByteArray) = some (JN ws) := by
  have := join_len ws
  unfold strings_Join.f JN ofL
  rw [show (⟨#[32]⟩ : ByteArray).data.toList = [32] from rfl, if_pos ⟨by omega, by omega⟩]
theorem tot_take (ws : List ByteArray) (i : Nat) (h : i < ws.length) : tot (ws.take (i + 1)) = tot (ws.take i) + (ws[i]).size := by
  unfold tot
  rw [List.take_succ_eq_append_getElem h, List.map_append, List.sum_append, List.map_singleton, List.sum_singleton]
theorem tot_pre (ws : List ByteArray) (i : Nat) : tot (ws.take i) ≤ tot ws := by
  have h : tot ws = tot (ws.take i) + tot (ws.drop i) := by
    unfold tot
    rw [← List.sum_append, ← List.map_append, List.take_append_drop]
  omega
theorem join_loop (ws : List ByteArray) (h : tot ws ≤ 1048576) (h2 : ws.length ≤ 1048576) : ∀ (d i : Nat) (acc : ByteArray), i + d = ws.length → acc.data.toList = Lib.join ((ws.take i).map (·.data.toList)) [32] → Ev (fun k => spec_l6Join.l0 k ws acc (i : Int)) (JN ws)
  | 0, i, acc, hi, ha => by
    have e : acc = JN ws := ofL_ext _ _ (by rw [ha, List.take_of_length_le (by omega)])
    refine Ev.step (f := fun _ => some acc) (fun k => ?_) (by rw [e]; exact Ev.now _)
    simp only [spec_l6Join.l0]
    rw [if_neg (by omega)]
  | d + 1, i, acc, hi, ha => by
    have hlt : i < ws.length := by omega
    have hw : wrap64 ((i : Int) + 1) = ((i + 1 : Nat) : Int) := by rw [wrap_small (by omega) (by omega)]; rfl
    have e : rdOf ByteArray.empty ws (i : Int) = ws[i] := by
      unfold rdOf
      rw [Int.toNat_natCast, List.getD_eq_getElem?_getD, List.getElem?_eq_getElem hlt]
      rfl
    have ht := tot_take ws i hlt
    have hp := tot_pre ws (i + 1)
    have hj := join_len (ws.take i)
    have hal := data_length acc
    rw [← ha, List.length_take, hal] at hj
    have hm : (ws.take (i + 1)).map (·.data.toList) = (ws.take i).map (·.data.toList) ++ [(ws[i]).data.toList] := by
      rw [List.take_succ_eq_append_getElem hlt, List.map_append]
      rfl
    have hsz : (⟨#[32]⟩ : ByteArray).size = 1 := rfl
    by_cases c : 0 < i
    · refine Ev.step (fun k => ?_) (join_loop ws h h2 d (i + 1) ((acc ++ (⟨#[32]⟩ : ByteArray)) ++ ws[i]) (by omega) (by
        rw [hm, join_snoc _ _ (fun e0 => by have := congrArg List.length e0; rw [List.length_map, List.length_take, List.length_nil] at this; omega), ← ha]
        simp))
      simp only [spec_l6Join.l0]
      rw [if_pos (by omega), if_pos (by omega), if_pos (by omega), if_pos (by omega), e, if_pos (by simp only [ByteArray.size_append, hsz]; omega), hw]
    · obtain rfl : i = 0 := by omega
      refine Ev.step (fun k => ?_) (join_loop ws h h2 d (0 + 1) (acc ++ ws[0]) (by omega) (by
        rw [hm, List.take_zero, List.map_nil, List.nil_append, Lib.join_one]
        rw [List.take_zero, List.map_nil, Lib.join_nil] at ha
        simp [ha]))
      simp only [spec_l6Join.l0]
      rw [if_pos (by omega), if_neg (by omega), if_pos (by omega), e, if_pos (by omega), hw]
theorem specJoin (ws : List ByteArray) (h : tot ws ≤ 1048576) (h2 : ws.length ≤ 1048576) : Ev (fun k => spec_l6Join.f k ws) (JN ws) := join_loop ws h h2 ws.length 0 (⟨#[]⟩ : ByteArray) (by omega) (by rw [List.take_zero, List.map_nil, Lib.join_nil])

theorem loByte (b : UInt8) : spec_l6LowerByte.f (b.toNat : Int) = some ((loB b).toNat : Int) := by
  have h := loB_nat b
  unfold spec_l6LowerByte.f
  unfold isUpB at h
  by_cases c1 : (b.toNat : Int) ≥ 65
  · rw [if_pos c1]
    by_cases c2 : (b.toNat : Int) ≤ 90
    · rw [if_pos c2]
      rw [decide_eq_true c1, decide_eq_true c2] at h
      simp only [Bool.and_self, if_true] at h
      rw [h]
      congr 1
      omega
    · rw [if_neg c2]
      rw [decide_eq_false c2, Bool.and_false] at h
      simp only [Bool.false_eq_true, if_false] at h
      rw [h]
  · rw [if_neg c1]
    rw [decide_eq_false c1] at h
    simp only [Bool.false_and, Bool.false_eq_true, if_false] at h
    rw [h]
def nums (l : List UInt8) : List Int := l.map fun b => (b.toNat : Int)
theorem strOf_nums (l : List UInt8) : strOfNums (nums l) = ofL l := by
  apply ofL_ext
  simp only [strOfNums, nums, List.map_map]
  have : ∀ l : List UInt8, l.map ((fun z : Int => UInt8.ofNat z.toNat) ∘ fun b : UInt8 => (b.toNat : Int)) = l := fun l => by
    induction l with
    | nil => rfl
    | cons b l ih => rw [List.map_cons, ih]; simp
  simpa using this l
theorem implLower (w : ByteArray) (hs : w.size ≤ 1048576) : impl_lower.f w = some (ofL (w.data.toList.map loB)) := by
  unfold impl_lower.f
  rw [if_pos (by omega), ← strOf_nums]
  congr 2
  unfold bytesOf nums
  rw [List.map_map, List.map_map]
  apply List.map_congr_left
  intro b _
  have := loB_nat b
  show impl_lower.low (b.toNat : Int) = ((loB b).toNat : Int)
  rw [this]
  rfl
theorem let_eq (b : UInt8) : spec_l6Letter.f (b.toNat : Int) = some (isLetB b) := by
  unfold spec_l6Letter.f isLetB isUpB isLoB
  by_cases c1 : (b.toNat : Int) ≥ 65
  · rw [if_pos c1, decide_eq_true c1]
    by_cases c2 : (b.toNat : Int) ≤ 90
    · rw [if_pos c2, decide_eq_true c2]; rfl
    · rw [if_neg c2, decide_eq_false c2]
      by_cases c3 : (b.toNat : Int) ≥ 97
      · rw [if_pos c3, decide_eq_true c3]; simp
      · rw [if_neg c3, decide_eq_false c3]; simp
  · rw [if_neg c1, decide_eq_false c1]
    by_cases c3 : (b.toNat : Int) ≥ 97
    · rw [if_pos c3, decide_eq_true c3]; simp
    · rw [if_neg c3, decide_eq_false c3]; simp

end Go.Proofs.YtilchcponlgmjaaDoor.Pure
