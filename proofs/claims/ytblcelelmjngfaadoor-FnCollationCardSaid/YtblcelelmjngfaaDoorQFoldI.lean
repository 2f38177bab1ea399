/- Lemmas on the printed functions, without Go and memory. -/
import Derived.Test.YtblcelelmjngfaaDoorPx12
import Derived.Test.YtblcelelmjngfaaDoorPx13
import Derived.Test.YtblcelelmjngfaaDoorPx14
import Derived.Test.YtblcelelmjngfaaDoorQFold
namespace Go.Proofs.YtblcelelmjngfaaDoor.Pure
open Go.RowKit Go.Proofs.YtblcelelmjngfaaDoor.Px Go.Proofs.YtblcelelmjngfaaDoorW.PrintWords Go.Proofs.YtblcelelmjngfaaDoorW.PrintLast
set_option linter.unusedVariables false
set_option linter.unusedSimpArgs false

/-! folding again changes nothing -/
abbrev ldOk (b : Int) : Bool := impl_foldText.isL b || impl_foldText.isD b
theorem fold_stop (l : List Int) : ∀ (out : List Int) (gap : Bool), (∀ b ∈ out, ldOk b = true ∨ b = 32) → (∀ rest, impl_foldText.fold [] false (out ++ rest) = impl_foldText.fold out false rest) →
    (∀ b ∈ impl_foldText.fold out gap l, ldOk b = true ∨ b = 32) ∧ ∀ rest, impl_foldText.fold [] false (impl_foldText.fold out gap l ++ rest) = impl_foldText.fold (impl_foldText.fold out gap l) false rest := by
  induction l with
  | nil => intro out gap h1 h2; rw [impl_foldText.fold]; exact ⟨h1, h2⟩
  | cons b l ih =>
    intro out gap h1 h2
    cases hb : (impl_foldText.isL b || impl_foldText.isD b) with
    | false => rw [impl_foldText.skip _ _ _ _ hb]; exact ih _ _ h1 h2
    | true =>
      cases hg : (gap && decide (0 < out.length)) with
      | false =>
        rw [impl_foldText.take0 _ _ _ _ hb hg]
        refine ih _ _ (fun c hc => ?_) (fun rest => ?_)
        · rcases List.mem_append.1 hc with h | h
          · exact h1 c h
          · rw [List.mem_singleton.1 h]; exact .inl hb
        · rw [List.append_assoc, h2]
          exact impl_foldText.take0 out false b rest hb rfl
      | true =>
        rw [impl_foldText.take1 _ _ _ _ hb hg]
        refine ih _ _ (fun c hc => ?_) (fun rest => ?_)
        · rcases List.mem_append.1 hc with h | h
          · rcases List.mem_append.1 h with h | h
            · exact h1 c h
            · rw [List.mem_singleton.1 h]; exact .inr rfl
          · rw [List.mem_singleton.1 h]; exact .inl hb
        · rw [List.append_assoc, List.append_assoc, h2]
          show impl_foldText.fold out false (32 :: b :: rest) = _
          have hn : decide (0 < out.length) = true := by rw [Bool.and_eq_true] at hg; exact hg.2
          rw [impl_foldText.skip out false 32 _ (by decide)]
          exact impl_foldText.take1 out true b rest hb (by rw [hn]; rfl)
theorem fold_again (l : List Int) : impl_foldText.fold [] false (impl_foldText.fold [] false l) = impl_foldText.fold [] false l := by
  have := (fold_stop l [] false (by simp) (fun rest => rfl)).2 []
  rw [List.append_nil] at this
  rw [this, impl_foldText.fold]
theorem fold_ok (l : List Int) : ∀ b ∈ impl_foldText.fold [] false l, ldOk b = true ∨ b = 32 := (fold_stop l [] false (by simp) (fun rest => rfl)).1
theorem ok_range (b : Int) (h : ldOk b = true ∨ b = 32) : 0 ≤ b ∧ b ≤ 255 ∧ impl_lower.low b = b := by
  have key : 0 ≤ b ∧ b ≤ 255 ∧ ¬ (65 ≤ b ∧ b ≤ 90) := by
    rcases h with h | h
    · unfold ldOk impl_foldText.isL impl_foldText.isD at h
      simp only [Bool.or_eq_true, Bool.and_eq_true, decide_eq_true_eq] at h
      omega
    · omega
  refine ⟨key.1, key.2.1, ?_⟩
  unfold impl_lower.low impl_lower.isU
  rw [if_neg]
  simp only [Bool.and_eq_true, decide_eq_true_eq]
  exact key.2.2
theorem nums_back (l : List Int) (h : ∀ b ∈ l, 0 ≤ b ∧ b ≤ 255) : bytesOf (strOfNums l) = l := by
  induction l with
  | nil => rfl
  | cons x l ih =>
    have hx := h x (by simp)
    have := ih (fun b hb => h b (List.mem_cons_of_mem _ hb))
    simp only [strOfNums, bytesOf] at this ⊢
    simp only [List.map_cons, List.map_map] at this ⊢
    rw [this]
    congr 1
    have e : (UInt8.ofNat x.toNat).toNat = x.toNat := by
      rw [UInt8.toNat_ofNat']
      omega
    omega
/-- The folded text. -/
def foldS (s : ByteArray) : ByteArray := strOfNums (impl_foldText.fold [] false ((bytesOf s).map impl_lower.low))
theorem low_range (s : ByteArray) : ∀ b ∈ (bytesOf s).map impl_lower.low, 0 ≤ b ∧ b ≤ 255 := fun b hb => by
  obtain ⟨c, hc, rfl⟩ := List.mem_map.1 hb
  have hr : 0 ≤ c ∧ c ≤ 255 := by
    unfold bytesOf at hc
    obtain ⟨u, _, rfl⟩ := List.mem_map.1 hc
    have := u.toNat_lt
    omega
  unfold impl_lower.low impl_lower.isU
  split
  · rename_i c
    simp only [Bool.and_eq_true, decide_eq_true_eq] at c
    omega
  · exact hr
theorem foldS_again (s : ByteArray) : foldS (foldS s) = foldS s := by
  have hok := fold_ok ((bytesOf s).map impl_lower.low)
  unfold foldS
  generalize hr : impl_foldText.fold [] false ((bytesOf s).map impl_lower.low) = r at hok ⊢
  have h1 : bytesOf (strOfNums r) = r := nums_back r (fun b hb => ⟨(ok_range b (hok b hb)).1, (ok_range b (hok b hb)).2.1⟩)
  have h2 : r.map impl_lower.low = r := by
    rw [List.map_congr_left (g := id) (fun b hb => (ok_range b (hok b hb)).2.2), List.map_id]
  rw [h1, h2, ← hr, fold_again]
theorem fold_len (l : List Int) : ∀ (out : List Int) (gap : Bool), (impl_foldText.fold out gap l).length ≤ out.length + 2 * l.length := by
  induction l with
  | nil => intro out gap; rw [impl_foldText.fold]; simp
  | cons b l ih =>
    intro out gap
    cases hb : (impl_foldText.isL b || impl_foldText.isD b) with
    | false => rw [impl_foldText.skip _ _ _ _ hb]; have := ih out (gap || b == 32); simp only [List.length_cons]; omega
    | true =>
      cases hg : (gap && decide (0 < out.length)) with
      | false => rw [impl_foldText.take0 _ _ _ _ hb hg]; have := ih (out ++ [b]) false; simp only [List.length_append, List.length_cons, List.length_nil] at *; omega
      | true => rw [impl_foldText.take1 _ _ _ _ hb hg]; have := ih (out ++ [32] ++ [b]) false; simp only [List.length_append, List.length_cons, List.length_nil] at *; omega
theorem foldS_size (s : ByteArray) : (foldS s).size ≤ 2 * s.size := by
  unfold foldS
  have := fold_len ((bytesOf s).map impl_lower.low) [] false
  rw [List.length_map, bytesOf_length] at this
  rw [strOfNums_size]
  simpa using this
theorem fold_x (s : ByteArray) (hs : s.size ≤ 1048576) (k : Nat) (hk : 2097160 < k) : spec_l8Fold.f k s = some (foldS s) ∧ impl_foldText.f s = some (foldS s) := by
  have hz : (strOfNums ((bytesOf s).map impl_lower.low)).size = s.size := by rw [strOfNums_size, List.length_map, bytesOf_length]
  have hb : bytesOf (strOfNums ((bytesOf s).map impl_lower.low)) = (bytesOf s).map impl_lower.low := nums_back _ (low_range s)
  have h1 : impl_lower.f s = some (strOfNums ((bytesOf s).map impl_lower.low)) := by unfold impl_lower.f; rw [if_pos (by omega)]
  have h2 : spec_l2Low.f s = some (strOfNums ((bytesOf s).map impl_lower.low)) := by unfold spec_l2Low.f; rw [if_pos (by omega), low_eq]
  unfold foldS
  generalize hu : strOfNums ((bytesOf s).map impl_lower.low) = u at h1 h2 hz hb
  rw [← hb]
  constructor
  · unfold spec_l8Fold.f
    rw [h2, Option.bind_some, l8Fold_l0 u (by omega) u.size k 0 [] false (by omega) (by omega) (by omega) (by simp)]
    rfl
  · unfold impl_foldText.f
    rw [h1, Option.bind_some, if_pos (by omega)]

end Go.Proofs.YtblcelelmjngfaaDoor.Pure
