/- Lemmas on the printed functions, without Go and memory. -/
import Derived.Test.YtgaepocgpjbapaaPx5
import Derived.Test.YtgaepocgpjbapaaPx7
import Derived.Test.YtgaepocgpjbapaaQSpan
namespace Go.Proofs.Ytgaepocgpjbapaa.Pure
open Go.RowKit Go.Proofs.Ytgaepocgpjbapaa.Px Go.Proofs.YtgaepocgpjbapaaW.PrintWords Go.Proofs.YtgaepocgpjbapaaW.PrintLast
set_option linter.unusedVariables false
set_option linter.unusedSimpArgs false

/-- A span put behind a normal list. -/
def push (o : List Sp) (x : Sp) : List Sp :=
  if 0 < o.length ∧ (o.getD (o.length - 1) z44).f1 = x.f1 ∧ (o.getD (o.length - 1) z44).f2 = x.f2 then o.set (o.length - 1) ⟨(o.getD (o.length - 1) z44).f0 ++ x.f0, x.f1, x.f2⟩ else o ++ [x]
def norm (o : List Sp) : List Sp → List Sp
  | [] => o
  | x :: l => if x.f0.size = 0 then norm o l else norm (push o x) l
theorem tot_set (l : List Sp) : ∀ (i : Nat) (y : Sp), i < l.length → tot (l.set i y) + (l.getD i z44).f0.size = tot l + y.f0.size := by
  induction l with
  | nil => intro i y h; simp at h
  | cons x l ih =>
    intro i y h
    cases i with
    | zero => simp [tot_cons]; omega
    | succ i =>
      have := ih i y (by simpa using h)
      simp only [List.set_cons_succ, tot_cons, List.getD_cons_succ]
      omega
theorem push_length (o : List Sp) (x : Sp) : (push o x).length ≤ o.length + 1 := by
  unfold push
  split
  · rw [List.length_set]; omega
  · simp
theorem push_tot (o : List Sp) (x : Sp) : tot (push o x) = tot o + x.f0.size := by
  unfold push
  split
  · rename_i h
    have := tot_set o (o.length - 1) ⟨(o.getD (o.length - 1) z44).f0 ++ x.f0, x.f1, x.f2⟩ (by omega)
    simp only [ByteArray.size_append] at this
    omega
  · rw [tot_append, tot_cons, tot_nil]; omega
theorem norm_bounds (l : List Sp) : ∀ o, (norm o l).length ≤ o.length + l.length ∧ tot (norm o l) = tot o + tot l := by
  induction l with
  | nil => intro o; simp [norm, tot]
  | cons x l ih =>
    intro o
    unfold norm
    rw [tot_cons]
    split
    · have := ih o; simp only [List.length_cons]; omega
    · have := ih (push o x)
      have h1 := push_length o x
      have h2 := push_tot o x
      simp only [List.length_cons]; omega
theorem norm_l0 (l : List Sp) (hl : l.length ≤ 1048576) (d : Nat) : ∀ (k : Nat) (i : Int) (o : List Sp), 0 ≤ i → i + d = l.length → d < k → o.length + d ≤ 4194304 → tot o + tot (l.drop i.toNat) ≤ 4194304 →
    spec_l10Normal.l0 k l o i = some (norm o (l.drop i.toNat)) ∧ impl_normalized.l0 k o l (l.length : Int) i = some (norm o (l.drop i.toNat)) := by
  induction d with
  | zero =>
    intro k i o h0 h1 hk ho hs
    obtain ⟨k, rfl⟩ : ∃ m, k = m + 1 := ⟨k - 1, by omega⟩
    rw [drop_none l i (by omega)]
    constructor
    · simp only [spec_l10Normal.l0]; rw [if_neg (by omega)]; rfl
    · simp only [impl_normalized.l0]; rw [if_neg (by omega)]; rfl
  | succ d ih =>
    intro k i o h0 h1 hk ho hs
    obtain ⟨k, rfl⟩ : ∃ m, k = m + 1 := ⟨k - 1, by omega⟩
    rw [drop_cons z44 l i h0 (by omega), tot_cons] at hs
    rw [drop_cons z44 l i h0 (by omega)]
    have e : rd_T44 l i = l.getD i.toNat z44 := rfl
    have hw : wrap64 (i + 1) = i + 1 := wrap_small (by omega) (by omega)
    have hwl : wrap64 ((o.length : Int) - 1) = (o.length : Int) - 1 := wrap_small (by omega) (by omega)
    generalize hx : l.getD i.toNat z44 = x at *
    simp only [spec_l10Normal.l0, impl_normalized.l0, e, hw, hwl]
    rw [if_pos (show i < (l.length : Int) from by omega), if_pos (show i < (l.length : Int) from by omega), if_pos h0, if_pos h0, if_pos (show i < (l.length : Int) from by omega)]
    unfold norm
    by_cases he : x.f0.size = 0
    · rw [if_pos ((toList_nil _).2 he), if_pos ((toList_nil _).2 he), if_pos he]
      exact ih k (i + 1) o (by omega) (by omega) (by omega) (by omega) (by omega)
    · rw [if_neg (fun h => he ((toList_nil _).1 h)), if_neg (fun h => he ((toList_nil _).1 h)), if_neg he]
      have hp := push_tot o x
      have hq := push_length o x
      have IH := ih k (i + 1) (push o x) (by omega) (by omega) (by omega) (by omega) (by omega)
      by_cases hn : 0 < o.length
      · have el : ((o.length : Int) - 1).toNat = o.length - 1 := by omega
        have e2 : rd_T44 o ((o.length : Int) - 1) = o.getD (o.length - 1) z44 := by unfold rd_T44; rw [el]
        have hz := size_le_tot o _ (show o.getD (o.length - 1) z44 ∈ o from by
          have := getD_mem z44 o ((o.length : Int) - 1) (by omega) (by omega)
          rwa [el] at this)
        rw [if_pos (show (o.length : Int) > 0 from by omega), if_pos (show (o.length : Int) - 1 ≥ 0 from by omega)]
        rw [if_pos (show 0 ≤ (o.length : Int) - 1 from by omega), if_pos (show 0 ≤ (o.length : Int) - 1 from by omega), if_pos (show (o.length : Int) - 1 < (o.length : Int) from by omega), if_pos (show (o.length : Int) - 1 < (o.length : Int) from by omega)]
        simp only [e2, el]
        generalize hz2 : o.getD (o.length - 1) z44 = z at *
        by_cases c1 : z.f1 = x.f1
        · by_cases c2 : z.f2 = x.f2
          · have hpush : push o x = o.set (o.length - 1) ⟨z.f0 ++ x.f0, x.f1, x.f2⟩ := by
              unfold push
              rw [hz2, if_pos ⟨hn, c1, c2⟩]
            rw [hpush] at IH
            rw [hpush, c1, c2]
            simp only [beq_self_eq_true, if_true]
            rw [if_pos (by omega), if_pos (by omega)]
            exact IH
          · have hpush : push o x = o ++ [x] := by
              unfold push
              rw [hz2, if_neg (fun h => c2 h.2.2)]
            rw [hpush] at IH
            rw [hpush, c1, beq_self_eq_true, beq_eq_false_iff_ne.mpr c2]
            simp only [if_true, Bool.false_eq_true, if_false]
            rw [if_pos (by omega), if_pos (by omega)]
            exact IH
        · have hpush : push o x = o ++ [x] := by
            unfold push
            rw [hz2, if_neg (fun h => c1 h.2.1)]
          rw [hpush] at IH
          rw [hpush, beq_eq_false_iff_ne.mpr c1]
          simp only [Bool.false_eq_true, if_false]
          rw [if_pos (by omega), if_pos (by omega)]
          exact IH
      · have hpush : push o x = o ++ [x] := by
          unfold push
          rw [if_neg (fun h => hn h.1)]
        rw [hpush] at IH
        rw [if_neg (show ¬ (o.length : Int) > 0 from by omega), if_neg (show ¬ (o.length : Int) - 1 ≥ 0 from by omega), if_pos (by omega), if_pos (by omega), hpush]
        exact IH
theorem l10Normal_k (l : List Sp) (hl : l.length ≤ 1048576) (ht : tot l ≤ 1048576) (k : Nat) (hk : l.length < k) : spec_l10Normal.f k l = some (norm [] l) := by
  unfold spec_l10Normal.f
  have := (norm_l0 l hl l.length k 0 [] (by omega) (by omega) hk (by simp; omega) (by simp [tot_nil]; omega)).1
  simpa using this
theorem normalized_k (l : List Sp) (hl : l.length ≤ 1048576) (ht : tot l ≤ 1048576) (k : Nat) (hk : l.length < k) : impl_normalized.f k l = some (norm [] l) := by
  unfold impl_normalized.f
  have := (norm_l0 l hl l.length k 0 [] (by omega) (by omega) hk (by simp; omega) (by simp [tot_nil]; omega)).2
  simpa using this

end Go.Proofs.Ytgaepocgpjbapaa.Pure
