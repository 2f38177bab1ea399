/- The law FnExactJoinParts, as a statement over numbers and lists: the program's function and the reference's answer alike, for every input; no further condition. -/
import Derived.Test.YtciminppeclofaaPx18
import Derived.Test.YtciminppeclofaaPx20
import Derived.Test.YtciminppeclofaaPx22
import Derived.Test.YtciminppeclofaaQText
import Derived.Test.YtciminppeclofaaQTwo
import Derived.Test.YtciminppeclofaaQStrs
namespace Go.Proofs.Ytciminppeclofaa.Pure
open Go.RowKit Go.Proofs.Ytciminppeclofaa.Px Go.Proofs.YtciminppeclofaaW.PrintWords Go.Proofs.YtciminppeclofaaW.PrintLast
set_option linter.unusedVariables false
set_option linter.unusedSimpArgs false

theorem two_pos (a b : ByteArray) (ha : 1 ≤ a.size) : 1 ≤ (two a b).size := by
  unfold two
  split
  · rw [ByteArray.size_append]; omega
  · split
    · rw [ByteArray.size_append]; omega
    · split
      · rename_i h2
        have := mrg_size _ _ h2.1 h2.2
        rw [ByteArray.size_append, ByteArray.size_append]; omega
      · rw [ByteArray.size_append]; omega
theorem two_nil (a b : ByteArray) (ha : a.size = 0) : two a b = b := by
  unfold two
  rw [if_pos (.inl ha)]
  have : a = ByteArray.empty := by
    cases a with
    | mk d => simp [ByteArray.size] at ha; subst ha; rfl
  rw [this]
  simp
theorem parts_l0 (l : List ByteArray) (hl : l.length ≤ 12) (hs : ∀ x ∈ l, x.size ≤ 1048576) (dl : ByteArray) (hd : dl.size ≤ 60) (d : Nat) : ∀ (k : Nat) (i : Int) (o : ByteArray), 0 ≤ i → i + d = l.length → d + 1048600 < k → (o.size : Int) ≤ 120 * i →
    ∃ r, spec_JoinParts.l0 k l dl o i = some r ∧ impl_JoinParts.l0 k dl o (!decide (o.size = 0)) l (l.length : Int) i = some r := by
  induction d with
  | zero =>
    intro k i o h0 h1 hk ho
    obtain ⟨k, rfl⟩ : ∃ m, k = m + 1 := ⟨k - 1, by omega⟩
    refine ⟨(o, true), ?_, ?_⟩
    · simp only [spec_JoinParts.l0]; rw [if_neg (by omega)]
    · simp only [impl_JoinParts.l0]; rw [if_neg (by omega)]
  | succ d ih =>
    intro k i o h0 h1 hk ho
    obtain ⟨k, rfl⟩ : ∃ m, k = m + 1 := ⟨k - 1, by omega⟩
    have hlt : i < (l.length : Int) := by omega
    have hm := hs _ (rdOf_mem ByteArray.empty l i h0 hlt)
    simp only [spec_JoinParts.l0, impl_JoinParts.l0]
    simp only [if_pos hlt, if_pos h0, l11Text_k (rdOf ByteArray.empty l i) (by omega) k (by omega), isPart_k (rdOf ByteArray.empty l i) (by omega) k (by omega), Option.bind_some]
    rw [wrap_small (x := i + 1) (by omega) (by omega)]
    cases hp : isP (rdOf ByteArray.empty l i) with
    | false => exact ⟨((⟨#[]⟩ : ByteArray), false), by simp, by simp⟩
    | true =>
      have hz : (rdOf ByteArray.empty l i).size ≤ 60 := by
        unfold isP at hp
        have := (Bool.and_eq_true_iff.1 hp).2
        have := of_decide_eq_true this
        omega
      simp only [if_true]
      by_cases he : (rdOf ByteArray.empty l i).size = 0
      · rw [if_pos ((toList_nil _).2 he), if_pos ((toList_nil _).2 he)]
        exact ih k (i + 1) o (by omega) (by omega) (by omega) (by omega)
      · rw [if_neg (fun e => he ((toList_nil _).1 e)), if_neg (fun e => he ((toList_nil _).1 e))]
        by_cases hz0 : o.size = 0
        · rw [if_pos ((toList_nil _).2 hz0), l11Two_k o _ (by omega) (by omega) k (by omega), Option.bind_some, two_nil o _ hz0, decide_eq_true hz0, if_neg (show ¬ ((!true) = true) from by decide)]
          obtain ⟨r, g1, g2⟩ := ih k (i + 1) (rdOf ByteArray.empty l i) (by omega) (by omega) (by omega) (by omega)
          rw [decide_eq_false he] at g2
          exact ⟨r, g1, g2⟩
        · have s1 := two_size o dl
          have s2 := two_size (two o dl) (rdOf ByteArray.empty l i)
          have p1 := two_pos o dl (by omega)
          have p2 := two_pos (two o dl) (rdOf ByteArray.empty l i) p1
          rw [if_neg (fun e => hz0 ((toList_nil _).1 e)), l11Two_k o dl (by omega) (by omega) k (by omega), Option.bind_some, l11Two_k (two o dl) _ (by omega) (by omega) k (by omega), Option.bind_some, decide_eq_false hz0, if_pos (show ((!false) = true) from rfl), joinTwo_k o dl (by omega) (by omega) k (by omega), Option.bind_some, joinTwo_k (two o dl) _ (by omega) (by omega) k (by omega), Option.bind_some]
          obtain ⟨r, g1, g2⟩ := ih k (i + 1) (two (two o dl) (rdOf ByteArray.empty l i)) (by omega) (by omega) (by omega) (by omega)
          rw [decide_eq_false (show ¬ (two (two o dl) (rdOf ByteArray.empty l i)).size = 0 from by omega)] at g2
          exact ⟨r, g1, g2⟩
theorem parts_k (l : List ByteArray) (hs : ∀ x ∈ l, x.size ≤ 1048576) (dl : ByteArray) (hd : dl.size ≤ 1048576) (k : Nat) (hk : 1048700 < k) : ∃ r, spec_JoinParts.f k l dl = some r ∧ impl_JoinParts.f k l dl = some r := by
  obtain ⟨k, rfl⟩ : ∃ m, k = m + 1 := ⟨k - 1, by omega⟩
  unfold spec_JoinParts.f impl_JoinParts.f
  by_cases c : (l.length : Int) > 12
  · rw [if_pos c, if_pos c]
    exact ⟨((⟨#[]⟩ : ByteArray), false), by simp [spec_JoinParts.j0], by simp [impl_JoinParts.j0]⟩
  · rw [if_neg c, if_neg c, l11Text_k dl (by omega) _ (by omega), isPart_k dl (by omega) _ (by omega), Option.bind_some, Option.bind_some]
    simp only [spec_JoinParts.j0, impl_JoinParts.j0]
    cases hp : isP dl with
    | false => exact ⟨((⟨#[]⟩ : ByteArray), false), by simp, by simp⟩
    | true =>
      have hz : dl.size ≤ 60 := by
        unfold isP at hp
        have := of_decide_eq_true (Bool.and_eq_true_iff.1 hp).2
        omega
      obtain ⟨r, g1, g2⟩ := parts_l0 l (by omega) hs dl hz l.length k 0 (⟨#[]⟩ : ByteArray) (by omega) (by omega) (by omega) (by decide)
      refine ⟨r, by simpa using g1, ?_⟩
      have e : (!decide ((⟨#[]⟩ : ByteArray).size = 0)) = false := by decide
      rw [e] at g2
      simpa using g2
theorem FnExactJoinParts : laws_FnExactJoinParts.Pure := by
  intro l dl hl hs hd
  unfold laws_FnExactJoinParts.f
  by_cases c : (dl.size : Int) > 1048576
  · exact ⟨0, by rw [if_pos c]⟩
  refine ⟨2097200, ?_⟩
  rw [if_neg c]
  obtain ⟨t, ht, hb⟩ := szStringS_k l hl hs 2097200 (by omega)
  rw [ht, Option.bind_some]
  by_cases c2 : t < 0
  · rw [if_pos c2]
  · obtain ⟨h1, h2⟩ := hb c2
    have e1 := toStringS_k l h1 2097200 (by omega)
    have e1' := toStringS_k l h1 2097199 (by omega)
    have e2 := eqStringS_k l h1 2097199 (by omega)
    obtain ⟨r, g1, g2⟩ := parts_k l h2 dl (by omega) 2097200 (by omega)
    rw [if_neg c2]
    simp only [e1, g1, g2, Option.bind_some, if_true, laws_FnExactJoinParts.j0, e1', e2, bne_self_eq_false]
    simp

end Go.Proofs.Ytciminppeclofaa.Pure
