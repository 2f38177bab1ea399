/- Lemmas on the printed functions, without Go and memory. -/
import Derived.Test.YtgaepocgpjbapaaPx15
import Derived.Test.YtgaepocgpjbapaaPx16
import Derived.Test.YtgaepocgpjbapaaPx8
import Derived.Test.YtgaepocgpjbapaaPx9
import Derived.Test.YtgaepocgpjbapaaQNorm
namespace Go.Proofs.Ytgaepocgpjbapaa.Pure
open Go.RowKit Go.Proofs.Ytgaepocgpjbapaa.Px Go.Proofs.YtgaepocgpjbapaaW.PrintWords Go.Proofs.YtgaepocgpjbapaaW.PrintLast
set_option linter.unusedVariables false
set_option linter.unusedSimpArgs false

def isMk (b : Int) : Bool := decide (b = 42) || (decide (b = 95) || b == 92)
theorem l10Mark_eq (b : Int) : spec_l10Mark.f b = some (isMk b) := by
  unfold spec_l10Mark.f isMk
  by_cases h1 : b = 42
  · simp [h1]
  · by_cases h2 : b = 95
    · simp [h2]
    · simp [h1, h2]
theorem isMarkup_eq (b : Int) : impl_isMarkup.f b = some (isMk b) := by
  unfold impl_isMarkup.f isMk
  by_cases h1 : b = 42
  · simp [h1]
  · by_cases h2 : b = 95
    · simp [h2]
    · simp [h1, h2]
/-- A byte of a text, as markup has it. -/
def esc1 (b : UInt8) : List Int := if isMk (b.toNat : Int) = true then [92, (b.toNat : Int)] else [(b.toNat : Int)]
def esc (l : List UInt8) : List Int := l.flatMap esc1
theorem esc1_len (b : UInt8) : (esc1 b).length ≤ 2 := by unfold esc1; split <;> simp
theorem esc_len (l : List UInt8) : (esc l).length ≤ 2 * l.length := by
  induction l with
  | nil => simp [esc]
  | cons b l ih =>
    have := esc1_len b
    simp only [esc, List.flatMap_cons, List.length_append, List.length_cons] at *
    omega
theorem esc_cons (b : UInt8) (l : List UInt8) : esc (b :: l) = esc1 b ++ esc l := by simp [esc]
def openM (x : Sp) : List Int := (if x.f2 = true then [42] else []) ++ (if x.f1 = true then [95] else [])
def closeM (x : Sp) : List Int := (if x.f1 = true then [95] else []) ++ (if x.f2 = true then [42] else [])
def mkup (x : Sp) : List Int := openM x ++ (esc x.f0.data.toList ++ closeM x)
theorem openM_len (x : Sp) : (openM x).length ≤ 2 := by unfold openM; split <;> split <;> simp
theorem closeM_len (x : Sp) : (closeM x).length ≤ 2 := by unfold closeM; split <;> split <;> simp
theorem mkup_len (x : Sp) : (mkup x).length ≤ 2 * x.f0.size + 4 := by
  have h1 := openM_len x
  have h2 := closeM_len x
  have h3 := esc_len x.f0.data.toList
  rw [data_length] at h3
  unfold mkup
  simp only [List.length_append]
  omega
def mkups (l : List Sp) : List Int := l.flatMap mkup
theorem mkups_cons (x : Sp) (l : List Sp) : mkups (x :: l) = mkup x ++ mkups l := by simp [mkups]
theorem mkups_len (l : List Sp) : (mkups l).length ≤ 2 * tot l + 4 * l.length := by
  induction l with
  | nil => simp [mkups]
  | cons x l ih =>
    have := mkup_len x
    rw [mkups_cons, tot_cons]
    simp only [List.length_append, List.length_cons]
    omega
theorem l10Markup_l1 (L : List Sp) (o p q t : ByteArray) (i : Int) (f1 f2 : Bool) (ht : t.size ≤ 1048576) (hi : 0 ≤ i) (hi2 : i ≤ 1048576) (ho : o.size ≤ 8388608) (hp : p.size ≤ 4) (hq : q.size ≤ 4) (d : Nat) : ∀ (k : Nat) (j : Int) (c : List Int), 0 ≤ j → j + d = t.size → d < k → c.length + 2 * d ≤ 4194304 →
    spec_l10Markup.l1 k L o i p q c j t f1 f2 = spec_l10Markup.l0 (k - d - 1) L (((o ++ p) ++ strOfNums (c ++ esc (t.data.toList.drop j.toNat))) ++ q) (i + 1) := by
  induction d with
  | zero =>
    intro k j c h0 h1 hk hc
    obtain ⟨k, rfl⟩ : ∃ m, k = m + 1 := ⟨k - 1, by omega⟩
    simp only [spec_l10Markup.l1]
    rw [if_neg (by omega), drop_end t j (by omega), if_pos (by omega), if_pos (by rw [ByteArray.size_append, strOfNums_size]; omega), if_pos (by rw [ByteArray.size_append, ByteArray.size_append, strOfNums_size]; omega), wrap_small (by omega) (by omega)]
    simp [esc]
  | succ d ih =>
    intro k j c h0 h1 hk hc
    obtain ⟨k, rfl⟩ : ∃ m, k = m + 1 := ⟨k - 1, by omega⟩
    obtain ⟨b, hb, hv⟩ := drop_at t j h0 (by omega)
    simp only [spec_l10Markup.l1]
    rw [if_pos (by omega), if_pos h0, hv, l10Mark_eq, Option.bind_some, hb, esc_cons, wrap_small (x := j + 1) (by omega) (by omega)]
    unfold esc1
    cases isMk (b.toNat : Int) with
    | false =>
      simp only [Bool.false_eq_true, if_false]
      rw [if_pos (by omega), ih k (j + 1) _ (by omega) (by omega) (by omega) (by simp; omega), show k + 1 - (d + 1) - 1 = k - d - 1 from by omega, List.append_assoc]
    | true =>
      simp only [if_true, Option.bind_some]
      rw [if_pos (by omega), if_pos (by simp; omega), ih k (j + 1) _ (by omega) (by omega) (by omega) (by simp; omega), show k + 1 - (d + 1) - 1 = k - d - 1 from by omega]
      simp
theorem l10Markup_l0 (L : List Sp) (hl : L.length ≤ 1048576) (hz : tot L ≤ 1048576) (d : Nat) : ∀ (k : Nat) (i : Int) (c : List Int), 0 ≤ i → i + d = L.length → tot (L.drop i.toNat) + 5 * d < k → c.length + 2 * tot (L.drop i.toNat) + 4 * d ≤ 8388608 →
    spec_l10Markup.l0 k L (strOfNums c) i = some (strOfNums (c ++ mkups (L.drop i.toNat))) := by
  induction d with
  | zero =>
    intro k i c h0 h1 hk hc
    obtain ⟨k, rfl⟩ : ∃ m, k = m + 1 := ⟨k - 1, by omega⟩
    simp only [spec_l10Markup.l0]
    rw [if_neg (by omega), drop_none L i (by omega)]
    simp [mkups]
  | succ d ih =>
    intro k i c h0 h1 hk hc
    have hmem := size_le_tot L _ (getD_mem z44 L i h0 (by omega))
    rw [drop_cons z44 L i h0 (by omega), tot_cons] at hk hc
    rw [drop_cons z44 L i h0 (by omega), mkups_cons]
    obtain ⟨k, rfl⟩ : ∃ m, k = m + 3 := ⟨k - 3, by omega⟩
    have e : rd_T44 L i = L.getD i.toNat z44 := rfl
    simp only [spec_l10Markup.l0, e]
    generalize L.getD i.toNat z44 = x at *
    rw [if_pos (by omega), if_pos h0]
    have go : ∀ (p q : ByteArray) (P Q : List Int), p = strOfNums P → q = strOfNums Q → P = openM x → Q = closeM x → spec_l10Markup.j2 (k + 1) L (strOfNums c) i p q x.f0 x.f1 x.f2 = some (strOfNums (c ++ (mkup x ++ mkups (L.drop (i + 1).toNat)))) := by
      intro p q P Q ep eq hP hQ
      have hp2 := openM_len x
      have hq2 := closeM_len x
      subst ep eq hP hQ
      simp only [spec_l10Markup.j2]
      rw [l10Markup_l1 L _ _ _ _ _ _ _ (by omega) h0 (by omega) (by rw [strOfNums_size]; omega) (by rw [strOfNums_size]; omega) (by rw [strOfNums_size]; omega) x.f0.size k 0 [] (by omega) (by omega) (by omega) (by simp; omega)]
      have hm := mkup_len x
      rw [← strOfNums_append, ← strOfNums_append, ← strOfNums_append, ih _ (i + 1) _ (by omega) (by omega) (by omega) ?_]
      · congr 2
        simp [mkup]
      · have h3 := esc_len x.f0.data.toList
        rw [data_length] at h3
        simp only [List.length_append, Int.toNat_zero, List.drop_zero, List.length_nil]
        omega
    have s1 : (⟨#[42]⟩ : ByteArray) ++ ⟨#[95]⟩ = strOfNums [42, 95] := by decide
    have s2 : (⟨#[95]⟩ : ByteArray) ++ ⟨#[42]⟩ = strOfNums [95, 42] := by decide
    have s3 : (⟨#[42]⟩ : ByteArray) ++ ⟨#[]⟩ = strOfNums [42] := by decide
    have s4 : (⟨#[]⟩ : ByteArray) ++ ⟨#[42]⟩ = strOfNums [42] := by decide
    have z1 : (⟨#[95]⟩ : ByteArray).size = 1 := by decide
    have z0 : (⟨#[]⟩ : ByteArray).size = 0 := by decide
    cases h1 : x.f1 with
    | false =>
      simp only [Bool.false_eq_true, if_false, spec_l10Markup.j1]
      cases h2 : x.f2 with
      | false =>
        simp only [Bool.false_eq_true, if_false]
        have := go (⟨#[]⟩ : ByteArray) (⟨#[]⟩ : ByteArray) [] [] (by decide) (by decide) (by simp [openM, h1, h2]) (by simp [closeM, h1, h2])
        rwa [h1, h2] at this
      | true =>
        simp only [if_true]
        rw [if_pos (by omega), if_pos (by omega)]
        have := go _ _ [42] [42] s3 s4 (by simp [openM, h1, h2]) (by simp [closeM, h1, h2])
        rwa [h1, h2] at this
    | true =>
      simp only [if_true, spec_l10Markup.j1]
      cases h2 : x.f2 with
      | false =>
        simp only [Bool.false_eq_true, if_false]
        have := go (⟨#[95]⟩ : ByteArray) (⟨#[95]⟩ : ByteArray) [95] [95] (by decide) (by decide) (by simp [openM, h1, h2]) (by simp [closeM, h1, h2])
        rwa [h1, h2] at this
      | true =>
        simp only [if_true]
        rw [if_pos (by omega), if_pos (by omega)]
        have := go _ _ [42, 95] [95, 42] s1 s2 (by simp [openM, h1, h2]) (by simp [closeM, h1, h2])
        rwa [h1, h2] at this
theorem l10Markup_k (L : List Sp) (hl : L.length ≤ 1048576) (hz : tot L ≤ 1048576) (k : Nat) (hk : 6500000 < k) : spec_l10Markup.f k L = some (strOfNums (mkups L)) := by
  unfold spec_l10Markup.f
  have := l10Markup_l0 L hl hz L.length k 0 [] (by omega) (by omega) (by simp; omega) (by simp; omega)
  simp only [Int.toNat_zero, List.drop_zero, List.nil_append] at this
  exact this
theorem fmt_l1 (L : List Sp) (n i : Int) (t : ByteArray) (f1 f2 : Bool) (ht : t.size ≤ 1048576) (hi : 0 ≤ i) (hi2 : i ≤ 1048576) (d : Nat) : ∀ (k : Nat) (j : Int) (c : List Int), 0 ≤ j → j + d = t.size → d < k → c.length + 2 * d ≤ 16777216 →
    impl_formatSpans.l1 k c j L n i t f1 f2 = impl_formatSpans.l0 (k - d - 1) (c ++ (esc (t.data.toList.drop j.toNat) ++ closeM ⟨t, f1, f2⟩)) L n (i + 1) := by
  induction d with
  | zero =>
    intro k j c h0 h1 hk hc
    obtain ⟨k, rfl⟩ : ∃ m, k = m + 1 := ⟨k - 1, by omega⟩
    simp only [impl_formatSpans.l1]
    rw [if_neg (by omega), drop_end t j (by omega), wrap_small (by omega) (by omega)]
    have q1 : c.length < 140737488355328 := by omega
    have q2 : (c ++ [95]).length < 140737488355328 := by simp; omega
    cases f1 <;> cases f2 <;> simp only [if_true, Bool.false_eq_true, if_false, Option.bind_some, q1, q2] <;> simp [esc, closeM]
  | succ d ih =>
    intro k j c h0 h1 hk hc
    obtain ⟨k, rfl⟩ : ∃ m, k = m + 1 := ⟨k - 1, by omega⟩
    obtain ⟨b, hb, hv⟩ := drop_at t j h0 (by omega)
    simp only [impl_formatSpans.l1]
    rw [if_pos (by omega), if_pos h0, hv, isMarkup_eq, Option.bind_some, hb, esc_cons, wrap_small (x := j + 1) (by omega) (by omega)]
    unfold esc1
    cases isMk (b.toNat : Int) with
    | false =>
      simp only [Bool.false_eq_true, if_false]
      rw [if_pos (by omega), ih k (j + 1) _ (by omega) (by omega) (by omega) (by simp; omega), show k + 1 - (d + 1) - 1 = k - d - 1 from by omega]
      simp
    | true =>
      simp only [if_true, Option.bind_some]
      rw [if_pos (by omega), if_pos (by simp; omega), ih k (j + 1) _ (by omega) (by omega) (by omega) (by simp; omega), show k + 1 - (d + 1) - 1 = k - d - 1 from by omega]
      simp
theorem fmt_l0 (L : List Sp) (hl : L.length ≤ 1048576) (hz : tot L ≤ 1048576) (d : Nat) : ∀ (k : Nat) (i : Int) (c : List Int), 0 ≤ i → i + d = L.length → tot (L.drop i.toNat) + 5 * d < k → c.length + 2 * tot (L.drop i.toNat) + 4 * d ≤ 8388608 →
    impl_formatSpans.l0 k c L (L.length : Int) i = some (strOfNums (c ++ mkups (L.drop i.toNat))) := by
  induction d with
  | zero =>
    intro k i c h0 h1 hk hc
    obtain ⟨k, rfl⟩ : ∃ m, k = m + 1 := ⟨k - 1, by omega⟩
    simp only [impl_formatSpans.l0]
    rw [if_neg (by omega), drop_none L i (by omega)]
    simp [mkups]
  | succ d ih =>
    intro k i c h0 h1 hk hc
    have hmem := size_le_tot L _ (getD_mem z44 L i h0 (by omega))
    rw [drop_cons z44 L i h0 (by omega), tot_cons] at hk hc
    rw [drop_cons z44 L i h0 (by omega), mkups_cons]
    obtain ⟨k, rfl⟩ : ∃ m, k = m + 3 := ⟨k - 3, by omega⟩
    have e : rd_T44 L i = L.getD i.toNat z44 := rfl
    simp only [impl_formatSpans.l0, e]
    generalize L.getD i.toNat z44 = x at *
    rw [if_pos (by omega), if_pos h0, if_pos (by omega)]
    have go : ∀ (c2 : List Int), c2 = c ++ openM x → impl_formatSpans.j2 (k + 1) c2 L (L.length : Int) i x.f0 x.f1 x.f2 = some (strOfNums (c ++ (mkup x ++ mkups (L.drop (i + 1).toNat)))) := by
      intro c2 hc2
      have hp2 := openM_len x
      have hq2 := closeM_len x
      subst hc2
      simp only [impl_formatSpans.j2]
      rw [fmt_l1 L _ _ _ _ _ (by omega) h0 (by omega) x.f0.size k 0 _ (by omega) (by omega) (by omega) (by simp; omega)]
      have h3 := esc_len x.f0.data.toList
      rw [data_length] at h3
      rw [ih _ (i + 1) _ (by omega) (by omega) (by omega) ?_]
      · congr 2
        simp [mkup]
      · have e4 : closeM (⟨x.f0, x.f1, x.f2⟩ : Sp) = closeM x := rfl
        simp only [List.length_append, Int.toNat_zero, List.drop_zero, e4]
        omega
    cases h1 : x.f1 with
    | false =>
      cases h2 : x.f2 with
      | false =>
        simp only [Bool.false_eq_true, if_false, impl_formatSpans.j1]
        have := go c (by simp [openM, h1, h2])
        rwa [h1, h2] at this
      | true =>
        simp only [if_true, Bool.false_eq_true, if_false, impl_formatSpans.j1]
        rw [if_pos (by omega)]
        have := go (c ++ [42]) (by simp [openM, h1, h2])
        rwa [h1, h2] at this
    | true =>
      cases h2 : x.f2 with
      | false =>
        simp only [if_true, Bool.false_eq_true, if_false, impl_formatSpans.j1]
        rw [if_pos (by omega)]
        have := go (c ++ [95]) (by simp [openM, h1, h2])
        rwa [h1, h2] at this
      | true =>
        simp only [if_true, impl_formatSpans.j1]
        rw [if_pos (by omega), if_pos (by simp; omega)]
        have := go ((c ++ [42]) ++ [95]) (by simp [openM, h1, h2])
        rwa [h1, h2] at this
theorem formatSpans_k (L : List Sp) (hl : L.length ≤ 1048576) (hz : tot L ≤ 1048576) (k : Nat) (hk : 6500000 < k) : impl_formatSpans.f k L = some (strOfNums (mkups (norm [] L))) := by
  unfold impl_formatSpans.f
  have nb := norm_bounds L []
  simp only [List.length_nil, tot_nil] at nb
  rw [normalized_k L hl hz k (by omega), Option.bind_some]
  have := fmt_l0 (norm [] L) (by omega) (by omega) (norm [] L).length k 0 [] (by omega) (by omega) (by simp; omega) (by simp; omega)
  simpa using this

end Go.Proofs.Ytgaepocgpjbapaa.Pure
