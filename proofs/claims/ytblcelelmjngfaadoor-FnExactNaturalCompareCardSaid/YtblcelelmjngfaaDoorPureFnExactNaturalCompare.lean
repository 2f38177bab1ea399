/- The law FnExactNaturalCompare, as a statement over numbers and lists: the program's function and the reference's answer alike, for every input; no further condition. -/
import Derived.Test.YtblcelelmjngfaaDoorPx1
import Derived.Test.YtblcelelmjngfaaDoorPx10
import Derived.Test.YtblcelelmjngfaaDoorPx11
import Derived.Test.YtblcelelmjngfaaDoorPx12
import Derived.Test.YtblcelelmjngfaaDoorPx2
import Derived.Test.YtblcelelmjngfaaDoorPx3
import Derived.Test.YtblcelelmjngfaaDoorPx4
import Derived.Test.YtblcelelmjngfaaDoorPx5
import Derived.Test.YtblcelelmjngfaaDoorPx6
import Derived.Test.YtblcelelmjngfaaDoorPx7
import Derived.Test.YtblcelelmjngfaaDoorPx8
import Derived.Test.YtblcelelmjngfaaDoorPx9
namespace Go.Proofs.YtblcelelmjngfaaDoor.Pure
open Go.RowKit Go.Proofs.YtblcelelmjngfaaDoor.Px Go.Proofs.YtblcelelmjngfaaDoorW.PrintWords Go.Proofs.YtblcelelmjngfaaDoorW.PrintLast
set_option linter.unusedVariables false
set_option linter.unusedSimpArgs false

theorem wrap_small {x : Int} (h0 : -4611686018427387904 ≤ x) (h1 : x ≤ 4611686018427387904) : wrap64 x = x := by unfold wrap64; omega
theorem drop_at (s : ByteArray) (i : Int) (h0 : 0 ≤ i) (h1 : i < (s.size : Int)) : ∃ b : UInt8, s.data.toList.drop i.toNat = b :: s.data.toList.drop (i + 1).toNat ∧ bt s i = (b.toNat : Int) := by
  have hl : i.toNat < s.data.toList.length := by rw [data_length]; omega
  refine ⟨s.data.toList[i.toNat], ?_, ?_⟩
  · rw [List.drop_eq_getElem_cons hl]
    congr 2
    omega
  · unfold bt
    rw [dif_pos (by omega)]
    rfl
theorem drop_end (s : ByteArray) (i : Int) (h1 : i = (s.size : Int)) : s.data.toList.drop i.toNat = [] := by
  apply List.drop_of_length_le
  rw [data_length]
  omega
theorem toList_nil (s : ByteArray) : s.toList = ([] : List UInt8) ↔ s.size = 0 := by
  rw [Lib.toList_data, ← data_length, List.length_eq_zero_iff]
theorem toList_nil_b (s : ByteArray) : (s.toList == ([] : List UInt8)) = decide (s.size = 0) := by
  by_cases h : s.size = 0
  · rw [(toList_nil s).2 h]; simp [h]
  · have : s.toList ≠ [] := fun e => h ((toList_nil s).1 e)
    simp [h, this]

theorem or2 (x y : Int) (k : Nat) (hk : 5 ≤ k) : cmp_Or_int.f k [x, y] = some (if x = 0 then y else x) := by
  obtain ⟨k, rfl⟩ : ∃ m, k = m + 3 := ⟨k - 3, by omega⟩
  unfold cmp_Or_int.f
  have w1 : wrap64 (0 + 1) = 1 := wrap_small (by omega) (by omega)
  have w2 : wrap64 (1 + 1) = 2 := wrap_small (by omega) (by omega)
  have r0 : rd [x, y] 0 = x := rfl
  have r1 : rd [x, y] 1 = y := rfl
  have l2 : (([x, y] : List Int).length : Int) = 2 := rfl
  simp only [cmp_Or_int.l0, w1, w2, r0, r1, l2]
  by_cases hx : x = 0
  · by_cases hy : y = 0
    · simp [hx, hy]
    · simp [hx, hy]
  · simp [hx]
def dg (b : Int) : Bool := decide (b ≥ 48) && decide (b ≤ 57)
theorem isDigit_eq (b : Int) : impl_isDigit.f b = some (dg b) := by
  unfold impl_isDigit.f dg
  by_cases h : b ≥ 48
  · rw [if_pos h, decide_eq_true h]; rfl
  · rw [if_neg h, decide_eq_false h]; rfl
theorem l8Digit_eq (b : Int) : spec_l8Digit.f b = some (dg b) := by
  unfold spec_l8Digit.f dg
  by_cases h : b ≥ 48
  · rw [if_pos h, decide_eq_true h]; rfl
  · rw [if_neg h, decide_eq_false h]; rfl
theorem runs_same : ∀ (k : Nat) (s : ByteArray) (o : List ByteArray) (i j : Int), impl_runsOf.l0 k s o i j = spec_l8Runs.l0 k s o i j
  | 0, _, _, _, _ => rfl
  | k + 1, s, o, i, j => by simp only [impl_runsOf.l0, spec_l8Runs.l0, runs_same k, isDigit_eq, l8Digit_eq]
/-- A run: not empty, and short. -/
def isRun (x : ByteArray) : Prop := 0 < x.size ∧ x.size ≤ 40
theorem runs_ex (s : ByteArray) (hs : s.size ≤ 40) (d : Nat) : ∀ (o : List ByteArray) (i j : Int), 0 ≤ i → i < j → j + d = s.size + 1 → (o.length : Int) ≤ j → (∀ x ∈ o, isRun x) → ∃ X, (∀ k, d < k → spec_l8Runs.l0 k s o i j = some X) ∧ (∀ x ∈ X, isRun x) ∧ (X.length : Int) ≤ s.size + 1 := by
  induction d with
  | zero =>
    intro o i j h0 h1 hj ho hr
    refine ⟨o, fun k hk => ?_, hr, by omega⟩
    obtain ⟨k, rfl⟩ : ∃ m, k = m + 1 := ⟨k - 1, by omega⟩
    simp only [spec_l8Runs.l0]
    rw [if_neg (by omega)]
  | succ d ih =>
    intro o i j h0 h1 hj ho hr
    have hw : wrap64 (j + 1) = j + 1 := wrap_small (by omega) (by omega)
    have hw2 : wrap64 (j - 1) = j - 1 := wrap_small (by omega) (by omega)
    have hz : (s.extract i.toNat j.toNat).size = j.toNat - i.toNat := by rw [ByteArray.size_extract]; omega
    obtain ⟨X1, e1, p1⟩ := ih (o ++ [s.extract i.toNat j.toNat]) j (j + 1) (by omega) (by omega) (by omega) (by rw [List.length_append]; simp; omega) (fun x hx => by
      rcases List.mem_append.1 hx with hx | hx
      · exact hr x hx
      · rw [List.mem_singleton.1 hx]; exact ⟨by omega, by omega⟩)
    obtain ⟨X2, e2, p2⟩ := ih o i (j + 1) h0 (by omega) (by omega) (by omega) hr
    by_cases c : j = (s.size : Int)
    · refine ⟨X1, fun k hk => ?_, p1⟩
      obtain ⟨k, rfl⟩ : ∃ m, k = m + 1 := ⟨k - 1, by omega⟩
      simp only [spec_l8Runs.l0, hw]
      rw [if_pos (by omega), if_pos c, if_pos h0, if_pos (show i ≤ j from by omega), if_pos (by omega)]
      exact e1 k (by omega)
    · by_cases q : (dg (bt s j) != dg (bt s (j - 1))) = true
      · refine ⟨X1, fun k hk => ?_, p1⟩
        obtain ⟨k, rfl⟩ : ∃ m, k = m + 1 := ⟨k - 1, by omega⟩
        simp only [spec_l8Runs.l0, hw, hw2, l8Digit_eq, Option.bind_some]
        rw [if_pos (by omega), if_neg c, if_pos (by omega), if_pos (by omega), if_pos (show 0 ≤ j - 1 from by omega), if_pos (show j - 1 < (s.size : Int) from by omega), if_pos q, if_pos h0, if_pos (show i ≤ j from by omega), if_pos (by omega)]
        exact e1 k (by omega)
      · refine ⟨X2, fun k hk => ?_, p2⟩
        obtain ⟨k, rfl⟩ : ∃ m, k = m + 1 := ⟨k - 1, by omega⟩
        simp only [spec_l8Runs.l0, hw, hw2, l8Digit_eq, Option.bind_some]
        rw [if_pos (by omega), if_neg c, if_pos (by omega), if_pos (by omega), if_pos (show 0 ≤ j - 1 from by omega), if_pos (show j - 1 < (s.size : Int) from by omega), if_neg q]
        exact e2 k (by omega)
theorem runs_k (s : ByteArray) (hs : s.size ≤ 40) : ∃ X, (∀ k, 100 ≤ k → spec_l8Runs.f k s = some X) ∧ impl_runsOf.f 1000 s = some X ∧ (∀ x ∈ X, isRun x) ∧ (X.length : Int) ≤ s.size + 1 := by
  obtain ⟨X, e, p⟩ := runs_ex s hs s.size [] 0 1 (by omega) (by omega) (by omega) (by simp) (fun x hx => by cases hx)
  refine ⟨X, fun k hk => e k (by omega), ?_, p⟩
  unfold impl_runsOf.f
  rw [runs_same]
  exact e 1000 (by omega)
def ofL (l : List UInt8) : ByteArray := ⟨l.toArray⟩
theorem ofL_data (s : ByteArray) : ofL s.data.toList = s := by unfold ofL; rw [Array.toArray_toList]
theorem data_nil (s : ByteArray) (h : s.size = 0) : s.data.toList = [] := List.eq_nil_of_length_eq_zero (by rw [data_length]; exact h)
def zr (b : UInt8) : Bool := b == 48
def noZ (l : List UInt8) : List UInt8 := l.dropWhile zr
theorem zr_bt (b : UInt8) : ((b.toNat : Int) = 48) ↔ zr b = true := by
  unfold zr
  rw [beq_iff_eq, ← UInt8.toNat_inj]
  show ((b.toNat : Int) = 48) ↔ b.toNat = 48
  omega
theorem noZ_cons (l : List UInt8) (b : UInt8) : noZ (b :: l) = if zr b = true then noZ l else b :: l := by
  unfold noZ
  rw [List.dropWhile_cons]
theorem first_at (s : ByteArray) (h : 0 < s.size) : ∃ (l : List UInt8) (b : UInt8), s.data.toList = b :: l ∧ bt s 0 = (b.toNat : Int) ∧ (s.extract 1 s.size).data.toList = l := by
  obtain ⟨b, hb, hv⟩ := drop_at s 0 (by omega) (by omega)
  have hl := data_length s
  refine ⟨s.data.toList.drop 1, b, ?_, hv, ?_⟩
  · simpa using hb
  · simp only [ByteArray.data_extract, Array.toList_extract, List.extract_eq_take_drop]
    rw [List.take_of_length_le (by rw [List.length_drop, hl]; omega)]
theorem ext_drop (s : ByteArray) (n : Nat) : s.extract n s.size = ofL (s.data.toList.drop n) := by
  rw [← ofL_data (s.extract n s.size)]
  congr 1
  have hl := data_length s
  simp only [ByteArray.data_extract, Array.toList_extract, List.extract_eq_take_drop]
  rw [List.take_of_length_le (by rw [List.length_drop, hl]; omega)]
theorem trimZ : ∀ (n : Nat) (s : ByteArray) (k : Nat), s.size = n → n < k → strings_trimLeftByte.l0 k s 48 = some (ofL (noZ s.data.toList))
  | 0, s, k, hn, hk => by
    obtain ⟨k, rfl⟩ : ∃ m, k = m + 1 := ⟨k - 1, by omega⟩
    simp only [strings_trimLeftByte.l0]
    rw [if_neg (by omega), data_nil s hn]
    exact congrArg some ((ofL_data s).symm.trans (by rw [data_nil s hn]; rfl))
  | n + 1, s, k, hn, hk => by
    obtain ⟨k, rfl⟩ : ∃ m, k = m + 1 := ⟨k - 1, by omega⟩
    have hz : (s.extract 1 s.size).size = n := by rw [ByteArray.size_extract]; omega
    obtain ⟨l, b, e1, e2, e3⟩ := first_at s (by omega)
    simp only [strings_trimLeftByte.l0]
    rw [if_pos (by omega), if_pos (by omega), if_pos (show 1 ≤ (s.size : Int) from by omega), trimZ n _ k hz (by omega), e2, e3, e1, noZ_cons]
    by_cases c : zr b = true
    · rw [if_pos ((zr_bt b).2 c), if_pos c]
    · rw [if_neg (fun h => c ((zr_bt b).1 h)), if_neg c, ← e1, ofL_data]
theorem TrimLeft_k (s : ByteArray) (k : Nat) (hk : s.size < k) : strings_TrimLeft.f k s ⟨#[48]⟩ = some (ofL (noZ s.data.toList)) := by
  unfold strings_TrimLeft.f
  rw [if_pos (by rfl), if_pos (by decide)]
  exact trimZ _ s k rfl hk
theorem value_l0 (s : ByteArray) (hs : s.size ≤ 40) (d : Nat) : ∀ (k : Nat) (i : Int), 0 ≤ i → i + d = s.size → d < k → spec_l8Value.l0 k s i = some (ofL (noZ (s.data.toList.drop i.toNat))) := by
  induction d with
  | zero =>
    intro k i h0 h1 hk
    obtain ⟨k, rfl⟩ : ∃ m, k = m + 1 := ⟨k - 1, by omega⟩
    simp only [spec_l8Value.l0]
    rw [if_neg (by omega), if_pos h0, if_pos (by omega), ext_drop, drop_end s i (by omega)]
    rfl
  | succ d ih =>
    intro k i h0 h1 hk
    obtain ⟨k, rfl⟩ : ∃ m, k = m + 1 := ⟨k - 1, by omega⟩
    obtain ⟨b, hb, hv⟩ := drop_at s i h0 (by omega)
    simp only [spec_l8Value.l0]
    rw [if_pos (by omega), if_pos h0, if_pos (show i ≤ (s.size : Int) from by omega), wrap_small (by omega) (by omega), ih k (i + 1) (by omega) (by omega) (by omega), ext_drop, hv, hb, noZ_cons]
    by_cases c : zr b = true
    · rw [if_pos ((zr_bt b).2 c), if_pos c]
    · rw [if_neg (fun h => c ((zr_bt b).1 h)), if_neg c]
theorem value_k (s : ByteArray) (hs : s.size ≤ 40) (k : Nat) (hk : s.size < k) : spec_l8Value.f k s = some (ofL (noZ s.data.toList)) := by
  have h := value_l0 s hs s.size k 0 (by omega) (by omega) hk
  show spec_l8Value.l0 k s 0 = _
  simpa using h
theorem run_k (x y : ByteArray) (hx : isRun x) (hy : isRun y) : ∃ c, (∀ k, 100 ≤ k → spec_l8Run.f k x y = some c) ∧ impl_NaturalCompare.cf x y = some c := by
  have hx0 : (0 < (x.size : Int)) = True := eq_true (by have := hx.1; omega)
  have hy0 : (0 < (y.size : Int)) = True := eq_true (by have := hy.1; omega)
  have tx := TrimLeft_k x 999 (by have := hx.2; omega)
  have ty := TrimLeft_k y 999 (by have := hy.2; omega)
  have cmpI : ∀ a b : Int, cmp_Compare_int.f a b = some (if a < b then -1 else if a > b then 1 else 0) := fun a b => by
    unfold cmp_Compare_int.f cmp_isNaN_int.f
    simp only [bne_self_eq_false, Option.bind_some, Bool.false_eq_true, if_false]
    split
    · rfl
    · split <;> rfl
  have sc : ∀ a b : ByteArray, strings_Compare.f a b = some (Lib.compareBytes a.data.toList b.data.toList) := fun a b => rfl
  have l2 : ∀ a b : ByteArray, spec_l2Text.f a b = some (Lib.compareBytes a.data.toList b.data.toList) := fun a b => rfl
  have hspec : ∀ k, 100 ≤ k → spec_l8Run.f k x y = some (if dg (bt x 0) = true then (if dg (bt y 0) = true then (if (((ofL (noZ x.data.toList)).size : Int) < ((ofL (noZ y.data.toList)).size : Int)) then -1 else if (((ofL (noZ x.data.toList)).size : Int) > ((ofL (noZ y.data.toList)).size : Int)) then 1 else Lib.compareBytes (ofL (noZ x.data.toList)).data.toList (ofL (noZ y.data.toList)).data.toList) else -1) else (if dg (bt y 0) = true then 1 else Lib.compareBytes x.data.toList y.data.toList)) := by
    intro k hk
    obtain ⟨k, rfl⟩ : ∃ m, k = m + 2 := ⟨k - 2, by omega⟩
    have vx := value_k x hx.2 k (by have := hx.2; omega)
    have vy := value_k y hy.2 k (by have := hy.2; omega)
    unfold spec_l8Run.f
    simp only [hx0, hy0, if_true, l8Digit_eq, Option.bind_some]
    generalize ofL (noZ x.data.toList) = p at vx ⊢
    generalize ofL (noZ y.data.toList) = q at vy ⊢
    cases dg (bt x 0) <;> cases dg (bt y 0) <;> simp [spec_l8Run.j0, spec_l8Run.j1, l2, vx, vy]
    by_cases c1 : p.size = q.size
    · rw [if_pos (show (p.size : Int) = (q.size : Int) from by omega), if_neg (by omega), if_neg (by omega)]
    · rw [if_neg (show ¬ (p.size : Int) = (q.size : Int) from by omega)]
      by_cases c2 : p.size < q.size
      · rw [if_pos c2, if_pos c2]
      · rw [if_neg c2, if_neg c2, if_pos (by omega)]
  refine ⟨_, hspec, ?_⟩
  unfold impl_NaturalCompare.cf impl_compareRuns.f
  simp only [hx0, hy0, if_true, isDigit_eq, Option.bind_some]
  generalize ofL (noZ x.data.toList) = p at tx ⊢
  generalize ofL (noZ y.data.toList) = q at ty ⊢
  have j : ∀ b : Bool, impl_compareRuns.j0 1000 x y b = if b = true then some (if (if (p.size : Int) < (q.size : Int) then (-1 : Int) else if (p.size : Int) > (q.size : Int) then 1 else 0) = 0 then Lib.compareBytes p.data.toList q.data.toList else (if (p.size : Int) < (q.size : Int) then (-1 : Int) else if (p.size : Int) > (q.size : Int) then 1 else 0)) else (if dg (bt x 0) = true then some (-1) else if dg (bt y 0) = true then some 1 else some (Lib.compareBytes x.data.toList y.data.toList)) := fun b => by
    rw [show (1000 : Nat) = 999 + 1 from rfl]
    simp only [impl_compareRuns.j0, tx, ty, cmpI, sc, hx0, hy0, if_true, isDigit_eq, Option.bind_some, or2 _ _ 999 (by omega : 5 ≤ 999)]
  rw [j, j]
  cases dg (bt x 0) <;> cases dg (bt y 0) <;> simp
  by_cases c2 : p.size < q.size
  · simp [c2]
  · by_cases c3 : q.size < p.size
    · simp [c2, c3]
    · simp [c2, c3]
theorem cmp_l0 (a b : ByteArray) (X Y : List ByteArray) (hX : ∀ x ∈ X, isRun x) (hY : ∀ y ∈ Y, isRun y) (hl : X.length ≤ 1048576) (d : Nat) : ∀ (k : Nat) (i : Int), 0 ≤ i → i + d = X.length → i ≤ (Y.length : Int) → 2 * d + 103 < k →
    spec_NaturalCompare.l0 k a b X Y i = some (if impl_NaturalCompare.cmpL (fun x y => (impl_NaturalCompare.cf x y).getD 0) (X.drop i.toNat) (Y.drop i.toNat) = 0 then Lib.compareBytes a.data.toList b.data.toList else impl_NaturalCompare.cmpL (fun x y => (impl_NaturalCompare.cf x y).getD 0) (X.drop i.toNat) (Y.drop i.toNat), true) := by
  have l2 : spec_l2Text.f a b = some (Lib.compareBytes a.data.toList b.data.toList) := rfl
  induction d with
  | zero =>
    intro k i h0 h1 hy hk
    obtain ⟨k, rfl⟩ : ∃ m, k = m + 2 := ⟨k - 2, by omega⟩
    rw [spec_NaturalCompare.l0, if_neg (by omega), spec_NaturalCompare.j2, if_neg (by decide), show X.drop i.toNat = [] from List.drop_of_length_le (by omega), l2]
    by_cases c : i < (Y.length : Int)
    · rw [if_pos (by omega), impl_NaturalCompare.drop_rd Y i h0 c, impl_NaturalCompare.cmpL, if_neg (by omega)]
    · rw [if_neg (by omega), if_neg (by omega), show Y.drop i.toNat = [] from List.drop_of_length_le (by omega), impl_NaturalCompare.cmpL, if_pos rfl]
      rfl
  | succ d ih =>
    intro k i h0 h1 hy hk
    obtain ⟨k, rfl⟩ : ∃ m, k = m + 2 := ⟨k - 2, by omega⟩
    have hi : i < (X.length : Int) := by omega
    rw [spec_NaturalCompare.l0, if_pos hi, impl_NaturalCompare.drop_rd X i h0 hi]
    by_cases c : i < (Y.length : Int)
    · obtain ⟨r, e1, e2⟩ := run_k _ _ (hX _ (impl_NaturalCompare.rd_mem X i h0 hi)) (hY _ (impl_NaturalCompare.rd_mem Y i h0 c))
      rw [decide_eq_true c, spec_NaturalCompare.j2, if_pos rfl, if_pos h0, if_pos hi, if_pos c, e1 k (by omega), Option.bind_some, impl_NaturalCompare.drop_rd Y i h0 c, impl_NaturalCompare.cmpL, e2, wrap_small (by omega) (by omega)]
      simp only [Option.getD_some]
      by_cases hz : r = 0
      · rw [if_pos hz, if_pos hz]
        exact ih k (i + 1) (by omega) (by omega) (by omega) (by omega)
      · rw [if_neg hz, if_neg hz, if_neg hz]
    · rw [decide_eq_false c, spec_NaturalCompare.j2, if_neg (by decide), if_neg (by omega), if_pos (by omega), show Y.drop i.toNat = [] from List.drop_of_length_le (by omega), impl_NaturalCompare.cmpL, if_neg (by omega)]
theorem FnExactNaturalCompare : laws_FnExactNaturalCompare.Pure := by
  intro a b ha hb
  unfold laws_FnExactNaturalCompare.f
  by_cases ca : (a.size : Int) > 1048576
  · exact ⟨0, by rw [if_pos ca]⟩
  by_cases cb : (b.size : Int) > 1048576
  · exact ⟨0, by rw [if_neg ca, if_pos cb]⟩
  by_cases hs0 : a.size > 40
  · refine ⟨2, ?_⟩
    rw [if_neg ca, if_neg cb]
    unfold spec_NaturalCompare.f impl_NaturalCompare.f
    rw [if_pos (show (a.size : Int) > 40 from by omega), if_pos (.inl hs0)]
    simp [spec_NaturalCompare.j0]
  by_cases hs1 : b.size > 40
  · refine ⟨2, ?_⟩
    rw [if_neg ca, if_neg cb]
    unfold spec_NaturalCompare.f impl_NaturalCompare.f
    rw [if_neg (show ¬ (a.size : Int) > 40 from by omega), if_pos (.inr hs1), decide_eq_true (show (b.size : Int) > 40 from by omega)]
    simp [spec_NaturalCompare.j0]
  obtain ⟨X, x1, x2, x3, x4⟩ := runs_k a (by omega)
  obtain ⟨Y, y1, y2, y3, _⟩ := runs_k b (by omega)
  by_cases hl : X.length ≤ 1048576
  · refine ⟨2 * X.length + 200, ?_⟩
    rw [if_neg ca, if_neg cb]
    have hall : X.all (fun x => Y.all fun y => (impl_NaturalCompare.cf x y).isSome) = true := List.all_eq_true.2 fun x hx => List.all_eq_true.2 fun y hy => by
      obtain ⟨c, _, e⟩ := run_k x y (x3 x hx) (y3 y hy)
      rw [e]; rfl
    have hsp := cmp_l0 a b X Y x3 y3 hl X.length (2 * X.length + 199) 0 (by omega) (by omega) (by omega) (by omega)
    simp only [Int.toNat_zero, List.drop_zero] at hsp
    have sc : strings_Compare.f a b = some (Lib.compareBytes a.data.toList b.data.toList) := rfl
    unfold spec_NaturalCompare.f impl_NaturalCompare.f
    rw [if_neg (show ¬ (a.size : Int) > 40 from by omega), decide_eq_false (show ¬ (b.size : Int) > 40 from by omega), if_neg (by omega), x2, y2, Option.bind_some, Option.bind_some, if_pos hall, sc, Option.bind_some, or2 _ _ 1000 (by omega), Option.bind_some]
    rw [show 2 * X.length + 200 = (2 * X.length + 199) + 1 from rfl, spec_NaturalCompare.j0, if_neg (by decide), x1 _ (by omega), y1 _ (by omega), Option.bind_some, Option.bind_some, hsp]
    simp
  · omega

end Go.Proofs.YtblcelelmjngfaaDoor.Pure
