/- Lemmas on the printed functions, without Go and memory. -/
import Derived.Test.YtblcelelmjngfaaDoorPx1
import Derived.Test.YtblcelelmjngfaaDoorPx2
import Derived.Test.YtblcelelmjngfaaDoorPx3
import Derived.Test.YtblcelelmjngfaaDoorPx4
import Derived.Test.YtblcelelmjngfaaDoorPx5
import Derived.Test.YtblcelelmjngfaaDoorPx6
import Derived.Test.YtblcelelmjngfaaDoorPx7
import Derived.Test.YtblcelelmjngfaaDoorPx8
import Derived.Test.YtblcelelmjngfaaDoorPx9
import Derived.Test.YtblcelelmjngfaaDoorQFold
namespace Go.Proofs.YtblcelelmjngfaaDoor.Pure
open Go.RowKit Go.Proofs.YtblcelelmjngfaaDoor.Px Go.Proofs.YtblcelelmjngfaaDoorW.PrintWords Go.Proofs.YtblcelelmjngfaaDoorW.PrintLast
set_option linter.unusedVariables false
set_option linter.unusedSimpArgs false

theorem or2 (x y : Int) (k : Nat) (hk : 5 ≤ k) : cmp_Or_int.f k [x, y] = some (if x = 0 then y else x) := by
  obtain ⟨k, rfl⟩ : ∃ m, k = m + 3 := ⟨k - 3, by omega⟩
  unfold cmp_Or_int.f
  have w1 : wrap64 (0 + 1) = 1 := wrap_small (by omega) (by omega)
  have w2 : wrap64 (1 + 1) = 2 := wrap_small (by omega) (by omega)
  have r0 : rd [x, y] 0 = x := rfl
  have r1 : rd [x, y] 1 = y := rfl
  have l2 : (([x, y] : List Int).length : Int) = 2 := rfl
  simp only [cmp_Or_int.l0, w1, w2, r0, r1, l2]
  by_cases hx : x = 0
  · by_cases hy : y = 0
    · simp [hx, hy]
    · simp [hx, hy]
  · simp [hx]

def dg (b : Int) : Bool := decide (b ≥ 48) && decide (b ≤ 57)
theorem isDigit_eq (b : Int) : impl_isDigit.f b = some (dg b) := by
  unfold impl_isDigit.f dg
  by_cases h : b ≥ 48
  · rw [if_pos h, decide_eq_true h]; rfl
  · rw [if_neg h, decide_eq_false h]; rfl
theorem l8Dg_eq (b : Int) : spec_l8Digit.f b = some (dg b) := by
  unfold spec_l8Digit.f dg
  by_cases h : b ≥ 48
  · rw [if_pos h, decide_eq_true h]; rfl
  · rw [if_neg h, decide_eq_false h]; rfl
theorem runs_same : ∀ (k : Nat) (s : ByteArray) (o : List ByteArray) (i j : Int), impl_runsOf.l0 k s o i j = spec_l8Runs.l0 k s o i j
  | 0, _, _, _, _ => rfl
  | k + 1, s, o, i, j => by simp only [impl_runsOf.l0, spec_l8Runs.l0, runs_same k, isDigit_eq, l8Dg_eq]
/-- A run: not empty, and short. -/
def isRun (x : ByteArray) : Prop := 0 < x.size ∧ x.size ≤ 40
theorem runs_ex (s : ByteArray) (hs : s.size ≤ 40) (d : Nat) : ∀ (o : List ByteArray) (i j : Int), 0 ≤ i → i < j → j + d = s.size + 1 → (o.length : Int) ≤ j → (∀ x ∈ o, isRun x) → ∃ X, (∀ k, d < k → spec_l8Runs.l0 k s o i j = some X) ∧ (∀ x ∈ X, isRun x) ∧ (X.length : Int) ≤ s.size + 1 := by
  induction d with
  | zero =>
    intro o i j h0 h1 hj ho hr
    refine ⟨o, fun k hk => ?_, hr, by omega⟩
    obtain ⟨k, rfl⟩ : ∃ m, k = m + 1 := ⟨k - 1, by omega⟩
    simp only [spec_l8Runs.l0]
    rw [if_neg (by omega)]
  | succ d ih =>
    intro o i j h0 h1 hj ho hr
    have hw : wrap64 (j + 1) = j + 1 := wrap_small (by omega) (by omega)
    have hw2 : wrap64 (j - 1) = j - 1 := wrap_small (by omega) (by omega)
    have hz : (s.extract i.toNat j.toNat).size = j.toNat - i.toNat := by rw [ByteArray.size_extract]; omega
    obtain ⟨X1, e1, p1⟩ := ih (o ++ [s.extract i.toNat j.toNat]) j (j + 1) (by omega) (by omega) (by omega) (by rw [List.length_append]; simp; omega) (fun x hx => by
      rcases List.mem_append.1 hx with hx | hx
      · exact hr x hx
      · rw [List.mem_singleton.1 hx]; exact ⟨by omega, by omega⟩)
    obtain ⟨X2, e2, p2⟩ := ih o i (j + 1) h0 (by omega) (by omega) (by omega) hr
    by_cases c : j = (s.size : Int)
    · refine ⟨X1, fun k hk => ?_, p1⟩
      obtain ⟨k, rfl⟩ : ∃ m, k = m + 1 := ⟨k - 1, by omega⟩
      simp only [spec_l8Runs.l0, hw]
      rw [if_pos (by omega), if_pos c, if_pos h0, if_pos (show i ≤ j from by omega), if_pos (by omega)]
      exact e1 k (by omega)
    · by_cases q : (dg (bt s j) != dg (bt s (j - 1))) = true
      · refine ⟨X1, fun k hk => ?_, p1⟩
        obtain ⟨k, rfl⟩ : ∃ m, k = m + 1 := ⟨k - 1, by omega⟩
        simp only [spec_l8Runs.l0, hw, hw2, l8Dg_eq, Option.bind_some]
        rw [if_pos (by omega), if_neg c, if_pos (by omega), if_pos (by omega), if_pos (show 0 ≤ j - 1 from by omega), if_pos (show j - 1 < (s.size : Int) from by omega), if_pos q, if_pos h0, if_pos (show i ≤ j from by omega), if_pos (by omega)]
        exact e1 k (by omega)
      · refine ⟨X2, fun k hk => ?_, p2⟩
        obtain ⟨k, rfl⟩ : ∃ m, k = m + 1 := ⟨k - 1, by omega⟩
        simp only [spec_l8Runs.l0, hw, hw2, l8Dg_eq, Option.bind_some]
        rw [if_pos (by omega), if_neg c, if_pos (by omega), if_pos (by omega), if_pos (show 0 ≤ j - 1 from by omega), if_pos (show j - 1 < (s.size : Int) from by omega), if_neg q]
        exact e2 k (by omega)
theorem runs_k (s : ByteArray) (hs : s.size ≤ 40) : ∃ X, (∀ k, 100 ≤ k → spec_l8Runs.f k s = some X) ∧ impl_runsOf.f 1000 s = some X ∧ (∀ x ∈ X, isRun x) ∧ (X.length : Int) ≤ s.size + 1 := by
  obtain ⟨X, e, p⟩ := runs_ex s hs s.size [] 0 1 (by omega) (by omega) (by omega) (by simp) (fun x hx => by cases hx)
  refine ⟨X, fun k hk => e k (by omega), ?_, p⟩
  unfold impl_runsOf.f
  rw [runs_same]
  exact e 1000 (by omega)
def ofL (l : List UInt8) : ByteArray := ⟨l.toArray⟩
theorem ofL_data (s : ByteArray) : ofL s.data.toList = s := by unfold ofL; rw [Array.toArray_toList]
theorem data_nil (s : ByteArray) (h : s.size = 0) : s.data.toList = [] := List.eq_nil_of_length_eq_zero (by rw [data_length]; exact h)
def zr (b : UInt8) : Bool := b == 48
def noZ (l : List UInt8) : List UInt8 := l.dropWhile zr
theorem zr_bt (b : UInt8) : ((b.toNat : Int) = 48) ↔ zr b = true := by
  unfold zr
  rw [beq_iff_eq, ← UInt8.toNat_inj]
  show ((b.toNat : Int) = 48) ↔ b.toNat = 48
  omega
theorem noZ_cons (l : List UInt8) (b : UInt8) : noZ (b :: l) = if zr b = true then noZ l else b :: l := by
  unfold noZ
  rw [List.dropWhile_cons]
theorem first_at (s : ByteArray) (h : 0 < s.size) : ∃ (l : List UInt8) (b : UInt8), s.data.toList = b :: l ∧ bt s 0 = (b.toNat : Int) ∧ (s.extract 1 s.size).data.toList = l := by
  obtain ⟨b, hb, hv⟩ := drop_at s 0 (by omega) (by omega)
  have hl := data_length s
  refine ⟨s.data.toList.drop 1, b, ?_, hv, ?_⟩
  · simpa using hb
  · simp only [ByteArray.data_extract, Array.toList_extract, List.extract_eq_take_drop]
    rw [List.take_of_length_le (by rw [List.length_drop, hl]; omega)]
theorem ext_drop (s : ByteArray) (n : Nat) : s.extract n s.size = ofL (s.data.toList.drop n) := by
  rw [← ofL_data (s.extract n s.size)]
  congr 1
  have hl := data_length s
  simp only [ByteArray.data_extract, Array.toList_extract, List.extract_eq_take_drop]
  rw [List.take_of_length_le (by rw [List.length_drop, hl]; omega)]
theorem trimZ : ∀ (n : Nat) (s : ByteArray) (k : Nat), s.size = n → n < k → strings_trimLeftByte.l0 k s 48 = some (ofL (noZ s.data.toList))
  | 0, s, k, hn, hk => by
    obtain ⟨k, rfl⟩ : ∃ m, k = m + 1 := ⟨k - 1, by omega⟩
    simp only [strings_trimLeftByte.l0]
    rw [if_neg (by omega), data_nil s hn]
    exact congrArg some ((ofL_data s).symm.trans (by rw [data_nil s hn]; rfl))
  | n + 1, s, k, hn, hk => by
    obtain ⟨k, rfl⟩ : ∃ m, k = m + 1 := ⟨k - 1, by omega⟩
    have hz : (s.extract 1 s.size).size = n := by rw [ByteArray.size_extract]; omega
    obtain ⟨l, b, e1, e2, e3⟩ := first_at s (by omega)
    simp only [strings_trimLeftByte.l0]
    rw [if_pos (by omega), if_pos (by omega), if_pos (show 1 ≤ (s.size : Int) from by omega), trimZ n _ k hz (by omega), e2, e3, e1, noZ_cons]
    by_cases c : zr b = true
    · rw [if_pos ((zr_bt b).2 c), if_pos c]
    · rw [if_neg (fun h => c ((zr_bt b).1 h)), if_neg c, ← e1, ofL_data]
theorem TrimLeft_k (s : ByteArray) (k : Nat) (hk : s.size < k) : strings_TrimLeft.f k s ⟨#[48]⟩ = some (ofL (noZ s.data.toList)) := by
  unfold strings_TrimLeft.f
  rw [if_pos (by rfl), if_pos (by decide)]
  exact trimZ _ s k rfl hk
theorem value_l0 (s : ByteArray) (hs : s.size ≤ 40) (d : Nat) : ∀ (k : Nat) (i : Int), 0 ≤ i → i + d = s.size → d < k → spec_l8Value.l0 k s i = some (ofL (noZ (s.data.toList.drop i.toNat))) := by
  induction d with
  | zero =>
    intro k i h0 h1 hk
    obtain ⟨k, rfl⟩ : ∃ m, k = m + 1 := ⟨k - 1, by omega⟩
    simp only [spec_l8Value.l0]
    rw [if_neg (by omega), if_pos h0, if_pos (by omega), ext_drop, drop_end s i (by omega)]
    rfl
  | succ d ih =>
    intro k i h0 h1 hk
    obtain ⟨k, rfl⟩ : ∃ m, k = m + 1 := ⟨k - 1, by omega⟩
    obtain ⟨b, hb, hv⟩ := drop_at s i h0 (by omega)
    simp only [spec_l8Value.l0]
    rw [if_pos (by omega), if_pos h0, if_pos (show i ≤ (s.size : Int) from by omega), wrap_small (by omega) (by omega), ih k (i + 1) (by omega) (by omega) (by omega), ext_drop, hv, hb, noZ_cons]
    by_cases c : zr b = true
    · rw [if_pos ((zr_bt b).2 c), if_pos c]
    · rw [if_neg (fun h => c ((zr_bt b).1 h)), if_neg c]
theorem value_k (s : ByteArray) (hs : s.size ≤ 40) (k : Nat) (hk : s.size < k) : spec_l8Value.f k s = some (ofL (noZ s.data.toList)) := by
  have h := value_l0 s hs s.size k 0 (by omega) (by omega) hk
  show spec_l8Value.l0 k s 0 = _
  simpa using h
/-- Two runs compared. -/
def rc (x y : ByteArray) : Int := if dg (bt x 0) = true then (if dg (bt y 0) = true then (if (((ofL (noZ x.data.toList)).size : Int) < ((ofL (noZ y.data.toList)).size : Int)) then -1 else if (((ofL (noZ x.data.toList)).size : Int) > ((ofL (noZ y.data.toList)).size : Int)) then 1 else Lib.compareBytes (ofL (noZ x.data.toList)).data.toList (ofL (noZ y.data.toList)).data.toList) else -1) else (if dg (bt y 0) = true then 1 else Lib.compareBytes x.data.toList y.data.toList)
theorem run_x (x y : ByteArray) (hx : isRun x) (hy : isRun y) : (∀ k, 100 ≤ k → spec_l8Run.f k x y = some (rc x y)) ∧ impl_NaturalCompare.cf x y = some (rc x y) := by
  have hx0 : (0 < (x.size : Int)) = True := eq_true (by have := hx.1; omega)
  have hy0 : (0 < (y.size : Int)) = True := eq_true (by have := hy.1; omega)
  have tx := TrimLeft_k x 999 (by have := hx.2; omega)
  have ty := TrimLeft_k y 999 (by have := hy.2; omega)
  have cmpI : ∀ a b : Int, cmp_Compare_int.f a b = some (if a < b then -1 else if a > b then 1 else 0) := fun a b => by
    unfold cmp_Compare_int.f cmp_isNaN_int.f
    simp only [bne_self_eq_false, Option.bind_some, Bool.false_eq_true, if_false]
    split
    · rfl
    · split <;> rfl
  have sc : ∀ a b : ByteArray, strings_Compare.f a b = some (Lib.compareBytes a.data.toList b.data.toList) := fun a b => rfl
  have l2 : ∀ a b : ByteArray, spec_l2Text.f a b = some (Lib.compareBytes a.data.toList b.data.toList) := fun a b => rfl
  have hspec : ∀ k, 100 ≤ k → spec_l8Run.f k x y = some (if dg (bt x 0) = true then (if dg (bt y 0) = true then (if (((ofL (noZ x.data.toList)).size : Int) < ((ofL (noZ y.data.toList)).size : Int)) then -1 else if (((ofL (noZ x.data.toList)).size : Int) > ((ofL (noZ y.data.toList)).size : Int)) then 1 else Lib.compareBytes (ofL (noZ x.data.toList)).data.toList (ofL (noZ y.data.toList)).data.toList) else -1) else (if dg (bt y 0) = true then 1 else Lib.compareBytes x.data.toList y.data.toList)) := by
    intro k hk
    obtain ⟨k, rfl⟩ : ∃ m, k = m + 2 := ⟨k - 2, by omega⟩
    have vx := value_k x hx.2 k (by have := hx.2; omega)
    have vy := value_k y hy.2 k (by have := hy.2; omega)
    unfold spec_l8Run.f
    simp only [hx0, hy0, if_true, l8Dg_eq, Option.bind_some]
    generalize ofL (noZ x.data.toList) = p at vx ⊢
    generalize ofL (noZ y.data.toList) = q at vy ⊢
    cases dg (bt x 0) <;> cases dg (bt y 0) <;> simp [spec_l8Run.j0, spec_l8Run.j1, l2, vx, vy]
    by_cases c1 : p.size = q.size
    · rw [if_pos (show (p.size : Int) = (q.size : Int) from by omega), if_neg (by omega), if_neg (by omega)]
    · rw [if_neg (show ¬ (p.size : Int) = (q.size : Int) from by omega)]
      by_cases c2 : p.size < q.size
      · rw [if_pos c2, if_pos c2]
      · rw [if_neg c2, if_neg c2, if_pos (by omega)]
  refine ⟨hspec, ?_⟩
  unfold rc
  unfold impl_NaturalCompare.cf impl_compareRuns.f
  simp only [hx0, hy0, if_true, isDigit_eq, Option.bind_some]
  generalize ofL (noZ x.data.toList) = p at tx ⊢
  generalize ofL (noZ y.data.toList) = q at ty ⊢
  have j : ∀ b : Bool, impl_compareRuns.j0 1000 x y b = if b = true then some (if (if (p.size : Int) < (q.size : Int) then (-1 : Int) else if (p.size : Int) > (q.size : Int) then 1 else 0) = 0 then Lib.compareBytes p.data.toList q.data.toList else (if (p.size : Int) < (q.size : Int) then (-1 : Int) else if (p.size : Int) > (q.size : Int) then 1 else 0)) else (if dg (bt x 0) = true then some (-1) else if dg (bt y 0) = true then some 1 else some (Lib.compareBytes x.data.toList y.data.toList)) := fun b => by
    rw [show (1000 : Nat) = 999 + 1 from rfl]
    simp only [impl_compareRuns.j0, tx, ty, cmpI, sc, hx0, hy0, if_true, isDigit_eq, Option.bind_some, or2 _ _ 999 (by omega : 5 ≤ 999)]
  rw [j, j]
  cases dg (bt x 0) <;> cases dg (bt y 0) <;> simp
  by_cases c2 : p.size < q.size
  · simp [c2]
  · by_cases c3 : q.size < p.size
    · simp [c2, c3]
    · simp [c2, c3]
theorem run_k (x y : ByteArray) (hx : isRun x) (hy : isRun y) : ∃ c, (∀ k, 100 ≤ k → spec_l8Run.f k x y = some c) ∧ impl_NaturalCompare.cf x y = some c := ⟨_, run_x x y hx hy⟩
theorem cmp_l0 (a b : ByteArray) (X Y : List ByteArray) (hX : ∀ x ∈ X, isRun x) (hY : ∀ y ∈ Y, isRun y) (hl : X.length ≤ 1048576) (d : Nat) : ∀ (k : Nat) (i : Int), 0 ≤ i → i + d = X.length → i ≤ (Y.length : Int) → 2 * d + 103 < k →
    spec_NaturalCompare.l0 k a b X Y i = some (if impl_NaturalCompare.cmpL (fun x y => (impl_NaturalCompare.cf x y).getD 0) (X.drop i.toNat) (Y.drop i.toNat) = 0 then Lib.compareBytes a.data.toList b.data.toList else impl_NaturalCompare.cmpL (fun x y => (impl_NaturalCompare.cf x y).getD 0) (X.drop i.toNat) (Y.drop i.toNat), true) := by
  have l2 : spec_l2Text.f a b = some (Lib.compareBytes a.data.toList b.data.toList) := rfl
  induction d with
  | zero =>
    intro k i h0 h1 hy hk
    obtain ⟨k, rfl⟩ : ∃ m, k = m + 2 := ⟨k - 2, by omega⟩
    rw [spec_NaturalCompare.l0, if_neg (by omega), spec_NaturalCompare.j2, if_neg (by decide), show X.drop i.toNat = [] from List.drop_of_length_le (by omega), l2]
    by_cases c : i < (Y.length : Int)
    · rw [if_pos (by omega), impl_NaturalCompare.drop_rd Y i h0 c, impl_NaturalCompare.cmpL, if_neg (by omega)]
    · rw [if_neg (by omega), if_neg (by omega), show Y.drop i.toNat = [] from List.drop_of_length_le (by omega), impl_NaturalCompare.cmpL, if_pos rfl]
      rfl
  | succ d ih =>
    intro k i h0 h1 hy hk
    obtain ⟨k, rfl⟩ : ∃ m, k = m + 2 := ⟨k - 2, by omega⟩
    have hi : i < (X.length : Int) := by omega
    rw [spec_NaturalCompare.l0, if_pos hi, impl_NaturalCompare.drop_rd X i h0 hi]
    by_cases c : i < (Y.length : Int)
    · obtain ⟨r, e1, e2⟩ := run_k _ _ (hX _ (impl_NaturalCompare.rd_mem X i h0 hi)) (hY _ (impl_NaturalCompare.rd_mem Y i h0 c))
      rw [decide_eq_true c, spec_NaturalCompare.j2, if_pos rfl, if_pos h0, if_pos hi, if_pos c, e1 k (by omega), Option.bind_some, impl_NaturalCompare.drop_rd Y i h0 c, impl_NaturalCompare.cmpL, e2, wrap_small (by omega) (by omega)]
      simp only [Option.getD_some]
      by_cases hz : r = 0
      · rw [if_pos hz, if_pos hz]
        exact ih k (i + 1) (by omega) (by omega) (by omega) (by omega)
      · rw [if_neg hz, if_neg hz, if_neg hz]
    · rw [decide_eq_false c, spec_NaturalCompare.j2, if_neg (by decide), if_neg (by omega), if_pos (by omega), show Y.drop i.toNat = [] from List.drop_of_length_le (by omega), impl_NaturalCompare.cmpL, if_neg (by omega)]

/-! comparing from both sides -/
theorem cb_anti : ∀ a b : List UInt8, Lib.compareBytes b a = - Lib.compareBytes a b
  | [], [] => rfl
  | [], _ :: _ => rfl
  | _ :: _, [] => rfl
  | x :: a, y :: b => by
    have ih := cb_anti a b
    have hx : x < y ↔ x.toNat < y.toNat := UInt8.lt_iff_toNat_lt
    have hy : y < x ↔ y.toNat < x.toNat := UInt8.lt_iff_toNat_lt
    simp only [Lib.compareBytes, hx, hy]
    by_cases h : x.toNat < y.toNat
    · rw [if_neg (by omega), if_pos h, if_pos h]; rfl
    · by_cases h2 : y.toNat < x.toNat
      · rw [if_pos h2, if_neg h, if_pos h2]
      · rw [if_neg h2, if_neg h, if_neg h, if_neg h2]; exact ih
theorem cb_zero : ∀ a b : List UInt8, Lib.compareBytes a b = 0 → a = b
  | [], [], _ => rfl
  | [], _ :: _, h => by simp [Lib.compareBytes] at h
  | _ :: _, [], h => by simp [Lib.compareBytes] at h
  | x :: a, y :: b, h => by
    have hx : x < y ↔ x.toNat < y.toNat := UInt8.lt_iff_toNat_lt
    have hy : y < x ↔ y.toNat < x.toNat := UInt8.lt_iff_toNat_lt
    simp only [Lib.compareBytes, hx, hy] at h
    by_cases c : x.toNat < y.toNat
    · rw [if_pos c] at h; cases h
    · by_cases c2 : y.toNat < x.toNat
      · rw [if_neg c, if_pos c2] at h; cases h
      · rw [if_neg c, if_neg c2] at h
        rw [cb_zero a b h, UInt8.toNat_inj.1 (show x.toNat = y.toNat from by omega)]
theorem cb_self (a : List UInt8) : Lib.compareBytes a a = 0 := by
  have := cb_anti a a
  omega
theorem ba_eq (a b : ByteArray) (h : a.data.toList = b.data.toList) : a = b := by
  apply ByteArray.ext
  exact Array.toList_inj.1 h
theorem cb_ba (a b : ByteArray) : (Lib.compareBytes a.data.toList b.data.toList = 0) ↔ a = b :=
  ⟨fun h => ba_eq a b (cb_zero _ _ h), fun h => by rw [h]; exact cb_self _⟩

/-! natural order from both sides -/
theorem rc_anti (x y : ByteArray) : rc y x = - rc x y := by
  unfold rc
  have ca := cb_anti x.data.toList y.data.toList
  have cz := cb_anti (ofL (noZ x.data.toList)).data.toList (ofL (noZ y.data.toList)).data.toList
  generalize ofL (noZ x.data.toList) = p at *
  generalize ofL (noZ y.data.toList) = q at *
  cases dg (bt x 0) <;> cases dg (bt y 0)
  · rw [if_neg (by decide), if_neg (by decide), if_neg (by decide), if_neg (by decide)]; exact ca
  · rw [if_pos rfl, if_neg (by decide), if_neg (by decide), if_pos rfl]
  · rw [if_neg (by decide), if_pos rfl, if_pos rfl, if_neg (by decide)]; rfl
  · rw [if_pos rfl, if_pos rfl, if_pos rfl, if_pos rfl]
    by_cases h : (p.size : Int) < (q.size : Int)
    · rw [if_neg (by omega), if_pos (by omega), if_pos h]; rfl
    · by_cases h2 : (q.size : Int) < (p.size : Int)
      · rw [if_pos h2, if_neg h, if_pos (by omega)]
      · rw [if_neg h2, if_neg (by omega), if_neg h, if_neg (by omega)]; exact cz
theorem cmpL_anti (f : ByteArray → ByteArray → Int) : ∀ X Y : List ByteArray, (∀ x ∈ X, ∀ y ∈ Y, f y x = - f x y) → impl_NaturalCompare.cmpL f Y X = - impl_NaturalCompare.cmpL f X Y
  | [], [], _ => rfl
  | [], _ :: _, _ => rfl
  | _ :: _, [], _ => rfl
  | x :: X, y :: Y, h => by
    have h0 := h x (by simp) y (by simp)
    have ih := cmpL_anti f X Y (fun a ha b hb => h a (List.mem_cons_of_mem _ ha) b (List.mem_cons_of_mem _ hb))
    simp only [impl_NaturalCompare.cmpL]
    by_cases c : f x y = 0
    · rw [if_pos c, if_pos (by omega)]; exact ih
    · rw [if_neg c, if_neg (by omega)]; exact h0
abbrev rcf : ByteArray → ByteArray → Int := fun x y => (impl_NaturalCompare.cf x y).getD 0
/-- What natural order answers, by the runs. -/
def natR (a b : ByteArray) (X Y : List ByteArray) : Int := if impl_NaturalCompare.cmpL rcf X Y = 0 then Lib.compareBytes a.data.toList b.data.toList else impl_NaturalCompare.cmpL rcf X Y
theorem rcf_anti (X Y : List ByteArray) (hX : ∀ x ∈ X, isRun x) (hY : ∀ y ∈ Y, isRun y) : ∀ x ∈ X, ∀ y ∈ Y, rcf y x = - rcf x y := fun x hx y hy => by
  unfold rcf
  rw [(run_x x y (hX x hx) (hY y hy)).2, (run_x y x (hY y hy) (hX x hx)).2]
  exact rc_anti x y
theorem natR_anti (a b : ByteArray) (X Y : List ByteArray) (hX : ∀ x ∈ X, isRun x) (hY : ∀ y ∈ Y, isRun y) : natR b a Y X = - natR a b X Y := by
  unfold natR
  rw [cmpL_anti rcf X Y (rcf_anti X Y hX hY)]
  by_cases c : impl_NaturalCompare.cmpL rcf X Y = 0
  · rw [if_pos c, if_pos (by omega)]; exact cb_anti _ _
  · rw [if_neg c, if_neg (by omega)]
theorem natR_zero (a b : ByteArray) (X Y : List ByteArray) (h : natR a b X Y = 0) : a = b := by
  unfold natR at h
  by_cases c : impl_NaturalCompare.cmpL rcf X Y = 0
  · rw [if_pos c] at h; exact (cb_ba a b).1 h
  · rw [if_neg c] at h; exact absurd h c
theorem natR_self (a : ByteArray) (X : List ByteArray) (hX : ∀ x ∈ X, isRun x) : natR a a X X = 0 := by
  have := natR_anti a a X X hX hX
  omega
theorem nat_ev (a b : ByteArray) (X Y : List ByteArray) (ha : a.size ≤ 40) (hb : b.size ≤ 40) (x1 : ∀ k, 100 ≤ k → spec_l8Runs.f k a = some X) (x2 : impl_runsOf.f 1000 a = some X) (x3 : ∀ x ∈ X, isRun x) (x4 : (X.length : Int) ≤ a.size + 1) (y1 : ∀ k, 100 ≤ k → spec_l8Runs.f k b = some Y) (y2 : impl_runsOf.f 1000 b = some Y) (y3 : ∀ x ∈ Y, isRun x) :
    impl_NaturalCompare.f a b = some (natR a b X Y, true) ∧ Ev (fun k => spec_NaturalCompare.f k a b) (natR a b X Y, true) := by
  have hl : X.length ≤ 1048576 := by omega
  have hall : X.all (fun x => Y.all fun y => (impl_NaturalCompare.cf x y).isSome) = true := List.all_eq_true.2 fun x hx => List.all_eq_true.2 fun y hy => by
    obtain ⟨c, _, e⟩ := run_k x y (x3 x hx) (y3 y hy)
    rw [e]; rfl
  have sc : strings_Compare.f a b = some (Lib.compareBytes a.data.toList b.data.toList) := rfl
  constructor
  · unfold impl_NaturalCompare.f natR
    rw [if_neg (by omega), x2, y2, Option.bind_some, Option.bind_some, if_pos hall, sc, Option.bind_some, or2 _ _ 1000 (by omega), Option.bind_some]
  · refine ⟨2 * X.length + 200, fun k hk => ?_⟩
    obtain ⟨k, rfl⟩ : ∃ m, k = m + 1 := ⟨k - 1, by omega⟩
    have hsp := cmp_l0 a b X Y x3 y3 hl X.length k 0 (by omega) (by omega) (by omega) (by omega)
    simp only [Int.toNat_zero, List.drop_zero] at hsp
    unfold spec_NaturalCompare.f
    show (if (a.size : Int) > 40 then spec_NaturalCompare.j0 (k + 1) a b true else spec_NaturalCompare.j0 (k + 1) a b (decide ((b.size : Int) > 40))) = _
    rw [if_neg (show ¬ (a.size : Int) > 40 from by omega), decide_eq_false (show ¬ (b.size : Int) > 40 from by omega)]
    rw [spec_NaturalCompare.j0, if_neg (by decide), x1 _ (by omega), y1 _ (by omega), Option.bind_some, Option.bind_some, hsp]
    rfl

end Go.Proofs.YtblcelelmjngfaaDoor.Pure
