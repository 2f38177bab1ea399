/- Lemmas on the printed functions, without Go and memory. -/
import Derived.Lib.IndexMore
import Derived.Lib.IndexBytes
import Derived.Lib.IndexLaws
import Derived.Lib.IndexAny
import Derived.Test.YtiofklnfpmphnaaDoorPx5
import Derived.Test.YtiofklnfpmphnaaDoorPx6
namespace Go.Proofs.YtiofklnfpmphnaaDoor.Pure
open Go.RowKit Go.Proofs.YtiofklnfpmphnaaDoor.Px Go.Proofs.YtiofklnfpmphnaaDoorW.PrintWords Go.Proofs.YtiofklnfpmphnaaDoorW.PrintLast
set_option linter.unusedVariables false
set_option linter.unusedSimpArgs false

theorem wrap_small {x : Int} (h0 : -4611686018427387904 ≤ x) (h1 : x ≤ 4611686018427387904) : wrap64 x = x := by unfold wrap64; omega
theorem drop_at (s : ByteArray) (i : Int) (h0 : 0 ≤ i) (h1 : i < (s.size : Int)) : ∃ b : UInt8, s.data.toList.drop i.toNat = b :: s.data.toList.drop (i + 1).toNat ∧ bt s i = (b.toNat : Int) := by
  have hl : i.toNat < s.data.toList.length := by rw [data_length]; omega
  refine ⟨s.data.toList[i.toNat], ?_, ?_⟩
  · rw [List.drop_eq_getElem_cons hl]
    congr 2
    omega
  · unfold bt
    rw [dif_pos (by omega)]
    rfl
theorem drop_end (s : ByteArray) (i : Int) (h1 : i = (s.size : Int)) : s.data.toList.drop i.toNat = [] := by
  apply List.drop_of_length_le
  rw [data_length]
  omega
theorem toList_nil (s : ByteArray) : s.toList = ([] : List UInt8) ↔ s.size = 0 := by
  rw [Lib.toList_data, ← data_length, List.length_eq_zero_iff]
theorem toList_nil_b (s : ByteArray) : (s.toList == ([] : List UInt8)) = decide (s.size = 0) := by
  by_cases h : s.size = 0
  · rw [(toList_nil s).2 h]; simp [h]
  · have : s.toList ≠ [] := fun e => h ((toList_nil s).1 e)
    simp [h, this]

theorem take_set_succ {β : Type} (r : List β) (i : Nat) (h : i < r.length) (v : β) : (r.set i v).take (i + 1) = r.take i ++ [v] := by
  rw [List.take_succ_eq_append_getElem (by rw [List.length_set]; exact h), List.take_set_of_le (Nat.le_refl _), List.getElem_set_self]
theorem take_map_succ {α β : Type} (f : α → β) (l : List α) (i : Nat) (h : i < l.length) : (l.map f).take (i + 1) = (l.map f).take i ++ [f l[i]] := by
  rw [List.take_succ_eq_append_getElem (by rw [List.length_map]; exact h), List.getElem_map]
theorem getD_at {α : Type} (z : α) (l : List α) (i : Int) (h1 : i.toNat < l.length) : l.getD i.toNat z = l[i.toNat] := by
  rw [List.getD_eq_getElem?_getD, List.getElem?_eq_getElem h1]
  rfl
theorem getD_mem {α : Type} (z : α) (l : List α) (i : Int) (h0 : 0 ≤ i) (h1 : i < (l.length : Int)) : l.getD i.toNat z ∈ l := by
  rw [getD_at z l i (by omega)]
  exact List.getElem_mem _
theorem drop_cons {α : Type} (z : α) (l : List α) (i : Int) (h0 : 0 ≤ i) (h1 : i < (l.length : Int)) : l.drop i.toNat = l.getD i.toNat z :: l.drop (i + 1).toNat := by
  have h : i.toNat < l.length := by omega
  rw [List.drop_eq_getElem_cons h, getD_at z l i h, show (i + 1).toNat = i.toNat + 1 from by omega]
theorem drop_none {α : Type} (l : List α) (i : Int) (h1 : (l.length : Int) ≤ i) : l.drop i.toNat = [] := List.drop_of_length_le (by omega)
theorem strOfNums_append (a b : List Int) : strOfNums (a ++ b) = strOfNums a ++ strOfNums b := by
  apply ByteArray.ext
  apply Array.toList_inj.1
  simp [strOfNums]

/-- A text's bytes are printable. -/
def okb (b : UInt8) : Bool := !(decide ((b.toNat : Int) < 32)) && !(decide ((b.toNat : Int) > 126))
def okt (s : ByteArray) : Bool := s.data.toList.all okb

/-- A text of bytes. -/
def ofL (l : List UInt8) : ByteArray := ⟨l.toArray⟩
theorem ofL_data (s : ByteArray) : ofL s.data.toList = s := by unfold ofL; rw [Array.toArray_toList]
def sp (b : UInt8) : Bool := b == 32
/-- Without the spaces at its end; at its beginning. -/
def lR (l : List UInt8) : List UInt8 := (l.reverse.dropWhile sp).reverse
def lL (l : List UInt8) : List UInt8 := l.dropWhile sp
theorem lR_snoc (l : List UInt8) (b : UInt8) : lR (l ++ [b]) = if sp b = true then lR l else l ++ [b] := by
  unfold lR
  rw [List.reverse_append, List.reverse_singleton, List.singleton_append, List.dropWhile_cons]
  split
  · rfl
  · rw [List.reverse_cons, List.reverse_reverse]
theorem lL_cons (l : List UInt8) (b : UInt8) : lL (b :: l) = if sp b = true then lL l else b :: l := by
  unfold lL
  rw [List.dropWhile_cons]
theorem lR_cons (l : List UInt8) (b : UInt8) : lR (b :: l) = if lR l = [] then (if sp b = true then [] else [b]) else b :: lR l := by
  unfold lR
  rw [List.reverse_cons, List.dropWhile_append]
  by_cases h : List.dropWhile sp l.reverse = []
  · rw [if_pos (by rw [h]; rfl), if_pos (by rw [h]; rfl), List.dropWhile_cons]
    split
    · rfl
    · rfl
  · rw [if_neg (by simpa using h), if_neg (by simpa using h), List.reverse_append, List.reverse_singleton, List.singleton_append]
theorem lLR (l : List UInt8) : lL (lR l) = lR (lL l) := by
  induction l with
  | nil => rfl
  | cons a t ih =>
    rw [lL_cons, lR_cons]
    by_cases ha : sp a = true
    · rw [if_pos ha, if_pos ha]
      by_cases h : lR t = []
      · rw [if_pos h, ← ih, h]
      · rw [if_neg h, lL_cons, if_pos ha, ih]
    · rw [if_neg ha, if_neg ha, lR_cons]
      by_cases h : lR t = []
      · rw [if_pos h, lL_cons, if_neg ha, if_pos h, if_neg ha]
      · rw [if_neg h, lL_cons, if_neg ha, if_neg h]
theorem last_at (s : ByteArray) (h : 0 < s.size) : ∃ (l : List UInt8) (b : UInt8), s.data.toList = l ++ [b] ∧ bt s ((s.size : Int) - 1) = (b.toNat : Int) ∧ (s.extract 0 ((s.size : Int) - 1).toNat).data.toList = l := by
  obtain ⟨b, hb, hv⟩ := drop_at s ((s.size : Int) - 1) (by omega) (by omega)
  have hl := data_length s
  refine ⟨s.data.toList.take ((s.size : Int) - 1).toNat, b, ?_, hv, ?_⟩
  · have e := (List.take_append_drop ((s.size : Int) - 1).toNat s.data.toList).symm
    rw [hb, drop_end s _ (show (s.size : Int) - 1 + 1 = (s.size : Int) from by omega)] at e
    exact e
  · simp
    rw [List.dropLast_eq_take, hl]
theorem first_at (s : ByteArray) (h : 0 < s.size) : ∃ (l : List UInt8) (b : UInt8), s.data.toList = b :: l ∧ bt s 0 = (b.toNat : Int) ∧ (s.extract 1 s.size).data.toList = l := by
  obtain ⟨b, hb, hv⟩ := drop_at s 0 (by omega) (by omega)
  have hl := data_length s
  refine ⟨s.data.toList.drop 1, b, ?_, hv, ?_⟩
  · simpa using hb
  · simp only [ByteArray.data_extract, Array.toList_extract, List.extract_eq_take_drop]
    rw [List.take_of_length_le (by rw [List.length_drop, hl]; omega)]
theorem sp_bt (b : UInt8) : ((b.toNat : Int) = 32) ↔ sp b = true := by
  unfold sp
  rw [beq_iff_eq, ← UInt8.toNat_inj]
  show ((b.toNat : Int) = 32) ↔ b.toNat = 32
  omega
theorem data_nil (s : ByteArray) (h : s.size = 0) : s.data.toList = [] := List.eq_nil_of_length_eq_zero (by rw [data_length]; exact h)
theorem trimRightB : ∀ (n : Nat) (s : ByteArray) (k : Nat), s.size = n → s.size ≤ 1099511627776 → n < k → strings_trimRightByte.l0 k s 32 = some (ofL (lR s.data.toList))
  | 0, s, k, hn, hs, hk => by
    obtain ⟨k, rfl⟩ : ∃ m, k = m + 1 := ⟨k - 1, by omega⟩
    simp only [strings_trimRightByte.l0]
    rw [if_neg (by omega), data_nil s hn]
    exact congrArg some ((ofL_data s).symm.trans (by rw [data_nil s hn]; rfl))
  | n + 1, s, k, hn, hs, hk => by
    obtain ⟨k, rfl⟩ : ∃ m, k = m + 1 := ⟨k - 1, by omega⟩
    have hw : wrap64 ((s.size : Int) - 1) = (s.size : Int) - 1 := wrap_small (by omega) (by omega)
    have hz : (s.extract 0 ((s.size : Int) - 1).toNat).size = n := by rw [ByteArray.size_extract]; omega
    obtain ⟨l, b, e1, e2, e3⟩ := last_at s (by omega)
    simp only [strings_trimRightByte.l0, hw]
    rw [if_pos (by omega), if_pos (by omega), if_pos (by omega), if_pos (show (s.size : Int) - 1 ≤ (s.size : Int) from by omega), trimRightB n _ k hz (by omega) (by omega), e2, e3, e1, lR_snoc]
    by_cases c : sp b = true
    · rw [if_pos ((sp_bt b).2 c), if_pos c]
    · rw [if_neg (fun h => c ((sp_bt b).1 h)), if_neg c, ← e1, ofL_data]
theorem trimLeftB : ∀ (n : Nat) (s : ByteArray) (k : Nat), s.size = n → n < k → strings_trimLeftByte.l0 k s 32 = some (ofL (lL s.data.toList))
  | 0, s, k, hn, hk => by
    obtain ⟨k, rfl⟩ : ∃ m, k = m + 1 := ⟨k - 1, by omega⟩
    simp only [strings_trimLeftByte.l0]
    rw [if_neg (by omega), data_nil s hn]
    exact congrArg some ((ofL_data s).symm.trans (by rw [data_nil s hn]; rfl))
  | n + 1, s, k, hn, hk => by
    obtain ⟨k, rfl⟩ : ∃ m, k = m + 1 := ⟨k - 1, by omega⟩
    have hz : (s.extract 1 s.size).size = n := by rw [ByteArray.size_extract]; omega
    obtain ⟨l, b, e1, e2, e3⟩ := first_at s (by omega)
    simp only [strings_trimLeftByte.l0]
    rw [if_pos (by omega), if_pos (by omega), if_pos (show 1 ≤ (s.size : Int) from by omega), trimLeftB n _ k hz (by omega), e2, e3, e1, lL_cons]
    by_cases c : sp b = true
    · rw [if_pos ((sp_bt b).2 c), if_pos c]
    · rw [if_neg (fun h => c ((sp_bt b).1 h)), if_neg c, ← e1, ofL_data]
theorem lR_len (l : List UInt8) : (lR l).length ≤ l.length := by
  unfold lR
  rw [List.length_reverse]
  exact Nat.le_trans (List.dropWhile_suffix sp).length_le (by rw [List.length_reverse]; exact Nat.le_refl _)
theorem lL_len (l : List UInt8) : (lL l).length ≤ l.length := (List.dropWhile_suffix sp).length_le
theorem ofL_size (l : List UInt8) : (ofL l).size = l.length := by show l.toArray.size = _; simp
theorem ofL_toList (l : List UInt8) : (ofL l).data.toList = l := by simp [ofL]
/-- Without the spaces at both ends. -/
def tidy (s : ByteArray) : ByteArray := ofL (lR (lL s.data.toList))
theorem Trim_k (s : ByteArray) (hs : s.size ≤ 1099511627776) (k : Nat) (hk : s.size < k) : strings_Trim.f k s ⟨#[32]⟩ = some (tidy s) := by
  unfold strings_Trim.f tidy
  rw [if_pos (by rfl), if_pos (by decide), ← lLR]
  have h1 : strings_trimRightByte.f k s (bt (⟨#[32]⟩ : ByteArray) 0) = some (ofL (lR s.data.toList)) := trimRightB _ s k rfl hs hk
  have hl := lR_len s.data.toList
  have hd := data_length s
  have h2 : strings_trimLeftByte.f k (ofL (lR s.data.toList)) (bt (⟨#[32]⟩ : ByteArray) 0) = some (ofL (lL (lR s.data.toList))) := by
    have h := trimLeftB _ (ofL (lR s.data.toList)) k rfl (by rw [ofL_size]; omega)
    rw [ofL_toList] at h
    exact h
  rw [h1, Option.bind_some, h2]

/-! braces: 0 none is open, 1 one was opened just now, 2 one is open -/
def stB (q : Nat) (b : UInt8) : Option Nat :=
  if b = 123 then (if q = 0 then some 1 else none)
  else if b = 125 then (if q = 2 then some 0 else none)
  else some (if q = 0 then 0 else 2)
def runB : Nat → List UInt8 → Option Nat
  | q, [] => some q
  | q, b :: l => (stB q b).bind fun p => runB p l
theorem runB_append (a b : List UInt8) : ∀ q, runB q (a ++ b) = (runB q a).bind fun p => runB p b := by
  induction a with
  | nil => intro q; rfl
  | cons x a ih =>
    intro q
    rw [List.cons_append, runB, runB]
    cases stB q x with
    | none => rfl
    | some p => exact ih p
theorem runB_one (a : List UInt8) (b : UInt8) (q p r : Nat) (h : runB q a = some p) (h2 : stB p b = some r) : runB q (a ++ [b]) = some r := by
  rw [runB_append, h]
  show (stB p b).bind _ = _
  rw [h2]
  rfl
/-- Which bytes lie between braces. -/
def protL : Nat → List UInt8 → List Bool
  | _, [] => []
  | q, b :: l => match stB q b with
    | none => []
    | some p => (decide (p ≠ 0) || b == 125) :: protL p l
theorem stB_ne (q : Nat) (b : UInt8) (h : b ≠ 123) (h2 : b ≠ 125) : stB q b = some (if q = 0 then 0 else 2) := by
  unfold stB
  rw [if_neg h, if_neg h2]
/-! spaces: 'p' tells that a space or the beginning is just behind -/
def spOK : Bool → List UInt8 → Bool
  | p, [] => !p
  | p, b :: l => if b = 32 then (!p && spOK true l) else spOK false l
/-- The words: 'c' is the word so far. -/
def wordsL : Nat → List UInt8 → List UInt8 → List (List UInt8)
  | _, c, [] => [c]
  | q, c, b :: l => if b = 32 ∧ q = 0 then c :: wordsL q [] l else wordsL ((stB q b).getD 0) (c ++ [b]) l
theorem words_ok (l : List UInt8) : ∀ (q : Nat) (c : List UInt8) (p : Bool), runB q l = some 0 → runB 0 c = some q → spOK p l = true → (c = [] → p = true) → ∀ w ∈ wordsL q c l, runB 0 w = some 0 ∧ w ≠ [] := by
  induction l with
  | nil =>
    intro q c p h1 h2 h3 h4 w hw
    simp only [wordsL, List.mem_singleton] at hw
    subst hw
    have : q = 0 := by simpa [runB] using h1
    subst this
    refine ⟨h2, fun e => ?_⟩
    rw [h4 e] at h3
    simp [spOK] at h3
  | cons b l ih =>
    intro q c p h1 h2 h3 h4 w hw
    unfold wordsL at hw
    unfold spOK at h3
    unfold runB at h1
    by_cases hb : b = 32 ∧ q = 0
    · obtain ⟨rfl, rfl⟩ := hb
      rw [if_pos ⟨rfl, rfl⟩] at hw
      rw [if_pos rfl] at h3
      simp only [Bool.and_eq_true, Bool.not_eq_true'] at h3
      rcases List.mem_cons.1 hw with rfl | hw
      · exact ⟨h2, fun e => by rw [h4 e] at h3; exact absurd h3.1 (by decide)⟩
      · exact ih 0 [] true h1 rfl h3.2 (fun _ => rfl) w hw
    · rw [if_neg hb] at hw
      cases hs : stB q b with
      | none => rw [hs] at h1; cases h1
      | some r =>
        rw [hs] at h1 hw
        have h2' := runB_one c b 0 q r h2 hs
        by_cases h32 : b = 32
        · rw [if_pos h32] at h3
          simp only [Bool.and_eq_true] at h3
          exact ih r (c ++ [b]) true h1 h2' h3.2 (fun _ => rfl) w hw
        · rw [if_neg h32] at h3
          exact ih r (c ++ [b]) false h1 h2' h3 (fun e => by simp at e) w hw
theorem words_pos (l : List UInt8) : ∀ (q : Nat) (c : List UInt8), wordsL q c l ≠ [] := by
  induction l with
  | nil => intro q c; simp [wordsL]
  | cons b l ih =>
    intro q c
    unfold wordsL
    split
    · simp
    · exact ih _ _
/-- What a title is. -/
def okTitle (l : List UInt8) : Bool := decide (1 ≤ l.length) && (decide (l.length ≤ 100) && (l.all okb && (spOK true l && decide (runB 0 l = some 0))))
structure OkT (l : List UInt8) : Prop where
  n1 : 1 ≤ l.length
  n2 : l.length ≤ 100
  pr : l.all okb = true
  sp : spOK true l = true
  br : runB 0 l = some 0
theorem okT_of {l : List UInt8} (h : okTitle l = true) : OkT l := by
  unfold okTitle at h
  simp only [Bool.and_eq_true, decide_eq_true_eq] at h
  exact ⟨h.1, h.2.1, h.2.2.1, h.2.2.2.1, h.2.2.2.2⟩
/-! letters -/
def isUpB (b : UInt8) : Bool := decide ((b.toNat : Int) ≥ 65) && decide ((b.toNat : Int) ≤ 90)
def isLoB (b : UInt8) : Bool := decide ((b.toNat : Int) ≥ 97) && decide ((b.toNat : Int) ≤ 122)
def isDiB (b : UInt8) : Bool := decide ((b.toNat : Int) ≥ 48) && decide ((b.toNat : Int) ≤ 57)
def isLetB (b : UInt8) : Bool := isUpB b || isLoB b
def loB (b : UInt8) : UInt8 := if isUpB b = true then b + 32 else b
def upB (b : UInt8) : UInt8 := if isLoB b = true then b - 32 else b
theorem loB_nat (b : UInt8) : (((loB b).toNat : Nat) : Int) = if isUpB b = true then (b.toNat : Int) + 32 else (b.toNat : Int) := by
  unfold loB
  split
  · rename_i h
    unfold isUpB at h
    simp only [Bool.and_eq_true, decide_eq_true_eq] at h
    rw [UInt8.toNat_add, show (32 : UInt8).toNat = 32 from rfl, Nat.mod_eq_of_lt (by omega)]
    omega
  · rfl
theorem upB_nat (b : UInt8) : (((upB b).toNat : Nat) : Int) = if isLoB b = true then (b.toNat : Int) - 32 else (b.toNat : Int) := by
  unfold upB
  split
  · rename_i h
    unfold isLoB at h
    simp only [Bool.and_eq_true, decide_eq_true_eq] at h
    have := b.toNat_lt
    rw [UInt8.toNat_sub, show (32 : UInt8).toNat = 32 from rfl]
    omega
  · rfl
/-- The first letter raised. -/
def raiseL : List UInt8 → List UInt8
  | [] => []
  | b :: l => if isLetB b = true then upB b :: l else b :: raiseL l
/-- Lower case outside of braces. -/
def calmL : Bool → List UInt8 → List UInt8
  | _, [] => []
  | p, b :: l => (if (if b = 123 ∨ b = 125 then decide (b = 123) else p) = true then b else loB b) :: calmL (if b = 123 ∨ b = 125 then decide (b = 123) else p) l
/-- As the program has it: by the bytes that lie between braces. -/
def calmP : List UInt8 → List Bool → List UInt8
  | b :: l, p :: ps => (if p = true then b else loB b) :: calmP l ps
  | _, _ => []
theorem runB_tail {q : Nat} {b : UInt8} {l : List UInt8} (h : (runB q (b :: l)).isSome = true) : ∃ p, stB q b = some p ∧ (runB p l).isSome = true := by
  unfold runB at h
  cases hs : stB q b with
  | none => rw [hs] at h; cases h
  | some p => rw [hs] at h; exact ⟨p, rfl, h⟩
theorem calm_same (l : List UInt8) : ∀ q, (runB q l).isSome = true → calmP l (protL q l) = calmL (decide (q ≠ 0)) l := by
  induction l with
  | nil => intro q _; rfl
  | cons b l ih =>
    intro q h
    obtain ⟨p, hs, hp⟩ := runB_tail h
    have hi := ih p hp
    unfold protL
    rw [hs]
    simp only [calmP, calmL]
    rw [hi]
    unfold stB at hs
    by_cases c1 : b = 123
    · subst c1
      rw [if_pos rfl] at hs
      by_cases c0 : q = 0
      · rw [if_pos c0] at hs
        obtain rfl := Option.some.inj hs
        rfl
      · rw [if_neg c0] at hs; cases hs
    · rw [if_neg c1] at hs
      by_cases c2 : b = 125
      · subst c2
        rw [if_pos rfl] at hs
        by_cases c0 : q = 2
        · rw [if_pos c0] at hs
          obtain rfl := Option.some.inj hs
          rfl
        · rw [if_neg c0] at hs; cases hs
      · rw [if_neg c2] at hs
        obtain rfl := Option.some.inj hs
        have c3 : (b == 125) = false := by simpa using c2
        simp only [c1, c2, or_self, if_false, c3, Bool.or_false]
        by_cases c0 : q = 0
        · subst c0; rfl
        · simp [c0]
/-! the sorting form -/
def noBr (l : List UInt8) : List UInt8 := l.filter fun b => !(b == 123 || b == 125)
def simpleL : List UInt8 → List UInt8 → List (List UInt8)
  | c, [] => if c = [] then [] else [c]
  | c, b :: l => if b = 32 then (if c = [] then simpleL [] l else c :: simpleL [] l) else if (isLetB b || isDiB b) = true then simpleL (c ++ [loB b]) l else simpleL c l
def splitL : List UInt8 → List UInt8 → List (List UInt8)
  | c, [] => [c]
  | c, b :: l => if b = 32 then c :: splitL [] l else splitL (c ++ [b]) l
def keepB (b : UInt8) : Bool := isLoB b || (isDiB b || b == 32)
theorem keep_lo (b : UInt8) (h : b ≠ 32) : keepB (loB b) = (isLetB b || isDiB b) := by
  have h2 : (loB b == 32) = false := by
    rw [beq_eq_false_iff_ne]
    intro e
    have h3 := loB_nat b
    rw [e] at h3
    unfold isUpB at h3
    split at h3
    · rename_i hh
      simp only [Bool.and_eq_true, decide_eq_true_eq] at hh
      have : ((32 : UInt8).toNat : Int) = 32 := rfl
      omega
    · exact h (UInt8.toNat_inj.1 (by omega))
  unfold keepB
  rw [h2, Bool.or_false]
  have h3 := loB_nat b
  have h4 := b.toNat_lt
  unfold isLetB isLoB isDiB isUpB at *
  rw [h3]
  by_cases c1 : (b.toNat : Int) ≥ 65
  · by_cases c2 : (b.toNat : Int) ≤ 90
    · simp only [c1, c2, decide_true, Bool.and_self, if_true, Bool.true_or, Bool.or_true, Bool.true_and]
      rw [decide_eq_true (by omega : (b.toNat : Int) + 32 ≥ 97), decide_eq_true (by omega : (b.toNat : Int) + 32 ≤ 122)]
      rfl
    · simp [c1, c2]
  · simp [c1]
theorem simple_split (t : List UInt8) : ∀ c, (splitL c ((t.map loB).filter keepB)).filter (fun w => !w.isEmpty) = simpleL c t := by
  induction t with
  | nil =>
    intro c
    unfold simpleL
    cases c <;> rfl
  | cons b t ih =>
    intro c
    rw [List.map_cons, List.filter_cons]
    unfold simpleL
    by_cases h : b = 32
    · subst h
      rw [if_pos (by decide), if_pos rfl, show loB 32 = 32 from by decide, splitL, if_pos rfl, List.filter_cons, ih []]
      cases c with
      | nil => rfl
      | cons x c => rfl
    · rw [if_neg h]
      have hk := keep_lo b h
      rw [← hk]
      by_cases g : keepB (loB b) = true
      · rw [if_pos g, if_pos g, splitL, if_neg, ih]
        intro e
        have h3 := loB_nat b
        rw [e] at h3
        unfold isUpB at h3
        split at h3
        · rename_i hh
          simp only [Bool.and_eq_true, decide_eq_true_eq] at hh
          have : ((32 : UInt8).toNat : Int) = 32 := rfl
          omega
        · exact h (UInt8.toNat_inj.1 (by omega))
      · rw [if_neg g, if_neg g, ih]
/-! no two spaces together -/
def noD : Bool → List UInt8 → Bool
  | _, [] => true
  | p, b :: l => if b = 32 then (!p && noD true l) else noD false l
def headOK (l : List UInt8) : Bool := match l with | [] => true | b :: _ => !(b == 32)
def lastOK (l : List UInt8) : Bool := match l.getLast? with | none => true | some b => !(b == 32)
theorem noD_true (l : List UInt8) : noD true l = (headOK l && noD false l) := by
  cases l with
  | nil => rfl
  | cons b l =>
    unfold noD headOK
    by_cases h : b = 32 <;> simp [h]
theorem spOK_eq (l : List UInt8) : ∀ p, spOK p l = (noD p l && (if l = [] then !p else lastOK l)) := by
  induction l with
  | nil => intro p; simp [spOK, noD]
  | cons b l ih =>
    intro p
    have hl : lastOK (b :: l) = if l = [] then !(b == 32) else lastOK l := by
      unfold lastOK
      cases l with
      | nil => rfl
      | cons x l => rw [List.getLast?_cons_cons]; simp
    unfold spOK noD
    rw [if_neg (by simp : ¬ (b :: l = [])), hl, ih true, ih false]
    by_cases h : b = 32
    · subst h
      simp [Bool.and_assoc]
    · have : (b == 32) = false := by simpa using h
      by_cases e : l = [] <;> simp [h, this, e]
theorem spOK_true (l : List UInt8) (h : l ≠ []) : spOK true l = (headOK l && (noD false l && lastOK l)) := by
  rw [spOK_eq, noD_true, if_neg h, Bool.and_assoc]
theorem index_noD (l : List UInt8) : (Lib.index l [32, 32] = -1) ↔ noD false l = true := by
  induction l with
  | nil => simp [Lib.index, noD]
  | cons b l ih =>
    have hge := Lib.index_ge l [32, 32]
    unfold Lib.index
    by_cases h : b = 32
    · subst h
      have hn : noD false (32 :: l) = (headOK l && noD false l) := by
        rw [noD, if_pos rfl, noD_true]
        rfl
      rw [hn]
      cases l with
      | nil => simp [headOK, noD, Lib.index]
      | cons x l =>
        by_cases hx : x = 32
        · subst hx
          simp [headOK]
        · have hx2 : (x == 32) = false := by simpa using hx
          have hp : ([32, 32] : List UInt8).isPrefixOf (32 :: x :: l) = false := by
            simp [List.isPrefixOf, Ne.symm hx]
          rw [hp]
          simp only [Bool.false_eq_true, if_false, headOK, hx2, Bool.not_false, Bool.true_and]
          rw [← ih]
          by_cases c : Lib.index (x :: l) [32, 32] = -1
          · rw [if_pos (by rw [c]; rfl)]
            simp [c]
          · rw [if_neg (by simpa using c)]
            constructor
            · intro e; omega
            · intro e; exact absurd e c
    · have hp : ([32, 32] : List UInt8).isPrefixOf (b :: l) = false := by simp [List.isPrefixOf, Ne.symm h]
      rw [hp, noD, if_neg h]
      simp only [Bool.false_eq_true, if_false]
      rw [← ih]
      by_cases c : Lib.index l [32, 32] = -1
      · rw [if_pos (by rw [c]; rfl)]
        simp [c]
      · rw [if_neg (by simpa using c)]
        constructor
        · intro e; omega
        · intro e; exact absurd e c
theorem contains_noD (l : List UInt8) : Lib.contains l [32, 32] = !(noD false l) := by
  have h := index_noD l
  have hge := Lib.index_ge l [32, 32]
  unfold Lib.contains
  cases c : noD false l with
  | true =>
    rw [c] at h
    rw [h.2 rfl]
    rfl
  | false =>
    rw [c] at h
    rw [decide_eq_true]
    · rfl
    · have : Lib.index l [32, 32] ≠ -1 := fun e => by have := h.1 e; cases this
      omega
theorem trim_self (l : List UInt8) (hl : l ≠ []) : lL (lR l) = l ↔ (headOK l && lastOK l) = true := by
  constructor
  · intro h
    rw [Bool.and_eq_true]
    constructor
    · cases l with
      | nil => rfl
      | cons b t =>
        unfold headOK
        simp only [Bool.not_eq_true', beq_eq_false_iff_ne]
        rintro rfl
        rw [lLR, lL_cons, if_pos (by rfl)] at h
        have h1 := congrArg List.length h
        have h2 := lR_len (lL t)
        have h3 := lL_len t
        simp only [List.length_cons] at h1
        omega
    · unfold lastOK
      cases hg : l.getLast? with
      | none => rfl
      | some b =>
        simp only [Bool.not_eq_true', beq_eq_false_iff_ne]
        rintro rfl
        obtain ⟨t, rfl⟩ := List.getLast?_eq_some_iff.1 hg
        rw [lR_snoc, if_pos (by rfl)] at h
        have h1 := congrArg List.length h
        have h2 := lR_len t
        have h3 := lL_len (lR t)
        rw [List.length_append] at h1
        simp only [List.length_cons, List.length_nil] at h1
        omega
  · intro h
    rw [Bool.and_eq_true] at h
    have e1 : lR l = l := by
      have h2 := h.2
      unfold lastOK at h2
      cases hg : l.getLast? with
      | none => rw [List.getLast?_eq_none_iff] at hg; exact absurd hg hl
      | some b =>
        rw [hg] at h2
        obtain ⟨t, rfl⟩ := List.getLast?_eq_some_iff.1 hg
        rw [lR_snoc, if_neg]
        unfold sp
        simpa using h2
    rw [e1]
    cases l with
    | nil => rfl
    | cons b t =>
      rw [lL_cons, if_neg]
      have h1 := h.1
      unfold headOK at h1
      unfold sp
      simpa using h1

end Go.Proofs.YtiofklnfpmphnaaDoor.Pure
