/- Lemmas on the printed functions, without Go and memory. -/
import Derived.Test.YtgaepocgpjbapaaQFmt
namespace Go.Proofs.Ytgaepocgpjbapaa.Pure
open Go.RowKit Go.Proofs.Ytgaepocgpjbapaa.Px Go.Proofs.YtgaepocgpjbapaaW.PrintWords Go.Proofs.YtgaepocgpjbapaaW.PrintLast
set_option linter.unusedVariables false
set_option linter.unusedSimpArgs false

/-! markup read back: what a normal list's markup is read to -/
def nB (b : UInt8) : Int := (b.toNat : Int)
def nums (l : List UInt8) : List Int := l.map nB
theorem nums_append (a b : List UInt8) : nums (a ++ b) = nums a ++ nums b := by simp [nums]
theorem of_nums (l : List UInt8) : (strOfNums (nums l)).data.toList = l := by
  simp only [strOfNums, nums, List.map_map]
  have : ∀ l : List UInt8, l.map ((fun z : Int => UInt8.ofNat z.toNat) ∘ nB) = l := fun l => by
    induction l with
    | nil => rfl
    | cons b l ih => rw [List.map_cons, ih]; simp [nB]
  simpa [List.map_map] using this l
def isB (b : UInt8) : Bool := isMk (nB b)
theorem isB_iff (b : UInt8) : isB b = true ↔ b = 42 ∨ b = 95 ∨ b = 92 := by
  unfold isB isMk nB
  simp only [Bool.or_eq_true, decide_eq_true_eq, beq_iff_eq]
  have e : ∀ c : UInt8, ((b.toNat : Int) = (c.toNat : Int)) ↔ b = c := fun c => ⟨fun h => UInt8.toNat_inj.1 (by omega), fun h => by rw [h]⟩
  rw [show (42 : Int) = ((42 : UInt8).toNat : Int) from rfl, show (95 : Int) = ((95 : UInt8).toNat : Int) from rfl, show (92 : Int) = ((92 : UInt8).toNat : Int) from rfl, e, e, e]
/-- The markup as bytes. -/
def escB1 (b : UInt8) : List UInt8 := if isB b = true then [92, b] else [b]
def escB (l : List UInt8) : List UInt8 := l.flatMap escB1
def openB (x : Sp) : List UInt8 := (if x.f2 = true then [42] else []) ++ (if x.f1 = true then [95] else [])
def closeB (x : Sp) : List UInt8 := (if x.f1 = true then [95] else []) ++ (if x.f2 = true then [42] else [])
def mkB (x : Sp) : List UInt8 := openB x ++ (escB x.f0.data.toList ++ closeB x)
def mkBs (l : List Sp) : List UInt8 := l.flatMap mkB
theorem nums_esc (l : List UInt8) : nums (escB l) = esc l := by
  induction l with
  | nil => rfl
  | cons b l ih =>
    rw [esc_cons, ← ih]
    simp only [escB, List.flatMap_cons, nums_append]
    congr 1
    unfold escB1 esc1 isB nB
    split <;> rfl
theorem nums_open (x : Sp) : nums (openB x) = openM x := by unfold openB openM; split <;> split <;> rfl
theorem nums_close (x : Sp) : nums (closeB x) = closeM x := by unfold closeB closeM; split <;> split <;> rfl
theorem nums_mk (x : Sp) : nums (mkB x) = mkup x := by simp only [mkB, mkup, nums_append, nums_open, nums_esc, nums_close]
theorem nums_mks (l : List Sp) : nums (mkBs l) = mkups l := by
  induction l with
  | nil => rfl
  | cons x l ih => rw [mkups_cons, ← ih, ← nums_mk]; simp [mkBs, nums_append]
theorem text_mks (l : List Sp) (s : ByteArray) (h : strOfNums (mkups l) = s) : s.data.toList = mkBs l := by rw [← h, ← nums_mks, of_nums]
theorem mkBs_cons (x : Sp) (l : List Sp) : mkBs (x :: l) = mkB x ++ mkBs l := by simp [mkBs]
/-! normal lists -/
theorem norm_cons (o : List Sp) (x : Sp) (l : List Sp) : norm o (x :: l) = if x.f0.size = 0 then norm o l else norm (push o x) l := rfl
theorem norm_append (l m : List Sp) : ∀ o, norm o (l ++ m) = norm (norm o l) m := by
  induction l with
  | nil => intro o; rfl
  | cons x l ih =>
    intro o
    rw [List.cons_append, norm_cons, norm_cons]
    split
    · exact ih o
    · exact ih (push o x)
theorem norm_len (l : List Sp) : ∀ o, (norm o l).length = o.length + l.length → norm o l = o ++ l := by
  induction l with
  | nil => intro o _; simp [norm]
  | cons x l ih =>
    intro o h
    unfold norm at h ⊢
    have b0 := (norm_bounds l o).1
    have b1 := (norm_bounds l (push o x)).1
    rw [List.length_cons] at h
    by_cases c : x.f0.size = 0
    · rw [if_pos c] at h
      omega
    · rw [if_neg c] at h ⊢
      have hp : push o x = o ++ [x] := by
        unfold push at b1 h ⊢
        split
        · rename_i c2
          rw [if_pos c2, List.length_set] at b1
          rw [if_pos c2] at h
          omega
        · rfl
      rw [hp] at h ⊢
      rw [ih (o ++ [x]) (by rw [h]; simp; omega)]
      simp
theorem norm_head (l m : List Sp) (h : norm [] (l ++ m) = l ++ m) : norm [] l = l := by
  have h2 := congrArg List.length h
  rw [norm_append] at h2
  have b0 := (norm_bounds m (norm [] l)).1
  have b1 := (norm_bounds l []).1
  rw [List.length_append] at h2
  rw [List.length_nil] at b1
  have := norm_len l [] (by rw [List.length_nil]; omega)
  simpa using this
theorem norm_one (o : List Sp) (x : Sp) (h : x.f0.size ≠ 0) : norm o [x] = push o x := by
  unfold norm
  rw [if_neg h]
  rfl
theorem norm_idem (l : List Sp) : ∀ o, norm [] o = o → norm [] (norm o l) = norm o l := by
  induction l with
  | nil => intro o h; exact h
  | cons x l ih =>
    intro o h
    rw [norm_cons]
    split
    · exact ih o h
    · rename_i c
      refine ih _ ?_
      by_cases d : 0 < o.length ∧ (o.getD (o.length - 1) z44).f1 = x.f1 ∧ (o.getD (o.length - 1) z44).f2 = x.f2
      · obtain ⟨d1, d2, d3⟩ := d
        have hl : o = o.take (o.length - 1) ++ [o.getD (o.length - 1) z44] := by
          have e : o.drop (o.length - 1) = [o.getD (o.length - 1) z44] := by
            rw [List.drop_eq_getElem_cons (by omega), List.getD_eq_getElem?_getD, List.getElem?_eq_getElem (by omega), List.drop_of_length_le (by omega)]
            rfl
          rw [← e, List.take_append_drop]
        have hlen : (o.take (o.length - 1)).length = o.length - 1 := by rw [List.length_take]; omega
        generalize o.take (o.length - 1) = p at hl hlen
        generalize o.getD (o.length - 1) z44 = z at *
        have hp : push o x = p ++ [⟨z.f0 ++ x.f0, x.f1, x.f2⟩] := by
          unfold push
          rw [hl]
          simp [d2, d3]
        have hn := norm_head p [z] (by rw [← hl]; exact h)
        have hz : norm [] (p ++ [z]) = p ++ [z] := by rw [← hl]; exact h
        rw [norm_append, hn] at hz
        have z0 : z.f0.size ≠ 0 := fun c0 => by
          unfold norm at hz
          rw [if_pos c0] at hz
          have := congrArg List.length hz
          simp [norm] at this
        rw [norm_one _ _ z0] at hz
        rw [hp, norm_append, hn, norm_one _ _ (by simp only [ByteArray.size_append]; omega)]
        unfold push at hz ⊢
        simp only [← d2, ← d3]
        split
        · rename_i q
          rw [if_pos q] at hz
          have := congrArg List.length hz
          rw [List.length_set, List.length_append] at this
          simp at this
        · rfl
      · have hp : push o x = o ++ [x] := by unfold push; rw [if_neg d]
        rw [hp, norm_append, h, norm_one _ _ c, hp]
theorem norm_norm (l : List Sp) : norm [] (norm [] l) = norm [] l := norm_idem l [] rfl
/-- What a normal list's spans are, one behind another. -/
def Adj : Option Sp → List Sp → Prop
  | _, [] => True
  | p, x :: l => x.f0.size ≠ 0 ∧ (∀ q, p = some q → ¬ (q.f1 = x.f1 ∧ q.f2 = x.f2)) ∧ Adj (some x) l
theorem adj_of (m : List Sp) : ∀ l, norm [] (l ++ m) = l ++ m → Adj l.getLast? m := by
  induction m with
  | nil => intro l _; trivial
  | cons x m ih =>
    intro l h
    have h1 : norm [] (l ++ [x]) = l ++ [x] := norm_head (l ++ [x]) m (by simpa using h)
    have h0 : norm [] l = l := norm_head l [x] h1
    rw [norm_append, h0] at h1
    have hx : x.f0.size ≠ 0 := fun c => by
      unfold norm at h1
      rw [if_pos c] at h1
      have := congrArg List.length h1
      simp [norm] at this
    rw [norm_one _ _ hx] at h1
    refine ⟨hx, fun q hq c => ?_, ?_⟩
    · rw [List.getLast?_eq_getElem?] at hq
      obtain ⟨e1, e2⟩ := List.getElem?_eq_some_iff.1 hq
      have e3 : l.getD (l.length - 1) z44 = q := by rw [List.getD_eq_getElem?_getD, hq]; rfl
      unfold push at h1
      rw [e3, if_pos ⟨by omega, c.1, c.2⟩] at h1
      have := congrArg List.length h1
      rw [List.length_set, List.length_append] at this
      simp at this
    · have := ih (l ++ [x]) (by simpa using h)
      simpa using this
theorem push_adj (l : List Sp) (x : Sp) (h : ∀ q, l.getLast? = some q → ¬ (q.f1 = x.f1 ∧ q.f2 = x.f2)) : push l x = l ++ [x] := by
  unfold push
  rw [if_neg]
  rintro ⟨c0, c1, c2⟩
  have e : l.getLast? = some (l.getD (l.length - 1) z44) := by
    rw [List.getLast?_eq_getElem?, List.getD_eq_getElem?_getD, List.getElem?_eq_getElem (by omega)]
    rfl
  exact h _ e ⟨c1, c2⟩
/-! the reference's reader -/
def spanOf (c : List Int) (i b : Bool) : Sp := ⟨strOfNums c, i, b⟩
def scan : List UInt8 → List Sp → Bool → Bool → List Int → List Sp
  | [], o, i, b, c => o ++ [spanOf c i b]
  | [x], o, i, b, c => if x = 42 ∨ x = 95 then (o ++ [spanOf c i b]) ++ [spanOf [] (if x = 42 then i else !i) (if x = 42 then !b else b)] else o ++ [spanOf (c ++ [nB x]) i b]
  | x :: y :: r, o, i, b, c => if x = 92 then scan r o i b (c ++ [nB y]) else if x = 42 ∨ x = 95 then scan (y :: r) (o ++ [spanOf c i b]) (if x = 42 then i else !i) (if x = 42 then !b else b) [] else scan (y :: r) o i b (c ++ [nB x])
theorem scan_one (x : UInt8) (o : List Sp) (i b : Bool) (c : List Int) : scan [x] o i b c = if x = 42 ∨ x = 95 then (o ++ [spanOf c i b]) ++ [spanOf [] (if x = 42 then i else !i) (if x = 42 then !b else b)] else o ++ [spanOf (c ++ [nB x]) i b] := rfl
theorem scan_star (r : List UInt8) (o : List Sp) (i b : Bool) (c : List Int) : scan (42 :: r) o i b c = scan r (o ++ [spanOf c i b]) i (!b) [] := by
  cases r with
  | nil => simp [scan]
  | cons y r => rw [scan]; rw [if_neg (by decide), if_pos (by decide), if_pos rfl, if_pos rfl]
theorem scan_under (r : List UInt8) (o : List Sp) (i b : Bool) (c : List Int) : scan (95 :: r) o i b c = scan r (o ++ [spanOf c i b]) (!i) b [] := by
  cases r with
  | nil => simp [scan]
  | cons y r => rw [scan]; rw [if_neg (by decide), if_pos (by decide), if_neg (by decide), if_neg (by decide)]
theorem scan_esc (y : UInt8) (r : List UInt8) (o : List Sp) (i b : Bool) (c : List Int) : scan (92 :: y :: r) o i b c = scan r o i b (c ++ [nB y]) := by
  rw [scan, if_pos rfl]
theorem scan_plain (x : UInt8) (r : List UInt8) (o : List Sp) (i b : Bool) (c : List Int) (h : isB x = false) : scan (x :: r) o i b c = scan r o i b (c ++ [nB x]) := by
  have hn : ¬ (x = 42 ∨ x = 95 ∨ x = 92) := fun e => by rw [(isB_iff x).2 e] at h; cases h
  cases r with
  | nil => rw [scan_one, if_neg (fun e : x = 42 ∨ x = 95 => hn (e.elim .inl (fun e => .inr (.inl e))))]; rfl
  | cons y r => rw [scan, if_neg (fun e => hn (.inr (.inr e))), if_neg (fun e : x = 42 ∨ x = 95 => hn (e.elim .inl (fun e => .inr (.inl e))))]
theorem scan_text (t : List UInt8) : ∀ (r : List UInt8) (o : List Sp) (i b : Bool) (c : List Int), scan (escB t ++ r) o i b c = scan r o i b (c ++ nums t) := by
  induction t with
  | nil => intro r o i b c; simp [escB, nums]
  | cons x t ih =>
    intro r o i b c
    have e : escB (x :: t) ++ r = escB1 x ++ (escB t ++ r) := by simp [escB]
    have e2 : c ++ nums (x :: t) = (c ++ [nB x]) ++ nums t := by simp [nums]
    rw [e, e2]
    unfold escB1
    cases h : isB x with
    | true => rw [if_pos rfl]; show scan (92 :: x :: (escB t ++ r)) o i b c = _; rw [scan_esc, ih]
    | false => rw [if_neg (by decide)]; show scan (x :: (escB t ++ r)) o i b c = _; rw [scan_plain _ _ _ _ _ _ h, ih]
theorem span_self (x : Sp) : spanOf (nums x.f0.data.toList) x.f1 x.f2 = x := by
  unfold spanOf
  have : strOfNums (nums x.f0.data.toList) = x.f0 := by
    apply ByteArray.ext
    apply Array.toList_inj.1
    exact of_nums _
  rw [this]
theorem span_empty (i b : Bool) : (spanOf [] i b).f0.size = 0 := rfl
theorem norm_empty (o : List Sp) (x : Sp) (h : x.f0.size = 0) : norm o [x] = o := by
  unfold norm
  rw [if_pos h]
  rfl
theorem span_size (c : List Int) (i b : Bool) : (spanOf c i b).f0.size = c.length := strOfNums_size c
theorem scan_norm (m : List Sp) : ∀ (l o : List Sp) (c : List Int), Adj l.getLast? m → norm [] (o ++ [spanOf c false false]) = l → norm [] (scan (mkBs m) o false false c) = l ++ m := by
  induction m with
  | nil => intro l o c _ h; simpa [mkBs, scan] using h
  | cons x m ih =>
    intro l o c ha h
    obtain ⟨hx, hd, hm⟩ := ha
    have hp := push_adj l x hd
    have hgl : (l ++ [x]).getLast? = some x := by simp
    have fin : ∀ (o2 : List Sp) (c2 : List Int), norm [] (o2 ++ [spanOf c2 false false]) = l ++ [x] → norm [] (scan (mkBs m) o2 false false c2) = l ++ (x :: m) := fun o2 c2 e => by
      have := ih (l ++ [x]) o2 c2 (by rw [hgl]; exact hm) e
      simpa using this
    have hnx : norm l [x] = l ++ [x] := by rw [norm_one _ _ hx, hp]
    have hxs : (spanOf (nums x.f0.data.toList) x.f1 x.f2) = x := span_self x
    have E1 : ∀ a : Bool, norm [] ((o ++ [spanOf c false false]) ++ [spanOf [] a true]) = l := fun a => by rw [norm_append, h, norm_empty _ _ (span_empty _ _)]
    rw [mkBs_cons]
    unfold mkB openB closeB
    cases h1 : x.f1 with
    | false =>
      cases h2 : x.f2 with
      | false =>
        rw [h1, h2] at hxs
        simp only [Bool.false_eq_true, if_false, List.nil_append, List.append_nil, List.append_assoc]
        rw [scan_text]
        refine fin _ _ ?_
        by_cases hc : c = []
        · subst hc
          rw [norm_append, norm_empty _ _ (span_empty _ _)] at h
          rw [List.nil_append, hxs, norm_append, h, hnx]
        · exfalso
          have hcs : (spanOf c false false).f0.size ≠ 0 := by rw [span_size]; exact fun e => hc (List.length_eq_zero_iff.1 e)
          rw [norm_append, norm_one _ _ hcs] at h
          have : ∃ q, l.getLast? = some q ∧ q.f1 = false ∧ q.f2 = false := by
            rw [← h]
            unfold push
            split
            · rename_i q
              refine ⟨⟨((norm [] o).getD ((norm [] o).length - 1) z44).f0 ++ (spanOf c false false).f0, false, false⟩, ?_, rfl, rfl⟩
              rw [List.getLast?_eq_getElem?, List.length_set, List.getElem?_set_self (by omega)]
              rfl
            · exact ⟨spanOf c false false, by simp, rfl, rfl⟩
          obtain ⟨q, q0, q1, q2⟩ := this
          exact hd q q0 ⟨by rw [q1, h1], by rw [q2, h2]⟩
      | true =>
        rw [h1, h2] at hxs
        simp only [Bool.false_eq_true, if_false, if_true, List.nil_append, List.append_nil, List.append_assoc, List.cons_append]
        rw [scan_star, scan_text, scan_star, List.nil_append]
        refine fin _ _ ?_
        rw [Bool.not_false, hxs, norm_append, norm_append, h, hnx, norm_empty _ _ (span_empty _ _)]
    | true =>
      cases h2 : x.f2 with
      | false =>
        rw [h1, h2] at hxs
        simp only [Bool.false_eq_true, if_false, if_true, List.nil_append, List.append_nil, List.append_assoc, List.cons_append]
        rw [scan_under, scan_text, scan_under, List.nil_append]
        refine fin _ _ ?_
        rw [Bool.not_false, hxs, norm_append, norm_append, h, hnx, norm_empty _ _ (span_empty _ _)]
      | true =>
        rw [h1, h2] at hxs
        simp only [if_true, List.nil_append, List.append_nil, List.append_assoc, List.cons_append]
        rw [scan_star, scan_under, scan_text, scan_under, scan_star, List.nil_append]
        refine fin _ _ ?_
        rw [Bool.not_false, hxs, norm_append, norm_append, norm_append, E1 false, hnx, norm_empty _ _ (span_empty _ _), norm_empty _ _ (span_empty _ _)]
/-! the program's reader -/
def rdT : List UInt8 → List Int → Option (List Int × List UInt8)
  | [], c => some (c, [])
  | [x], c => if x = 42 ∨ x = 95 then some (c, [x]) else if x = 92 then none else some (c ++ [nB x], [])
  | x :: y :: r, c => if x = 42 ∨ x = 95 then some (c, x :: y :: r) else if x = 92 then (if isB y = true then rdT r (c ++ [nB y]) else none) else rdT (y :: r) (c ++ [nB x])
theorem rdT_one (x : UInt8) (c : List Int) : rdT [x] c = if x = 42 ∨ x = 95 then some (c, [x]) else if x = 92 then none else some (c ++ [nB x], []) := rfl
def hd1 (l : List UInt8) : Prop := l = [] ∨ ∃ r, l = 42 :: r ∨ l = 95 :: r
theorem rdT_end (l : List UInt8) (c : List Int) (h : hd1 l) : rdT l c = some (c, l) := by
  rcases h with rfl | ⟨r, rfl | rfl⟩
  · rfl
  · cases r <;> simp [rdT]
  · cases r <;> simp [rdT]
theorem rdT_text (t : List UInt8) : ∀ (r : List UInt8) (c : List Int), hd1 r → rdT (escB t ++ r) c = some (c ++ nums t, r) := by
  induction t with
  | nil => intro r c h; simpa [escB, nums] using rdT_end r c h
  | cons x t ih =>
    intro r c hr
    have e : escB (x :: t) ++ r = escB1 x ++ (escB t ++ r) := by simp [escB]
    have e2 : c ++ nums (x :: t) = (c ++ [nB x]) ++ nums t := by simp [nums]
    rw [e, e2, ← ih r _ hr]
    unfold escB1
    cases h : isB x with
    | true =>
      rw [if_pos rfl]
      show rdT (92 :: x :: (escB t ++ r)) c = _
      rw [rdT, if_neg (by decide), if_pos rfl, if_pos h]
    | false =>
      have hn : ¬ (x = 42 ∨ x = 95 ∨ x = 92) := fun e => by rw [(isB_iff x).2 e] at h; cases h
      rw [if_neg (by decide)]
      show rdT (x :: (escB t ++ r)) c = _
      cases escB t ++ r with
      | nil => rw [rdT_one, if_neg (fun e : x = 42 ∨ x = 95 => hn (e.elim .inl (fun e => .inr (.inl e)))), if_neg (fun e => hn (.inr (.inr e)))]; rfl
      | cons y r => rw [rdT, if_neg (fun e : x = 42 ∨ x = 95 => hn (e.elim .inl (fun e => .inr (.inl e)))), if_neg (fun e => hn (.inr (.inr e)))]
def cutP (b : UInt8) (l : List UInt8) : List UInt8 × Bool := match l with
  | [] => ([], false)
  | x :: r => if x = b then (r, true) else (x :: r, false)
def rdS (s : List UInt8) : Option (Sp × List UInt8) :=
  let p := cutP 42 s
  let q := cutP 95 p.1
  match rdT q.1 [] with
  | none => none
  | some (c, l) =>
    let u : List UInt8 × Bool := if q.2 = true then cutP 95 l else (l, true)
    if u.2 = true then
      let v : List UInt8 × Bool := if p.2 = true then cutP 42 u.1 else (u.1, true)
      if v.2 = true then (if c = [] then none else some (spanOf c q.2 p.2, v.1)) else none
    else none
theorem cut_no (b : UInt8) (l : List UInt8) (h : ∀ r, l ≠ b :: r) : cutP b l = (l, false) := by
  cases l with
  | nil => rfl
  | cons x r => unfold cutP; simp only; rw [if_neg (fun e => h r (by rw [e]))]
theorem cut_yes (b : UInt8) (l : List UInt8) : cutP b (b :: l) = (l, true) := by unfold cutP; simp
theorem esc_head (t : List UInt8) (ht : t ≠ []) (r : List UInt8) (b : UInt8) (hb : b = 42 ∨ b = 95) (q : List UInt8) : escB t ++ r ≠ b :: q := by
  cases t with
  | nil => exact absurd rfl ht
  | cons x t =>
    have e : escB (x :: t) ++ r = escB1 x ++ (escB t ++ r) := by simp [escB]
    rw [e]
    unfold escB1
    cases h : isB x with
    | true =>
      rw [if_pos rfl]
      intro e
      have := (List.cons.inj e).1
      subst this
      revert hb
      decide
    | false =>
      rw [if_neg (by decide)]
      intro e
      have := (List.cons.inj e).1
      subst this
      have := (isB_iff x).2 (hb.elim .inl (fun e => .inr (.inl e)))
      rw [h] at this
      cases this
theorem adj_head (x : Sp) (m : List Sp) (h : Adj (some x) m) (h1 : x.f1 = false) (h2 : x.f2 = false) : hd1 (mkBs m) := by
  cases m with
  | nil => exact .inl rfl
  | cons y m =>
    obtain ⟨_, hd, _⟩ := h
    have := hd x rfl
    rw [mkBs_cons]
    unfold mkB openB
    cases c2 : y.f2 with
    | true => exact .inr ⟨_, .inl (by simp; rfl)⟩
    | false =>
      cases c1 : y.f1 with
      | true => exact .inr ⟨_, .inr (by simp; rfl)⟩
      | false => exact absurd ⟨by rw [h1, c1], by rw [h2, c2]⟩ this
theorem rdS_mk (x : Sp) (m : List Sp) (hx : x.f0.size ≠ 0) (h : Adj (some x) m) : rdS (mkB x ++ mkBs m) = some (x, mkBs m) := by
  have ht : x.f0.data.toList ≠ [] := fun e => hx (by rw [← data_length, e]; rfl)
  have hn : nums x.f0.data.toList ≠ [] := fun e => ht (by simpa [nums] using e)
  have hxs := span_self x
  unfold mkB openB closeB
  cases h1 : x.f1 with
  | false =>
    cases h2 : x.f2 with
    | false =>
      rw [h1, h2] at hxs
      simp only [Bool.false_eq_true, if_false, List.nil_append, List.append_nil]
      unfold rdS
      simp only [cut_no 42 _ (esc_head _ ht _ 42 (.inl rfl)), cut_no 95 _ (esc_head _ ht _ 95 (.inr rfl)), rdT_text _ _ _ (adj_head x m h h1 h2), List.nil_append, Bool.false_eq_true, if_false, if_true, hn, hxs]
    | true =>
      rw [h1, h2] at hxs
      simp only [Bool.false_eq_true, if_false, if_true, List.nil_append, List.append_nil, List.append_assoc, List.cons_append]
      unfold rdS
      simp only [cut_yes, cut_no 95 _ (esc_head _ ht _ 95 (.inr rfl)), rdT_text _ _ _ (.inr ⟨_, .inl rfl⟩), List.nil_append, Bool.false_eq_true, if_false, if_true, hn, hxs]
  | true =>
    cases h2 : x.f2 with
    | false =>
      rw [h1, h2] at hxs
      simp only [Bool.false_eq_true, if_false, if_true, List.nil_append, List.append_nil, List.append_assoc, List.cons_append]
      unfold rdS
      simp only [cut_no 42 _ (show ∀ r, (95 : UInt8) :: (escB x.f0.data.toList ++ 95 :: mkBs m) ≠ 42 :: r from fun r e => absurd (List.cons.inj e).1 (by decide)), cut_yes, rdT_text _ _ _ (.inr ⟨_, .inr rfl⟩), List.nil_append, Bool.false_eq_true, if_false, if_true, hn, hxs]
    | true =>
      rw [h1, h2] at hxs
      simp only [if_true, List.nil_append, List.append_nil, List.append_assoc, List.cons_append]
      unfold rdS
      simp only [cut_yes, rdT_text _ _ _ (.inr ⟨_, .inr rfl⟩), List.nil_append, if_true, hn, if_false, hxs]
theorem rdT_le : ∀ (n : Nat) (l : List UInt8) (c c' : List Int) (r : List UInt8), l.length ≤ n → rdT l c = some (c', r) → c'.length + r.length ≤ c.length + l.length ∧ r.length ≤ l.length
  | n, [], c, c', r, _, h => by simp only [rdT, Option.some.injEq, Prod.mk.injEq] at h; obtain ⟨rfl, rfl⟩ := h; simp
  | n, [x], c, c', r, _, h => by
    rw [rdT] at h
    split at h
    · simp only [Option.some.injEq, Prod.mk.injEq] at h; obtain ⟨rfl, rfl⟩ := h; simp
    · split at h
      · cases h
      · simp only [Option.some.injEq, Prod.mk.injEq] at h; obtain ⟨rfl, rfl⟩ := h; simp
  | 0, x :: y :: l, c, c', r, hl, h => by simp at hl
  | n + 1, x :: y :: l, c, c', r, hl, h => by
    rw [rdT] at h
    split at h
    · simp only [Option.some.injEq, Prod.mk.injEq] at h; obtain ⟨rfl, rfl⟩ := h; simp
    · split at h
      · split at h
        · have := rdT_le n l _ _ _ (by simp at hl; omega) h
          simp only [List.length_append, List.length_cons, List.length_nil] at *
          omega
        · cases h
      · have := rdT_le n (y :: l) _ _ _ (by simp at hl ⊢; omega) h
        simp only [List.length_append, List.length_cons, List.length_nil] at *
        omega
theorem cut_le (b : UInt8) (l : List UInt8) : (cutP b l).1.length ≤ l.length := by
  cases l with
  | nil => simp [cutP]
  | cons x r => unfold cutP; simp only; split <;> simp
theorem rdS_le (s : List UInt8) (x : Sp) (r : List UInt8) (h : rdS s = some (x, r)) : x.f0.size + r.length ≤ s.length ∧ 0 < x.f0.size := by
  unfold rdS at h
  simp only at h
  have a1 := cut_le 42 s
  have a2 := cut_le 95 (cutP 42 s).1
  generalize cutP 42 s = p at *
  generalize cutP 95 p.1 = q at *
  cases hc : rdT q.1 [] with
  | none => rw [hc] at h; cases h
  | some cl =>
    obtain ⟨c, l⟩ := cl
    have b := rdT_le _ _ _ _ _ (Nat.le_refl _) hc
    have a3 := cut_le 95 l
    rw [hc] at h
    simp only at h
    have hu : (if q.2 = true then cutP 95 l else (l, true)).1.length ≤ l.length := by
      split
      · exact a3
      · exact Nat.le_refl _
    generalize (if q.2 = true then cutP 95 l else (l, true)) = u at *
    cases h2 : u.2 with
    | false => rw [h2, if_neg (by decide)] at h; cases h
    | true =>
      rw [h2, if_pos rfl] at h
      have a4 := cut_le 42 u.1
      have hv : (if p.2 = true then cutP 42 u.1 else (u.1, true)).1.length ≤ u.1.length := by
        split
        · exact a4
        · exact Nat.le_refl _
      generalize (if p.2 = true then cutP 42 u.1 else (u.1, true)) = v at *
      cases h3 : v.2 with
      | false => rw [h3, if_neg (by decide)] at h; cases h
      | true =>
        rw [h3, if_pos rfl] at h
        by_cases hne : c = []
        · rw [if_pos hne] at h; cases h
        · rw [if_neg hne] at h
          obtain ⟨rfl, rfl⟩ := Prod.mk.inj (Option.some.inj h)
          rw [span_size]
          have : 0 < c.length := List.length_pos_iff.2 hne
          simp only [List.length_nil] at b
          omega
/-- All spans, one by one: at most eighty. -/
def rdAll : Nat → List UInt8 → List Sp → Option (List Sp)
  | 0, _, _ => none
  | n + 1, s, o => if s = [] then some o else match rdS s with
    | none => none
    | some (x, r) => if o.length = 80 then none else rdAll n r (o ++ [x])
theorem rdAll_mk (m : List Sp) : ∀ (n : Nat) (l : List Sp), Adj l.getLast? m → l.length + m.length ≤ 80 → m.length < n → rdAll n (mkBs m) l = some (l ++ m) := by
  induction m with
  | nil =>
    intro n l _ _ hn
    obtain ⟨n, rfl⟩ : ∃ j, n = j + 1 := ⟨n - 1, by omega⟩
    simp [rdAll, mkBs]
  | cons x m ih =>
    intro n l ha hl hn
    obtain ⟨n, rfl⟩ : ∃ j, n = j + 1 := ⟨n - 1, by omega⟩
    obtain ⟨hx, hd, hm⟩ := ha
    have hr := rdS_mk x m hx hm
    simp only [List.length_cons] at hl hn
    rw [mkBs_cons, rdAll, if_neg (fun e => by rw [e] at hr; simp [rdS, cutP, rdT] at hr), hr]
    simp only
    rw [if_neg (by omega), ih n (l ++ [x]) (by simpa using hm) (by simp; omega) (by omega)]
    simp
def accS (s : ByteArray) : List Sp × Bool := if goodS (norm [] (scan s.data.toList [] false false [])) = true ∧ strOfNums (mkups (norm [] (scan s.data.toList [] false false []))) = s then (norm [] (scan s.data.toList [] false false []), true) else ([], false)
def fitI (o : List Sp) (s : ByteArray) : Prop := goodS o = true ∧ (norm [] o).length = o.length ∧ strOfNums (mkups (norm [] o)) = s
instance (o : List Sp) (s : ByteArray) : Decidable (fitI o s) := by unfold fitI; exact inferInstance
def accI (s : ByteArray) : List Sp × Bool := match rdAll 82 s.data.toList [] with
  | none => ([], false)
  | some o => if fitI o s then (o, true) else ([], false)
theorem good_len (l : List Sp) (h : goodS l = true) : l.length ≤ 80 := by
  unfold goodS at h
  simp only [Bool.and_eq_true, decide_eq_true_eq] at h
  exact h.1
theorem acc_same (s : ByteArray) : accI s = accS s := by
  unfold accS accI
  have back : ∀ o, goodS o = true → norm [] o = o → strOfNums (mkups o) = s → rdAll 82 s.data.toList [] = some o ∧ norm [] (scan s.data.toList [] false false []) = o := fun o hg hn hs => by
    rw [text_mks o s hs]
    have ha := adj_of o [] (by simpa using hn)
    have h80 := good_len o hg
    refine ⟨by simpa using rdAll_mk o 82 [] ha (by simp; omega) (by omega), ?_⟩
    have := scan_norm o [] [] [] ha (norm_empty _ _ (span_empty _ _))
    simpa using this
  by_cases c : goodS (norm [] (scan s.data.toList [] false false [])) = true ∧ strOfNums (mkups (norm [] (scan s.data.toList [] false false []))) = s
  · rw [if_pos c]
    have hn := norm_norm (scan s.data.toList [] false false [])
    obtain ⟨b1, _⟩ := back _ c.1 hn c.2
    rw [b1]
    simp only
    rw [if_pos ⟨c.1, by rw [hn], by rw [hn]; exact c.2⟩]
  · rw [if_neg c]
    cases h : rdAll 82 s.data.toList [] with
    | none => rfl
    | some o =>
      simp only
      rw [if_neg]
      rintro ⟨f1, f2, f3⟩
      have hn : norm [] o = o := by simpa using norm_len o [] (by simpa using f2)
      rw [hn] at f3
      obtain ⟨_, b2⟩ := back o f1 hn f3
      rw [b2] at c
      exact c ⟨f1, f3⟩

end Go.Proofs.Ytgaepocgpjbapaa.Pure
