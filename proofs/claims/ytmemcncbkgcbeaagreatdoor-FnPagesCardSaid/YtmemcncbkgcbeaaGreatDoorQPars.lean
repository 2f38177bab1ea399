/- Lemmas on the printed functions, without Go and memory. -/
import Derived.Lib.SplitLaws
import Derived.Test.YtmemcncbkgcbeaaGreatDoorPx4
import Derived.Test.YtmemcncbkgcbeaaGreatDoorPx5
import Derived.Test.YtmemcncbkgcbeaaGreatDoorPx6
import Derived.Test.YtmemcncbkgcbeaaGreatDoorQCut
namespace Go.Proofs.YtmemcncbkgcbeaaGreatDoor.Pure
open Go.RowKit Go.Proofs.YtmemcncbkgcbeaaGreatDoor.Px Go.Proofs.YtmemcncbkgcbeaaGreatDoorW.PrintWords Go.Proofs.YtmemcncbkgcbeaaGreatDoorW.PrintLast
set_option linter.unusedVariables false
set_option linter.unusedSimpArgs false

theorem tx_noc (q : Sp) (hq : okr q = true) : ∀ b ∈ (tx q).data.toList, b ≠ 44 := by
  obtain ⟨ql, q1, q2, q3⟩ := okr_parts q hq
  have hL : ∀ b ∈ q.f0.data.toList, b ≠ 44 := fun b hb => by
    rcases letter_parts q.f0 ql with h | ⟨h, h1, h2⟩
    · rw [List.eq_nil_of_length_eq_zero (by rw [data_length]; exact h : q.f0.data.toList.length = 0)] at hb
      cases hb
    · obtain ⟨c, hc, hv⟩ := one_list q.f0 h
      rw [hc, List.mem_singleton] at hb
      subst hb
      rintro rfl
      rw [hv] at h1
      exact absurd h1 (by decide)
  have hN : ∀ n : Int, 0 ≤ n → ∀ b ∈ (numT n).data.toList, b ≠ 44 := fun n hn b hb e => by
    have := (num_dig n hn b hb).1
    subst e
    exact absurd this (by decide)
  intro b hb
  unfold tx rText at hb
  split at hb
  · simp only [app_list, List.mem_append] at hb
    rcases hb with (hb | hb) | ((hb | hb) | hb)
    · exact hL b hb
    · exact hN q.f1 (by omega) b hb
    · have : b = 45 := by simpa using hb
      subst this
      decide
    · exact hL b hb
    · exact hN q.f2 (by omega) b hb
  · simp only [app_list, List.mem_append] at hb
    rcases hb with hb | hb
    · exact hL b hb
    · exact hN q.f1 (by omega) b hb
theorem tx_pos (q : Sp) : 0 < (tx q).size := by
  have := numT_pos q.f1
  unfold tx rText
  split <;> simp only [ByteArray.size_append] <;> omega
theorem jn_one (q : Sp) : jn (bl [q]) = (tx q).data.toList := Lib.join_one _ _
theorem jn_cons (q r : Sp) (l : List Sp) : jn (bl (q :: r :: l)) = (tx q).data.toList ++ 44 :: 32 :: jn (bl (r :: l)) := by
  unfold jn bl
  rw [List.map_cons, List.map_cons, Lib.join_cons, Lib.join_cons]
  simp [Lib.joinTail]
def GoodR (s : ByteArray) (R : List Sp × Bool) : Prop := (∃ L, okl L = true ∧ LT L = s ∧ R = (L, true)) ∨ R = ([], false)
theorem spec_end (s : ByteArray) (out : List Sp) (h : out.length ≤ 9) : ∃ R, Ev (fun k => spec_ParsePages.j6 k s out) R ∧ GoodR s R ∧ (okl out = true → LT out = s → R = (out, true)) := by
  have g := good_ev out (by omega)
  cases ho : okl out with
  | false =>
    rw [ho] at g
    refine ⟨([], false), Ev.step (fun k => ?_) (Ev.bind g (f := fun k t602 => (if t602 = true then ((spec_l7List.f k out).bind fun t603 => (if t603.toList = s.toList then (some (out, true)) else (some (([] : List Sp), false)))) else (some (([] : List Sp), false)))) (Ev.congr (fun _ => if_neg (by decide)) (Ev.now _))), .inr rfl, fun h => by cases h⟩
    simp only [spec_ParsePages.j6]
  | true =>
    rw [ho] at g
    obtain ⟨_, e1⟩ := list_spec out ho
    by_cases c : (LT out).toList = s.toList
    · refine ⟨(out, true), Ev.step (fun k => ?_) (Ev.bind g (f := fun k t602 => (if t602 = true then ((spec_l7List.f k out).bind fun t603 => (if t603.toList = s.toList then (some (out, true)) else (some (([] : List Sp), false)))) else (some (([] : List Sp), false)))) (Ev.congr (fun _ => if_pos rfl) (Ev.bind e1 (Ev.congr (fun _ => if_pos c) (Ev.now _))))), .inl ⟨out, ho, str_inj _ _ c, rfl⟩, fun _ _ => rfl⟩
      simp only [spec_ParsePages.j6]
    · refine ⟨([], false), Ev.step (fun k => ?_) (Ev.bind g (f := fun k t602 => (if t602 = true then ((spec_l7List.f k out).bind fun t603 => (if t603.toList = s.toList then (some (out, true)) else (some (([] : List Sp), false)))) else (some (([] : List Sp), false)))) (Ev.congr (fun _ => if_pos rfl) (Ev.bind e1 (Ev.congr (fun _ => if_neg c) (Ev.now _))))), .inr rfl, fun _ h => absurd (by rw [h]) c⟩
      simp only [spec_ParsePages.j6]
theorem spec_word (w : ByteArray) (hw : w.size ≤ 1048576) : ∃ (r : Sp) (one two : Bool), (∀ (s : ByteArray) (out : List Sp) (frm e : Nat) (R : List Sp × Bool), w = s.extract frm e → frm ≤ e → e ≤ s.size → Ev (fun k => spec_ParsePages.j4 k s out (e : Int) one two r.f0 r.f1 r.f2) R → Ev (fun k => spec_ParsePages.j3 k s out (frm : Int) (e : Int)) R) ∧
    (∀ q, okr q = true → tx q = w → one = true ∧ two = true ∧ r = q) := by
  obtain ⟨A, B, f, ec, _, hcut⟩ := cut_both w hw
  obtain ⟨P, eP, p1, p2⟩ := spec_page A
  obtain ⟨Q, eQ, q1, q2⟩ := spec_page B
  have hP : ∀ q, okr q = true → tx q = w → P.2.2 = true ∧ P.1 = q.f0 ∧ P.2.1 = q.f1 := fun q hq ht => by
    obtain ⟨a1, a2, _, _⟩ := read_word w A B f hcut q hq ht
    obtain ⟨_, b1, b2, b3⟩ := okr_parts q hq
    cases hp : P.2.2 with
    | false => exact absurd a2 (p2 hp q.f1 b1 (by omega))
    | true =>
      obtain ⟨c1, c2, c3, c4⟩ := p1 hp
      exact ⟨rfl, c1.trans a1, numT_inj _ _ (by omega) (by omega) (c4.symm.trans a2)⟩
  cases f with
  | false =>
    refine ⟨⟨P.1, P.2.1, P.2.1⟩, P.2.2, true, fun s out frm e R hws h1 h2 h => ?_, fun q hq ht => ?_⟩
    · refine Ev.step (f := fun k => (spec_l7Cut.f k w).bind fun bt586 => ((spec_l7Page.f k bt586.1).bind fun bt589 => (if bt586.2.2 = true then ((spec_l7Page.f k bt586.2.1).bind fun bt593 => (spec_ParsePages.j4 k s out (e : Int) bt589.2.2 bt593.2.2 bt589.1 bt589.2.1 bt593.2.1)) else (spec_ParsePages.j4 k s out (e : Int) bt589.2.2 true bt589.1 bt589.2.1 bt589.2.1)))) (fun k => ?_) (Ev.bind ec (Ev.bind eP (Ev.congr (fun _ => if_neg Bool.false_ne_true) h)))
      simp only [spec_ParsePages.j3]
      rw [if_pos (by omega), if_pos (by omega), if_pos (by omega), Int.toNat_natCast, Int.toNat_natCast, ← hws]
    · obtain ⟨a, b, c⟩ := hP q hq ht
      obtain ⟨_, _, _, d⟩ := read_word w A B false hcut q hq ht
      refine ⟨a, rfl, ?_⟩
      have d := d rfl
      cases q
      simp only at b c d
      rw [b, c, d]
  | true =>
    refine ⟨⟨P.1, P.2.1, Q.2.1⟩, P.2.2, Q.2.2, fun s out frm e R hws h1 h2 h => ?_, fun q hq ht => ?_⟩
    · refine Ev.step (f := fun k => (spec_l7Cut.f k w).bind fun bt586 => ((spec_l7Page.f k bt586.1).bind fun bt589 => (if bt586.2.2 = true then ((spec_l7Page.f k bt586.2.1).bind fun bt593 => (spec_ParsePages.j4 k s out (e : Int) bt589.2.2 bt593.2.2 bt589.1 bt589.2.1 bt593.2.1)) else (spec_ParsePages.j4 k s out (e : Int) bt589.2.2 true bt589.1 bt589.2.1 bt589.2.1)))) (fun k => ?_) (Ev.bind ec (Ev.bind eP (Ev.congr (fun _ => if_pos rfl) (Ev.bind eQ h))))
      simp only [spec_ParsePages.j3]
      rw [if_pos (by omega), if_pos (by omega), if_pos (by omega), Int.toNat_natCast, Int.toNat_natCast, ← hws]
    · obtain ⟨a, b, c⟩ := hP q hq ht
      obtain ⟨_, _, d, _⟩ := read_word w A B true hcut q hq ht
      have d := d rfl
      obtain ⟨ql, b1, b2, b3⟩ := okr_parts q hq
      have hr : rs B = numT q.f2 := by rw [d]; exact (lt_rs_of q.f0 ql q.f2 (by omega)).2
      cases hq2 : Q.2.2 with
      | false => exact absurd hr (q2 hq2 q.f2 (by omega) b3)
      | true =>
        obtain ⟨_, c2, c3, c4⟩ := q1 hq2
        have e := numT_inj Q.2.1 q.f2 (by omega) (by omega) (c4.symm.trans hr)
        refine ⟨a, rfl, ?_⟩
        cases q
        simp only at b c e
        rw [b, c, e]
theorem comma (s : ByteArray) (hs : s.size ≤ 1048576) (out : List Sp) (frm : Nat) : ∀ (d i : Nat), i + d = s.size → frm ≤ i → (∀ j, frm ≤ j → j < i → s.data.toList[j]? ≠ some 44) →
    ∃ e, i ≤ e ∧ e ≤ s.size ∧ (∀ j, frm ≤ j → j < e → s.data.toList[j]? ≠ some 44) ∧ (e = s.size ∨ s.data.toList[e]? = some 44) ∧ ∀ R, Ev (fun k => spec_ParsePages.j3 k s out (frm : Int) (e : Int)) R → Ev (fun k => spec_ParsePages.l1 k s out (frm : Int) (i : Int)) R
  | 0, i, hi, hf, hn => by
    refine ⟨i, Nat.le_refl _, by omega, hn, .inl (by omega), fun R h => Ev.step (fun k => ?_) h⟩
    simp only [spec_ParsePages.l1]
    rw [if_neg (by omega)]
  | d + 1, i, hi, hf, hn => by
    by_cases c : s.data.toList[i]? = some 44
    · obtain ⟨h1, h2⟩ := bt_at s i 44 c
      have h2 : bt s (i : Int) = 44 := h2
      refine ⟨i, Nat.le_refl _, by omega, hn, .inr c, fun R h => Ev.step (fun k => ?_) h⟩
      simp only [spec_ParsePages.l1]
      rw [if_pos (by omega), if_pos (by omega), if_pos h2]
    · have h2 : bt s (i : Int) ≠ 44 := bt_ne s i 44 (by omega) c
      obtain ⟨e, a, b, x, y, z⟩ := comma s hs out frm d (i + 1) (by omega) (by omega) (fun j h1 hj => by
        by_cases hji : j = i
        · rw [hji]; exact c
        · exact hn j h1 (by omega))
      refine ⟨e, by omega, b, x, y, fun R h => Ev.step (fun k => ?_) (z R h)⟩
      simp only [spec_ParsePages.l1]
      rw [if_pos (by omega), if_pos (by omega), if_neg h2, wrap_small (by omega) (by omega)]
      rfl
theorem at_word (s : ByteArray) (frm e : Nat) (h1 : frm ≤ e) (h2 : e ≤ s.size) (hn : ∀ j, frm ≤ j → j < e → s.data.toList[j]? ≠ some 44) (he : e = s.size ∨ s.data.toList[e]? = some 44) (q : Sp) (rest : List Sp) (hq : okr q = true) (hd : s.data.toList.drop frm = jn (bl (q :: rest))) :
    tx q = s.extract frm e ∧ (rest = [] → e = s.size) ∧ (rest ≠ [] → e < s.size ∧ s.data.toList.drop (e + 2) = jn (bl rest)) := by
  have hw : (s.extract frm e).data.toList = (s.data.toList.drop frm).take (e - frm) := ex_list _ _ _
  have hno : ∀ b ∈ (s.data.toList.drop frm).take (e - frm), b ≠ 44 := fun b hb hb2 => by
    subst hb2
    obtain ⟨j, hj⟩ := List.getElem?_of_mem hb
    obtain ⟨j1, j2⟩ := List.getElem?_eq_some_iff.1 hj
    rw [List.length_take, List.length_drop] at j1
    rw [List.getElem_take, List.getElem_drop] at j2
    exact hn (frm + j) (by omega) (by omega) (List.getElem?_eq_some_iff.2 ⟨by omega, j2⟩)
  have hcut : e < s.size → s.data.toList.drop frm = (s.data.toList.drop frm).take (e - frm) ++ 44 :: s.data.toList.drop (e + 1) := fun hlt => by
    have h44 : s.data.toList[e]? = some 44 := by
      rcases he with h | h
      · omega
      · exact h
    obtain ⟨k1, k2⟩ := List.getElem?_eq_some_iff.1 h44
    have : s.data.toList.drop e = 44 :: s.data.toList.drop (e + 1) := by rw [← k2, List.getElem_cons_drop]
    rw [← this, show s.data.toList.drop e = (s.data.toList.drop frm).drop (e - frm) from by rw [List.drop_drop]; congr 1; omega, List.take_append_drop]
  cases rest with
  | nil =>
    rw [jn_one] at hd
    have hend : e = s.size := Classical.byContradiction fun c => by
      have := hcut (by omega)
      have h44 : (44 : UInt8) ∈ (tx q).data.toList := by rw [← hd, this]; simp
      exact tx_noc q hq 44 h44 rfl
    refine ⟨ext_list _ _ ?_, fun _ => hend, fun h => absurd rfl h⟩
    rw [hw, hd, List.take_of_length_le]
    rw [← hd, List.length_drop, data_length]
    omega
  | cons r l =>
    rw [jn_cons] at hd
    have hlt : e < s.size := Classical.byContradiction fun c => by
      have h44 : (44 : UInt8) ∈ s.data.toList.drop frm := by rw [hd]; simp
      have : (s.data.toList.drop frm).take (e - frm) = s.data.toList.drop frm := List.take_of_length_le (by rw [List.length_drop, data_length]; omega)
      rw [← this] at h44
      exact hno 44 h44 rfl
    obtain ⟨u1, u2⟩ := split_uniq (tx_noc q hq) hno (hd.symm.trans (hcut hlt))
    refine ⟨ext_list _ _ (by rw [hw, u1]), fun h => (by cases h), fun _ => ⟨hlt, ?_⟩⟩
    have : s.data.toList.drop (e + 2) = (s.data.toList.drop (e + 1)).drop 1 := by rw [List.drop_drop]
    rw [this, ← u2]
    rfl
theorem spec_loop (s : ByteArray) (hs : s.size ≤ 120) : ∀ (fuel frm : Nat) (out : List Sp), s.size + 3 ≤ frm + fuel → frm ≤ s.size + 2 → out.length ≤ 9 →
    ∃ R, Ev (fun k => spec_ParsePages.l0 k s out (frm : Int)) R ∧ GoodR s R ∧ (∀ L0, okl L0 = true → LT L0 = s → ∀ i, i < L0.length → out = L0.take i → s.data.toList.drop frm = jn (bl (L0.drop i)) → R = (L0, true))
  | 0, frm, out, hfu, hf, ho => by omega
  | fuel + 1, frm, out, hfu, hf, ho => by
    by_cases c : frm ≤ s.size ∧ out.length ≤ 8
    · obtain ⟨e, e1, e2, e3, e4, e5⟩ := comma s (by omega) out frm (s.size - frm) frm (by omega) (Nat.le_refl _) (fun j h1 h2 => by omega)
      obtain ⟨r, one, two, w1, w2⟩ := spec_word (s.extract frm e) (by rw [ByteArray.size_extract]; omega)
      have go : ∀ R, Ev (fun k => spec_ParsePages.j5 k s out (e : Int) (!(one && two)) r.f0 r.f1 r.f2) R → Ev (fun k => spec_ParsePages.l0 k s out (frm : Int)) R := fun R h => by
        have h4 : Ev (fun k => spec_ParsePages.j4 k s out (e : Int) one two r.f0 r.f1 r.f2) R := by
          refine Ev.step (fun k => ?_) h
          simp only [spec_ParsePages.j4]
          cases one
          · rw [if_neg (by decide)]; rfl
          · rw [if_pos rfl]; rfl
        have h1 := e5 R (w1 s out frm e R rfl e1 e2 h4)
        refine Ev.step (fun k => ?_) (Ev.step (f := fun k => spec_ParsePages.l1 k s out (frm : Int) (frm : Int)) (g := fun k => spec_ParsePages.j1 k s out (frm : Int) true) (fun k => ?_) h1)
        · simp only [spec_ParsePages.l0]
          rw [if_pos (by omega), decide_eq_true (by omega : (out.length : Int) ≤ 8)]
        · simp only [spec_ParsePages.j1]
          rw [if_pos trivial]
      cases hot : (one && two) with
      | false =>
        refine ⟨([], false), go _ (Ev.step (f := fun _ => some ([], false)) (fun k => ?_) (Ev.now _)), .inr rfl, fun L0 ho0 hl0 i hi hout hd => ?_⟩
        · simp only [spec_ParsePages.j5, hot]
          rw [if_pos (by decide)]
        · exfalso
          obtain ⟨hok, _, _⟩ := okl_parts L0 ho0
          rw [List.drop_eq_getElem_cons hi] at hd
          have hq := hok _ (List.getElem_mem hi)
          obtain ⟨a, _, _⟩ := at_word s frm e e1 e2 e3 e4 _ _ hq hd
          obtain ⟨b1, b2, _⟩ := w2 _ hq a
          rw [b1, b2] at hot
          cases hot
      | true =>
        have here : ∀ L0 i, okl L0 = true → (hi : i < L0.length) → s.data.toList.drop frm = jn (bl (L0.drop i)) → r = L0[i] ∧ (L0.drop (i + 1) = [] → e = s.size) ∧ (L0.drop (i + 1) ≠ [] → e < s.size ∧ s.data.toList.drop (e + 2) = jn (bl (L0.drop (i + 1)))) := fun L0 i ho0 hi hd => by
          obtain ⟨hok, _, _⟩ := okl_parts L0 ho0
          rw [List.drop_eq_getElem_cons hi] at hd
          have hq := hok _ (List.getElem_mem hi)
          obtain ⟨a, b, c⟩ := at_word s frm e e1 e2 e3 e4 _ _ hq hd
          exact ⟨(w2 _ hq a).2.2, b, c⟩
        by_cases ce : e = s.size
        · obtain ⟨R, f1, f2, f3⟩ := spec_end s (out ++ [r]) (by rw [List.length_append, List.length_cons, List.length_nil]; omega)
          refine ⟨R, go R (Ev.step (fun k => ?_) f1), f2, fun L0 ho0 hl0 i hi hout hd => ?_⟩
          · simp only [spec_ParsePages.j5, hot]
            rw [if_neg (by decide), if_pos (by omega), Option.bind_some, if_pos (by omega)]
          · obtain ⟨a, b, c2⟩ := here L0 i ho0 hi hd
            have hlast : L0.drop (i + 1) = [] := Classical.byContradiction fun h => by have := (c2 h).1; omega
            have : out ++ [r] = L0 := by
              rw [hout, a]
              have h2 := List.take_append_drop (i + 1) L0
              rw [hlast, List.append_nil, List.take_succ_eq_append_getElem hi] at h2
              exact h2
            have := f3 (by rw [this]; exact ho0) (by rw [this]; exact hl0)
            rw [this]
            congr 1
        · obtain ⟨R, f1, f2, f3⟩ := spec_loop s hs fuel (e + 2) (out ++ [r]) (by omega) (by omega) (by rw [List.length_append, List.length_cons, List.length_nil]; omega)
          refine ⟨R, go R (Ev.step (fun k => ?_) f1), f2, fun L0 ho0 hl0 i hi hout hd => ?_⟩
          · simp only [spec_ParsePages.j5, hot]
            rw [if_neg (by decide), if_pos (by omega), Option.bind_some, if_neg (by omega), wrap_small (by omega) (by omega)]
            rfl
          · obtain ⟨a, b, c2⟩ := here L0 i ho0 hi hd
            have hmore : L0.drop (i + 1) ≠ [] := fun h => ce (b h)
            refine f3 L0 ho0 hl0 (i + 1) ?_ ?_ (c2 hmore).2
            · have := List.length_pos_iff.2 hmore
              rw [List.length_drop] at this
              omega
            · rw [hout, a, List.take_succ_eq_append_getElem hi]
    · obtain ⟨R, f1, f2, f3⟩ := spec_end s out ho
      refine ⟨R, Ev.step (f := fun k => spec_ParsePages.j1 k s out (frm : Int) false) (fun k => ?_) (Ev.step (fun k => ?_) f1), f2, fun L0 ho0 hl0 i hi hout hd => ?_⟩
      · simp only [spec_ParsePages.l0]
        by_cases c1 : (frm : Int) ≤ (s.size : Int)
        · rw [if_pos c1, decide_eq_false (by omega)]
        · rw [if_neg c1]
      · simp only [spec_ParsePages.j1]
        rw [if_neg (by decide)]
      · exfalso
        obtain ⟨_, _, h8⟩ := okl_parts L0 ho0
        have : out.length ≤ 8 := by rw [hout, List.length_take]; omega
        have hlen := congrArg List.length hd
        rw [List.length_drop, data_length, List.drop_eq_getElem_cons hi] at hlen
        have hp := tx_pos L0[i]
        rw [← data_length] at hp
        have : (jn (bl (L0[i] :: L0.drop (i + 1)))).length ≥ (tx L0[i]).data.toList.length := by
          cases L0.drop (i + 1) with
          | nil => rw [jn_one]; omega
          | cons x y => rw [jn_cons, List.length_append]; omega
        omega
theorem LT_list (L : List Sp) : (LT L).data.toList = jn (bl L) := by unfold LT; rw [list_k]
theorem spec_parse (s : ByteArray) : ∃ R, Ev (fun k => spec_ParsePages.f k s) R ∧ GoodR s R ∧ (∀ L0, okl L0 = true → LT L0 = s → R = (L0, true)) := by
  unfold spec_ParsePages.f
  simp only [Option.bind_some]
  by_cases c : (s.size : Int) > 120
  · refine ⟨([], false), Ev.congr (fun _ => if_pos c) (Ev.now _), .inr rfl, fun L0 ho hl => ?_⟩
    exfalso
    have h5 : ∀ L : List Sp, (∀ x ∈ L, okr x = true) → (jn (bl L)).length ≤ 15 * L.length := fun L => by
      induction L with
      | nil => intro _; exact Nat.le_refl _
      | cons q l ih =>
        intro hx
        obtain ⟨ql, q1, q2, q3⟩ := okr_parts q (hx q (by simp))
        have n1 := num_le5 q.f1 (by omega) (by omega)
        have n2 := num_le5 q.f2 (by omega) (by omega)
        have l1 := (fit_of q (hx q (by simp))).a
        have ht : (tx q).data.toList.length ≤ 13 := by
          rw [data_length]
          unfold tx rText
          split <;> simp only [ByteArray.size_append, dash] <;> omega
        cases l with
        | nil => rw [jn_one, List.length_cons, List.length_nil]; omega
        | cons r l =>
          have := ih (fun x h => hx x (List.mem_cons_of_mem _ h))
          rw [jn_cons, List.length_append, List.length_cons, List.length_cons, List.length_cons (a := q)]
          omega
    obtain ⟨hok, _, h8⟩ := okl_parts L0 ho
    have := h5 L0 hok
    rw [← LT_list, hl, data_length] at this
    omega
  · obtain ⟨R, e, g, f⟩ := spec_loop s (by omega) (s.size + 3) 0 [] (by omega) (by omega) (by simp)
    refine ⟨R, Ev.congr (fun _ => if_neg c) e, g, fun L0 ho hl => f L0 ho hl 0 (by have := okl_parts L0 ho; omega) (by simp) ?_⟩
    rw [List.drop_zero, List.drop_zero, ← LT_list, hl]
def sepB : ByteArray := ⟨#[44, 32]⟩
theorem split_join : ∀ (k : Nat) (s : ByteArray), Lib.splitB sepB 0 k s ≠ [] ∧ jn ((Lib.splitB sepB 0 k s).map (fun x => x.data.toList)) = s.data.toList
  | 0, s => ⟨by rw [Lib.splitB_zero]; simp, by rw [Lib.splitB_zero]; exact Lib.join_one _ _⟩
  | k + 1, s => by
    rcases Lib.index_spec s.data.toList sepB.data.toList with ⟨h, _⟩ | ⟨i, h, hi, ho, _⟩
    · rw [Lib.splitB_miss sepB 0 (k + 1) s h]
      exact ⟨by simp, Lib.join_one _ _⟩
    · rw [Lib.splitB_hit sepB 0 k s i h]
      obtain ⟨h1, h2⟩ := split_join k (s.extract (i + sepB.size) s.size)
      refine ⟨by simp, ?_⟩
      obtain ⟨x, r, hx⟩ : ∃ x r, Lib.splitB sepB 0 k (s.extract (i + sepB.size) s.size) = x :: r := by
        cases hh : Lib.splitB sepB 0 k (s.extract (i + sepB.size) s.size) with
        | nil => exact absurd hh h1
        | cons x r => exact ⟨x, r, rfl⟩
      rw [hx] at h2 ⊢
      have e1 : jn ((s.extract 0 (i + 0) :: x :: r).map (fun x => x.data.toList)) = (s.extract 0 (i + 0)).data.toList ++ [44, 32] ++ jn ((x :: r).map (fun x => x.data.toList)) := by
        unfold jn
        rw [List.map_cons, List.map_cons, Lib.join_cons, Lib.join_cons]
        simp [Lib.joinTail]
      rw [e1, h2, ex_all, ex_take]
      unfold Lib.occAt at ho
      obtain ⟨t, ht⟩ := List.isPrefixOf_iff_prefix.1 ho
      have hz : sepB.size = 2 := rfl
      have e2 : s.data.toList.drop (i + sepB.size) = t := by
        have : s.data.toList.drop (i + 2) = (s.data.toList.drop i).drop 2 := by rw [List.drop_drop]
        rw [hz, this, ← ht]
        rfl
      rw [e2, Nat.add_zero]
      have e3 := List.take_append_drop i s.data.toList
      rw [← ht] at e3
      rw [List.append_assoc]
      exact e3
theorem split_words : ∀ (L : List Sp) (s : ByteArray), L ≠ [] → (∀ x ∈ L, okr x = true) → s.data.toList = jn (bl L) → Lib.splitB sepB 0 (Lib.countB s sepB) s = L.map tx
  | [], s, h, _, _ => absurd rfl h
  | [q], s, _, ho, hs => by
    rw [jn_one] at hs
    have e : s = tx q := ext_list _ _ hs
    have hm : Lib.indexB s sepB = -1 := by
      rcases Lib.index_spec s.data.toList sepB.data.toList with ⟨h, _⟩ | ⟨i, h, hi, hoc, _⟩
      · exact h
      · exfalso
        unfold Lib.occAt at hoc
        obtain ⟨t, ht⟩ := List.isPrefixOf_iff_prefix.1 hoc
        have : (44 : UInt8) ∈ s.data.toList := List.mem_of_mem_drop (i := i) (by rw [← ht]; show (44 : UInt8) ∈ [44, 32] ++ t; simp)
        rw [e] at this
        exact tx_noc q (ho q (by simp)) 44 this rfl
    rw [Lib.splitB_miss sepB 0 _ s hm, e]
    rfl
  | q :: r :: l, s, _, ho, hs => by
    rw [jn_cons] at hs
    have hz : sepB.size = 2 := rfl
    have hnoc := tx_noc q (ho q (by simp))
    have hlen : (tx q).data.toList.length ≤ s.data.toList.length := by rw [hs, List.length_append]; omega
    have hm : Lib.indexB s sepB = ((tx q).data.toList.length : Nat) := by
      refine Lib.index_first hlen ?_ (fun j hj => ?_)
      · unfold Lib.occAt
        rw [hs, List.drop_left]
        exact List.isPrefixOf_iff_prefix.2 ⟨jn (bl (r :: l)), rfl⟩
      · apply Bool.eq_false_iff.2
        intro hc
        unfold Lib.occAt at hc
        obtain ⟨t, ht⟩ := List.isPrefixOf_iff_prefix.1 hc
        have h44 : (s.data.toList.drop j)[0]? = some 44 := by rw [← ht]; rfl
        rw [List.getElem?_drop, hs, List.getElem?_append_left (by omega)] at h44
        exact hnoc 44 (List.mem_of_getElem? h44) rfl
    rw [Lib.countB_hit s sepB _ (by rw [hz]; omega) hm, Nat.add_comm 1, Lib.splitB_hit sepB 0 _ s _ hm, List.map_cons]
    have hd : (s.extract ((tx q).data.toList.length + sepB.size) s.size).data.toList = jn (bl (r :: l)) := by
      rw [ex_all, hs, hz, ← List.drop_drop, List.drop_left]
      rfl
    rw [split_words (r :: l) _ (by simp) (fun x hx => ho x (List.mem_cons_of_mem _ hx)) hd]
    congr 1
    exact ext_list _ _ (by rw [ex_take, hs, Nat.add_zero, List.take_left])
theorem impl_loop (words : List ByteArray) (hw : ∀ w ∈ words, w.size ≤ 1048576) (hn : words.length ≤ 1048576) : ∀ (d i : Nat) (out : List Sp), i + d = words.length → out.length = i → i ≤ 8 → (∀ x ∈ out, okr x = true) → out.map tx = words.take i →
    ∃ R, Ev (fun k => impl_ParsePages.l0 k out words (words.length : Int) (i : Int)) R ∧ ((∃ L : List Sp, (∀ x ∈ L, okr x = true) ∧ L.length ≤ 8 ∧ L.map tx = words ∧ R = (L, true)) ∨ R = ([], false)) ∧ (∀ L0 : List Sp, (∀ x ∈ L0, okr x = true) → L0.length ≤ 8 → L0.map tx = words → out = L0.take i → R = (L0, true))
  | 0, i, out, hi, ho, h8, hok, hm => by
    refine ⟨(out, true), Ev.step (f := fun _ => some (out, true)) (fun k => ?_) (Ev.now _), .inl ⟨out, hok, by omega, by rw [hm, List.take_of_length_le (by omega)], rfl⟩, fun L0 _ _ hL ht => ?_⟩
    · simp only [impl_ParsePages.l0]
      rw [if_neg (by omega)]
    · have : L0.length = words.length := by rw [← hL, List.length_map]
      rw [ht, List.take_of_length_le (by omega)]
  | d + 1, i, out, hi, ho, h8, hok, hm => by
    have hlt : i < words.length := by omega
    have hrd : rdOf ByteArray.empty words (i : Int) = words[i] := by
      unfold rdOf
      rw [Int.toNat_natCast, List.getD_eq_getElem?_getD, List.getElem?_eq_getElem hlt]
      rfl
    obtain ⟨r, ok, e, t1, t2⟩ := parse_range words[i] (hw _ (List.getElem_mem hlt))
    have step : ∀ R, Ev (fun k => if ok = true then (if (out.length : Int) = 8 then (some (([] : List Sp), false)) else (if out.length < 4398046511104 then (impl_ParsePages.l0 k (out ++ [r]) words (words.length : Int) (wrap64 ((i : Int) + 1))) else (none))) else (some (([] : List Sp), false))) R → Ev (fun k => impl_ParsePages.l0 k out words (words.length : Int) (i : Int)) R := fun R h => by
      refine Ev.step (f := fun k => (impl_parseRange.f k words[i]).bind fun bt617 => (if bt617.2.2.2 = true then (if (out.length : Int) = 8 then (some (([] : List Sp), false)) else (if out.length < 4398046511104 then (impl_ParsePages.l0 k (out ++ [(⟨bt617.1, bt617.2.1, bt617.2.2.1⟩ : Sp)]) words (words.length : Int) (wrap64 ((i : Int) + 1))) else (none))) else (some (([] : List Sp), false)))) (fun k => ?_) (Ev.bind e h)
      simp only [impl_ParsePages.l0]
      rw [if_pos (by omega), if_pos (by omega), if_pos (by omega), hrd]
    have nth : ∀ L0 : List Sp, L0.map tx = words → ∃ h : i < L0.length, tx L0[i] = words[i] := fun L0 h => by
      have hl : L0.length = words.length := by rw [← h, List.length_map]
      refine ⟨by omega, ?_⟩
      have : (L0.map tx)[i]'(by rw [List.length_map]; omega) = words[i] := by simp only [h]
      rw [← this, List.getElem_map]
    cases ok with
    | false =>
      refine ⟨([], false), step _ (Ev.congr (fun _ => if_neg (by decide)) (Ev.now _)), .inr rfl, fun L0 h0 h1 hL _ => ?_⟩
      obtain ⟨h, ht⟩ := nth L0 hL
      exact absurd ht ((t2 rfl).2 _ (h0 _ (List.getElem_mem h)))
    | true =>
      obtain ⟨hr, hrt⟩ := t1 rfl
      by_cases c : i = 8
      · refine ⟨([], false), step _ (Ev.congr (fun _ => if_pos rfl) (Ev.congr (fun _ => if_pos (by omega)) (Ev.now _))), .inr rfl, fun L0 h0 h1 hL _ => ?_⟩
        obtain ⟨h, _⟩ := nth L0 hL
        omega
      · obtain ⟨R, e2, g2, f2⟩ := impl_loop words hw hn d (i + 1) (out ++ [r]) (by omega) (by rw [List.length_append, List.length_cons, List.length_nil]; omega) (by omega) (fun x hx => by
          rcases List.mem_append.1 hx with hx | hx
          · exact hok x hx
          · rw [List.mem_singleton] at hx
            subst hx
            exact hr) (by rw [List.map_append, hm, List.map_cons, List.map_nil, hrt, List.take_succ_eq_append_getElem hlt])
        refine ⟨R, step R (Ev.congr (fun _ => if_pos rfl) (Ev.congr (fun _ => if_neg (by omega)) (Ev.congr (fun _ => if_pos (by omega)) ?_))), g2, fun L0 h0 h1 hL ht => f2 L0 h0 h1 hL ?_⟩
        · rw [wrap_small (by omega) (by omega)]
          exact e2
        · obtain ⟨h, hti⟩ := nth L0 hL
          have : r = L0[i] := tx_inj _ _ hr (h0 _ (List.getElem_mem h)) (hrt.trans hti.symm) (by rw [hti]; exact hw _ (List.getElem_mem hlt))
          rw [ht, this, List.take_succ_eq_append_getElem h]
theorem impl_parse (s : ByteArray) : ∃ R, Ev (fun k => impl_ParsePages.f k s) R ∧ GoodR s R ∧ (∀ L0, okl L0 = true → LT L0 = s → R = (L0, true)) := by
  unfold impl_ParsePages.f
  by_cases c : (s.size : Int) > 200
  · refine ⟨([], false), Ev.congr (fun _ => if_pos c) (Ev.now _), .inr rfl, fun L0 ho hl => ?_⟩
    obtain ⟨R, _, g, f⟩ := spec_parse s
    exfalso
    have hz := (list_spec L0 ho).1
    have := spec_list L0 (okl_parts L0 ho).1 (okl_parts L0 ho).2.2 L0.length 0 ⟨#[]⟩ (by omega) rfl (by show 0 ≤ _; omega)
    have h5 : (LT L0).size ≤ 120 := by
      have e := f L0 ho hl
      apply Classical.byContradiction
      intro hc
      unfold spec_ParsePages.f at *
      simp only [Option.bind_some] at *
      rename_i hR
      obtain ⟨K, hK⟩ := hR
      have := hK K (Nat.le_refl _)
      simp only at this
      rw [if_pos (by rw [← hl]; omega), e] at this
      cases this
    rw [hl] at h5
    omega
  · have hw : ∀ (k : Nat) (s : ByteArray), s.size ≤ 200 → ∀ w ∈ Lib.splitB sepB 0 k s, w.size ≤ 1048576 := fun k => by
      induction k with
      | zero => intro s h w hm; rw [Lib.splitB_zero, List.mem_singleton] at hm; subst hm; omega
      | succ k ih =>
        intro s h w hm
        rcases Lib.index_spec s.data.toList sepB.data.toList with ⟨hi, _⟩ | ⟨i, hi, _, _, _⟩
        · rw [Lib.splitB_miss sepB 0 (k + 1) s hi, List.mem_singleton] at hm; subst hm; omega
        · rw [Lib.splitB_hit sepB 0 k s i hi] at hm
          rcases List.mem_cons.1 hm with rfl | hm
          · rw [ByteArray.size_extract]; omega
          · exact ih _ (by rw [ByteArray.size_extract]; omega) w hm
    have hcount := Lib.countB_le sepB (by show 1 ≤ 2; omega) s.size s (Nat.le_refl _)
    have hlen := Lib.splitB_length_le sepB 0 (Lib.countB s sepB) s
    have hsp : strings_Split.f s (⟨#[44, 32]⟩ : ByteArray) = some (Lib.splitB sepB 0 (Lib.countB s sepB) s) := by
      unfold strings_Split.f strings_Split.parts
      rw [if_pos (by omega), if_pos (by show 1 ≤ 2; omega)]
      rfl
    obtain ⟨R, e, g, f⟩ := impl_loop (Lib.splitB sepB 0 (Lib.countB s sepB) s) (hw _ s (by omega)) (by omega) _ 0 [] (Nat.zero_add _) rfl (by omega) (fun x hx => by cases hx) (by simp)
    obtain ⟨j1, j2⟩ := split_join (Lib.countB s sepB) s
    refine ⟨R, Ev.congr (fun _ => if_neg c) ?_, ?_, fun L0 ho hl => ?_⟩
    · rw [hsp]
      exact e
    · rcases g with ⟨L, h1, h2, h3, rfl⟩ | h
      · refine .inl ⟨L, ?_, ?_, rfl⟩
        · unfold okl inN
          have : 1 ≤ L.length := by
            cases L with
            | nil => exact absurd h3.symm j1
            | cons x y => simp
          rw [List.all_eq_true.2 h1, decide_eq_true this, decide_eq_true h2]
          rfl
        · apply ext_list
          rw [LT_list, ← j2, ← h3, List.map_map]
          rfl
      · exact .inr h
    · obtain ⟨hok, h1, h8⟩ := okl_parts L0 ho
      refine f L0 hok h8 ?_ (by simp)
      rw [split_words L0 s (by intro h; rw [h] at h1; simp at h1) hok (by rw [← hl, LT_list])]

end Go.Proofs.YtmemcncbkgcbeaaGreatDoor.Pure
