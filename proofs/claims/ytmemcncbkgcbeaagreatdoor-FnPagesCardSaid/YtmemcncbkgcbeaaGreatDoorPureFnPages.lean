/- The law FnPages, as a statement over numbers and lists: the program's function and the reference's answer alike, for every input; no further condition. -/
import Derived.Test.YtmemcncbkgcbeaaGreatDoorPx1
import Derived.Test.YtmemcncbkgcbeaaGreatDoorPx10
import Derived.Test.YtmemcncbkgcbeaaGreatDoorPx3
import Derived.Test.YtmemcncbkgcbeaaGreatDoorPx4
import Derived.Test.YtmemcncbkgcbeaaGreatDoorPx5
import Derived.Test.YtmemcncbkgcbeaaGreatDoorPx6
import Derived.Test.YtmemcncbkgcbeaaGreatDoorPx7
import Derived.Test.YtmemcncbkgcbeaaGreatDoorPx8
import Derived.Test.YtmemcncbkgcbeaaGreatDoorPx9
import Derived.Test.YtmemcncbkgcbeaaGreatDoorQDraw
import Derived.Test.YtmemcncbkgcbeaaGreatDoorQPars
namespace Go.Proofs.YtmemcncbkgcbeaaGreatDoor.Pure
open Go.RowKit Go.Proofs.YtmemcncbkgcbeaaGreatDoor.Px Go.Proofs.YtmemcncbkgcbeaaGreatDoorW.PrintWords Go.Proofs.YtmemcncbkgcbeaaGreatDoorW.PrintLast
set_option linter.unusedVariables false
set_option linter.unusedSimpArgs false

def inS (st : Int) : Bool := decide (1 ≤ st) && decide (st ≤ 3)
theorem l1In_style (st : Int) : spec_l1In.f st 1 3 = some (inS st) := by
  unfold spec_l1In.f inS
  by_cases c : 1 ≤ st
  · rw [if_pos (by omega), decide_eq_true c]
    rfl
  · rw [if_neg (by omega), decide_eq_false c]
    rfl
theorem isStyle (st : Int) : impl_isRangeStyle.f st = some (inS st) := by
  unfold impl_isRangeStyle.f impl_inside.f inS
  by_cases c : 1 ≤ st
  · rw [if_pos (by omega), decide_eq_true c]
    rfl
  · rw [if_neg (by omega), decide_eq_false c]
    rfl
theorem ev_uniq {α : Type} {g : Nat → Option α} {a b : α} (h1 : Ev g a) (h2 : Ev g b) : a = b := by
  obtain ⟨K1, h1⟩ := h1
  obtain ⟨K2, h2⟩ := h2
  exact Option.some.inj ((h1 (max K1 K2) (by omega)).symm.trans (h2 (max K1 K2) (by omega)))
theorem rRanges_l0 (l : List Sp) (hl : l.length ≤ 1048576) : ∀ (d i : Nat), i + d = l.length → Ev (fun k => laws_rRanges.l0 k l l (i : Int)) true
  | 0, i, hi => by
    refine Ev.step (f := fun _ => some true) (fun k => ?_) (Ev.now _)
    simp only [laws_rRanges.l0]
    rw [if_neg (by omega)]
  | d + 1, i, hi => by
    have hw : wrap64 ((i : Int) + 1) = ((i + 1 : Nat) : Int) := by rw [wrap_small (by omega) (by omega)]; rfl
    refine Ev.step (fun k => ?_) (rRanges_l0 l hl d (i + 1) (by omega))
    simp only [laws_rRanges.l0, hw]
    simp [show (i : Int) < (l.length : Int) from by omega, show (0 : Int) ≤ (i : Int) from by omega]
theorem rRanges_ev (l : List Sp) (hl : l.length ≤ 1048576) : Ev (fun k => laws_rRanges.f k l l) true := by
  unfold laws_rRanges.f
  exact Ev.congr (fun _ => if_pos rfl) (rRanges_l0 l hl l.length 0 (by omega))

theorem numT_mono (x y : Int) (h0 : 0 ≤ x) (h1 : x ≤ y) : (numT x).size ≤ (numT y).size := by
  have hp := numT_pos y
  obtain ⟨k, hk⟩ : ∃ k, (numT y).size = k + 1 := ⟨(numT y).size - 1, by omega⟩
  have hv := val_lt _ (num_dig y (by omega))
  rw [data_length, hk] at hv
  have ev := val_num y (by omega)
  have hx : x.toNat < 10 ^ (k + 1) := by
    have : x.toNat ≤ valD (numT y).data.toList := by omega
    omega
  have := nd_le k x.toNat hx
  rw [hk, numT_size, show x = ((x.toNat : Nat) : Int) from by omega, Lib.itoa_nonneg, Lib.decDigits_length]
  exact this
theorem trim_dig (B L : ByteArray) (hL : letter L = true) (hB : ∀ b ∈ B.data.toList, Dig b) : trim B L = B := by
  unfold trim
  rw [if_neg]
  rintro ⟨q1, q2, q3⟩
  rcases letter_parts _ hL with z | ⟨_, z1, z2⟩
  · omega
  · exact dig_no B hB ⟨q2, by omega, by omega⟩
theorem widen_cut (x y i : Int) (h : Agree x y i) : widen (numT x) ((numT y).extract i.toNat (numT y).size) = numT y := by
  obtain ⟨h0, h1, h2, h3⟩ := h
  have hz : ((numT y).extract i.toNat (numT y).size).size = (numT y).size - i.toNat := by rw [ByteArray.size_extract]; omega
  unfold widen
  by_cases c : i = 0
  · subst c
    rw [if_neg (by rw [hz]; omega)]
    apply ext_list
    rw [ex_all]
    rfl
  · rw [if_pos (by rw [hz]; omega)]
    apply ext_list
    rw [app_list, ex_take, ex_all, hz, show (numT x).size - ((numT y).size - i.toNat) = i.toNat from by omega]
    have e : (numT x).data.toList.take i.toNat = (numT y).data.toList.take i.toNat := by
      apply List.ext_getElem (by rw [List.length_take, List.length_take, data_length, data_length, h2])
      intro j j1 j2
      rw [List.length_take, data_length] at j1 j2
      rw [List.getElem_take, List.getElem_take]
      have q := h3 j (by omega)
      rw [bt_nat _ j (by omega), bt_nat _ j (by omega)] at q
      exact UInt8.toNat_inj.1 (by omega)
    rw [e, List.take_append_drop]
theorem expand_back (x : Sp) (hx : okr x = true) (st : Int) (s1 : 1 ≤ st) (s3 : st ≤ 3) (h : Fit x.f0 x.f1 x.f2) : Ev (fun k => impl_ExpandRange.f k (collT x.f0 x.f1 x.f2 st h)) (x.f0, x.f1, x.f2, true) := by
  obtain ⟨xl, x1, x2, x3⟩ := okr_parts x hx
  obtain ⟨r, ⟨hr, _⟩, e1, _⟩ := collapse_full x.f0 x.f1 x.f2 st h
  have hs := ev_uniq e1 (collT_spec x.f0 x.f1 x.f2 st h).2.1
  have hst : ∀ L : ByteArray, L = x.f0 → ∃ (st' : Int) (h' : Fit L x.f1 x.f2), 1 ≤ st' ∧ st' ≤ 3 ∧ collT L x.f1 x.f2 st' h' = r := by
    rintro _ rfl
    exact ⟨st, h, s1, s3, hs.symm⟩
  rw [← hs]
  clear hs e1
  have n1 := numT_le x.f1 (by omega) (by omega)
  have n2 := numT_le x.f2 (by omega) (by omega)
  have ha := h.a
  have hsz : r.size ≤ 1048576 := by
    rcases hr with rfl | ⟨i, rfl, _⟩
    · have := rText_size x.f0 x.f1 x.f2 h; omega
    · unfold cutT
      simp only [ByteArray.size_append, dash, ByteArray.size_extract]
      omega
  obtain ⟨A, B, f, _, ei, hc⟩ := cut_both r hsz
  obtain ⟨R, e, hA⟩ := impl_expand r A B f hsz hc ei
  have hd := page_dash x.f0 xl x.f1 (by omega)
  obtain ⟨l1, l2⟩ := lt_rs_of x.f0 xl x.f1 (by omega)
  -- where a hyphen stands behind the first page
  have dashed : ∀ Q : ByteArray, r.data.toList = (x.f0 ++ numT x.f1).data.toList ++ 45 :: Q.data.toList → (f = true ∧ A = x.f0 ++ numT x.f1 ∧ B = Q) := fun Q hq => by
    cases f with
    | false =>
      obtain ⟨_, _, c⟩ := hc.no rfl
      exact absurd rfl (c 45 (by rw [hq]; simp))
    | true =>
      obtain ⟨c1, c2⟩ := hc.yes rfl
      obtain ⟨u1, u2⟩ := split_uniq c2 hd (c1.symm.trans hq)
      exact ⟨rfl, ext_list _ _ u1, ext_list _ _ u2⟩
  have key : lt A = x.f0 ∧ Exp r A B f x.f1 x.f2 := by
    rcases hr with hr | ⟨i, hr, hi⟩
    · by_cases c : x.f2 > x.f1
      · obtain ⟨rfl, rfl, rfl⟩ := dashed (x.f0 ++ numT x.f2) (by
          rw [hr]
          unfold rText
          rw [if_pos c]
          simp only [app_list]
          simp)
        refine ⟨l1, ⟨x1, x2, x3, l2, fun h => (by cases h), fun _ => ?_, fun _ => hst _ l1⟩⟩
        rw [l1, l2, trim_self _ _ xl (num_dig x.f2 (by omega))]
        unfold widen
        have := numT_mono x.f1 x.f2 (by omega) x2
        rw [if_neg (by omega)]
      · have hr' : r = x.f0 ++ numT x.f1 := by
          rw [hr]
          unfold rText
          rw [if_neg c]
        cases f with
        | true =>
          obtain ⟨c1, _⟩ := hc.yes rfl
          exact absurd rfl (hd 45 (by rw [← hr', c1]; simp))
        | false =>
          obtain ⟨rfl, _, _⟩ := hc.no rfl
          rw [hr']
          exact ⟨l1, ⟨x1, x2, x3, l2, fun _ => by omega, fun h => (by cases h), fun h => (by cases h)⟩⟩
    · obtain ⟨rfl, rfl, rfl⟩ := dashed ((numT x.f2).extract i.toNat (numT x.f2).size) (by
        rw [hr]
        unfold cutT
        simp only [app_list]
        simp)
      refine ⟨l1, ⟨x1, x2, x3, l2, fun h => (by cases h), fun _ => ?_, fun _ => hst _ l1⟩⟩
      rw [l1, l2, trim_dig _ _ xl (fun b hb => by
        rw [ex_all] at hb
        exact num_dig x.f2 (by omega) b (List.mem_of_mem_drop hb))]
      exact widen_cut x.f1 x.f2 i hi
  rcases hA with ⟨n, m, E', hR⟩ | ⟨hno, _⟩
  · obtain ⟨q1, q2⟩ := E'.same key.2
    rw [hR, key.1, q1, q2] at e
    exact e
  · exact absurd key.2 (hno _ _)

def fmtR (L : List Sp) : ByteArray × Bool := if okl L = true then (LT L, true) else (⟨#[]⟩, false)
theorem fmtR_2 (L : List Sp) : (fmtR L).2 = okl L := by
  unfold fmtR
  cases okl L <;> rfl
theorem fmt_ev (L : List Sp) (hl : L.length ≤ 1048576) : Ev (fun k => spec_FormatPages.f k L) (fmtR L) ∧ Ev (fun k => impl_FormatPages.f k L) (fmtR L) := by
  unfold spec_FormatPages.f impl_FormatPages.f fmtR
  simp only [implValid_eq, Option.bind_some]
  cases h : okl L with
  | false =>
    have g := good_ev L hl
    rw [h] at g
    exact ⟨Ev.bind g (Ev.congr (fun _ => if_neg (by decide)) (Ev.now _)), Ev.congr (fun _ => if_neg (by decide)) (Ev.now _)⟩
  | true =>
    have g := good_ev L hl
    rw [h] at g
    obtain ⟨_, e1, e2⟩ := list_both L h
    exact ⟨Ev.bind g (Ev.congr (fun _ => if_pos rfl) (Ev.bind e1 (Ev.now _))), Ev.congr (fun _ => if_pos rfl) (Ev.bind e2 (Ev.now _))⟩
theorem Collapse_ok (x : Sp) (st : Int) : ∃ R : ByteArray × Bool, Ev (fun k => spec_CollapseRange.f k x.f0 x.f1 x.f2 st) R ∧ Ev (fun k => impl_CollapseRange.f k x.f0 x.f1 x.f2 st) R ∧ (R.2 = true → Ev (fun k => impl_ExpandRange.f k R.1) (x.f0, x.f1, x.f2, true)) := by
  unfold spec_CollapseRange.f impl_CollapseRange.f
  rw [l7Range_eq, isRange_eq]
  simp only [Option.bind_some, l1In_style, isStyle]
  cases h : okr x with
  | false => exact ⟨_, Ev.congr (fun _ => if_neg (by decide)) (Ev.now _), Ev.congr (fun _ => if_neg (by decide)) (Ev.now _), fun h => by cases h⟩
  | true =>
    cases hst : inS st with
    | false => exact ⟨_, Ev.congr (fun _ => if_pos rfl) (Ev.congr (fun _ => if_neg (by decide)) (Ev.now _)), Ev.congr (fun _ => if_pos rfl) (Ev.congr (fun _ => if_neg (by decide)) (Ev.now _)), fun h => by cases h⟩
    | true =>
      obtain ⟨_, e1, e2⟩ := collT_spec x.f0 x.f1 x.f2 st (fit_of x h)
      unfold inS at hst
      rw [Bool.and_eq_true, decide_eq_true_eq, decide_eq_true_eq] at hst
      exact ⟨(collT x.f0 x.f1 x.f2 st (fit_of x h), true), Ev.congr (fun _ => if_pos rfl) (Ev.congr (fun _ => if_pos rfl) (Ev.bind e1 (Ev.now _))), Ev.congr (fun _ => if_pos rfl) (Ev.congr (fun _ => if_pos rfl) (Ev.bind e2 (Ev.now _))), fun _ => expand_back x h st hst.1 hst.2 (fit_of x h)⟩
theorem drawParse_ev (c : List Int) (hc : dr c) : ∃ t, Ev (fun k => spec_DrawParsePages.f k c) t := by
  obtain ⟨L, a, b, pe, hL, dL, a0, a1⟩ := pages_ev c hc 0 0 (by omega) (by omega)
  obtain ⟨t, ht, e⟩ := listZ L (by omega) dL
  obtain ⟨v, a2, b2, e2, p2, q2⟩ := one_ev c hc a b 4 a0 (by omega) (by omega) (by omega)
  unfold spec_DrawParsePages.f
  cases v with
  | false =>
    refine ⟨t, Ev.bind pe (Ev.bind e ?_)⟩
    rw [e2]
    exact Ev.now _
  | true =>
    obtain ⟨u, a3, b3, e3, _⟩ := spoilt_ev c hc a2 b2 t (⟨#[65, 49, 45, 44, 32, 48]⟩ : ByteArray) p2 (by omega) (by omega) (by decide) (by decide)
    refine ⟨u, Ev.bind pe (Ev.bind e ?_)⟩
    rw [e2]
    simp only [Option.bind_some, if_true, e3]
    exact Ev.now _
theorem drawExpand_ev (c : List Int) (hc : dr c) : ∃ t, t.size ≤ 1048576 ∧ Ev (fun k => spec_DrawExpandRange.f k c) t := by
  obtain ⟨x, y, z, a, b, e, x0, y0, y1, z0, z1, a0, a1⟩ := pageRange_ev c hc 0 0 (by omega) (by omega)
  obtain ⟨v, a2, b2, e2, v0, v1, p2, q2⟩ := pick_ev c hc a b 3 a0 (by omega) (by omega) (by omega)
  obtain ⟨t, ht, et⟩ := collapseZ ⟨x, y, z⟩ ⟨x0, y0, y1, z0, z1⟩ (wrap64 (1 + v))
  obtain ⟨o, a3, b3, e3, p3, q3⟩ := one_ev c hc a2 b2 4 p2 (by omega) (by omega) (by omega)
  unfold spec_DrawExpandRange.f
  rw [e]
  simp only [Option.bind_some, e2]
  cases o with
  | false =>
    refine ⟨t, by omega, Ev.bind et ?_⟩
    rw [e3]
    exact Ev.now _
  | true =>
    obtain ⟨u, a4, b4, e4, hu⟩ := spoilt_ev c hc a3 b3 t (⟨#[65, 49, 45, 48]⟩ : ByteArray) p3 (by omega) (by omega) (by decide) (by decide)
    refine ⟨u, by omega, Ev.bind et ?_⟩
    rw [e3]
    simp only [Option.bind_some, if_true, e4]
    exact Ev.now _
theorem drawCollapse_ev (c : List Int) (hc : dr c) : ∃ x y z st, spec_DrawCollapseRange.f c = some (x, y, z, st) := by
  obtain ⟨x, y, z, a, b, e, _, _, _, _, _, a0, a1⟩ := pageRange_ev c hc 0 0 (by omega) (by omega)
  obtain ⟨v, a2, b2, e2, v0, v1, p2, q2⟩ := pick_ev c hc a b 24 a0 (by omega) (by omega) (by omega)
  have hv : 0 ≤ Int.tdiv v 11 ∧ Int.tdiv v 11 ≤ 2 := by rw [Int.tdiv_eq_ediv_of_nonneg v0]; omega
  have hw : wrap64 (5 + wrap64 (Int.tdiv v 11)) = 5 + Int.tdiv v 11 := by rw [wrap_small (x := Int.tdiv v 11) (by omega) (by omega), wrap_small (by omega) (by omega)]
  have hlen : (([1, 2, 3, 2, 3, 0, 4] : List Int).take (5 + Int.tdiv v 11).toNat).length = (5 + Int.tdiv v 11).toNat := by
    rw [List.length_take]
    show min _ 7 = _
    omega
  obtain ⟨s, a3, b3, e3, _⟩ := among_ev c hc a2 b2 (([1, 2, 3, 2, 3, 0, 4] : List Int).take (5 + Int.tdiv v 11).toNat) p2 (by omega) (by omega) (by omega)
  refine ⟨x, y, z, s, ?_⟩
  unfold spec_DrawCollapseRange.f
  rw [e]
  simp only [Option.bind_some, e2, hw]
  rw [if_pos (by omega), if_pos (by show 5 + Int.tdiv v 11 ≤ 7; omega), e3]
  rfl
theorem parse_same (s : ByteArray) : ∃ R : List Sp × Bool, R.1.length ≤ 8 ∧ Ev (fun k => spec_ParsePages.f k s) R ∧ Ev (fun k => impl_ParsePages.f k s) R := by
  obtain ⟨R, g1, r1, f1⟩ := spec_parse s
  obtain ⟨R', g2, r2, f2⟩ := impl_parse s
  have hR : R = R' := by
    rcases r1 with ⟨L, a, b, h⟩ | h
    · rw [h, f2 L a b]
    · rcases r2 with ⟨L, a, b, h'⟩ | h'
      · rw [h', f1 L a b]
      · rw [h, h']
  subst hR
  refine ⟨R, ?_, g1, g2⟩
  rcases r1 with ⟨L, a, b, h⟩ | h
  · rw [h]; exact (okl_parts L a).2.2
  · rw [h]; simp
theorem tail_ev (c : List Int) (hc : dr c) : Ev (fun k => (spec_DrawExpandRange.f k c).bind fun t438 => ((impl_ExpandRange.f k t438).bind fun bt439 => ((spec_ExpandRange.f k t438).bind fun bt444 => (if (bt439.1.toList == bt444.1.toList && (bt439.2.1 == bt444.2.1 && (bt439.2.2.1 == bt444.2.2.1))) = true then (some (bt439.2.2.2 == bt444.2.2.2)) else (some false))))) true := by
  obtain ⟨t, ht, e⟩ := drawExpand_ev c hc
  obtain ⟨A, B, f, e1, e2, hcut⟩ := cut_both t ht
  obtain ⟨R, g1, r1⟩ := spec_expand t A B f ht hcut e1
  obtain ⟨R', g2, r2⟩ := impl_expand t A B f ht hcut e2
  obtain rfl := r1.same r2
  refine Ev.bind e (Ev.bind g2 (Ev.bind g1 (Ev.congr (fun _ => if_pos (by simp)) ?_)))
  rw [beq_self_eq_true]
  exact Ev.now _
theorem FnPages : laws_FnPages.Pure := by
  intro c h1 _ h3
  refine Ev.rounds (g := fun k => laws_FnPages.f k c) ?_
  unfold laws_FnPages.f laws_rBig.f
  simp only [Option.bind_some]
  by_cases big : (c.length : Int) > 65536
  · exact Ev.congr (fun _ => if_pos (decide_eq_true big)) (Ev.now true)
  have hc := dr_of c h3 big
  refine Ev.congr (fun _ => if_neg (by rw [decide_eq_false big]; decide)) ?_
  obtain ⟨L, a, b, pe, hL, dL, a0, a1⟩ := pages_ev c hc 0 0 (by omega) (by omega)
  have dF : Ev (fun k => spec_DrawFormatPages.f k c) L := by
    unfold spec_DrawFormatPages.f spec_DrawIsValidPages.f
    exact Ev.bind (Ev.bind pe (Ev.now _)) (Ev.now _)
  obtain ⟨f1, f2⟩ := fmt_ev L (by omega)
  have tl := tail_ev c hc
  have j4 : Ev (fun k => laws_FnPages.j4 k c false) true := by
    refine Ev.step (fun k => ?_) tl
    simp only [laws_FnPages.j4]
    rw [if_neg (by decide)]
  have j2 : Ev (fun k => laws_FnPages.j2 k c false) true := by
    obtain ⟨x, y, z, st, ed⟩ := drawCollapse_ev c hc
    obtain ⟨R, c1, c2, back⟩ := Collapse_ok ⟨x, y, z⟩ st
    have j3 : Ev (fun k => laws_FnPages.j3 k c R.1 R.2 false x y z) true := by
      cases hR : R.2 with
      | false =>
        refine Ev.step (fun k => ?_) tl
        simp only [laws_FnPages.j3]
        rw [if_neg (by decide), if_neg (by decide)]
      | true =>
        refine Ev.step (f := fun k => (impl_ExpandRange.f k R.1).bind fun bt433 => (if bt433.2.2.2 = true then (laws_FnPages.j4 k c (!(bt433.1.toList == x.toList) || (!(bt433.2.1 == y) || (!(bt433.2.2.1 == z))))) else (laws_FnPages.j4 k c true))) (fun k => ?_) (Ev.bind (back hR) (Ev.congr (fun _ => if_pos rfl) ?_))
        · simp only [laws_FnPages.j3]
          rw [if_neg (by decide), if_pos trivial]
        · simp only [beq_self_eq_true, Bool.not_true, Bool.or_false]
          exact j4
    refine Ev.step (f := fun k => (impl_CollapseRange.f k x y z st).bind fun bt429 => ((spec_CollapseRange.f k x y z st).bind fun bt431 => (if bt429.1.toList = bt431.1.toList then (laws_FnPages.j3 k c bt429.1 bt429.2 (bt429.2 != bt431.2) x y z) else (laws_FnPages.j3 k c bt429.1 bt429.2 true x y z)))) (fun k => ?_) (Ev.bind c2 (Ev.bind c1 (Ev.congr (fun _ => if_pos rfl) ?_)))
    · simp only [laws_FnPages.j2]
      rw [if_neg (by decide), ed]
      rfl
    · rw [show (R.2 != R.2) = false from by simp]
      exact j3
  have j1 : Ev (fun k => laws_FnPages.j1 k c) true := by
    obtain ⟨t, et⟩ := drawParse_ev c hc
    obtain ⟨Q, hQ, q1, q2⟩ := parse_same t
    refine Ev.step (f := fun k => (spec_DrawParsePages.f k c).bind fun t414 => ((impl_ParsePages.f k t414).bind fun bt415 => ((spec_ParsePages.f k t414).bind fun bt419 => (if (bt415.2 != bt419.2) = true then (laws_FnPages.j2 k c true) else ((laws_rRanges.f k bt415.1 bt419.1).bind fun t423 => (laws_FnPages.j2 k c (!t423))))))) (fun k => rfl) (Ev.bind et (Ev.bind q2 (Ev.bind q1 (Ev.congr (fun _ => if_neg (by simp)) (Ev.bind (rRanges_ev Q.1 (by omega)) j2)))))
  refine Ev.bind dF (Ev.bind f2 (Ev.bind f1 (Ev.congr (fun _ => (if_pos rfl).trans (if_neg (by simp))) ?_)))
  simp only [implValid_eq, Option.bind_some, fmtR_2, bne_self_eq_false]
  cases ho : okl L with
  | false =>
    refine Ev.step (fun k => ?_) j1
    simp only [laws_FnPages.j0]
    rw [if_neg (by decide), if_neg (by decide)]
  | true =>
    have hf : (fmtR L).1 = LT L := by
      unfold fmtR
      rw [ho]
      rfl
    rw [hf]
    obtain ⟨P, ep, _, back⟩ := impl_parse (LT L)
    rw [back L ho rfl] at ep
    refine Ev.step (f := fun k => (impl_ParsePages.f k (LT L)).bind fun bt409 => (if bt409.2 = true then ((laws_rRanges.f k bt409.1 L).bind fun t413 => (if t413 = true then (laws_FnPages.j1 k c) else (some false))) else (some false))) (fun k => ?_) (Ev.bind ep (Ev.congr (fun _ => if_pos rfl) (Ev.bind (rRanges_ev L (by omega)) (Ev.congr (fun _ => if_pos rfl) j1))))
    simp only [laws_FnPages.j0]
    rw [if_neg (by decide), if_pos trivial]

end Go.Proofs.YtmemcncbkgcbeaaGreatDoor.Pure
