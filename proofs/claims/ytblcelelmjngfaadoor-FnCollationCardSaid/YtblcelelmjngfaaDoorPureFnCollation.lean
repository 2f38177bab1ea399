/- The law FnCollation, as a statement over numbers and lists: the program's function and the reference's answer alike, for every input; no further condition. -/
import Derived.Laws.BitsAllLaws
import Derived.Test.YtblcelelmjngfaaDoorPx1
import Derived.Test.YtblcelelmjngfaaDoorPx10
import Derived.Test.YtblcelelmjngfaaDoorPx11
import Derived.Test.YtblcelelmjngfaaDoorPx13
import Derived.Test.YtblcelelmjngfaaDoorPx15
import Derived.Test.YtblcelelmjngfaaDoorPx16
import Derived.Test.YtblcelelmjngfaaDoorPx17
import Derived.Test.YtblcelelmjngfaaDoorPx4
import Derived.Test.YtblcelelmjngfaaDoorPx5
import Derived.Test.YtblcelelmjngfaaDoorPx9
import Derived.Test.YtblcelelmjngfaaDoorQNat
import Derived.Test.YtblcelelmjngfaaDoorQFoldI
namespace Go.Proofs.YtblcelelmjngfaaDoor.Pure
open Go.RowKit Go.Proofs.YtblcelelmjngfaaDoor.Px Go.Proofs.YtblcelelmjngfaaDoorW.PrintWords Go.Proofs.YtblcelelmjngfaaDoorW.PrintLast
set_option linter.unusedVariables false
set_option linter.unusedSimpArgs false

/-! what draws: the cursor's steps -/
def dr (c : List Int) : Prop := c.length ≤ 65536 ∧ ∀ x ∈ c, 0 ≤ x ∧ x ≤ 255
theorem rd_dr (c : List Int) (h : dr c) (a : Int) : 0 ≤ rd c a ∧ rd c a ≤ 255 := by
  unfold rd
  rw [List.getD_eq_getElem?_getD]
  cases hg : c[a.toNat]? with
  | none => simp
  | some x =>
    obtain ⟨h1, h2⟩ := List.getElem?_eq_some_iff.1 hg
    have := h.2 x (by rw [← h2]; exact List.getElem_mem h1)
    simpa using this
theorem wrap_u64 (y : Int) : 0 ≤ IntKind.u64.wrap y ∧ IntKind.u64.wrap y < 18446744073709551616 := by
  have e : IntKind.u64.wrap y = y % 18446744073709551616 := by
    simp [IntKind.wrap, IntKind.signed, IntKind.bits]
  rw [e]
  omega
theorem low_byte (y : Int) : 0 ≤ Go.bits .and .u64 (IntKind.u64.wrap y / 1099511627776) 255 ∧ Go.bits .and .u64 (IntKind.u64.wrap y / 1099511627776) 255 ≤ 255 := by
  obtain ⟨h1, h2⟩ := wrap_u64 y
  generalize IntKind.u64.wrap y = z at *
  have h3 : 0 ≤ z / 1099511627776 := by omega
  have h4 : z / 1099511627776 < 18446744073709551616 := by omega
  rw [u64_and _ 255 h3 h4 (by decide) (by decide)]
  have := Nat.and_le_right (n := (z / 1099511627776).toNat) (m := (255 : Int).toNat)
  have e : (255 : Int).toNat = 255 := rfl
  omega
theorem next_ev (c : List Int) (hc : dr c) (a b : Int) (ha : 0 ≤ a) (hb : a ≤ 1000000000) : ∃ x b', spec_l1Cur_next.f c a b = some (x, a + 1, b') ∧ 0 ≤ x ∧ x ≤ 255 := by
  have hw : wrap64 (a + 1) = a + 1 := wrap_small (by omega) (by omega)
  have hr := rd_dr c hc a
  have hl := hc.1
  have hx : wrap64 (rd c a) = rd c a := wrap_small (by omega) (by omega)
  have lo : ∀ y : Int, 0 ≤ wrap64 (Go.bits .and .u64 (IntKind.u64.wrap y / 1099511627776) 255) ∧ wrap64 (Go.bits .and .u64 (IntKind.u64.wrap y / 1099511627776) 255) ≤ 255 := fun y => by
    obtain ⟨h1, h2⟩ := low_byte y
    rw [wrap_small (by omega) (by omega)]
    exact ⟨h1, h2⟩
  unfold spec_l1Cur_next.f
  rw [hw, hx]
  by_cases c1 : a < (c.length : Int)
  · rw [if_pos c1, if_pos ha]
    by_cases c2 : a + 1 ≤ (c.length : Int)
    · rw [if_pos c2]
      exact ⟨_, _, rfl, hr⟩
    · rw [if_neg c2]
      exact ⟨_, _, rfl, lo _⟩
  · rw [if_neg c1]
    by_cases c2 : a + 1 ≤ (c.length : Int)
    · rw [if_pos c2]
      exact ⟨_, _, rfl, by omega, by omega⟩
    · rw [if_neg c2]
      exact ⟨_, _, rfl, lo _⟩
theorem tmod_in (x n : Int) (hx : 0 ≤ x) (hn : 0 < n) : 0 ≤ Int.tmod x n ∧ Int.tmod x n < n := by
  rw [Int.tmod_eq_emod_of_nonneg hx]
  exact ⟨Int.emod_nonneg _ (by omega), Int.emod_lt_of_pos _ hn⟩
theorem pick_ev (c : List Int) (hc : dr c) (a b n : Int) (ha : 0 ≤ a) (hb : a ≤ 900000000) (hn : 1 ≤ n) (hn2 : n ≤ 1000000000) : ∃ x a' b', spec_l1Cur_pick.f c a b n = some (x, a', b') ∧ 0 ≤ x ∧ x < n ∧ 0 ≤ a' ∧ a' ≤ a + 2 := by
  unfold spec_l1Cur_pick.f
  by_cases c1 : n ≤ 1
  · rw [if_pos c1]
    exact ⟨_, _, _, rfl, by omega, by omega, ha, by omega⟩
  · obtain ⟨x, b1, e1, x0, x1⟩ := next_ev c hc a b ha (by omega)
    rw [if_neg c1, e1, Option.bind_some]
    by_cases c2 : n > 200
    · obtain ⟨y, b2, e2, y0, y1⟩ := next_ev c hc (a + 1) b1 (by omega) (by omega)
      rw [if_pos c2]
      simp only [e2, Option.bind_some]
      rw [if_neg (by omega)]
      have hw : wrap64 (wrap64 (x * 256) + y) = x * 256 + y := by rw [wrap_small (x := x * 256) (by omega) (by omega), wrap_small (by omega) (by omega)]
      rw [hw]
      obtain ⟨t0, t1⟩ := tmod_in (x * 256 + y) n (by omega) (by omega)
      exact ⟨_, _, _, rfl, t0, t1, by omega, by omega⟩
    · rw [if_neg c2, if_neg (by omega)]
      obtain ⟨t0, t1⟩ := tmod_in x n x0 (by omega)
      exact ⟨Int.tmod x n, a + 1, b1, rfl, t0, t1, by omega, by omega⟩
theorem one_ev (c : List Int) (hc : dr c) (a b n : Int) (ha : 0 ≤ a) (hb : a ≤ 900000000) (hn : 1 ≤ n) (hn2 : n ≤ 1000000000) : ∃ x a' b', spec_l1Cur_one.f c a b n = some (x, a', b') ∧ 0 ≤ a' ∧ a' ≤ a + 2 := by
  obtain ⟨x, a', b', e, _, _, h3, h4⟩ := pick_ev c hc a b n ha hb hn hn2
  unfold spec_l1Cur_one.f
  rw [e]
  exact ⟨_, _, _, rfl, h3, h4⟩
theorem of_ev (c : List Int) (hc : dr c) (a b : Int) (l : List ByteArray) (ha : 0 ≤ a) (hb : a ≤ 900000000) (hn : 1 ≤ l.length) (hn2 : l.length ≤ 1000000) : ∃ x a' b', spec_l1Cur_of.f c a b l = some (x, a', b') ∧ x ∈ l ∧ 0 ≤ a' ∧ a' ≤ a + 2 := by
  obtain ⟨x, a', b', e, h1, h2, h3, h4⟩ := pick_ev c hc a b (l.length : Int) ha hb (by omega) (by omega)
  unfold spec_l1Cur_of.f
  rw [e, Option.bind_some, if_pos h1, if_pos h2]
  refine ⟨_, _, _, rfl, ?_, h3, h4⟩
  unfold rdOf
  rw [List.getD_eq_getElem?_getD, List.getElem?_eq_getElem (by omega)]
  exact List.getElem_mem _
theorem spoilt_at (c : List Int) (hc : dr c) (a b : Int) (t w : ByteArray) (ha : 0 ≤ a) (hb : a ≤ 800000000) (ht : t.size ≤ 1000000) (hw0 : 1 ≤ w.size) (hw : w.size ≤ 1000000) : ∃ x a' b', spec_l1Cur_spoilt.f c a b t w = some (x, a', b') ∧ x.size ≤ t.size + 1 ∧ 0 ≤ a' ∧ a' ≤ a + 6 := by
  unfold spec_l1Cur_spoilt.f
  by_cases z : t.size = 0
  · rw [if_pos z, if_pos hw0]
    exact ⟨_, _, _, rfl, by rw [ByteArray.size_extract]; omega, by omega, by omega⟩
  · obtain ⟨i, a1, b1, e1, i0, i1, g0, g1⟩ := pick_ev c hc a b (t.size : Int) ha (by omega) (by omega) (by omega)
    obtain ⟨j, a2, b2, e2, j0, j1, h0, h1⟩ := pick_ev c hc a1 b1 (w.size : Int) g0 (by omega) (by omega) (by omega)
    obtain ⟨v, a3, b3, e3, v0, v1, k0, k1⟩ := pick_ev c hc a2 b2 3 h0 (by omega) (by omega) (by omega)
    rw [if_neg z, e1, Option.bind_some]
    simp only [e2, e3, Option.bind_some]
    rw [if_pos ⟨⟨j0, j1⟩, ⟨i0, i1⟩, by omega⟩]
    refine ⟨_, _, _, rfl, ?_, k0, by omega⟩
    unfold spec_l1Cur_spoilt.res
    split
    · simp only [ByteArray.size_append, ByteArray.size_extract]; omega
    · split <;> simp only [ByteArray.size_append, ByteArray.size_extract] <;> omega
theorem spoilt_ev (c : List Int) (hc : dr c) (a b : Int) (t w : ByteArray) (ha : 0 ≤ a) (hb : a ≤ 800000000) (ht : t.size ≤ 1000000) (hw0 : 1 ≤ w.size) (hw : w.size ≤ 1000000) : ∃ x a' b', spec_l1Cur_spoilt.f c a b t w = some (x, a', b') ∧ x.size ≤ t.size + 1 := by
  obtain ⟨x, a', b', e, h, _⟩ := spoilt_at c hc a b t w ha hb ht hw0 hw
  exact ⟨x, a', b', e, h⟩

/-! comparing by the folded texts -/
def colR (a b : ByteArray) : Int := if Lib.compareBytes (foldS a).data.toList (foldS b).data.toList = 0 then Lib.compareBytes a.data.toList b.data.toList else Lib.compareBytes (foldS a).data.toList (foldS b).data.toList
theorem colR_anti (a b : ByteArray) : colR b a = - colR a b := by
  unfold colR
  rw [cb_anti (foldS a).data.toList (foldS b).data.toList]
  by_cases c : Lib.compareBytes (foldS a).data.toList (foldS b).data.toList = 0
  · rw [if_pos c, if_pos (by omega)]; exact cb_anti _ _
  · rw [if_neg c, if_neg (by omega)]
theorem colR_zero (a b : ByteArray) : colR a b = 0 ↔ a = b := by
  constructor
  · intro h
    unfold colR at h
    by_cases c : Lib.compareBytes (foldS a).data.toList (foldS b).data.toList = 0
    · rw [if_pos c] at h; exact (cb_ba a b).1 h
    · rw [if_neg c] at h; exact absurd h c
  · rintro rfl
    unfold colR
    rw [cb_self, if_pos rfl, cb_self]
theorem collate_x (a b : ByteArray) (ha : a.size ≤ 1048576) (hb : b.size ≤ 1048576) (k : Nat) (hk : 2097160 < k) : spec_l8Collate.f k a b = some (colR a b) ∧ impl_collate.f k a b = some (colR a b) := by
  obtain ⟨p1, q1⟩ := fold_x a ha k hk
  obtain ⟨p2, q2⟩ := fold_x b hb k hk
  unfold spec_l8Collate.f impl_collate.f strings_Compare.f bytealg_CompareString.f spec_l2Text.f colR
  simp only [p1, p2, q1, q2, Option.bind_some, or2 _ _ k (by omega : 5 ≤ k)]
  by_cases h : Lib.compareBytes (foldS a).data.toList (foldS b).data.toList = 0
  · simp [h]
  · simp [h]
theorem cb_one : ∀ a b : List UInt8, -1 ≤ Lib.compareBytes a b ∧ Lib.compareBytes a b ≤ 1
  | [], [] => by decide
  | [], _ :: _ => by simp [Lib.compareBytes]
  | _ :: _, [] => by simp [Lib.compareBytes]
  | x :: a, y :: b => by
    have ih := cb_one a b
    simp only [Lib.compareBytes]
    split
    · omega
    · split
      · omega
      · exact ih
theorem colR_one (a b : ByteArray) : -1 ≤ colR a b ∧ colR a b ≤ 1 := by
  unfold colR
  split <;> exact cb_one _ _
theorem rc_one (x y : ByteArray) : -1 ≤ rc x y ∧ rc x y ≤ 1 := by
  unfold rc
  repeat' split
  all_goals first | exact cb_one _ _ | omega
theorem cmpL_one (f : ByteArray → ByteArray → Int) : ∀ X Y : List ByteArray, (∀ x ∈ X, ∀ y ∈ Y, -1 ≤ f x y ∧ f x y ≤ 1) → -1 ≤ impl_NaturalCompare.cmpL f X Y ∧ impl_NaturalCompare.cmpL f X Y ≤ 1
  | [], [], _ => by simp [impl_NaturalCompare.cmpL]
  | [], _ :: _, _ => by simp [impl_NaturalCompare.cmpL]
  | _ :: _, [], _ => by simp [impl_NaturalCompare.cmpL]
  | x :: X, y :: Y, h => by
    have h0 := h x (by simp) y (by simp)
    have ih := cmpL_one f X Y (fun a ha b hb => h a (List.mem_cons_of_mem _ ha) b (List.mem_cons_of_mem _ hb))
    simp only [impl_NaturalCompare.cmpL]
    split
    · exact ih
    · exact h0
theorem natR_one (a b : ByteArray) (X Y : List ByteArray) (hX : ∀ x ∈ X, isRun x) (hY : ∀ y ∈ Y, isRun y) : -1 ≤ natR a b X Y ∧ natR a b X Y ≤ 1 := by
  unfold natR
  split
  · exact cb_one _ _
  · refine cmpL_one rcf X Y (fun x hx y hy => ?_)
    unfold rcf
    rw [(run_x x y (hX x hx) (hY y hy)).2]
    exact rc_one x y
theorem beq_ba (a b : ByteArray) : (a.toList == b.toList) = decide (a = b) := by
  by_cases h : a = b
  · subst h; simp
  · rw [decide_eq_false h, beq_eq_false_iff_ne, Lib.toList_data, Lib.toList_data]
    exact fun e => h (ba_eq a b e)
/-! what is drawn -/
def texts : List ByteArray := (spec_l8Texts.f).getD []
theorem texts_some : spec_l8Texts.f = some texts := rfl
theorem texts_le : ∀ x ∈ texts, x.size ≤ 20 := by decide
theorem sample_ev (c : List Int) (hc : dr c) (a b : Int) (ha : 0 ≤ a) (hb : a ≤ 1000000) : ∃ t a' b', spec_l1Cur_sample.f c a b = some (t, a', b') ∧ t.size ≤ 30 ∧ 0 ≤ a' ∧ a' ≤ a + 20 := by
  obtain ⟨t, a1, b1, e1, t0, q0, q1⟩ := of_ev c hc a b texts ha (by omega) (by decide) (by decide)
  have ts := texts_le t t0
  obtain ⟨o, a2, b2, e2, o0, o1⟩ := one_ev c hc a1 b1 4 q0 (by omega) (by omega) (by omega)
  obtain ⟨u, a3, b3, e3, us, u0, u1⟩ := spoilt_at c hc a2 b2 t (⟨#[97, 65, 48, 32, 45, 46]⟩ : ByteArray) o0 (by omega) (by omega) (by decide) (by decide)
  unfold spec_l1Cur_sample.f
  rw [texts_some, Option.bind_some, e1, Option.bind_some]
  simp only [e2, e3, Option.bind_some]
  cases o with
  | true => exact ⟨u, a3, b3, if_pos rfl, by omega, u0, by omega⟩
  | false => exact ⟨t, a2, b2, if_neg (by decide), by omega, o0, by omega⟩
theorem FnCollation : laws_FnCollation.Pure := by
  intro c h1 _ h3
  refine Ev.rounds (g := fun k => laws_FnCollation.f k c) ?_
  unfold laws_FnCollation.f laws_vBig.f
  simp only [Option.bind_some]
  by_cases big : (c.length : Int) > 65536
  · exact Ev.congr (fun _ => if_pos (decide_eq_true big)) (Ev.now true)
  have hc : dr c := ⟨by omega, fun x hx => by
    have := h3 x hx
    simp only [Lit.wf, Bool.and_eq_true, decide_eq_true_eq] at this
    have e1 : IntKind.u8.min = 0 := rfl
    have e2 : IntKind.u8.max = 255 := rfl
    rw [e1, e2] at this
    exact this⟩
  refine Ev.congr (fun _ => if_neg (by rw [decide_eq_false big]; decide)) ?_
  obtain ⟨s, a1, b1, e1, s1, q1, q2⟩ := sample_ev c hc 0 0 (by omega) (by omega)
  obtain ⟨t, a2, b2, e2, t1, q3, q4⟩ := sample_ev c hc a1 b1 q1 (by omega)
  have hf := foldS_size s
  have big1 : (3000000 : Nat) > 2097160 := by omega
  have d1 : spec_DrawFoldText.f c = some s := by unfold spec_DrawFoldText.f; rw [e1]; rfl
  have d2 : spec_DrawCollateTexts.f c = some (s, t) := by unfold spec_DrawCollateTexts.f; rw [e1, Option.bind_some]; simp only [e2, Option.bind_some]
  have f1 : impl_FoldText.f s = some (foldS s, true) := by
    unfold impl_FoldText.f
    rw [if_neg (by omega), (fold_x s (by omega) 3000000 (by omega)).2]; rfl
  have f2 : impl_FoldText.f (foldS s) = some (foldS s, true) := by
    unfold impl_FoldText.f
    rw [if_neg (by omega), (fold_x (foldS s) (by omega) 3000000 (by omega)).2, foldS_again]; rfl
  have f3 : Ev (fun k => spec_FoldText.f k s) (foldS s, true) := ⟨3000000, fun k hk => by
    show spec_FoldText.f k s = _
    unfold spec_FoldText.f
    rw [if_neg (by omega), (fold_x s (by omega) k (by omega)).1]; rfl⟩
  have colI : ∀ x y : ByteArray, x.size ≤ 30 → y.size ≤ 30 → Ev (fun k => impl_CollateTexts.f k x y) (colR x y, true) := fun x y hx hy => ⟨3000000, fun k hk => by
    show impl_CollateTexts.f k x y = _
    unfold impl_CollateTexts.f
    rw [if_neg (by omega), if_neg (by omega), (collate_x x y (by omega) (by omega) k (by omega)).2]; rfl⟩
  have colS : Ev (fun k => spec_CollateTexts.f k s t) (colR s t, true) := ⟨3000000, fun k hk => by
    show spec_CollateTexts.f k s t = _
    unfold spec_CollateTexts.f
    rw [if_neg (by omega), if_neg (by omega), (collate_x s t (by omega) (by omega) k (by omega)).1]; rfl⟩
  -- the third part
  have j1 : Ev (fun k => laws_FnCollation.j1 k c false) true := by
    have key : ∀ x y : ByteArray, spec_DrawNaturalCompare.f c = some (x, y) → y.size ≤ 40 → Ev (fun k => laws_FnCollation.j1 k c false) true := fun x y dn hy => by
      by_cases hx : x.size ≤ 40
      · obtain ⟨X, x1, x2, x3, x4⟩ := runs_k x hx
        obtain ⟨Y, y1, y2, y3, y4⟩ := runs_k y hy
        obtain ⟨n1, n2⟩ := nat_ev x y X Y hx hy x1 x2 x3 x4 y1 y2 y3
        obtain ⟨n3, _⟩ := nat_ev y x Y X hy hx y1 y2 y3 y4 x1 x2 x3
        have na := natR_anti x y X Y x3 y3
        have no := natR_one x y X Y x3 y3
        have hw : wrap64 (-natR x y X Y) = -natR x y X Y := wrap_small (by omega) (by omega)
        have hz : (natR x y X Y == 0) = (x.toList == y.toList) := by
          rw [beq_ba]
          by_cases exy : x = y
          · subst exy
            have : X = Y := by have := (x2.symm.trans y2); exact Option.some.inj this
            subst this
            rw [natR_self x X x3, decide_eq_true rfl]; rfl
          · rw [decide_eq_false exy, beq_eq_false_iff_ne]
            exact fun h => exy (natR_zero x y X Y h)
        refine Ev.step (fun k => ?_) (Ev.bind n2 (f := fun _ bt => if natR x y X Y = bt.1 then (if (true == bt.2) = true then some true else some false) else some false) ?_)
        · simp only [laws_FnCollation.j1]
          rw [if_neg (by decide), dn, Option.bind_some]
          simp only [n1, n3, Option.bind_some, hw, na, if_true, hz, beq_self_eq_true]
        · exact Ev.congr (fun _ => (if_pos rfl).trans (if_pos rfl)) (Ev.now _)
      · have n1 : impl_NaturalCompare.f x y = some (0, false) := by unfold impl_NaturalCompare.f; rw [if_pos (.inl (by omega))]
        have n3 : impl_NaturalCompare.f y x = some (0, false) := by unfold impl_NaturalCompare.f; rw [if_pos (.inr (by omega))]
        have n2 : Ev (fun k => spec_NaturalCompare.f k x y) (0, false) := by
          unfold spec_NaturalCompare.f
          refine Ev.congr (fun _ => if_pos (show (x.size : Int) > 40 from by omega)) ?_
          refine Ev.step (f := fun _ => some ((0 : Int), false)) (fun k => ?_) (Ev.now _)
          simp [spec_NaturalCompare.j0]
        refine Ev.step (fun k => ?_) (Ev.bind n2 (f := fun _ bt => if (0 : Int) = bt.1 then (if (false == bt.2) = true then some true else some false) else some false) ?_)
        · simp only [laws_FnCollation.j1]
          rw [if_neg (by decide), dn, Option.bind_some]
          have w0 : wrap64 (-(0 : Int)) = 0 := wrap_small (by omega) (by omega)
          simp only [n1, n3, Option.bind_some, w0, beq_self_eq_true, if_true, Bool.false_eq_true, if_false]
        · exact Ev.congr (fun _ => (if_pos rfl).trans (if_pos rfl)) (Ev.now _)
    obtain ⟨o, a3, b3, e3, o0, o1⟩ := one_ev c hc a2 b2 20 q3 (by omega) (by omega) (by omega)
    obtain ⟨p, a4, b4, e4, p0, p1, p2, p3⟩ := pick_ev c hc a3 b3 2 o0 (by omega) (by omega) (by omega)
    cases o with
    | true =>
      have hw : wrap64 (40 + p) = 40 + p := wrap_small (by omega) (by omega)
      refine key ((⟨#[48, 49, 50, 51, 52, 53, 54, 55, 56, 57, 48, 49, 50, 51, 52, 53, 54, 55, 56, 57, 48, 49, 50, 51, 52, 53, 54, 55, 56, 57, 48, 49, 50, 51, 52, 53, 54, 55, 56, 57, 48]⟩ : ByteArray).extract 0 (40 + p).toNat) t ?_ (by omega)
      unfold spec_DrawNaturalCompare.f
      rw [e1, Option.bind_some]
      simp only [e2, e3, e4, Option.bind_some, if_true, hw]
      rw [if_pos (by omega), if_pos (by omega)]
    | false =>
      refine key s t ?_ (by omega)
      unfold spec_DrawNaturalCompare.f
      rw [e1, Option.bind_some]
      simp only [e2, e3, Option.bind_some]
      rw [if_neg (by decide)]
  -- the second part
  have na := colR_anti s t
  have no := colR_one s t
  have hw : wrap64 (-colR s t) = -colR s t := wrap_small (by omega) (by omega)
  have hz : ((colR s t == 0) != (s.toList == t.toList)) = false := by
    rw [beq_ba]
    by_cases est : s = t
    · rw [(colR_zero s t).2 est, decide_eq_true est]; rfl
    · have : (colR s t == 0) = false := beq_eq_false_iff_ne.2 (fun h => est ((colR_zero s t).1 h))
      rw [this, decide_eq_false est]; rfl
  have j0 : Ev (fun k => laws_FnCollation.j0 k c false) true := by
    have i1 := colI s t s1 t1
    have i2 := colI t s t1 s1
    rw [na] at i2
    refine Ev.step (f := fun k => (impl_CollateTexts.f k s t).bind fun bt253 => ((impl_CollateTexts.f k t s).bind fun bt255 => ((spec_CollateTexts.f k s t).bind fun bt257 => (if bt253.1 = bt257.1 then (if (bt253.2 != bt255.2) = true then (laws_FnCollation.j1 k c true) else (if bt255.1 = (wrap64 (-bt253.1)) then (if bt253.2 = true then (laws_FnCollation.j1 k c ((bt253.1 == 0) != (s.toList == t.toList))) else (laws_FnCollation.j1 k c false)) else (laws_FnCollation.j1 k c true))) else (laws_FnCollation.j1 k c true))))) (fun k => ?_) ?_
    · simp only [laws_FnCollation.j0]
      rw [if_neg (by decide), d2, Option.bind_some]
    · refine Ev.bind i1 (Ev.bind i2 (Ev.bind colS ?_))
      simp only [hw, hz, if_true]
      exact Ev.congr (fun _ => if_neg (by decide)) j1
  simp only [d1, Option.bind_some, f1, f2]
  refine Ev.bind f3 ?_
  simp only [if_true, bne_self_eq_false]
  exact Ev.congr (fun _ => if_neg (by decide)) j0

end Go.Proofs.YtblcelelmjngfaaDoor.Pure
