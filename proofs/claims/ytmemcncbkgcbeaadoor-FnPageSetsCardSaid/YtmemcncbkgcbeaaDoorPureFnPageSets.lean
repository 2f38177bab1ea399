/- The law FnPageSets, as a statement over numbers and lists: the program's function and the reference's answer alike, for every input; no further condition. -/
import Derived.Laws.BitsAllLaws
import Derived.Test.YtmemcncbkgcbeaaDoorPx10
import Derived.Test.YtmemcncbkgcbeaaDoorPx11
import Derived.Test.YtmemcncbkgcbeaaDoorPx13
import Derived.Test.YtmemcncbkgcbeaaDoorPx15
import Derived.Test.YtmemcncbkgcbeaaDoorPx16
import Derived.Test.YtmemcncbkgcbeaaDoorPx2
import Derived.Test.YtmemcncbkgcbeaaDoorPx3
import Derived.Test.YtmemcncbkgcbeaaDoorPx4
import Derived.Test.YtmemcncbkgcbeaaDoorPx8
import Derived.Test.YtmemcncbkgcbeaaDoorPx9
import Derived.Test.YtmemcncbkgcbeaaDoorQLoc
namespace Go.Proofs.YtmemcncbkgcbeaaDoor.Pure
open Go.RowKit Go.Proofs.YtmemcncbkgcbeaaDoor.Px Go.Proofs.YtmemcncbkgcbeaaDoorW.PrintWords Go.Proofs.YtmemcncbkgcbeaaDoorW.PrintLast
set_option linter.unusedVariables false
set_option linter.unusedSimpArgs false

/-! what draws: the cursor's steps -/
def dr (c : List Int) : Prop := c.length ≤ 65536 ∧ ∀ x ∈ c, 0 ≤ x ∧ x ≤ 255
theorem rd_dr (c : List Int) (h : dr c) (a : Int) : 0 ≤ rd c a ∧ rd c a ≤ 255 := by
  unfold rd
  rw [List.getD_eq_getElem?_getD]
  cases hg : c[a.toNat]? with
  | none => simp
  | some x =>
    obtain ⟨h1, h2⟩ := List.getElem?_eq_some_iff.1 hg
    have := h.2 x (by rw [← h2]; exact List.getElem_mem h1)
    simpa using this
theorem wrap_u64 (y : Int) : 0 ≤ IntKind.u64.wrap y ∧ IntKind.u64.wrap y < 18446744073709551616 := by
  have e : IntKind.u64.wrap y = y % 18446744073709551616 := by
    simp [IntKind.wrap, IntKind.signed, IntKind.bits]
  rw [e]
  omega
theorem low_byte (y : Int) : 0 ≤ Go.bits .and .u64 (IntKind.u64.wrap y / 1099511627776) 255 ∧ Go.bits .and .u64 (IntKind.u64.wrap y / 1099511627776) 255 ≤ 255 := by
  obtain ⟨h1, h2⟩ := wrap_u64 y
  generalize IntKind.u64.wrap y = z at *
  have h3 : 0 ≤ z / 1099511627776 := by omega
  have h4 : z / 1099511627776 < 18446744073709551616 := by omega
  rw [u64_and _ 255 h3 h4 (by decide) (by decide)]
  have := Nat.and_le_right (n := (z / 1099511627776).toNat) (m := (255 : Int).toNat)
  have e : (255 : Int).toNat = 255 := rfl
  omega
theorem next_ev (c : List Int) (hc : dr c) (a b : Int) (ha : 0 ≤ a) (hb : a ≤ 1000000000) : ∃ x b', spec_l1Cur_next.f c a b = some (x, a + 1, b') ∧ 0 ≤ x ∧ x ≤ 255 := by
  have hw : wrap64 (a + 1) = a + 1 := wrap_small (by omega) (by omega)
  have hr := rd_dr c hc a
  have hl := hc.1
  have hx : wrap64 (rd c a) = rd c a := wrap_small (by omega) (by omega)
  have lo : ∀ y : Int, 0 ≤ wrap64 (Go.bits .and .u64 (IntKind.u64.wrap y / 1099511627776) 255) ∧ wrap64 (Go.bits .and .u64 (IntKind.u64.wrap y / 1099511627776) 255) ≤ 255 := fun y => by
    obtain ⟨h1, h2⟩ := low_byte y
    rw [wrap_small (by omega) (by omega)]
    exact ⟨h1, h2⟩
  unfold spec_l1Cur_next.f
  rw [hw, hx]
  by_cases c1 : a < (c.length : Int)
  · rw [if_pos c1, if_pos ha]
    by_cases c2 : a + 1 ≤ (c.length : Int)
    · rw [if_pos c2]
      exact ⟨_, _, rfl, hr⟩
    · rw [if_neg c2]
      exact ⟨_, _, rfl, lo _⟩
  · rw [if_neg c1]
    by_cases c2 : a + 1 ≤ (c.length : Int)
    · rw [if_pos c2]
      exact ⟨_, _, rfl, by omega, by omega⟩
    · rw [if_neg c2]
      exact ⟨_, _, rfl, lo _⟩
theorem tmod_in (x n : Int) (hx : 0 ≤ x) (hn : 0 < n) : 0 ≤ Int.tmod x n ∧ Int.tmod x n < n := by
  rw [Int.tmod_eq_emod_of_nonneg hx]
  exact ⟨Int.emod_nonneg _ (by omega), Int.emod_lt_of_pos _ hn⟩
theorem pick_ev (c : List Int) (hc : dr c) (a b n : Int) (ha : 0 ≤ a) (hb : a ≤ 900000000) (hn : 1 ≤ n) (hn2 : n ≤ 1000000000) : ∃ x a' b', spec_l1Cur_pick.f c a b n = some (x, a', b') ∧ 0 ≤ x ∧ x < n ∧ 0 ≤ a' ∧ a' ≤ a + 2 := by
  unfold spec_l1Cur_pick.f
  by_cases c1 : n ≤ 1
  · rw [if_pos c1]
    exact ⟨_, _, _, rfl, by omega, by omega, ha, by omega⟩
  · obtain ⟨x, b1, e1, x0, x1⟩ := next_ev c hc a b ha (by omega)
    rw [if_neg c1, e1, Option.bind_some]
    by_cases c2 : n > 200
    · obtain ⟨y, b2, e2, y0, y1⟩ := next_ev c hc (a + 1) b1 (by omega) (by omega)
      rw [if_pos c2]
      simp only [e2, Option.bind_some]
      rw [if_neg (by omega)]
      have hw : wrap64 (wrap64 (x * 256) + y) = x * 256 + y := by rw [wrap_small (x := x * 256) (by omega) (by omega), wrap_small (by omega) (by omega)]
      rw [hw]
      obtain ⟨t0, t1⟩ := tmod_in (x * 256 + y) n (by omega) (by omega)
      exact ⟨_, _, _, rfl, t0, t1, by omega, by omega⟩
    · rw [if_neg c2, if_neg (by omega)]
      obtain ⟨t0, t1⟩ := tmod_in x n x0 (by omega)
      exact ⟨Int.tmod x n, a + 1, b1, rfl, t0, t1, by omega, by omega⟩
theorem of_ev (c : List Int) (hc : dr c) (a b : Int) (l : List ByteArray) (ha : 0 ≤ a) (hb : a ≤ 900000000) (hn : 1 ≤ l.length) (hn2 : l.length ≤ 1000000) : ∃ x a' b', spec_l1Cur_of.f c a b l = some (x, a', b') ∧ x ∈ l ∧ 0 ≤ a' ∧ a' ≤ a + 2 := by
  obtain ⟨x, a', b', e, h1, h2, h3, h4⟩ := pick_ev c hc a b (l.length : Int) ha hb (by omega) (by omega)
  unfold spec_l1Cur_of.f
  rw [e, Option.bind_some, if_pos h1, if_pos h2]
  refine ⟨_, _, _, rfl, ?_, h3, h4⟩
  unfold rdOf
  rw [List.getD_eq_getElem?_getD, List.getElem?_eq_getElem (by omega)]
  exact List.getElem_mem _
/-! ranges of pages are drawn -/
theorem among_ev (c : List Int) (hc : dr c) (a b : Int) (l : List Int) (ha : 0 ≤ a) (hb : a ≤ 900000000) (hn : 1 ≤ l.length) (hn2 : l.length ≤ 1000000) : ∃ x a' b', spec_l1Cur_among.f c a b l = some (x, a', b') ∧ x ∈ l ∧ 0 ≤ a' ∧ a' ≤ a + 2 := by
  obtain ⟨x, a', b', e, h1, h2, h3, h4⟩ := pick_ev c hc a b (l.length : Int) ha hb (by omega) (by omega)
  unfold spec_l1Cur_among.f
  rw [e, Option.bind_some, if_pos h1, if_pos h2]
  refine ⟨_, _, _, rfl, ?_, h3, h4⟩
  unfold rd
  rw [List.getD_eq_getElem?_getD, List.getElem?_eq_getElem (by omega)]
  exact List.getElem_mem _
def pgL : List ByteArray := [(⟨#[]⟩ : ByteArray), (⟨#[]⟩ : ByteArray), (⟨#[]⟩ : ByteArray), (⟨#[65]⟩ : ByteArray), (⟨#[66]⟩ : ByteArray)]
def pgL2 : List ByteArray := [(⟨#[97]⟩ : ByteArray), (⟨#[65, 66]⟩ : ByteArray), (⟨#[49]⟩ : ByteArray), (⟨#[90]⟩ : ByteArray)]
def pgF : List Int := [1, 5, 12, 99, 100, 321, 1234, 99990]
def pgT : List Int := [0, 0, 1, 3, 7, 20, 900]
theorem pgL_le : ∀ x ∈ pgL, x.size ≤ 2 := by decide
theorem pgL2_le : ∀ x ∈ pgL2, x.size ≤ 2 := by decide
theorem pgF_le : ∀ x ∈ pgF, 1 ≤ x ∧ x ≤ 99990 := by decide
theorem pgT_le : ∀ x ∈ pgT, 0 ≤ x ∧ x ≤ 900 := by decide
theorem pageRange_ev (c : List Int) (hc : dr c) (a b : Int) (ha : 0 ≤ a) (hb : a ≤ 800000000) : ∃ (x : ByteArray) (y z a' b' : Int), spec_l1Cur_pageRange.f c a b = some (x, y, z, a', b') ∧ x.size ≤ 2 ∧ -1 ≤ y ∧ y ≤ 99990 ∧ -2 ≤ z ∧ z ≤ 100890 ∧ 0 ≤ a' ∧ a' ≤ a + 10 := by
  obtain ⟨x1, a1, b1, e1, m1, p1, q1⟩ := of_ev c hc a b pgL ha (by omega) (by decide) (by decide)
  obtain ⟨y1, a2, b2, e2, m2, p2, q2⟩ := among_ev c hc a1 b1 pgF p1 (by omega) (by decide) (by decide)
  obtain ⟨z1, a3, b3, e3, m3, p3, q3⟩ := among_ev c hc a2 b2 pgT p2 (by omega) (by decide) (by decide)
  obtain ⟨v, a4, b4, e4, v0, v1, p4, q4⟩ := pick_ev c hc a3 b3 50 p3 (by omega) (by omega) (by omega)
  have l1 := pgL_le x1 m1
  have l2 := pgF_le y1 m2
  have l3 := pgT_le z1 m3
  have hw : wrap64 (y1 + z1) = y1 + z1 := wrap_small (by omega) (by omega)
  have hw2 : wrap64 (y1 - 1) = y1 - 1 := wrap_small (by omega) (by omega)
  unfold spec_l1Cur_pageRange.f
  show ∃ x y z a' b', (spec_l1Cur_of.f c a b pgL).bind _ = _ ∧ _
  rw [e1, Option.bind_some]
  show ∃ x y z a' b', (spec_l1Cur_among.f c a1 b1 pgF).bind _ = _ ∧ _
  rw [e2, Option.bind_some]
  show ∃ x y z a' b', (spec_l1Cur_among.f c a2 b2 pgT).bind _ = _ ∧ _
  rw [e3, Option.bind_some]
  show ∃ x y z a' b', (spec_l1Cur_pick.f c a3 b3 50).bind _ = _ ∧ _
  rw [e4, Option.bind_some]
  simp only [hw, hw2]
  by_cases c0 : v = 0
  · obtain ⟨x2, a5, b5, e5, m5, p5, q5⟩ := of_ev c hc a4 b4 pgL2 p4 (by omega) (by decide) (by decide)
    have := pgL2_le x2 m5
    rw [if_pos c0]
    show ∃ x y z a' b', (spec_l1Cur_of.f c a4 b4 pgL2).bind _ = _ ∧ _
    rw [e5]
    exact ⟨x2, y1, y1 + z1, a5, b5, rfl, this, by omega, by omega, by omega, by omega, p5, by omega⟩
  rw [if_neg c0]
  by_cases c1 : v = 1
  · obtain ⟨x2, a5, b5, e5, m5, p5, q5⟩ := among_ev c hc a4 b4 [0, (-1)] p4 (by omega) (by decide) (by decide)
    have : -1 ≤ x2 ∧ x2 ≤ 0 := by
      simp only [List.mem_cons, List.not_mem_nil, or_false] at m5
      omega
    rw [if_pos c1]
    show ∃ x y z a' b', (spec_l1Cur_among.f c a4 b4 [0, (-1)]).bind _ = _ ∧ _
    rw [e5]
    exact ⟨x1, x2, y1 + z1, a5, b5, rfl, l1, by omega, by omega, by omega, by omega, p5, by omega⟩
  rw [if_neg c1]
  by_cases c2 : v = 2
  · obtain ⟨x2, a5, b5, e5, m5, p5, q5⟩ := among_ev c hc a4 b4 [y1 - 1, 99999, 100000] p4 (by omega) (by simp) (by simp)
    have : 0 ≤ x2 ∧ x2 ≤ 100000 := by
      simp only [List.mem_cons, List.not_mem_nil, or_false] at m5
      omega
    rw [if_pos c2]
    show ∃ x y z a' b', (spec_l1Cur_among.f c a4 b4 [y1 - 1, 99999, 100000]).bind _ = _ ∧ _
    rw [e5]
    exact ⟨x1, y1, x2, a5, b5, rfl, l1, by omega, by omega, by omega, by omega, p5, by omega⟩
  rw [if_neg c2]
  exact ⟨_, _, _, _, _, rfl, l1, by omega, by omega, by omega, by omega, p4, by omega⟩
def dpg (x : Sp) : Prop := x.f0.size ≤ 2 ∧ -1 ≤ x.f1 ∧ x.f1 ≤ 99990 ∧ -2 ≤ x.f2 ∧ x.f2 ≤ 100890
theorem pages_l1 (c : List Int) (hc : dr c) : ∀ (d : Nat) (s : List Sp) (a b : Int), s.length + d = 9 → 0 ≤ a → a + 4 * d ≤ 100000 → (∀ x ∈ s, dpg x) →
    ∃ R a' b', Ev (fun k => spec_l1Cur_pages.l1 k s c a b) (R, a', b') ∧ R.length ≤ 9 ∧ (∀ x ∈ R, dpg x) ∧ 0 ≤ a' ∧ a' ≤ 200000 := fun d => by
  induction d with
  | zero =>
    intro s a b h1 h2 h3 hs
    obtain ⟨p, a1, b1, e, p0, p1, q0, q1⟩ := pick_ev c hc a b 2 h2 (by omega) (by omega) (by omega)
    refine ⟨s, a1, b1, Ev.step (f := fun _ => some (s, a1, b1)) (fun k => ?_) (Ev.now _), by omega, hs, q0, by omega⟩
    simp only [spec_l1Cur_pages.l1]
    rw [e, Option.bind_some, if_neg (by rw [wrap_small (by omega) (by omega)]; omega)]
  | succ d ih =>
    intro s a b h1 h2 h3 hs
    obtain ⟨p, a1, b1, e, p0, p1, q0, q1⟩ := pick_ev c hc a b 2 h2 (by omega) (by omega) (by omega)
    have hw : wrap64 (8 + p) = 8 + p := wrap_small (by omega) (by omega)
    have hw1 : wrap64 (10 * (s.length : Int)) = 10 * (s.length : Int) := wrap_small (by omega) (by omega)
    have hw2 : wrap64 (10 * (s.length : Int) + 3) = 10 * (s.length : Int) + 3 := wrap_small (by omega) (by omega)
    by_cases cc : (s.length : Int) < 8 + p
    · obtain ⟨R, a2, b2, e2, r⟩ := ih (s ++ [⟨⟨#[]⟩, 10 * (s.length : Int), 10 * (s.length : Int) + 3⟩]) a1 b1 (by simp; omega) q0 (by omega) (fun x hx => by
        rcases List.mem_append.1 hx with g | g
        · exact hs x g
        · rw [List.mem_singleton] at g
          rw [g]
          refine ⟨by show 0 ≤ 2; omega, ?_, ?_, ?_, ?_⟩ <;> simp only <;> omega)
      refine ⟨R, a2, b2, Ev.step (fun k => ?_) e2, r⟩
      simp only [spec_l1Cur_pages.l1]
      rw [e, Option.bind_some, hw, if_pos cc, if_pos (by omega), hw1, hw2]
    · refine ⟨s, a1, b1, Ev.step (f := fun _ => some (s, a1, b1)) (fun k => ?_) (Ev.now _), by omega, hs, q0, by omega⟩
      simp only [spec_l1Cur_pages.l1]
      rw [e, Option.bind_some, hw, if_neg cc]
theorem pages_l0 (c : List Int) (hc : dr c) : ∀ (n : Nat) (s : List Sp) (a b : Int), s.length + n ≤ 4 → 0 ≤ a → a + 20 * n ≤ 900 → (∀ x ∈ s, dpg x) →
    ∃ R a' b', Ev (fun k => spec_l1Cur_pages.l0 k s (n : Int) c a b) (R, a', b') ∧ R.length ≤ 9 ∧ (∀ x ∈ R, dpg x) ∧ 0 ≤ a' ∧ a' ≤ 200000 := fun n => by
  induction n with
  | zero =>
    intro s a b h1 h2 h3 hs
    obtain ⟨p, a1, b1, e, p0, p1, q0, q1⟩ := pick_ev c hc a b 50 h2 (by omega) (by omega) (by omega)
    by_cases c0 : p = 0
    · refine ⟨[], a1, b1, Ev.step (f := fun _ => some ([], a1, b1)) (fun k => ?_) (Ev.now _), by simp, (fun x hx => by cases hx), q0, by omega⟩
      simp only [spec_l1Cur_pages.l0]
      rw [if_neg (by decide), e, Option.bind_some, if_pos c0, if_pos (by omega)]
      rfl
    · by_cases c1 : p = 1
      · obtain ⟨R, a2, b2, e2, r⟩ := pages_l1 c hc (9 - s.length) s a1 b1 (by omega) q0 (by omega) hs
        refine ⟨R, a2, b2, Ev.step (fun k => ?_) e2, r⟩
        simp only [spec_l1Cur_pages.l0]
        rw [if_neg (by decide), e, Option.bind_some, if_neg c0, if_pos c1]
      · refine ⟨s, a1, b1, Ev.step (f := fun _ => some (s, a1, b1)) (fun k => ?_) (Ev.now _), by omega, hs, q0, by omega⟩
        simp only [spec_l1Cur_pages.l0]
        rw [if_neg (by decide), e, Option.bind_some, if_neg c0, if_neg c1]
  | succ n ih =>
    intro s a b h1 h2 h3 hs
    obtain ⟨x, y, z, a1, b1, e1, x0, y0, y1, z0, z1, q0, q1⟩ := pageRange_ev c hc a b h2 (by omega)
    have hw : wrap64 (((n + 1 : Nat) : Int) - 1) = (n : Int) := by rw [wrap_small (by omega) (by omega)]; omega
    obtain ⟨R, a2, b2, e2, r⟩ := ih (s ++ [⟨x, y, z⟩]) a1 b1 (by simp; omega) q0 (by omega) (fun v hv => by
      rcases List.mem_append.1 hv with g | g
      · exact hs v g
      · rw [List.mem_singleton] at g
        rw [g]
        exact ⟨x0, y0, y1, z0, z1⟩)
    refine ⟨R, a2, b2, Ev.step (fun k => ?_) e2, r⟩
    simp only [spec_l1Cur_pages.l0]
    rw [if_pos (by omega), e1, Option.bind_some, if_pos (by omega), hw]
theorem pages_ev (c : List Int) (hc : dr c) (a b : Int) (ha : 0 ≤ a) (hb : a ≤ 800) : ∃ R a' b', Ev (fun k => spec_l1Cur_pages.f k c a b) (R, a', b') ∧ R.length ≤ 9 ∧ (∀ x ∈ R, dpg x) ∧ 0 ≤ a' ∧ a' ≤ 200000 := by
  obtain ⟨p, a1, b1, e, p0, p1, q0, q1⟩ := pick_ev c hc a b 4 ha (by omega) (by omega) (by omega)
  obtain ⟨n, hn⟩ : ∃ n : Nat, wrap64 (1 + p) = (n : Int) ∧ n ≤ 4 := ⟨(1 + p).toNat, by rw [wrap_small (by omega) (by omega)]; omega, by omega⟩
  obtain ⟨R, a2, b2, e2, r⟩ := pages_l0 c hc n [] a1 b1 (by simp; omega) q0 (by omega) (fun x hx => by cases hx)
  refine ⟨R, a2, b2, ?_, r⟩
  unfold spec_l1Cur_pages.f
  rw [e]
  simp only [Option.bind_some, hn.1]
  exact e2
theorem dr_of (c : List Int) (h3 : ∀ x ∈ c, (Lit.int .u8 x).wf = true) (big : ¬ (c.length : Int) > 65536) : dr c := ⟨by omega, fun x hx => by
  have := h3 x hx
  simp only [Lit.wf, Bool.and_eq_true, decide_eq_true_eq] at this
  have e1 : IntKind.u8.min = 0 := rfl
  have e2 : IntKind.u8.max = 255 := rfl
  rw [e1, e2] at this
  exact this⟩
theorem drawIs_ev (c : List Int) (hc : dr c) : ∃ R, Ev (fun k => spec_DrawIsValidPages.f k c) R ∧ R.length ≤ 9 := by
  obtain ⟨R, a, b, e, h, _⟩ := pages_ev c hc 0 0 (by omega) (by omega)
  exact ⟨R, Ev.bind e (Ev.now _), h⟩

/-! what a merge does: its parts are apart, and cover what was merged -/
theorem ev_uniq {α : Type} {g : Nat → Option α} {a b : α} (h1 : Ev g a) (h2 : Ev g b) : a = b := by
  obtain ⟨K1, h1⟩ := h1
  obtain ⟨K2, h2⟩ := h2
  exact Option.some.inj ((h1 (max K1 K2) (by omega)).symm.trans (h2 (max K1 K2) (by omega)))
def aprt (x y : Sp) : Prop := lcode x.f0 < lcode y.f0 ∨ lcode x.f0 = lcode y.f0 ∧ x.f2 + 1 < y.f1
abbrev Aprt (l : List Sp) : Prop := l.Pairwise aprt
def cov (out : List Sp) (x : Sp) : Prop := ∃ y ∈ out, y.f0 = x.f0 ∧ y.f1 ≤ x.f1 ∧ x.f2 ≤ y.f2
theorem key1_le (x y : Sp) (hx : okr x = true) (hy : okr y = true) (h : key1 x ≤ key1 y) : lcode x.f0 < lcode y.f0 ∨ lcode x.f0 = lcode y.f0 ∧ x.f1 ≤ y.f1 := by
  obtain ⟨_, x1, x2, x3⟩ := okr_parts x hx
  obtain ⟨_, y1, y2, y3⟩ := okr_parts y hy
  unfold key1 at h
  omega
theorem letter_inj (s t : ByteArray) (hs : letter s = true) (ht : letter t = true) (h : lcode s = lcode t) : s = t := str_inj _ _ ((same_code s t hs ht).2 h)
theorem join2_ok (L r : Sp) (hL : okr L = true) (hr : okr r = true) : okr (join2 L r) = true := by
  obtain ⟨l0, l1, l2, l3⟩ := okr_parts L hL
  obtain ⟨r0, r1, r2, r3⟩ := okr_parts r hr
  unfold okr join2 mx
  simp only [Bool.and_eq_true, decide_eq_true_eq]
  refine ⟨l0, l1, ?_, ?_⟩ <;> split <;> omega
theorem fold_apart : ∀ (R out : List Sp), (∀ x ∈ out, okr x = true) → (∀ x ∈ R, okr x = true) → Aprt out → Srt key1 R → (∀ x ∈ out, ∀ y ∈ R, key1 x ≤ key1 y) →
    (∀ x ∈ R.foldl stp out, okr x = true) ∧ Aprt (R.foldl stp out) ∧ (∀ x, cov out x ∨ x ∈ R → cov (R.foldl stp out) x)
  | [], out, o, _, s, _, _ => ⟨o, s, fun x h => by
    rcases h with h | h
    · exact h
    · cases h⟩
  | r :: R, out, o, oR, s, sR, h => by
    have orr := oR r (by simp)
    have sR' := List.pairwise_cons.1 sR
    rcases nil_or_snoc out with rfl | ⟨O, L, rfl⟩
    · obtain ⟨a, b, c⟩ := fold_apart R [r] (by simpa using orr) (fun x hx => oR x (List.mem_cons_of_mem _ hx)) (List.pairwise_singleton _ _) sR'.2 (fun x hx y hy => by
        rw [List.mem_singleton.1 hx]; exact sR'.1 y hy)
      refine ⟨a, b, fun x hx => c x ?_⟩
      rcases hx with ⟨y, hy, _⟩ | hx
      · cases hy
      · rcases List.mem_cons.1 hx with rfl | hx
        · exact .inl ⟨x, by simp, rfl, Int.le_refl _, Int.le_refl _⟩
        · exact .inr hx
    · have oL := o L (by simp)
      have lr := key1_le L r oL orr (h L (by simp) r (by simp))
      obtain ⟨lL, l1, l2, l3⟩ := okr_parts L oL
      obtain ⟨lr0, r1, r2, r3⟩ := okr_parts r orr
      have sO := List.pairwise_append.1 s
      rw [List.foldl_cons, stp_snoc]
      by_cases c : joins L r
      · rw [if_pos c]
        have g := mx_ge L.f2 r.f2
        have ec : lcode L.f0 = lcode r.f0 := (same_code _ _ lL lr0).1 c.1
        have e0 : L.f0 = r.f0 := str_inj _ _ c.1
        obtain ⟨a, b, d⟩ := fold_apart R (O ++ [join2 L r]) (fun x hx => by
            rcases List.mem_append.1 hx with hx | hx
            · exact o x (List.mem_append_left _ hx)
            · rw [List.mem_singleton.1 hx]; exact join2_ok L r oL orr) (fun x hx => oR x (List.mem_cons_of_mem _ hx))
          (List.pairwise_append.2 ⟨sO.1, List.pairwise_singleton _ _, fun x hx y hy => by
            rw [List.mem_singleton.1 hy]
            exact sO.2.2 x hx L (by simp)⟩) sR'.2 (fun x hx y hy => by
            rcases List.mem_append.1 hx with hx | hx
            · exact h x (List.mem_append_left _ hx) y (List.mem_cons_of_mem _ hy)
            · rw [List.mem_singleton.1 hx]; exact h L (by simp) y (List.mem_cons_of_mem _ hy))
        refine ⟨a, b, fun x hx => d x ?_⟩
        rcases hx with ⟨y, hy, q0, q1, q2⟩ | hx
        · rcases List.mem_append.1 hy with hy | hy
          · exact .inl ⟨y, List.mem_append_left _ hy, q0, q1, q2⟩
          · rw [List.mem_singleton.1 hy] at q0 q1 q2
            exact .inl ⟨join2 L r, by simp, q0, q1, by show x.f2 ≤ mx L.f2 r.f2; omega⟩
        · rcases List.mem_cons.1 hx with rfl | hx
          · exact .inl ⟨join2 L x, by simp, e0, by show L.f1 ≤ x.f1; omega, g.2⟩
          · exact .inr hx
      · rw [if_neg c]
        have hn : aprt L r := by
          rcases lr with q | ⟨q, q2⟩
          · exact .inl q
          · refine .inr ⟨q, ?_⟩
            have : ¬ r.f1 ≤ L.f2 + 1 := fun e => c ⟨(same_code _ _ lL lr0).2 q, e⟩
            omega
        obtain ⟨a, b, d⟩ := fold_apart R (O ++ [L] ++ [r]) (fun x hx => by
            rcases List.mem_append.1 hx with hx | hx
            · exact o x hx
            · rw [List.mem_singleton.1 hx]; exact orr) (fun x hx => oR x (List.mem_cons_of_mem _ hx))
          (List.pairwise_append.2 ⟨s, List.pairwise_singleton _ _, fun x hx y hy => by
            rw [List.mem_singleton.1 hy]
            rcases List.mem_append.1 hx with hx | hx
            · have q := sO.2.2 x hx L (by simp)
              unfold aprt at *
              omega
            · rw [List.mem_singleton.1 hx]; exact hn⟩) sR'.2 (fun x hx y hy => by
            rcases List.mem_append.1 hx with hx | hx
            · exact h x hx y (List.mem_cons_of_mem _ hy)
            · rw [List.mem_singleton.1 hx]; exact sR'.1 y hy)
        refine ⟨a, b, fun x hx => d x ?_⟩
        rcases hx with ⟨y, hy, q⟩ | hx
        · exact .inl ⟨y, List.mem_append_left _ hy, q⟩
        · rcases List.mem_cons.1 hx with rfl | hx
          · exact .inl ⟨x, by simp, rfl, Int.le_refl _, Int.le_refl _⟩
          · exact .inr hx
theorem fold_same : ∀ (R out : List Sp), (∀ x ∈ out ++ R, okr x = true) → Aprt (out ++ R) → R.foldl stp out = out ++ R
  | [], out, _, _ => by simp
  | r :: R, out, o, s => by
    have e : stp out r = out ++ [r] := by
      rcases nil_or_snoc out with rfl | ⟨O, L, rfl⟩
      · rfl
      · rw [stp_snoc, if_neg]
        intro c
        have q : aprt L r := (List.pairwise_append.1 s).2.2 L (by simp) r (by simp)
        have l1 := (okr_parts L (o L (by simp))).1
        have l2 := (okr_parts r (o r (by simp))).1
        have := (same_code _ _ l1 l2).1 c.1
        have := c.2
        unfold aprt at q
        omega
    rw [List.foldl_cons, e, fold_same R (out ++ [r]) (by simpa using o) (by simpa using s)]
    simp
theorem apart_srt (M : List Sp) (o : ∀ x ∈ M, okr x = true) (s : Aprt M) : Srt key1 M := s.imp_of_mem fun {a b} ha hb hab => by
  obtain ⟨_, x1, x2, x3⟩ := okr_parts a (o a ha)
  obtain ⟨_, y1, y2, y3⟩ := okr_parts b (o b hb)
  unfold aprt at hab
  unfold key1
  omega
theorem fold_pos : ∀ (R out : List Sp), 0 < out.length ∨ 0 < R.length → 0 < (R.foldl stp out).length
  | [], out, h => by simpa using h
  | r :: R, out, _ => fold_pos R (stp out r) (.inl (by
    unfold stp
    split
    · rw [List.length_set]; omega
    · simp))
theorem merge_full (L : List Sp) (h : okl L = true) : ∃ M : List Sp, okl M = true ∧ Ev (fun k => spec_l7Merge.f k L) M ∧ Ev (fun k => impl_mergePages.f k L) M ∧ Ev (fun k => spec_l7Merge.f k M) M ∧ Ev (fun k => impl_mergePages.f k M) M ∧ ∀ x ∈ L, cov M x := by
  have h' := Bool.and_eq_true_iff.1 h
  have oL := List.all_eq_true.1 h'.1
  have hn0 := Bool.and_eq_true_iff.1 h'.2
  have hn : L.length ≤ 8 := of_decide_eq_true hn0.2
  have hn1 : 1 ≤ L.length := of_decide_eq_true hn0.1
  obtain ⟨R, _, e1, e2⟩ := merge_both L h
  obtain ⟨S, p, s, e⟩ := spec_merge L (by omega) oL
  obtain rfl := ev_uniq e e1
  have fa := fold_apart S [] (fun x hx => by cases hx) (fun x hx => oL x (p.subset hx)) List.Pairwise.nil s (fun x hx => by cases hx)
  obtain ⟨oM, aM, cM⟩ := fa
  have hlen : (S.foldl stp []).length ≤ 8 := by
    have := fold_len S []
    rw [p.length_eq] at this
    simp at this
    omega
  have hpos : 1 ≤ (S.foldl stp []).length := fold_pos S [] (.inr (by rw [p.length_eq]; omega))
  have hcov : ∀ x ∈ L, cov (S.foldl stp []) x := fun x hx => cM x (.inr (p.symm.subset hx))
  generalize S.foldl stp [] = M at *
  have okM : okl M = true := by
    unfold okl inN
    rw [Bool.and_eq_true, Bool.and_eq_true]
    exact ⟨List.all_eq_true.2 oM, decide_eq_true hpos, decide_eq_true hlen⟩
  obtain ⟨R2, _, g1, g2⟩ := merge_both M okM
  obtain ⟨S2, p2, s2, e3⟩ := spec_merge M (by omega) oM
  have same : S2.foldl stp [] = M := by
    rw [fold_perm S2 M [] p2 s2 (apart_srt M oM aM) (fun x hx => oM x (p2.subset hx))]
    exact fold_same M [] (by simpa using oM) (by simpa using aM)
  rw [same] at e3
  have hR := ev_uniq e3 g1
  rw [← hR] at g1 g2
  exact ⟨M, okM, e1, e2, g1, g2, hcov⟩
theorem count_full (L M : List Sp) (hM : M.length ≤ 100) (e1 : Ev (fun k => impl_mergePages.f k L) M) (e2 : Ev (fun k => impl_mergePages.f k M) M) : ∃ r, Ev (fun k => impl_countPages.f k L) r ∧ Ev (fun k => impl_countPages.f k M) r := by
  obtain ⟨r, f1, f2⟩ := count_same M hM M.length 0 0 (by omega)
  exact ⟨r, Ev.bind e1 f2, Ev.bind e2 f2⟩
theorem rRanges_l0 (l : List Sp) (hl : l.length ≤ 1048576) : ∀ (d i : Nat), i + d = l.length → Ev (fun k => laws_rRanges.l0 k l l (i : Int)) true
  | 0, i, hi => by
    refine Ev.step (f := fun _ => some true) (fun k => ?_) (Ev.now _)
    simp only [laws_rRanges.l0]
    rw [if_neg (by omega)]
  | d + 1, i, hi => by
    have hw : wrap64 ((i : Int) + 1) = ((i + 1 : Nat) : Int) := by rw [wrap_small (by omega) (by omega)]; rfl
    refine Ev.step (fun k => ?_) (rRanges_l0 l hl d (i + 1) (by omega))
    simp only [laws_rRanges.l0, hw]
    simp [show (i : Int) < (l.length : Int) from by omega, show (0 : Int) ≤ (i : Int) from by omega]
theorem rRanges_ev (l : List Sp) (hl : l.length ≤ 1048576) : Ev (fun k => laws_rRanges.f k l l) true := by
  unfold laws_rRanges.f
  exact Ev.congr (fun _ => if_pos rfl) (rRanges_l0 l hl l.length 0 (by omega))
theorem hasPage_true (M : List Sp) (hM : okl M = true) (s : ByteArray) (n : Int) (hs : letter s = true) (hn : 1 ≤ n ∧ n ≤ 99999) (h : ∃ y ∈ M, y.f0 = s ∧ y.f1 ≤ n ∧ n ≤ y.f2) : impl_HasPage.f M s n = some (true, true) := by
  obtain ⟨y, hy, q0, q1, q2⟩ := h
  have hin := impl_HasPage.inside_eq
  have hany : M.any (impl_HasPage.hit s n) = true := List.any_eq_true.2 ⟨y, hy, by
    unfold impl_HasPage.hit
    rw [q0, beq_self_eq_true, Bool.true_and, decide_eq_true (show n ≥ y.f1 from q1), decide_eq_true (show n ≤ y.f2 from q2)]
    rfl⟩
  unfold impl_HasPage.f
  simp only [implValid_eq, isPartLetter_eq, hin, Option.bind_some, hM, hs, hany]
  rw [decide_eq_true (show n ≥ 1 from hn.1), decide_eq_true (show n ≤ 99999 from hn.2)]
  simp

def locW : List ByteArray := [(⟨#[112, 97, 103, 101]⟩ : ByteArray), (⟨#[112, 97, 103, 101]⟩ : ByteArray), (⟨#[108, 105, 110, 101]⟩ : ByteArray), (⟨#[99, 104, 97, 112, 116, 101, 114]⟩ : ByteArray), (⟨#[115, 101, 99, 116, 105, 111, 110]⟩ : ByteArray), (⟨#[118, 101, 114, 115, 101]⟩ : ByteArray)]
theorem drawLoc_ev (c : List Int) (hc : dr c) : ∃ t R, Ev (fun k => spec_DrawLocatorText.f k c) (t, R) ∧ R.length ≤ 9 := by
  obtain ⟨t, a1, b1, e1, _, p1, q1⟩ := of_ev c hc 0 0 locW (by omega) (by omega) (by decide) (by decide)
  obtain ⟨R, a, b, e, h, _⟩ := pages_ev c hc a1 b1 p1 (by omega)
  refine ⟨t, R, ?_, h⟩
  unfold spec_DrawLocatorText.f
  refine Ev.congr (f := fun k => (spec_l1Cur_pages.f k c a1 b1).bind fun bt => some (t, bt.1)) (fun k => ?_) (Ev.bind e (Ev.now _))
  show (spec_l1Cur_of.f c 0 0 locW).bind _ = _
  rw [e1]
  rfl
theorem sets_l0 (c : List Int) (hc : dr c) (L M : List Sp) (hM : okl M = true) (hl : L.length ≤ 8) (oL : ∀ x ∈ L, okr x = true) (hcov : ∀ x ∈ L, cov M x) : ∀ (d i : Nat), i + d = L.length → Ev (fun k => laws_FnPageSets.l0 k c L M (i : Int)) true
  | 0, i, hi => by
    obtain ⟨t, R, e, hR⟩ := drawLoc_ev c hc
    obtain ⟨Q, g1, g2⟩ := Locator_both t R (by omega)
    refine Ev.step (f := fun k => (spec_DrawLocatorText.f k c).bind fun bt431 => ((impl_LocatorText.f k bt431.1 bt431.2).bind fun bt435 => ((spec_LocatorText.f k bt431.1 bt431.2).bind fun bt437 => (if bt435.1.toList = bt437.1.toList then (some (bt435.2 == bt437.2)) else (some false))))) (fun k => ?_) (Ev.bind e (Ev.bind g2 (Ev.bind g1 (Ev.congr (fun _ => if_pos rfl) ?_))))
    · simp only [laws_FnPageSets.l0]
      rw [if_neg (by omega)]
    · rw [beq_self_eq_true]
      exact Ev.now _
  | d + 1, i, hi => by
    have hlt : i < L.length := by omega
    have e : rd_T34 L (i : Int) = L[i] := by
      rw [rdT, Int.toNat_natCast, List.getD_eq_getElem?_getD, List.getElem?_eq_getElem hlt]
      rfl
    have hm : L[i] ∈ L := List.getElem_mem hlt
    obtain ⟨y, hy, q0, q1, q2⟩ := hcov _ hm
    obtain ⟨l0, l1, l2, l3⟩ := okr_parts _ (oL _ hm)
    have hw : wrap64 ((i : Int) + 1) = ((i + 1 : Nat) : Int) := by rw [wrap_small (by omega) (by omega)]; rfl
    refine Ev.step (fun k => ?_) (sets_l0 c hc L M hM hl oL hcov d (i + 1) (by omega))
    simp only [laws_FnPageSets.l0, e, hw]
    rw [if_pos (by omega), if_pos (by omega), hasPage_true M hM L[i].f0 L[i].f1 l0 ⟨by omega, by omega⟩ ⟨y, hy, q0, by omega, by omega⟩, Option.bind_some, hasPage_true M hM L[i].f0 L[i].f2 l0 ⟨by omega, by omega⟩ ⟨y, hy, q0, by omega, by omega⟩, Option.bind_some]
    rfl
theorem FnPageSets : laws_FnPageSets.Pure := by
  intro c h1 _ h3
  refine Ev.rounds (g := fun k => laws_FnPageSets.f k c) ?_
  unfold laws_FnPageSets.f laws_rBig.f
  simp only [Option.bind_some]
  by_cases big : (c.length : Int) > 65536
  · exact Ev.congr (fun _ => if_pos (decide_eq_true big)) (Ev.now true)
  have hc := dr_of c h3 big
  refine Ev.congr (fun _ => if_neg (by rw [decide_eq_false big]; decide)) ?_
  obtain ⟨L, d, hL⟩ := drawIs_ev c hc
  have d2 : Ev (fun k => spec_DrawMergePages.f k c) L := Ev.bind d (Ev.now _)
  have g := good_ev L (by omega)
  cases ho : okl L with
  | false =>
    rw [ho] at g
    have m1 : Ev (fun k => spec_MergePages.f k L) (([] : List Sp), false) := Ev.bind g (Ev.congr (fun _ => if_neg (by decide)) (Ev.now _))
    have m2 : Ev (fun k => impl_MergePages.f k L) (([] : List Sp), false) := by
      unfold impl_MergePages.f
      simp only [implValid_eq, ho]
      exact Ev.now _
    refine Ev.bind d2 (Ev.bind m2 (Ev.bind m1 (Ev.congr (fun _ => if_neg (by decide)) (Ev.bind (rRanges_ev [] (by simp)) (Ev.congr (fun _ => if_pos rfl) ?_)))))
    refine Ev.step (f := fun k => (laws_rRanges.f k ([] : List Sp) ([] : List Sp)).bind fun t421 => (some t421)) (fun k => ?_) (Ev.bind (rRanges_ev [] (by simp)) (Ev.now _))
    simp only [laws_FnPageSets.j0, Bool.not_false, if_true]
    rfl
  | true =>
    rw [ho] at g
    obtain ⟨M, oM, e1, e2, e3, e4, hcov⟩ := merge_full L ho
    have pL := okl_parts L ho
    have pM := okl_parts M oM
    have gM := good_ev M (by omega)
    rw [oM] at gM
    have m1 : Ev (fun k => spec_MergePages.f k L) (M, true) := Ev.bind g (Ev.congr (fun _ => if_pos rfl) (Ev.bind e1 (Ev.now _)))
    have m2 : Ev (fun k => impl_MergePages.f k L) (M, true) := by
      unfold impl_MergePages.f
      simp only [implValid_eq, ho]
      exact Ev.bind (Ev.now true) (Ev.congr (fun _ => if_pos rfl) (Ev.bind e2 (Ev.now _)))
    have m4 : Ev (fun k => impl_MergePages.f k M) (M, true) := by
      unfold impl_MergePages.f
      simp only [implValid_eq, oM]
      exact Ev.bind (Ev.now true) (Ev.congr (fun _ => if_pos rfl) (Ev.bind e4 (Ev.now _)))
    obtain ⟨n, n1, n2⟩ := count_full L M (by omega) e2 e4
    have k1 : Ev (fun k => impl_CountPages.f k L) (n, true) := by
      unfold impl_CountPages.f
      simp only [implValid_eq, ho]
      exact Ev.bind (Ev.now true) (Ev.congr (fun _ => if_pos rfl) (Ev.bind n1 (Ev.now _)))
    have k2 : Ev (fun k => impl_CountPages.f k M) (n, true) := by
      unfold impl_CountPages.f
      simp only [implValid_eq, oM]
      exact Ev.bind (Ev.now true) (Ev.congr (fun _ => if_pos rfl) (Ev.bind n2 (Ev.now _)))
    have rr := rRanges_ev M (by omega)
    refine Ev.bind d2 (Ev.bind m2 (Ev.bind m1 (Ev.congr (fun _ => if_neg (by simp)) (Ev.bind rr (Ev.congr (fun _ => if_pos rfl) ?_)))))
    refine Ev.step (f := fun k => ((impl_CountPages.f k L).bind fun bt422 => ((impl_CountPages.f k M).bind fun bt424 => ((impl_MergePages.f k M).bind fun bt426 => (if bt422.2 = true then (if bt424.2 = true then (if bt426.2 = true then (if bt422.1 = bt424.1 then ((laws_rRanges.f k bt426.1 M).bind fun t430 => (laws_FnPageSets.j1 k c L M (!t430))) else (laws_FnPageSets.j1 k c L M true)) else (laws_FnPageSets.j1 k c L M true)) else (laws_FnPageSets.j1 k c L M true)) else (laws_FnPageSets.j1 k c L M true)))))) (fun k => ?_) (Ev.bind k1 (Ev.bind k2 (Ev.bind m4 (Ev.congr (fun _ => (if_pos rfl).trans ((if_pos rfl).trans ((if_pos rfl).trans (if_pos rfl)))) (Ev.bind rr ?_)))))
    · simp only [laws_FnPageSets.j0, Bool.not_true]
      rw [if_neg (by decide)]
    · refine Ev.step (fun k => ?_) (sets_l0 c hc L M oM pL.2.2 pL.1 hcov L.length 0 (by omega))
      simp only [laws_FnPageSets.j1, Bool.not_true]
      rw [if_neg (by decide)]
      rfl

end Go.Proofs.YtmemcncbkgcbeaaDoor.Pure
