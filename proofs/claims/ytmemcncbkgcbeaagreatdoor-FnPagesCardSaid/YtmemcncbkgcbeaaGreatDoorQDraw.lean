/- Lemmas on the printed functions, without Go and memory. -/
import Derived.Laws.BitsAllLaws
import Derived.Test.YtmemcncbkgcbeaaGreatDoorPx1
import Derived.Test.YtmemcncbkgcbeaaGreatDoorPx2
import Derived.Test.YtmemcncbkgcbeaaGreatDoorPx3
import Derived.Test.YtmemcncbkgcbeaaGreatDoorPx4
import Derived.Test.YtmemcncbkgcbeaaGreatDoorPx5
import Derived.Test.YtmemcncbkgcbeaaGreatDoorPx7
import Derived.Test.YtmemcncbkgcbeaaGreatDoorQExp
namespace Go.Proofs.YtmemcncbkgcbeaaGreatDoor.Pure
open Go.RowKit Go.Proofs.YtmemcncbkgcbeaaGreatDoor.Px Go.Proofs.YtmemcncbkgcbeaaGreatDoorW.PrintWords Go.Proofs.YtmemcncbkgcbeaaGreatDoorW.PrintLast
set_option linter.unusedVariables false
set_option linter.unusedSimpArgs false

def dr (c : List Int) : Prop := c.length ≤ 65536 ∧ ∀ x ∈ c, 0 ≤ x ∧ x ≤ 255
theorem rd_dr (c : List Int) (h : dr c) (a : Int) : 0 ≤ rd c a ∧ rd c a ≤ 255 := by
  unfold rd
  rw [List.getD_eq_getElem?_getD]
  cases hg : c[a.toNat]? with
  | none => simp
  | some x =>
    obtain ⟨h1, h2⟩ := List.getElem?_eq_some_iff.1 hg
    have := h.2 x (by rw [← h2]; exact List.getElem_mem h1)
    simpa using this
theorem wrap_u64 (y : Int) : 0 ≤ IntKind.u64.wrap y ∧ IntKind.u64.wrap y < 18446744073709551616 := by
  have e : IntKind.u64.wrap y = y % 18446744073709551616 := by
    simp [IntKind.wrap, IntKind.signed, IntKind.bits]
  rw [e]
  omega
theorem low_byte (y : Int) : 0 ≤ Go.bits .and .u64 (IntKind.u64.wrap y / 1099511627776) 255 ∧ Go.bits .and .u64 (IntKind.u64.wrap y / 1099511627776) 255 ≤ 255 := by
  obtain ⟨h1, h2⟩ := wrap_u64 y
  generalize IntKind.u64.wrap y = z at *
  have h3 : 0 ≤ z / 1099511627776 := by omega
  have h4 : z / 1099511627776 < 18446744073709551616 := by omega
  rw [u64_and _ 255 h3 h4 (by decide) (by decide)]
  have := Nat.and_le_right (n := (z / 1099511627776).toNat) (m := (255 : Int).toNat)
  have e : (255 : Int).toNat = 255 := rfl
  omega
theorem next_ev (c : List Int) (hc : dr c) (a b : Int) (ha : 0 ≤ a) (hb : a ≤ 1000000000) : ∃ x b', spec_l1Cur_next.f c a b = some (x, a + 1, b') ∧ 0 ≤ x ∧ x ≤ 255 := by
  have hw : wrap64 (a + 1) = a + 1 := wrap_small (by omega) (by omega)
  have hr := rd_dr c hc a
  have hl := hc.1
  have hx : wrap64 (rd c a) = rd c a := wrap_small (by omega) (by omega)
  have lo : ∀ y : Int, 0 ≤ wrap64 (Go.bits .and .u64 (IntKind.u64.wrap y / 1099511627776) 255) ∧ wrap64 (Go.bits .and .u64 (IntKind.u64.wrap y / 1099511627776) 255) ≤ 255 := fun y => by
    obtain ⟨h1, h2⟩ := low_byte y
    rw [wrap_small (by omega) (by omega)]
    exact ⟨h1, h2⟩
  unfold spec_l1Cur_next.f
  rw [hw, hx]
  by_cases c1 : a < (c.length : Int)
  · rw [if_pos c1, if_pos ha]
    by_cases c2 : a + 1 ≤ (c.length : Int)
    · rw [if_pos c2]
      exact ⟨_, _, rfl, hr⟩
    · rw [if_neg c2]
      exact ⟨_, _, rfl, lo _⟩
  · rw [if_neg c1]
    by_cases c2 : a + 1 ≤ (c.length : Int)
    · rw [if_pos c2]
      exact ⟨_, _, rfl, by omega, by omega⟩
    · rw [if_neg c2]
      exact ⟨_, _, rfl, lo _⟩
theorem tmod_in (x n : Int) (hx : 0 ≤ x) (hn : 0 < n) : 0 ≤ Int.tmod x n ∧ Int.tmod x n < n := by
  rw [Int.tmod_eq_emod_of_nonneg hx]
  exact ⟨Int.emod_nonneg _ (by omega), Int.emod_lt_of_pos _ hn⟩
theorem pick_ev (c : List Int) (hc : dr c) (a b n : Int) (ha : 0 ≤ a) (hb : a ≤ 900000000) (hn : 1 ≤ n) (hn2 : n ≤ 1000000000) : ∃ x a' b', spec_l1Cur_pick.f c a b n = some (x, a', b') ∧ 0 ≤ x ∧ x < n ∧ 0 ≤ a' ∧ a' ≤ a + 2 := by
  unfold spec_l1Cur_pick.f
  by_cases c1 : n ≤ 1
  · rw [if_pos c1]
    exact ⟨_, _, _, rfl, by omega, by omega, ha, by omega⟩
  · obtain ⟨x, b1, e1, x0, x1⟩ := next_ev c hc a b ha (by omega)
    rw [if_neg c1, e1, Option.bind_some]
    by_cases c2 : n > 200
    · obtain ⟨y, b2, e2, y0, y1⟩ := next_ev c hc (a + 1) b1 (by omega) (by omega)
      rw [if_pos c2]
      simp only [e2, Option.bind_some]
      rw [if_neg (by omega)]
      have hw : wrap64 (wrap64 (x * 256) + y) = x * 256 + y := by rw [wrap_small (x := x * 256) (by omega) (by omega), wrap_small (by omega) (by omega)]
      rw [hw]
      obtain ⟨t0, t1⟩ := tmod_in (x * 256 + y) n (by omega) (by omega)
      exact ⟨_, _, _, rfl, t0, t1, by omega, by omega⟩
    · rw [if_neg c2, if_neg (by omega)]
      obtain ⟨t0, t1⟩ := tmod_in x n x0 (by omega)
      exact ⟨Int.tmod x n, a + 1, b1, rfl, t0, t1, by omega, by omega⟩
theorem one_ev (c : List Int) (hc : dr c) (a b n : Int) (ha : 0 ≤ a) (hb : a ≤ 900000000) (hn : 1 ≤ n) (hn2 : n ≤ 1000000000) : ∃ x a' b', spec_l1Cur_one.f c a b n = some (x, a', b') ∧ 0 ≤ a' ∧ a' ≤ a + 2 := by
  obtain ⟨x, a', b', e, _, _, h3, h4⟩ := pick_ev c hc a b n ha hb hn hn2
  unfold spec_l1Cur_one.f
  rw [e]
  exact ⟨_, _, _, rfl, h3, h4⟩
theorem of_ev (c : List Int) (hc : dr c) (a b : Int) (l : List ByteArray) (ha : 0 ≤ a) (hb : a ≤ 900000000) (hn : 1 ≤ l.length) (hn2 : l.length ≤ 1000000) : ∃ x a' b', spec_l1Cur_of.f c a b l = some (x, a', b') ∧ x ∈ l ∧ 0 ≤ a' ∧ a' ≤ a + 2 := by
  obtain ⟨x, a', b', e, h1, h2, h3, h4⟩ := pick_ev c hc a b (l.length : Int) ha hb (by omega) (by omega)
  unfold spec_l1Cur_of.f
  rw [e, Option.bind_some, if_pos h1, if_pos h2]
  refine ⟨_, _, _, rfl, ?_, h3, h4⟩
  unfold rdOf
  rw [List.getD_eq_getElem?_getD, List.getElem?_eq_getElem (by omega)]
  exact List.getElem_mem _
theorem spoilt_at (c : List Int) (hc : dr c) (a b : Int) (t w : ByteArray) (ha : 0 ≤ a) (hb : a ≤ 800000000) (ht : t.size ≤ 1000000) (hw0 : 1 ≤ w.size) (hw : w.size ≤ 1000000) : ∃ x a' b', spec_l1Cur_spoilt.f c a b t w = some (x, a', b') ∧ x.size ≤ t.size + 1 ∧ 0 ≤ a' ∧ a' ≤ a + 6 := by
  unfold spec_l1Cur_spoilt.f
  by_cases z : t.size = 0
  · rw [if_pos z, if_pos hw0]
    exact ⟨_, _, _, rfl, by rw [ByteArray.size_extract]; omega, by omega, by omega⟩
  · obtain ⟨i, a1, b1, e1, i0, i1, g0, g1⟩ := pick_ev c hc a b (t.size : Int) ha (by omega) (by omega) (by omega)
    obtain ⟨j, a2, b2, e2, j0, j1, h0, h1⟩ := pick_ev c hc a1 b1 (w.size : Int) g0 (by omega) (by omega) (by omega)
    obtain ⟨v, a3, b3, e3, v0, v1, k0, k1⟩ := pick_ev c hc a2 b2 3 h0 (by omega) (by omega) (by omega)
    rw [if_neg z, e1, Option.bind_some]
    simp only [e2, e3, Option.bind_some]
    rw [if_pos ⟨⟨j0, j1⟩, ⟨i0, i1⟩, by omega⟩]
    refine ⟨_, _, _, rfl, ?_, k0, by omega⟩
    unfold spec_l1Cur_spoilt.res
    split
    · simp only [ByteArray.size_append, ByteArray.size_extract]; omega
    · split <;> simp only [ByteArray.size_append, ByteArray.size_extract] <;> omega
theorem spoilt_ev (c : List Int) (hc : dr c) (a b : Int) (t w : ByteArray) (ha : 0 ≤ a) (hb : a ≤ 800000000) (ht : t.size ≤ 1000000) (hw0 : 1 ≤ w.size) (hw : w.size ≤ 1000000) : ∃ x a' b', spec_l1Cur_spoilt.f c a b t w = some (x, a', b') ∧ x.size ≤ t.size + 1 := by
  obtain ⟨x, a', b', e, h, _⟩ := spoilt_at c hc a b t w ha hb ht hw0 hw
  exact ⟨x, a', b', e, h⟩

theorem among_ev (c : List Int) (hc : dr c) (a b : Int) (l : List Int) (ha : 0 ≤ a) (hb : a ≤ 900000000) (hn : 1 ≤ l.length) (hn2 : l.length ≤ 1000000) : ∃ x a' b', spec_l1Cur_among.f c a b l = some (x, a', b') ∧ x ∈ l ∧ 0 ≤ a' ∧ a' ≤ a + 2 := by
  obtain ⟨x, a', b', e, h1, h2, h3, h4⟩ := pick_ev c hc a b (l.length : Int) ha hb (by omega) (by omega)
  unfold spec_l1Cur_among.f
  rw [e, Option.bind_some, if_pos h1, if_pos h2]
  refine ⟨_, _, _, rfl, ?_, h3, h4⟩
  unfold rd
  rw [List.getD_eq_getElem?_getD, List.getElem?_eq_getElem (by omega)]
  exact List.getElem_mem _
def pgL : List ByteArray := [(⟨#[]⟩ : ByteArray), (⟨#[]⟩ : ByteArray), (⟨#[]⟩ : ByteArray), (⟨#[65]⟩ : ByteArray), (⟨#[66]⟩ : ByteArray)]
def pgL2 : List ByteArray := [(⟨#[97]⟩ : ByteArray), (⟨#[65, 66]⟩ : ByteArray), (⟨#[49]⟩ : ByteArray), (⟨#[90]⟩ : ByteArray)]
def pgF : List Int := [1, 5, 12, 99, 100, 321, 1234, 99990]
def pgT : List Int := [0, 0, 1, 3, 7, 20, 900]
theorem pgL_le : ∀ x ∈ pgL, x.size ≤ 2 := by decide
theorem pgL2_le : ∀ x ∈ pgL2, x.size ≤ 2 := by decide
theorem pgF_le : ∀ x ∈ pgF, 1 ≤ x ∧ x ≤ 99990 := by decide
theorem pgT_le : ∀ x ∈ pgT, 0 ≤ x ∧ x ≤ 900 := by decide
theorem pageRange_ev (c : List Int) (hc : dr c) (a b : Int) (ha : 0 ≤ a) (hb : a ≤ 800000000) : ∃ (x : ByteArray) (y z a' b' : Int), spec_l1Cur_pageRange.f c a b = some (x, y, z, a', b') ∧ x.size ≤ 2 ∧ -1 ≤ y ∧ y ≤ 99990 ∧ -2 ≤ z ∧ z ≤ 100890 ∧ 0 ≤ a' ∧ a' ≤ a + 10 := by
  obtain ⟨x1, a1, b1, e1, m1, p1, q1⟩ := of_ev c hc a b pgL ha (by omega) (by decide) (by decide)
  obtain ⟨y1, a2, b2, e2, m2, p2, q2⟩ := among_ev c hc a1 b1 pgF p1 (by omega) (by decide) (by decide)
  obtain ⟨z1, a3, b3, e3, m3, p3, q3⟩ := among_ev c hc a2 b2 pgT p2 (by omega) (by decide) (by decide)
  obtain ⟨v, a4, b4, e4, v0, v1, p4, q4⟩ := pick_ev c hc a3 b3 50 p3 (by omega) (by omega) (by omega)
  have l1 := pgL_le x1 m1
  have l2 := pgF_le y1 m2
  have l3 := pgT_le z1 m3
  have hw : wrap64 (y1 + z1) = y1 + z1 := wrap_small (by omega) (by omega)
  have hw2 : wrap64 (y1 - 1) = y1 - 1 := wrap_small (by omega) (by omega)
  unfold spec_l1Cur_pageRange.f
  show ∃ x y z a' b', (spec_l1Cur_of.f c a b pgL).bind _ = _ ∧ _
  rw [e1, Option.bind_some]
  show ∃ x y z a' b', (spec_l1Cur_among.f c a1 b1 pgF).bind _ = _ ∧ _
  rw [e2, Option.bind_some]
  show ∃ x y z a' b', (spec_l1Cur_among.f c a2 b2 pgT).bind _ = _ ∧ _
  rw [e3, Option.bind_some]
  show ∃ x y z a' b', (spec_l1Cur_pick.f c a3 b3 50).bind _ = _ ∧ _
  rw [e4, Option.bind_some]
  simp only [hw, hw2]
  by_cases c0 : v = 0
  · obtain ⟨x2, a5, b5, e5, m5, p5, q5⟩ := of_ev c hc a4 b4 pgL2 p4 (by omega) (by decide) (by decide)
    have := pgL2_le x2 m5
    rw [if_pos c0]
    show ∃ x y z a' b', (spec_l1Cur_of.f c a4 b4 pgL2).bind _ = _ ∧ _
    rw [e5]
    exact ⟨x2, y1, y1 + z1, a5, b5, rfl, this, by omega, by omega, by omega, by omega, p5, by omega⟩
  rw [if_neg c0]
  by_cases c1 : v = 1
  · obtain ⟨x2, a5, b5, e5, m5, p5, q5⟩ := among_ev c hc a4 b4 [0, (-1)] p4 (by omega) (by decide) (by decide)
    have : -1 ≤ x2 ∧ x2 ≤ 0 := by
      simp only [List.mem_cons, List.not_mem_nil, or_false] at m5
      omega
    rw [if_pos c1]
    show ∃ x y z a' b', (spec_l1Cur_among.f c a4 b4 [0, (-1)]).bind _ = _ ∧ _
    rw [e5]
    exact ⟨x1, x2, y1 + z1, a5, b5, rfl, l1, by omega, by omega, by omega, by omega, p5, by omega⟩
  rw [if_neg c1]
  by_cases c2 : v = 2
  · obtain ⟨x2, a5, b5, e5, m5, p5, q5⟩ := among_ev c hc a4 b4 [y1 - 1, 99999, 100000] p4 (by omega) (by simp) (by simp)
    have : 0 ≤ x2 ∧ x2 ≤ 100000 := by
      simp only [List.mem_cons, List.not_mem_nil, or_false] at m5
      omega
    rw [if_pos c2]
    show ∃ x y z a' b', (spec_l1Cur_among.f c a4 b4 [y1 - 1, 99999, 100000]).bind _ = _ ∧ _
    rw [e5]
    exact ⟨x1, y1, x2, a5, b5, rfl, l1, by omega, by omega, by omega, by omega, p5, by omega⟩
  rw [if_neg c2]
  exact ⟨_, _, _, _, _, rfl, l1, by omega, by omega, by omega, by omega, p4, by omega⟩
def dpg (x : Sp) : Prop := x.f0.size ≤ 2 ∧ -1 ≤ x.f1 ∧ x.f1 ≤ 99990 ∧ -2 ≤ x.f2 ∧ x.f2 ≤ 100890
theorem pages_l1 (c : List Int) (hc : dr c) : ∀ (d : Nat) (s : List Sp) (a b : Int), s.length + d = 9 → 0 ≤ a → a + 4 * d ≤ 100000 → (∀ x ∈ s, dpg x) →
    ∃ R a' b', Ev (fun k => spec_l1Cur_pages.l1 k s c a b) (R, a', b') ∧ R.length ≤ 9 ∧ (∀ x ∈ R, dpg x) ∧ 0 ≤ a' ∧ a' ≤ 200000 := fun d => by
  induction d with
  | zero =>
    intro s a b h1 h2 h3 hs
    obtain ⟨p, a1, b1, e, p0, p1, q0, q1⟩ := pick_ev c hc a b 2 h2 (by omega) (by omega) (by omega)
    refine ⟨s, a1, b1, Ev.step (f := fun _ => some (s, a1, b1)) (fun k => ?_) (Ev.now _), by omega, hs, q0, by omega⟩
    simp only [spec_l1Cur_pages.l1]
    rw [e, Option.bind_some, if_neg (by rw [wrap_small (by omega) (by omega)]; omega)]
  | succ d ih =>
    intro s a b h1 h2 h3 hs
    obtain ⟨p, a1, b1, e, p0, p1, q0, q1⟩ := pick_ev c hc a b 2 h2 (by omega) (by omega) (by omega)
    have hw : wrap64 (8 + p) = 8 + p := wrap_small (by omega) (by omega)
    have hw1 : wrap64 (10 * (s.length : Int)) = 10 * (s.length : Int) := wrap_small (by omega) (by omega)
    have hw2 : wrap64 (10 * (s.length : Int) + 3) = 10 * (s.length : Int) + 3 := wrap_small (by omega) (by omega)
    by_cases cc : (s.length : Int) < 8 + p
    · obtain ⟨R, a2, b2, e2, r⟩ := ih (s ++ [⟨⟨#[]⟩, 10 * (s.length : Int), 10 * (s.length : Int) + 3⟩]) a1 b1 (by simp; omega) q0 (by omega) (fun x hx => by
        rcases List.mem_append.1 hx with g | g
        · exact hs x g
        · rw [List.mem_singleton] at g
          rw [g]
          refine ⟨by show 0 ≤ 2; omega, ?_, ?_, ?_, ?_⟩ <;> simp only <;> omega)
      refine ⟨R, a2, b2, Ev.step (fun k => ?_) e2, r⟩
      simp only [spec_l1Cur_pages.l1]
      rw [e, Option.bind_some, hw, if_pos cc, if_pos (by omega), hw1, hw2]
    · refine ⟨s, a1, b1, Ev.step (f := fun _ => some (s, a1, b1)) (fun k => ?_) (Ev.now _), by omega, hs, q0, by omega⟩
      simp only [spec_l1Cur_pages.l1]
      rw [e, Option.bind_some, hw, if_neg cc]
theorem pages_l0 (c : List Int) (hc : dr c) : ∀ (n : Nat) (s : List Sp) (a b : Int), s.length + n ≤ 4 → 0 ≤ a → a + 20 * n ≤ 900 → (∀ x ∈ s, dpg x) →
    ∃ R a' b', Ev (fun k => spec_l1Cur_pages.l0 k s (n : Int) c a b) (R, a', b') ∧ R.length ≤ 9 ∧ (∀ x ∈ R, dpg x) ∧ 0 ≤ a' ∧ a' ≤ 200000 := fun n => by
  induction n with
  | zero =>
    intro s a b h1 h2 h3 hs
    obtain ⟨p, a1, b1, e, p0, p1, q0, q1⟩ := pick_ev c hc a b 50 h2 (by omega) (by omega) (by omega)
    by_cases c0 : p = 0
    · refine ⟨[], a1, b1, Ev.step (f := fun _ => some ([], a1, b1)) (fun k => ?_) (Ev.now _), by simp, (fun x hx => by cases hx), q0, by omega⟩
      simp only [spec_l1Cur_pages.l0]
      rw [if_neg (by decide), e, Option.bind_some, if_pos c0, if_pos (by omega)]
      rfl
    · by_cases c1 : p = 1
      · obtain ⟨R, a2, b2, e2, r⟩ := pages_l1 c hc (9 - s.length) s a1 b1 (by omega) q0 (by omega) hs
        refine ⟨R, a2, b2, Ev.step (fun k => ?_) e2, r⟩
        simp only [spec_l1Cur_pages.l0]
        rw [if_neg (by decide), e, Option.bind_some, if_neg c0, if_pos c1]
      · refine ⟨s, a1, b1, Ev.step (f := fun _ => some (s, a1, b1)) (fun k => ?_) (Ev.now _), by omega, hs, q0, by omega⟩
        simp only [spec_l1Cur_pages.l0]
        rw [if_neg (by decide), e, Option.bind_some, if_neg c0, if_neg c1]
  | succ n ih =>
    intro s a b h1 h2 h3 hs
    obtain ⟨x, y, z, a1, b1, e1, x0, y0, y1, z0, z1, q0, q1⟩ := pageRange_ev c hc a b h2 (by omega)
    have hw : wrap64 (((n + 1 : Nat) : Int) - 1) = (n : Int) := by rw [wrap_small (by omega) (by omega)]; omega
    obtain ⟨R, a2, b2, e2, r⟩ := ih (s ++ [⟨x, y, z⟩]) a1 b1 (by simp; omega) q0 (by omega) (fun v hv => by
      rcases List.mem_append.1 hv with g | g
      · exact hs v g
      · rw [List.mem_singleton] at g
        rw [g]
        exact ⟨x0, y0, y1, z0, z1⟩)
    refine ⟨R, a2, b2, Ev.step (fun k => ?_) e2, r⟩
    simp only [spec_l1Cur_pages.l0]
    rw [if_pos (by omega), e1, Option.bind_some, if_pos (by omega), hw]
theorem pages_ev (c : List Int) (hc : dr c) (a b : Int) (ha : 0 ≤ a) (hb : a ≤ 800) : ∃ R a' b', Ev (fun k => spec_l1Cur_pages.f k c a b) (R, a', b') ∧ R.length ≤ 9 ∧ (∀ x ∈ R, dpg x) ∧ 0 ≤ a' ∧ a' ≤ 200000 := by
  obtain ⟨p, a1, b1, e, p0, p1, q0, q1⟩ := pick_ev c hc a b 4 ha (by omega) (by omega) (by omega)
  obtain ⟨n, hn⟩ : ∃ n : Nat, wrap64 (1 + p) = (n : Int) ∧ n ≤ 4 := ⟨(1 + p).toNat, by rw [wrap_small (by omega) (by omega)]; omega, by omega⟩
  obtain ⟨R, a2, b2, e2, r⟩ := pages_l0 c hc n [] a1 b1 (by simp; omega) q0 (by omega) (fun x hx => by cases hx)
  refine ⟨R, a2, b2, ?_, r⟩
  unfold spec_l1Cur_pages.f
  rw [e]
  simp only [Option.bind_some, hn.1]
  exact e2
theorem dr_of (c : List Int) (h3 : ∀ x ∈ c, (Lit.int .u8 x).wf = true) (big : ¬ (c.length : Int) > 65536) : dr c := ⟨by omega, fun x hx => by
  have := h3 x hx
  simp only [Lit.wf, Bool.and_eq_true, decide_eq_true_eq] at this
  have e1 : IntKind.u8.min = 0 := rfl
  have e2 : IntKind.u8.max = 255 := rfl
  rw [e1, e2] at this
  exact this⟩
def numZ (n : Int) : ByteArray := if n < 0 then (⟨#[45]⟩ : ByteArray) ++ numT (-n) else numT n
theorem numZ_ev (n : Int) (h0 : -1000000 ≤ n) (h1 : n ≤ 1000000) : Ev (fun k => spec_l1Num.f k n) (numZ n) := by
  unfold numZ
  by_cases c : n < 0
  · rw [if_pos c]
    have hs := numT_le (-n) (by omega) (by omega)
    refine Ev.step (f := fun k => (spec_l1Num.f k (-n)).bind fun t => if 1 + t.size ≤ 9223372036854775807 then some ((⟨#[45]⟩ : ByteArray) ++ t) else none) (fun k => ?_) (Ev.bind (num_evI (-n) (by omega) (by omega)) (Ev.congr (fun _ => if_pos (by omega)) (Ev.now _)))
    simp only [spec_l1Num.f]
    rw [if_pos c, wrap_small (by omega) (by omega)]
  · rw [if_neg c]
    exact num_evI n (by omega) h1
theorem numZ_le (n : Int) (h0 : -1000000 ≤ n) (h1 : n ≤ 1000000) : (numZ n).size ≤ 22 := by
  unfold numZ
  split
  · have := numT_le (-n) (by omega) (by omega)
    rw [ByteArray.size_append, dash]
    omega
  · have := numT_le n (by omega) (by omega)
    omega
theorem numZ_no (n : Int) (h : 0 ≤ n) (l : List UInt8) (e : (45 : UInt8) :: l = (numT n).data.toList) : False := by
  have := num_dig n h 45 (by rw [← e]; simp)
  exact absurd this.1 (by decide)
theorem numZ_inj (n m : Int) (h : numZ n = numZ m) : n = m := by
  unfold numZ at h
  by_cases c : n < 0
  · rw [if_pos c] at h
    by_cases d : m < 0
    · rw [if_pos d] at h
      have h2 := congrArg (fun b : ByteArray => b.data.toList) h
      simp only [app_list] at h2
      have := numT_inj (-n) (-m) (by omega) (by omega) (ext_list _ _ (List.append_cancel_left h2))
      omega
    · rw [if_neg d] at h
      have h2 := congrArg (fun b : ByteArray => b.data.toList) h
      simp only [app_list] at h2
      exact (numZ_no m (by omega) _ h2).elim
  · rw [if_neg c] at h
    by_cases d : m < 0
    · rw [if_pos d] at h
      have h2 := congrArg (fun b : ByteArray => b.data.toList) h
      simp only [app_list] at h2
      exact (numZ_no n (by omega) _ h2.symm).elim
    · rw [if_neg d] at h
      exact numT_inj n m (by omega) (by omega) h
def textZ (x : Sp) : ByteArray := if x.f2 > x.f1 then (((x.f0 ++ numZ x.f1) ++ (⟨#[45]⟩ : ByteArray)) ++ x.f0) ++ numZ x.f2 else x.f0 ++ numZ x.f1
theorem textZ_le (x : Sp) (d : dpg x) : (textZ x).size ≤ 60 := by
  obtain ⟨d0, d1, d2, d3, d4⟩ := d
  have s1 := numZ_le x.f1 (by omega) (by omega)
  have s2 := numZ_le x.f2 (by omega) (by omega)
  unfold textZ
  split <;> simp only [ByteArray.size_append, dash] <;> omega
theorem textZ_ev (x : Sp) (d : dpg x) : Ev (fun k => spec_l7Text.f k x.f0 x.f1 x.f2) (textZ x) := by
  obtain ⟨d0, d1, d2, d3, d4⟩ := d
  have s1 := numZ_le x.f1 (by omega) (by omega)
  have s2 := numZ_le x.f2 (by omega) (by omega)
  unfold spec_l7Text.f textZ
  refine Ev.bind (numZ_ev x.f1 (by omega) (by omega)) (Ev.congr (fun _ => if_pos (by omega)) ?_)
  by_cases c : x.f2 > x.f1
  · rw [if_pos c]
    refine Ev.congr (fun _ => (if_pos c).trans ((if_pos (by simp only [ByteArray.size_append]; omega)).trans (if_pos (by simp only [ByteArray.size_append, dash]; omega)))) (Ev.bind (numZ_ev x.f2 (by omega) (by omega)) (Ev.congr (fun _ => if_pos (by simp only [ByteArray.size_append, dash]; omega)) (Ev.now _)))
  · rw [if_neg c]
    exact Ev.congr (fun _ => if_neg c) (Ev.now _)
theorem rdP (l : List Sp) (i : Nat) (h : i < l.length) : rd_T34 l (i : Int) = l[i] := by
  unfold rd_T34
  rw [Int.toNat_natCast, List.getD_eq_getElem?_getD, List.getElem?_eq_getElem h]
  rfl
theorem listZ_l (L : List Sp) (hl : L.length ≤ 1000) (hd : ∀ x ∈ L, dpg x) : ∀ (d i : Nat) (acc : ByteArray), i + d = L.length → acc.size ≤ 100 * i →
    ∃ t, t.size ≤ 100 * L.length ∧ Ev (fun k => spec_l7List.l0 k L acc (i : Int)) t
  | 0, i, acc, hi, ha => by
    refine ⟨acc, by omega, Ev.step (f := fun _ => some acc) (fun k => ?_) (Ev.now _)⟩
    simp only [spec_l7List.l0]
    rw [if_neg (by omega)]
  | d + 1, i, acc, hi, ha => by
    have hlt : i < L.length := by omega
    have hm := hd _ (List.getElem_mem hlt)
    have hz := textZ_le _ hm
    have he := textZ_ev _ hm
    have hn : wrap64 ((i : Int) + 1) = ((i + 1 : Nat) : Int) := by rw [wrap_small (by omega) (by omega)]; rfl
    have cz : (acc ++ (⟨#[44, 32]⟩ : ByteArray)).size = acc.size + 2 := by rw [ByteArray.size_append]; rfl
    by_cases c : 0 < i
    · obtain ⟨t, ht, e⟩ := listZ_l L hl hd d (i + 1) ((acc ++ (⟨#[44, 32]⟩ : ByteArray)) ++ textZ L[i]) (by omega) (by rw [ByteArray.size_append, cz]; omega)
      refine ⟨t, ht, Ev.step (f := fun k => (spec_l7Text.f k L[i].f0 L[i].f1 L[i].f2).bind fun t => if (acc ++ (⟨#[44, 32]⟩ : ByteArray)).size + t.size ≤ 9223372036854775807 then spec_l7List.l0 k L ((acc ++ (⟨#[44, 32]⟩ : ByteArray)) ++ t) ((i + 1 : Nat) : Int) else none) (fun k => ?_) (Ev.bind he (Ev.congr (fun _ => if_pos (by rw [cz]; omega)) e))⟩
      simp only [spec_l7List.l0, rdP L i hlt, hn]
      rw [if_pos (by omega), if_pos (by omega), if_pos (by omega), if_pos (by omega)]
    · obtain ⟨t, ht, e⟩ := listZ_l L hl hd d (i + 1) (acc ++ textZ L[i]) (by omega) (by rw [ByteArray.size_append]; omega)
      refine ⟨t, ht, Ev.step (f := fun k => (spec_l7Text.f k L[i].f0 L[i].f1 L[i].f2).bind fun t => if acc.size + t.size ≤ 9223372036854775807 then spec_l7List.l0 k L (acc ++ t) ((i + 1 : Nat) : Int) else none) (fun k => ?_) (Ev.bind he (Ev.congr (fun _ => if_pos (by omega)) e))⟩
      simp only [spec_l7List.l0, rdP L i hlt, hn]
      rw [if_pos (by omega), if_neg (by omega), if_pos (by omega)]
theorem listZ (L : List Sp) (hl : L.length ≤ 1000) (hd : ∀ x ∈ L, dpg x) : ∃ t, t.size ≤ 100000 ∧ Ev (fun k => spec_l7List.f k L) t := by
  obtain ⟨t, ht, e⟩ := listZ_l L hl hd L.length 0 (⟨#[]⟩ : ByteArray) (by omega) (by decide)
  exact ⟨t, by omega, e⟩
theorem collapseZ (x : Sp) (d : dpg x) (st : Int) : ∃ t, t.size ≤ 100 ∧ Ev (fun k => spec_l7Collapse.f k x.f0 x.f1 x.f2 st) t := by
  have hd := d
  obtain ⟨d0, d1, d2, d3, d4⟩ := d
  have s1 := numZ_le x.f1 (by omega) (by omega)
  have s2 := numZ_le x.f2 (by omega) (by omega)
  have hz := textZ_le x hd
  have n1 := numZ_ev x.f1 (by omega) (by omega)
  have n2 := numZ_ev x.f2 (by omega) (by omega)
  have j0 : Ev (fun k => spec_l7Collapse.j0 k st (numZ x.f1) (numZ x.f2) true x.f0 x.f1 x.f2) (textZ x) := by
    refine Ev.step (f := fun k => (spec_l7Text.f k x.f0 x.f1 x.f2).bind fun t => some t) (fun k => ?_) (Ev.bind (textZ_ev x hd) (Ev.now _))
    simp only [spec_l7Collapse.j0, if_true]
  unfold spec_l7Collapse.f
  by_cases c1 : st = 1
  · exact ⟨textZ x, by omega, Ev.bind n1 (Ev.bind n2 (Ev.congr (fun _ => if_pos c1) j0))⟩
  by_cases c2 : x.f2 = x.f1
  · exact ⟨textZ x, by omega, Ev.bind n1 (Ev.bind n2 (Ev.congr (fun _ => (if_neg c1).trans (if_pos c2)) j0))⟩
  by_cases c3 : (numZ x.f1).size = (numZ x.f2).size
  · have hb : (((numZ x.f1).size : Int) != ((numZ x.f2).size : Int)) = false := by rw [c3]; simp
    obtain ⟨D, hD, hne, heq⟩ := first_diff (numZ x.f1) (numZ x.f2) c3 (fun e => c2 (numZ_inj _ _ e).symm)
    have es := spec_scan x.f0 (numZ x.f1) (numZ x.f2) st x.f1 x.f2 d0 (by omega) c3.symm D hD hne heq D 0 (by omega)
    refine ⟨cutT x.f0 (numZ x.f1) (numZ x.f2) (if st = 3 then mx (mn (D : Int) (((numZ x.f1).size : Int) - 2)) 0 else (D : Int)), ?_, Ev.bind n1 (Ev.bind n2 (Ev.congr (fun _ => (if_neg c1).trans (if_neg c2)) ?_))⟩
    rotate_left
    · rw [hb]
      refine Ev.step (fun k => ?_) es
      simp only [spec_l7Collapse.j0, Bool.false_eq_true, if_false]
      rfl
    · unfold cutT
      simp only [ByteArray.size_append, dash, ByteArray.size_extract]
      omega
  · have hb : (((numZ x.f1).size : Int) != ((numZ x.f2).size : Int)) = true := by simp; omega
    exact ⟨textZ x, by omega, Ev.bind n1 (Ev.bind n2 (Ev.congr (fun _ => (if_neg c1).trans (if_neg c2)) (by rw [hb]; exact j0)))⟩

end Go.Proofs.YtmemcncbkgcbeaaGreatDoor.Pure
