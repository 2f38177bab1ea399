/- The law FnTitleCases, as a statement over numbers and lists: the program's function and the reference's answer alike, for every input; no further condition. -/
import Derived.Laws.BitsAllLaws
import Derived.Test.YtilchcponlgmjaaDoorPx10
import Derived.Test.YtilchcponlgmjaaDoorPx11
import Derived.Test.YtilchcponlgmjaaDoorPx12
import Derived.Test.YtilchcponlgmjaaDoorPx13
import Derived.Test.YtilchcponlgmjaaDoorPx14
import Derived.Test.YtilchcponlgmjaaDoorPx15
import Derived.Test.YtilchcponlgmjaaDoorQTitX
import Derived.Test.YtilchcponlgmjaaDoorQTitS
namespace Go.Proofs.YtilchcponlgmjaaDoor.Pure
open Go.RowKit Go.Proofs.YtilchcponlgmjaaDoor.Px Go.Proofs.YtilchcponlgmjaaDoorW.PrintWords Go.Proofs.YtilchcponlgmjaaDoorW.PrintLast
set_option linter.unusedVariables false
set_option linter.unusedSimpArgs false

/-! what draws: the cursor's steps -/
def dr (c : List Int) : Prop := c.length ≤ 65536 ∧ ∀ x ∈ c, 0 ≤ x ∧ x ≤ 255
theorem rd_dr (c : List Int) (h : dr c) (a : Int) : 0 ≤ rd c a ∧ rd c a ≤ 255 := by
  unfold rd
  rw [List.getD_eq_getElem?_getD]
  cases hg : c[a.toNat]? with
  | none => simp
  | some x =>
    obtain ⟨h1, h2⟩ := List.getElem?_eq_some_iff.1 hg
    have := h.2 x (by rw [← h2]; exact List.getElem_mem h1)
    simpa using this
theorem wrap_u64 (y : Int) : 0 ≤ IntKind.u64.wrap y ∧ IntKind.u64.wrap y < 18446744073709551616 := by
  have e : IntKind.u64.wrap y = y % 18446744073709551616 := by
    simp [IntKind.wrap, IntKind.signed, IntKind.bits]
  rw [e]
  omega
theorem low_byte (y : Int) : 0 ≤ Go.bits .and .u64 (IntKind.u64.wrap y / 1099511627776) 255 ∧ Go.bits .and .u64 (IntKind.u64.wrap y / 1099511627776) 255 ≤ 255 := by
  obtain ⟨h1, h2⟩ := wrap_u64 y
  generalize IntKind.u64.wrap y = z at *
  have h3 : 0 ≤ z / 1099511627776 := by omega
  have h4 : z / 1099511627776 < 18446744073709551616 := by omega
  rw [u64_and _ 255 h3 h4 (by decide) (by decide)]
  have := Nat.and_le_right (n := (z / 1099511627776).toNat) (m := (255 : Int).toNat)
  have e : (255 : Int).toNat = 255 := rfl
  omega
theorem next_ev (c : List Int) (hc : dr c) (a b : Int) (ha : 0 ≤ a) (hb : a ≤ 1000000000) : ∃ x b', spec_l1Cur_next.f c a b = some (x, a + 1, b') ∧ 0 ≤ x ∧ x ≤ 255 := by
  have hw : wrap64 (a + 1) = a + 1 := wrap_small (by omega) (by omega)
  have hr := rd_dr c hc a
  have hl := hc.1
  have hx : wrap64 (rd c a) = rd c a := wrap_small (by omega) (by omega)
  have lo : ∀ y : Int, 0 ≤ wrap64 (Go.bits .and .u64 (IntKind.u64.wrap y / 1099511627776) 255) ∧ wrap64 (Go.bits .and .u64 (IntKind.u64.wrap y / 1099511627776) 255) ≤ 255 := fun y => by
    obtain ⟨h1, h2⟩ := low_byte y
    rw [wrap_small (by omega) (by omega)]
    exact ⟨h1, h2⟩
  unfold spec_l1Cur_next.f
  rw [hw, hx]
  by_cases c1 : a < (c.length : Int)
  · rw [if_pos c1, if_pos ha]
    by_cases c2 : a + 1 ≤ (c.length : Int)
    · rw [if_pos c2]
      exact ⟨_, _, rfl, hr⟩
    · rw [if_neg c2]
      exact ⟨_, _, rfl, lo _⟩
  · rw [if_neg c1]
    by_cases c2 : a + 1 ≤ (c.length : Int)
    · rw [if_pos c2]
      exact ⟨_, _, rfl, by omega, by omega⟩
    · rw [if_neg c2]
      exact ⟨_, _, rfl, lo _⟩
theorem tmod_in (x n : Int) (hx : 0 ≤ x) (hn : 0 < n) : 0 ≤ Int.tmod x n ∧ Int.tmod x n < n := by
  rw [Int.tmod_eq_emod_of_nonneg hx]
  exact ⟨Int.emod_nonneg _ (by omega), Int.emod_lt_of_pos _ hn⟩
theorem pick_ev (c : List Int) (hc : dr c) (a b n : Int) (ha : 0 ≤ a) (hb : a ≤ 900000000) (hn : 1 ≤ n) (hn2 : n ≤ 1000000000) : ∃ x a' b', spec_l1Cur_pick.f c a b n = some (x, a', b') ∧ 0 ≤ x ∧ x < n ∧ 0 ≤ a' ∧ a' ≤ a + 2 := by
  unfold spec_l1Cur_pick.f
  by_cases c1 : n ≤ 1
  · rw [if_pos c1]
    exact ⟨_, _, _, rfl, by omega, by omega, ha, by omega⟩
  · obtain ⟨x, b1, e1, x0, x1⟩ := next_ev c hc a b ha (by omega)
    rw [if_neg c1, e1, Option.bind_some]
    by_cases c2 : n > 200
    · obtain ⟨y, b2, e2, y0, y1⟩ := next_ev c hc (a + 1) b1 (by omega) (by omega)
      rw [if_pos c2]
      simp only [e2, Option.bind_some]
      rw [if_neg (by omega)]
      have hw : wrap64 (wrap64 (x * 256) + y) = x * 256 + y := by rw [wrap_small (x := x * 256) (by omega) (by omega), wrap_small (by omega) (by omega)]
      rw [hw]
      obtain ⟨t0, t1⟩ := tmod_in (x * 256 + y) n (by omega) (by omega)
      exact ⟨_, _, _, rfl, t0, t1, by omega, by omega⟩
    · rw [if_neg c2, if_neg (by omega)]
      obtain ⟨t0, t1⟩ := tmod_in x n x0 (by omega)
      exact ⟨Int.tmod x n, a + 1, b1, rfl, t0, t1, by omega, by omega⟩
theorem of_ev (c : List Int) (hc : dr c) (a b : Int) (l : List ByteArray) (ha : 0 ≤ a) (hb : a ≤ 900000000) (hn : 1 ≤ l.length) (hn2 : l.length ≤ 1000000) : ∃ x a' b', spec_l1Cur_of.f c a b l = some (x, a', b') ∧ x ∈ l ∧ 0 ≤ a' ∧ a' ≤ a + 2 := by
  obtain ⟨x, a', b', e, h1, h2, h3, h4⟩ := pick_ev c hc a b (l.length : Int) ha hb (by omega) (by omega)
  unfold spec_l1Cur_of.f
  rw [e, Option.bind_some, if_pos h1, if_pos h2]
  refine ⟨_, _, _, rfl, ?_, h3, h4⟩
  unfold rdOf
  rw [List.getD_eq_getElem?_getD, List.getElem?_eq_getElem (by omega)]
  exact List.getElem_mem _
theorem spoilt_at (c : List Int) (hc : dr c) (a b : Int) (t w : ByteArray) (ha : 0 ≤ a) (hb : a ≤ 800000000) (ht : t.size ≤ 1000000) (hw0 : 1 ≤ w.size) (hw : w.size ≤ 1000000) : ∃ x a' b', spec_l1Cur_spoilt.f c a b t w = some (x, a', b') ∧ x.size ≤ t.size + 1 ∧ 0 ≤ a' ∧ a' ≤ a + 6 := by
  unfold spec_l1Cur_spoilt.f
  by_cases z : t.size = 0
  · rw [if_pos z, if_pos hw0]
    exact ⟨_, _, _, rfl, by rw [ByteArray.size_extract]; omega, by omega, by omega⟩
  · obtain ⟨i, a1, b1, e1, i0, i1, g0, g1⟩ := pick_ev c hc a b (t.size : Int) ha (by omega) (by omega) (by omega)
    obtain ⟨j, a2, b2, e2, j0, j1, h0, h1⟩ := pick_ev c hc a1 b1 (w.size : Int) g0 (by omega) (by omega) (by omega)
    obtain ⟨v, a3, b3, e3, v0, v1, k0, k1⟩ := pick_ev c hc a2 b2 3 h0 (by omega) (by omega) (by omega)
    rw [if_neg z, e1, Option.bind_some]
    simp only [e2, e3, Option.bind_some]
    rw [if_pos ⟨⟨j0, j1⟩, ⟨i0, i1⟩, by omega⟩]
    refine ⟨_, _, _, rfl, ?_, k0, by omega⟩
    unfold spec_l1Cur_spoilt.res
    split
    · simp only [ByteArray.size_append, ByteArray.size_extract]; omega
    · split <;> simp only [ByteArray.size_append, ByteArray.size_extract] <;> omega
theorem spoilt_ev (c : List Int) (hc : dr c) (a b : Int) (t w : ByteArray) (ha : 0 ≤ a) (hb : a ≤ 800000000) (ht : t.size ≤ 1000000) (hw0 : 1 ≤ w.size) (hw : w.size ≤ 1000000) : ∃ x a' b', spec_l1Cur_spoilt.f c a b t w = some (x, a', b') ∧ x.size ≤ t.size + 1 := by
  obtain ⟨x, a', b', e, h, _⟩ := spoilt_at c hc a b t w ha hb ht hw0 hw
  exact ⟨x, a', b', e, h⟩

/-! a title is drawn -/
def tword : List ByteArray := [(⟨#[116, 104, 101]⟩ : ByteArray), (⟨#[84, 104, 101]⟩ : ByteArray), (⟨#[65]⟩ : ByteArray), (⟨#[104, 105, 115, 116, 111, 114, 121]⟩ : ByteArray), (⟨#[111, 102]⟩ : ByteArray), (⟨#[82, 111, 109, 101]⟩ : ByteArray), (⟨#[97, 110, 100]⟩ : ByteArray), (⟨#[123, 78, 65, 83, 65, 125]⟩ : ByteArray), (⟨#[123, 78, 101, 119, 32, 89, 111, 114, 107, 125]⟩ : ByteArray), (⟨#[105, 110]⟩ : ByteArray), (⟨#[105, 80, 104, 111, 110, 101]⟩ : ByteArray), (⟨#[51, 68]⟩ : ByteArray), (⟨#[119, 105, 116, 104, 58]⟩ : ByteArray), (⟨#[101, 45, 109, 97, 105, 108]⟩ : ByteArray), (⟨#[40, 97, 110, 41]⟩ : ByteArray), (⟨#[112, 114, 101, 123, 68, 78, 65, 125, 120]⟩ : ByteArray), (⟨#[84, 79]⟩ : ByteArray), (⟨#[87, 111, 114, 108, 100, 58]⟩ : ByteArray), (⟨#[34, 81, 117, 111, 116, 101, 100, 34]⟩ : ByteArray), (⟨#[65, 110]⟩ : ByteArray)]
theorem tword_le : ∀ x ∈ tword, x.size ≤ 20 := by decide
theorem tword_ev (c : List Int) (hc : dr c) (a b : Int) (ha : 0 ≤ a) (hb : a ≤ 900000000) : ∃ t a' b', spec_l1Cur_titleWord.f c a b = some (t, a', b') ∧ t.size ≤ 20 ∧ 0 ≤ a' ∧ a' ≤ a + 2 := by
  obtain ⟨t, a1, b1, e1, t0, q0, q1⟩ := of_ev c hc a b tword ha hb (by decide) (by decide)
  refine ⟨t, a1, b1, ?_, tword_le t t0, q0, q1⟩
  unfold spec_l1Cur_titleWord.f
  show (spec_l1Cur_of.f c a b tword).bind _ = _
  rw [e1]
  rfl
def tend : List ByteArray := [(⟨#[32]⟩ : ByteArray), (⟨#[123]⟩ : ByteArray), (⟨#[125]⟩ : ByteArray), (⟨#[123, 125]⟩ : ByteArray), (⟨#[9]⟩ : ByteArray), (⟨#[58, 32]⟩ : ByteArray)]
theorem tend_le : ∀ x ∈ tend, x.size ≤ 2 := by decide
theorem title_l1 (c : List Int) (hc : dr c) : ∀ (d : Nat) (s : ByteArray) (a b : Int), s.size + d = 102 → 0 ≤ a → a + 4 * d ≤ 100000 →
    ∃ R a' b', Ev (fun k => spec_l1Cur_title.l1 k s c a b) (R, a', b') ∧ R.size ≤ 1000 ∧ 0 ≤ a' ∧ a' ≤ 100010 := fun d => by
  induction d with
  | zero =>
    intro s a b h1 h2 h3
    obtain ⟨p, a1, b1, e, p0, p1, q0, q1⟩ := pick_ev c hc a b 3 h2 (by omega) (by omega) (by omega)
    refine ⟨s, a1, b1, Ev.step (f := fun _ => some (s, a1, b1)) (fun k => ?_) (Ev.now _), by omega, q0, by omega⟩
    simp only [spec_l1Cur_title.l1]
    rw [e, Option.bind_some, if_neg (by rw [wrap_small (by omega) (by omega)]; omega)]
  | succ d ih =>
    intro s a b h1 h2 h3
    obtain ⟨p, a1, b1, e, p0, p1, q0, q1⟩ := pick_ev c hc a b 3 h2 (by omega) (by omega) (by omega)
    have hw : wrap64 (99 + p) = 99 + p := wrap_small (by omega) (by omega)
    by_cases cc : (s.size : Int) < 99 + p
    · have hz : (s ++ (⟨#[120]⟩ : ByteArray)).size = s.size + 1 := by rw [ByteArray.size_append]; rfl
      obtain ⟨R, a2, b2, e2, r⟩ := ih (s ++ (⟨#[120]⟩ : ByteArray)) a1 b1 (by omega) q0 (by omega)
      refine ⟨R, a2, b2, Ev.step (fun k => ?_) e2, r⟩
      simp only [spec_l1Cur_title.l1]
      rw [e, Option.bind_some, hw, if_pos cc, if_pos (by omega)]
    · refine ⟨s, a1, b1, Ev.step (f := fun _ => some (s, a1, b1)) (fun k => ?_) (Ev.now _), by omega, q0, by omega⟩
      simp only [spec_l1Cur_title.l1]
      rw [e, Option.bind_some, hw, if_neg cc]
theorem title_l1' (c : List Int) (hc : dr c) (s : ByteArray) (a b : Int) (hs : s.size ≤ 1000) (ha : 0 ≤ a) (hb : a ≤ 1000) :
    ∃ R a' b', Ev (fun k => spec_l1Cur_title.l1 k s c a b) (R, a', b') ∧ R.size ≤ 1000 ∧ 0 ≤ a' ∧ a' ≤ 100010 := by
  by_cases h : s.size ≤ 102
  · exact title_l1 c hc (102 - s.size) s a b (by omega) ha (by omega)
  · obtain ⟨p, a1, b1, e, p0, p1, q0, q1⟩ := pick_ev c hc a b 3 ha (by omega) (by omega) (by omega)
    refine ⟨s, a1, b1, Ev.step (f := fun _ => some (s, a1, b1)) (fun k => ?_) (Ev.now _), by omega, q0, by omega⟩
    simp only [spec_l1Cur_title.l1]
    rw [e, Option.bind_some, if_neg (by rw [wrap_small (by omega) (by omega)]; omega)]
theorem title_l0 (c : List Int) (hc : dr c) : ∀ (n : Nat) (ws : List ByteArray) (a b : Int), ws.length + n ≤ 6 → 0 ≤ a → a + 10 * n ≤ 900 → (∀ x ∈ ws, x.size ≤ 20) →
    ∃ R a' b', Ev (fun k => spec_l1Cur_title.l0 k ws (n : Int) c a b) (R, a', b') ∧ R.size ≤ 1000 ∧ 0 ≤ a' ∧ a' ≤ 200000 := fun n => by
  induction n with
  | zero =>
    intro ws a b h1 h2 h3 h4
    have ht := tot_le ws 20 h4
    have hj := specJoin ws (by omega) (by omega)
    have hz : (JN ws).size ≤ 200 := by
      unfold JN
      rw [ofL_size]
      have := join_len ws
      omega
    obtain ⟨p, a1, b1, e, p0, p1, q0, q1⟩ := pick_ev c hc a b 24 h2 (by omega) (by omega) (by omega)
    generalize JN ws = t at hj hz
    have main : ∃ R a' b', Ev (fun k => if p = 0 then ((spec_l1Cur_spoilt.f c a1 b1 t (⟨#[123, 125, 58, 32, 97, 66]⟩ : ByteArray)).bind fun bt311 => (some (bt311.1, bt311.2.1, bt311.2.2))) else (if p = 1 then ((spec_l1Cur_of.f c a1 b1 tend).bind fun bt317 => (if t.size + bt317.1.size ≤ 9223372036854775807 then (some (t ++ bt317.1, bt317.2.1, bt317.2.2)) else (none))) else (if p = 2 then (some ((⟨#[]⟩ : ByteArray), a1, b1)) else (if p = 3 then (spec_l1Cur_title.l1 k t c a1 b1) else (some (t, a1, b1)))))) (R, a', b') ∧ R.size ≤ 1000 ∧ 0 ≤ a' ∧ a' ≤ 200000 := by
      by_cases c0 : p = 0
      · obtain ⟨u, a2, b2, e2, us, u0, u1⟩ := spoilt_at c hc a1 b1 t (⟨#[123, 125, 58, 32, 97, 66]⟩ : ByteArray) q0 (by omega) (by omega) (by decide) (by decide)
        refine ⟨u, a2, b2, Ev.congr (f := fun _ => some (u, a2, b2)) (fun _ => ?_) (Ev.now _), by omega, u0, by omega⟩
        rw [if_pos c0, e2]
        rfl
      · by_cases c1 : p = 1
        · obtain ⟨u, a2, b2, e2, um, u0, u1⟩ := of_ev c hc a1 b1 tend q0 (by omega) (by decide) (by decide)
          have us := tend_le u um
          refine ⟨t ++ u, a2, b2, Ev.congr (f := fun _ => some (t ++ u, a2, b2)) (fun _ => ?_) (Ev.now _), by rw [ByteArray.size_append]; omega, u0, by omega⟩
          rw [if_neg c0, if_pos c1, e2, Option.bind_some]
          exact if_pos (show t.size + u.size ≤ 9223372036854775807 from by omega)
        · by_cases c2 : p = 2
          · exact ⟨_, _, _, Ev.congr (fun _ => (if_neg c0).trans ((if_neg c1).trans (if_pos c2))) (Ev.now _), by decide, q0, by omega⟩
          · by_cases c3 : p = 3
            · obtain ⟨R, a2, b2, e2, r1, r2, r3⟩ := title_l1' c hc t a1 b1 (by omega) q0 (by omega)
              exact ⟨R, a2, b2, Ev.congr (fun _ => (if_neg c0).trans ((if_neg c1).trans ((if_neg c2).trans (if_pos c3)))) e2, r1, r2, by omega⟩
            · exact ⟨t, a1, b1, Ev.congr (fun _ => (if_neg c0).trans ((if_neg c1).trans ((if_neg c2).trans (if_neg c3)))) (Ev.now _), by omega, q0, by omega⟩
    obtain ⟨R, a2, b2, e2, r⟩ := main
    refine ⟨R, a2, b2, Ev.step (fun k => ?_) (Ev.bind hj (f := fun k t => (spec_l1Cur_pick.f c a b 24).bind fun bt308 => (if bt308.1 = 0 then ((spec_l1Cur_spoilt.f c bt308.2.1 bt308.2.2 t (⟨#[123, 125, 58, 32, 97, 66]⟩ : ByteArray)).bind fun bt311 => (some (bt311.1, bt311.2.1, bt311.2.2))) else (if bt308.1 = 1 then ((spec_l1Cur_of.f c bt308.2.1 bt308.2.2 tend).bind fun bt317 => (if t.size + bt317.1.size ≤ 9223372036854775807 then (some (t ++ bt317.1, bt317.2.1, bt317.2.2)) else (none))) else (if bt308.1 = 2 then (some ((⟨#[]⟩ : ByteArray), bt308.2.1, bt308.2.2)) else (if bt308.1 = 3 then (spec_l1Cur_title.l1 k t c bt308.2.1 bt308.2.2) else (some (t, bt308.2.1, bt308.2.2))))))) ?_), r⟩
    · simp only [spec_l1Cur_title.l0]
      rw [if_neg (by decide)]
      rfl
    · rw [e]
      exact e2
  | succ n ih =>
    intro ws a b h1 h2 h3 h4
    obtain ⟨t, a1, b1, e1, t0, q0, q1⟩ := tword_ev c hc a b h2 (by omega)
    have hpos : ((n + 1 : Nat) : Int) > 0 := by omega
    have hw : wrap64 (((n + 1 : Nat) : Int) - 1) = (n : Int) := by rw [wrap_small (by omega) (by omega)]; omega
    obtain ⟨R, a2, b2, e2, r⟩ := ih (ws ++ [t]) a1 b1 (by simp; omega) q0 (by omega) (fun x hx => by
      rcases List.mem_append.1 hx with g | g
      · exact h4 x g
      · rw [List.mem_singleton] at g; rw [g]; exact t0)
    refine ⟨R, a2, b2, Ev.step (fun k => ?_) e2, r⟩
    simp only [spec_l1Cur_title.l0]
    rw [if_pos hpos, e1, Option.bind_some, if_pos (by omega), hw]
theorem title_ev (c : List Int) (hc : dr c) : ∃ R a' b', Ev (fun k => spec_l1Cur_title.f k c 0 0) (R, a', b') ∧ R.size ≤ 1000 ∧ 0 ≤ a' ∧ a' ≤ 200000 := by
  obtain ⟨p, a1, b1, e, p0, p1, q0, q1⟩ := pick_ev c hc 0 0 6 (by omega) (by omega) (by omega) (by omega)
  obtain ⟨n, hn⟩ : ∃ n : Nat, wrap64 (1 + p) = (n : Int) ∧ n ≤ 6 := ⟨(1 + p).toNat, by rw [wrap_small (by omega) (by omega)]; omega, by omega⟩
  obtain ⟨R, a2, b2, e2, r⟩ := title_l0 c hc n [] a1 b1 (by simp; omega) q0 (by omega) (fun x hx => by cases hx)
  refine ⟨R, a2, b2, ?_, r⟩
  unfold spec_l1Cur_title.f
  rw [e]
  simp only [Option.bind_some, hn.1]
  exact e2
theorem dr_of (c : List Int) (h3 : ∀ x ∈ c, (Lit.int .u8 x).wf = true) (big : ¬ (c.length : Int) > 65536) : dr c := ⟨by omega, fun x hx => by
  have := h3 x hx
  simp only [Lit.wf, Bool.and_eq_true, decide_eq_true_eq] at this
  have e1 : IntKind.u8.min = 0 := rfl
  have e2 : IntKind.u8.max = 255 := rfl
  rw [e1, e2] at this
  exact this⟩

/-! cases of titles -/
abbrev sm (w : ByteArray) : List UInt8 := lom w.data.toList
theorem wordsOf_data (s : ByteArray) : (wordsOf s).map (·.data.toList) = wordsL 0 [] s.data.toList := by
  unfold wordsOf
  rw [List.map_map]
  conv => rhs; rw [← List.map_id (wordsL 0 [] s.data.toList)]
  exact List.map_congr_left fun x _ => ofL_toList x
theorem back (s : ByteArray) (V : List ByteArray) (h : V.map sm = (wordsOf s).map sm) : wordsOf (JN V) = V ∧ okTitle (JN V).data.toList = okTitle s.data.toList ∧ (JN V).size = s.size := by
  have hm : (V.map (·.data.toList)).map lom = (wordsL 0 [] s.data.toList).map lom := by
    rw [← wordsOf_data, List.map_map, List.map_map]
    exact h
  obtain ⟨w1, w2⟩ := words_back s.data.toList _ hm
  have e : (JN V).data.toList = Lib.join (V.map (·.data.toList)) [32] := ofL_toList _
  refine ⟨?_, ?_, ?_⟩
  · unfold wordsOf
    rw [e, w1, List.map_map]
    conv => rhs; rw [← List.map_id V]
    exact List.map_congr_left fun x _ => (ofL_ext x _ rfl).symm
  · rw [e]; exact ok_sim _ _ w2
  · rw [← data_length, ← data_length, e]; exact lom_len w2
theorem getD_map {β : Type} (f : ByteArray → β) (l : List ByteArray) (i : Nat) (h : i < l.length) (d : β) : (l.map f).getD i d = f (l.getD i ByteArray.empty) := by
  rw [List.getD_eq_getElem?_getD, List.getElem?_map, List.getD_eq_getElem?_getD, List.getElem?_eq_getElem h]
  rfl
theorem sm_at (V W : List ByteArray) (h : V.map sm = W.map sm) (i : Nat) (hi : i < W.length) : sm (V.getD i ByteArray.empty) = sm (W.getD i ByteArray.empty) := by
  have hl : V.length = W.length := by simpa using congrArg List.length h
  rw [← getD_map sm V i (by omega) [], ← getD_map sm W i hi [], h]
theorem size_sm (x y : ByteArray) (h : sm x = sm y) : x.size = y.size := by
  rw [← data_length, ← data_length]; exact lom_len h
theorem last_sim (x y : ByteArray) (h : sm x = sm y) (hp : 0 < y.size) : (bt x ((x.size : Int) - 1) == 58) = (bt y ((y.size : Int) - 1) == 58) := by
  have hz := size_sm x y h
  have e1 : ((x.size : Int) - 1) = ((x.size - 1 : Nat) : Int) := by omega
  have e2 : ((y.size : Int) - 1) = ((y.size - 1 : Nat) : Int) := by omega
  rw [e1, e2, bt_nat x _ (by omega), bt_nat y _ (by omega)]
  have hl : loB (x.data.toList[x.size - 1]'(by rw [data_length]; omega)) = loB (y.data.toList[y.size - 1]'(by rw [data_length]; omega)) := by
    have := congrArg (fun l : List UInt8 => l[x.size - 1]?) h
    simp only [sm, lom, List.getElem?_map] at this
    rw [List.getElem?_eq_getElem (by rw [data_length]; omega), List.getElem?_eq_getElem (by rw [data_length]; omega)] at this
    simp only [Option.map_some, Option.some.injEq] at this
    rw [this]
    congr 2
    omega
  have k := lo_iff hl 58 (by decide)
  have n1 := n58 (x.data.toList[x.size - 1]'(by rw [data_length]; omega))
  have n2 := n58 (y.data.toList[y.size - 1]'(by rw [data_length]; omega))
  by_cases c : y.data.toList[y.size - 1]'(by rw [data_length]; omega) = 58
  · rw [beq_iff_eq.2 (n1.2 (k.2 c)), beq_iff_eq.2 (n2.2 c)]
  · rw [beq_eq_false_iff_ne.2 (fun e => c (k.1 (n1.1 e))), beq_eq_false_iff_ne.2 (fun e => c (n2.1 e))]
theorem beg_sim (V W : List ByteArray) (h : V.map sm = W.map sm) (hp : ∀ w ∈ W, 0 < w.size) (i : Nat) (hi : i < W.length) : begW V i = begW W i := by
  cases i with
  | zero => rfl
  | succ j =>
    unfold begW
    refine last_sim _ _ (sm_at V W h j (by omega)) (hp _ ?_)
    rw [List.getD_eq_getElem?_getD, List.getElem?_eq_getElem (by omega)]
    exact List.getElem_mem _
theorem sm_ofL (l : List UInt8) : sm (ofL l) = lom l := by unfold sm; rw [ofL_toList]
theorem tcB_sm (w : ByteArray) (m bg lt : Bool) : sm (tcB w m bg lt) = sm w := by
  unfold tcB
  split
  · rfl
  · split
    · rw [sm_ofL]; exact lom_lom _
    · rw [sm_ofL]; exact lom_raise _
theorem scB_sm (w : ByteArray) (bg : Bool) : sm (scB w bg) = sm w := by
  unfold scB
  split
  · rw [sm_ofL, lom_raise]; exact lom_calm _ _
  · rw [sm_ofL]; exact lom_calm _ _
theorem range_map_sm (W : List ByteArray) (f : Nat → ByteArray) (h : ∀ i, i < W.length → sm (f i) = sm (W.getD i ByteArray.empty)) : ((List.range W.length).map f).map sm = W.map sm := by
  apply List.ext_getElem
  · simp
  · intro i h1 h2
    have hi : i < W.length := by simpa using h2
    rw [List.getElem_map, List.getElem_map, List.getElem_range, List.getElem_map, h i hi, List.getD_eq_getElem?_getD, List.getElem?_eq_getElem hi]
    rfl
theorem tcs_sm (W : List ByteArray) : (tcs W).map sm = W.map sm := range_map_sm W (tcW W) fun i _ => tcB_sm _ _ _ _
theorem scs_sm (W : List ByteArray) : (scs W).map sm = W.map sm := range_map_sm W (scW W) fun i _ => scB_sm _ _
theorem range_get (n : Nat) (f : Nat → ByteArray) (i : Nat) (h : i < n) : ((List.range n).map f).getD i ByteArray.empty = f i := by
  rw [List.getD_eq_getElem?_getD, List.getElem?_map, List.getElem?_range h]
  rfl
theorem minor_sim (x y : ByteArray) (h : sm x = sm y) : minorB x = minorB y := by
  unfold minorB
  show (impl_isMinor.f (ofL (sm x))).getD false = (impl_isMinor.f (ofL (sm y))).getD false
  rw [h]
theorem tcB_again (w v : ByteArray) (m bg lt : Bool) (hv : v = tcB w m bg lt) : tcB v m bg lt = v := by
  have hs : sm v = sm w := by rw [hv]; exact tcB_sm w m bg lt
  have hb : brB v.data.toList = brB w.data.toList := br_sim _ _ hs
  unfold tcB at hv ⊢
  rw [hb]
  cases c : brB w.data.toList with
  | true => rw [if_pos rfl]
  | false =>
    rw [c, if_neg (by decide)] at hv
    rw [if_neg (by decide)]
    by_cases k : (m && (!bg && lt)) = true
    · rw [if_pos k] at hv ⊢
      rw [hv, ofL_toList]
      exact congrArg ofL (lom_lom _)
    · rw [if_neg k] at hv ⊢
      rw [hv, ofL_toList, raise_raise]
theorem tcs_again (W : List ByteArray) (hp : ∀ w ∈ W, 0 < w.size) : tcs (tcs W) = tcs W := by
  have hl : (tcs W).length = W.length := by unfold tcs; simp
  have hs := tcs_sm W
  show (List.range (tcs W).length).map (tcW (tcs W)) = (List.range W.length).map (tcW W)
  rw [hl]
  refine List.map_congr_left fun i hi => ?_
  rw [List.mem_range] at hi
  have e : (tcs W).getD i ByteArray.empty = tcW W i := range_get _ _ i hi
  show tcB ((tcs W).getD i ByteArray.empty) (minorB ((tcs W).getD i ByteArray.empty)) (begW (tcs W) i) (decide (i + 1 < (tcs W).length)) = _
  rw [hl, beg_sim _ W hs hp i hi, minor_sim _ _ (sm_at _ W hs i hi), e]
  exact tcB_again (W.getD i ByteArray.empty) (tcW W i) _ _ _ rfl
theorem scB_again (w v : ByteArray) (bg : Bool) (hv : v = scB w bg) : scB v bg = v := by
  have hs : sm v = sm w := by rw [hv]; exact scB_sm w bg
  have hb : brB v.data.toList = brB w.data.toList := br_sim _ _ hs
  unfold scB at hv ⊢
  rw [hb]
  cases c : brB w.data.toList with
  | true =>
    rw [c, if_neg (by simp)] at hv
    rw [if_neg (by simp), hv, ofL_toList, calm_calm]
  | false =>
    have hc : calmL false v.data.toList = calmL false w.data.toList := by
      rw [calm_plain _ (hb.trans c), calm_plain _ c]; exact hs
    rw [c] at hv
    rw [hc]
    exact hv.symm
theorem scs_again (W : List ByteArray) (hp : ∀ w ∈ W, 0 < w.size) : scs (scs W) = scs W := by
  have hl : (scs W).length = W.length := by unfold scs; simp
  have hs := scs_sm W
  show (List.range (scs W).length).map (scW (scs W)) = (List.range W.length).map (scW W)
  rw [hl]
  refine List.map_congr_left fun i hi => ?_
  rw [List.mem_range] at hi
  have e : (scs W).getD i ByteArray.empty = scW W i := range_get _ _ i hi
  show scB ((scs W).getD i ByteArray.empty) (begW (scs W) i) = _
  rw [beg_sim _ W hs hp i hi, e]
  exact scB_again (W.getD i ByteArray.empty) (scW W i) _ rfl
theorem scs_tcs (W : List ByteArray) (hp : ∀ w ∈ W, 0 < w.size) : scs (tcs W) = scs W := by
  have hl : (tcs W).length = W.length := by unfold tcs; simp
  have hs := tcs_sm W
  show (List.range (tcs W).length).map (scW (tcs W)) = (List.range W.length).map (scW W)
  rw [hl]
  refine List.map_congr_left fun i hi => ?_
  rw [List.mem_range] at hi
  have e : (tcs W).getD i ByteArray.empty = tcW W i := range_get _ _ i hi
  show scB ((tcs W).getD i ByteArray.empty) (begW (tcs W) i) = scB (W.getD i ByteArray.empty) (begW W i)
  rw [beg_sim _ W hs hp i hi]
  have h2 := sm_at _ W hs i hi
  have hb : brB ((tcs W).getD i ByteArray.empty).data.toList = brB (W.getD i ByteArray.empty).data.toList := br_sim _ _ h2
  have hc : calmL false ((tcs W).getD i ByteArray.empty).data.toList = calmL false (W.getD i ByteArray.empty).data.toList := by
    cases c : brB (W.getD i ByteArray.empty).data.toList with
    | true =>
      rw [e]
      unfold tcW tcB
      rw [if_pos c]
    | false => rw [calm_plain _ (hb.trans c), calm_plain _ c]; exact h2
  unfold scB
  rw [hb, hc]
theorem FnTitleCases : laws_FnTitleCases.Pure := by
  intro c h1 _ h3
  refine Ev.rounds (g := fun k => laws_FnTitleCases.f k c) ?_
  unfold laws_FnTitleCases.f laws_rBig.f
  simp only [Option.bind_some]
  by_cases big : (c.length : Int) > 65536
  · exact Ev.congr (fun _ => if_pos (decide_eq_true big)) (Ev.now true)
  have hc := dr_of c h3 big
  refine Ev.congr (fun _ => if_neg (by rw [decide_eq_false big]; decide)) ?_
  obtain ⟨s, a, b, e, hs, _, _⟩ := title_ev c hc
  have d : Ev (fun k => spec_DrawTitleCase.f k c) s := by
    unfold spec_DrawTitleCase.f spec_DrawIsValidTitle.f
    exact Ev.bind (Ev.bind e (Ev.now _)) (Ev.now _)
  obtain ⟨tS, tI⟩ := TitleCase_x s (by omega)
  obtain ⟨sS, sI⟩ := SentenceCase_x s (by omega)
  have vI := implValid s (by omega)
  cases hg : okTitle s.data.toList with
  | false =>
    rw [hg, if_neg (by decide)] at tS tI sS sI
    rw [hg] at vI
    refine Ev.bind d (Ev.bind tI (Ev.bind sI (Ev.bind tS (Ev.bind sS ?_))))
    refine Ev.congr (fun _ => (if_neg (by decide)).trans ((if_neg (by decide)).trans ((if_pos rfl).trans (if_pos rfl)))) (Ev.bind vI ?_)
    refine Ev.step (f := fun _ => some true) (fun k => ?_) (Ev.now _)
    simp only [laws_FnTitleCases.j0]
    rw [if_neg (by decide), if_neg (by decide)]
  | true =>
    rw [hg, if_pos rfl] at tS tI sS sI
    rw [hg] at vI
    obtain ⟨o1, o2, o3⟩ := words_okw s hg
    have hp : ∀ w ∈ wordsOf s, 0 < w.size := fun w hw => (o3 w hw).n1
    obtain ⟨a1, a2, a3⟩ := back s (tcs (wordsOf s)) (tcs_sm _)
    obtain ⟨b1, b2, b3⟩ := back s (scs (wordsOf s)) (scs_sm _)
    have r1 := (TitleCase_x (JN (tcs (wordsOf s))) (by omega)).2
    have r2 := (SentenceCase_x (JN (scs (wordsOf s))) (by omega)).2
    have r3 := (SentenceCase_x (JN (tcs (wordsOf s))) (by omega)).2
    rw [a2, hg, if_pos rfl, a1, tcs_again _ hp] at r1
    rw [b2, hg, if_pos rfl, b1, scs_again _ hp] at r2
    rw [a2, hg, if_pos rfl, a1, scs_tcs _ hp] at r3
    generalize JN (tcs (wordsOf s)) = A at *
    generalize JN (scs (wordsOf s)) = B at *
    refine Ev.bind d (Ev.bind tI (Ev.bind sI (Ev.bind tS (Ev.bind sS ?_))))
    refine Ev.congr (fun _ => (if_neg (by simp)).trans ((if_neg (by simp)).trans ((if_pos rfl).trans (if_pos rfl)))) (Ev.bind vI ?_)
    refine Ev.step (f := fun k => (impl_TitleCase.f k A).bind fun bt339 => ((impl_SentenceCase.f k B).bind fun bt341 => ((impl_SentenceCase.f k A).bind fun bt343 => (if bt339.2 = true then (if bt341.2 = true then (if bt343.2 = true then (if bt339.1.toList = A.toList then (if bt341.1.toList = B.toList then (if (A.size : Int) = (s.size : Int) then (if (B.size : Int) = (s.size : Int) then (some (bt343.1.toList == B.toList)) else (some false)) else (some false)) else (some false)) else (some false)) else (some false)) else (some false)) else (some false))))) (fun k => ?_) (Ev.bind r1 (Ev.bind r2 (Ev.bind r3 ?_)))
    · simp only [laws_FnTitleCases.j0]
      rw [if_neg (by simp), if_pos trivial]
    · refine Ev.congr (fun _ => (if_pos rfl).trans ((if_pos rfl).trans ((if_pos rfl).trans ((if_pos rfl).trans ((if_pos rfl).trans ((if_pos (by omega)).trans (if_pos (by omega)))))))) ?_
      rw [beq_self_eq_true]
      exact Ev.now _

end Go.Proofs.YtilchcponlgmjaaDoor.Pure
