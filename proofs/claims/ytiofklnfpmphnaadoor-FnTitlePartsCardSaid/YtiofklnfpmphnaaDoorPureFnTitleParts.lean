/- The law FnTitleParts, as a statement over numbers and lists: the program's function and the reference's answer alike, for every input; no further condition. -/
import Derived.Laws.BitsAllLaws
import Derived.Test.YtiofklnfpmphnaaDoorPx1
import Derived.Test.YtiofklnfpmphnaaDoorPx11
import Derived.Test.YtiofklnfpmphnaaDoorPx13
import Derived.Test.YtiofklnfpmphnaaDoorPx14
import Derived.Test.YtiofklnfpmphnaaDoorPx15
import Derived.Test.YtiofklnfpmphnaaDoorPx16
import Derived.Test.YtiofklnfpmphnaaDoorPx3
import Derived.Test.YtiofklnfpmphnaaDoorPx4
import Derived.Test.YtiofklnfpmphnaaDoorPx5
import Derived.Test.YtiofklnfpmphnaaDoorPx8
import Derived.Test.YtiofklnfpmphnaaDoorPx9
import Derived.Test.YtiofklnfpmphnaaDoorQTitS
import Derived.Test.YtiofklnfpmphnaaDoorQTitR
namespace Go.Proofs.YtiofklnfpmphnaaDoor.Pure
open Go.RowKit Go.Proofs.YtiofklnfpmphnaaDoor.Px Go.Proofs.YtiofklnfpmphnaaDoorW.PrintWords Go.Proofs.YtiofklnfpmphnaaDoorW.PrintLast
set_option linter.unusedVariables false
set_option linter.unusedSimpArgs false

/-! what draws: the cursor's steps -/
def dr (c : List Int) : Prop := c.length ≤ 65536 ∧ ∀ x ∈ c, 0 ≤ x ∧ x ≤ 255
theorem rd_dr (c : List Int) (h : dr c) (a : Int) : 0 ≤ rd c a ∧ rd c a ≤ 255 := by
  unfold rd
  rw [List.getD_eq_getElem?_getD]
  cases hg : c[a.toNat]? with
  | none => simp
  | some x =>
    obtain ⟨h1, h2⟩ := List.getElem?_eq_some_iff.1 hg
    have := h.2 x (by rw [← h2]; exact List.getElem_mem h1)
    simpa using this
theorem wrap_u64 (y : Int) : 0 ≤ IntKind.u64.wrap y ∧ IntKind.u64.wrap y < 18446744073709551616 := by
  have e : IntKind.u64.wrap y = y % 18446744073709551616 := by
    simp [IntKind.wrap, IntKind.signed, IntKind.bits]
  rw [e]
  omega
theorem low_byte (y : Int) : 0 ≤ Go.bits .and .u64 (IntKind.u64.wrap y / 1099511627776) 255 ∧ Go.bits .and .u64 (IntKind.u64.wrap y / 1099511627776) 255 ≤ 255 := by
  obtain ⟨h1, h2⟩ := wrap_u64 y
  generalize IntKind.u64.wrap y = z at *
  have h3 : 0 ≤ z / 1099511627776 := by omega
  have h4 : z / 1099511627776 < 18446744073709551616 := by omega
  rw [u64_and _ 255 h3 h4 (by decide) (by decide)]
  have := Nat.and_le_right (n := (z / 1099511627776).toNat) (m := (255 : Int).toNat)
  have e : (255 : Int).toNat = 255 := rfl
  omega
theorem next_ev (c : List Int) (hc : dr c) (a b : Int) (ha : 0 ≤ a) (hb : a ≤ 1000000000) : ∃ x b', spec_l1Cur_next.f c a b = some (x, a + 1, b') ∧ 0 ≤ x ∧ x ≤ 255 := by
  have hw : wrap64 (a + 1) = a + 1 := wrap_small (by omega) (by omega)
  have hr := rd_dr c hc a
  have hl := hc.1
  have hx : wrap64 (rd c a) = rd c a := wrap_small (by omega) (by omega)
  have lo : ∀ y : Int, 0 ≤ wrap64 (Go.bits .and .u64 (IntKind.u64.wrap y / 1099511627776) 255) ∧ wrap64 (Go.bits .and .u64 (IntKind.u64.wrap y / 1099511627776) 255) ≤ 255 := fun y => by
    obtain ⟨h1, h2⟩ := low_byte y
    rw [wrap_small (by omega) (by omega)]
    exact ⟨h1, h2⟩
  unfold spec_l1Cur_next.f
  rw [hw, hx]
  by_cases c1 : a < (c.length : Int)
  · rw [if_pos c1, if_pos ha]
    by_cases c2 : a + 1 ≤ (c.length : Int)
    · rw [if_pos c2]
      exact ⟨_, _, rfl, hr⟩
    · rw [if_neg c2]
      exact ⟨_, _, rfl, lo _⟩
  · rw [if_neg c1]
    by_cases c2 : a + 1 ≤ (c.length : Int)
    · rw [if_pos c2]
      exact ⟨_, _, rfl, by omega, by omega⟩
    · rw [if_neg c2]
      exact ⟨_, _, rfl, lo _⟩
theorem tmod_in (x n : Int) (hx : 0 ≤ x) (hn : 0 < n) : 0 ≤ Int.tmod x n ∧ Int.tmod x n < n := by
  rw [Int.tmod_eq_emod_of_nonneg hx]
  exact ⟨Int.emod_nonneg _ (by omega), Int.emod_lt_of_pos _ hn⟩
theorem pick_ev (c : List Int) (hc : dr c) (a b n : Int) (ha : 0 ≤ a) (hb : a ≤ 900000000) (hn : 1 ≤ n) (hn2 : n ≤ 1000000000) : ∃ x a' b', spec_l1Cur_pick.f c a b n = some (x, a', b') ∧ 0 ≤ x ∧ x < n ∧ 0 ≤ a' ∧ a' ≤ a + 2 := by
  unfold spec_l1Cur_pick.f
  by_cases c1 : n ≤ 1
  · rw [if_pos c1]
    exact ⟨_, _, _, rfl, by omega, by omega, ha, by omega⟩
  · obtain ⟨x, b1, e1, x0, x1⟩ := next_ev c hc a b ha (by omega)
    rw [if_neg c1, e1, Option.bind_some]
    by_cases c2 : n > 200
    · obtain ⟨y, b2, e2, y0, y1⟩ := next_ev c hc (a + 1) b1 (by omega) (by omega)
      rw [if_pos c2]
      simp only [e2, Option.bind_some]
      rw [if_neg (by omega)]
      have hw : wrap64 (wrap64 (x * 256) + y) = x * 256 + y := by rw [wrap_small (x := x * 256) (by omega) (by omega), wrap_small (by omega) (by omega)]
      rw [hw]
      obtain ⟨t0, t1⟩ := tmod_in (x * 256 + y) n (by omega) (by omega)
      exact ⟨_, _, _, rfl, t0, t1, by omega, by omega⟩
    · rw [if_neg c2, if_neg (by omega)]
      obtain ⟨t0, t1⟩ := tmod_in x n x0 (by omega)
      exact ⟨Int.tmod x n, a + 1, b1, rfl, t0, t1, by omega, by omega⟩
theorem one_ev (c : List Int) (hc : dr c) (a b n : Int) (ha : 0 ≤ a) (hb : a ≤ 900000000) (hn : 1 ≤ n) (hn2 : n ≤ 1000000000) : ∃ x a' b', spec_l1Cur_one.f c a b n = some (x, a', b') ∧ 0 ≤ a' ∧ a' ≤ a + 2 := by
  obtain ⟨x, a', b', e, _, _, h3, h4⟩ := pick_ev c hc a b n ha hb hn hn2
  unfold spec_l1Cur_one.f
  rw [e]
  exact ⟨_, _, _, rfl, h3, h4⟩
theorem of_ev (c : List Int) (hc : dr c) (a b : Int) (l : List ByteArray) (ha : 0 ≤ a) (hb : a ≤ 900000000) (hn : 1 ≤ l.length) (hn2 : l.length ≤ 1000000) : ∃ x a' b', spec_l1Cur_of.f c a b l = some (x, a', b') ∧ x ∈ l ∧ 0 ≤ a' ∧ a' ≤ a + 2 := by
  obtain ⟨x, a', b', e, h1, h2, h3, h4⟩ := pick_ev c hc a b (l.length : Int) ha hb (by omega) (by omega)
  unfold spec_l1Cur_of.f
  rw [e, Option.bind_some, if_pos h1, if_pos h2]
  refine ⟨_, _, _, rfl, ?_, h3, h4⟩
  unfold rdOf
  rw [List.getD_eq_getElem?_getD, List.getElem?_eq_getElem (by omega)]
  exact List.getElem_mem _
theorem spoilt_at (c : List Int) (hc : dr c) (a b : Int) (t w : ByteArray) (ha : 0 ≤ a) (hb : a ≤ 800000000) (ht : t.size ≤ 1000000) (hw0 : 1 ≤ w.size) (hw : w.size ≤ 1000000) : ∃ x a' b', spec_l1Cur_spoilt.f c a b t w = some (x, a', b') ∧ x.size ≤ t.size + 1 ∧ 0 ≤ a' ∧ a' ≤ a + 6 := by
  unfold spec_l1Cur_spoilt.f
  by_cases z : t.size = 0
  · rw [if_pos z, if_pos hw0]
    exact ⟨_, _, _, rfl, by rw [ByteArray.size_extract]; omega, by omega, by omega⟩
  · obtain ⟨i, a1, b1, e1, i0, i1, g0, g1⟩ := pick_ev c hc a b (t.size : Int) ha (by omega) (by omega) (by omega)
    obtain ⟨j, a2, b2, e2, j0, j1, h0, h1⟩ := pick_ev c hc a1 b1 (w.size : Int) g0 (by omega) (by omega) (by omega)
    obtain ⟨v, a3, b3, e3, v0, v1, k0, k1⟩ := pick_ev c hc a2 b2 3 h0 (by omega) (by omega) (by omega)
    rw [if_neg z, e1, Option.bind_some]
    simp only [e2, e3, Option.bind_some]
    rw [if_pos ⟨⟨j0, j1⟩, ⟨i0, i1⟩, by omega⟩]
    refine ⟨_, _, _, rfl, ?_, k0, by omega⟩
    unfold spec_l1Cur_spoilt.res
    split
    · simp only [ByteArray.size_append, ByteArray.size_extract]; omega
    · split <;> simp only [ByteArray.size_append, ByteArray.size_extract] <;> omega
theorem spoilt_ev (c : List Int) (hc : dr c) (a b : Int) (t w : ByteArray) (ha : 0 ≤ a) (hb : a ≤ 800000000) (ht : t.size ≤ 1000000) (hw0 : 1 ≤ w.size) (hw : w.size ≤ 1000000) : ∃ x a' b', spec_l1Cur_spoilt.f c a b t w = some (x, a', b') ∧ x.size ≤ t.size + 1 := by
  obtain ⟨x, a', b', e, h, _⟩ := spoilt_at c hc a b t w ha hb ht hw0 hw
  exact ⟨x, a', b', e, h⟩

/-! a title is drawn -/
def tword : List ByteArray := [(⟨#[116, 104, 101]⟩ : ByteArray), (⟨#[84, 104, 101]⟩ : ByteArray), (⟨#[65]⟩ : ByteArray), (⟨#[104, 105, 115, 116, 111, 114, 121]⟩ : ByteArray), (⟨#[111, 102]⟩ : ByteArray), (⟨#[82, 111, 109, 101]⟩ : ByteArray), (⟨#[97, 110, 100]⟩ : ByteArray), (⟨#[123, 78, 65, 83, 65, 125]⟩ : ByteArray), (⟨#[123, 78, 101, 119, 32, 89, 111, 114, 107, 125]⟩ : ByteArray), (⟨#[105, 110]⟩ : ByteArray), (⟨#[105, 80, 104, 111, 110, 101]⟩ : ByteArray), (⟨#[51, 68]⟩ : ByteArray), (⟨#[119, 105, 116, 104, 58]⟩ : ByteArray), (⟨#[101, 45, 109, 97, 105, 108]⟩ : ByteArray), (⟨#[40, 97, 110, 41]⟩ : ByteArray), (⟨#[112, 114, 101, 123, 68, 78, 65, 125, 120]⟩ : ByteArray), (⟨#[84, 79]⟩ : ByteArray), (⟨#[87, 111, 114, 108, 100, 58]⟩ : ByteArray), (⟨#[34, 81, 117, 111, 116, 101, 100, 34]⟩ : ByteArray), (⟨#[65, 110]⟩ : ByteArray)]
theorem tword_le : ∀ x ∈ tword, x.size ≤ 20 := by decide
theorem tword_ev (c : List Int) (hc : dr c) (a b : Int) (ha : 0 ≤ a) (hb : a ≤ 900000000) : ∃ t a' b', spec_l1Cur_titleWord.f c a b = some (t, a', b') ∧ t.size ≤ 20 ∧ 0 ≤ a' ∧ a' ≤ a + 2 := by
  obtain ⟨t, a1, b1, e1, t0, q0, q1⟩ := of_ev c hc a b tword ha hb (by decide) (by decide)
  refine ⟨t, a1, b1, ?_, tword_le t t0, q0, q1⟩
  unfold spec_l1Cur_titleWord.f
  show (spec_l1Cur_of.f c a b tword).bind _ = _
  rw [e1]
  rfl
def tend : List ByteArray := [(⟨#[32]⟩ : ByteArray), (⟨#[123]⟩ : ByteArray), (⟨#[125]⟩ : ByteArray), (⟨#[123, 125]⟩ : ByteArray), (⟨#[9]⟩ : ByteArray), (⟨#[58, 32]⟩ : ByteArray)]
theorem tend_le : ∀ x ∈ tend, x.size ≤ 2 := by decide
theorem title_l1 (c : List Int) (hc : dr c) : ∀ (d : Nat) (s : ByteArray) (a b : Int), s.size + d = 102 → 0 ≤ a → a + 4 * d ≤ 100000 →
    ∃ R a' b', Ev (fun k => spec_l1Cur_title.l1 k s c a b) (R, a', b') ∧ R.size ≤ 1000 ∧ 0 ≤ a' ∧ a' ≤ 100010 := fun d => by
  induction d with
  | zero =>
    intro s a b h1 h2 h3
    obtain ⟨p, a1, b1, e, p0, p1, q0, q1⟩ := pick_ev c hc a b 3 h2 (by omega) (by omega) (by omega)
    refine ⟨s, a1, b1, Ev.step (f := fun _ => some (s, a1, b1)) (fun k => ?_) (Ev.now _), by omega, q0, by omega⟩
    simp only [spec_l1Cur_title.l1]
    rw [e, Option.bind_some, if_neg (by rw [wrap_small (by omega) (by omega)]; omega)]
  | succ d ih =>
    intro s a b h1 h2 h3
    obtain ⟨p, a1, b1, e, p0, p1, q0, q1⟩ := pick_ev c hc a b 3 h2 (by omega) (by omega) (by omega)
    have hw : wrap64 (99 + p) = 99 + p := wrap_small (by omega) (by omega)
    by_cases cc : (s.size : Int) < 99 + p
    · have hz : (s ++ (⟨#[120]⟩ : ByteArray)).size = s.size + 1 := by rw [ByteArray.size_append]; rfl
      obtain ⟨R, a2, b2, e2, r⟩ := ih (s ++ (⟨#[120]⟩ : ByteArray)) a1 b1 (by omega) q0 (by omega)
      refine ⟨R, a2, b2, Ev.step (fun k => ?_) e2, r⟩
      simp only [spec_l1Cur_title.l1]
      rw [e, Option.bind_some, hw, if_pos cc, if_pos (by omega)]
    · refine ⟨s, a1, b1, Ev.step (f := fun _ => some (s, a1, b1)) (fun k => ?_) (Ev.now _), by omega, q0, by omega⟩
      simp only [spec_l1Cur_title.l1]
      rw [e, Option.bind_some, hw, if_neg cc]
theorem title_l1' (c : List Int) (hc : dr c) (s : ByteArray) (a b : Int) (hs : s.size ≤ 1000) (ha : 0 ≤ a) (hb : a ≤ 1000) :
    ∃ R a' b', Ev (fun k => spec_l1Cur_title.l1 k s c a b) (R, a', b') ∧ R.size ≤ 1000 ∧ 0 ≤ a' ∧ a' ≤ 100010 := by
  by_cases h : s.size ≤ 102
  · exact title_l1 c hc (102 - s.size) s a b (by omega) ha (by omega)
  · obtain ⟨p, a1, b1, e, p0, p1, q0, q1⟩ := pick_ev c hc a b 3 ha (by omega) (by omega) (by omega)
    refine ⟨s, a1, b1, Ev.step (f := fun _ => some (s, a1, b1)) (fun k => ?_) (Ev.now _), by omega, q0, by omega⟩
    simp only [spec_l1Cur_title.l1]
    rw [e, Option.bind_some, if_neg (by rw [wrap_small (by omega) (by omega)]; omega)]
theorem title_l0 (c : List Int) (hc : dr c) : ∀ (n : Nat) (ws : List ByteArray) (a b : Int), ws.length + n ≤ 6 → 0 ≤ a → a + 10 * n ≤ 900 → (∀ x ∈ ws, x.size ≤ 20) →
    ∃ R a' b', Ev (fun k => spec_l1Cur_title.l0 k ws (n : Int) c a b) (R, a', b') ∧ R.size ≤ 1000 ∧ 0 ≤ a' ∧ a' ≤ 200000 := fun n => by
  induction n with
  | zero =>
    intro ws a b h1 h2 h3 h4
    have ht := tot_le ws 20 h4
    have hj := specJoin ws (by omega) (by omega)
    have hz : (JN ws).size ≤ 200 := by
      unfold JN
      rw [ofL_size]
      have := join_len ws
      omega
    obtain ⟨p, a1, b1, e, p0, p1, q0, q1⟩ := pick_ev c hc a b 24 h2 (by omega) (by omega) (by omega)
    generalize JN ws = t at hj hz
    have main : ∃ R a' b', Ev (fun k => if p = 0 then ((spec_l1Cur_spoilt.f c a1 b1 t (⟨#[123, 125, 58, 32, 97, 66]⟩ : ByteArray)).bind fun bt311 => (some (bt311.1, bt311.2.1, bt311.2.2))) else (if p = 1 then ((spec_l1Cur_of.f c a1 b1 tend).bind fun bt317 => (if t.size + bt317.1.size ≤ 9223372036854775807 then (some (t ++ bt317.1, bt317.2.1, bt317.2.2)) else (none))) else (if p = 2 then (some ((⟨#[]⟩ : ByteArray), a1, b1)) else (if p = 3 then (spec_l1Cur_title.l1 k t c a1 b1) else (some (t, a1, b1)))))) (R, a', b') ∧ R.size ≤ 1000 ∧ 0 ≤ a' ∧ a' ≤ 200000 := by
      by_cases c0 : p = 0
      · obtain ⟨u, a2, b2, e2, us, u0, u1⟩ := spoilt_at c hc a1 b1 t (⟨#[123, 125, 58, 32, 97, 66]⟩ : ByteArray) q0 (by omega) (by omega) (by decide) (by decide)
        refine ⟨u, a2, b2, Ev.congr (f := fun _ => some (u, a2, b2)) (fun _ => ?_) (Ev.now _), by omega, u0, by omega⟩
        rw [if_pos c0, e2]
        rfl
      · by_cases c1 : p = 1
        · obtain ⟨u, a2, b2, e2, um, u0, u1⟩ := of_ev c hc a1 b1 tend q0 (by omega) (by decide) (by decide)
          have us := tend_le u um
          refine ⟨t ++ u, a2, b2, Ev.congr (f := fun _ => some (t ++ u, a2, b2)) (fun _ => ?_) (Ev.now _), by rw [ByteArray.size_append]; omega, u0, by omega⟩
          rw [if_neg c0, if_pos c1, e2, Option.bind_some]
          exact if_pos (show t.size + u.size ≤ 9223372036854775807 from by omega)
        · by_cases c2 : p = 2
          · exact ⟨_, _, _, Ev.congr (fun _ => (if_neg c0).trans ((if_neg c1).trans (if_pos c2))) (Ev.now _), by decide, q0, by omega⟩
          · by_cases c3 : p = 3
            · obtain ⟨R, a2, b2, e2, r1, r2, r3⟩ := title_l1' c hc t a1 b1 (by omega) q0 (by omega)
              exact ⟨R, a2, b2, Ev.congr (fun _ => (if_neg c0).trans ((if_neg c1).trans ((if_neg c2).trans (if_pos c3)))) e2, r1, r2, by omega⟩
            · exact ⟨t, a1, b1, Ev.congr (fun _ => (if_neg c0).trans ((if_neg c1).trans ((if_neg c2).trans (if_neg c3)))) (Ev.now _), by omega, q0, by omega⟩
    obtain ⟨R, a2, b2, e2, r⟩ := main
    refine ⟨R, a2, b2, Ev.step (fun k => ?_) (Ev.bind hj (f := fun k t => (spec_l1Cur_pick.f c a b 24).bind fun bt308 => (if bt308.1 = 0 then ((spec_l1Cur_spoilt.f c bt308.2.1 bt308.2.2 t (⟨#[123, 125, 58, 32, 97, 66]⟩ : ByteArray)).bind fun bt311 => (some (bt311.1, bt311.2.1, bt311.2.2))) else (if bt308.1 = 1 then ((spec_l1Cur_of.f c bt308.2.1 bt308.2.2 tend).bind fun bt317 => (if t.size + bt317.1.size ≤ 9223372036854775807 then (some (t ++ bt317.1, bt317.2.1, bt317.2.2)) else (none))) else (if bt308.1 = 2 then (some ((⟨#[]⟩ : ByteArray), bt308.2.1, bt308.2.2)) else (if bt308.1 = 3 then (spec_l1Cur_title.l1 k t c bt308.2.1 bt308.2.2) else (some (t, bt308.2.1, bt308.2.2))))))) ?_), r⟩
    · simp only [spec_l1Cur_title.l0]
      rw [if_neg (by decide)]
      rfl
    · rw [e]
      exact e2
  | succ n ih =>
    intro ws a b h1 h2 h3 h4
    obtain ⟨t, a1, b1, e1, t0, q0, q1⟩ := tword_ev c hc a b h2 (by omega)
    have hpos : ((n + 1 : Nat) : Int) > 0 := by omega
    have hw : wrap64 (((n + 1 : Nat) : Int) - 1) = (n : Int) := by rw [wrap_small (by omega) (by omega)]; omega
    obtain ⟨R, a2, b2, e2, r⟩ := ih (ws ++ [t]) a1 b1 (by simp; omega) q0 (by omega) (fun x hx => by
      rcases List.mem_append.1 hx with g | g
      · exact h4 x g
      · rw [List.mem_singleton] at g; rw [g]; exact t0)
    refine ⟨R, a2, b2, Ev.step (fun k => ?_) e2, r⟩
    simp only [spec_l1Cur_title.l0]
    rw [if_pos hpos, e1, Option.bind_some, if_pos (by omega), hw]
theorem title_ev (c : List Int) (hc : dr c) : ∃ R a' b', Ev (fun k => spec_l1Cur_title.f k c 0 0) (R, a', b') ∧ R.size ≤ 1000 ∧ 0 ≤ a' ∧ a' ≤ 200000 := by
  obtain ⟨p, a1, b1, e, p0, p1, q0, q1⟩ := pick_ev c hc 0 0 6 (by omega) (by omega) (by omega) (by omega)
  obtain ⟨n, hn⟩ : ∃ n : Nat, wrap64 (1 + p) = (n : Int) ∧ n ≤ 6 := ⟨(1 + p).toNat, by rw [wrap_small (by omega) (by omega)]; omega, by omega⟩
  obtain ⟨R, a2, b2, e2, r⟩ := title_l0 c hc n [] a1 b1 (by simp; omega) q0 (by omega) (fun x hx => by cases hx)
  refine ⟨R, a2, b2, ?_, r⟩
  unfold spec_l1Cur_title.f
  rw [e]
  simp only [Option.bind_some, hn.1]
  exact e2
theorem dr_of (c : List Int) (h3 : ∀ x ∈ c, (Lit.int .u8 x).wf = true) (big : ¬ (c.length : Int) > 65536) : dr c := ⟨by omega, fun x hx => by
  have := h3 x hx
  simp only [Lit.wf, Bool.and_eq_true, decide_eq_true_eq] at this
  have e1 : IntKind.u8.min = 0 := rfl
  have e2 : IntKind.u8.max = 255 := rfl
  rw [e1, e2] at this
  exact this⟩

/-! the parts of a title -/
theorem wordsOf_data (s : ByteArray) : (wordsOf s).map (·.data.toList) = wordsL 0 [] s.data.toList := by
  unfold wordsOf
  rw [List.map_map]
  conv => rhs; rw [← List.map_id (wordsL 0 [] s.data.toList)]
  exact List.map_congr_left fun x _ => ofL_toList x
theorem join_cons (x : List UInt8) (l : List (List UInt8)) (h : l ≠ []) : Lib.join (x :: l) [32] = x ++ (32 :: Lib.join l [32]) := by
  cases l with
  | nil => exact absurd rfl h
  | cons y l => rw [Lib.join_cons, Lib.join_cons]; simp [Lib.joinTail]
theorem join_one (x : List UInt8) : Lib.join [x] [32] = x := Lib.join_one _ _
theorem join_words : ∀ (l : List UInt8) (q : Nat) (c : List UInt8), Lib.join (wordsL q c l) [32] = c ++ l
  | [], q, c => by rw [wordsL, join_one, List.append_nil]
  | b :: l, q, c => by
    rw [wordsL]
    by_cases k : b = 32 ∧ q = 0
    · rw [if_pos k, join_cons _ _ (words_pos l q []), join_words l q [], k.1]
      rfl
    · rw [if_neg k, join_words l _ (c ++ [b]), List.append_assoc]
      rfl
theorem JN_words (s : ByteArray) : JN (wordsOf s) = s := by
  have e : (JN (wordsOf s)).data.toList = s.data.toList := by
    unfold JN
    rw [ofL_toList, wordsOf_data, join_words, List.nil_append]
  exact ext_list _ _ e
theorem noBr_join : ∀ X Y : List (List UInt8), X.map noBr = Y.map noBr → noBr (Lib.join X [32]) = noBr (Lib.join Y [32])
  | [], [], _ => rfl
  | [], _ :: _, h => by simp at h
  | _ :: _, [], h => by simp at h
  | [x], [y], h => by
    rw [join_one, join_one]
    exact (List.cons.inj h).1
  | [x], y :: z :: Y, h => by simp at h
  | x :: z :: X, [y], h => by simp at h
  | x :: z :: X, y :: u :: Y, h => by
    have h1 := (List.cons.inj h).1
    have h2 := (List.cons.inj h).2
    have ih := noBr_join (z :: X) (u :: Y) h2
    rw [join_cons x _ (by simp), join_cons y _ (by simp)]
    unfold noBr at *
    rw [List.filter_append, List.filter_append, List.filter_cons, List.filter_cons, ih, h1]
theorem pr_noBr (word w : ByteArray) : noBr (pr word w).data.toList = noBr w.data.toList := by
  unfold pr
  split
  · rename_i c
    have : w = word := str_inj _ _ c
    subst this
    have e : (((⟨#[123]⟩ : ByteArray) ++ w) ++ (⟨#[125]⟩ : ByteArray)).data.toList = [123] ++ w.data.toList ++ [125] := by
      simp [ByteArray.toList_data_append]
    rw [e]
    unfold noBr
    rw [List.filter_append, List.filter_append]
    simp
  · rfl
theorem plain_pr (s word : ByteArray) : noBr (JN ((wordsOf s).map (pr word))).data.toList = noBr s.data.toList := by
  have e1 : (JN ((wordsOf s).map (pr word))).data.toList = Lib.join (((wordsOf s).map (pr word)).map (·.data.toList)) [32] := ofL_toList _
  have e2 : s.data.toList = Lib.join ((wordsOf s).map (·.data.toList)) [32] := by rw [wordsOf_data, join_words, List.nil_append]
  rw [e1, e2]
  apply noBr_join
  rw [List.map_map, List.map_map, List.map_map]
  exact List.map_congr_left fun w _ => pr_noBr word w
theorem cut_back (s : ByteArray) (h : okTitle s.data.toList = true) (hc : (cutS s (colon 0 0 s.data.toList)).2.2 = true) :
    ((cutS s (colon 0 0 s.data.toList)).2.1.toList = [] → (cutS s (colon 0 0 s.data.toList)).1 = s) ∧
    ((cutS s (colon 0 0 s.data.toList)).2.1.toList ≠ [] → ((cutS s (colon 0 0 s.data.toList)).1 ++ (⟨#[58, 32]⟩ : ByteArray)) ++ (cutS s (colon 0 0 s.data.toList)).2.1 = s) ∧
    (cutS s (colon 0 0 s.data.toList)).1.size ≤ 100 ∧ (cutS s (colon 0 0 s.data.toList)).2.1.size ≤ 100 := by
  have o := okT_of h
  have n2 := o.n2
  have hl := data_length s
  cases hj : colon 0 0 s.data.toList with
  | none => exact ⟨fun _ => rfl, fun e => absurd ((toList_nil _).2 rfl) e, by show s.size ≤ 100; omega, by show 0 ≤ 100; omega⟩
  | some j =>
    have hb := colon_bound _ _ _ _ hj
    obtain ⟨l1, l2, e1, e2, e3⟩ := colon_lt _ _ _ _ hj ⟨hb.1, hb.2, by rw [o.br]; rfl⟩
    rw [hj] at hc
    unfold cutS at hc ⊢
    simp only at hc ⊢
    by_cases hp : (Part (s.data.toList.take j) && Part (s.data.toList.drop (j + 2))) = true
    · rw [if_pos hp]
      have t1 : s.data.toList.take j = l1 := by rw [e1, List.take_left' (by omega)]
      have t2 : s.data.toList.drop (j + 2) = l2 := by
        rw [e1, show l1 ++ 58 :: 32 :: l2 = (l1 ++ [58, 32]) ++ l2 from by simp, List.drop_left' (by simp; omega)]
      refine ⟨fun e => ?_, fun _ => ?_, ?_, ?_⟩
      · rw [Bool.and_eq_true] at hp
        have p2 := hp.2
        show ofL _ = s
        have e' : (ofL (s.data.toList.drop (j + 2))).toList = [] := e
        rw [Lib.toList_data, ofL_toList] at e'
        rw [e'] at p2
        exact absurd p2 (by decide)
      · apply ext_list
        show ((ofL _ ++ _) ++ ofL _).data.toList = _
        rw [ByteArray.data_append, ByteArray.data_append, Array.toList_append, Array.toList_append, ofL_toList, ofL_toList, t1, t2]
        conv => rhs; rw [e1]
        simp
      · show (ofL _).size ≤ 100
        rw [ofL_size, List.length_take]; omega
      · show (ofL _).size ≤ 100
        rw [ofL_size, List.length_drop]; omega
    · rw [if_neg hp] at hc
      cases hc

theorem rTexts_l0 (l : List ByteArray) (hl : l.length ≤ 1048576) : ∀ (d i : Nat), i + d = l.length → Ev (fun k => laws_rTexts.l0 k l l (i : Int)) true
  | 0, i, hi => by
    refine Ev.step (f := fun _ => some true) (fun k => ?_) (Ev.now _)
    simp only [laws_rTexts.l0]
    rw [if_neg (by omega)]
  | d + 1, i, hi => by
    have hw : wrap64 ((i : Int) + 1) = ((i + 1 : Nat) : Int) := by rw [wrap_small (by omega) (by omega)]; rfl
    refine Ev.step (fun k => ?_) (rTexts_l0 l hl d (i + 1) (by omega))
    simp only [laws_rTexts.l0]
    rw [if_pos (by omega), if_pos (by omega), if_pos (by omega), if_pos trivial, hw]
theorem rTexts_ev (l : List ByteArray) (hl : l.length ≤ 1048576) : Ev (fun k => laws_rTexts.f k l l) true := by
  unfold laws_rTexts.f
  exact Ev.congr (fun _ => if_pos rfl) (rTexts_l0 l hl l.length 0 (by omega))
theorem words_x (s : ByteArray) (hs : s.size ≤ 1048576) : Ev (fun k => spec_TitleWords.f k s) (if okTitle s.data.toList = true then (wordsOf s, true) else ([], false)) ∧ Ev (fun k => impl_TitleWords.f k s) (if okTitle s.data.toList = true then (wordsOf s, true) else ([], false)) := by
  have g1 := specGood s (by omega)
  have g2 := implValid s (by omega)
  unfold spec_TitleWords.f impl_TitleWords.f
  cases h : okTitle s.data.toList with
  | false =>
    rw [h] at g1 g2
    exact ⟨Ev.bind g1 (Ev.congr (fun _ => if_neg (by decide)) (Ev.now _)), Ev.bind g2 (Ev.congr (fun _ => if_neg (by decide)) (Ev.now _))⟩
  | true =>
    rw [h] at g1 g2
    obtain ⟨w1, w2⟩ := words_both s (by omega) (by rw [(okT_of h).br]; rfl)
    exact ⟨Ev.bind g1 (Ev.congr (fun _ => if_pos rfl) (Ev.bind w1 (Ev.now _))), Ev.bind g2 (Ev.congr (fun _ => if_pos rfl) (Ev.bind w2 (Ev.now _)))⟩
def pword : List ByteArray := [(⟨#[82, 111, 109, 101]⟩ : ByteArray), (⟨#[]⟩ : ByteArray), (⟨#[97, 32, 98]⟩ : ByteArray), (⟨#[123, 120, 125]⟩ : ByteArray), (⟨#[111, 102]⟩ : ByteArray)]
theorem pword_le : ∀ x ∈ pword, x.size ≤ 100 := by decide
theorem drawP (c : List Int) (hc : dr c) : ∃ s w, Ev (fun k => spec_DrawProtectTitle.f k c) (s, w) ∧ s.size ≤ 1000 ∧ w.size ≤ 1000 := by
  obtain ⟨s, a, b, e, hs, h0, h1⟩ := title_ev c hc
  have wx := (words_x s (by omega)).1
  have other : ∀ (l : List ByteArray) (a b : Int), 0 ≤ a → a ≤ 300000 → ∃ w, Ev (fun k => spec_DrawProtectTitle.j0 k s l false c a b) (s, w) ∧ w.size ≤ 1000 := fun l a b ha hb => by
    obtain ⟨w, a1, b1, e1, wm, q0, q1⟩ := of_ev c hc a b pword ha (by omega) (by decide) (by decide)
    have := pword_le w wm
    refine ⟨w, Ev.step (f := fun _ => some (s, w)) (fun k => ?_) (Ev.now _), by omega⟩
    simp only [spec_DrawProtectTitle.j0]
    rw [if_neg (by decide)]
    show (spec_l1Cur_of.f c a b pword).bind _ = _
    rw [e1]
    rfl
  unfold spec_DrawProtectTitle.f
  cases hg : okTitle s.data.toList with
  | false =>
    rw [hg, if_neg (by decide)] at wx
    obtain ⟨w, e2, hw⟩ := other [] a b h0 (by omega)
    exact ⟨s, w, Ev.bind e (Ev.bind wx (Ev.congr (fun _ => if_neg (by decide)) e2)), hs, hw⟩
  | true =>
    rw [hg, if_pos rfl] at wx
    obtain ⟨o1, o2, o3⟩ := words_okw s hg
    obtain ⟨o, a1, b1, e1, q0, q1⟩ := one_ev c hc a b 4 h0 (by omega) (by omega) (by omega)
    cases o with
    | true =>
      obtain ⟨w, e2, hw⟩ := other (wordsOf s) a1 b1 q0 (by omega)
      refine ⟨s, w, Ev.bind e (Ev.bind wx (Ev.congr (fun _ => if_pos rfl) ?_)), hs, hw⟩
      rw [e1]
      exact e2
    | false =>
      obtain ⟨p, a2, b2, e2, p0, p1, r0, r1⟩ := pick_ev c hc a1 b1 ((wordsOf s).length : Int) q0 (by omega) (by omega) (by omega)
      have hm : rdOf ByteArray.empty (wordsOf s) p ∈ wordsOf s := by
        unfold rdOf
        rw [List.getD_eq_getElem?_getD, List.getElem?_eq_getElem (by omega)]
        exact List.getElem_mem _
      have := (o3 _ hm).n2
      refine ⟨s, rdOf ByteArray.empty (wordsOf s) p, Ev.bind e (Ev.bind wx (Ev.congr (fun _ => if_pos rfl) ?_)), hs, by omega⟩
      rw [e1]
      refine Ev.step (f := fun _ => some (s, rdOf ByteArray.empty (wordsOf s) p)) (fun k => ?_) (Ev.now _)
      simp only [spec_DrawProtectTitle.j0, Bool.not_false]
      simp only [Option.bind_some, Bool.not_false, if_true, e2, if_pos p0, if_pos p1]
theorem join_law (s w : ByteArray) (ws : List ByteArray) (ht : tot ws ≤ 1048576) (hl : ws.length ≤ 1000) (R : Bool) (hfin : Ev (fun k => (impl_SplitSubtitle.f k s).bind fun bt310 => ((spec_SplitSubtitle.f k s).bind fun bt313 => (if (JN ws).toList = s.toList then (laws_FnTitleParts.j2 k s w bt310.1 bt310.2.1 bt310.2.2 (bt310.2.2 != bt313.2.2)) else (laws_FnTitleParts.j2 k s w bt310.1 bt310.2.1 bt310.2.2 true)))) R) :
    ∀ (d i : Nat) (acc : ByteArray), i + d = ws.length → acc.data.toList = Lib.join ((ws.take i).map (·.data.toList)) [32] → acc.size ≤ tot (ws.take i) + i → Ev (fun k => laws_FnTitleParts.l0 k s w ws acc (i : Int)) R
  | 0, i, acc, hi, ha, hz => by
    have e : acc = JN ws := by
      apply ext_list
      rw [ha, List.take_of_length_le (by omega)]
      exact (ofL_toList _).symm
    rw [e]
    refine Ev.step (fun k => ?_) hfin
    simp only [laws_FnTitleParts.l0]
    rw [if_neg (by omega)]
  | d + 1, i, acc, hi, ha, hz => by
    have hlt : i < ws.length := by omega
    have hwr : wrap64 ((i : Int) + 1) = ((i + 1 : Nat) : Int) := by rw [wrap_small (by omega) (by omega)]; rfl
    have eg : rdOf ByteArray.empty ws (i : Int) = ws[i] := by
      unfold rdOf
      rw [Int.toNat_natCast, List.getD_eq_getElem?_getD, List.getElem?_eq_getElem hlt]
      rfl
    have tt := tot_take ws i hlt
    have tp := tot_pre ws (i + 1)
    have em : (ws.take (i + 1)).map (·.data.toList) = (ws.take i).map (·.data.toList) ++ [(ws[i]).data.toList] := by
      rw [List.take_succ_eq_append_getElem hlt, List.map_append]
      rfl
    by_cases z : i = 0
    · subst z
      have hacc : acc.data.toList = [] := by rw [ha]; rfl
      have hn : (acc ++ ws[0]).data.toList = Lib.join ((ws.take (0 + 1)).map (·.data.toList)) [32] := by
        rw [ByteArray.data_append, Array.toList_append, hacc, List.nil_append, em]
        show _ = Lib.join [(ws[0]).data.toList] [32]
        rw [Lib.join_one]
      have hs : (acc ++ ws[0]).size ≤ tot (ws.take (0 + 1)) + (0 + 1) := by rw [ByteArray.size_append]; omega
      refine Ev.step (fun k => ?_) (join_law s w ws ht hl R hfin d (0 + 1) (acc ++ ws[0]) (by omega) hn hs)
      simp only [laws_FnTitleParts.l0, eg, hwr]
      rw [if_pos (by omega), if_neg (by omega), if_pos (by omega), if_pos (by omega)]
    · have hne : (ws.take i).map (·.data.toList) ≠ [] := fun e => by
        have := congrArg List.length e
        rw [List.length_map, List.length_take, List.length_nil] at this
        omega
      have hn : ((acc ++ (⟨#[32]⟩ : ByteArray)) ++ ws[i]).data.toList = Lib.join ((ws.take (i + 1)).map (·.data.toList)) [32] := by
        rw [em, join_snoc _ _ hne, ← ha, ByteArray.data_append, ByteArray.data_append, Array.toList_append, Array.toList_append, List.append_assoc]
      have z1 : (acc ++ (⟨#[32]⟩ : ByteArray)).size = acc.size + 1 := by rw [ByteArray.size_append]; rfl
      have hs : ((acc ++ (⟨#[32]⟩ : ByteArray)) ++ ws[i]).size ≤ tot (ws.take (i + 1)) + (i + 1) := by rw [ByteArray.size_append]; omega
      refine Ev.step (fun k => ?_) (join_law s w ws ht hl R hfin d (i + 1) _ (by omega) hn hs)
      simp only [laws_FnTitleParts.l0, eg, hwr]
      rw [if_pos (by omega), if_pos (by omega), if_pos (by omega), if_pos (by omega), if_pos (by omega)]
theorem plain_x (s : ByteArray) (h : okTitle s.data.toList = true) : Ev (fun k => impl_PlainTitle.f k s) (ofL (noBr s.data.toList), true) := by
  have o := okT_of h
  have n2 := o.n2
  have hl := data_length s
  have g2 := implValid s (by omega)
  rw [h] at g2
  unfold impl_PlainTitle.f
  refine Ev.bind g2 (Ev.congr (fun _ => if_pos rfl) ?_)
  rw [implPlain s (by omega)]
  exact Ev.now _
theorem FnTitleParts : laws_FnTitleParts.Pure := by
  intro c h1 _ h3
  refine Ev.rounds (g := fun k => laws_FnTitleParts.f k c) ?_
  unfold laws_FnTitleParts.f laws_rBig.f
  simp only [Option.bind_some]
  by_cases big : (c.length : Int) > 65536
  · exact Ev.congr (fun _ => if_pos (decide_eq_true big)) (Ev.now true)
  have hc := dr_of c h3 big
  refine Ev.congr (fun _ => if_neg (by rw [decide_eq_false big]; decide)) ?_
  obtain ⟨s, w, d, hs, hw⟩ := drawP c hc
  obtain ⟨wS, wI⟩ := words_x s (by omega)
  cases hg : okTitle s.data.toList with
  | false =>
    rw [hg, if_neg (by decide)] at wS wI
    refine Ev.bind d (Ev.bind wI (Ev.bind wS (Ev.congr (fun _ => if_neg (by decide)) (Ev.bind (rTexts_ev [] (by simp)) ?_))))
    refine Ev.step (f := fun _ => some true) (fun k => ?_) (Ev.now _)
    simp only [laws_FnTitleParts.j0]
    rw [if_neg (by decide), if_neg (by decide)]
  | true =>
    rw [hg, if_pos rfl] at wS wI
    obtain ⟨o1, o2, o3⟩ := words_okw s hg
    have ot := okT_of hg
    have hl := data_length s
    have n2 := ot.n2
    have ht := tot_le (wordsOf s) 100 (fun x hx => (o3 x hx).n2)
    have ht2 : tot (wordsOf s) ≤ 10100 := Nat.le_trans ht (Nat.mul_le_mul_left 100 o1)
    have spI := implSplit s (by omega) (by rw [ot.br]; rfl)
    have spS := specSplit s (by omega)
    rw [hg, if_pos rfl] at spS
    have gv := implValid s (by omega)
    rw [hg] at gv
    have spX : Ev (fun k => impl_SplitSubtitle.f k s) (cutS s (colon 0 0 s.data.toList)) := by
      unfold impl_SplitSubtitle.f
      exact Ev.bind gv (Ev.congr (fun _ => if_pos rfl) (Ev.bind spI (Ev.now _)))
    have cb := cut_back s hg
    obtain ⟨RS, s1, s2, s3⟩ := Short_both s 20 (by omega) (by decide)
    have s3 := s3 hg
    obtain ⟨RP, p1, p2, p3⟩ := Protect_both s w (by omega) (by omega)
    generalize cutS s (colon 0 0 s.data.toList) = q at *
    -- the last steps, from the end
    have last : Ev (fun k => laws_FnTitleParts.j5 k s RP.1 RP.2 false) true := by
      cases hd : RP.2 with
      | false =>
        refine Ev.step (f := fun _ => some true) (fun k => ?_) (Ev.now _)
        simp only [laws_FnTitleParts.j5]
        rw [if_neg (by decide), if_neg (by decide)]
      | true =>
        obtain ⟨_, f1, f2⟩ := p3 hd
        have x1 := plain_x s hg
        have x2 := plain_x RP.1 f2
        have y1 := Sort_impl s hg
        have y2 := Sort_impl RP.1 f2
        have hn : noBr RP.1.data.toList = noBr s.data.toList := by rw [f1]; exact plain_pr s w
        rw [hn] at x2 y2
        generalize ofL (noBr s.data.toList) = P at *
        generalize sortF ((simpleL [] (noBr s.data.toList)).map ofL) = Q at *
        refine Ev.step (f := fun k => (impl_PlainTitle.f k s).bind fun bt324 => ((impl_PlainTitle.f k RP.1).bind fun bt326 => ((impl_SortTitle.f k s).bind fun bt328 => ((impl_SortTitle.f k RP.1).bind fun bt330 => (if bt324.2 = true then (if bt326.2 = true then (if bt328.2 = true then (if bt330.2 = true then (if bt324.1.toList = bt326.1.toList then (some (bt328.1.toList == bt330.1.toList)) else (some false)) else (some false)) else (some false)) else (some false)) else (some false)))))) (fun k => ?_) (Ev.bind x1 (Ev.bind x2 (Ev.bind y1 (Ev.bind y2 ?_))))
        · simp only [laws_FnTitleParts.j5]
          rw [if_neg (by decide), if_pos trivial]
        · refine Ev.congr (fun _ => (if_pos rfl).trans ((if_pos rfl).trans ((if_pos rfl).trans ((if_pos rfl).trans (if_pos rfl))))) ?_
          rw [beq_self_eq_true]
          exact Ev.now _
    have j4 : Ev (fun k => laws_FnTitleParts.j4 k s w) true := by
      refine Ev.step (f := fun k => (impl_ProtectTitle.f k s w).bind fun bt320 => ((spec_ProtectTitle.f k s w).bind fun bt322 => (if (bt320.2 != bt322.2) = true then (laws_FnTitleParts.j5 k s bt320.1 bt320.2 true) else (laws_FnTitleParts.j5 k s bt320.1 bt320.2 (bt320.1.toList != bt322.1.toList))))) (fun k => ?_) (Ev.bind p2 (Ev.bind p1 ?_))
      · simp only [laws_FnTitleParts.j4]
      · refine Ev.congr (fun _ => if_neg (by simp)) ?_
        rw [bne_self_eq_false]
        exact last
    have j3 : Ev (fun k => laws_FnTitleParts.j3 k s w q.2.2 false) true := by
      cases hq : q.2.2 with
      | false =>
        refine Ev.step (fun k => ?_) j4
        simp only [laws_FnTitleParts.j3]
        rw [if_neg (by decide), if_neg (by decide)]
      | true =>
        have s4 := s3 hq ⟨by omega, by omega⟩
        refine Ev.step (f := fun k => (impl_ShortTitle.f k s 20).bind fun bt316 => ((spec_ShortTitle.f k s 20).bind fun bt318 => (if bt316.2 = true then (if bt316.1.toList = bt318.1.toList then (laws_FnTitleParts.j4 k s w) else (some false)) else (some false)))) (fun k => ?_) (Ev.bind s2 (Ev.bind s1 ?_))
        · simp only [laws_FnTitleParts.j3]
          rw [if_neg (by decide), if_pos trivial]
        · exact Ev.congr (fun _ => (if_pos s4).trans (if_pos rfl)) j4
    have j2 : Ev (fun k => laws_FnTitleParts.j2 k s w q.1 q.2.1 q.2.2 false) true := by
      cases hq : q.2.2 with
      | false =>
        rw [hq] at j3
        refine Ev.step (fun k => ?_) j3
        simp only [laws_FnTitleParts.j2]
        rw [if_neg (by decide), if_neg (by decide)]
      | true =>
        rw [hq] at j3
        obtain ⟨c1, c2, c3, c4⟩ := cb hq
        by_cases e : q.2.1.toList = ([] : List UInt8)
        · refine Ev.step (fun k => ?_) j3
          simp only [laws_FnTitleParts.j2]
          rw [if_neg (by decide), if_pos trivial, if_pos e, c1 e, bne_self_eq_false]
        · have z1 : (q.1 ++ (⟨#[58, 32]⟩ : ByteArray)).size = q.1.size + 2 := by rw [ByteArray.size_append]; rfl
          refine Ev.step (fun k => ?_) j3
          simp only [laws_FnTitleParts.j2]
          rw [if_neg (by decide), if_pos trivial, if_neg e, if_pos (by omega), if_pos (by omega), if_pos (by rw [c2 e])]
    have hfin : Ev (fun k => (impl_SplitSubtitle.f k s).bind fun bt310 => ((spec_SplitSubtitle.f k s).bind fun bt313 => (if (JN (wordsOf s)).toList = s.toList then (laws_FnTitleParts.j2 k s w bt310.1 bt310.2.1 bt310.2.2 (bt310.2.2 != bt313.2.2)) else (laws_FnTitleParts.j2 k s w bt310.1 bt310.2.1 bt310.2.2 true)))) true := by
      refine Ev.bind spX (Ev.bind spS (Ev.congr (fun _ => if_pos (by rw [JN_words])) ?_))
      rw [bne_self_eq_false]
      exact j2
    have jl := join_law s w (wordsOf s) (by omega) (by omega) true hfin (wordsOf s).length 0 (⟨#[]⟩ : ByteArray) (by omega) (by rw [List.take_zero, List.map_nil, Lib.join_nil]) (by show 0 ≤ _; omega)
    refine Ev.bind d (Ev.bind wI (Ev.bind wS (Ev.congr (fun _ => if_neg (by simp)) (Ev.bind (rTexts_ev (wordsOf s) (by omega)) ?_))))
    refine Ev.step (fun k => ?_) jl
    simp only [laws_FnTitleParts.j0]
    rw [if_neg (by decide), if_pos trivial]
    rfl

end Go.Proofs.YtiofklnfpmphnaaDoor.Pure
