/- The law FnSpans, as a statement over numbers and lists: the program's function and the reference's answer alike, for every input; no further condition. -/
import Derived.Laws.BitsAllLaws
import Derived.Test.YtgaepocgpjbapaaPx10
import Derived.Test.YtgaepocgpjbapaaPx12
import Derived.Test.YtgaepocgpjbapaaPx13
import Derived.Test.YtgaepocgpjbapaaPx14
import Derived.Test.YtgaepocgpjbapaaPx15
import Derived.Test.YtgaepocgpjbapaaPx16
import Derived.Test.YtgaepocgpjbapaaPx17
import Derived.Test.YtgaepocgpjbapaaPx18
import Derived.Test.YtgaepocgpjbapaaPx2
import Derived.Test.YtgaepocgpjbapaaPx3
import Derived.Test.YtgaepocgpjbapaaPx4
import Derived.Test.YtgaepocgpjbapaaPx5
import Derived.Test.YtgaepocgpjbapaaPx6
import Derived.Test.YtgaepocgpjbapaaPx7
import Derived.Test.YtgaepocgpjbapaaPx8
import Derived.Test.YtgaepocgpjbapaaPx9
import Derived.Test.YtgaepocgpjbapaaQRead
namespace Go.Proofs.Ytgaepocgpjbapaa.Pure
open Go.RowKit Go.Proofs.Ytgaepocgpjbapaa.Px Go.Proofs.YtgaepocgpjbapaaW.PrintWords Go.Proofs.YtgaepocgpjbapaaW.PrintLast
set_option linter.unusedVariables false
set_option linter.unusedSimpArgs false

/-! what draws: the cursor's steps -/
def dr (c : List Int) : Prop := c.length ≤ 65536 ∧ ∀ x ∈ c, 0 ≤ x ∧ x ≤ 255
theorem rd_dr (c : List Int) (h : dr c) (a : Int) : 0 ≤ rd c a ∧ rd c a ≤ 255 := by
  unfold rd
  rw [List.getD_eq_getElem?_getD]
  cases hg : c[a.toNat]? with
  | none => simp
  | some x =>
    obtain ⟨h1, h2⟩ := List.getElem?_eq_some_iff.1 hg
    have := h.2 x (by rw [← h2]; exact List.getElem_mem h1)
    simpa using this
theorem wrap_u64 (y : Int) : 0 ≤ IntKind.u64.wrap y ∧ IntKind.u64.wrap y < 18446744073709551616 := by
  have e : IntKind.u64.wrap y = y % 18446744073709551616 := by
    simp [IntKind.wrap, IntKind.signed, IntKind.bits]
  rw [e]
  omega
theorem low_byte (y : Int) : 0 ≤ Go.bits .and .u64 (IntKind.u64.wrap y / 1099511627776) 255 ∧ Go.bits .and .u64 (IntKind.u64.wrap y / 1099511627776) 255 ≤ 255 := by
  obtain ⟨h1, h2⟩ := wrap_u64 y
  generalize IntKind.u64.wrap y = z at *
  have h3 : 0 ≤ z / 1099511627776 := by omega
  have h4 : z / 1099511627776 < 18446744073709551616 := by omega
  rw [u64_and _ 255 h3 h4 (by decide) (by decide)]
  have := Nat.and_le_right (n := (z / 1099511627776).toNat) (m := (255 : Int).toNat)
  have e : (255 : Int).toNat = 255 := rfl
  omega
theorem next_ev (c : List Int) (hc : dr c) (a b : Int) (ha : 0 ≤ a) (hb : a ≤ 1000000000) : ∃ x b', spec_l1Cur_next.f c a b = some (x, a + 1, b') ∧ 0 ≤ x ∧ x ≤ 255 := by
  have hw : wrap64 (a + 1) = a + 1 := wrap_small (by omega) (by omega)
  have hr := rd_dr c hc a
  have hl := hc.1
  have hx : wrap64 (rd c a) = rd c a := wrap_small (by omega) (by omega)
  have lo : ∀ y : Int, 0 ≤ wrap64 (Go.bits .and .u64 (IntKind.u64.wrap y / 1099511627776) 255) ∧ wrap64 (Go.bits .and .u64 (IntKind.u64.wrap y / 1099511627776) 255) ≤ 255 := fun y => by
    obtain ⟨h1, h2⟩ := low_byte y
    rw [wrap_small (by omega) (by omega)]
    exact ⟨h1, h2⟩
  unfold spec_l1Cur_next.f
  rw [hw, hx]
  by_cases c1 : a < (c.length : Int)
  · rw [if_pos c1, if_pos ha]
    by_cases c2 : a + 1 ≤ (c.length : Int)
    · rw [if_pos c2]
      exact ⟨_, _, rfl, hr⟩
    · rw [if_neg c2]
      exact ⟨_, _, rfl, lo _⟩
  · rw [if_neg c1]
    by_cases c2 : a + 1 ≤ (c.length : Int)
    · rw [if_pos c2]
      exact ⟨_, _, rfl, by omega, by omega⟩
    · rw [if_neg c2]
      exact ⟨_, _, rfl, lo _⟩
theorem tmod_in (x n : Int) (hx : 0 ≤ x) (hn : 0 < n) : 0 ≤ Int.tmod x n ∧ Int.tmod x n < n := by
  rw [Int.tmod_eq_emod_of_nonneg hx]
  exact ⟨Int.emod_nonneg _ (by omega), Int.emod_lt_of_pos _ hn⟩
theorem pick_ev (c : List Int) (hc : dr c) (a b n : Int) (ha : 0 ≤ a) (hb : a ≤ 900000000) (hn : 1 ≤ n) (hn2 : n ≤ 1000000000) : ∃ x a' b', spec_l1Cur_pick.f c a b n = some (x, a', b') ∧ 0 ≤ x ∧ x < n ∧ 0 ≤ a' ∧ a' ≤ a + 2 := by
  unfold spec_l1Cur_pick.f
  by_cases c1 : n ≤ 1
  · rw [if_pos c1]
    exact ⟨_, _, _, rfl, by omega, by omega, ha, by omega⟩
  · obtain ⟨x, b1, e1, x0, x1⟩ := next_ev c hc a b ha (by omega)
    rw [if_neg c1, e1, Option.bind_some]
    by_cases c2 : n > 200
    · obtain ⟨y, b2, e2, y0, y1⟩ := next_ev c hc (a + 1) b1 (by omega) (by omega)
      rw [if_pos c2]
      simp only [e2, Option.bind_some]
      rw [if_neg (by omega)]
      have hw : wrap64 (wrap64 (x * 256) + y) = x * 256 + y := by rw [wrap_small (x := x * 256) (by omega) (by omega), wrap_small (by omega) (by omega)]
      rw [hw]
      obtain ⟨t0, t1⟩ := tmod_in (x * 256 + y) n (by omega) (by omega)
      exact ⟨_, _, _, rfl, t0, t1, by omega, by omega⟩
    · rw [if_neg c2, if_neg (by omega)]
      obtain ⟨t0, t1⟩ := tmod_in x n x0 (by omega)
      exact ⟨Int.tmod x n, a + 1, b1, rfl, t0, t1, by omega, by omega⟩
theorem one_ev (c : List Int) (hc : dr c) (a b n : Int) (ha : 0 ≤ a) (hb : a ≤ 900000000) (hn : 1 ≤ n) (hn2 : n ≤ 1000000000) : ∃ x a' b', spec_l1Cur_one.f c a b n = some (x, a', b') ∧ 0 ≤ a' ∧ a' ≤ a + 2 := by
  obtain ⟨x, a', b', e, _, _, h3, h4⟩ := pick_ev c hc a b n ha hb hn hn2
  unfold spec_l1Cur_one.f
  rw [e]
  exact ⟨_, _, _, rfl, h3, h4⟩
theorem of_ev (c : List Int) (hc : dr c) (a b : Int) (l : List ByteArray) (ha : 0 ≤ a) (hb : a ≤ 900000000) (hn : 1 ≤ l.length) (hn2 : l.length ≤ 1000000) : ∃ x a' b', spec_l1Cur_of.f c a b l = some (x, a', b') ∧ x ∈ l ∧ 0 ≤ a' ∧ a' ≤ a + 2 := by
  obtain ⟨x, a', b', e, h1, h2, h3, h4⟩ := pick_ev c hc a b (l.length : Int) ha hb (by omega) (by omega)
  unfold spec_l1Cur_of.f
  rw [e, Option.bind_some, if_pos h1, if_pos h2]
  refine ⟨_, _, _, rfl, ?_, h3, h4⟩
  unfold rdOf
  rw [List.getD_eq_getElem?_getD, List.getElem?_eq_getElem (by omega)]
  exact List.getElem_mem _
theorem spoilt_ev (c : List Int) (hc : dr c) (a b : Int) (t w : ByteArray) (ha : 0 ≤ a) (hb : a ≤ 800000000) (ht : t.size ≤ 1000000) (hw0 : 1 ≤ w.size) (hw : w.size ≤ 1000000) : ∃ x a' b', spec_l1Cur_spoilt.f c a b t w = some (x, a', b') ∧ x.size ≤ t.size + 1 := by
  unfold spec_l1Cur_spoilt.f
  by_cases z : t.size = 0
  · rw [if_pos z, if_pos hw0]
    exact ⟨_, _, _, rfl, by rw [ByteArray.size_extract]; omega⟩
  · obtain ⟨i, a1, b1, e1, i0, i1, g0, g1⟩ := pick_ev c hc a b (t.size : Int) ha (by omega) (by omega) (by omega)
    obtain ⟨j, a2, b2, e2, j0, j1, h0, h1⟩ := pick_ev c hc a1 b1 (w.size : Int) g0 (by omega) (by omega) (by omega)
    obtain ⟨v, a3, b3, e3, v0, v1, k0, k1⟩ := pick_ev c hc a2 b2 3 h0 (by omega) (by omega) (by omega)
    rw [if_neg z, e1, Option.bind_some]
    simp only [e2, e3, Option.bind_some]
    rw [if_pos ⟨⟨j0, j1⟩, ⟨i0, i1⟩, by omega⟩]
    refine ⟨_, _, _, rfl, ?_⟩
    unfold spec_l1Cur_spoilt.res
    split
    · simp only [ByteArray.size_append, ByteArray.size_extract]; omega
    · split <;> simp only [ByteArray.size_append, ByteArray.size_extract] <;> omega

/-! the plain text -/
def cat (o : ByteArray) : List Sp → ByteArray
  | [] => o
  | x :: l => cat (o ++ x.f0) l
theorem plain_l0 (l : List Sp) (hl : l.length ≤ 1048576) (d : Nat) : ∀ (k : Nat) (i : Int) (o : ByteArray), 0 ≤ i → i + d = l.length → d < k → o.size + tot (l.drop i.toNat) ≤ 4194304 →
    impl_plainText.l0 k o l (l.length : Int) i = some (cat o (l.drop i.toNat)) := by
  induction d with
  | zero =>
    intro k i o h0 h1 hk hs
    obtain ⟨k, rfl⟩ : ∃ m, k = m + 1 := ⟨k - 1, by omega⟩
    rw [drop_none l i (by omega)]
    simp only [impl_plainText.l0]; rw [if_neg (by omega)]; rfl
  | succ d ih =>
    intro k i o h0 h1 hk hs
    obtain ⟨k, rfl⟩ : ∃ m, k = m + 1 := ⟨k - 1, by omega⟩
    rw [drop_cons z44 l i h0 (by omega), tot_cons] at hs
    rw [drop_cons z44 l i h0 (by omega)]
    have e : rd_T44 l i = l.getD i.toNat z44 := rfl
    have g2 := ih k (i + 1) (o ++ (l.getD i.toNat z44).f0) (by omega) (by omega) (by omega) (by rw [ByteArray.size_append]; omega)
    simp only [impl_plainText.l0, e]
    rw [if_pos (by omega), if_pos h0, if_pos (by omega), if_pos (by omega), wrap_small (by omega) (by omega), g2]
    rfl
theorem plain_ev (l : List Sp) (hl : l.length ≤ 1048576) (ht : tot l ≤ 1048576) : Ev (fun k => impl_plainText.f k l) (cat ⟨#[]⟩ l) := by
  refine ⟨l.length + 1, fun k hk => ?_⟩
  have z : (⟨#[]⟩ : ByteArray).size = 0 := rfl
  have := plain_l0 l hl l.length k 0 ⟨#[]⟩ (by omega) (by omega) (by omega) (by rw [z]; simp; omega)
  unfold impl_plainText.f
  simpa using this
theorem cat_app (l : List Sp) : ∀ o m, cat o (l ++ m) = cat (cat o l) m := by
  induction l with
  | nil => intro o m; rfl
  | cons x l ih => intro o m; exact ih (o ++ x.f0) m
theorem cat_push (p : List Sp) (x : Sp) (o : ByteArray) : cat o (push p x) = cat o p ++ x.f0 := by
  unfold push
  split
  · rename_i d
    obtain ⟨d1, _, _⟩ := d
    have hl : p = p.take (p.length - 1) ++ [p.getD (p.length - 1) z44] := by
      have e : p.drop (p.length - 1) = [p.getD (p.length - 1) z44] := by
        rw [List.drop_eq_getElem_cons (by omega), List.getD_eq_getElem?_getD, List.getElem?_eq_getElem (by omega), List.drop_of_length_le (by omega)]
        rfl
      rw [← e, List.take_append_drop]
    generalize hz : p.getD (p.length - 1) z44 = z at *
    generalize hq : p.take (p.length - 1) = q at *
    have hql : q.length = p.length - 1 := by rw [← hq, List.length_take]; omega
    rw [← hql, hl]
    have : (q ++ [z]).set q.length ⟨z.f0 ++ x.f0, x.f1, x.f2⟩ = q ++ [⟨z.f0 ++ x.f0, x.f1, x.f2⟩] := by simp
    rw [this, cat_app, cat_app]
    show cat o q ++ (z.f0 ++ x.f0) = (cat o q ++ z.f0) ++ x.f0
    rw [ByteArray.append_assoc]
  · rw [cat_app]
    rfl
theorem cat_norm (l : List Sp) : ∀ p o, cat o (norm p l) = cat (cat o p) l := by
  induction l with
  | nil => intro p o; rfl
  | cons x l ih =>
    intro p o
    rw [norm_cons]
    split
    · rename_i c
      rw [ih]
      have : cat o p ++ x.f0 = cat o p := by
        have hx : x.f0 = ⟨#[]⟩ := ext_list _ _ (by rw [List.eq_nil_of_length_eq_zero (by rw [data_length]; exact c : x.f0.data.toList.length = 0)])
        rw [hx]
        exact ext_list _ _ (by simp)
      show _ = cat (cat o p ++ x.f0) l
      rw [this]
    · rw [ih, cat_push]
      rfl
/-! good lists stay so -/
theorem okt_app (a b : ByteArray) : okt (a ++ b) = (okt a && okt b) := by
  unfold okt
  simp
theorem ok_push (p : List Sp) (x : Sp) (hp : p.all (fun y => okt y.f0) = true) (hx : okt x.f0 = true) : (push p x).all (fun y => okt y.f0) = true := by
  rw [List.all_eq_true] at hp ⊢
  intro y hy
  unfold push at hy
  split at hy
  · rename_i d
    have hz : okt (p.getD (p.length - 1) z44).f0 = true := hp _ (by
      rw [List.getD_eq_getElem?_getD, List.getElem?_eq_getElem (by omega)]
      exact List.getElem_mem _)
    rcases List.mem_or_eq_of_mem_set hy with h | h
    · exact hp y h
    · rw [h]
      show okt (_ ++ _) = true
      rw [okt_app, hz, hx]
      rfl
  · rcases List.mem_append.1 hy with h | h
    · exact hp y h
    · rw [List.mem_singleton] at h
      rw [h]
      exact hx
theorem ok_norm (l : List Sp) : ∀ p : List Sp, p.all (fun y => okt y.f0) = true → l.all (fun y => okt y.f0) = true → (norm p l).all (fun y => okt y.f0) = true := by
  induction l with
  | nil => intro p hp _; exact hp
  | cons x l ih =>
    intro p hp hl
    rw [List.all_cons, Bool.and_eq_true] at hl
    rw [norm_cons]
    split
    · exact ih p hp hl.2
    · exact ih _ (ok_push p x hp hl.1) hl.2
theorem good_norm (l : List Sp) (h : goodS l = true) : goodS (norm [] l) = true := by
  unfold goodS at *
  simp only [Bool.and_eq_true, decide_eq_true_eq] at *
  obtain ⟨h1, h2, h3⟩ := h
  have nb := norm_bounds l []
  simp only [List.length_nil, tot_nil] at nb
  exact ⟨by omega, ok_norm l [] rfl h2, by omega⟩
theorem parse_back (o : List Sp) (hg : goodS o = true) (hn : norm [] o = o) : accS (strOfNums (mkups o)) = (o, true) := by
  have ha := adj_of o [] (by simpa using hn)
  have hs := scan_norm o [] [] [] ha (norm_empty _ _ (span_empty _ _))
  rw [List.nil_append] at hs
  unfold accS
  rw [text_mks o _ rfl, hs, if_pos ⟨hg, rfl⟩]
/-! what is drawn -/
def fit (l : List Sp) : Prop := l.length ≤ 82 ∧ ∀ x ∈ l, x.f0.size ≤ 8
theorem fit_tot (l : List Sp) (h : ∀ x ∈ l, x.f0.size ≤ 8) : tot l ≤ 8 * l.length := by
  induction l with
  | nil => simp [tot]
  | cons x l ih =>
    have a := h x (by simp)
    have b := ih (fun y hy => h y (List.mem_cons_of_mem _ hy))
    rw [tot_cons, List.length_cons]
    omega
theorem fit_snoc (l : List Sp) (x : Sp) (h : ∀ y ∈ l, y.f0.size ≤ 8) (hx : x.f0.size ≤ 8) : ∀ y ∈ l ++ [x], y.f0.size ≤ 8 := fun y hy => by
  rcases List.mem_append.1 hy with g | g
  · exact h y g
  · rw [List.mem_singleton] at g; rw [g]; exact hx
theorem spans_l1 (c : List Int) (hc : dr c) : ∀ (d : Nat) (out : List Sp) (a b : Int), out.length + d = 82 → 0 ≤ a → a + 3 * d ≤ 1000000 → (∀ x ∈ out, x.f0.size ≤ 8) →
    ∃ R a' b', Ev (fun k => spec_l1Cur_spans.l1 k out c a b) (R, a', b') ∧ fit R ∧ 0 ≤ a' ∧ a' ≤ 1000002 := fun d => by
  induction d with
  | zero =>
    intro out a b h1 h2 h3 h4
    obtain ⟨p, a1, b1, e, p0, p1, q0, q1⟩ := pick_ev c hc a b 2 h2 (by omega) (by omega) (by omega)
    refine ⟨out, a1, b1, Ev.step (f := fun _ => some (out, a1, b1)) (fun k => ?_) (Ev.now _), ⟨by omega, h4⟩, q0, by omega⟩
    simp only [spec_l1Cur_spans.l1]
    rw [e, Option.bind_some, if_neg (by rw [wrap_small (by omega) (by omega)]; omega)]
  | succ d ih =>
    intro out a b h1 h2 h3 h4
    obtain ⟨p, a1, b1, e, p0, p1, q0, q1⟩ := pick_ev c hc a b 2 h2 (by omega) (by omega) (by omega)
    have hw : wrap64 (80 + p) = 80 + p := wrap_small (by omega) (by omega)
    by_cases cc : (out.length : Int) < 80 + p
    · obtain ⟨R, a2, b2, e2, r1, r2, r3⟩ := ih (out ++ [⟨⟨#[97]⟩, (((out.length : Int) % 2) == 0), false⟩]) a1 b1 (by simp; omega) q0 (by omega) (fit_snoc _ _ h4 (by show 1 ≤ 8; omega))
      refine ⟨R, a2, b2, Ev.step (fun k => ?_) e2, r1, r2, r3⟩
      have hlen : out.length < 5864062014805 := by omega
      simp only [spec_l1Cur_spans.l1]
      rw [e, Option.bind_some, hw, if_pos cc, if_pos hlen]
    · refine ⟨out, a1, b1, Ev.step (f := fun _ => some (out, a1, b1)) (fun k => ?_) (Ev.now _), ⟨by omega, h4⟩, q0, by omega⟩
      simp only [spec_l1Cur_spans.l1]
      rw [e, Option.bind_some, hw, if_neg cc]
def texts : List ByteArray := [(⟨#[79, 110]⟩ : ByteArray), (⟨#[32]⟩ : ByteArray), (⟨#[114, 105, 118, 101, 114, 115]⟩ : ByteArray), (⟨#[]⟩ : ByteArray), (⟨#[97, 95, 98]⟩ : ByteArray), (⟨#[50, 42, 51]⟩ : ByteArray), (⟨#[92]⟩ : ByteArray), (⟨#[120, 32, 121]⟩ : ByteArray)]
theorem texts_le : ∀ x ∈ texts, x.size ≤ 8 := fun x hx => by
  simp only [texts, List.mem_cons, List.not_mem_nil, or_false] at hx
  rcases hx with rfl | rfl | rfl | rfl | rfl | rfl | rfl | rfl <;> decide
theorem spans_l0 (c : List Int) (hc : dr c) : ∀ (n : Nat) (out : List Sp) (a b : Int), out.length + n ≤ 7 → 0 ≤ a → a + 10 * n ≤ 1000 → (∀ x ∈ out, x.f0.size ≤ 8) →
    ∃ R a' b', Ev (fun k => spec_l1Cur_spans.l0 k out (n : Int) c a b) (R, a', b') ∧ fit R ∧ 0 ≤ a' ∧ a' ≤ 1000002 := fun n => by
  induction n with
  | zero =>
    intro out a b h1 h2 h3 h4
    obtain ⟨p, a1, b1, e, p0, p1, q0, q1⟩ := pick_ev c hc a b 24 h2 (by omega) (by omega) (by omega)
    have hlen : out.length < 5864062014805 := by omega
    by_cases c0 : p = 0
    · refine ⟨out ++ [⟨⟨#[97, 10]⟩, false, false⟩], a1, b1, Ev.step (f := fun _ => some (out ++ [⟨⟨#[97, 10]⟩, false, false⟩], a1, b1)) (fun k => ?_) (Ev.now _), ⟨by simp; omega, fit_snoc _ _ h4 (by show 2 ≤ 8; omega)⟩, q0, by omega⟩
      simp only [spec_l1Cur_spans.l0]
      rw [if_neg (by decide), e, Option.bind_some, if_pos c0, if_pos hlen]
    · by_cases c1 : p = 1
      · obtain ⟨R, a2, b2, e2, r1, r2, r3⟩ := spans_l1 c hc (82 - out.length) out a1 b1 (by omega) q0 (by omega) h4
        refine ⟨R, a2, b2, Ev.step (fun k => ?_) e2, r1, r2, r3⟩
        simp only [spec_l1Cur_spans.l0]
        rw [if_neg (by decide), e, Option.bind_some, if_neg c0, if_pos c1]
      · refine ⟨out, a1, b1, Ev.step (f := fun _ => some (out, a1, b1)) (fun k => ?_) (Ev.now _), ⟨by omega, h4⟩, q0, by omega⟩
        simp only [spec_l1Cur_spans.l0]
        rw [if_neg (by decide), e, Option.bind_some, if_neg c0, if_neg c1]
  | succ n ih =>
    intro out a b h1 h2 h3 h4
    obtain ⟨t, a1, b1, e1, t0, q0, q1⟩ := of_ev c hc a b texts h2 (by omega) (by decide) (by decide)
    obtain ⟨x, a2, b2, e2, q2, q3⟩ := one_ev c hc a1 b1 3 q0 (by omega) (by omega) (by omega)
    obtain ⟨y, a3, b3, e3, q4, q5⟩ := one_ev c hc a2 b2 3 q2 (by omega) (by omega) (by omega)
    have hlen : out.length < 5864062014805 := by omega
    have hpos : ((n + 1 : Nat) : Int) > 0 := by omega
    obtain ⟨R, a4, b4, e4, r1, r2, r3⟩ := ih (out ++ [⟨t, x, y⟩]) a3 b3 (by simp; omega) q4 (by omega) (fit_snoc _ _ h4 (texts_le t t0))
    have hw : wrap64 (((n + 1 : Nat) : Int) - 1) = (n : Int) := by rw [wrap_small (by omega) (by omega)]; omega
    refine ⟨R, a4, b4, Ev.step (fun k => ?_) e4, r1, r2, r3⟩
    simp only [spec_l1Cur_spans.l0]
    rw [if_pos hpos]
    show (spec_l1Cur_of.f c a b texts).bind _ = _
    rw [e1, Option.bind_some]
    simp only [e2, e3, Option.bind_some]
    rw [if_pos hlen, hw]
theorem spans_ev (c : List Int) (hc : dr c) : ∃ R a' b', Ev (fun k => spec_l1Cur_spans.f k c 0 0) (R, a', b') ∧ fit R ∧ 0 ≤ a' ∧ a' ≤ 1000002 := by
  obtain ⟨p, a1, b1, e, p0, p1, q0, q1⟩ := pick_ev c hc 0 0 7 (by omega) (by omega) (by omega) (by omega)
  obtain ⟨n, rfl⟩ : ∃ n : Nat, p = (n : Int) := ⟨p.toNat, by omega⟩
  obtain ⟨R, a2, b2, e2, r⟩ := spans_l0 c hc n [] a1 b1 (by simp; omega) q0 (by omega) (fun x hx => by cases hx)
  refine ⟨R, a2, b2, ?_, r⟩
  unfold spec_l1Cur_spans.f
  rw [e]
  exact e2
theorem draw_text (c : List Int) (hc : dr c) : ∃ t, Ev (fun k => spec_DrawParseSpans.f k c) t ∧ t.size ≤ 100000 := by
  obtain ⟨L, a, b, e, ⟨f1, f2⟩, a0, a1⟩ := spans_ev c hc
  have ft := fit_tot L f2
  have nb := norm_bounds L []
  simp only [List.length_nil, tot_nil] at nb
  have e1 : Ev (fun k => spec_l10Normal.f k L) (norm [] L) := ⟨L.length + 1, fun k hk => l10Normal_k L (by omega) (by omega) k (by omega)⟩
  have e2 : Ev (fun k => spec_l10Markup.f k (norm [] L)) (strOfNums (mkups (norm [] L))) := ⟨6500001, fun k hk => l10Markup_k _ (by omega) (by omega) k (by omega)⟩
  have hz : (strOfNums (mkups (norm [] L))).size ≤ 10000 := by
    rw [strOfNums_size]
    have := mkups_len (norm [] L)
    omega
  obtain ⟨o, a2, b2, e3, o0, o1⟩ := one_ev c hc a b 3 a0 (by omega) (by omega) (by omega)
  obtain ⟨t, a3, b3, e4, hs⟩ := spoilt_ev c hc a2 b2 (strOfNums (mkups (norm [] L))) (⟨#[97, 42, 95, 32, 92]⟩ : ByteArray) o0 (by omega) (by omega) (by decide) (by decide)
  unfold spec_DrawParseSpans.f
  cases o with
  | true =>
    refine ⟨t, Ev.bind e (Ev.bind e1 (Ev.bind e2 ?_)), by omega⟩
    simp only [e3, Option.bind_some, if_true, e4]
    exact Ev.now _
  | false =>
    refine ⟨strOfNums (mkups (norm [] L)), Ev.bind e (Ev.bind e1 (Ev.bind e2 ?_)), by omega⟩
    simp only [e3, Option.bind_some, Bool.false_eq_true, if_false]
    exact Ev.now _
theorem vSpans_l0 (l : List Sp) (hl : l.length ≤ 1048576) : ∀ (d i : Nat), i + d = l.length → Ev (fun k => laws_vSpans.l0 k l l (i : Int)) true
  | 0, i, hi => by
    refine Ev.step (f := fun _ => some true) (fun k => ?_) (Ev.now _)
    simp only [laws_vSpans.l0]
    rw [if_neg (by omega)]
  | d + 1, i, hi => by
    have hw : wrap64 ((i : Int) + 1) = ((i + 1 : Nat) : Int) := by rw [wrap_small (by omega) (by omega)]; rfl
    refine Ev.step (fun k => ?_) (vSpans_l0 l hl d (i + 1) (by omega))
    simp only [laws_vSpans.l0]
    rw [if_pos (by omega), if_pos (by omega), if_pos (by omega), if_neg (by simp), hw]
theorem vSpans_ev (l : List Sp) (hl : l.length ≤ 1048576) : Ev (fun k => laws_vSpans.f k l l) true := by
  unfold laws_vSpans.f
  exact Ev.congr (fun _ => if_pos rfl) (vSpans_l0 l hl l.length 0 (by omega))
theorem fmt_ev (l : List Sp) (hl : l.length ≤ 1048576) (ht : tot l ≤ 1048576) : Ev (fun k => impl_FormatSpans.f k l) (if goodS l = true then (strOfNums (mkups (norm [] l)), true) else (⟨#[]⟩, false)) := by
  have g1 : Ev (fun k => impl_areSpans.f k l) (goodS l) := ⟨4000001, fun k hk => areSpans_k l hl ht k (by omega)⟩
  have g3 : Ev (fun k => impl_formatSpans.f k l) (strOfNums (mkups (norm [] l))) := ⟨6500001, fun k hk => formatSpans_k l hl ht k (by omega)⟩
  unfold impl_FormatSpans.f
  refine Ev.bind g1 ?_
  cases goodS l with
  | true => exact Ev.congr (fun _ => if_pos rfl) (Ev.bind g3 (Ev.now _))
  | false => exact Ev.congr (fun _ => if_neg (by decide)) (Ev.now _)
theorem parse_ev (s : ByteArray) (hs : s.size ≤ 1048576) : Ev (fun k => impl_ParseSpans.f k s) (accI s) := impl_loop s hs 82 [] s (by simp) (by simp) (by simp [tot_nil])
theorem last_ev (t : ByteArray) (ht : t.size ≤ 100000) : Ev (fun k => (impl_ParseSpans.f k t).bind fun bt429 => ((impl_FormatSpans.f k bt429.1).bind fun bt433 => (if bt429.2 = true then (if bt433.2 = true then (some (bt433.1.toList == t.toList)) else (some false)) else (some true)))) true := by
  refine Ev.bind (parse_ev t (by omega)) ?_
  have key : (accI t).2 = false ∧ (accI t).1 = [] ∨ (accI t).2 = true ∧ goodS (accI t).1 = true ∧ strOfNums (mkups (norm [] (accI t).1)) = t := by
    unfold accI
    cases rdAll 82 t.data.toList [] with
    | none => exact .inl ⟨rfl, rfl⟩
    | some o =>
      simp only
      by_cases c : fitI o t
      · rw [if_pos c]
        exact .inr ⟨rfl, c.1, c.2.2⟩
      · rw [if_neg c]
        exact .inl ⟨rfl, rfl⟩
  rcases key with ⟨h1, h2⟩ | ⟨h1, h2, h3⟩
  · rw [h1, h2]
    exact Ev.bind (fmt_ev [] (by simp) (by simp [tot_nil])) (Ev.congr (fun _ => if_neg (by decide)) (Ev.now _))
  · have hg := h2
    unfold goodS at hg
    simp only [Bool.and_eq_true, decide_eq_true_eq] at hg
    have f := fmt_ev (accI t).1 (by omega) (by omega)
    rw [if_pos h2, h3] at f
    rw [h1]
    refine Ev.bind f (Ev.congr (fun _ => (if_pos rfl).trans (if_pos rfl)) ?_)
    rw [beq_self_eq_true]
    exact Ev.now _
theorem FnSpans : laws_FnSpans.Pure := by
  intro c h1 _ h3
  refine Ev.rounds (g := fun k => laws_FnSpans.f k c) ?_
  unfold laws_FnSpans.f laws_vBig.f
  simp only [Option.bind_some]
  by_cases big : (c.length : Int) > 65536
  · exact Ev.congr (fun _ => if_pos (decide_eq_true big)) (Ev.now true)
  have hc : dr c := ⟨by omega, fun x hx => by
    have := h3 x hx
    simp only [Lit.wf, Bool.and_eq_true, decide_eq_true_eq] at this
    have e1 : IntKind.u8.min = 0 := rfl
    have e2 : IntKind.u8.max = 255 := rfl
    rw [e1, e2] at this
    exact this⟩
  refine Ev.congr (fun _ => if_neg (by rw [decide_eq_false big]; decide)) ?_
  obtain ⟨L, a, b, e, ⟨f1, f2⟩, _, _⟩ := spans_ev c hc
  have ft := fit_tot L f2
  have nb := norm_bounds L []
  simp only [List.length_nil, tot_nil] at nb
  have dL : Ev (fun k => spec_DrawFormatSpans.f k c) L := by
    unfold spec_DrawFormatSpans.f spec_DrawNormalizeSpans.f
    exact Ev.bind (Ev.bind e (Ev.now _)) (Ev.now _)
  obtain ⟨t, et, tz⟩ := draw_text c hc
  have la := last_ev t tz
  have j1 : Ev (fun k => laws_FnSpans.j1 k c false) true := by
    refine Ev.step (fun k => ?_) (Ev.bind et (f := fun k t428 => (impl_ParseSpans.f k t428).bind fun bt429 => ((impl_FormatSpans.f k bt429.1).bind fun bt433 => (if bt429.2 = true then (if bt433.2 = true then (some (bt433.1.toList == t428.toList)) else (some false)) else (some true)))) la)
    simp only [laws_FnSpans.j1]
    rw [if_neg (by decide)]
  have gI : Ev (fun k => impl_areSpans.f k L) (goodS L) := ⟨4000001, fun k hk => areSpans_k L (by omega) (by omega) k (by omega)⟩
  have gS : Ev (fun k => spec_l10Good.f k L) (goodS L) := ⟨4000001, fun k hk => l10Good_k L (by omega) (by omega) k (by omega)⟩
  have nI : Ev (fun k => impl_normalized.f k L) (norm [] L) := ⟨L.length + 1, fun k hk => normalized_k L (by omega) (by omega) k (by omega)⟩
  have nS : Ev (fun k => spec_l10Normal.f k L) (norm [] L) := ⟨L.length + 1, fun k hk => l10Normal_k L (by omega) (by omega) k (by omega)⟩
  cases hg : goodS L with
  | false =>
    rw [hg] at gI gS
    have eI : Ev (fun k => impl_NormalizeSpans.f k L) (([] : List Sp), false) := by
      unfold impl_NormalizeSpans.f
      exact Ev.bind gI (Ev.congr (fun _ => if_neg (by decide)) (Ev.now _))
    have eS : Ev (fun k => spec_NormalizeSpans.f k L) (([] : List Sp), false) := by
      unfold spec_NormalizeSpans.f
      exact Ev.bind gS (Ev.congr (fun _ => if_neg (by decide)) (Ev.now _))
    refine Ev.bind dL (Ev.bind eI (Ev.bind eS (Ev.congr (fun _ => if_neg (by simp)) (Ev.bind (vSpans_ev [] (by simp)) ?_))))
    refine Ev.step (fun k => ?_) (Ev.bind et (f := fun k t435 => (impl_ParseSpans.f k t435).bind fun bt436 => ((impl_FormatSpans.f k bt436.1).bind fun bt440 => (if bt436.2 = true then (if bt440.2 = true then (some (bt440.1.toList == t435.toList)) else (some false)) else (some true)))) la)
    simp only [laws_FnSpans.j0]
    rw [if_neg (by decide), if_neg (by decide)]
  | true =>
    rw [hg] at gI gS
    have eI : Ev (fun k => impl_NormalizeSpans.f k L) (norm [] L, true) := by
      unfold impl_NormalizeSpans.f
      exact Ev.bind gI (Ev.congr (fun _ => if_pos rfl) (Ev.bind nI (Ev.now _)))
    have eS : Ev (fun k => spec_NormalizeSpans.f k L) (norm [] L, true) := by
      unfold spec_NormalizeSpans.f
      exact Ev.bind gS (Ev.congr (fun _ => if_pos rfl) (Ev.bind nS (Ev.now _)))
    have hgn := good_norm L hg
    have gN : Ev (fun k => impl_areSpans.f k (norm [] L)) true := by
      rw [← hgn]
      exact ⟨4000001, fun k hk => areSpans_k _ (by omega) (by omega) k (by omega)⟩
    have p1 : Ev (fun k => impl_PlainText.f k L) (cat ⟨#[]⟩ L, true) := by
      unfold impl_PlainText.f
      exact Ev.bind gI (Ev.congr (fun _ => if_pos rfl) (Ev.bind (plain_ev L (by omega) (by omega)) (Ev.now _)))
    have p2 : Ev (fun k => impl_PlainText.f k (norm [] L)) (cat ⟨#[]⟩ L, true) := by
      have hcat : cat ⟨#[]⟩ (norm [] L) = cat ⟨#[]⟩ L := cat_norm L [] _
      have := plain_ev (norm [] L) (by omega) (by omega)
      rw [hcat] at this
      unfold impl_PlainText.f
      exact Ev.bind gN (Ev.congr (fun _ => if_pos rfl) (Ev.bind this (Ev.now _)))
    have f := fmt_ev L (by omega) (by omega)
    rw [if_pos hg] at f
    have back : Ev (fun k => impl_ParseSpans.f k (strOfNums (mkups (norm [] L)))) (norm [] L, true) := by
      have := parse_ev (strOfNums (mkups (norm [] L))) (by have := good_size _ hgn; omega)
      rw [acc_same, parse_back _ hgn (norm_norm L)] at this
      exact this
    have v := vSpans_ev (norm [] L) (by omega)
    refine Ev.bind dL (Ev.bind eI (Ev.bind eS (Ev.congr (fun _ => if_neg (by simp)) (Ev.bind v ?_))))
    refine Ev.step (f := fun k => (impl_PlainText.f k L).bind fun bt417 => ((impl_PlainText.f k (norm [] L)).bind fun bt419 => ((impl_FormatSpans.f k L).bind fun bt421 => ((impl_ParseSpans.f k bt421.1).bind fun bt423 => (if bt417.2 = true then (if bt419.2 = true then (if bt417.1.toList = bt419.1.toList then (if bt421.2 = true then (if bt423.2 = true then ((laws_vSpans.f k bt423.1 (norm [] L)).bind fun t427 => (laws_FnSpans.j1 k c (!t427))) else (laws_FnSpans.j1 k c true)) else (laws_FnSpans.j1 k c true)) else (laws_FnSpans.j1 k c true)) else (laws_FnSpans.j1 k c true)) else (laws_FnSpans.j1 k c true)))))) (fun k => ?_) (Ev.bind p1 (Ev.bind p2 (Ev.bind f (Ev.bind back (Ev.congr (fun _ => (if_pos rfl).trans ((if_pos rfl).trans ((if_pos rfl).trans ((if_pos rfl).trans (if_pos rfl))))) (Ev.bind v j1))))))
    simp only [laws_FnSpans.j0]
    rw [if_neg (by decide), if_pos trivial]

end Go.Proofs.Ytgaepocgpjbapaa.Pure
