/- Lemmas on the printed functions, without Go and memory. -/
import Derived.Test.YtmemcncbkgcbeaaGreatDoorPx3
import Derived.Test.YtmemcncbkgcbeaaGreatDoorPx4
import Derived.Test.YtmemcncbkgcbeaaGreatDoorPx5
import Derived.Test.YtmemcncbkgcbeaaGreatDoorPx7
import Derived.Test.YtmemcncbkgcbeaaGreatDoorPx8
import Derived.Test.YtmemcncbkgcbeaaGreatDoorPx9
import Derived.Test.YtmemcncbkgcbeaaGreatDoorQCut
import Derived.Test.YtmemcncbkgcbeaaGreatDoorQColl
namespace Go.Proofs.YtmemcncbkgcbeaaGreatDoor.Pure
open Go.RowKit Go.Proofs.YtmemcncbkgcbeaaGreatDoor.Px Go.Proofs.YtmemcncbkgcbeaaGreatDoorW.PrintWords Go.Proofs.YtmemcncbkgcbeaaGreatDoorW.PrintLast
set_option linter.unusedVariables false
set_option linter.unusedSimpArgs false

noncomputable def collT (a : ByteArray) (x y st : Int) (h : Fit a x y) : ByteArray := (collapse_both a x y st h).choose
theorem collT_spec (a : ByteArray) (x y st : Int) (h : Fit a x y) : ((collT a x y st h = rText a x y ∨ ∃ i : Int, collT a x y st h = cutT a (numT x) (numT y) i) ∧ (st = 1 → collT a x y st h = rText a x y)) ∧ Ev (fun k => spec_l7Collapse.f k a x y st) (collT a x y st h) ∧ Ev (fun k => impl_collapseRange.f k a x y st) (collT a x y st h) := (collapse_both a x y st h).choose_spec
def widen (f d : ByteArray) : ByteArray := if d.size < f.size then f.extract 0 (f.size - d.size) ++ d else d
structure Exp (s A B : ByteArray) (f : Bool) (n m : Int) : Prop where
  n0 : 1 ≤ n
  nm : n ≤ m
  m1 : m ≤ 99999
  hn : rs A = numT n
  one : f = false → m = n
  two : f = true → widen (rs A) (trim B (lt A)) = numT m
  some_ : f = true → ∃ (st : Int) (h : Fit (lt A) n m), 1 ≤ st ∧ st ≤ 3 ∧ collT (lt A) n m st h = s
theorem Exp.same {s A B : ByteArray} {f : Bool} {n m n' m' : Int} (h : Exp s A B f n m) (h' : Exp s A B f n' m') : n = n' ∧ m = m' := by
  have a := h.n0
  have a' := h'.n0
  have b := h.nm
  have b' := h'.nm
  have e : n = n' := numT_inj n n' (by omega) (by omega) (h.hn.symm.trans h'.hn)
  refine ⟨e, ?_⟩
  cases f with
  | false => rw [h.one rfl, h'.one rfl, e]
  | true => exact numT_inj m m' (by omega) (by omega) ((h.two rfl).symm.trans (h'.two rfl))
theorem fit_lt (A : ByteArray) (n m : Int) (h0 : 1 ≤ n) (h1 : n ≤ m) (h2 : m ≤ 99999) : Fit (lt A) n m := ⟨lt_size A, h0, h1, h2⟩
theorem okr_lt (A : ByteArray) (n m : Int) : okr (⟨lt A, n, m⟩ : Sp) = (decide (1 ≤ n) && (decide (n ≤ m) && decide (m ≤ 99999))) := by
  unfold okr
  rw [lt_letter A]
  rfl
theorem widen_dig (f d : ByteArray) (hf : ∀ b ∈ f.data.toList, Dig b) (hd : ∀ b ∈ d.data.toList, Dig b) : ∀ b ∈ (widen f d).data.toList, Dig b := by
  unfold widen
  split
  · rw [app_list, ex_take]
    intro b hb
    rcases List.mem_append.1 hb with hb | hb
    · exact hf b (List.mem_of_mem_take hb)
    · exact hd b hb
  · exact hd
theorem tail_dig (s A B : ByteArray) (hc : Cuts s A B true) (n m st : Int) (h : Fit (lt A) n m) (hn : rs A = numT n) (he : collT (lt A) n m st h = s) : ∀ b ∈ (trim B (lt A)).data.toList, Dig b := by
  obtain ⟨c1, c2⟩ := hc.yes rfl
  have h0 := h.x0
  have h1 := h.xy
  have hA : A = lt A ++ numT n := by rw [← hn]; exact lt_rs A
  have hd := page_dash (lt A) (lt_letter A) n (by omega)
  obtain ⟨⟨hf, _⟩, _⟩ := collT_spec (lt A) n m st h
  rw [he] at hf
  rcases hf with hf | ⟨i, hf⟩
  · by_cases c : m > n
    · have : s.data.toList = (lt A ++ numT n).data.toList ++ 45 :: (lt A ++ numT m).data.toList := by
        rw [hf]
        unfold rText
        rw [if_pos c]
        simp only [app_list]
        simp
      obtain ⟨_, u2⟩ := split_uniq c2 hd (c1.symm.trans this)
      have hB : B = lt A ++ numT m := ext_list _ _ u2
      rw [hB, trim_self _ _ (lt_letter A) (num_dig m (by omega))]
      exact num_dig m (by omega)
    · exfalso
      have : s = lt A ++ numT n := by
        rw [hf]
        unfold rText
        rw [if_neg c]
      exact hd 45 (by rw [← this, c1]; simp) rfl
  · have : s.data.toList = (lt A ++ numT n).data.toList ++ 45 :: (numT m).data.toList.drop i.toNat := by
      rw [hf]
      unfold cutT
      simp only [app_list, ex_all]
      simp
    obtain ⟨_, u2⟩ := split_uniq c2 hd (c1.symm.trans this)
    have hBd : ∀ b ∈ B.data.toList, Dig b := by
      rw [u2]
      intro b hb
      exact num_dig m (by omega) b (List.mem_of_mem_drop hb)
    have : trim B (lt A) = B := by
      unfold trim
      rw [if_neg]
      rintro ⟨q1, q2, q3⟩
      rcases letter_parts _ (lt_letter A) with z | ⟨_, z1, z2⟩
      · omega
      · exact dig_no B hBd ⟨q2, by omega, by omega⟩
    rw [this]
    exact hBd
theorem spec_trim (B L : ByteArray) (hL : L.size ≤ 1) (g : ByteArray → Nat → Option (ByteArray × Int × Int × Bool)) (r : ByteArray × Int × Int × Bool) (s full : ByteArray) (x : ByteArray) (n m : Int)
    (h : Ev (fun k => spec_ExpandRange.j1 k s full (trim B L) x n m) r) :
    Ev (fun k => if L.toList = ([] : List UInt8) then (spec_ExpandRange.j0 k s B full B false x n m) else (if B.toList = ([] : List UInt8) then (spec_ExpandRange.j0 k s B full B false x n m) else (if 0 < (B.size : Int) then (if 0 < (L.size : Int) then (spec_ExpandRange.j0 k s B full B ((bt B 0) == (bt L 0)) x n m) else (none)) else (none)))) r := by
  have no : trim B L = B → Ev (fun k => spec_ExpandRange.j0 k s B full B false x n m) r := fun e => by
    rw [e] at h
    refine Ev.step (fun k => ?_) h
    simp only [spec_ExpandRange.j0]
    rw [if_neg (by decide)]
  by_cases z : L.size = 0
  · exact Ev.congr (fun _ => if_pos ((toList_nil L).2 z)) (no (by unfold trim; rw [if_neg (by omega)]))
  · refine Ev.congr (fun _ => if_neg (fun e => z ((toList_nil L).1 e))) ?_
    by_cases y : B.size = 0
    · exact Ev.congr (fun _ => if_pos ((toList_nil B).2 y)) (no (by unfold trim; rw [if_neg (by omega)]))
    · refine Ev.congr (fun _ => if_neg (fun e => y ((toList_nil B).1 e))) (Ev.congr (fun _ => if_pos (by omega)) (Ev.congr (fun _ => if_pos (by omega)) ?_))
      by_cases e : bt B 0 = bt L 0
      · have ht : trim B L = B.extract 1 B.size := by unfold trim; rw [if_pos ⟨by omega, by omega, e⟩]
        rw [ht] at h
        refine Ev.step (fun k => ?_) h
        simp only [spec_ExpandRange.j0]
        rw [if_pos (by rw [e]; exact beq_self_eq_true _), if_pos (by omega)]
      · rw [show (bt B 0 == bt L 0) = false from beq_eq_false_iff_ne.2 e]
        exact no (by unfold trim; rw [if_neg (fun h => e h.2.2)])
abbrev Rr := ByteArray × Int × Int × Bool
def zeroR : Rr := (⟨#[]⟩, 0, 0, false)
theorem tries (L : ByteArray) (n m : Int) (h : Fit L n m) (s : ByteArray) (g : Nat → Int → Option Rr) (f : Nat → Int → Option ByteArray)
    (hf : ∀ st : Int, Ev (fun k => f k st) (collT L n m st h))
    (hg : ∀ k st, g (k + 1) st = if st ≤ 3 then ((f k st).bind fun t => (if t.toList = s.toList then (some (L, n, m, true)) else (g k (wrap64 (st + 1))))) else (some zeroR)) :
    (∃ st, 1 ≤ st ∧ st ≤ 3 ∧ collT L n m st h = s) ∧ Ev (fun k => g k 1) (L, n, m, true) ∨ (∀ st, 1 ≤ st → st ≤ 3 → collT L n m st h ≠ s) ∧ Ev (fun k => g k 1) zeroR := by
  have hit : ∀ st, st ≤ 3 → collT L n m st h = s → Ev (fun k => g k st) (L, n, m, true) := fun st h3 he =>
    Ev.step (fun k => (hg k st).trans (if_pos h3)) (Ev.bind (hf st) (Ev.congr (fun _ => if_pos (by rw [he])) (Ev.now _)))
  have miss : ∀ st r, st ≤ 3 → collT L n m st h ≠ s → Ev (fun k => g k (wrap64 (st + 1))) r → Ev (fun k => g k st) r := fun st r h3 he hr =>
    Ev.step (fun k => (hg k st).trans (if_pos h3)) (Ev.bind (hf st) (Ev.congr (fun _ => if_neg (fun e => he (str_inj _ _ e))) hr))
  have w1 : wrap64 (1 + 1) = 2 := wrap_small (by omega) (by omega)
  have w2 : wrap64 (2 + 1) = 3 := wrap_small (by omega) (by omega)
  have w3 : wrap64 (3 + 1) = 4 := wrap_small (by omega) (by omega)
  by_cases c1 : collT L n m 1 h = s
  · exact .inl ⟨⟨1, by omega, by omega, c1⟩, hit 1 (by omega) c1⟩
  by_cases c2 : collT L n m 2 h = s
  · exact .inl ⟨⟨2, by omega, by omega, c2⟩, miss 1 _ (by omega) c1 (by rw [w1]; exact hit 2 (by omega) c2)⟩
  by_cases c3 : collT L n m 3 h = s
  · exact .inl ⟨⟨3, by omega, by omega, c3⟩, miss 1 _ (by omega) c1 (by rw [w1]; exact miss 2 _ (by omega) c2 (by rw [w2]; exact hit 3 (by omega) c3))⟩
  refine .inr ⟨fun st h1 h3 he => ?_, miss 1 _ (by omega) c1 (by rw [w1]; exact miss 2 _ (by omega) c2 (by rw [w2]; exact miss 3 _ (by omega) c3 (by rw [w3]; exact Ev.step (fun k => (hg k 4).trans (if_neg (by omega))) (Ev.now _))))⟩
  have : st = 1 ∨ st = 2 ∨ st = 3 := by omega
  rcases this with rfl | rfl | rfl
  · exact c1 he
  · exact c2 he
  · exact c3 he
def Ans (s A B : ByteArray) (f : Bool) (R : Rr) : Prop := (∃ n m, Exp s A B f n m ∧ R = (lt A, n, m, true)) ∨ (∀ n m, ¬ Exp s A B f n m) ∧ R = zeroR
theorem Ans.same {s A B : ByteArray} {f : Bool} {R R' : Rr} (h : Ans s A B f R) (h' : Ans s A B f R') : R = R' := by
  rcases h with ⟨n, m, e, rfl⟩ | ⟨e, rfl⟩ <;> rcases h' with ⟨n', m', e', rfl⟩ | ⟨e', rfl⟩
  · obtain ⟨rfl, rfl⟩ := e.same e'
    rfl
  · exact absurd e (e' n m)
  · exact absurd e' (e n' m')
  · rfl
theorem spec_scan3 (L s : ByteArray) (n m : Int) (h : Fit L n m) : (∃ st, 1 ≤ st ∧ st ≤ 3 ∧ collT L n m st h = s) ∧ Ev (fun k => spec_ExpandRange.l0 k s 1 L n m) (L, n, m, true) ∨ (∀ st, 1 ≤ st → st ≤ 3 → collT L n m st h ≠ s) ∧ Ev (fun k => spec_ExpandRange.l0 k s 1 L n m) zeroR := tries L n m h s (fun k st => spec_ExpandRange.l0 k s st L n m) (fun k st => spec_l7Collapse.f k L n m st) (fun st => (collT_spec L n m st h).2.1) (fun k st => by simp only [spec_ExpandRange.l0]; rfl)
theorem impl_scan3 (L s : ByteArray) (n m : Int) (h : Fit L n m) : (∃ st, 1 ≤ st ∧ st ≤ 3 ∧ collT L n m st h = s) ∧ Ev (fun k => impl_ExpandRange.l0 k s 1 L n m) (L, n, m, true) ∨ (∀ st, 1 ≤ st → st ≤ 3 → collT L n m st h ≠ s) ∧ Ev (fun k => impl_ExpandRange.l0 k s 1 L n m) zeroR := tries L n m h s (fun k st => impl_ExpandRange.l0 k s st L n m) (fun k st => impl_collapseRange.f k L n m st) (fun st => (collT_spec L n m st h).2.2) (fun k st => by simp only [impl_ExpandRange.l0]; rfl)
theorem spec_expand (s A B : ByteArray) (f : Bool) (hs : s.size ≤ 1048576) (hc : Cuts s A B f) (ec : Ev (fun k => spec_l7Cut.f k s) (A, B, f)) : ∃ R, Ev (fun k => spec_ExpandRange.f k s) R ∧ Ans s A B f R := by
  obtain ⟨P, ep, p1, p2⟩ := spec_page A
  unfold spec_ExpandRange.f
  cases hp : P.2.2 with
  | false =>
    exact ⟨zeroR, Ev.bind ec (Ev.bind ep (Ev.congr (fun _ => if_neg (by rw [hp]; decide)) (Ev.now _))), .inr ⟨fun n m e => p2 hp n e.n0 (by have := e.nm; have := e.m1; omega) e.hn, rfl⟩⟩
  | true =>
    obtain ⟨q1, q2, q3, q4⟩ := p1 hp
    -- the end: valid, and some style gives the text
    have fin : ∀ m : Int, (∀ n' m', Exp s A B f n' m' → n' = P.2.1 ∧ m' = m) → (f = false → m = P.2.1) →
        (∀ h : Fit (lt A) P.2.1 m, (f = false → ∃ st, 1 ≤ st ∧ st ≤ 3 ∧ collT (lt A) P.2.1 m st h = s) ∧ (f = true → ∀ st, collT (lt A) P.2.1 m st h = s → widen (rs A) (trim B (lt A)) = numT m)) →
        ∃ R, Ev (fun k => spec_ExpandRange.j2 k s (lt A) P.2.1 m) R ∧ Ans s A B f R := fun m hu h1 hst => by
      have hr := l7Range_eq (⟨lt A, P.2.1, m⟩ : Sp)
      rw [okr_lt] at hr
      by_cases c : P.2.1 ≤ m ∧ m ≤ 99999
      · have hfit := fit_lt A P.2.1 m q2 c.1 c.2
        obtain ⟨k1, k2⟩ := hst hfit
        rw [decide_eq_true q2, decide_eq_true c.1, decide_eq_true c.2] at hr
        rcases spec_scan3 (lt A) s P.2.1 m hfit with ⟨⟨st, s1, s3, he⟩, e⟩ | ⟨hno, e⟩
        · refine ⟨_, Ev.step (fun k => ?_) e, .inl ⟨P.2.1, m, ⟨q2, c.1, c.2, q4, h1, fun hf => k2 hf st he, fun _ => ⟨st, hfit, s1, s3, he⟩⟩, rfl⟩⟩
          simp only [spec_ExpandRange.j2]
          rw [hr]
          rfl
        · refine ⟨_, Ev.step (fun k => ?_) e, .inr ⟨fun n' m' ex => ?_, rfl⟩⟩
          · simp only [spec_ExpandRange.j2]
            rw [hr]
            rfl
          · cases f with
            | false =>
              obtain ⟨st, s1, s3, he⟩ := k1 rfl
              exact hno st s1 s3 he
            | true =>
              obtain ⟨rfl, rfl⟩ := hu n' m' ex
              obtain ⟨st, h', s1, s3, he⟩ := ex.some_ rfl
              exact hno st s1 s3 he
      · refine ⟨zeroR, Ev.step (f := fun _ => some zeroR) (fun k => ?_) (Ev.now _), .inr ⟨fun n' m' ex => ?_, rfl⟩⟩
        · simp only [spec_ExpandRange.j2]
          rw [hr, Option.bind_some, if_neg]
          · rfl
          · rw [decide_eq_true q2]
            simp only [Bool.true_and, Bool.and_eq_true, decide_eq_true_eq]
            exact c
        · obtain ⟨rfl, rfl⟩ := hu n' m' ex
          exact c ⟨ex.nm, ex.m1⟩
    cases f with
    | false =>
      obtain ⟨a1, _, _⟩ := hc.no rfl
      obtain ⟨R, e, r⟩ := fin P.2.1 (fun n' m' ex => by
        have := numT_inj n' P.2.1 (by have := ex.n0; omega) (by omega) (ex.hn.symm.trans q4)
        exact ⟨this, (ex.one rfl).trans this⟩) (fun _ => rfl) (fun h => ⟨fun _ => ⟨1, by omega, by omega, by
          rw [(collT_spec (lt A) P.2.1 P.2.1 1 h).1.2 rfl]
          unfold rText
          rw [if_neg (by omega), ← q4, ← lt_rs A, a1]⟩, fun h => by cases h⟩)
      refine ⟨R, Ev.bind ec (Ev.bind ep (Ev.congr (fun _ => if_pos hp) (Ev.congr (fun _ => if_neg Bool.false_ne_true) ?_))), r⟩
      rw [q1]
      exact e
    | true =>
      have sn := numT_le P.2.1 (by omega) (by omega)
      have hB : B.size ≤ 1048576 := by
        have := congrArg List.length (hc.yes rfl).1
        rw [List.length_append, List.length_cons, data_length, data_length, data_length] at this
        omega
      have ht : (trim B (lt A)).size ≤ 1048576 := by unfold trim; split <;> (try rw [ByteArray.size_extract]) <;> omega
      obtain ⟨Q, eq, r1, r2⟩ := spec_page (widen (rs A) (trim B (lt A)))
      have dig_of : ∀ m : Int, 0 ≤ m → widen (rs A) (trim B (lt A)) = numT m → rs (widen (rs A) (trim B (lt A))) = numT m := fun m hm e => by
        rw [(no_letter _ (by rw [e]; exact dig_no _ (num_dig m hm))).2, e]
      have rest : ∃ R, Ev (fun k => if Q.2.2 = true then (spec_ExpandRange.j2 k s (lt A) P.2.1 Q.2.1) else (some zeroR)) R ∧ Ans s A B true R := by
        cases hq : Q.2.2 with
        | false =>
          refine ⟨zeroR, Ev.congr (fun _ => if_neg (by decide)) (Ev.now _), .inr ⟨fun n' m' ex => ?_, rfl⟩⟩
          have a := ex.n0
          have b := ex.nm
          exact r2 hq m' (by omega) ex.m1 (dig_of m' (by omega) (ex.two rfl))
        | true =>
          obtain ⟨_, t2, t3, t4⟩ := r1 hq
          obtain ⟨R, e, r⟩ := fin Q.2.1 (fun n' m' ex => by
            have a := ex.n0
            have b := ex.nm
            refine ⟨numT_inj n' P.2.1 (by omega) (by omega) (ex.hn.symm.trans q4), numT_inj m' Q.2.1 (by omega) (by omega) ?_⟩
            rw [← dig_of m' (by omega) (ex.two rfl), t4]) (fun h => by cases h) (fun h => ⟨fun h => (by cases h), fun _ st he => by
              have hd := tail_dig s A B hc P.2.1 Q.2.1 st h q4 he
              have hw := dig_no _ (widen_dig (rs A) (trim B (lt A)) (by rw [q4]; exact num_dig _ (by omega)) hd)
              rw [(no_letter _ hw).2] at t4
              exact t4⟩)
          exact ⟨R, Ev.congr (fun _ => if_pos rfl) e, r⟩
      obtain ⟨R, e, r⟩ := rest
      refine ⟨R, Ev.bind ec (Ev.bind ep (Ev.congr (fun _ => if_pos hp) (Ev.congr (fun _ => if_pos rfl) (Ev.bind (num_evI P.2.1 (by omega) (by omega)) ?_)))), r⟩
      rw [q1]
      refine spec_trim B (lt A) (lt_size A) (fun _ _ => none) R s (numT P.2.1) (lt A) P.2.1 P.2.1 ?_
      rw [q4] at eq
      generalize trim B (lt A) = d at *
      unfold widen at eq
      by_cases c : d.size < (numT P.2.1).size
      · rw [if_pos c] at eq
        have hz : ((numT P.2.1).extract 0 ((numT P.2.1).size - d.size)).size ≤ 21 := by rw [ByteArray.size_extract]; omega
        refine Ev.step (f := fun k => (spec_l7Page.f k ((numT P.2.1).extract 0 ((numT P.2.1).size - d.size) ++ d)).bind fun bt219 => (if bt219.2.2 = true then (spec_ExpandRange.j2 k s (lt A) P.2.1 bt219.2.1) else (some zeroR))) (fun k => ?_) (Ev.bind eq e)
        simp only [spec_ExpandRange.j1]
        rw [if_pos (by omega), wrap_small (by omega) (by omega), if_pos (by omega), if_pos (by omega), show (((numT P.2.1).size : Int) - (d.size : Int)).toNat = (numT P.2.1).size - d.size from by omega, if_pos (by omega)]
        rfl
      · rw [if_neg c] at eq
        refine Ev.step (f := fun k => (spec_l7Page.f k d).bind fun bt219 => (if bt219.2.2 = true then (spec_ExpandRange.j2 k s (lt A) P.2.1 bt219.2.1) else (some zeroR))) (fun k => ?_) (Ev.bind eq e)
        simp only [spec_ExpandRange.j1]
        rw [if_neg (by omega)]
        rfl
theorem impl_expand (s A B : ByteArray) (f : Bool) (hs : s.size ≤ 1048576) (hc : Cuts s A B f) (ec : strings_Cut.f s (⟨#[45]⟩ : ByteArray) = some (A, B, f)) : ∃ R, Ev (fun k => impl_ExpandRange.f k s) R ∧ Ans s A B f R := by
  unfold impl_ExpandRange.f
  by_cases big : (s.size : Int) > 20
  · refine ⟨zeroR, Ev.congr (fun _ => if_pos big) (Ev.now _), .inr ⟨fun n m ex => ?_, rfl⟩⟩
    have a := ex.n0
    have b := ex.nm
    have c := ex.m1
    have n5 := num_le5 n (by omega) (by omega)
    have m5 := num_le5 m (by omega) (by omega)
    have l1 := lt_size A
    cases f with
    | false =>
      have : s = lt A ++ numT n := by rw [← ex.hn, ← lt_rs A, (hc.no rfl).1]
      rw [this, ByteArray.size_append] at big
      omega
    | true =>
      obtain ⟨st, h, _, _, he⟩ := ex.some_ rfl
      rcases (collT_spec (lt A) n m st h).1.1 with e | ⟨i, e⟩
      · rw [he] at e
        rw [e] at big
        unfold rText at big
        split at big <;> simp only [ByteArray.size_append, dash] at big <;> omega
      · rw [he] at e
        have := ext_size (numT m) i.toNat
        rw [e] at big
        unfold cutT at big
        simp only [ByteArray.size_append, dash] at big
        omega
  · simp only [if_neg big, ec, Option.bind_some]
    cases f with
    | false =>
      obtain ⟨a1, _, a3⟩ := hc.no rfl
      obtain ⟨r, ok, e, t1, t2⟩ := parse_range s hs
      refine ⟨(r.f0, r.f1, r.f2, ok), Ev.congr (fun _ => if_neg (by decide)) (Ev.bind e (Ev.now _)), ?_⟩
      cases ok with
      | true =>
        obtain ⟨hr, ht⟩ := t1 rfl
        obtain ⟨rl, r1, r2, r3⟩ := okr_parts r hr
        have hn : ¬ r.f2 > r.f1 := fun c => by
          have : (45 : UInt8) ∈ s.data.toList := by
            rw [← ht]
            unfold tx rText
            rw [if_pos c]
            simp only [app_list]
            simp
          exact a3 45 this rfl
        have hw : A = r.f0 ++ numT r.f1 := by
          rw [a1, ← ht]
          unfold tx rText
          rw [if_neg hn]
        obtain ⟨u1, u2⟩ := lt_rs_of r.f0 rl r.f1 (by omega)
        refine .inl ⟨r.f1, r.f2, ⟨r1, r2, r3, by rw [hw, u2], fun _ => by omega, fun h => (by cases h), fun h => (by cases h)⟩, by rw [hw, u1]⟩
      | false =>
        obtain ⟨hr, hno⟩ := t2 rfl
        refine .inr ⟨fun n m ex => ?_, by rw [hr]; rfl⟩
        obtain rfl := ex.one rfl
        refine hno ⟨lt A, m, m⟩ (by rw [okr_lt, decide_eq_true ex.n0, decide_eq_true ex.nm, decide_eq_true ex.m1]; rfl) ?_
        unfold tx rText
        rw [if_neg (by show ¬ m > m; omega)]
        show lt A ++ numT m = s
        rw [← ex.hn, ← lt_rs A, a1]
    | true =>
      have hAB := congrArg List.length (hc.yes rfl).1
      rw [List.length_append, List.length_cons, data_length, data_length, data_length] at hAB
      have hrA : (rs A).size ≤ A.size := by unfold rs; split <;> (try rw [ByteArray.size_extract]) <;> omega
      have ht : (trim B (lt A)).size ≤ B.size := by unfold trim; split <;> (try rw [ByteArray.size_extract]) <;> omega
      have last : ∃ R, Ev (fun k => impl_ExpandRange.j2 k s (rs A) (widen (rs A) (trim B (lt A))) (lt A) 0 0) R ∧ Ans s A B true R := by
        obtain ⟨R1, p1, s1, n1⟩ := parse_int (rs A)
        obtain ⟨R2, p2, s2, n2⟩ := parse_int (widen (rs A) (trim B (lt A)))
        have hj : ∀ k, impl_ExpandRange.j2 (k + 1) s (rs A) (widen (rs A) (trim B (lt A))) (lt A) 0 0 = (if R1.2 = true then (if R2.2 = true then ((impl_isRange.f (lt A) R1.1 R2.1).bind fun t257 => (impl_ExpandRange.j3 k s (!t257) (lt A) R1.1 R2.1)) else (impl_ExpandRange.j3 k s true (lt A) R1.1 R2.1)) else (impl_ExpandRange.j3 k s true (lt A) R1.1 R2.1)) := fun k => by
          simp only [impl_ExpandRange.j2, p1, p2, Option.bind_some]
        have j3t : ∀ x y, Ev (fun k => impl_ExpandRange.j3 k s true (lt A) x y) zeroR := fun x y => by
          refine Ev.step (f := fun _ => some zeroR) (fun k => ?_) (Ev.now _)
          simp only [impl_ExpandRange.j3, if_true]
          rfl
        cases h1 : R1.2 with
        | false =>
          refine ⟨zeroR, Ev.step (fun k => (hj k).trans (if_neg (by rw [h1]; decide))) (j3t _ _), .inr ⟨fun n m ex => ?_, rfl⟩⟩
          have a := ex.n0
          have b := ex.nm
          have c := ex.m1
          exact n1 h1 n (by omega) (by omega) ex.hn
        | true =>
          cases h2 : R2.2 with
          | false =>
            refine ⟨zeroR, Ev.step (fun k => (hj k).trans ((if_pos h1).trans (if_neg (by rw [h2]; decide)))) (j3t _ _), .inr ⟨fun n m ex => ?_, rfl⟩⟩
            have a := ex.n0
            have b := ex.nm
            have c := ex.m1
            exact n2 h2 m (by omega) (by omega) (ex.two rfl)
          | true =>
            have hr := isRange_eq (⟨lt A, R1.1, R2.1⟩ : Sp)
            have same : ∀ n m, Exp s A B true n m → n = R1.1 ∧ m = R2.1 := fun n m ex => by
              have a := ex.n0
              have b := ex.nm
              exact ⟨(num_inj' R1.1 n (by omega) ((s1 h1).symm.trans ex.hn)).symm, (num_inj' R2.1 m (by omega) ((s2 h2).symm.trans (ex.two rfl))).symm⟩
            cases h3 : okr (⟨lt A, R1.1, R2.1⟩ : Sp) with
            | false =>
              rw [h3] at hr
              refine ⟨zeroR, Ev.step (fun k => (hj k).trans ((if_pos h1).trans ((if_pos h2).trans (by rw [hr]; rfl)))) (j3t R1.1 R2.1), .inr ⟨fun n m ex => ?_, rfl⟩⟩
              obtain ⟨rfl, rfl⟩ := same n m ex
              rw [okr_lt, decide_eq_true ex.n0, decide_eq_true ex.nm, decide_eq_true ex.m1] at h3
              cases h3
            | true =>
              rw [h3] at hr
              have hfit := fit_of _ h3
              have step : ∀ r, Ev (fun k => impl_ExpandRange.l0 k s 1 (lt A) R1.1 R2.1) r → Ev (fun k => impl_ExpandRange.j2 k s (rs A) (widen (rs A) (trim B (lt A))) (lt A) 0 0) r := fun r e => by
                refine Ev.step (fun k => (hj k).trans ((if_pos h1).trans ((if_pos h2).trans (by rw [hr]; rfl)))) (Ev.step (f := fun k => impl_ExpandRange.l0 k s 1 (lt A) R1.1 R2.1) (g := fun k => impl_ExpandRange.j3 k s (!true) (lt A) R1.1 R2.1) (fun k => ?_) e)
                simp only [impl_ExpandRange.j3]
                rw [if_neg (by decide)]
              rcases impl_scan3 (lt A) s R1.1 R2.1 hfit with ⟨⟨st, k1, k3, he⟩, e⟩ | ⟨hno, e⟩
              · exact ⟨_, step _ e, .inl ⟨R1.1, R2.1, ⟨hfit.x0, hfit.xy, hfit.y1, s1 h1, fun h => (by cases h), fun _ => s2 h2, fun _ => ⟨st, hfit, k1, k3, he⟩⟩, rfl⟩⟩
              · refine ⟨_, step _ e, .inr ⟨fun n m ex => ?_, rfl⟩⟩
                obtain ⟨rfl, rfl⟩ := same n m ex
                obtain ⟨st, h, k1, k3, he⟩ := ex.some_ rfl
                exact hno st k1 k3 he
      have mid : ∃ R, Ev (fun k => impl_ExpandRange.j1 k s (rs A) B (lt A) 0 0) R ∧ Ans s A B true R := by
        obtain ⟨R, e, r⟩ := last
        refine ⟨R, Ev.step (fun k => ?_) e, r⟩
        simp only [impl_ExpandRange.j1, trim_eq B (lt A) (lt_size A), Option.bind_some]
        unfold widen
        by_cases c : (trim B (lt A)).size < (rs A).size
        · rw [if_pos (by omega), if_pos c, wrap_small (by omega) (by omega), if_pos (by omega), if_pos (by omega), show (((rs A).size : Int) - ((trim B (lt A)).size : Int)).toNat = (rs A).size - (trim B (lt A)).size from by omega, if_pos (by rw [ByteArray.size_extract]; omega)]
        · rw [if_neg (by omega), if_neg c]
      have top : ∃ R, Ev (fun k => impl_ExpandRange.j0 k s A B (decide (isL A)) (⟨#[]⟩ : ByteArray) 0 0) R ∧ Ans s A B true R := by
        obtain ⟨R, e, r⟩ := mid
        refine ⟨R, Ev.step (fun k => ?_) e, r⟩
        by_cases h : isL A
        · simp only [impl_ExpandRange.j0, decide_eq_true h]
          have := h.1
          rw [if_pos trivial, if_pos (by omega), if_pos (by omega)]
          unfold rs lt
          rw [if_pos h, if_pos h]
        · obtain ⟨a, b⟩ := no_letter A h
          simp only [impl_ExpandRange.j0, decide_eq_false h]
          rw [if_neg (by decide), a, b]
      obtain ⟨R, e, r⟩ := top
      refine ⟨R, Ev.congr (fun _ => if_pos rfl) ?_, r⟩
      by_cases z : A.size = 0
      · refine Ev.congr (fun _ => if_pos ((toList_nil A).2 z)) ?_
        rw [decide_eq_false (fun h : isL A => by have := h.1; omega)] at e
        exact e
      · refine Ev.congr (fun _ => if_neg (fun e => z ((toList_nil A).1 e))) (Ev.congr (fun _ => if_pos (by omega)) ?_)
        unfold impl_isUpper.f
        by_cases c1 : bt A 0 ≥ 65
        · rw [if_pos c1, show decide (bt A 0 ≤ 90) = decide (isL A) from by rw [decide_eq_decide]; exact ⟨fun h => ⟨by omega, c1, h⟩, fun h => h.2.2⟩]
          exact e
        · rw [if_neg c1]
          rw [decide_eq_false (fun h : isL A => c1 h.2.1)] at e
          exact e

end Go.Proofs.YtmemcncbkgcbeaaGreatDoor.Pure
