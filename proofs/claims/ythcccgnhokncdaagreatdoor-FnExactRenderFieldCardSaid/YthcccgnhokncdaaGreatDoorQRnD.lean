/- Lemmas on the printed functions, without Go and memory. -/
import Derived.Lib.ItoaLen
import Derived.Lib.ItoaMem
import Derived.Test.YthcccgnhokncdaaGreatDoorPx10
import Derived.Test.YthcccgnhokncdaaGreatDoorPx4
import Derived.Test.YthcccgnhokncdaaGreatDoorPx9
import Derived.Test.YthcccgnhokncdaaGreatDoorQRnC
namespace Go.Proofs.YthcccgnhokncdaaGreatDoor.Pure
open Go.RowKit Go.Proofs.YthcccgnhokncdaaGreatDoor.Px Go.Proofs.YthcccgnhokncdaaGreatDoorW.PrintWords Go.Proofs.YthcccgnhokncdaaGreatDoorW.PrintLast
set_option linter.unusedVariables false
set_option linter.unusedSimpArgs false

def numT (n : Int) : ByteArray := ⟨(Lib.itoa n).toArray⟩
theorem numT_list (n : Int) : (numT n).data.toList = Lib.itoa n := by simp [numT]
theorem numT_size (n : Int) : (numT n).size = (Lib.itoa n).length := by rw [← data_length, numT_list]
theorem numT_le (n : Int) (h0 : -9223372036854775808 ≤ n) (h1 : n ≤ 9223372036854775807) : (numT n).size ≤ 21 := by rw [numT_size]; exact Lib.itoa_length_le n h0 h1
theorem numT_nat (u : Nat) : numT (u : Int) = ⟨(Lib.decDigits u).toArray⟩ := by unfold numT; rw [Lib.itoa_nonneg]
theorem itoa_some (n : Int) (h0 : -9223372036854775808 ≤ n) (h1 : n ≤ 9223372036854775807) : strconv_Itoa_66.f n = some (numT n) := by
  unfold strconv_Itoa_66.f
  rw [if_pos h0, if_pos h1]
  rfl
theorem digit_fin : ∀ i : Fin 10, (⟨#[48, 49, 50, 51, 52, 53, 54, 55, 56, 57]⟩ : ByteArray).extract i.val (i.val + 1) = ⟨#[UInt8.ofNat (48 + i.val)]⟩ := by decide +kernel
theorem digit_cut (d : Int) (h0 : 0 ≤ d) (h1 : d < 10) : (⟨#[48, 49, 50, 51, 52, 53, 54, 55, 56, 57]⟩ : ByteArray).extract d.toNat (wrap64 (d + 1)).toNat = ⟨#[UInt8.ofNat (48 + d.toNat)]⟩ := by
  have := digit_fin ⟨d.toNat, by omega⟩
  rw [wrap_small (by omega) (by omega), show (d + 1).toNat = d.toNat + 1 from by omega]
  exact this
theorem num_ev (u : Nat) (hu : u ≤ 1000000) : Ev (fun k => spec_l1Num.f k (u : Int)) (numT u) := by
  induction u using Nat.strongRecOn with
  | _ u ih =>
    by_cases h : u < 10
    · refine Ev.step (f := fun _ => some (numT u)) (fun k => ?_) (Ev.now _)
      simp only [spec_l1Num.f]
      rw [if_neg (by omega), if_pos (by omega), if_pos (by omega), digit_cut _ (by omega) (by omega), wrap_small (by omega) (by omega), if_pos (by omega), if_pos (by omega), numT_nat, Lib.decDigits_one h]
      rfl
    · have e := ih (u / 10) (by omega) (by omega)
      have hd : Int.tdiv (u : Int) 10 = ((u / 10 : Nat) : Int) := by rw [Int.tdiv_eq_ediv_of_nonneg (by omega)]; omega
      have hm : Int.tmod (u : Int) 10 = ((u % 10 : Nat) : Int) := by rw [Int.tmod_eq_emod_of_nonneg (by omega)]; omega
      have hs := numT_le ((u / 10 : Nat) : Int) (by omega) (by omega)
      have hz : (⟨#[UInt8.ofNat (48 + u % 10)]⟩ : ByteArray).size = 1 := rfl
      refine Ev.step (f := fun k => (spec_l1Num.f k ((u / 10 : Nat) : Int)).bind fun t => if t.size + (⟨#[UInt8.ofNat (48 + u % 10)]⟩ : ByteArray).size ≤ 9223372036854775807 then some (t ++ ⟨#[UInt8.ofNat (48 + u % 10)]⟩) else none) (fun k => ?_) (Ev.bind e ?_)
      · simp only [spec_l1Num.f]
        rw [if_neg (by omega), if_neg (by omega), hd, hm, digit_cut _ (by omega) (by omega), wrap_small (x := ((u / 10 : Nat) : Int)) (by omega) (by omega), wrap_small (by omega) (by omega)]
        simp only [if_pos (show (0 : Int) ≤ ((u % 10 : Nat) : Int) by omega), if_pos (show ((u % 10 : Nat) : Int) ≤ ((u % 10 : Nat) : Int) + 1 by omega), if_pos (show ((u % 10 : Nat) : Int) + 1 ≤ 10 by omega), Int.toNat_natCast]
      · refine Ev.congr (fun _ => if_pos (by omega)) ?_
        have : numT ((u / 10 : Nat) : Int) ++ ⟨#[UInt8.ofNat (48 + u % 10)]⟩ = numT u := by
          rw [numT_nat, numT_nat u, Lib.decDigits.eq_def u, dif_neg h]
          apply ByteArray.ext
          simp
        rw [this]
        exact Ev.now _
theorem num_evI (n : Int) (h0 : 0 ≤ n) (h1 : n ≤ 1000000) : Ev (fun k => spec_l1Num.f k n) (numT n) := by
  have := num_ev n.toNat (by omega)
  rwa [show ((n.toNat : Nat) : Int) = n from by omega] at this
theorem numT_pos (n : Int) : 0 < (numT n).size := by
  rw [numT_size]
  unfold Lib.itoa
  split
  · simp
  · rw [Lib.decDigits_length]; exact Lib.nDigits_pos _

abbrev cirw : ByteArray := ⟨#[99, 97, 46, 32]⟩
abbrev spw : ByteArray := ⟨#[32]⟩
theorem spw_z : spw.size = 1 := rfl
def mons : List ByteArray := [⟨#[]⟩, ⟨#[74, 97, 110, 117, 97, 114, 121]⟩, ⟨#[70, 101, 98, 114, 117, 97, 114, 121]⟩, ⟨#[77, 97, 114, 99, 104]⟩, ⟨#[65, 112, 114, 105, 108]⟩, ⟨#[77, 97, 121]⟩, ⟨#[74, 117, 110, 101]⟩, ⟨#[74, 117, 108, 121]⟩, ⟨#[65, 117, 103, 117, 115, 116]⟩, ⟨#[83, 101, 112, 116, 101, 109, 98, 101, 114]⟩, ⟨#[79, 99, 116, 111, 98, 101, 114]⟩, ⟨#[78, 111, 118, 101, 109, 98, 101, 114]⟩, ⟨#[68, 101, 99, 101, 109, 98, 101, 114]⟩]
def mon (m : Int) : ByteArray := rdOf ByteArray.empty mons m
theorem mon_fin : ∀ i : Fin 13, (mon (i.val : Int)).size ≤ 9 ∧ (0 < i.val → 0 < (mon (i.val : Int)).size) := by decide +kernel
theorem mon_b (m : Int) (h0 : 0 ≤ m) (h1 : m ≤ 12) : (mon m).size ≤ 9 ∧ (0 < m → 0 < (mon m).size) := by
  have := mon_fin ⟨m.toNat, by omega⟩
  simp only [show ((m.toNat : Nat) : Int) = m from by omega] at this
  exact ⟨this.1, fun h => this.2 (by omega)⟩
def dayT (d : Int) : ByteArray := if d > 0 then numT d else ⟨#[]⟩
def cirV (c : Bool) (s : ByteArray) : ByteArray := if c = true then cirw ++ s else s
def lonV (y m d : Int) (c : Bool) : ByteArray := cirV c (JV [dayT d, mon m, numT y])
theorem jn1 (a b : List UInt8) (h : a ≠ []) (hb : b ≠ []) : jn a b = (a ++ [32]) ++ b := if_neg (by rintro (h1 | h1); exact h h1; exact hb h1)
theorem jn0 (b : List UInt8) : jn [] b = b := if_pos (.inl rfl)
theorem ne_data (s : ByteArray) (h : 0 < s.size) : s.data.toList ≠ [] := fun e => by
  have : s.size = 0 := by rw [← data_length, e]; rfl
  omega
theorem JV3 (a b c : ByteArray) : JV [a, b, c] = ofL (jn (jn a.data.toList b.data.toList) c.data.toList) := by
  unfold JV
  simp only [List.map_cons, List.map_nil, List.foldl_cons, List.foldl_nil, jn0]
theorem lon_y (y : Int) : JV [dayT 0, mon 0, numT y] = numT y := by
  rw [JV3]
  show ofL (jn (jn [] []) _) = _
  rw [jn0, jn0, ofL_data]
theorem lon_m (y m : Int) (h0 : 0 < m) (h1 : m ≤ 12) : JV [dayT 0, mon m, numT y] = (mon m ++ spw) ++ numT y := by
  have hm := (mon_b m (by omega) h1).2 h0
  have hy := numT_pos y
  rw [JV3, show (dayT 0).data.toList = [] from rfl, jn0, jn1 _ _ (ne_data _ hm) (ne_data _ hy)]
  exact ba_ext _ _ (by simp [app_data, ofL])
theorem lon_d (y m d : Int) (h0 : 0 < m) (h1 : m ≤ 12) (hd : 0 < d) : JV [dayT d, mon m, numT y] = (numT d ++ spw) ++ ((mon m ++ spw) ++ numT y) := by
  have hm := (mon_b m (by omega) h1).2 h0
  have hy := numT_pos y
  have hd2 := numT_pos d
  rw [JV3, show dayT d = numT d from if_pos hd, jn1 _ _ (ne_data _ hd2) (ne_data _ hm), jn1 _ _ (by simp) (ne_data _ hy)]
  exact ba_ext _ _ (by simp [app_data, ofL])
structure DtV (y m d : Int) : Prop where
  y0 : 0 ≤ y
  y1 : y ≤ 2999
  m0 : 0 ≤ m
  m1 : m ≤ 12
  d0 : 0 ≤ d
  d1 : d ≤ 31
  z : m = 0 → d = 0
theorem dt_v (y m d : Int) (c : Bool) (h : dateB y m d c = true) : DtV y m d := by
  obtain ⟨a1, a2, a3, a4, a5, a6⟩ := date_parts y m d c h
  refine ⟨a1, a2, a3, a4, a5, a6, fun hm => ?_⟩
  unfold dateB zeroD at h
  rcases Bool.or_eq_true_iff.1 h with h | h
  · simp only [Bool.and_eq_true, beq_iff_eq] at h
    omega
  · rw [Bool.and_eq_true, Bool.and_eq_true, if_pos hm] at h
    exact beq_iff_eq.1 h.2.2
theorem spw_app (a b : ByteArray) : ((a ++ spw) ++ b).size = a.size + 1 + b.size := by rw [ByteArray.size_append, ByteArray.size_append, spw_z]
theorem long_j (y m d : Int) (c : Bool) (v : DtV y m d) (x : ByteArray) (hx : x.size ≤ 40) : Ev (fun k => spec_l3Long.j0 k x y m d c) (cirV c (if d > 0 then (numT d ++ spw) ++ x else x)) := by
  have s2 := numT_le d (by have := v.d0; omega) (by have := v.d1; omega)
  have hz := spw_app (numT d) x
  by_cases h : d > 0
  · rw [if_pos h]
    refine Ev.step (f := fun k => (spec_l1Num.f k d).bind fun t => if t.size + 1 ≤ 9223372036854775807 then (if (t ++ spw).size + x.size ≤ 9223372036854775807 then (if c = true then (if 4 + ((t ++ spw) ++ x).size ≤ 9223372036854775807 then some (cirw ++ ((t ++ spw) ++ x)) else none) else some ((t ++ spw) ++ x)) else none) else none) (fun k => ?_) (Ev.bind (num_evI d v.d0 (by have := v.d1; omega)) (Ev.congr (fun _ => (if_pos (by omega)).trans (if_pos (by rw [ByteArray.size_append, spw_z]; omega))) ?_))
    · simp only [spec_l3Long.j0]
      rw [if_pos h]
    · unfold cirV
      cases c with
      | true => exact Ev.congr (fun _ => (if_pos rfl).trans (if_pos (by omega))) (Ev.now _)
      | false => exact Ev.congr (fun _ => if_neg (by decide)) (Ev.now _)
  · rw [if_neg h]
    refine Ev.step (f := fun _ => some (cirV c x)) (fun k => ?_) (Ev.now _)
    simp only [spec_l3Long.j0]
    rw [if_neg h]
    unfold cirV
    cases c with
    | true => rw [if_pos rfl, if_pos (by omega), if_pos rfl]
    | false => rw [if_neg (by decide), if_neg (by decide)]
theorem long_s (y m d : Int) (c : Bool) (v : DtV y m d) (hy : y ≠ 0) : Ev (fun k => spec_l3Long.f k y m d c) (lonV y m d c) := by
  obtain ⟨y0, y1, m0, m1, d0, d1, z⟩ := v
  have s1 := numT_le y (by omega) (by omega)
  have hm := mon_b m m0 m1
  unfold spec_l3Long.f
  refine Ev.congr (fun _ => if_neg hy) (Ev.bind (num_evI y y0 (by omega)) ?_)
  by_cases h : m > 0
  · have J := long_j y m d c ⟨y0, y1, m0, m1, d0, d1, z⟩ ((mon m ++ spw) ++ numT y) (by rw [spw_app]; omega)
    have e : lonV y m d c = cirV c (if d > 0 then (numT d ++ spw) ++ ((mon m ++ spw) ++ numT y) else (mon m ++ spw) ++ numT y) := by
      unfold lonV
      by_cases hd : d > 0
      · rw [if_pos hd, lon_d y m d h m1 hd]
      · rw [if_neg hd, show d = 0 from by omega, lon_m y m h m1]
    rw [e]
    refine Ev.congr (fun _ => if_pos h) ?_
    show Ev (fun k => (some mons).bind fun t215 => if 0 ≤ m then _ else _) _
    refine Ev.congr (fun _ => (Option.bind_some _ _).trans ((if_pos m0).trans ((if_pos (show m < (mons.length : Int) from by show m < 13; omega)).trans ((if_pos (show (mon m).size + 1 ≤ 9223372036854775807 from by omega)).trans (if_pos (show (mon m ++ spw).size + (numT y).size ≤ 9223372036854775807 from by rw [ByteArray.size_append, spw_z]; omega)))))) ?_
    exact J
  · have J := long_j y m d c ⟨y0, y1, m0, m1, d0, d1, z⟩ (numT y) (by omega)
    have hz := z (by omega)
    have e : lonV y m d c = cirV c (if d > 0 then (numT d ++ spw) ++ numT y else numT y) := by
      unfold lonV
      rw [if_neg (by omega), hz, show m = 0 from by omega, lon_y]
    rw [e]
    exact Ev.congr (fun _ => if_neg h) J
theorem long_i (y m d : Int) (c : Bool) (v : DtV y m d) (hy : y ≠ 0) : Ev (fun k => impl_longDate.f k y m d c) (lonV y m d c) := by
  obtain ⟨y0, y1, m0, m1, d0, d1, z⟩ := v
  have s1 := numT_le y (by omega) (by omega)
  have s2 := numT_le d (by omega) (by omega)
  have hm := mon_b m m0 m1
  have hdz : (dayT d).size ≤ 21 := by
    unfold dayT
    split
    · exact s2
    · decide
  have hmem : ∀ p ∈ [dayT d, mon m, numT y], p.size ≤ 21 := fun p hp => by
    simp only [List.mem_cons, List.not_mem_nil, or_false] at hp
    rcases hp with rfl | rfl | rfl <;> omega
  have hJ := JV_le 21 _ hmem
  have hJ' : (JV [dayT d, mon m, numT y]).size ≤ 66 := hJ
  have sp := spaced_i [dayT d, mon m, numT y] (by simp) (by simp) (fun p hp => Nat.le_trans (hmem p hp) (by omega))
  have J : Ev (fun k => impl_longDate.j0 k (dayT d) y m d c) (lonV y m d c) := by
    refine Ev.step (f := fun _ => some (lonV y m d c)) (fun k => ?_) (Ev.now _)
    simp only [impl_longDate.j0]
    rw [if_pos m0, if_pos (by omega), itoa_some y (by omega) (by omega), Option.bind_some]
    show ((impl_spaced.f [dayT d, mon m, numT y]).bind fun t389 => _) = _
    rw [sp, Option.bind_some]
    unfold lonV cirV
    cases c with
    | true => rw [if_pos rfl, if_pos (by omega), if_pos rfl]
    | false => rw [if_neg (by decide), if_neg (by decide)]
  unfold impl_longDate.f
  refine Ev.congr (fun _ => if_neg hy) ?_
  unfold dayT at J
  by_cases h : d > 0
  · rw [if_pos h] at J
    rw [itoa_some d (by omega) (by omega)]
    exact Ev.congr (fun _ => (if_pos h).trans (Option.bind_some _ _)) J
  · rw [if_neg h] at J
    exact Ev.congr (fun _ => if_neg h) J
def yeaV (y : Int) (c : Bool) : ByteArray := if y = 0 then ⟨#[]⟩ else cirV c (numT y)
theorem year_s (y m d : Int) (c : Bool) (v : DtV y m d) : Ev (fun k => spec_l10Year.f k y m d c) (yeaV y c) := by
  obtain ⟨y0, y1, m0, m1, d0, d1, z⟩ := v
  have s1 := numT_le y (by omega) (by omega)
  unfold spec_l10Year.f yeaV cirV
  by_cases h : y = 0
  · rw [if_pos h]; exact Ev.congr (fun _ => if_pos h) (Ev.now _)
  · rw [if_neg h]
    refine Ev.congr (fun _ => if_neg h) ?_
    cases c with
    | true => exact Ev.congr (fun _ => if_pos rfl) (Ev.bind (num_evI y y0 (by omega)) (Ev.congr (fun _ => if_pos (by omega)) (Ev.now _)))
    | false => exact Ev.congr (fun _ => if_neg (by decide)) (Ev.bind (num_evI y y0 (by omega)) (Ev.now _))
theorem year_i (y m d : Int) (c : Bool) (v : DtV y m d) : impl_yearText.f y m d c = some (yeaV y c) := by
  obtain ⟨y0, y1, m0, m1, d0, d1, z⟩ := v
  have s1 := numT_le y (by omega) (by omega)
  unfold impl_yearText.f yeaV cirV
  rw [itoa_some y (by omega) (by omega)]
  by_cases h : y = 0
  · rw [if_pos h, if_pos h]
  · rw [if_neg h, if_neg h]
    cases c with
    | true => rw [if_pos rfl, if_pos rfl, Option.bind_some, if_pos (by omega)]
    | false => rw [if_neg (by decide), if_neg (by decide), Option.bind_some]

end Go.Proofs.YthcccgnhokncdaaGreatDoor.Pure
