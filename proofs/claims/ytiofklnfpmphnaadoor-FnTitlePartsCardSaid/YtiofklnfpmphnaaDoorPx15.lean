/- That calls of Go functions come to what the Lean functions beside them say; written by a program of this session (wip/xprint) over the printed words; no conditions. -/
import Derived.Test.YtiofklnfpmphnaaDoorPx0
import Derived.Test.YtiofklnfpmphnaaDoorPx7
import Derived.Test.YtiofklnfpmphnaaDoorPx11
import Derived.Test.YtiofklnfpmphnaaDoorPx14
namespace Go.Proofs.YtiofklnfpmphnaaDoor.Px
open Go.RowKit Go.Proofs.YtiofklnfpmphnaaDoorW.PrintWords Go.Proofs.YtiofklnfpmphnaaDoorW.PrintLast Go.Proofs.YtiofklnfpmphnaaDoorW.PrintMore
attribute [local go_sem] max2_int min2_int max_two min_two max_three min_three max_four min_four   -- for this text's walks alone
set_option linter.unusedVariables false
set_option linter.unusedSimpArgs false

/-! ### impl_lower: function 49 -/
/-- A letter in lower case. -/
def impl_lower.isU (b : Int) : Bool := decide (b ≥ 65) && decide (b ≤ 90)
def impl_lower.low (b : Int) : Int := if impl_lower.isU b = true then b + 32 else b
def impl_lower.f (a0 : ByteArray) : Option (ByteArray) := if a0.size ≤ 140737488351232 then some (strOfNums ((bytesOf a0).map impl_lower.low)) else none
theorem impl_lower.isU_eq (b : Int) : impl_isUpper.f b = some (impl_lower.isU b) := by
  unfold impl_isUpper.f impl_lower.isU
  by_cases h : b ≥ 65
  · rw [if_pos h, decide_eq_true h]; rfl
  · rw [if_neg h, decide_eq_false h]; rfl
/-- The row half way. -/
def impl_lower.half (l : List Int) (j : Nat) : List Int := (l.take j).map impl_lower.low ++ l.drop j
theorem impl_lower.half_len (l : List Int) (j : Nat) : (impl_lower.half l j).length = l.length := by simp [impl_lower.half]; omega
theorem impl_lower.half_at (l : List Int) (j : Nat) (hj : j < l.length) : (impl_lower.half l j).getD j 0 = l.getD j 0 := by
  unfold impl_lower.half
  rw [List.getD_eq_getElem?_getD, List.getElem?_append_right (by simp; omega)]
  simp [List.getD, Nat.min_eq_left (Nat.le_of_lt hj)]
theorem impl_lower.half_next (l : List Int) (j : Nat) (hj : j < l.length) (v : Int) (hv : v = impl_lower.low (l.getD j 0)) : (impl_lower.half l j).set j v = impl_lower.half l (j + 1) := by
  subst hv
  unfold impl_lower.half
  rw [List.set_append_right _ _ (by simp; omega), List.take_succ_eq_append_getElem hj, List.map_append]
  have e : j - (List.map impl_lower.low (List.take j l)).length = 0 := by simp; omega
  have hg : l.getD j 0 = l[j] := by simp [List.getD, List.getElem?_eq_getElem hj]
  rw [e, List.drop_eq_getElem_cons hj, List.set_cons_zero, hg]
  simp only [List.map_cons, List.map_nil, List.append_assoc, List.singleton_append]
theorem impl_lower.half_all (l : List Int) (n : Nat) (hn : l.length = n) : impl_lower.half l n = l.map impl_lower.low := by
  unfold impl_lower.half
  rw [List.take_of_length_le (by omega), List.drop_of_length_le (by omega), List.append_nil]
theorem impl_lower.half_same (l : List Int) (j : Nat) (hj : j < l.length) (hv : impl_lower.low (l.getD j 0) = l.getD j 0) : impl_lower.half l (j + 1) = impl_lower.half l j := by
  have h := impl_lower.half_next l j hj _ hv.symm
  rw [← h]
  apply List.ext_getElem?
  intro i
  by_cases e : j = i
  · subst e
    rw [List.getElem?_set_self (by rw [impl_lower.half_len]; exact hj)]
    have := impl_lower.half_at l j hj
    rw [List.getD_eq_getElem?_getD, List.getElem?_eq_getElem (by rw [impl_lower.half_len]; exact hj)] at this
    rw [List.getElem?_eq_getElem (by rw [impl_lower.half_len]; exact hj)]
    exact congrArg some this.symm
  · rw [List.getElem?_set_ne e]
theorem impl_lower.bytes_lt (s : ByteArray) (j : Nat) : 0 ≤ (bytesOf s).getD j 0 ∧ (bytesOf s).getD j 0 ≤ 255 := by
  have h := rd_bytesOf s (j : Int)
  unfold rd at h
  rw [Int.toNat_natCast] at h
  rw [h]
  exact bt_range s _
set_option maxHeartbeats 4000000 in
set_option maxRecDepth 100000 in
theorem impl_lower.calls (a0 : ByteArray) (r : ByteArray) (w : World) (h : impl_lower.f a0 = some r) :
    Calls Tryd.prog 49 #[.string a0] w fun e w' => e = .returned (.string r) ∧ Below w.heap.size w w' := by
  unfold impl_lower.f at h
  by_cases hs : a0.size ≤ 140737488351232
  · rw [if_pos hs] at h
    obtain rfl := Option.some.inj h
    clear h
    obtain ⟨cap, W1, hconv, hB1, hbel1⟩ := Go.Proofs.YtiofklnfpmphnaaDoorW.Buf.conv_buf (P := Tryd.prog) w 9 22 5 a0 Tryd.underlying9 Tryd.underlying22 Tryd.underlying5
    have hlen := bytesOf_length a0
    have HB1 := Aside0.mk hB1
    have HBEL1 := Aside0.mk hbel1
    have HLEN := Aside0.mk hlen
    clear hB1 hbel1 hlen
    go_enter Tryd.func49, Tryd.ntmps49
    go_wp2
    clear hconv
    go_loopw [10] (fun v wr => ∃ j : Nat, j ≤ a0.size ∧ v = .int .i64 j ∧ Aside0 (Go.Proofs.YtiofklnfpmphnaaDoorW.Buf.Bf wr w.heap.size 5 (impl_lower.half (bytesOf a0) j)) ∧ Aside0 (Below w.heap.size w wr)) (fun v _ => a0.size - (intOf v).toNat)
    case atStart => exact ⟨0, Nat.zero_le _, rfl, ⟨by simpa [impl_lower.half] using HB1.out⟩, HBEL1⟩
    case round =>
      obtain ⟨j, hj, rfl, HB, HBEL⟩ := hrel
      by_cases hlt : j < a0.size
      · have hjl : j < (bytesOf a0).length := by rw [HLEN.out]; exact hlt
        have hjh : j < (impl_lower.half (bytesOf a0) j).length := by rw [impl_lower.half_len]; exact hjl
        have hcell := HB.out.cell j hjh
        rw [impl_lower.half_at _ _ hjl] at hcell
        have hfroz := HB.out.frozen j hjh
        have hrng := impl_lower.bytes_lt a0 j
        have HN := Aside0.mk (impl_lower.half_next (bytesOf a0) j hjl)
        have HS := Aside0.mk (impl_lower.half_same (bytesOf a0) j hjl)
        obtain ⟨b, hbdef⟩ : ∃ b, b = (bytesOf a0).getD j 0 := ⟨_, rfl⟩
        rw [← hbdef] at hcell hrng
        have HBD := Aside0.mk hbdef
        clear hbdef hjl
        have hb0 := hrng.1
        have hb1 := hrng.2
        clear hrng
        by_cases hu : impl_lower.isU b = true
        · go_wp2_with (go_at_call 69; (with_reducible refine (impl_isUpper.calls b true _ ((impl_lower.isU_eq b).trans (by rw [hu]))).mono ?_); rintro e w' ⟨rfl, ⟨nq, rfl⟩⟩)
          have hv : (b + 97 - 65) % 256 = impl_lower.low ((bytesOf a0).getD j 0) := by
            rw [← HBD.out]
            unfold impl_lower.low
            rw [if_pos hu]
            unfold impl_lower.isU at hu
            have := of_decide_eq_true (Bool.and_eq_true_iff.1 hu).1
            have := of_decide_eq_true (Bool.and_eq_true_iff.1 hu).2
            omega
          refine ⟨⟨j + 1, by omega, by go_num, ⟨?_⟩, ⟨(pw_below_drewN HBEL.out nq).setCell (Nat.le_refl _) _⟩⟩, by simp [intOf]; omega⟩
          rw [← HN.out _ hv]
          exact (HB.out.drewN nq).set j hjh _
        · go_wp2_with (go_at_call 69; (with_reducible refine (impl_isUpper.calls b false _ ((impl_lower.isU_eq b).trans (by rw [Bool.eq_false_iff.mpr hu]))).mono ?_); rintro e w' ⟨rfl, ⟨nq, rfl⟩⟩)
          refine ⟨⟨j + 1, by omega, by go_num, ⟨?_⟩, ⟨pw_below_drewN HBEL.out nq⟩⟩, by simp [intOf]; omega⟩
          rw [HS.out (by rw [← HBD.out]; unfold impl_lower.low; rw [if_neg hu])]
          exact HB.out.drewN nq
      · obtain rfl : j = a0.size := by omega
        have hback := Go.Proofs.YtiofklnfpmphnaaDoorW.Buf.conv_back (P := Tryd.prog) HB.out 22 9 a0.size cap ((impl_lower.half_len _ _).trans HLEN.out) Tryd.underlying22 Tryd.underlying9 Tryd.underlying5
        rw [impl_lower.half_all _ _ HLEN.out] at hback
        go_wp2
        go_ret
        exact ⟨rfl, HBEL.out⟩
  · rw [if_neg hs] at h
    cases h

/-! ### impl_isLower: function 50 -/
def impl_isLower.f (a0 : Int) : Option (Bool) := if a0 ≥ 97 then (some (decide (a0 ≤ 122))) else (some false)
set_option maxHeartbeats 8000000 in
set_option maxRecDepth 100000 in
theorem impl_isLower.calls (a0 : Int) (r : Bool) (w : World) (h : impl_isLower.f a0 = some r) :
  Calls Tryd.prog 50 #[.int .u8 a0] w fun e w' => e = .returned (.bool r) ∧ Drawn0 w w' := by
 have H : (if a0 ≥ 97 then (some (decide (a0 ≤ 122))) else (some false)) = some r := h
 clear h
 by_cases c2 : a0 ≥ 97
 ·rw [if_pos c2] at H
  have c2b0 : decide (97 ≤ a0) = true := decide_eq_true c2
  clear c2
  obtain rfl := Option.some.inj H
  go_enter Tryd.func50, Tryd.ntmps50
  go_wp2
  go_ret
  exact ⟨by first | rfl | (simp; done) | (simp [*]; done), by repeat (first | exact Drawn0.refl _ | apply Drawn0.step)⟩
 ·rw [if_neg c2] at H
  have c2b0 : decide (97 ≤ a0) = false := decide_eq_false c2
  clear c2
  obtain rfl := Option.some.inj H
  go_enter Tryd.func50, Tryd.ntmps50
  go_wp2
  go_ret
  exact ⟨by first | rfl | (simp; done) | (simp [*]; done), by repeat (first | exact Drawn0.refl _ | apply Drawn0.step)⟩

/-! ### impl_isDigit: function 51 -/
def impl_isDigit.f (a0 : Int) : Option (Bool) := if a0 ≥ 48 then (some (decide (a0 ≤ 57))) else (some false)
set_option maxHeartbeats 8000000 in
set_option maxRecDepth 100000 in
theorem impl_isDigit.calls (a0 : Int) (r : Bool) (w : World) (h : impl_isDigit.f a0 = some r) :
  Calls Tryd.prog 51 #[.int .u8 a0] w fun e w' => e = .returned (.bool r) ∧ Drawn0 w w' := by
 have H : (if a0 ≥ 48 then (some (decide (a0 ≤ 57))) else (some false)) = some r := h
 clear h
 by_cases c2 : a0 ≥ 48
 ·rw [if_pos c2] at H
  have c2b0 : decide (48 ≤ a0) = true := decide_eq_true c2
  clear c2
  obtain rfl := Option.some.inj H
  go_enter Tryd.func51, Tryd.ntmps51
  go_wp2
  go_ret
  exact ⟨by first | rfl | (simp; done) | (simp [*]; done), by repeat (first | exact Drawn0.refl _ | apply Drawn0.step)⟩
 ·rw [if_neg c2] at H
  have c2b0 : decide (48 ≤ a0) = false := decide_eq_false c2
  clear c2
  obtain rfl := Option.some.inj H
  go_enter Tryd.func51, Tryd.ntmps51
  go_wp2
  go_ret
  exact ⟨by first | rfl | (simp; done) | (simp [*]; done), by repeat (first | exact Drawn0.refl _ | apply Drawn0.step)⟩

/-! ### impl_sortTitle_1: function 54 -/
def impl_sortTitle_1.f (a0 : ByteArray) : Option (Bool) := some (a0.toList == ([] : List UInt8))
set_option maxHeartbeats 8000000 in
set_option maxRecDepth 100000 in
theorem impl_sortTitle_1.calls (a0 : ByteArray) (r : Bool) (w : World) (h : impl_sortTitle_1.f a0 = some r) :
    Calls Tryd.prog 54 #[.string a0] w fun e w' => e = .returned (.bool r) ∧ Drawn0 w w' := by
  have H : (some (a0.toList == ([] : List UInt8))) = some r := h
  clear h
  obtain rfl := Option.some.inj H
  go_enter Tryd.func54, Tryd.ntmps54
  go_wp2
  go_ret
  exact ⟨by first | rfl | (simp; done) | (simp [*]; done), by repeat (first | exact Drawn0.refl _ | apply Drawn0.step)⟩

/-! ### strings_Split: function 53 -/
def strings_Split.parts (a0 : ByteArray) (a1 : ByteArray) : List ByteArray := Lib.splitB a1 0 (Lib.countB a0 a1) a0
def strings_Split.f (a0 : ByteArray) (a1 : ByteArray) : Option (List ByteArray) := if a0.size < 4294967281 then (if 1 ≤ a1.size then some (strings_Split.parts a0 a1) else none) else none
theorem strings_Split.calls (a0 : ByteArray) (a1 : ByteArray) (r : List ByteArray) (w : World) (henv : Go.Proofs.YtiofklnfpmphnaaDoorW.Envs.Env [0] w) (h : strings_Split.f a0 a1 = some r) :
    Calls Tryd.prog 53 #[.string a0, .string a1] w fun e w' => ∃ v0_ : Value, e = .returned (v0_) ∧ Kd.R Kd.string 9 w' w.heap.size (fun _ => True) v0_ r ∧ Below w.heap.size w w' := by
  unfold strings_Split.f at h
  by_cases h0 : a0.size < 4294967281
  · rw [if_pos h0] at h
    by_cases h1 : 1 ≤ a1.size
    · rw [if_pos h1] at h
      obtain rfl := Option.some.inj h
      obtain ⟨m, hm⟩ := henv.int (by decide) (strings_Split.lays.s1_3)
      refine (Any.strings_Split { strings_Split.lays with } strings_Split.lays.i9 a0 a1 m w h0 hm h1).mono fun e w' ⟨he, hw⟩ => ?_
      have hn : (strings_Split.parts a0 a1).length = Lib.countB a0 a1 + 1 := Lib.splitB_all a1 h1 0 _ a0 rfl
      have hle := Lib.countB_le a1 h1 a0.size a0 (Nat.le_refl _)
      subst hw
      refine ⟨_, he, ?_, below_alloc (Below.refl _ _) _⟩
      rw [← hn]
      exact Kd.R_of_own (own_lit_of w w.heap.size 9 (strings_Split.parts a0 a1) (Nat.le_refl _) (by omega)) (fun _ _ => trivial)
    · rw [if_neg h1] at h
      exact absurd h (by simp)
  · rw [if_neg h0] at h
    exact absurd h (by simp)

/-! ### impl_sortTitle: function 36 -/
def impl_sortTitle.emp (x : ByteArray) : Bool := x.toList == ([] : List UInt8)
/-- The list without its empty texts, in place. -/
theorem impl_sortTitle.del (l : List ByteArray) (hne : l ≠ []) (hl : l.length ≤ 9223372036854775807) (v : Value) (base : Nat) (ok : Nat → Prop) (W : World) (h : Kd.R Kd.string 9 W base ok v l) :
    Calls Tryd.prog 52 #[v, .func (.func 54) #[] #[]] W fun e w' => ∃ A c, e = .returned (.slice A (l.filter fun x => !impl_sortTitle.emp x).length c) ∧ (l.filter fun x => !impl_sortTitle.emp x).length ≤ c ∧ Kd.C Kd.string w' A (l.filter fun x => !impl_sortTitle.emp x).length (l.filter fun x => !impl_sortTitle.emp x) ∧ Below base W w' := by
  have ho := Kd.own_of_R h
  obtain ⟨A, c, rfl⟩ := Kd.R_slice h
  have hpos : 0 < l.length := List.length_pos_iff.2 hne
  rcases ho.2 with ⟨_, hn⟩ | ⟨g, cap, cur, he, hg, hb, hcap, hmax, _, _⟩
  · omega
  injection he with e1 e2 e3
  subst e1 e3
  have hH : Go.Sort.Holds Value.string W g 0 l.toArray := fun j hj => by
    have hj' : j < l.length := by simpa using hj
    have h2 := Kd.R_cell ByteArray.empty h (j : Int) (by omega) (by omega)
    rw [Int.toNat_natCast] at h2
    rw [Nat.zero_add]
    refine ⟨?_, h2.2⟩
    rw [h2.1]
    congr 2
    unfold rdOf
    rw [Int.toNat_natCast, List.getD_eq_getElem?_getD, List.getElem?_eq_getElem hj', getElem!_pos l.toArray j hj]
    simp
  have gives : ∀ (x : ByteArray) (W' : World), FnGives Tryd.prog 54 #[] #[.string x] (.bool (impl_sortTitle.emp x)) W' := fun x W' => by
    show Calls Tryd.prog 54 #[.string x] W' _
    exact (impl_sortTitle_1.calls x (impl_sortTitle.emp x) W' rfl).mono fun e w' ⟨he, hd⟩ => ⟨he, by obtain ⟨n, hn⟩ := hd; exact ⟨n, hn⟩⟩
  have eg : ∀ args w, (callFunc 54 args).run Tryd.prog w = .ok (.enter 54 args) w := enters_of Tryd.func54 (by kernel_rfl) rfl
  have con := AnyE.slices_DeleteFunc impl_sortTitle.layD Value.string (fun _ => rfl) impl_sortTitle.emp 54 #[] eg ByteArray.empty Tryd.zeroValue9 g 0 c l.toArray W
    (fun W' x _ => gives x W') (fun n os dk x _ => gives x _) hH (by simpa using hl) (by simpa using hcap)
  have hfl : (l.filter fun x => !impl_sortTitle.emp x).length ≤ l.length := List.length_filter_le _ _
  have el : l.toArray.toList = l := by simp
  have es : l.toArray.size = l.length := by simp
  rw [el, es] at con
  obtain ⟨fl, hfd⟩ : ∃ fl, fl = (l.filter fun x => !impl_sortTitle.emp x) := ⟨_, rfl⟩
  rw [← hfd] at con hfl ⊢
  clear hfd
  refine con.mono fun e w' ⟨he, q, hw⟩ => ⟨_, _, he, by omega, ?_, ?_⟩
  · subst hw
    refine Kd.C_of_reads (d := ByteArray.empty) (h1 := fun _ => rfl) ⟨rfl, by omega, fun _ => ⟨_, rfl, fun j hj => ?_⟩⟩
    have hc := Go.Sort.cell?_putRow Value.string (Go.Sort.ahead W q) g 0 l.toArray (fl ++ List.replicate (l.length - fl.length) ByteArray.empty).toArray (Go.Sort.holds_ahead Value.string W q g 0 l.toArray hH) (by simp; omega) j (by simp; omega)
    rw [Nat.zero_add] at hc
    have ea : (⟨g, 0, none⟩ : Addr).add j = ⟨g, j, none⟩ := by
      unfold Addr.add
      by_cases c0 : j = 0
      · subst c0; rfl
      · rw [if_neg c0]
        simp
    rw [ea, hc]
    congr 2
    rw [getElem!_pos _ j (by simp; omega), List.getD_eq_getElem?_getD, List.getElem?_eq_getElem hj]
    simp [List.getElem_append_left hj]
  · subst hw
    exact Lib.below_putRow (Below.refl base W) hg
def impl_sortTitle.isL (b : Int) : Bool := decide (b ≥ 97) && decide (b ≤ 122)
def impl_sortTitle.isD (b : Int) : Bool := decide (b ≥ 48) && decide (b ≤ 57)
theorem impl_sortTitle.isL_eq (b : Int) : impl_isLower.f b = some (impl_sortTitle.isL b) := by
  unfold impl_isLower.f impl_sortTitle.isL
  by_cases h : b ≥ 97
  · rw [if_pos h, decide_eq_true h]; rfl
  · rw [if_neg h, decide_eq_false h]; rfl
theorem impl_sortTitle.isD_eq (b : Int) : impl_isDigit.f b = some (impl_sortTitle.isD b) := by
  unfold impl_isDigit.f impl_sortTitle.isD
  by_cases h : b ≥ 48
  · rw [if_pos h, decide_eq_true h]; rfl
  · rw [if_neg h, decide_eq_false h]; rfl
def impl_sortTitle.keep (b : Int) : Bool := impl_sortTitle.isL b || (impl_sortTitle.isD b || b == 32)
def impl_sortTitle.words (a0 : ByteArray) : Option (List ByteArray) := (impl_plainTitle.f a0).bind fun t => (impl_lower.f t).bind fun u => if u.size ≤ 1099511627776 then ((strings_Split.f (strOfNums ((bytesOf u).filter impl_sortTitle.keep)) ⟨#[32]⟩).bind fun ps => if ps ≠ [] ∧ ps.length ≤ 8796093022208 then some (ps.filter fun x => !impl_sortTitle.emp x) else none) else none
def impl_sortTitle.art (x : ByteArray) : Bool := (x.toList == ([97] : List UInt8)) || ((x.toList == ([97, 110] : List UInt8)) || (x.toList == ([116, 104, 101] : List UInt8)))
def impl_sortTitle.f (a0 : ByteArray) : Option (ByteArray) := (impl_sortTitle.words a0).bind fun ws => if 2 ≤ ws.length ∧ impl_sortTitle.art (rdOf ByteArray.empty ws 0) = true then strings_Join.f (ws.drop 1) ⟨#[32]⟩ else strings_Join.f ws ⟨#[32]⟩
theorem impl_sortTitle.drop_at (l : List Int) (j : Nat) (hj : j < l.length) : l.drop j = l.getD j 0 :: l.drop (j + 1) := by
  rw [List.drop_eq_getElem_cons hj]
  simp [List.getD, List.getElem?_eq_getElem hj]
set_option maxHeartbeats 16000000 in
set_option maxRecDepth 100000 in
theorem impl_sortTitle.calls (a0 : ByteArray) (r : ByteArray) (w : World) (henv : Go.Proofs.YtiofklnfpmphnaaDoorW.Envs.Env [0] w) (h : impl_sortTitle.f a0 = some r) :
    Calls Tryd.prog 36 #[.string a0] w fun e w' => e = .returned (.string r) ∧ Below w.heap.size w w' := by
  unfold impl_sortTitle.f at h
  obtain ⟨ws, hws, h⟩ := Option.bind_eq_some_iff.1 h
  unfold impl_sortTitle.words at hws
  obtain ⟨t, ht, hws⟩ := Option.bind_eq_some_iff.1 hws
  obtain ⟨u, hu, hws⟩ := Option.bind_eq_some_iff.1 hws
  by_cases hs : u.size ≤ 1099511627776
  · rw [if_pos hs] at hws
    obtain ⟨ps, hps, hws⟩ := Option.bind_eq_some_iff.1 hws
    by_cases hne : ps ≠ [] ∧ ps.length ≤ 8796093022208
    · rw [if_pos hne] at hws
      have hws := Option.some.inj hws
      have HT := Aside0.mk ht
      have HU := Aside0.mk hu
      have HNE := Aside0.mk hne
      have HWS := Aside0.mk hws
      have HH := Aside0.mk h
      have HENV := Aside0.mk henv
      have hwl : ws.length ≤ 8796093022208 := by rw [← hws]; exact Nat.le_trans (List.length_filter_le _ _) hne.2
      have HWL := Aside0.mk hwl
      have hlen := bytesOf_length u
      have HLEN := Aside0.mk hlen
      obtain ⟨F, hF⟩ : ∃ F, F = (bytesOf u).filter impl_sortTitle.keep := ⟨_, rfl⟩
      rw [← hF] at hps
      have HPS := Aside0.mk hps
      have HF := Aside0.mk hF
      clear ht hu hne hws h henv hwl hlen hps hF
      have hconv : ∀ W : World, (convert 9 22 (.string u)).run Tryd.prog W = .ok (.slice (some ⟨W.heap.size, 0, none⟩) u.size (grownCap W u.size 0 5)) (Lib.bytesWorld W 5 u) := fun W => Lib.run_convert_string_bytes W _ _ _ u Tryd.underlying9 Tryd.underlying22 Tryd.underlying5
      go_enter Tryd.func36, Tryd.ntmps36
      go_wp2_with (first | ((with_reducible refine gate_dst (N := 7) rfl ?_); refine Kd.R_lit (Kd.int .u8) _ 5 ?hg (N := 7) ?hd (xs := ([] : List Int)) (inner := []) (ok := fun _ => True) (okp := fun _ => True) ?hr ?hp (fun _ hk => hk) trivial (Below.refl _ _) (Nat.le_refl _) (by simp) ?_; (case hd => rfl); (case hg => rfl); (case hr => first | (go_simp; done) | (go_simp; rfl)); (case hp => exact (Reps.none _ _)); intro v0 w3 ho3 hb3 hg_ hnew_; have HO3 := Aside0.mk ho3; have HB3 := Aside0.mk hb3; clear ho3 hb3 hg_ hnew_) | (go_at_call 35; (with_reducible refine (impl_plainTitle.calls a0 t _ (HENV.out.below (by first | exact HB3.out | exact pw_below_drewN HB3.out _)) HT.out).mono ?_); rintro e w4 ⟨rfl, hb4⟩; have HB4 := Aside0.mk hb4; clear hb4) | (go_at_call 49; (with_reducible refine (impl_lower.calls t u _ HU.out).mono ?_); rintro e w5 ⟨rfl, hb5⟩; have HB5 := Aside0.mk hb5; clear hb5))
      clear hconv
      have hb4 : Below w.heap.size w w4 := below_then HB3.out HB3.out.size HB4.out
      have hb5 : Below w.heap.size w w5 := below_then hb4 hb4.size HB5.out
      have hsz5 : w3.heap.size ≤ w5.heap.size := Nat.le_trans HB4.out.size HB5.out.size
      have hb6 : Below w.heap.size w (Lib.bytesWorld w5 5 u) := below_then hb5 hb5.size (Go.Proofs.YtiofklnfpmphnaaDoorW.Buf.below_buf w5 5 u)
      have ho6 : Kd.R (Kd.int .u8) 5 (Lib.bytesWorld w5 5 u) w.heap.size (fun k => k ≠ w5.heap.size) v0 [] := Kd.R_below (Kd.R_below (Kd.R_below (Kd.R_mono (Kd.R_bound HO3.out) (fun k hk => by have := hk.2.2.1; omega)) HB4.out) HB5.out) (Go.Proofs.YtiofklnfpmphnaaDoorW.Buf.below_buf w5 5 u)
      have hf6 := Go.Proofs.YtiofklnfpmphnaaDoorW.Buf.buf_new w5 5 u
      have HB6 := Aside0.mk hb6
      have HO6 := Aside0.mk ho6
      have HF6 := Aside0.mk hf6
      clear hb4 hb5 hb6 ho6 hf6
      go_loopw [3, 13] (fun v3 v13 wr => ∃ (j : Nat) (out : List Int), j ≤ u.size ∧ v13 = .int .i64 j ∧ Aside0 (out ++ ((bytesOf u).drop j).filter impl_sortTitle.keep = F) ∧ Aside0 (out.length ≤ j) ∧ Aside0 (Kd.R (Kd.int .u8) 5 wr w.heap.size (fun k => k ≠ w5.heap.size) v3 out) ∧ Aside0 (Go.Proofs.YtiofklnfpmphnaaDoorW.Buf.Bf wr w5.heap.size 5 (bytesOf u)) ∧ Aside0 (Below w.heap.size w wr)) (fun _ v _ => u.size - (intOf v).toNat)
      case atStart => exact ⟨0, [], Nat.zero_le _, rfl, ⟨by rw [List.drop_zero, List.nil_append]; exact HF.out.symm⟩, ⟨by simp⟩, HO6, HF6, HB6⟩
      case round =>
        obtain ⟨j, out, hj, rfl, HFO, HLO, HO, HF5, HB⟩ := hrel
        obtain ⟨A3, c3, hv3⟩ := own_slice (Kd.own_of_R HO.out)
        subst hv3
        by_cases hlt : j < u.size
        · have hjl : j < (bytesOf u).length := by rw [HLEN.out]; exact hlt
          have hcell := Go.Proofs.YtiofklnfpmphnaaDoorW.Buf.Bf.cell HF5.out j hjl
          have hrng : 0 ≤ (bytesOf u).getD j 0 ∧ (bytesOf u).getD j 0 ≤ 255 := by
            have h := rd_bytesOf u (j : Int)
            unfold rd at h
            rw [Int.toNat_natCast] at h
            rw [h]
            exact bt_range u _
          have hdr := impl_sortTitle.drop_at (bytesOf u) j hjl
          have hfo := HFO.out
          rw [hdr, List.filter_cons] at hfo
          clear hdr HFO
          obtain ⟨b, hbdef⟩ : ∃ b, b = (bytesOf u).getD j 0 := ⟨_, rfl⟩
          rw [← hbdef] at hcell hrng hfo
          have HFO := Aside0.mk hfo
          clear hbdef hjl hfo
          have hb0 := hrng.1
          have hb1 := hrng.2
          clear hrng
          have hlo := HLO.out
          cases hL : impl_sortTitle.isL b with
          | true =>
            go_wp2_with (first | (go_at_call 50; (with_reducible refine (impl_isLower.calls b true _ ((impl_sortTitle.isL_eq b).trans (by rw [hL]))).mono ?_); rintro e w' ⟨rfl, ⟨nq, rfl⟩⟩) | ((with_reducible refine gate_builtin (b := .append) (xs := #[.tmp 27, .tmp 29]) rfl ?_); at_builtin; refine Kd.R_append (Kd.int .u8) (w0 := w) w.heap.size rfl (.tmp 27) (.tmp 29) 22 5 (.int .u8 0) 1 rfl Tryd.underlying22 info5 rfl (by decide) (by omega) (.slice A3 out.length c3) out b [.int .u8 b] (fun k => k ≠ w5.heap.size) (fun _ => False) rfl rfl ?aP (fun _ hk => hk.elim) ?aF ?aO ?aB ?aS ?aL ?_; (case aP => exact rfl); (case aB => exact (by repeat (first | (with_reducible first | exact HB.out | apply below_alloc | apply pw_below_drewN | apply below_drew1) | exact HB.out))); (case aF => exact (fun k hk => Nat.ne_of_gt (Nat.lt_of_lt_of_le (Go.Proofs.YtiofklnfpmphnaaDoorW.Buf.Bf.lt HF5.out) (by simpa using hk)))); (case aO => exact (by (with_reducible repeat (first | apply Kd.R_alloc | apply Kd.R_drewN | apply Kd.R_drew)); exact HO.out)); (case aS => exact (below_size (by repeat (first | (with_reducible first | exact HB.out | apply below_alloc | apply pw_below_drewN | apply below_drew1) | exact HB.out)))); (case aL => have := hlo; omega); intro v8 w8 ho hb hg hat; have n0_ := Aside0.mk hb; have n1_ := Aside0.mk ho; have n2_ := Aside0.mk (Go.Proofs.YtiofklnfpmphnaaDoorW.Buf.Bf.grown (by first | exact HF5.out | (repeat (first | exact HF5.out | apply Go.Proofs.YtiofklnfpmphnaaDoorW.Buf.Bf.alloc | apply Go.Proofs.YtiofklnfpmphnaaDoorW.Buf.Bf.drewN | apply Go.Proofs.YtiofklnfpmphnaaDoorW.Buf.Bf.drew))) hg (fun e => (HO.out.1 w5.heap.size e.symm) rfl)); clear HB HF5; have HB := n0_; have HOv8 := n1_; have HF5 := n2_; clear n0_ n1_ n2_ ho hb hg hat))
            refine ⟨⟨j + 1, out ++ [b], by omega, by go_num, ⟨by have hf := HFO.out; rw [show impl_sortTitle.keep b = true from by unfold impl_sortTitle.keep; rw [hL]; rfl, if_pos rfl] at hf; rw [List.append_assoc, List.singleton_append]; exact hf⟩, ⟨by rw [List.length_append]; simp; omega⟩, ⟨by (with_reducible repeat (first | apply Kd.R_alloc | apply Kd.R_drewN | apply Kd.R_drew)); exact HOv8.out⟩, ⟨by repeat (first | exact HF5.out | apply Go.Proofs.YtiofklnfpmphnaaDoorW.Buf.Bf.alloc | apply Go.Proofs.YtiofklnfpmphnaaDoorW.Buf.Bf.drewN | apply Go.Proofs.YtiofklnfpmphnaaDoorW.Buf.Bf.drew)⟩, ⟨by repeat (first | (with_reducible first | exact HB.out | apply below_alloc | apply pw_below_drewN | apply below_drew1) | exact HB.out)⟩⟩, by simp [intOf]; omega⟩
          | false =>
            cases hD : impl_sortTitle.isD b with
            | true =>
              go_wp2_with (first | (go_at_call 50; (with_reducible refine (impl_isLower.calls b false _ ((impl_sortTitle.isL_eq b).trans (by rw [hL]))).mono ?_); rintro e w' ⟨rfl, ⟨nq, rfl⟩⟩) | (go_at_call 51; (with_reducible refine (impl_isDigit.calls b true _ ((impl_sortTitle.isD_eq b).trans (by rw [hD]))).mono ?_); rintro e w' ⟨rfl, ⟨nq2, rfl⟩⟩) | ((with_reducible refine gate_builtin (b := .append) (xs := #[.tmp 27, .tmp 29]) rfl ?_); at_builtin; refine Kd.R_append (Kd.int .u8) (w0 := w) w.heap.size rfl (.tmp 27) (.tmp 29) 22 5 (.int .u8 0) 1 rfl Tryd.underlying22 info5 rfl (by decide) (by omega) (.slice A3 out.length c3) out b [.int .u8 b] (fun k => k ≠ w5.heap.size) (fun _ => False) rfl rfl ?aP (fun _ hk => hk.elim) ?aF ?aO ?aB ?aS ?aL ?_; (case aP => exact rfl); (case aB => exact (by repeat (first | (with_reducible first | exact HB.out | apply below_alloc | apply pw_below_drewN | apply below_drew1) | exact HB.out))); (case aF => exact (fun k hk => Nat.ne_of_gt (Nat.lt_of_lt_of_le (Go.Proofs.YtiofklnfpmphnaaDoorW.Buf.Bf.lt HF5.out) (by simpa using hk)))); (case aO => exact (by (with_reducible repeat (first | apply Kd.R_alloc | apply Kd.R_drewN | apply Kd.R_drew)); exact HO.out)); (case aS => exact (below_size (by repeat (first | (with_reducible first | exact HB.out | apply below_alloc | apply pw_below_drewN | apply below_drew1) | exact HB.out)))); (case aL => have := hlo; omega); intro v8 w8 ho hb hg hat; have n0_ := Aside0.mk hb; have n1_ := Aside0.mk ho; have n2_ := Aside0.mk (Go.Proofs.YtiofklnfpmphnaaDoorW.Buf.Bf.grown (by first | exact HF5.out | (repeat (first | exact HF5.out | apply Go.Proofs.YtiofklnfpmphnaaDoorW.Buf.Bf.alloc | apply Go.Proofs.YtiofklnfpmphnaaDoorW.Buf.Bf.drewN | apply Go.Proofs.YtiofklnfpmphnaaDoorW.Buf.Bf.drew))) hg (fun e => (HO.out.1 w5.heap.size e.symm) rfl)); clear HB HF5; have HB := n0_; have HOv8 := n1_; have HF5 := n2_; clear n0_ n1_ n2_ ho hb hg hat))
              refine ⟨⟨j + 1, out ++ [b], by omega, by go_num, ⟨by have hf := HFO.out; rw [show impl_sortTitle.keep b = true from by unfold impl_sortTitle.keep; rw [hL, hD]; rfl, if_pos rfl] at hf; rw [List.append_assoc, List.singleton_append]; exact hf⟩, ⟨by rw [List.length_append]; simp; omega⟩, ⟨by (with_reducible repeat (first | apply Kd.R_alloc | apply Kd.R_drewN | apply Kd.R_drew)); exact HOv8.out⟩, ⟨by repeat (first | exact HF5.out | apply Go.Proofs.YtiofklnfpmphnaaDoorW.Buf.Bf.alloc | apply Go.Proofs.YtiofklnfpmphnaaDoorW.Buf.Bf.drewN | apply Go.Proofs.YtiofklnfpmphnaaDoorW.Buf.Bf.drew)⟩, ⟨by repeat (first | (with_reducible first | exact HB.out | apply below_alloc | apply pw_below_drewN | apply below_drew1) | exact HB.out)⟩⟩, by simp [intOf]; omega⟩
            | false =>
              cases h32 : (b == 32) with
              | true =>
                go_wp2_with (first | (go_at_call 50; (with_reducible refine (impl_isLower.calls b false _ ((impl_sortTitle.isL_eq b).trans (by rw [hL]))).mono ?_); rintro e w' ⟨rfl, ⟨nq, rfl⟩⟩) | (go_at_call 51; (with_reducible refine (impl_isDigit.calls b false _ ((impl_sortTitle.isD_eq b).trans (by rw [hD]))).mono ?_); rintro e w' ⟨rfl, ⟨nq2, rfl⟩⟩) | ((with_reducible refine gate_builtin (b := .append) (xs := #[.tmp 27, .tmp 29]) rfl ?_); at_builtin; refine Kd.R_append (Kd.int .u8) (w0 := w) w.heap.size rfl (.tmp 27) (.tmp 29) 22 5 (.int .u8 0) 1 rfl Tryd.underlying22 info5 rfl (by decide) (by omega) (.slice A3 out.length c3) out b [.int .u8 b] (fun k => k ≠ w5.heap.size) (fun _ => False) rfl rfl ?aP (fun _ hk => hk.elim) ?aF ?aO ?aB ?aS ?aL ?_; (case aP => exact rfl); (case aB => exact (by repeat (first | (with_reducible first | exact HB.out | apply below_alloc | apply pw_below_drewN | apply below_drew1) | exact HB.out))); (case aF => exact (fun k hk => Nat.ne_of_gt (Nat.lt_of_lt_of_le (Go.Proofs.YtiofklnfpmphnaaDoorW.Buf.Bf.lt HF5.out) (by simpa using hk)))); (case aO => exact (by (with_reducible repeat (first | apply Kd.R_alloc | apply Kd.R_drewN | apply Kd.R_drew)); exact HO.out)); (case aS => exact (below_size (by repeat (first | (with_reducible first | exact HB.out | apply below_alloc | apply pw_below_drewN | apply below_drew1) | exact HB.out)))); (case aL => have := hlo; omega); intro v8 w8 ho hb hg hat; have n0_ := Aside0.mk hb; have n1_ := Aside0.mk ho; have n2_ := Aside0.mk (Go.Proofs.YtiofklnfpmphnaaDoorW.Buf.Bf.grown (by first | exact HF5.out | (repeat (first | exact HF5.out | apply Go.Proofs.YtiofklnfpmphnaaDoorW.Buf.Bf.alloc | apply Go.Proofs.YtiofklnfpmphnaaDoorW.Buf.Bf.drewN | apply Go.Proofs.YtiofklnfpmphnaaDoorW.Buf.Bf.drew))) hg (fun e => (HO.out.1 w5.heap.size e.symm) rfl)); clear HB HF5; have HB := n0_; have HOv8 := n1_; have HF5 := n2_; clear n0_ n1_ n2_ ho hb hg hat))
                refine ⟨⟨j + 1, out ++ [b], by omega, by go_num, ⟨by have hf := HFO.out; rw [show impl_sortTitle.keep b = true from by unfold impl_sortTitle.keep; rw [hL, hD, h32]; rfl, if_pos rfl] at hf; rw [List.append_assoc, List.singleton_append]; exact hf⟩, ⟨by rw [List.length_append]; simp; omega⟩, ⟨by (with_reducible repeat (first | apply Kd.R_alloc | apply Kd.R_drewN | apply Kd.R_drew)); exact HOv8.out⟩, ⟨by repeat (first | exact HF5.out | apply Go.Proofs.YtiofklnfpmphnaaDoorW.Buf.Bf.alloc | apply Go.Proofs.YtiofklnfpmphnaaDoorW.Buf.Bf.drewN | apply Go.Proofs.YtiofklnfpmphnaaDoorW.Buf.Bf.drew)⟩, ⟨by repeat (first | (with_reducible first | exact HB.out | apply below_alloc | apply pw_below_drewN | apply below_drew1) | exact HB.out)⟩⟩, by simp [intOf]; omega⟩
              | false =>
                go_wp2_with (first | (go_at_call 50; (with_reducible refine (impl_isLower.calls b false _ ((impl_sortTitle.isL_eq b).trans (by rw [hL]))).mono ?_); rintro e w' ⟨rfl, ⟨nq, rfl⟩⟩) | (go_at_call 51; (with_reducible refine (impl_isDigit.calls b false _ ((impl_sortTitle.isD_eq b).trans (by rw [hD]))).mono ?_); rintro e w' ⟨rfl, ⟨nq2, rfl⟩⟩))
                refine ⟨⟨j + 1, out, by omega, by go_num, ⟨by have hf := HFO.out; rw [show impl_sortTitle.keep b = false from by unfold impl_sortTitle.keep; rw [hL, hD, h32]; rfl, if_neg (by decide)] at hf; exact hf⟩, ⟨by omega⟩, ⟨by (with_reducible repeat (first | apply Kd.R_alloc | apply Kd.R_drewN | apply Kd.R_drew)); exact HO.out⟩, ⟨by repeat (first | exact HF5.out | apply Go.Proofs.YtiofklnfpmphnaaDoorW.Buf.Bf.alloc | apply Go.Proofs.YtiofklnfpmphnaaDoorW.Buf.Bf.drewN | apply Go.Proofs.YtiofklnfpmphnaaDoorW.Buf.Bf.drew)⟩, ⟨by repeat (first | (with_reducible first | exact HB.out | apply below_alloc | apply pw_below_drewN | apply below_drew1) | exact HB.out)⟩⟩, by simp [intOf]; omega⟩
        · obtain rfl : j = u.size := by omega
          have hfo := HFO.out
          rw [List.drop_of_length_le (by rw [HLEN.out]; exact Nat.le_refl _), List.filter_nil, List.append_nil] at hfo
          subst hfo
          have hback := own_string (P := Tryd.prog) Tryd.underlying22 Tryd.underlying5 Tryd.underlying9 (Kd.own_of_R HO.out)
          have hw2 := HWL.out
          have hszr := HB.out.size
          by_cases c2 : 2 ≤ ws.length
          · have c2b : decide ((ws.length : Int) ≥ 2) = true := decide_eq_true (by omega)
            have c2c : decide (2 ≤ (ws.length : Int)) = true := decide_eq_true (by omega)
            have c2d : decide (0 < (ws.length : Int)) = true := decide_eq_true (by omega)
            have c2e : (0 < ws.length) = True := eq_true (by omega)
            have c2f : decide (2 ≤ ws.length) = true := decide_eq_true (by omega)
            have HR0 := HH.out
            cases a1 : ((rdOf ByteArray.empty ws 0).toList == ([97] : List UInt8)) with
            | true =>
              obtain ⟨wd, hwd⟩ : ∃ wd, wd = ws.drop 1 := ⟨_, rfl⟩
              have HWD := Aside0.mk hwd
              have HR : Aside0 (strings_Join.f wd ⟨#[32]⟩ = some r) := ⟨by rw [hwd]; rw [if_pos ⟨c2, by unfold impl_sortTitle.art; rw [a1]; rfl⟩] at HR0; exact HR0⟩
              clear HR0 hwd
              go_wp2_with (first | (go_at_call 53; (with_reducible refine (strings_Split.calls (strOfNums out) _ ps _ (HENV.out.below (by repeat (first | (with_reducible first | exact HB.out | apply below_alloc | apply pw_below_drewN | apply below_drew1) | exact HB.out))) HPS.out).mono ?_); rintro e w6 ⟨v6, rfl, ho6, hb6⟩; have HO6_ := Aside0.mk ho6; have n0_ := Aside0.mk (below_step (by repeat (first | (with_reducible first | exact HB.out | apply below_alloc | apply pw_below_drewN | apply below_drew1) | exact HB.out)) hb6); clear HB; have HB := n0_; clear n0_ ho6 hb6) | (go_at_call 52; (refine (impl_sortTitle.del ps HNE.out.1 (Nat.le_trans HNE.out.2 (by decide)) v6 _ _ _ (by (with_reducible repeat (first | apply Kd.R_alloc | apply Kd.R_drewN | apply Kd.R_drew)); exact HO6_.out)).mono ?_); rw [HWS.out]; rintro e w7 ⟨A7, c7, rfl, hlc, hC, hb7⟩; have HC7 := Aside0.mk hC; have HLC := Aside0.mk hlc; have n0_ := Aside0.mk (Below.trans (by repeat (first | (with_reducible first | exact HB.out | apply below_alloc | apply pw_below_drewN | apply below_drew1) | exact HB.out)) (hb7.mono hszr)); clear HB; have HB := n0_; clear n0_ hC hlc hb7; obtain ⟨ad7, e7, hx7⟩ := Kd.at_string HC7.out 0 (by omega) (by omega); cases e7; (try rw [show ((0 : Int)).toNat = 0 from rfl] at hx7); (try rw [Addr.add_zero'] at hx7); obtain ⟨i01, hi01, _, hsz1, _⟩ := info_parts info9; have hcut := cut_from (P := Tryd.prog) 26 9 .i64 Tryd.underlying26 hi01 1 hsz1 (some ad7) ws.length c7 1 (by omega) (show (1 : Int) ≤ (ws.length : Int) from by omega); have hdr := Kd.C_drop (m := (1 : Int).toNat) (c := c7) HC7.out (by omega) HLC.out; obtain ⟨A10, hA10⟩ : ∃ A1, A1 = (if c7 = (1 : Int).toNat then (some ad7) else ((some ad7) : Option Addr).map (·.add ((1 : Int).toNat * 1))) := ⟨_, rfl⟩; obtain ⟨c10, hc10⟩ : ∃ c1, c1 = c7 - (1 : Int).toNat := ⟨_, rfl⟩; have hy10 : wd.length = ws.length - (1 : Int).toNat := (by rw [HWD.out]; exact List.length_drop); rw [← hy10, ← hA10, ← hc10] at hcut; have HD10 := Aside0.mk (show Kd.C Kd.string _ A10 wd.length wd from by rw [hA10, HWD.out]; exact hdr); have HL10 : Aside0 (wd.length ≤ c10) := ⟨by have := HLC.out; rw [hc10, hy10]; omega⟩; clear hdr hA10 hc10 hy10 hi01 hsz1) | (go_at_call 29; (with_reducible refine (strings_Join.calls _ _ wd _ r _ ?side1 ?side2 HR.out).mono ?_); (case side1 => repeat (first | exact HD10.out | (with_reducible refine Kd.C_alloc ?_ _) | (with_reducible refine Kd.C_drewN ?_ _) | (with_reducible refine Kd.C_drew ?_))); (case side2 => exact HL10.out); rintro e w9 ⟨rfl, hb9⟩; have n0_ := Aside0.mk (below_step (by repeat (first | (with_reducible first | exact HB.out | apply below_alloc | apply pw_below_drewN | apply below_drew1) | exact HB.out)) hb9); clear HB; have HB := n0_; clear n0_ hb9))
              go_ret
              exact ⟨rfl, (by repeat (first | (with_reducible first | exact HB.out | apply below_alloc | apply pw_below_drewN | apply below_drew1) | exact HB.out))⟩
            | false =>
              cases a2 : ((rdOf ByteArray.empty ws 0).toList == ([97, 110] : List UInt8)) with
              | true =>
                obtain ⟨wd, hwd⟩ : ∃ wd, wd = ws.drop 1 := ⟨_, rfl⟩
                have HWD := Aside0.mk hwd
                have HR : Aside0 (strings_Join.f wd ⟨#[32]⟩ = some r) := ⟨by rw [hwd]; rw [if_pos ⟨c2, by unfold impl_sortTitle.art; rw [a1, a2]; rfl⟩] at HR0; exact HR0⟩
                clear HR0 hwd
                go_wp2_with (first | (go_at_call 53; (with_reducible refine (strings_Split.calls (strOfNums out) _ ps _ (HENV.out.below (by repeat (first | (with_reducible first | exact HB.out | apply below_alloc | apply pw_below_drewN | apply below_drew1) | exact HB.out))) HPS.out).mono ?_); rintro e w6 ⟨v6, rfl, ho6, hb6⟩; have HO6_ := Aside0.mk ho6; have n0_ := Aside0.mk (below_step (by repeat (first | (with_reducible first | exact HB.out | apply below_alloc | apply pw_below_drewN | apply below_drew1) | exact HB.out)) hb6); clear HB; have HB := n0_; clear n0_ ho6 hb6) | (go_at_call 52; (refine (impl_sortTitle.del ps HNE.out.1 (Nat.le_trans HNE.out.2 (by decide)) v6 _ _ _ (by (with_reducible repeat (first | apply Kd.R_alloc | apply Kd.R_drewN | apply Kd.R_drew)); exact HO6_.out)).mono ?_); rw [HWS.out]; rintro e w7 ⟨A7, c7, rfl, hlc, hC, hb7⟩; have HC7 := Aside0.mk hC; have HLC := Aside0.mk hlc; have n0_ := Aside0.mk (Below.trans (by repeat (first | (with_reducible first | exact HB.out | apply below_alloc | apply pw_below_drewN | apply below_drew1) | exact HB.out)) (hb7.mono hszr)); clear HB; have HB := n0_; clear n0_ hC hlc hb7; obtain ⟨ad7, e7, hx7⟩ := Kd.at_string HC7.out 0 (by omega) (by omega); cases e7; (try rw [show ((0 : Int)).toNat = 0 from rfl] at hx7); (try rw [Addr.add_zero'] at hx7); obtain ⟨i01, hi01, _, hsz1, _⟩ := info_parts info9; have hcut := cut_from (P := Tryd.prog) 26 9 .i64 Tryd.underlying26 hi01 1 hsz1 (some ad7) ws.length c7 1 (by omega) (show (1 : Int) ≤ (ws.length : Int) from by omega); have hdr := Kd.C_drop (m := (1 : Int).toNat) (c := c7) HC7.out (by omega) HLC.out; obtain ⟨A10, hA10⟩ : ∃ A1, A1 = (if c7 = (1 : Int).toNat then (some ad7) else ((some ad7) : Option Addr).map (·.add ((1 : Int).toNat * 1))) := ⟨_, rfl⟩; obtain ⟨c10, hc10⟩ : ∃ c1, c1 = c7 - (1 : Int).toNat := ⟨_, rfl⟩; have hy10 : wd.length = ws.length - (1 : Int).toNat := (by rw [HWD.out]; exact List.length_drop); rw [← hy10, ← hA10, ← hc10] at hcut; have HD10 := Aside0.mk (show Kd.C Kd.string _ A10 wd.length wd from by rw [hA10, HWD.out]; exact hdr); have HL10 : Aside0 (wd.length ≤ c10) := ⟨by have := HLC.out; rw [hc10, hy10]; omega⟩; clear hdr hA10 hc10 hy10 hi01 hsz1) | (go_at_call 29; (with_reducible refine (strings_Join.calls _ _ wd _ r _ ?side1 ?side2 HR.out).mono ?_); (case side1 => repeat (first | exact HD10.out | (with_reducible refine Kd.C_alloc ?_ _) | (with_reducible refine Kd.C_drewN ?_ _) | (with_reducible refine Kd.C_drew ?_))); (case side2 => exact HL10.out); rintro e w9 ⟨rfl, hb9⟩; have n0_ := Aside0.mk (below_step (by repeat (first | (with_reducible first | exact HB.out | apply below_alloc | apply pw_below_drewN | apply below_drew1) | exact HB.out)) hb9); clear HB; have HB := n0_; clear n0_ hb9))
                go_ret
                exact ⟨rfl, (by repeat (first | (with_reducible first | exact HB.out | apply below_alloc | apply pw_below_drewN | apply below_drew1) | exact HB.out))⟩
              | false =>
                cases a3 : ((rdOf ByteArray.empty ws 0).toList == ([116, 104, 101] : List UInt8)) with
                | true =>
                  obtain ⟨wd, hwd⟩ : ∃ wd, wd = ws.drop 1 := ⟨_, rfl⟩
                  have HWD := Aside0.mk hwd
                  have HR : Aside0 (strings_Join.f wd ⟨#[32]⟩ = some r) := ⟨by rw [hwd]; rw [if_pos ⟨c2, by unfold impl_sortTitle.art; rw [a1, a2, a3]; rfl⟩] at HR0; exact HR0⟩
                  clear HR0 hwd
                  go_wp2_with (first | (go_at_call 53; (with_reducible refine (strings_Split.calls (strOfNums out) _ ps _ (HENV.out.below (by repeat (first | (with_reducible first | exact HB.out | apply below_alloc | apply pw_below_drewN | apply below_drew1) | exact HB.out))) HPS.out).mono ?_); rintro e w6 ⟨v6, rfl, ho6, hb6⟩; have HO6_ := Aside0.mk ho6; have n0_ := Aside0.mk (below_step (by repeat (first | (with_reducible first | exact HB.out | apply below_alloc | apply pw_below_drewN | apply below_drew1) | exact HB.out)) hb6); clear HB; have HB := n0_; clear n0_ ho6 hb6) | (go_at_call 52; (refine (impl_sortTitle.del ps HNE.out.1 (Nat.le_trans HNE.out.2 (by decide)) v6 _ _ _ (by (with_reducible repeat (first | apply Kd.R_alloc | apply Kd.R_drewN | apply Kd.R_drew)); exact HO6_.out)).mono ?_); rw [HWS.out]; rintro e w7 ⟨A7, c7, rfl, hlc, hC, hb7⟩; have HC7 := Aside0.mk hC; have HLC := Aside0.mk hlc; have n0_ := Aside0.mk (Below.trans (by repeat (first | (with_reducible first | exact HB.out | apply below_alloc | apply pw_below_drewN | apply below_drew1) | exact HB.out)) (hb7.mono hszr)); clear HB; have HB := n0_; clear n0_ hC hlc hb7; obtain ⟨ad7, e7, hx7⟩ := Kd.at_string HC7.out 0 (by omega) (by omega); cases e7; (try rw [show ((0 : Int)).toNat = 0 from rfl] at hx7); (try rw [Addr.add_zero'] at hx7); obtain ⟨i01, hi01, _, hsz1, _⟩ := info_parts info9; have hcut := cut_from (P := Tryd.prog) 26 9 .i64 Tryd.underlying26 hi01 1 hsz1 (some ad7) ws.length c7 1 (by omega) (show (1 : Int) ≤ (ws.length : Int) from by omega); have hdr := Kd.C_drop (m := (1 : Int).toNat) (c := c7) HC7.out (by omega) HLC.out; obtain ⟨A10, hA10⟩ : ∃ A1, A1 = (if c7 = (1 : Int).toNat then (some ad7) else ((some ad7) : Option Addr).map (·.add ((1 : Int).toNat * 1))) := ⟨_, rfl⟩; obtain ⟨c10, hc10⟩ : ∃ c1, c1 = c7 - (1 : Int).toNat := ⟨_, rfl⟩; have hy10 : wd.length = ws.length - (1 : Int).toNat := (by rw [HWD.out]; exact List.length_drop); rw [← hy10, ← hA10, ← hc10] at hcut; have HD10 := Aside0.mk (show Kd.C Kd.string _ A10 wd.length wd from by rw [hA10, HWD.out]; exact hdr); have HL10 : Aside0 (wd.length ≤ c10) := ⟨by have := HLC.out; rw [hc10, hy10]; omega⟩; clear hdr hA10 hc10 hy10 hi01 hsz1) | (go_at_call 29; (with_reducible refine (strings_Join.calls _ _ wd _ r _ ?side1 ?side2 HR.out).mono ?_); (case side1 => repeat (first | exact HD10.out | (with_reducible refine Kd.C_alloc ?_ _) | (with_reducible refine Kd.C_drewN ?_ _) | (with_reducible refine Kd.C_drew ?_))); (case side2 => exact HL10.out); rintro e w9 ⟨rfl, hb9⟩; have n0_ := Aside0.mk (below_step (by repeat (first | (with_reducible first | exact HB.out | apply below_alloc | apply pw_below_drewN | apply below_drew1) | exact HB.out)) hb9); clear HB; have HB := n0_; clear n0_ hb9))
                  go_ret
                  exact ⟨rfl, (by repeat (first | (with_reducible first | exact HB.out | apply below_alloc | apply pw_below_drewN | apply below_drew1) | exact HB.out))⟩
                | false =>
                  have HR : Aside0 (strings_Join.f ws ⟨#[32]⟩ = some r) := ⟨by rw [if_neg (fun hh => by have := hh.2; unfold impl_sortTitle.art at this; rw [a1, a2, a3] at this; cases this)] at HR0; exact HR0⟩
                  clear HR0
                  go_wp2_with (first | (go_at_call 53; (with_reducible refine (strings_Split.calls (strOfNums out) _ ps _ (HENV.out.below (by repeat (first | (with_reducible first | exact HB.out | apply below_alloc | apply pw_below_drewN | apply below_drew1) | exact HB.out))) HPS.out).mono ?_); rintro e w6 ⟨v6, rfl, ho6, hb6⟩; have HO6_ := Aside0.mk ho6; have n0_ := Aside0.mk (below_step (by repeat (first | (with_reducible first | exact HB.out | apply below_alloc | apply pw_below_drewN | apply below_drew1) | exact HB.out)) hb6); clear HB; have HB := n0_; clear n0_ ho6 hb6) | (go_at_call 52; (refine (impl_sortTitle.del ps HNE.out.1 (Nat.le_trans HNE.out.2 (by decide)) v6 _ _ _ (by (with_reducible repeat (first | apply Kd.R_alloc | apply Kd.R_drewN | apply Kd.R_drew)); exact HO6_.out)).mono ?_); rw [HWS.out]; rintro e w7 ⟨A7, c7, rfl, hlc, hC, hb7⟩; have HC7 := Aside0.mk hC; have HLC := Aside0.mk hlc; have n0_ := Aside0.mk (Below.trans (by repeat (first | (with_reducible first | exact HB.out | apply below_alloc | apply pw_below_drewN | apply below_drew1) | exact HB.out)) (hb7.mono hszr)); clear HB; have HB := n0_; clear n0_ hC hlc hb7; obtain ⟨ad7, e7, hx7⟩ := Kd.at_string HC7.out 0 (by omega) (by omega); cases e7; (try rw [show ((0 : Int)).toNat = 0 from rfl] at hx7); (try rw [Addr.add_zero'] at hx7)) | (go_at_call 29; (with_reducible refine (strings_Join.calls _ _ ws _ r _ ?side1 ?side2 HR.out).mono ?_); (case side1 => repeat (first | exact HC7.out | (with_reducible refine Kd.C_alloc ?_ _) | (with_reducible refine Kd.C_drewN ?_ _) | (with_reducible refine Kd.C_drew ?_))); (case side2 => exact HLC.out); rintro e w9 ⟨rfl, hb9⟩; have n0_ := Aside0.mk (below_step (by repeat (first | (with_reducible first | exact HB.out | apply below_alloc | apply pw_below_drewN | apply below_drew1) | exact HB.out)) hb9); clear HB; have HB := n0_; clear n0_ hb9))
                  go_ret
                  exact ⟨rfl, (by repeat (first | (with_reducible first | exact HB.out | apply below_alloc | apply pw_below_drewN | apply below_drew1) | exact HB.out))⟩
          · have c2b : decide ((ws.length : Int) ≥ 2) = false := decide_eq_false (by omega)
            have c2c : decide (2 ≤ (ws.length : Int)) = false := decide_eq_false (by omega)
            have c2f : decide (2 ≤ ws.length) = false := decide_eq_false (by omega)
            have HR0 := HH.out
            have HR : Aside0 (strings_Join.f ws ⟨#[32]⟩ = some r) := ⟨by rw [if_neg (fun hh => c2 hh.1)] at HR0; exact HR0⟩
            clear HR0
            go_wp2_with (first | (go_at_call 53; (with_reducible refine (strings_Split.calls (strOfNums out) _ ps _ (HENV.out.below (by repeat (first | (with_reducible first | exact HB.out | apply below_alloc | apply pw_below_drewN | apply below_drew1) | exact HB.out))) HPS.out).mono ?_); rintro e w6 ⟨v6, rfl, ho6, hb6⟩; have HO6_ := Aside0.mk ho6; have n0_ := Aside0.mk (below_step (by repeat (first | (with_reducible first | exact HB.out | apply below_alloc | apply pw_below_drewN | apply below_drew1) | exact HB.out)) hb6); clear HB; have HB := n0_; clear n0_ ho6 hb6) | (go_at_call 52; (refine (impl_sortTitle.del ps HNE.out.1 (Nat.le_trans HNE.out.2 (by decide)) v6 _ _ _ (by (with_reducible repeat (first | apply Kd.R_alloc | apply Kd.R_drewN | apply Kd.R_drew)); exact HO6_.out)).mono ?_); rw [HWS.out]; rintro e w7 ⟨A7, c7, rfl, hlc, hC, hb7⟩; have HC7 := Aside0.mk hC; have HLC := Aside0.mk hlc; have n0_ := Aside0.mk (Below.trans (by repeat (first | (with_reducible first | exact HB.out | apply below_alloc | apply pw_below_drewN | apply below_drew1) | exact HB.out)) (hb7.mono hszr)); clear HB; have HB := n0_; clear n0_ hC hlc hb7) | (go_at_call 29; (with_reducible refine (strings_Join.calls _ _ ws _ r _ ?side1 ?side2 HR.out).mono ?_); (case side1 => repeat (first | exact HC7.out | (with_reducible refine Kd.C_alloc ?_ _) | (with_reducible refine Kd.C_drewN ?_ _) | (with_reducible refine Kd.C_drew ?_))); (case side2 => exact HLC.out); rintro e w9 ⟨rfl, hb9⟩; have n0_ := Aside0.mk (below_step (by repeat (first | (with_reducible first | exact HB.out | apply below_alloc | apply pw_below_drewN | apply below_drew1) | exact HB.out)) hb9); clear HB; have HB := n0_; clear n0_ hb9))
            go_ret
            exact ⟨rfl, (by repeat (first | (with_reducible first | exact HB.out | apply below_alloc | apply pw_below_drewN | apply below_drew1) | exact HB.out))⟩
    · rw [if_neg hne] at hws
      cases hws
  · rw [if_neg hs] at hws
    cases hws

/-! ### impl_SortTitle: function 16 -/
def impl_SortTitle.f (k : Nat) (a0 : ByteArray) : Option (ByteArray × Bool) := (impl_IsValidTitle.f k a0).bind fun t294 => (if t294 = true then ((impl_sortTitle.f a0).bind fun t295 => (some (t295, true))) else (some ((⟨#[]⟩ : ByteArray), false)))
theorem impl_SortTitle.mono : ∀ a0 k, LeO (impl_SortTitle.f k a0) (impl_SortTitle.f (k + 1) a0) := by
 intro a0 k
 unfold impl_SortTitle.f
 repeat' first
   | (with_reducible exact impl_IsValidTitle.mono _ _)
   | (with_reducible exact LeO.refl _)
   | (with_reducible exact LeO.none _)
   | (with_reducible refine LeO.ite ?_ ?_)
   | (with_reducible refine LeO.bind ?_ (fun _ => ?_))
   | exact impl_IsValidTitle.mono _ _
   | exact LeO.none _
   | refine LeO.ite ?_ ?_
   | refine LeO.bind ?_ (fun _ => ?_)
set_option maxHeartbeats 8000000 in
set_option maxRecDepth 100000 in
theorem impl_SortTitle.calls (k : Nat) (a0 : ByteArray) (r1 : ByteArray) (r2 : Bool) (w : World) (henv : Go.Proofs.YtiofklnfpmphnaaDoorW.Envs.Env [0] w) (h : impl_SortTitle.f k a0 = some (r1, r2)) :
  Calls Tryd.prog 16 #[.string a0] w fun e w' => e = .returned (.tuple #[.string r1, .bool r2]) ∧ Below w.heap.size w w' := by
 have HB := Aside0.mk (Below.refl w.heap.size w)
 have HENV := Aside0.mk henv
 clear henv
 have H : ((impl_IsValidTitle.f k a0).bind fun t294 => (if t294 = true then ((impl_sortTitle.f a0).bind fun t295 => (some (t295, true))) else (some ((⟨#[]⟩ : ByteArray), false)))) = some (r1, r2) := h
 clear h
 replace H := Option.bind_eq_some_iff.mp H
 obtain ⟨t294, A20, H⟩ := H
 replace H : (if t294 = true then ((impl_sortTitle.f a0).bind fun t295 => (some (t295, true))) else (some ((⟨#[]⟩ : ByteArray), false))) = some (r1, r2) := H
 have A2 := Aside0.mk A20
 clear A20
 by_cases c3 : t294 = true
 ·subst c3
  have H1 : ((impl_sortTitle.f a0).bind fun t295 => (some (t295, true))) = some (r1, r2) := by rw [if_pos rfl] at H; exact H
  clear H
  have H := H1
  clear H1
  replace H := Option.bind_eq_some_iff.mp H
  obtain ⟨t295, A40, H⟩ := H
  replace H : (some (t295, true)) = some (r1, r2) := H
  have A4 := Aside0.mk A40
  clear A40
  simp only [Option.some.injEq, Prod.mk.injEq] at H
  obtain ⟨rfl, rfl⟩ := H
  go_enter Tryd.func16, Tryd.ntmps16
  go_wp2_with (first | ((with_reducible refine gate_callee (f := 21) rfl ?_); refine goesL_ (some 5) rfl rfl Tryd.func21 (by kernel_rfl) rfl #[.string a0] rfl (by (try simp only [List.map_toArray, List.map_cons, List.map_nil]); first | done | rfl | (simp only [List.length_drop, List.length_take]; rfl)) ?_; (with_reducible refine (impl_IsValidTitle.calls k a0 true _ ?side1 A2.out).mono ?_); (case side1 => exact Go.Proofs.YtiofklnfpmphnaaDoorW.Envs.Env.below HENV.out (by repeat (first | (with_reducible first | exact HB.out | apply below_alloc | apply pw_below_drewN | apply below_drew1) | exact HB.out))); rintro e w5 ⟨rfl, hb⟩; refine ⟨_, rfl, ?_⟩; have n0_ := Aside0.mk (below_step (by repeat (first | (with_reducible first | exact HB.out | apply below_alloc | apply pw_below_drewN | apply below_drew1) | exact HB.out)) hb); clear HB; have HB := n0_; clear n0_; (try clear hb); (try clear hb2); (try clear hk); (try clear hi)) | ((with_reducible refine gate_callee (f := 36) rfl ?_); refine goesL_ (some 8) rfl rfl Tryd.func36 (by kernel_rfl) rfl #[.string a0] rfl (by (try simp only [List.map_toArray, List.map_cons, List.map_nil]); first | done | rfl | (simp only [List.length_drop, List.length_take]; rfl)) ?_; (with_reducible refine (impl_sortTitle.calls a0 t295 _ ?side1 A4.out).mono ?_); (case side1 => exact Go.Proofs.YtiofklnfpmphnaaDoorW.Envs.Env.below HENV.out (by repeat (first | (with_reducible first | exact HB.out | apply below_alloc | apply pw_below_drewN | apply below_drew1) | exact HB.out))); rintro e w6 ⟨rfl, hb⟩; refine ⟨_, rfl, ?_⟩; have n0_ := Aside0.mk (below_step (by repeat (first | (with_reducible first | exact HB.out | apply below_alloc | apply pw_below_drewN | apply below_drew1) | exact HB.out)) hb); clear HB; have HB := n0_; clear n0_; (try clear hb); (try clear hb2); (try clear hk); (try clear hi)))
  go_ret2
  exact ⟨by first | rfl | (simp [errW_none, errW_some] <;> rfl) | (simp [*, errW_none, errW_some] <;> rfl) | (simp [errW_none, errW_some] <;> (apply Bool.eq_iff_iff.2; simp [List.isEmpty_iff])), by repeat (first | (with_reducible first | exact HB.out | apply below_alloc | apply pw_below_drewN | apply below_drew1) | exact HB.out)⟩
 ·replace c3 := Bool.eq_false_iff.mpr c3
  subst c3
  have H1 : (some ((⟨#[]⟩ : ByteArray), false)) = some (r1, r2) := by rw [if_neg (show ¬ (false = true) by decide)] at H; exact H
  clear H
  have H := H1
  clear H1
  simp only [Option.some.injEq, Prod.mk.injEq] at H
  obtain ⟨rfl, rfl⟩ := H
  go_enter Tryd.func16, Tryd.ntmps16
  go_wp2_with (first | ((with_reducible refine gate_callee (f := 21) rfl ?_); refine goesL_ (some 5) rfl rfl Tryd.func21 (by kernel_rfl) rfl #[.string a0] rfl (by (try simp only [List.map_toArray, List.map_cons, List.map_nil]); first | done | rfl | (simp only [List.length_drop, List.length_take]; rfl)) ?_; (with_reducible refine (impl_IsValidTitle.calls k a0 false _ ?side1 A2.out).mono ?_); (case side1 => exact Go.Proofs.YtiofklnfpmphnaaDoorW.Envs.Env.below HENV.out (by repeat (first | (with_reducible first | exact HB.out | apply below_alloc | apply pw_below_drewN | apply below_drew1) | exact HB.out))); rintro e w7 ⟨rfl, hb⟩; refine ⟨_, rfl, ?_⟩; have n0_ := Aside0.mk (below_step (by repeat (first | (with_reducible first | exact HB.out | apply below_alloc | apply pw_below_drewN | apply below_drew1) | exact HB.out)) hb); clear HB; have HB := n0_; clear n0_; (try clear hb); (try clear hb2); (try clear hk); (try clear hi)))
  go_ret2
  exact ⟨by first | rfl | (simp [errW_none, errW_some] <;> rfl) | (simp [*, errW_none, errW_some] <;> rfl) | (simp [errW_none, errW_some] <;> (apply Bool.eq_iff_iff.2; simp [List.isEmpty_iff])), by repeat (first | (with_reducible first | exact HB.out | apply below_alloc | apply pw_below_drewN | apply below_drew1) | exact HB.out)⟩

end Go.Proofs.YtiofklnfpmphnaaDoor.Px
