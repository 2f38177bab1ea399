/- That calls of Go functions come to what the Lean functions beside them say; written by a program of this session (wip/xprint) over the printed words; no conditions. -/
import Derived.Test.YtilchcponlgmjaaDoorPx0
import Derived.Test.YtilchcponlgmjaaDoorPx12
import Derived.Test.YtilchcponlgmjaaDoorPx16
namespace Go.Proofs.YtilchcponlgmjaaDoor.Px
open Go.RowKit Go.Proofs.YtilchcponlgmjaaDoorW.PrintWords Go.Proofs.YtilchcponlgmjaaDoorW.PrintLast Go.Proofs.YtilchcponlgmjaaDoorW.PrintMore
attribute [local go_sem] max2_int min2_int max_two min_two max_three min_three max_four min_four   -- for this text's walks alone
set_option linter.unusedVariables false
set_option linter.unusedSimpArgs false

/-! ### strings_HasSuffix: function 75 -/
def strings_HasSuffix.f (a0 : ByteArray) (a1 : ByteArray) : Option (Bool) := (stringslite_HasSuffix.f a0 a1).bind fun t258 => (some t258)
set_option maxHeartbeats 8000000 in
set_option maxRecDepth 100000 in
theorem strings_HasSuffix.calls (a0 : ByteArray) (a1 : ByteArray) (r : Bool) (w : World) (h : strings_HasSuffix.f a0 a1 = some r) :
    Calls Tryd.prog 75 #[.string a0, .string a1] w fun e w' => e = .returned (.bool r) ∧ Drawn0 w w' := by
  have H : ((stringslite_HasSuffix.f a0 a1).bind fun t258 => (some t258)) = some r := h
  clear h
  replace H := Option.bind_eq_some_iff.mp H
  obtain ⟨t258, A30, H⟩ := H
  replace H : (some t258) = some r := H
  have A3 := AM A30
  clear A30
  obtain rfl := Option.some.inj H
  go_enter Tryd.func75, Tryd.ntmps75
  go_wp2_with (first | ((with_reducible refine gate_callee (f := 101) rfl ?_); refine goesL_ (some 7) rfl rfl Tryd.func101 (by kernel_rfl) rfl #[.string a0, .string a1] rfl (by (try simp only [List.map_toArray, List.map_cons, List.map_nil]); first | done | rfl | (simp only [List.length_drop, List.length_take]; rfl)) ?_; (with_reducible refine (stringslite_HasSuffix.calls a0 a1 t258 _ A3.out).mono ?_); rintro e w' ⟨rfl, ⟨nd, rfl⟩⟩; refine ⟨_, rfl, ?_⟩))
  go_ret
  exact ⟨by first | rfl | (simp; done) | (simp [*]; done), by repeat (first | exact Drawn0.refl _ | apply Drawn0.step)⟩

/-! ### impl_begins: function 45 -/
def impl_begins.f (l0 : List ByteArray) (a1 : Int) : Option (Bool) := if a1 = 0 then (some true) else (if 0 ≤ (wrap64 (a1 - 1)) then (if (wrap64 (a1 - 1)) < (l0.length : Int) then ((strings_HasSuffix.f (rdOf ByteArray.empty l0 (wrap64 (a1 - 1))) (⟨#[58]⟩ : ByteArray)).bind fun t260 => (some t260)) else (none)) else (none))
set_option maxHeartbeats 8000000 in
set_option maxRecDepth 100000 in
theorem impl_begins.calls (A0 : Option Addr) (c0 : Nat) (l0 : List ByteArray) (a1 : Int) (r : Bool) (w : World) (hr0 : Kd.C Kd.string w A0 l0.length l0) (hc0 : l0.length ≤ c0) (h : impl_begins.f l0 a1 = some r) :
    Calls Tryd.prog 45 #[.slice A0 l0.length c0, .int .i64 a1] w fun e w' => e = .returned (.bool r) ∧ Drawn0 w w' := by
  have HR0 := AM hr0
  have HC0 := AM hc0
  clear hr0 hc0
  have H : (if a1 = 0 then (some true) else (if 0 ≤ (wrap64 (a1 - 1)) then (if (wrap64 (a1 - 1)) < (l0.length : Int) then ((strings_HasSuffix.f (rdOf ByteArray.empty l0 (wrap64 (a1 - 1))) (⟨#[58]⟩ : ByteArray)).bind fun t260 => (some t260)) else (none)) else (none))) = some r := h
  clear h
  by_cases c3 : a1 = 0
  · rw [if_pos c3] at H
    have c3b0 : (a1 == 0) = true := beq_iff_eq.mpr c3
    have c3b1 : (a1 != 0) = false := bne_eq_false_iff_eq.mpr c3
    clear c3
    obtain rfl := Option.some.inj H
    go_enter Tryd.func45, Tryd.ntmps45
    go_wp2
    go_ret
    exact ⟨by first | rfl | (simp; done) | (simp [*]; done), by repeat (first | exact Drawn0.refl _ | apply Drawn0.step)⟩
  · rw [if_neg c3] at H
    have c3b0 : (a1 == 0) = false := beq_eq_false_iff_ne.mpr c3
    have c3b1 : (a1 != 0) = true := bne_iff_ne.mpr c3
    obtain ⟨ji4, hji4⟩ : ∃ j_ : Int, (wrap64 (a1 - 1)) = j_ := ⟨_, rfl⟩
    replace H : (if 0 ≤ (ji4) then (if (ji4) < (l0.length : Int) then ((strings_HasSuffix.f (rdOf ByteArray.empty l0 (ji4)) (⟨#[58]⟩ : ByteArray)).bind fun t260 => (some t260)) else (none)) else (none)) = some r := by first | (rw [hji4] at H; exact H) | (simp only [hji4] at H ⊢; exact H)
    have hji4w : (IntKind.i64.wrap (a1 - 1)) = ji4 := (i64_w _).trans hji4
    by_cases c5 : 0 ≤ (ji4)
    · rw [if_pos c5] at H
      have c5b0 : decide (0 ≤ (ji4)) = true := decide_eq_true c5
      clear c5
      by_cases c6 : (ji4) < (l0.length : Int)
      · rw [if_pos c6] at H
        have c6b0 : decide ((ji4) < (l0.length : Int)) = true := decide_eq_true c6
        clear c6
        replace H := Option.bind_eq_some_iff.mp H
        obtain ⟨t260, A70, H⟩ := H
        replace H : (some t260) = some r := H
        have A7 := AM A70
        clear A70
        obtain rfl := Option.some.inj H
        have p259 : 0 ≤ ((ji4) : Int) := of_decide_eq_true (by first | (with_reducible assumption) | assumption)
        have q259 : (ji4) < (l0.length : Int) := of_decide_eq_true (by first | (with_reducible assumption) | assumption)
        obtain ⟨ad259, e259, hx259_0⟩ := Kd.at_string HR0.out (ji4) p259 q259
        cases e259
        replace p259 := eq_true p259
        replace q259 := eq_true q259
        go_enter Tryd.func45, Tryd.ntmps45
        go_wp2_with (first | (go_at_call 75; (with_reducible refine (strings_HasSuffix.calls (rdOf ByteArray.empty l0 (ji4)) (⟨#[58]⟩ : ByteArray) t260 _ A7.out).mono ?_); rintro e w' ⟨rfl, ⟨nd, rfl⟩⟩))
        go_ret
        exact ⟨by first | rfl | (simp; done) | (simp only [← hji4] <;> (first | rfl | simp)) | (simp [*]; done), by repeat (first | exact Drawn0.refl _ | apply Drawn0.step)⟩
      · rw [if_neg c6] at H
        exact absurd H (by simp)
    · rw [if_neg c5] at H
      exact absurd H (by simp)

/-! ### impl_hasBrace: function 46 -/
def impl_hasBrace.f (a0 : ByteArray) : Option (Bool) := (strings_ContainsAny.f a0 (⟨#[123, 125]⟩ : ByteArray)).bind fun t261 => (some t261)
set_option maxHeartbeats 8000000 in
set_option maxRecDepth 100000 in
theorem impl_hasBrace.calls (a0 : ByteArray) (r : Bool) (w : World) (h : impl_hasBrace.f a0 = some r) :
    Calls Tryd.prog 46 #[.string a0] w fun e w' => e = .returned (.bool r) ∧ Below w.heap.size w w' := by
  have HB := AM (Below.refl w.heap.size w)
  have H : ((strings_ContainsAny.f a0 (⟨#[123, 125]⟩ : ByteArray)).bind fun t261 => (some t261)) = some r := h
  clear h
  replace H := Option.bind_eq_some_iff.mp H
  obtain ⟨t261, A20, H⟩ := H
  replace H : (some t261) = some r := H
  have A2 := AM A20
  clear A20
  obtain rfl := Option.some.inj H
  go_enter Tryd.func46, Tryd.ntmps46
  go_wp2_with (first | ((with_reducible refine gate_callee (f := 40) rfl ?_); refine goesL_ (some 4) rfl rfl Tryd.func40 (by kernel_rfl) rfl #[.string a0, .string (⟨#[123, 125]⟩ : ByteArray)] rfl (by (try simp only [List.map_toArray, List.map_cons, List.map_nil]); first | done | rfl | (simp only [List.length_drop, List.length_take]; rfl)) ?_; (with_reducible refine (strings_ContainsAny.calls a0 (⟨#[123, 125]⟩ : ByteArray) t261 _ A2.out).mono ?_); rintro e w3 ⟨rfl, hb⟩; refine ⟨_, rfl, ?_⟩; have n0_ := AM (below_step (by repeat (first | (with_reducible first | exact HB.out | apply below_alloc | apply pw_below_drewN | apply below_drew1) | exact HB.out)) hb); clear HB; have HB := n0_; clear n0_; (try clear hb); (try clear hb2); (try clear hk); (try clear hi)))
  go_ret
  exact ⟨by first | rfl | (simp [errW_none, errW_some] <;> rfl) | (simp [*, errW_none, errW_some] <;> rfl) | (simp [errW_none, errW_some] <;> (apply Bool.eq_iff_iff.2; simp [List.isEmpty_iff])), by repeat (first | (with_reducible first | exact HB.out | apply below_alloc | apply pw_below_drewN | apply below_drew1) | exact HB.out)⟩

/-! ### impl_isLower: function 79 -/
def impl_isLower.f (a0 : Int) : Option (Bool) := if a0 ≥ 97 then (some (decide (a0 ≤ 122))) else (some false)
set_option maxHeartbeats 8000000 in
set_option maxRecDepth 100000 in
theorem impl_isLower.calls (a0 : Int) (r : Bool) (w : World) (h : impl_isLower.f a0 = some r) :
    Calls Tryd.prog 79 #[.int .u8 a0] w fun e w' => e = .returned (.bool r) ∧ Drawn0 w w' := by
  have H : (if a0 ≥ 97 then (some (decide (a0 ≤ 122))) else (some false)) = some r := h
  clear h
  by_cases c2 : a0 ≥ 97
  · rw [if_pos c2] at H
    have c2b0 : decide (97 ≤ a0) = true := decide_eq_true c2
    clear c2
    obtain rfl := Option.some.inj H
    go_enter Tryd.func79, Tryd.ntmps79
    go_wp2
    go_ret
    exact ⟨by first | rfl | (simp; done) | (simp [*]; done), by repeat (first | exact Drawn0.refl _ | apply Drawn0.step)⟩
  · rw [if_neg c2] at H
    have c2b0 : decide (97 ≤ a0) = false := decide_eq_false c2
    clear c2
    obtain rfl := Option.some.inj H
    go_enter Tryd.func79, Tryd.ntmps79
    go_wp2
    go_ret
    exact ⟨by first | rfl | (simp; done) | (simp [*]; done), by repeat (first | exact Drawn0.refl _ | apply Drawn0.step)⟩

/-! ### impl_isLetter: function 76 -/
def impl_isLetter.f (a0 : Int) : Option (Bool) := (impl_isUpper.f a0).bind fun t262 => (if t262 = true then (some true) else ((impl_isLower.f a0).bind fun t263 => (some t263)))
set_option maxHeartbeats 8000000 in
set_option maxRecDepth 100000 in
theorem impl_isLetter.calls (a0 : Int) (r : Bool) (w : World) (h : impl_isLetter.f a0 = some r) :
    Calls Tryd.prog 76 #[.int .u8 a0] w fun e w' => e = .returned (.bool r) ∧ Drawn0 w w' := by
  have H : ((impl_isUpper.f a0).bind fun t262 => (if t262 = true then (some true) else ((impl_isLower.f a0).bind fun t263 => (some t263)))) = some r := h
  clear h
  replace H := Option.bind_eq_some_iff.mp H
  obtain ⟨t262, A20, H⟩ := H
  replace H : (if t262 = true then (some true) else ((impl_isLower.f a0).bind fun t263 => (some t263))) = some r := H
  have A2 := AM A20
  clear A20
  by_cases c3 : t262 = true
  · subst c3
    have H1 : (some true) = some r := by rw [if_pos rfl] at H; exact H
    clear H
    have H := H1
    clear H1
    obtain rfl := Option.some.inj H
    go_enter Tryd.func76, Tryd.ntmps76
    go_wp2_with (first | ((with_reducible refine gate_callee (f := 74) rfl ?_); refine goesL_ (some 4) rfl rfl Tryd.func74 (by kernel_rfl) rfl #[.int .u8 a0] rfl (by (try simp only [List.map_toArray, List.map_cons, List.map_nil]); first | done | rfl | (simp only [List.length_drop, List.length_take]; rfl)) ?_; (with_reducible refine (impl_isUpper.calls a0 true _ A2.out).mono ?_); rintro e w' ⟨rfl, ⟨nd, rfl⟩⟩; refine ⟨_, rfl, ?_⟩))
    go_ret
    exact ⟨by first | rfl | (simp; done) | (simp [*]; done), by repeat (first | exact Drawn0.refl _ | apply Drawn0.step)⟩
  · replace c3 := Bool.eq_false_iff.mpr c3
    subst c3
    have H1 : ((impl_isLower.f a0).bind fun t263 => (some t263)) = some r := by rw [if_neg (show ¬ (false = true) by decide)] at H; exact H
    clear H
    have H := H1
    clear H1
    replace H := Option.bind_eq_some_iff.mp H
    obtain ⟨t263, A40, H⟩ := H
    replace H : (some t263) = some r := H
    have A4 := AM A40
    clear A40
    obtain rfl := Option.some.inj H
    go_enter Tryd.func76, Tryd.ntmps76
    go_wp2_with (first | ((with_reducible refine gate_callee (f := 74) rfl ?_); refine goesL_ (some 4) rfl rfl Tryd.func74 (by kernel_rfl) rfl #[.int .u8 a0] rfl (by (try simp only [List.map_toArray, List.map_cons, List.map_nil]); first | done | rfl | (simp only [List.length_drop, List.length_take]; rfl)) ?_; (with_reducible refine (impl_isUpper.calls a0 false _ A2.out).mono ?_); rintro e w' ⟨rfl, ⟨nd, rfl⟩⟩; refine ⟨_, rfl, ?_⟩) | (go_at_call 79; (with_reducible refine (impl_isLower.calls a0 t263 _ A4.out).mono ?_); rintro e w' ⟨rfl, ⟨nd, rfl⟩⟩))
    go_ret
    exact ⟨by first | rfl | (simp; done) | (simp [*]; done), by repeat (first | exact Drawn0.refl _ | apply Drawn0.step)⟩

/-! ### impl_upperByte: function 77 -/
def impl_upperByte.f (a0 : Int) : Option (Int) := (impl_isLower.f a0).bind fun t264 => (if t264 = true then (some ((a0 - 32) % 256)) else (some a0))
set_option maxHeartbeats 8000000 in
set_option maxRecDepth 100000 in
theorem impl_upperByte.calls (a0 : Int) (r : Int) (w : World) (h : impl_upperByte.f a0 = some r) :
    Calls Tryd.prog 77 #[.int .u8 a0] w fun e w' => e = .returned (.int .u8 r) ∧ Drawn0 w w' := by
  have H : ((impl_isLower.f a0).bind fun t264 => (if t264 = true then (some ((a0 - 32) % 256)) else (some a0))) = some r := h
  clear h
  replace H := Option.bind_eq_some_iff.mp H
  obtain ⟨t264, A20, H⟩ := H
  replace H : (if t264 = true then (some ((a0 - 32) % 256)) else (some a0)) = some r := H
  have A2 := AM A20
  clear A20
  by_cases c3 : t264 = true
  · subst c3
    have H1 : (some ((a0 - 32) % 256)) = some r := by rw [if_pos rfl] at H; exact H
    clear H
    have H := H1
    clear H1
    obtain rfl := Option.some.inj H
    go_enter Tryd.func77, Tryd.ntmps77
    go_wp2_with (first | ((with_reducible refine gate_callee (f := 79) rfl ?_); refine goesL_ (some 4) rfl rfl Tryd.func79 (by kernel_rfl) rfl #[.int .u8 a0] rfl (by (try simp only [List.map_toArray, List.map_cons, List.map_nil]); first | done | rfl | (simp only [List.length_drop, List.length_take]; rfl)) ?_; (with_reducible refine (impl_isLower.calls a0 true _ A2.out).mono ?_); rintro e w' ⟨rfl, ⟨nd, rfl⟩⟩; refine ⟨_, rfl, ?_⟩))
    go_ret
    exact ⟨by first | rfl | (simp; done) | (simp [*]; done), by repeat (first | exact Drawn0.refl _ | apply Drawn0.step)⟩
  · replace c3 := Bool.eq_false_iff.mpr c3
    subst c3
    have H1 : (some a0) = some r := by rw [if_neg (show ¬ (false = true) by decide)] at H; exact H
    clear H
    have H := H1
    clear H1
    obtain rfl := Option.some.inj H
    go_enter Tryd.func77, Tryd.ntmps77
    go_wp2_with (first | ((with_reducible refine gate_callee (f := 79) rfl ?_); refine goesL_ (some 4) rfl rfl Tryd.func79 (by kernel_rfl) rfl #[.int .u8 a0] rfl (by (try simp only [List.map_toArray, List.map_cons, List.map_nil]); first | done | rfl | (simp only [List.length_drop, List.length_take]; rfl)) ?_; (with_reducible refine (impl_isLower.calls a0 false _ A2.out).mono ?_); rintro e w' ⟨rfl, ⟨nd, rfl⟩⟩; refine ⟨_, rfl, ?_⟩))
    go_ret
    exact ⟨by first | rfl | (simp; done) | (simp [*]; done), by repeat (first | exact Drawn0.refl _ | apply Drawn0.step)⟩

/-! ### impl_raised: function 47 -/
def impl_raised.isU (b : Int) : Bool := decide (b ≥ 65) && decide (b ≤ 90)
def impl_raised.isL (b : Int) : Bool := decide (b ≥ 97) && decide (b ≤ 122)
def impl_raised.let (b : Int) : Bool := impl_raised.isU b || impl_raised.isL b
def impl_raised.up (b : Int) : Int := if impl_raised.isL b = true then b - 32 else b
def impl_raised.raise : List Int → List Int
  | [] => []
  | b :: l => if impl_raised.let b = true then impl_raised.up b :: l else b :: impl_raised.raise l
theorem impl_raised.isU_eq (b : Int) : impl_isUpper.f b = some (impl_raised.isU b) := by
  unfold impl_isUpper.f impl_raised.isU
  by_cases h : b ≥ 65
  · rw [if_pos h, decide_eq_true h]; rfl
  · rw [if_neg h, decide_eq_false h]; rfl
theorem impl_raised.isL_eq (b : Int) : impl_isLower.f b = some (impl_raised.isL b) := by
  unfold impl_isLower.f impl_raised.isL
  by_cases h : b ≥ 97
  · rw [if_pos h, decide_eq_true h]; rfl
  · rw [if_neg h, decide_eq_false h]; rfl
theorem impl_raised.let_eq (b : Int) : impl_isLetter.f b = some (impl_raised.let b) := by
  unfold impl_isLetter.f impl_raised.let
  rw [impl_raised.isU_eq, impl_raised.isL_eq, Option.bind_some, Option.bind_some]
  cases impl_raised.isU b <;> rfl
theorem impl_raised.up_eq (b : Int) (h0 : 0 ≤ b) (h1 : b ≤ 255) : impl_upperByte.f b = some (impl_raised.up b) := by
  unfold impl_upperByte.f impl_raised.up
  rw [impl_raised.isL_eq, Option.bind_some]
  cases h : impl_raised.isL b with
  | false => rfl
  | true =>
    rw [if_pos rfl, if_pos rfl]
    unfold impl_raised.isL at h
    have := of_decide_eq_true (Bool.and_eq_true_iff.1 h).1
    congr 1
    omega
def impl_raised.f (a0 : ByteArray) : Option (ByteArray) := if a0.size ≤ 140737488351232 then some (strOfNums (impl_raised.raise (bytesOf a0))) else none
theorem impl_raised.bytes_lt (s : ByteArray) (j : Nat) : 0 ≤ (bytesOf s).getD j 0 ∧ (bytesOf s).getD j 0 ≤ 255 := by
  have h := rd_bytesOf s (j : Int)
  unfold rd at h
  rw [Int.toNat_natCast] at h
  rw [h]
  exact bt_range s _
/-- Where the first letter stands. -/
theorem impl_raised.hit : ∀ (l : List Int) (j : Nat), j < l.length → (∀ i, i < j → impl_raised.let (l.getD i 0) = false) → impl_raised.let (l.getD j 0) = true → impl_raised.raise l = l.set j (impl_raised.up (l.getD j 0))
  | [], j, hj, _, _ => by simp at hj
  | b :: l, 0, _, _, h => by
    have h : impl_raised.let b = true := h
    rw [impl_raised.raise, if_pos h]
    rfl
  | b :: l, j + 1, hj, hn, h => by
    have h0 : impl_raised.let b = false := hn 0 (by omega)
    rw [impl_raised.raise, h0, if_neg (by decide), impl_raised.hit l j (by simpa using hj) (fun i hi => hn (i + 1) (by omega)) h]
    rfl
theorem impl_raised.miss : ∀ (l : List Int), (∀ i, i < l.length → impl_raised.let (l.getD i 0) = false) → impl_raised.raise l = l
  | [], _ => rfl
  | b :: l, h => by
    have h0 : impl_raised.let b = false := h 0 (by simp)
    rw [impl_raised.raise, h0, if_neg (by decide), impl_raised.miss l (fun i hi => h (i + 1) (by simpa using hi))]
set_option maxHeartbeats 4000000 in
set_option maxRecDepth 100000 in
theorem impl_raised.calls (a0 : ByteArray) (r : ByteArray) (w : World) (h : impl_raised.f a0 = some r) :
    Calls Tryd.prog 47 #[.string a0] w fun e w' => e = .returned (.string r) ∧ Below w.heap.size w w' := by
  unfold impl_raised.f at h
  by_cases hs : a0.size ≤ 140737488351232
  · rw [if_pos hs] at h
    obtain rfl := Option.some.inj h
    clear h
    obtain ⟨cap, W1, hconv, hB1, hbel1⟩ := Go.Proofs.YtilchcponlgmjaaDoorW.Buf.conv_buf (P := Tryd.prog) w 9 29 5 a0 Tryd.underlying9 Tryd.underlying29 Tryd.underlying5
    have hlen := bytesOf_length a0
    have HB1 := AM hB1
    have HBEL1 := AM hbel1
    have HLEN := AM hlen
    obtain ⟨F, hF⟩ : ∃ F, F = impl_raised.raise (bytesOf a0) := ⟨_, rfl⟩
    rw [← hF]
    have HF := AM hF
    clear hB1 hbel1 hlen hF
    go_enter Tryd.func47, Tryd.ntmps47
    go_wp2
    clear hconv
    go_loopw [10] (fun v wr => ∃ j : Nat, j ≤ a0.size ∧ v = .int .i64 j ∧ Aside0 (∀ i, i < j → impl_raised.let ((bytesOf a0).getD i 0) = false) ∧ Aside0 (Go.Proofs.YtilchcponlgmjaaDoorW.Buf.Bf wr w.heap.size 5 (bytesOf a0)) ∧ Aside0 (Below w.heap.size w wr)) (fun v _ => a0.size - (intOf v).toNat)
    case atStart => exact ⟨0, Nat.zero_le _, rfl, ⟨fun i hi => absurd hi (by omega)⟩, HB1, HBEL1⟩
    case round =>
      obtain ⟨j, hj, rfl, HNO, HB, HBEL⟩ := hrel
      by_cases hlt : j < a0.size
      · have hjl : j < (bytesOf a0).length := by rw [HLEN.out]; exact hlt
        have hcell := HB.out.cell j hjl
        have hfroz := HB.out.frozen j hjl
        have hrng := impl_raised.bytes_lt a0 j
        obtain ⟨b, hbdef⟩ : ∃ b, b = (bytesOf a0).getD j 0 := ⟨_, rfl⟩
        rw [← hbdef] at hcell hrng
        have HBD := AM hbdef
        have HJL := AM hjl
        clear hbdef hjl
        have hb0 := hrng.1
        have hb1 := hrng.2
        clear hrng
        by_cases hu : impl_raised.let b = true
        · have hres : F = (bytesOf a0).set j (impl_raised.up b) := by
            rw [HF.out, impl_raised.hit (bytesOf a0) j HJL.out HNO.out (by rw [← HBD.out]; exact hu), ← HBD.out]
          clear HF
          subst hres
          have hback : ∀ n1 : Nat, (convert 29 9 (.slice (some ⟨w.heap.size, 0, none⟩) a0.size cap)).run Tryd.prog ((wr.drewN n1).setCell ⟨w.heap.size, j, none⟩ (.int .u8 (impl_raised.up b))) = .ok (.string (strOfNums ((bytesOf a0).set j (impl_raised.up b)))) ((wr.drewN n1).setCell ⟨w.heap.size, j, none⟩ (.int .u8 (impl_raised.up b))) := fun n1 =>
            Go.Proofs.YtilchcponlgmjaaDoorW.Buf.conv_back (P := Tryd.prog) ((HB.out.drewN n1).set j HJL.out _) 29 9 a0.size cap (by rw [List.length_set]; exact HLEN.out) Tryd.underlying29 Tryd.underlying9 Tryd.underlying5
          have hbel2 : ∀ n1 : Nat, Below w.heap.size w ((wr.drewN n1).setCell ⟨w.heap.size, j, none⟩ (.int .u8 (impl_raised.up b))) := fun n1 => (pw_below_drewN HBEL.out n1).setCell (Nat.le_refl _) _
          have HBEL2 := AM hbel2
          clear hbel2
          go_wp2_with (first | (go_at_call 76; (with_reducible refine (impl_isLetter.calls b true _ ((impl_raised.let_eq b).trans (by rw [hu]))).mono ?_); rintro e w' ⟨rfl, ⟨nq, rfl⟩⟩) | (go_at_call 77; (with_reducible refine (impl_upperByte.calls b (impl_raised.up b) _ (impl_raised.up_eq b hb0 hb1)).mono ?_); rintro e w' ⟨rfl, ⟨nq2, rfl⟩⟩))
          go_ret
          exact ⟨rfl, HBEL2.out _⟩
        · go_wp2_with (go_at_call 76; (with_reducible refine (impl_isLetter.calls b false _ ((impl_raised.let_eq b).trans (by rw [Bool.eq_false_iff.mpr hu]))).mono ?_); rintro e w' ⟨rfl, ⟨nq, rfl⟩⟩)
          refine ⟨⟨j + 1, by omega, by go_num, ⟨fun i hi => ?_⟩, ⟨HB.out.drewN nq⟩, ⟨pw_below_drewN HBEL.out nq⟩⟩, by simp [intOf]; omega⟩
          by_cases e : i = j
          · subst e
            rw [← HBD.out]
            exact Bool.eq_false_iff.mpr hu
          · exact HNO.out i (by omega)
      · obtain rfl : j = a0.size := by omega
        have hback := Go.Proofs.YtilchcponlgmjaaDoorW.Buf.conv_back (P := Tryd.prog) HB.out 29 9 a0.size cap HLEN.out Tryd.underlying29 Tryd.underlying9 Tryd.underlying5
        have hres : F = bytesOf a0 := HF.out.trans (impl_raised.miss _ (fun i hi => HNO.out i (by rw [HLEN.out] at hi; exact hi)))
        clear HF
        subst hres
        go_wp2
        go_ret
        exact ⟨rfl, HBEL.out⟩
  · rw [if_neg hs] at h
    cases h

end Go.Proofs.YtilchcponlgmjaaDoor.Px
