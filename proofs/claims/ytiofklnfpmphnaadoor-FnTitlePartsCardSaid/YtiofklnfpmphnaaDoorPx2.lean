/- That calls of Go functions come to what the Lean functions beside them say; written by a program of this session (wip/xprint) over the printed words; no conditions. -/
import Derived.Test.YtiofklnfpmphnaaDoorPx0
import Derived.Test.YtiofklnfpmphnaaDoorPx1
namespace Go.Proofs.YtiofklnfpmphnaaDoor.Px
open Go.RowKit Go.Proofs.YtiofklnfpmphnaaDoorW.PrintWords Go.Proofs.YtiofklnfpmphnaaDoorW.PrintLast Go.Proofs.YtiofklnfpmphnaaDoorW.PrintMore
attribute [local go_sem] max2_int min2_int max_two min_two max_three min_three max_four min_four   -- for this text's walks alone
set_option linter.unusedVariables false
set_option linter.unusedSimpArgs false

/-! ### spec_l6Good: function 23 -/
mutual
def spec_l6Good.j0 : Nat → ByteArray → Bool → Option (Bool)
 | 0, _, _ => none
 | k + 1, x0, x21 => if x21 = true then (some false) else (spec_l6Good.l0 k x0 (-1) 0)
def spec_l6Good.l0 : Nat → ByteArray → Int → Int → Option (Bool)
 | 0, _, _, _ => none
 | k + 1, x0, x3, x4 => if x4 < (x0.size : Int) then (if 0 ≤ x4 then (if (bt x0 x4) < 32 then (spec_l6Good.j2 k x0 x3 x4 true) else (spec_l6Good.j2 k x0 x3 x4 (decide ((bt x0 x4) > 126)))) else (none)) else (some (decide (x3 < 0)))
def spec_l6Good.j2 : Nat → ByteArray → Int → Int → Bool → Option (Bool)
 | 0, _, _, _, _ => none
 | k + 1, x0, x3, x4, x28 => if x28 = true then (some false) else (if x4 > 0 then (if 0 ≤ x4 then (if x4 < (x0.size : Int) then (if (bt x0 x4) = 32 then (if 0 ≤ (wrap64 (x4 - 1)) then (if (wrap64 (x4 - 1)) < (x0.size : Int) then (spec_l6Good.j3 k x0 x3 x4 ((bt x0 (wrap64 (x4 - 1))) == 32)) else (none)) else (none)) else (spec_l6Good.j3 k x0 x3 x4 false)) else (none)) else (none)) else (spec_l6Good.j3 k x0 x3 x4 false))
def spec_l6Good.j3 : Nat → ByteArray → Int → Int → Bool → Option (Bool)
 | 0, _, _, _, _ => none
 | k + 1, x0, x3, x4, x39 => if x39 = true then (some false) else (if 0 ≤ x4 then (if x4 < (x0.size : Int) then (if (bt x0 x4) = 123 then (if x3 ≥ 0 then (some false) else (spec_l6Good.l0 k x0 x4 (wrap64 (x4 + 1)))) else (if (bt x0 x4) = 125 then (if x3 < 0 then (some false) else (if x3 = (wrap64 (x4 - 1)) then (some false) else (spec_l6Good.l0 k x0 (-1) (wrap64 (x4 + 1))))) else (spec_l6Good.l0 k x0 x3 (wrap64 (x4 + 1))))) else (none)) else (none))
end
def spec_l6Good.f (k : Nat) (a0 : ByteArray) : Option (Bool) := (spec_l1In.f (a0.size : Int) 1 100).bind fun t101 => (if t101 = true then (if 0 < (a0.size : Int) then (if (bt a0 0) = 32 then (spec_l6Good.j0 k a0 true) else (if 0 ≤ (wrap64 ((a0.size : Int) - 1)) then (if (wrap64 ((a0.size : Int) - 1)) < (a0.size : Int) then (spec_l6Good.j0 k a0 ((bt a0 (wrap64 ((a0.size : Int) - 1))) == 32)) else (none)) else (none))) else (none)) else (spec_l6Good.j0 k a0 true))
theorem spec_l6Good.mono_l : ∀ k, (∀ y0 y1, LeO (spec_l6Good.j0 k y0 y1) (spec_l6Good.j0 (k + 1) y0 y1)) ∧ (∀ y0 y1 y2, LeO (spec_l6Good.l0 k y0 y1 y2) (spec_l6Good.l0 (k + 1) y0 y1 y2)) ∧ (∀ y0 y1 y2 y3, LeO (spec_l6Good.j2 k y0 y1 y2 y3) (spec_l6Good.j2 (k + 1) y0 y1 y2 y3)) ∧ (∀ y0 y1 y2 y3, LeO (spec_l6Good.j3 k y0 y1 y2 y3) (spec_l6Good.j3 (k + 1) y0 y1 y2 y3))
 | 0 => ⟨fun _ _ r h => by simp [spec_l6Good.j0] at h, fun _ _ _ r h => by simp [spec_l6Good.l0] at h, fun _ _ _ _ r h => by simp [spec_l6Good.j2] at h, fun _ _ _ _ r h => by simp [spec_l6Good.j3] at h⟩
 | k + 1 => by
  obtain ⟨ih0, ih1, ih2, ih3⟩ := spec_l6Good.mono_l k
  refine ⟨?_, ?_, ?_, ?_⟩
  ·intro y0 y1
   unfold spec_l6Good.j0
   repeat' first
   | (with_reducible exact ih0 _ _)
   | (with_reducible exact ih1 _ _ _)
   | (with_reducible exact ih2 _ _ _ _)
   | (with_reducible exact ih3 _ _ _ _)
   | (with_reducible exact LeO.refl _)
   | (with_reducible exact LeO.none _)
   | (with_reducible refine LeO.ite ?_ ?_)
   | (with_reducible refine LeO.bind ?_ (fun _ => ?_))
   | exact ih0 _ _
   | exact ih1 _ _ _
   | exact ih2 _ _ _ _
   | exact ih3 _ _ _ _
   | exact LeO.none _
   | refine LeO.ite ?_ ?_
   | refine LeO.bind ?_ (fun _ => ?_)
  ·intro y0 y1 y2
   unfold spec_l6Good.l0
   repeat' first
   | (with_reducible exact ih0 _ _)
   | (with_reducible exact ih1 _ _ _)
   | (with_reducible exact ih2 _ _ _ _)
   | (with_reducible exact ih3 _ _ _ _)
   | (with_reducible exact LeO.refl _)
   | (with_reducible exact LeO.none _)
   | (with_reducible refine LeO.ite ?_ ?_)
   | (with_reducible refine LeO.bind ?_ (fun _ => ?_))
   | exact ih0 _ _
   | exact ih1 _ _ _
   | exact ih2 _ _ _ _
   | exact ih3 _ _ _ _
   | exact LeO.none _
   | refine LeO.ite ?_ ?_
   | refine LeO.bind ?_ (fun _ => ?_)
  ·intro y0 y1 y2 y3
   unfold spec_l6Good.j2
   repeat' first
   | (with_reducible exact ih0 _ _)
   | (with_reducible exact ih1 _ _ _)
   | (with_reducible exact ih2 _ _ _ _)
   | (with_reducible exact ih3 _ _ _ _)
   | (with_reducible exact LeO.refl _)
   | (with_reducible exact LeO.none _)
   | (with_reducible refine LeO.ite ?_ ?_)
   | (with_reducible refine LeO.bind ?_ (fun _ => ?_))
   | exact ih0 _ _
   | exact ih1 _ _ _
   | exact ih2 _ _ _ _
   | exact ih3 _ _ _ _
   | exact LeO.none _
   | refine LeO.ite ?_ ?_
   | refine LeO.bind ?_ (fun _ => ?_)
  ·intro y0 y1 y2 y3
   unfold spec_l6Good.j3
   repeat' first
   | (with_reducible exact ih0 _ _)
   | (with_reducible exact ih1 _ _ _)
   | (with_reducible exact ih2 _ _ _ _)
   | (with_reducible exact ih3 _ _ _ _)
   | (with_reducible exact LeO.refl _)
   | (with_reducible exact LeO.none _)
   | (with_reducible refine LeO.ite ?_ ?_)
   | (with_reducible refine LeO.bind ?_ (fun _ => ?_))
   | exact ih0 _ _
   | exact ih1 _ _ _
   | exact ih2 _ _ _ _
   | exact ih3 _ _ _ _
   | exact LeO.none _
   | refine LeO.ite ?_ ?_
   | refine LeO.bind ?_ (fun _ => ?_)
theorem spec_l6Good.mono : ∀ a0 k, LeO (spec_l6Good.f k a0) (spec_l6Good.f (k + 1) a0) := by
 intro a0 k
 obtain ⟨ih0, ih1, ih2, ih3⟩ := spec_l6Good.mono_l k
 unfold spec_l6Good.f
 repeat' first
   | (with_reducible exact ih0 _ _)
   | (with_reducible exact ih1 _ _ _)
   | (with_reducible exact ih2 _ _ _ _)
   | (with_reducible exact ih3 _ _ _ _)
   | (with_reducible exact LeO.refl _)
   | (with_reducible exact LeO.none _)
   | (with_reducible refine LeO.ite ?_ ?_)
   | (with_reducible refine LeO.bind ?_ (fun _ => ?_))
   | exact ih0 _ _
   | exact ih1 _ _ _
   | exact ih2 _ _ _ _
   | exact ih3 _ _ _ _
   | exact LeO.none _
   | refine LeO.ite ?_ ?_
   | refine LeO.bind ?_ (fun _ => ?_)
set_option maxHeartbeats 8000000 in
set_option maxRecDepth 100000 in
theorem spec_l6Good.calls (k : Nat) (a0 : ByteArray) (r : Bool) (w : World) (h : spec_l6Good.f k a0 = some r) :
  Calls Tryd.prog 23 #[.string a0] w fun e w' => e = .returned (.bool r) ∧ Drawn0 w w' := by
 have H : ((spec_l1In.f (a0.size : Int) 1 100).bind fun t101 => (if t101 = true then (if 0 < (a0.size : Int) then (if (bt a0 0) = 32 then (spec_l6Good.j0 k a0 true) else (if 0 ≤ (wrap64 ((a0.size : Int) - 1)) then (if (wrap64 ((a0.size : Int) - 1)) < (a0.size : Int) then (spec_l6Good.j0 k a0 ((bt a0 (wrap64 ((a0.size : Int) - 1))) == 32)) else (none)) else (none))) else (none)) else (spec_l6Good.j0 k a0 true))) = some r := h
 clear h
 have HC2 := Aside0.mk H
 clear H
 go_enter Tryd.func23, Tryd.ntmps23
 go_upto_region 1 with (fail)
 go_cut [21] (fun v21 wc => ∃ (kq : Nat) (x21_1 : Bool), v21 = .bool x21_1 ∧ Aside0 (spec_l6Good.j0 kq a0 x21_1 = some r) ∧ Aside0 (kq ≤ k) ∧ Drawn0 w wc)
 case first =>
  have H := HC2.out
  clear HC2
  replace H := Option.bind_eq_some_iff.mp H
  obtain ⟨t101, A30, H⟩ := H
  replace H : (if t101 = true then (if 0 < (a0.size : Int) then (if (bt a0 0) = 32 then (spec_l6Good.j0 k a0 true) else (if 0 ≤ (wrap64 ((a0.size : Int) - 1)) then (if (wrap64 ((a0.size : Int) - 1)) < (a0.size : Int) then (spec_l6Good.j0 k a0 ((bt a0 (wrap64 ((a0.size : Int) - 1))) == 32)) else (none)) else (none))) else (none)) else (spec_l6Good.j0 k a0 true)) = some r := H
  have A3 := Aside0.mk A30
  clear A30
  by_cases c4 : t101 = true
  ·subst c4
   have H1 : (if 0 < (a0.size : Int) then (if (bt a0 0) = 32 then (spec_l6Good.j0 k a0 true) else (if 0 ≤ (wrap64 ((a0.size : Int) - 1)) then (if (wrap64 ((a0.size : Int) - 1)) < (a0.size : Int) then (spec_l6Good.j0 k a0 ((bt a0 (wrap64 ((a0.size : Int) - 1))) == 32)) else (none)) else (none))) else (none)) = some r := by rw [if_pos rfl] at H; exact H
   clear H
   have H := H1
   clear H1
   by_cases c5 : 0 < (a0.size : Int)
   ·rw [if_pos c5] at H
    have c5b0 : decide (0 < (a0.size : Int)) = true := decide_eq_true c5
    have c5b1 : decide (0 < a0.size) = true := decide_eq_true (by omega)
    clear c5
    (first | rw [c5b0] | rw [c5b1] | rw [c5b2] | (simp only [i64_w, i32_w]; rw [c5b0]) | skip)
    by_cases c7 : (bt a0 0) = 32
    ·rw [if_pos c7] at H
     have c7b0 : ((bt a0 0) == 32) = true := beq_iff_eq.mpr c7
     have c7b1 : ((bt a0 0) != 32) = false := bne_eq_false_iff_eq.mpr c7
     clear c7
     have H' := Aside0.mk H
     clear H
     go_wp2_with (first | ((with_reducible refine gate_callee (f := 30) rfl ?_); refine goesL_ (some 7) rfl rfl Tryd.func30 (by kernel_rfl) rfl #[.int .i64 (a0.size : Int), .int .i64 1, .int .i64 100] rfl (by (try simp only [List.map_toArray, List.map_cons, List.map_nil]); first | done | rfl | (simp only [List.length_drop, List.length_take]; rfl)) ?_; (with_reducible refine (spec_l1In.calls (a0.size : Int) 1 100 true _ A3.out).mono ?_); rintro e w' ⟨rfl, ⟨nd, rfl⟩⟩; refine ⟨_, rfl, ?_⟩; have p6 : 0 ≤ (0 : Int) := (by omega); have q6 : 0 < a0.size := (by have : (0 : Int) < (a0.size : Int) := of_decide_eq_true (by first | (with_reducible assumption) | assumption); omega); have hx6 : ∀ h : 0 < a0.size, ((a0[0]'h).toNat : Int) = bt a0 0 := bt_at a0 0; clear p6; have qi6 : (0 < (a0.size : Int)) = True := eq_true (of_decide_eq_true (by first | (with_reducible assumption) | assumption)); replace q6 := eq_true q6))
     go_meet
     case rel => exact ⟨_, (true), (by first | rfl | (simp; done) | (simp [*]; done)), H', ⟨by first | omega | exact Nat.le_refl _⟩, by repeat (first | exact Drawn0.refl _ | apply Drawn0.step)⟩
    ·rw [if_neg c7] at H
     have c7b0 : ((bt a0 0) == 32) = false := beq_eq_false_iff_ne.mpr c7
     have c7b1 : ((bt a0 0) != 32) = true := bne_iff_ne.mpr c7
     obtain ⟨ji8, hji8⟩ : ∃ j_ : Int, (wrap64 ((a0.size : Int) - 1)) = j_ := ⟨_, rfl⟩
     replace H : (if 0 ≤ (ji8) then (if (ji8) < (a0.size : Int) then (spec_l6Good.j0 k a0 ((bt a0 (ji8)) == 32)) else (none)) else (none)) = some r := by first | (rw [hji8] at H; exact H) | (simp only [hji8] at H ⊢; exact H)
     (try rw [hji8] at A3)
     have hji8w : (IntKind.i64.wrap ((a0.size : Int) - 1)) = ji8 := (i64_w _).trans hji8
     by_cases c9 : 0 ≤ (ji8)
     ·rw [if_pos c9] at H
      have c9b0 : decide (0 ≤ (ji8)) = true := decide_eq_true c9
      clear c9
      by_cases c10 : (ji8) < (a0.size : Int)
      ·rw [if_pos c10] at H
       have c10b0 : decide ((ji8) < (a0.size : Int)) = true := decide_eq_true c10
       clear c10
       have H' := Aside0.mk H
       clear H
       go_wp2_with (first | ((with_reducible refine gate_callee (f := 30) rfl ?_); refine goesL_ (some 7) rfl rfl Tryd.func30 (by kernel_rfl) rfl #[.int .i64 (a0.size : Int), .int .i64 1, .int .i64 100] rfl (by (try simp only [List.map_toArray, List.map_cons, List.map_nil]); first | done | rfl | (simp only [List.length_drop, List.length_take]; rfl)) ?_; (with_reducible refine (spec_l1In.calls (a0.size : Int) 1 100 true _ A3.out).mono ?_); rintro e w' ⟨rfl, ⟨nd, rfl⟩⟩; refine ⟨_, rfl, ?_⟩; have p6 : 0 ≤ (0 : Int) := (by omega); have q6 : 0 < a0.size := (by have : (0 : Int) < (a0.size : Int) := of_decide_eq_true (by first | (with_reducible assumption) | assumption); omega); have hx6 : ∀ h : 0 < a0.size, ((a0[0]'h).toNat : Int) = bt a0 0 := bt_at a0 0; clear p6; have qi6 : (0 < (a0.size : Int)) = True := eq_true (of_decide_eq_true (by first | (with_reducible assumption) | assumption)); replace q6 := eq_true q6; have p11 : 0 ≤ ((ji8) : Int) := of_decide_eq_true (by first | (with_reducible assumption) | assumption); have q11 : (ji8) < (a0.size : Int) := of_decide_eq_true (by first | (with_reducible assumption) | assumption); have hx11 := bt_at a0 (ji8); replace p11 := eq_true p11; replace q11 := eq_true q11))
       go_meet
       case rel => exact ⟨_, (((bt a0 (ji8)) == 32)), (by first | rfl | (simp; done) | (simp only [← hji8] <;> (first | rfl | simp)) | (simp [*]; done)), H', ⟨by first | omega | exact Nat.le_refl _⟩, by repeat (first | exact Drawn0.refl _ | apply Drawn0.step)⟩
      ·rw [if_neg c10] at H
       exact absurd H (by simp)
     ·rw [if_neg c9] at H
      exact absurd H (by simp)
   ·rw [if_neg c5] at H
    exact absurd H (by simp)
  ·replace c4 := Bool.eq_false_iff.mpr c4
   subst c4
   have H1 : (spec_l6Good.j0 k a0 true) = some r := by rw [if_neg (show ¬ (false = true) by decide)] at H; exact H
   clear H
   have H := H1
   clear H1
   have H' := Aside0.mk H
   clear H
   go_wp2_with (first | ((with_reducible refine gate_callee (f := 30) rfl ?_); refine goesL_ (some 7) rfl rfl Tryd.func30 (by kernel_rfl) rfl #[.int .i64 (a0.size : Int), .int .i64 1, .int .i64 100] rfl (by (try simp only [List.map_toArray, List.map_cons, List.map_nil]); first | done | rfl | (simp only [List.length_drop, List.length_take]; rfl)) ?_; (with_reducible refine (spec_l1In.calls (a0.size : Int) 1 100 false _ A3.out).mono ?_); rintro e w' ⟨rfl, ⟨nd, rfl⟩⟩; refine ⟨_, rfl, ?_⟩))
   go_meet
   case rel => exact ⟨_, (true), (by first | rfl | (simp; done) | (simp [*]; done)), H', ⟨by first | omega | exact Nat.le_refl _⟩, by repeat (first | exact Drawn0.refl _ | apply Drawn0.step)⟩
 case rest =>
  clear HC2
  try clear c1
  try clear p1
  try clear q1
  try clear hx1
  try clear c2
  try clear p2
  try clear c3
  try clear c4
  try clear c5
  try clear c5b0
  try clear c5b1
  try clear c5b2
  try clear p6
  try clear q6
  try clear hx6
  try clear qi6
  try clear c7
  try clear c7b0
  try clear c7b1
  try clear c9
  try clear c9b0
  try clear c10
  try clear c10b0
  try clear p11
  try clear q11
  try clear hx11
  try clear p11
  try clear p6
  try clear q11
  try clear q6
  obtain ⟨kq, x21_1, rfl, HA, HJ1, ⟨mc1, rfl⟩⟩ := hcut
  cases kq with
  | zero => exact absurd HA.out (by simp [spec_l6Good.j0])
  | succ kj1 =>
   have H := HA.out
   clear HA
   simp only [spec_l6Good.j0] at H
   by_cases c12 : x21_1 = true
   ·subst c12
    have H1 : (some false) = some r := by rw [if_pos rfl] at H; exact H
    clear H
    have H := H1
    clear H1
    obtain rfl := Option.some.inj H
    go_wp2
    go_ret
    exact ⟨by first | rfl | (simp; done) | (simp [*]; done), by repeat (first | exact Drawn0.refl _ | apply Drawn0.step)⟩
   ·replace c12 := Bool.eq_false_iff.mpr c12
    subst c12
    have H1 : (spec_l6Good.l0 kj1 a0 (-1) 0) = some r := by rw [if_neg (show ¬ (false = true) by decide)] at H; exact H
    clear H
    have H := H1
    clear H1
    have H' := Aside0.mk H
    clear H
    go_wp2
    go_loopg [3, 4] kj1 (fun kq v3 v4 w' => ∃ (x3_2 : Int) (x4_2 : Int), v3 = .int .i64 x3_2 ∧ v4 = .int .i64 x4_2 ∧ Aside0 (spec_l6Good.l0 kq a0 x3_2 x4_2 = some r) ∧ Aside0 (kq ≤ kj1) ∧ Drawn0 w w')
    case atStart => exact ⟨((-1)), (0), (by first | rfl | (simp; done) | (simp [*]; done)), (by first | rfl | (simp; done) | (simp [*]; done)), H', ⟨Nat.le_refl _⟩, by repeat (first | exact Drawn0.refl _ | apply Drawn0.step)⟩
    case round =>
     clear H'
     try clear c1
     try clear p1
     try clear q1
     try clear hx1
     try clear c2
     try clear p2
     try clear c3
     try clear c4
     try clear c5
     try clear c5b0
     try clear c5b1
     try clear c5b2
     try clear p6
     try clear q6
     try clear hx6
     try clear qi6
     try clear c7
     try clear c7b0
     try clear c7b1
     try clear c9
     try clear c9b0
     try clear c10
     try clear c10b0
     try clear p11
     try clear q11
     try clear hx11
     try clear c12
     try clear p1
     try clear p11
     try clear p2
     try clear p6
     try clear q1
     try clear q11
     try clear q6
     obtain ⟨x3_2, x4_2, rfl, rfl, HA, HK2, ⟨m2, rfl⟩⟩ := hrel
     cases gk with
     | zero => exact absurd HA.out (by simp [spec_l6Good.l0])
     | succ k2 =>
      have H := HA.out
      clear HA
      simp only [spec_l6Good.l0] at H
      by_cases c13 : x4_2 < (a0.size : Int)
      ·rw [if_pos c13] at H
       have c13b0 : decide (x4_2 < (a0.size : Int)) = true := decide_eq_true c13
       clear c13
       have HC14 := Aside0.mk H
       clear H
       go_upto_region 7 with (fail)
       go_cut [28] (fun v28 wc => ∃ (kq : Nat) (x28_13 : Bool), v28 = .bool x28_13 ∧ Aside0 (spec_l6Good.j2 kq a0 x3_2 x4_2 x28_13 = some r) ∧ Aside0 (kq ≤ k2) ∧ Drawn0 w wc)
       case first =>
        have H := HC14.out
        clear HC14
        by_cases c15 : 0 ≤ x4_2
        ·rw [if_pos c15] at H
         have c15b0 : decide (0 ≤ x4_2) = true := decide_eq_true c15
         clear c15
         (first | rw [c15b0] | rw [c15b1] | rw [c15b2] | (simp only [i64_w, i32_w]; rw [c15b0]) | skip)
         by_cases c17 : (bt a0 x4_2) < 32
         ·rw [if_pos c17] at H
          have c17b0 : decide ((bt a0 x4_2) < 32) = true := decide_eq_true c17
          clear c17
          have H' := Aside0.mk H
          clear H
          have p16 : 0 ≤ (x4_2 : Int) := of_decide_eq_true (by first | (with_reducible assumption) | assumption)
          have q16 : x4_2 < (a0.size : Int) := of_decide_eq_true (by first | (with_reducible assumption) | assumption)
          have hx16 := bt_at a0 x4_2
          replace p16 := eq_true p16
          replace q16 := eq_true q16
          go_wp2
          go_meet
          case rel => exact ⟨_, (true), (by first | rfl | (simp; done) | (simp [*]; done)), H', ⟨by have := HJ1.out; have := HK2.out; first | omega | exact Nat.le_refl _⟩, by repeat (first | exact Drawn0.refl _ | apply Drawn0.step)⟩
         ·rw [if_neg c17] at H
          have c17b0 : decide ((bt a0 x4_2) < 32) = false := decide_eq_false c17
          clear c17
          have H' := Aside0.mk H
          clear H
          have p16 : 0 ≤ (x4_2 : Int) := of_decide_eq_true (by first | (with_reducible assumption) | assumption)
          have q16 : x4_2 < (a0.size : Int) := of_decide_eq_true (by first | (with_reducible assumption) | assumption)
          have hx16 := bt_at a0 x4_2
          replace p16 := eq_true p16
          replace q16 := eq_true q16
          have p18 : 0 ≤ (x4_2 : Int) := of_decide_eq_true (by first | (with_reducible assumption) | assumption)
          have q18 : x4_2 < (a0.size : Int) := of_decide_eq_true (by first | (with_reducible assumption) | assumption)
          have hx18 := bt_at a0 x4_2
          replace p18 := eq_true p18
          replace q18 := eq_true q18
          go_wp2
          go_meet
          case rel => exact ⟨_, (decide ((bt a0 x4_2) > 126)), (by first | rfl | (simp; done) | (simp [*]; done)), H', ⟨by have := HJ1.out; have := HK2.out; first | omega | exact Nat.le_refl _⟩, by repeat (first | exact Drawn0.refl _ | apply Drawn0.step)⟩
        ·rw [if_neg c15] at H
         exact absurd H (by simp)
       case rest =>
        clear HC14
        try clear c1
        try clear p1
        try clear q1
        try clear hx1
        try clear c2
        try clear p2
        try clear c3
        try clear c4
        try clear c5
        try clear c5b0
        try clear c5b1
        try clear c5b2
        try clear p6
        try clear q6
        try clear hx6
        try clear qi6
        try clear c7
        try clear c7b0
        try clear c7b1
        try clear c9
        try clear c9b0
        try clear c10
        try clear c10b0
        try clear p11
        try clear q11
        try clear hx11
        try clear c12
        try clear c13
        try clear c13b0
        try clear c15
        try clear c15b0
        try clear c15b1
        try clear c15b2
        try clear p16
        try clear q16
        try clear hx16
        try clear c17
        try clear c17b0
        try clear p18
        try clear q18
        try clear hx18
        try clear p1
        try clear p11
        try clear p16
        try clear p18
        try clear p2
        try clear p6
        try clear q1
        try clear q11
        try clear q16
        try clear q18
        try clear q6
        obtain ⟨kq, x28_13, rfl, HA, HJ13, ⟨mc13, rfl⟩⟩ := hcut
        cases kq with
        | zero => exact absurd HA.out (by simp [spec_l6Good.j2])
        | succ kj13 =>
         have H := HA.out
         clear HA
         simp only [spec_l6Good.j2] at H
         by_cases c19 : x28_13 = true
         ·subst c19
          have H1 : (some false) = some r := by rw [if_pos rfl] at H; exact H
          clear H
          have H := H1
          clear H1
          obtain rfl := Option.some.inj H
          go_wp2
          go_ret
          exact ⟨by first | rfl | (simp; done) | (simp [*]; done), by repeat (first | exact Drawn0.refl _ | apply Drawn0.step)⟩
         ·replace c19 := Bool.eq_false_iff.mpr c19
          subst c19
          have H1 : (if x4_2 > 0 then (if 0 ≤ x4_2 then (if x4_2 < (a0.size : Int) then (if (bt a0 x4_2) = 32 then (if 0 ≤ (wrap64 (x4_2 - 1)) then (if (wrap64 (x4_2 - 1)) < (a0.size : Int) then (spec_l6Good.j3 kj13 a0 x3_2 x4_2 ((bt a0 (wrap64 (x4_2 - 1))) == 32)) else (none)) else (none)) else (spec_l6Good.j3 kj13 a0 x3_2 x4_2 false)) else (none)) else (none)) else (spec_l6Good.j3 kj13 a0 x3_2 x4_2 false)) = some r := by rw [if_neg (show ¬ (false = true) by decide)] at H; exact H
          clear H
          have H := H1
          clear H1
          have HC20 := Aside0.mk H
          clear H
          go_upto_region 9 with (fail)
          go_cut [39] (fun v39 wc => ∃ (kq : Nat) (x39_19 : Bool), v39 = .bool x39_19 ∧ Aside0 (spec_l6Good.j3 kq a0 x3_2 x4_2 x39_19 = some r) ∧ Aside0 (kq ≤ kj13) ∧ Drawn0 w wc)
          case first =>
           have H := HC20.out
           clear HC20
           by_cases c21 : x4_2 > 0
           ·rw [if_pos c21] at H
            have c21b0 : decide (0 < x4_2) = true := decide_eq_true c21
            clear c21
            (first | rw [c21b0] | rw [c21b1] | rw [c21b2] | (simp only [i64_w, i32_w]; rw [c21b0]) | skip)
            by_cases c22 : 0 ≤ x4_2
            ·rw [if_pos c22] at H
             have c22b0 : decide (0 ≤ x4_2) = true := decide_eq_true c22
             clear c22
             by_cases c23 : x4_2 < (a0.size : Int)
             ·rw [if_pos c23] at H
              have c23b0 : decide (x4_2 < (a0.size : Int)) = true := decide_eq_true c23
              clear c23
              by_cases c25 : (bt a0 x4_2) = 32
              ·rw [if_pos c25] at H
               have c25b0 : ((bt a0 x4_2) == 32) = true := beq_iff_eq.mpr c25
               have c25b1 : ((bt a0 x4_2) != 32) = false := bne_eq_false_iff_eq.mpr c25
               clear c25
               obtain ⟨ji26, hji26⟩ : ∃ j_ : Int, (wrap64 (x4_2 - 1)) = j_ := ⟨_, rfl⟩
               replace H : (if 0 ≤ (ji26) then (if (ji26) < (a0.size : Int) then (spec_l6Good.j3 kj13 a0 x3_2 x4_2 ((bt a0 (ji26)) == 32)) else (none)) else (none)) = some r := by first | (rw [hji26] at H; exact H) | (simp only [hji26] at H ⊢; exact H)
               have hji26w : (IntKind.i64.wrap (x4_2 - 1)) = ji26 := (i64_w _).trans hji26
               by_cases c27 : 0 ≤ (ji26)
               ·rw [if_pos c27] at H
                have c27b0 : decide (0 ≤ (ji26)) = true := decide_eq_true c27
                clear c27
                by_cases c28 : (ji26) < (a0.size : Int)
                ·rw [if_pos c28] at H
                 have c28b0 : decide ((ji26) < (a0.size : Int)) = true := decide_eq_true c28
                 clear c28
                 have H' := Aside0.mk H
                 clear H
                 have p24 : 0 ≤ (x4_2 : Int) := of_decide_eq_true (by first | (with_reducible assumption) | assumption)
                 have q24 : x4_2 < (a0.size : Int) := of_decide_eq_true (by first | (with_reducible assumption) | assumption)
                 have hx24 := bt_at a0 x4_2
                 replace p24 := eq_true p24
                 replace q24 := eq_true q24
                 have p29 : 0 ≤ ((ji26) : Int) := of_decide_eq_true (by first | (with_reducible assumption) | assumption)
                 have q29 : (ji26) < (a0.size : Int) := of_decide_eq_true (by first | (with_reducible assumption) | assumption)
                 have hx29 := bt_at a0 (ji26)
                 replace p29 := eq_true p29
                 replace q29 := eq_true q29
                 go_wp2
                 go_meet
                 case rel => exact ⟨_, (((bt a0 (ji26)) == 32)), (by first | rfl | (simp; done) | (simp only [← hji26] <;> (first | rfl | simp)) | (simp [*]; done)), H', ⟨by have := HJ1.out; have := HK2.out; have := HJ13.out; first | omega | exact Nat.le_refl _⟩, by repeat (first | exact Drawn0.refl _ | apply Drawn0.step)⟩
                ·rw [if_neg c28] at H
                 exact absurd H (by simp)
               ·rw [if_neg c27] at H
                exact absurd H (by simp)
              ·rw [if_neg c25] at H
               have c25b0 : ((bt a0 x4_2) == 32) = false := beq_eq_false_iff_ne.mpr c25
               have c25b1 : ((bt a0 x4_2) != 32) = true := bne_iff_ne.mpr c25
               have H' := Aside0.mk H
               clear H
               have p24 : 0 ≤ (x4_2 : Int) := of_decide_eq_true (by first | (with_reducible assumption) | assumption)
               have q24 : x4_2 < (a0.size : Int) := of_decide_eq_true (by first | (with_reducible assumption) | assumption)
               have hx24 := bt_at a0 x4_2
               replace p24 := eq_true p24
               replace q24 := eq_true q24
               go_wp2
               go_meet
               case rel => exact ⟨_, (false), (by first | rfl | (simp; done) | (simp [*]; done)), H', ⟨by have := HJ1.out; have := HK2.out; have := HJ13.out; first | omega | exact Nat.le_refl _⟩, by repeat (first | exact Drawn0.refl _ | apply Drawn0.step)⟩
             ·rw [if_neg c23] at H
              exact absurd H (by simp)
            ·rw [if_neg c22] at H
             exact absurd H (by simp)
           ·rw [if_neg c21] at H
            have c21b0 : decide (0 < x4_2) = false := decide_eq_false c21
            clear c21
            (first | rw [c21b0] | rw [c21b1] | rw [c21b2] | (simp only [i64_w, i32_w]; rw [c21b0]) | skip)
            have H' := Aside0.mk H
            clear H
            go_wp2
            go_meet
            case rel => exact ⟨_, (false), (by first | rfl | (simp; done) | (simp [*]; done)), H', ⟨by have := HJ1.out; have := HK2.out; have := HJ13.out; first | omega | exact Nat.le_refl _⟩, by repeat (first | exact Drawn0.refl _ | apply Drawn0.step)⟩
          case rest =>
           clear HC20
           try clear c1
           try clear p1
           try clear q1
           try clear hx1
           try clear c2
           try clear p2
           try clear q2
           try clear hx2
           try clear c3
           try clear c4
           try clear c5
           try clear c5b0
           try clear c5b1
           try clear c5b2
           try clear p6
           try clear q6
           try clear hx6
           try clear qi6
           try clear c7
           try clear c7b0
           try clear c7b1
           try clear c9
           try clear c9b0
           try clear c10
           try clear c10b0
           try clear p11
           try clear q11
           try clear hx11
           try clear c12
           try clear c13
           try clear c13b0
           try clear c15
           try clear c15b0
           try clear c15b1
           try clear c15b2
           try clear p16
           try clear q16
           try clear hx16
           try clear c17
           try clear c17b0
           try clear p18
           try clear q18
           try clear hx18
           try clear c19
           try clear c21
           try clear c21b0
           try clear c21b1
           try clear c21b2
           try clear c22
           try clear c22b0
           try clear c23
           try clear c23b0
           try clear p24
           try clear q24
           try clear hx24
           try clear c25
           try clear c25b0
           try clear c25b1
           try clear c27
           try clear c27b0
           try clear c28
           try clear c28b0
           try clear p29
           try clear q29
           try clear hx29
           try clear p1
           try clear p11
           try clear p16
           try clear p18
           try clear p2
           try clear p24
           try clear p29
           try clear p6
           try clear q1
           try clear q11
           try clear q16
           try clear q18
           try clear q24
           try clear q29
           try clear q6
           obtain ⟨kq, x39_19, rfl, HA, HJ19, ⟨mc19, rfl⟩⟩ := hcut
           cases kq with
           | zero => exact absurd HA.out (by simp [spec_l6Good.j3])
           | succ kj19 =>
            have H := HA.out
            clear HA
            simp only [spec_l6Good.j3] at H
            by_cases c30 : x39_19 = true
            ·subst c30
             have H1 : (some false) = some r := by rw [if_pos rfl] at H; exact H
             clear H
             have H := H1
             clear H1
             obtain rfl := Option.some.inj H
             go_wp2
             go_ret
             exact ⟨by first | rfl | (simp; done) | (simp [*]; done), by repeat (first | exact Drawn0.refl _ | apply Drawn0.step)⟩
            ·replace c30 := Bool.eq_false_iff.mpr c30
             subst c30
             have H1 : (if 0 ≤ x4_2 then (if x4_2 < (a0.size : Int) then (if (bt a0 x4_2) = 123 then (if x3_2 ≥ 0 then (some false) else (spec_l6Good.l0 kj19 a0 x4_2 (wrap64 (x4_2 + 1)))) else (if (bt a0 x4_2) = 125 then (if x3_2 < 0 then (some false) else (if x3_2 = (wrap64 (x4_2 - 1)) then (some false) else (spec_l6Good.l0 kj19 a0 (-1) (wrap64 (x4_2 + 1))))) else (spec_l6Good.l0 kj19 a0 x3_2 (wrap64 (x4_2 + 1))))) else (none)) else (none)) = some r := by rw [if_neg (show ¬ (false = true) by decide)] at H; exact H
             clear H
             have H := H1
             clear H1
             by_cases c31 : 0 ≤ x4_2
             ·rw [if_pos c31] at H
              have c31b0 : decide (0 ≤ x4_2) = true := decide_eq_true c31
              clear c31
              by_cases c32 : x4_2 < (a0.size : Int)
              ·rw [if_pos c32] at H
               have c32b0 : decide (x4_2 < (a0.size : Int)) = true := decide_eq_true c32
               clear c32
               by_cases c34 : (bt a0 x4_2) = 123
               ·rw [if_pos c34] at H
                have c34b0 : ((bt a0 x4_2) == 123) = true := beq_iff_eq.mpr c34
                have c34b1 : ((bt a0 x4_2) != 123) = false := bne_eq_false_iff_eq.mpr c34
                clear c34
                by_cases c35 : x3_2 ≥ 0
                ·rw [if_pos c35] at H
                 have c35b0 : decide (0 ≤ x3_2) = true := decide_eq_true c35
                 clear c35
                 obtain rfl := Option.some.inj H
                 have p33 : 0 ≤ (x4_2 : Int) := of_decide_eq_true (by first | (with_reducible assumption) | assumption)
                 have q33 : x4_2 < (a0.size : Int) := of_decide_eq_true (by first | (with_reducible assumption) | assumption)
                 have hx33 := bt_at a0 x4_2
                 replace p33 := eq_true p33
                 replace q33 := eq_true q33
                 go_wp2
                 go_ret
                 exact ⟨by first | rfl | (simp; done) | (simp [*]; done), by repeat (first | exact Drawn0.refl _ | apply Drawn0.step)⟩
                ·rw [if_neg c35] at H
                 have c35b0 : decide (0 ≤ x3_2) = false := decide_eq_false c35
                 clear c35
                 have H' := Aside0.mk H
                 clear H
                 have p33 : 0 ≤ (x4_2 : Int) := of_decide_eq_true (by first | (with_reducible assumption) | assumption)
                 have q33 : x4_2 < (a0.size : Int) := of_decide_eq_true (by first | (with_reducible assumption) | assumption)
                 have hx33 := bt_at a0 x4_2
                 replace p33 := eq_true p33
                 replace q33 := eq_true q33
                 go_wp2
                 go_roundg kj19
                 case measure => have := HJ1.out; have := HK2.out; have := HJ13.out; have := HJ19.out; omega
                 case rel => exact ⟨(x4_2), (wrap64 (x4_2 + 1)), (by first | rfl | (simp; done) | (simp [*]; done)), (by first | rfl | (simp; done) | (simp [*]; done)), H', ⟨by have := HJ1.out; have := HK2.out; have := HJ13.out; have := HJ19.out; omega⟩, by repeat (first | exact Drawn0.refl _ | apply Drawn0.step)⟩
               ·rw [if_neg c34] at H
                have c34b0 : ((bt a0 x4_2) == 123) = false := beq_eq_false_iff_ne.mpr c34
                have c34b1 : ((bt a0 x4_2) != 123) = true := bne_iff_ne.mpr c34
                by_cases c37 : (bt a0 x4_2) = 125
                ·rw [if_pos c37] at H
                 have c37b0 : ((bt a0 x4_2) == 125) = true := beq_iff_eq.mpr c37
                 have c37b1 : ((bt a0 x4_2) != 125) = false := bne_eq_false_iff_eq.mpr c37
                 clear c37
                 by_cases c38 : x3_2 < 0
                 ·rw [if_pos c38] at H
                  have c38b0 : decide (x3_2 < 0) = true := decide_eq_true c38
                  clear c38
                  obtain rfl := Option.some.inj H
                  have p33 : 0 ≤ (x4_2 : Int) := of_decide_eq_true (by first | (with_reducible assumption) | assumption)
                  have q33 : x4_2 < (a0.size : Int) := of_decide_eq_true (by first | (with_reducible assumption) | assumption)
                  have hx33 := bt_at a0 x4_2
                  replace p33 := eq_true p33
                  replace q33 := eq_true q33
                  have p36 : 0 ≤ (x4_2 : Int) := of_decide_eq_true (by first | (with_reducible assumption) | assumption)
                  have q36 : x4_2 < (a0.size : Int) := of_decide_eq_true (by first | (with_reducible assumption) | assumption)
                  have hx36 := bt_at a0 x4_2
                  replace p36 := eq_true p36
                  replace q36 := eq_true q36
                  go_wp2
                  go_ret
                  exact ⟨by first | rfl | (simp; done) | (simp [*]; done), by repeat (first | exact Drawn0.refl _ | apply Drawn0.step)⟩
                 ·rw [if_neg c38] at H
                  have c38b0 : decide (x3_2 < 0) = false := decide_eq_false c38
                  clear c38
                  by_cases c39 : x3_2 = (wrap64 (x4_2 - 1))
                  ·rw [if_pos c39] at H
                   have c39b0 : (x3_2 == (wrap64 (x4_2 - 1))) = true := beq_iff_eq.mpr c39
                   have c39b1 : (x3_2 != (wrap64 (x4_2 - 1))) = false := bne_eq_false_iff_eq.mpr c39
                   clear c39
                   obtain rfl := Option.some.inj H
                   have p33 : 0 ≤ (x4_2 : Int) := of_decide_eq_true (by first | (with_reducible assumption) | assumption)
                   have q33 : x4_2 < (a0.size : Int) := of_decide_eq_true (by first | (with_reducible assumption) | assumption)
                   have hx33 := bt_at a0 x4_2
                   replace p33 := eq_true p33
                   replace q33 := eq_true q33
                   have p36 : 0 ≤ (x4_2 : Int) := of_decide_eq_true (by first | (with_reducible assumption) | assumption)
                   have q36 : x4_2 < (a0.size : Int) := of_decide_eq_true (by first | (with_reducible assumption) | assumption)
                   have hx36 := bt_at a0 x4_2
                   replace p36 := eq_true p36
                   replace q36 := eq_true q36
                   go_wp2
                   go_ret
                   exact ⟨by first | rfl | (simp; done) | (simp [*]; done), by repeat (first | exact Drawn0.refl _ | apply Drawn0.step)⟩
                  ·rw [if_neg c39] at H
                   have c39b0 : (x3_2 == (wrap64 (x4_2 - 1))) = false := beq_eq_false_iff_ne.mpr c39
                   have c39b1 : (x3_2 != (wrap64 (x4_2 - 1))) = true := bne_iff_ne.mpr c39
                   have H' := Aside0.mk H
                   clear H
                   have p33 : 0 ≤ (x4_2 : Int) := of_decide_eq_true (by first | (with_reducible assumption) | assumption)
                   have q33 : x4_2 < (a0.size : Int) := of_decide_eq_true (by first | (with_reducible assumption) | assumption)
                   have hx33 := bt_at a0 x4_2
                   replace p33 := eq_true p33
                   replace q33 := eq_true q33
                   have p36 : 0 ≤ (x4_2 : Int) := of_decide_eq_true (by first | (with_reducible assumption) | assumption)
                   have q36 : x4_2 < (a0.size : Int) := of_decide_eq_true (by first | (with_reducible assumption) | assumption)
                   have hx36 := bt_at a0 x4_2
                   replace p36 := eq_true p36
                   replace q36 := eq_true q36
                   go_wp2
                   go_roundg kj19
                   case measure => have := HJ1.out; have := HK2.out; have := HJ13.out; have := HJ19.out; omega
                   case rel => exact ⟨((-1)), (wrap64 (x4_2 + 1)), (by first | rfl | (simp; done) | (simp [*]; done)), (by first | rfl | (simp; done) | (simp [*]; done)), H', ⟨by have := HJ1.out; have := HK2.out; have := HJ13.out; have := HJ19.out; omega⟩, by repeat (first | exact Drawn0.refl _ | apply Drawn0.step)⟩
                ·rw [if_neg c37] at H
                 have c37b0 : ((bt a0 x4_2) == 125) = false := beq_eq_false_iff_ne.mpr c37
                 have c37b1 : ((bt a0 x4_2) != 125) = true := bne_iff_ne.mpr c37
                 have H' := Aside0.mk H
                 clear H
                 have p33 : 0 ≤ (x4_2 : Int) := of_decide_eq_true (by first | (with_reducible assumption) | assumption)
                 have q33 : x4_2 < (a0.size : Int) := of_decide_eq_true (by first | (with_reducible assumption) | assumption)
                 have hx33 := bt_at a0 x4_2
                 replace p33 := eq_true p33
                 replace q33 := eq_true q33
                 have p36 : 0 ≤ (x4_2 : Int) := of_decide_eq_true (by first | (with_reducible assumption) | assumption)
                 have q36 : x4_2 < (a0.size : Int) := of_decide_eq_true (by first | (with_reducible assumption) | assumption)
                 have hx36 := bt_at a0 x4_2
                 replace p36 := eq_true p36
                 replace q36 := eq_true q36
                 go_wp2
                 go_roundg kj19
                 case measure => have := HJ1.out; have := HK2.out; have := HJ13.out; have := HJ19.out; omega
                 case rel => exact ⟨(x3_2), (wrap64 (x4_2 + 1)), (by first | rfl | (simp; done) | (simp [*]; done)), (by first | rfl | (simp; done) | (simp [*]; done)), H', ⟨by have := HJ1.out; have := HK2.out; have := HJ13.out; have := HJ19.out; omega⟩, by repeat (first | exact Drawn0.refl _ | apply Drawn0.step)⟩
              ·rw [if_neg c32] at H
               exact absurd H (by simp)
             ·rw [if_neg c31] at H
              exact absurd H (by simp)
      ·rw [if_neg c13] at H
       have c13b0 : decide (x4_2 < (a0.size : Int)) = false := decide_eq_false c13
       clear c13
       obtain rfl := Option.some.inj H
       go_wp2
       go_ret
       exact ⟨by first | rfl | (simp; done) | (simp [*]; done), by repeat (first | exact Drawn0.refl _ | apply Drawn0.step)⟩

end Go.Proofs.YtiofklnfpmphnaaDoor.Px
