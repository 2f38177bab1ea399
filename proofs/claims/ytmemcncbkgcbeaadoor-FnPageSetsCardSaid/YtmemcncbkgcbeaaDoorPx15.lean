/- That calls of Go functions come to what the Lean functions beside them say; written by a program of this session (wip/xprint) over the printed words; no conditions. -/
import Derived.Test.YtmemcncbkgcbeaaDoorPx0
import Derived.Test.YtmemcncbkgcbeaaDoorPx9
import Derived.Test.YtmemcncbkgcbeaaDoorPx13
import Derived.Test.YtmemcncbkgcbeaaDoorPx14
namespace Go.Proofs.YtmemcncbkgcbeaaDoor.Px
open Go.RowKit Go.Proofs.YtmemcncbkgcbeaaDoorW.PrintWords Go.Proofs.YtmemcncbkgcbeaaDoorW.PrintLast Go.Proofs.YtmemcncbkgcbeaaDoorW.PrintMore
attribute [local go_sem] max2_int min2_int max_two min_two max_three min_three max_four min_four   -- for this text's walks alone
set_option linter.unusedVariables false
set_option linter.unusedSimpArgs false

/-! ### spec_LocatorText: function 13 -/
def spec_LocatorText.j0 : Nat → List (S34) → ByteArray → ByteArray → Option (ByteArray × Bool)
 | 0, _, _, _ => none
 | k + 1, x1, x6, x7 => (spec_l7Count.f k x1).bind fun t405 => (if t405 > 1 then (if x7.size + 1 ≤ 9223372036854775807 then ((spec_l7List.f k x1).bind fun t406 => (if (x7 ++ (⟨#[32]⟩ : ByteArray)).size + t406.size ≤ 9223372036854775807 then (some ((x7 ++ (⟨#[32]⟩ : ByteArray)) ++ t406, true)) else (none))) else (none)) else (if x6.size + 1 ≤ 9223372036854775807 then ((spec_l7List.f k x1).bind fun t407 => (if (x6 ++ (⟨#[32]⟩ : ByteArray)).size + t407.size ≤ 9223372036854775807 then (some ((x6 ++ (⟨#[32]⟩ : ByteArray)) ++ t407, true)) else (none))) else (none)))
def spec_LocatorText.f (k : Nat) (a0 : ByteArray) (l1 : List (S34)) : Option (ByteArray × Bool) := (spec_l7Good.f k l1).bind fun t404 => (if t404 = true then (if a0.toList = ([112, 97, 103, 101] : List UInt8) then (spec_LocatorText.j0 k l1 (⟨#[112, 46]⟩ : ByteArray) (⟨#[112, 112, 46]⟩ : ByteArray)) else (if a0.toList = ([108, 105, 110, 101] : List UInt8) then (spec_LocatorText.j0 k l1 (⟨#[108, 46]⟩ : ByteArray) (⟨#[108, 108, 46]⟩ : ByteArray)) else (if a0.toList = ([99, 104, 97, 112, 116, 101, 114] : List UInt8) then (spec_LocatorText.j0 k l1 (⟨#[99, 104, 46]⟩ : ByteArray) (⟨#[99, 104, 115, 46]⟩ : ByteArray)) else (if a0.toList = ([115, 101, 99, 116, 105, 111, 110] : List UInt8) then (spec_LocatorText.j0 k l1 (⟨#[115, 101, 99, 46]⟩ : ByteArray) (⟨#[115, 101, 99, 115, 46]⟩ : ByteArray)) else (some ((⟨#[]⟩ : ByteArray), false)))))) else (some ((⟨#[]⟩ : ByteArray), false)))
theorem spec_LocatorText.mono_l : ∀ k, (∀ y0 y1 y2, LeO (spec_LocatorText.j0 k y0 y1 y2) (spec_LocatorText.j0 (k + 1) y0 y1 y2))
 | 0 => fun _ _ _ r h => by simp [spec_LocatorText.j0] at h
 | k + 1 => by
  have ih0 := spec_LocatorText.mono_l k
  ·intro y0 y1 y2
   unfold spec_LocatorText.j0
   repeat' first
   | (with_reducible exact ih0 _ _ _)
   | (with_reducible exact spec_l7Count.mono _ _)
   | (with_reducible exact spec_l7Good.mono _ _)
   | (with_reducible exact spec_l7List.mono _ _)
   | (with_reducible exact LeO.refl _)
   | (with_reducible exact LeO.none _)
   | (with_reducible refine LeO.ite ?_ ?_)
   | (with_reducible refine LeO.bind ?_ (fun _ => ?_))
   | exact ih0 _ _ _
   | exact spec_l7Count.mono _ _
   | exact spec_l7Good.mono _ _
   | exact spec_l7List.mono _ _
   | exact LeO.none _
   | refine LeO.ite ?_ ?_
   | refine LeO.bind ?_ (fun _ => ?_)
theorem spec_LocatorText.mono : ∀ a0 a1 k, LeO (spec_LocatorText.f k a0 a1) (spec_LocatorText.f (k + 1) a0 a1) := by
 intro a0 a1 k
 have ih0 := spec_LocatorText.mono_l k
 unfold spec_LocatorText.f
 repeat' first
   | (with_reducible exact ih0 _ _ _)
   | (with_reducible exact spec_l7Count.mono _ _)
   | (with_reducible exact spec_l7Good.mono _ _)
   | (with_reducible exact spec_l7List.mono _ _)
   | (with_reducible exact LeO.refl _)
   | (with_reducible exact LeO.none _)
   | (with_reducible refine LeO.ite ?_ ?_)
   | (with_reducible refine LeO.bind ?_ (fun _ => ?_))
   | exact ih0 _ _ _
   | exact spec_l7Count.mono _ _
   | exact spec_l7Good.mono _ _
   | exact spec_l7List.mono _ _
   | exact LeO.none _
   | refine LeO.ite ?_ ?_
   | refine LeO.bind ?_ (fun _ => ?_)
set_option maxHeartbeats 8000000 in
set_option maxRecDepth 100000 in
theorem spec_LocatorText.calls (k : Nat) (a0 : ByteArray) (A1 : Option Addr) (c1 : Nat) (l1 : List (S34)) (r1 : ByteArray) (r2 : Bool) (w : World) (hr1 : Kd.C k34 w A1 l1.length l1) (hc1 : l1.length ≤ c1) (h : spec_LocatorText.f k a0 l1 = some (r1, r2)) :
  Calls Tryd.prog 13 #[.string a0, .slice A1 l1.length c1] w fun e w' => e = .returned (.tuple #[.string r1, .bool r2]) ∧ Below w.heap.size w w' := by
 have HR1 := Aside0.mk hr1
 have HC1 := Aside0.mk hc1
 clear hr1 hc1
 have HB := Aside0.mk (Below.refl w.heap.size w)
 have H : ((spec_l7Good.f k l1).bind fun t404 => (if t404 = true then (if a0.toList = ([112, 97, 103, 101] : List UInt8) then (spec_LocatorText.j0 k l1 (⟨#[112, 46]⟩ : ByteArray) (⟨#[112, 112, 46]⟩ : ByteArray)) else (if a0.toList = ([108, 105, 110, 101] : List UInt8) then (spec_LocatorText.j0 k l1 (⟨#[108, 46]⟩ : ByteArray) (⟨#[108, 108, 46]⟩ : ByteArray)) else (if a0.toList = ([99, 104, 97, 112, 116, 101, 114] : List UInt8) then (spec_LocatorText.j0 k l1 (⟨#[99, 104, 46]⟩ : ByteArray) (⟨#[99, 104, 115, 46]⟩ : ByteArray)) else (if a0.toList = ([115, 101, 99, 116, 105, 111, 110] : List UInt8) then (spec_LocatorText.j0 k l1 (⟨#[115, 101, 99, 46]⟩ : ByteArray) (⟨#[115, 101, 99, 115, 46]⟩ : ByteArray)) else (some ((⟨#[]⟩ : ByteArray), false)))))) else (some ((⟨#[]⟩ : ByteArray), false)))) = some (r1, r2) := h
 clear h
 replace H := Option.bind_eq_some_iff.mp H
 obtain ⟨t404, A30, H⟩ := H
 replace H : (if t404 = true then (if a0.toList = ([112, 97, 103, 101] : List UInt8) then (spec_LocatorText.j0 k l1 (⟨#[112, 46]⟩ : ByteArray) (⟨#[112, 112, 46]⟩ : ByteArray)) else (if a0.toList = ([108, 105, 110, 101] : List UInt8) then (spec_LocatorText.j0 k l1 (⟨#[108, 46]⟩ : ByteArray) (⟨#[108, 108, 46]⟩ : ByteArray)) else (if a0.toList = ([99, 104, 97, 112, 116, 101, 114] : List UInt8) then (spec_LocatorText.j0 k l1 (⟨#[99, 104, 46]⟩ : ByteArray) (⟨#[99, 104, 115, 46]⟩ : ByteArray)) else (if a0.toList = ([115, 101, 99, 116, 105, 111, 110] : List UInt8) then (spec_LocatorText.j0 k l1 (⟨#[115, 101, 99, 46]⟩ : ByteArray) (⟨#[115, 101, 99, 115, 46]⟩ : ByteArray)) else (some ((⟨#[]⟩ : ByteArray), false)))))) else (some ((⟨#[]⟩ : ByteArray), false))) = some (r1, r2) := H
 have A3 := Aside0.mk A30
 clear A30
 by_cases c4 : t404 = true
 ·subst c4
  have H1 : (if a0.toList = ([112, 97, 103, 101] : List UInt8) then (spec_LocatorText.j0 k l1 (⟨#[112, 46]⟩ : ByteArray) (⟨#[112, 112, 46]⟩ : ByteArray)) else (if a0.toList = ([108, 105, 110, 101] : List UInt8) then (spec_LocatorText.j0 k l1 (⟨#[108, 46]⟩ : ByteArray) (⟨#[108, 108, 46]⟩ : ByteArray)) else (if a0.toList = ([99, 104, 97, 112, 116, 101, 114] : List UInt8) then (spec_LocatorText.j0 k l1 (⟨#[99, 104, 46]⟩ : ByteArray) (⟨#[99, 104, 115, 46]⟩ : ByteArray)) else (if a0.toList = ([115, 101, 99, 116, 105, 111, 110] : List UInt8) then (spec_LocatorText.j0 k l1 (⟨#[115, 101, 99, 46]⟩ : ByteArray) (⟨#[115, 101, 99, 115, 46]⟩ : ByteArray)) else (some ((⟨#[]⟩ : ByteArray), false)))))) = some (r1, r2) := by rw [if_pos rfl] at H; exact H
  clear H
  have H := H1
  clear H1
  have HC5 := Aside0.mk H
  clear H
  go_enter Tryd.func13, Tryd.ntmps13
  go_upto_block 0 with (first | ((with_reducible refine gate_callee (f := 17) rfl ?_); refine goesL_ (some 9) rfl rfl Tryd.func17 (by kernel_rfl) rfl #[.slice A1 l1.length c1] rfl (by (try simp only [List.map_toArray, List.map_cons, List.map_nil]); first | done | rfl | (simp only [List.length_drop, List.length_take]; rfl)) ?_; (with_reducible refine (spec_l7Good.calls k _ _ l1 true _ ?side1 ?side2 A3.out).mono ?_); (case side1 => repeat (first | exact HR1.out | (with_reducible refine Kd.C_alloc ?_ _) | (with_reducible refine Kd.C_drewN ?_ _) | (with_reducible refine Kd.C_drew ?_))); (case side2 => exact HC1.out); rintro e w6 ⟨rfl, hb⟩; refine ⟨_, rfl, ?_⟩; have n0_ := Aside0.mk (below_step (by repeat (first | (with_reducible first | exact HB.out | apply below_alloc | apply pw_below_drewN | apply below_drew1) | exact HB.out)) hb); clear HB; have HB := n0_; clear n0_; (try clear hb); (try clear hb2); (try clear hk); (try clear hi)))
  (try simp only [Act.put, List.setIfInBounds_toArray, List.set_cons_zero, List.set_cons_succ])
  go_cut [6, 7] (fun v6 v7 wc => ∃ (kq : Nat) (x6_4 : ByteArray) (x7_4 : ByteArray), v6 = .string x6_4 ∧ v7 = .string x7_4 ∧ Aside0 (spec_LocatorText.j0 kq l1 x6_4 x7_4 = some (r1, r2)) ∧ Aside0 (kq ≤ k) ∧ Aside0 (Below w.heap.size w wc))
  case first =>
   have H := HC5.out
   clear HC5
   by_cases c7 : a0.toList = ([112, 97, 103, 101] : List UInt8)
   ·rw [if_pos c7] at H
    have c7b0 : (a0.toList == ([112, 97, 103, 101] : List UInt8)) = true := beq_iff_eq.mpr c7
    have c7b1 : (a0.toList != ([112, 97, 103, 101] : List UInt8)) = false := bne_eq_false_iff_eq.mpr c7
    clear c7
    (first | rw [c7b0] | rw [c7b1] | rw [c7b2] | (simp only [i64_w, i32_w]; rw [c7b0]) | skip)
    have H' := Aside0.mk H
    clear H
    go_wp2
    go_meet
    case rel => exact ⟨_, ((⟨#[112, 46]⟩ : ByteArray)), ((⟨#[112, 112, 46]⟩ : ByteArray)), (by first | rfl | (simp; done) | (simp [*]; done)), (by first | rfl | (simp; done) | (simp [*]; done)), H', ⟨by first | omega | exact Nat.le_refl _⟩, ⟨by repeat (first | (with_reducible first | exact HB.out | apply below_alloc | apply pw_below_drewN | apply below_drew1) | exact HB.out)⟩⟩
   ·rw [if_neg c7] at H
    have c7b0 : (a0.toList == ([112, 97, 103, 101] : List UInt8)) = false := beq_eq_false_iff_ne.mpr c7
    have c7b1 : (a0.toList != ([112, 97, 103, 101] : List UInt8)) = true := bne_iff_ne.mpr c7
    (first | rw [c7b0] | rw [c7b1] | rw [c7b2] | (simp only [i64_w, i32_w]; rw [c7b0]) | skip)
    by_cases c8 : a0.toList = ([108, 105, 110, 101] : List UInt8)
    ·rw [if_pos c8] at H
     have c8b0 : (a0.toList == ([108, 105, 110, 101] : List UInt8)) = true := beq_iff_eq.mpr c8
     have c8b1 : (a0.toList != ([108, 105, 110, 101] : List UInt8)) = false := bne_eq_false_iff_eq.mpr c8
     clear c8
     have H' := Aside0.mk H
     clear H
     go_wp2
     go_meet
     case rel => exact ⟨_, ((⟨#[108, 46]⟩ : ByteArray)), ((⟨#[108, 108, 46]⟩ : ByteArray)), (by first | rfl | (simp; done) | (simp [*]; done)), (by first | rfl | (simp; done) | (simp [*]; done)), H', ⟨by first | omega | exact Nat.le_refl _⟩, ⟨by repeat (first | (with_reducible first | exact HB.out | apply below_alloc | apply pw_below_drewN | apply below_drew1) | exact HB.out)⟩⟩
    ·rw [if_neg c8] at H
     have c8b0 : (a0.toList == ([108, 105, 110, 101] : List UInt8)) = false := beq_eq_false_iff_ne.mpr c8
     have c8b1 : (a0.toList != ([108, 105, 110, 101] : List UInt8)) = true := bne_iff_ne.mpr c8
     by_cases c9 : a0.toList = ([99, 104, 97, 112, 116, 101, 114] : List UInt8)
     ·rw [if_pos c9] at H
      have c9b0 : (a0.toList == ([99, 104, 97, 112, 116, 101, 114] : List UInt8)) = true := beq_iff_eq.mpr c9
      have c9b1 : (a0.toList != ([99, 104, 97, 112, 116, 101, 114] : List UInt8)) = false := bne_eq_false_iff_eq.mpr c9
      clear c9
      have H' := Aside0.mk H
      clear H
      go_wp2
      go_meet
      case rel => exact ⟨_, ((⟨#[99, 104, 46]⟩ : ByteArray)), ((⟨#[99, 104, 115, 46]⟩ : ByteArray)), (by first | rfl | (simp; done) | (simp [*]; done)), (by first | rfl | (simp; done) | (simp [*]; done)), H', ⟨by first | omega | exact Nat.le_refl _⟩, ⟨by repeat (first | (with_reducible first | exact HB.out | apply below_alloc | apply pw_below_drewN | apply below_drew1) | exact HB.out)⟩⟩
     ·rw [if_neg c9] at H
      have c9b0 : (a0.toList == ([99, 104, 97, 112, 116, 101, 114] : List UInt8)) = false := beq_eq_false_iff_ne.mpr c9
      have c9b1 : (a0.toList != ([99, 104, 97, 112, 116, 101, 114] : List UInt8)) = true := bne_iff_ne.mpr c9
      by_cases c10 : a0.toList = ([115, 101, 99, 116, 105, 111, 110] : List UInt8)
      ·rw [if_pos c10] at H
       have c10b0 : (a0.toList == ([115, 101, 99, 116, 105, 111, 110] : List UInt8)) = true := beq_iff_eq.mpr c10
       have c10b1 : (a0.toList != ([115, 101, 99, 116, 105, 111, 110] : List UInt8)) = false := bne_eq_false_iff_eq.mpr c10
       clear c10
       have H' := Aside0.mk H
       clear H
       go_wp2
       go_meet
       case rel => exact ⟨_, ((⟨#[115, 101, 99, 46]⟩ : ByteArray)), ((⟨#[115, 101, 99, 115, 46]⟩ : ByteArray)), (by first | rfl | (simp; done) | (simp [*]; done)), (by first | rfl | (simp; done) | (simp [*]; done)), H', ⟨by first | omega | exact Nat.le_refl _⟩, ⟨by repeat (first | (with_reducible first | exact HB.out | apply below_alloc | apply pw_below_drewN | apply below_drew1) | exact HB.out)⟩⟩
      ·rw [if_neg c10] at H
       have c10b0 : (a0.toList == ([115, 101, 99, 116, 105, 111, 110] : List UInt8)) = false := beq_eq_false_iff_ne.mpr c10
       have c10b1 : (a0.toList != ([115, 101, 99, 116, 105, 111, 110] : List UInt8)) = true := bne_iff_ne.mpr c10
       simp only [Option.some.injEq, Prod.mk.injEq] at H
       obtain ⟨rfl, rfl⟩ := H
       go_wp2
       go_ret2
       exact ⟨by first | rfl | (simp [errW_none, errW_some] <;> rfl) | (simp [*, errW_none, errW_some] <;> rfl) | (simp [errW_none, errW_some] <;> (apply Bool.eq_iff_iff.2; simp [List.isEmpty_iff])), by repeat (first | (with_reducible first | exact HB.out | apply below_alloc | apply pw_below_drewN | apply below_drew1) | exact HB.out)⟩
  case rest =>
   clear HC5
   try clear c1
   try clear p2
   try clear c4
   try clear c7
   try clear c7b0
   try clear c7b1
   try clear c7b2
   try clear c8
   try clear c8b0
   try clear c8b1
   try clear c9
   try clear c9b0
   try clear c9b1
   try clear c10
   try clear c10b0
   try clear c10b1
   obtain ⟨kq, x6_4, x7_4, rfl, rfl, HA, HJ4, HB⟩ := hcut
   cases kq with
   | zero => exact absurd HA.out (by simp [spec_LocatorText.j0])
   | succ kj4 =>
    have H := HA.out
    clear HA
    simp only [spec_LocatorText.j0] at H
    replace H := Option.bind_eq_some_iff.mp H
    obtain ⟨t405, A110, H⟩ := H
    replace H : (if t405 > 1 then (if x7_4.size + 1 ≤ 9223372036854775807 then ((spec_l7List.f kj4 l1).bind fun t406 => (if (x7_4 ++ (⟨#[32]⟩ : ByteArray)).size + t406.size ≤ 9223372036854775807 then (some ((x7_4 ++ (⟨#[32]⟩ : ByteArray)) ++ t406, true)) else (none))) else (none)) else (if x6_4.size + 1 ≤ 9223372036854775807 then ((spec_l7List.f kj4 l1).bind fun t407 => (if (x6_4 ++ (⟨#[32]⟩ : ByteArray)).size + t407.size ≤ 9223372036854775807 then (some ((x6_4 ++ (⟨#[32]⟩ : ByteArray)) ++ t407, true)) else (none))) else (none))) = some (r1, r2) := H
    have A11 := Aside0.mk A110
    clear A110
    by_cases c12 : t405 > 1
    ·rw [if_pos c12] at H
     have c12b0 : decide (1 < t405) = true := decide_eq_true c12
     clear c12
     by_cases c13 : x7_4.size + 1 ≤ 9223372036854775807
     ·rw [if_pos c13] at H
      have c13b0 := eq_true c13
      have c13b1 : decide (x7_4.size + 1 ≤ 9223372036854775807) = true := decide_eq_true c13
      try have c13b2 : (9223372036854775807 < x7_4.size + 1) = False := eq_false (Nat.not_lt.2 c13)
      replace H := Option.bind_eq_some_iff.mp H
      obtain ⟨t406, A140, H⟩ := H
      replace H : (if (x7_4 ++ (⟨#[32]⟩ : ByteArray)).size + t406.size ≤ 9223372036854775807 then (some ((x7_4 ++ (⟨#[32]⟩ : ByteArray)) ++ t406, true)) else (none)) = some (r1, r2) := H
      have A14 := Aside0.mk A140
      clear A140
      by_cases c15 : (x7_4 ++ (⟨#[32]⟩ : ByteArray)).size + t406.size ≤ 9223372036854775807
      ·rw [if_pos c15] at H
       have c15b0 := eq_true c15
       have c15b1 : decide ((x7_4 ++ (⟨#[32]⟩ : ByteArray)).size + t406.size ≤ 9223372036854775807) = true := decide_eq_true c15
       try have c15b2 : (9223372036854775807 < (x7_4 ++ (⟨#[32]⟩ : ByteArray)).size + t406.size) = False := eq_false (Nat.not_lt.2 c15)
       try have c15b3 : (9223372036854775807 < x7_4.size + 1 + t406.size) = False := eq_false (by have h_ := c15; simp only [ByteArray.size_append, ByteArray.size_extract] at h_; (try simp only [show (⟨#[32]⟩ : ByteArray).size = 1 from rfl] at h_); (try have q0_ := of_eq_true c12b0); (try have q1_ := of_eq_true c13b0); omega)
       simp only [Option.some.injEq, Prod.mk.injEq] at H
       obtain ⟨rfl, rfl⟩ := H
       go_wp2_with (first | ((with_reducible refine gate_callee (f := 28) rfl ?_); refine goesL_ (some 21) rfl rfl Tryd.func28 (by kernel_rfl) rfl #[.slice A1 l1.length c1] rfl (by (try simp only [List.map_toArray, List.map_cons, List.map_nil]); first | done | rfl | (simp only [List.length_drop, List.length_take]; rfl)) ?_; (with_reducible refine (spec_l7Count.calls kj4 _ _ l1 t405 _ ?side1 ?side2 A11.out).mono ?_); (case side1 => repeat (first | exact (Kd.C_below HR1.out HB.out) | (with_reducible refine Kd.C_alloc ?_ _) | (with_reducible refine Kd.C_drewN ?_ _) | (with_reducible refine Kd.C_drew ?_))); (case side2 => exact HC1.out); rintro e w16 ⟨rfl, hb⟩; refine ⟨_, rfl, ?_⟩; have n0_ := Aside0.mk (below_step (by repeat (first | (with_reducible first | exact HB.out | apply below_alloc | apply pw_below_drewN | apply below_drew1) | exact HB.out)) hb); clear HB; have HB := n0_; clear n0_; (try clear hb); (try clear hb2); (try clear hk); (try clear hi)) | ((with_reducible refine gate_callee (f := 29) rfl ?_); refine goesL_ (some 27) rfl rfl Tryd.func29 (by kernel_rfl) rfl #[.slice A1 l1.length c1] rfl (by (try simp only [List.map_toArray, List.map_cons, List.map_nil]); first | done | rfl | (simp only [List.length_drop, List.length_take]; rfl)) ?_; (with_reducible refine (spec_l7List.calls kj4 _ _ l1 t406 _ ?side1 ?side2 A14.out).mono ?_); (case side1 => repeat (first | exact (Kd.C_below HR1.out HB.out) | (with_reducible refine Kd.C_alloc ?_ _) | (with_reducible refine Kd.C_drewN ?_ _) | (with_reducible refine Kd.C_drew ?_))); (case side2 => exact HC1.out); rintro e w17 ⟨rfl, hb⟩; refine ⟨_, rfl, ?_⟩; have n0_ := Aside0.mk (below_step (by repeat (first | (with_reducible first | exact HB.out | apply below_alloc | apply pw_below_drewN | apply below_drew1) | exact HB.out)) hb); clear HB; have HB := n0_; clear n0_; (try clear hb); (try clear hb2); (try clear hk); (try clear hi)))
       go_ret2
       exact ⟨by first | rfl | (simp [errW_none, errW_some] <;> rfl) | (simp [*, errW_none, errW_some] <;> rfl) | (simp [errW_none, errW_some] <;> (apply Bool.eq_iff_iff.2; simp [List.isEmpty_iff])), by repeat (first | (with_reducible first | exact HB.out | apply below_alloc | apply pw_below_drewN | apply below_drew1) | exact HB.out)⟩
      ·rw [if_neg c15] at H
       exact absurd H (by simp)
     ·rw [if_neg c13] at H
      exact absurd H (by simp)
    ·rw [if_neg c12] at H
     have c12b0 : decide (1 < t405) = false := decide_eq_false c12
     clear c12
     by_cases c18 : x6_4.size + 1 ≤ 9223372036854775807
     ·rw [if_pos c18] at H
      have c18b0 := eq_true c18
      have c18b1 : decide (x6_4.size + 1 ≤ 9223372036854775807) = true := decide_eq_true c18
      try have c18b2 : (9223372036854775807 < x6_4.size + 1) = False := eq_false (Nat.not_lt.2 c18)
      replace H := Option.bind_eq_some_iff.mp H
      obtain ⟨t407, A190, H⟩ := H
      replace H : (if (x6_4 ++ (⟨#[32]⟩ : ByteArray)).size + t407.size ≤ 9223372036854775807 then (some ((x6_4 ++ (⟨#[32]⟩ : ByteArray)) ++ t407, true)) else (none)) = some (r1, r2) := H
      have A19 := Aside0.mk A190
      clear A190
      by_cases c20 : (x6_4 ++ (⟨#[32]⟩ : ByteArray)).size + t407.size ≤ 9223372036854775807
      ·rw [if_pos c20] at H
       have c20b0 := eq_true c20
       have c20b1 : decide ((x6_4 ++ (⟨#[32]⟩ : ByteArray)).size + t407.size ≤ 9223372036854775807) = true := decide_eq_true c20
       try have c20b2 : (9223372036854775807 < (x6_4 ++ (⟨#[32]⟩ : ByteArray)).size + t407.size) = False := eq_false (Nat.not_lt.2 c20)
       try have c20b3 : (9223372036854775807 < x6_4.size + 1 + t407.size) = False := eq_false (by have h_ := c20; simp only [ByteArray.size_append, ByteArray.size_extract] at h_; (try simp only [show (⟨#[32]⟩ : ByteArray).size = 1 from rfl] at h_); (try have q0_ := of_eq_true c12b0); (try have q1_ := of_eq_true c18b0); omega)
       simp only [Option.some.injEq, Prod.mk.injEq] at H
       obtain ⟨rfl, rfl⟩ := H
       go_wp2_with (first | ((with_reducible refine gate_callee (f := 28) rfl ?_); refine goesL_ (some 21) rfl rfl Tryd.func28 (by kernel_rfl) rfl #[.slice A1 l1.length c1] rfl (by (try simp only [List.map_toArray, List.map_cons, List.map_nil]); first | done | rfl | (simp only [List.length_drop, List.length_take]; rfl)) ?_; (with_reducible refine (spec_l7Count.calls kj4 _ _ l1 t405 _ ?side1 ?side2 A11.out).mono ?_); (case side1 => repeat (first | exact (Kd.C_below HR1.out HB.out) | (with_reducible refine Kd.C_alloc ?_ _) | (with_reducible refine Kd.C_drewN ?_ _) | (with_reducible refine Kd.C_drew ?_))); (case side2 => exact HC1.out); rintro e w21 ⟨rfl, hb⟩; refine ⟨_, rfl, ?_⟩; have n0_ := Aside0.mk (below_step (by repeat (first | (with_reducible first | exact HB.out | apply below_alloc | apply pw_below_drewN | apply below_drew1) | exact HB.out)) hb); clear HB; have HB := n0_; clear n0_; (try clear hb); (try clear hb2); (try clear hk); (try clear hi)) | ((with_reducible refine gate_callee (f := 29) rfl ?_); refine goesL_ (some 27) rfl rfl Tryd.func29 (by kernel_rfl) rfl #[.slice A1 l1.length c1] rfl (by (try simp only [List.map_toArray, List.map_cons, List.map_nil]); first | done | rfl | (simp only [List.length_drop, List.length_take]; rfl)) ?_; (with_reducible refine (spec_l7List.calls kj4 _ _ l1 t407 _ ?side1 ?side2 A19.out).mono ?_); (case side1 => repeat (first | exact (Kd.C_below HR1.out HB.out) | (with_reducible refine Kd.C_alloc ?_ _) | (with_reducible refine Kd.C_drewN ?_ _) | (with_reducible refine Kd.C_drew ?_))); (case side2 => exact HC1.out); rintro e w22 ⟨rfl, hb⟩; refine ⟨_, rfl, ?_⟩; have n0_ := Aside0.mk (below_step (by repeat (first | (with_reducible first | exact HB.out | apply below_alloc | apply pw_below_drewN | apply below_drew1) | exact HB.out)) hb); clear HB; have HB := n0_; clear n0_; (try clear hb); (try clear hb2); (try clear hk); (try clear hi)))
       go_ret2
       exact ⟨by first | rfl | (simp [errW_none, errW_some] <;> rfl) | (simp [*, errW_none, errW_some] <;> rfl) | (simp [errW_none, errW_some] <;> (apply Bool.eq_iff_iff.2; simp [List.isEmpty_iff])), by repeat (first | (with_reducible first | exact HB.out | apply below_alloc | apply pw_below_drewN | apply below_drew1) | exact HB.out)⟩
      ·rw [if_neg c20] at H
       exact absurd H (by simp)
     ·rw [if_neg c18] at H
      exact absurd H (by simp)
 ·replace c4 := Bool.eq_false_iff.mpr c4
  subst c4
  have H1 : (some ((⟨#[]⟩ : ByteArray), false)) = some (r1, r2) := by rw [if_neg (show ¬ (false = true) by decide)] at H; exact H
  clear H
  have H := H1
  clear H1
  simp only [Option.some.injEq, Prod.mk.injEq] at H
  obtain ⟨rfl, rfl⟩ := H
  go_enter Tryd.func13, Tryd.ntmps13
  go_wp2_with (first | ((with_reducible refine gate_callee (f := 17) rfl ?_); refine goesL_ (some 9) rfl rfl Tryd.func17 (by kernel_rfl) rfl #[.slice A1 l1.length c1] rfl (by (try simp only [List.map_toArray, List.map_cons, List.map_nil]); first | done | rfl | (simp only [List.length_drop, List.length_take]; rfl)) ?_; (with_reducible refine (spec_l7Good.calls k _ _ l1 false _ ?side1 ?side2 A3.out).mono ?_); (case side1 => repeat (first | exact HR1.out | (with_reducible refine Kd.C_alloc ?_ _) | (with_reducible refine Kd.C_drewN ?_ _) | (with_reducible refine Kd.C_drew ?_))); (case side2 => exact HC1.out); rintro e w23 ⟨rfl, hb⟩; refine ⟨_, rfl, ?_⟩; have n0_ := Aside0.mk (below_step (by repeat (first | (with_reducible first | exact HB.out | apply below_alloc | apply pw_below_drewN | apply below_drew1) | exact HB.out)) hb); clear HB; have HB := n0_; clear n0_; (try clear hb); (try clear hb2); (try clear hk); (try clear hi)))
  go_ret2
  exact ⟨by first | rfl | (simp [errW_none, errW_some] <;> rfl) | (simp [*, errW_none, errW_some] <;> rfl) | (simp [errW_none, errW_some] <;> (apply Bool.eq_iff_iff.2; simp [List.isEmpty_iff])), by repeat (first | (with_reducible first | exact HB.out | apply below_alloc | apply pw_below_drewN | apply below_drew1) | exact HB.out)⟩

end Go.Proofs.YtmemcncbkgcbeaaDoor.Px
