/- That calls of Go functions come to what the Lean functions beside them say; written by a program of this session (wip/xprint) over the printed words; no conditions. -/
import Derived.Test.YtjckholdcgjdnaaDoorPx0
import Derived.Test.YtjckholdcgjdnaaDoorPx1
import Derived.Test.YtjckholdcgjdnaaDoorPx5
import Derived.Test.YtjckholdcgjdnaaDoorPx6
import Derived.Test.YtjckholdcgjdnaaDoorPx7
namespace Go.Proofs.YtjckholdcgjdnaaDoor.Px
open Go.RowKit Go.Proofs.YtjckholdcgjdnaaDoorW.PrintWords Go.Proofs.YtjckholdcgjdnaaDoorW.PrintLast Go.Proofs.YtjckholdcgjdnaaDoorW.PrintMore
attribute [local go_sem] max2_int min2_int max_two min_two max_three min_three max_four min_four   -- for this text's walks alone
set_option linter.unusedVariables false
set_option linter.unusedSimpArgs false

/-! ### spec_l7Count: function 64 -/
def spec_l7Count.l0 : Nat → Int → List (S27) → Int → Option (Int)
 | 0, _, _, _ => none
 | k + 1, x3, x4, x5 => if x5 < (x4.length : Int) then (if 0 ≤ x5 then (spec_l7Count.l0 k (wrap64 ((wrap64 ((wrap64 (x3 + ((rd_T27 x4 x5).f2))) - ((rd_T27 x4 x5).f1))) + 1)) x4 (wrap64 (x5 + 1))) else (none)) else (some x3)
def spec_l7Count.f (k : Nat) (l0 : List (S27)) : Option (Int) := (spec_l7Merge.f k l0).bind fun t300 => (spec_l7Count.l0 k 0 t300 0)
theorem spec_l7Count.mono_l : ∀ k, (∀ y0 y1 y2, LeO (spec_l7Count.l0 k y0 y1 y2) (spec_l7Count.l0 (k + 1) y0 y1 y2))
 | 0 => fun _ _ _ r h => by simp [spec_l7Count.l0] at h
 | k + 1 => by
  have ih0 := spec_l7Count.mono_l k
  ·intro y0 y1 y2
   unfold spec_l7Count.l0
   repeat' first
   | (with_reducible exact ih0 _ _ _)
   | (with_reducible exact spec_l7Merge.mono _ _)
   | (with_reducible exact LeO.refl _)
   | (with_reducible exact LeO.none _)
   | (with_reducible refine LeO.ite ?_ ?_)
   | (with_reducible refine LeO.bind ?_ (fun _ => ?_))
   | exact ih0 _ _ _
   | exact spec_l7Merge.mono _ _
   | exact LeO.none _
   | refine LeO.ite ?_ ?_
   | refine LeO.bind ?_ (fun _ => ?_)
theorem spec_l7Count.mono : ∀ a0 k, LeO (spec_l7Count.f k a0) (spec_l7Count.f (k + 1) a0) := by
 intro a0 k
 have ih0 := spec_l7Count.mono_l k
 unfold spec_l7Count.f
 repeat' first
   | (with_reducible exact ih0 _ _ _)
   | (with_reducible exact spec_l7Merge.mono _ _)
   | (with_reducible exact LeO.refl _)
   | (with_reducible exact LeO.none _)
   | (with_reducible refine LeO.ite ?_ ?_)
   | (with_reducible refine LeO.bind ?_ (fun _ => ?_))
   | exact ih0 _ _ _
   | exact spec_l7Merge.mono _ _
   | exact LeO.none _
   | refine LeO.ite ?_ ?_
   | refine LeO.bind ?_ (fun _ => ?_)
set_option maxHeartbeats 8000000 in
set_option maxRecDepth 100000 in
theorem spec_l7Count.calls (k : Nat) (A0 : Option Addr) (c0 : Nat) (l0 : List (S27)) (r : Int) (w : World) (hr0 : Kd.C k27 w A0 l0.length l0) (hc0 : l0.length ≤ c0) (h : spec_l7Count.f k l0 = some r) :
  Calls Tryd.prog 64 #[.slice A0 l0.length c0] w fun e w' => e = .returned (.int .i64 r) ∧ Below w.heap.size w w' := by
 have HR0 := AM hr0
 have HC0 := AM hc0
 clear hr0 hc0
 have HB := AM (Below.refl w.heap.size w)
 have H : ((spec_l7Merge.f k l0).bind fun t300 => (spec_l7Count.l0 k 0 t300 0)) = some r := h
 clear h
 replace H := Option.bind_eq_some_iff.mp H
 obtain ⟨t300, A20, H⟩ := H
 replace H : (spec_l7Count.l0 k 0 t300 0) = some r := H
 have A2 := AM A20
 clear A20
 have H' := AM H
 clear H
 go_enter Tryd.func64, Tryd.ntmps64
 go_wp2_with (first | (go_at_call 55; (with_reducible refine (spec_l7Merge.calls k _ _ l0 t300 _ ?side1 ?side2 A2.out).mono ?_); (case side1 => repeat (first | exact HR0.out | (with_reducible refine Kd.C_alloc ?_ _) | (with_reducible refine Kd.C_drewN ?_ _) | (with_reducible refine Kd.C_drew ?_))); (case side2 => exact HC0.out); rintro e w3 ⟨v301, rfl, ho0, hb⟩; have n0_ := AM (Kd.R_lower ho0 (below_size (by repeat (first | (with_reducible first | exact HB.out | apply below_alloc | apply pw_below_drewN | apply below_drew1) | exact HB.out)))); have n1_ := AM (below_step (by repeat (first | (with_reducible first | exact HB.out | apply below_alloc | apply pw_below_drewN | apply below_drew1) | exact HB.out)) hb); clear HB; have HO302 := n0_; have HB := n1_; clear n0_ n1_; (try clear hb); (try clear hb2); (try clear hk); (try clear hi); (try clear ho0)))
 repeat (go_quiet (first | (go_at_call 55; (with_reducible refine (spec_l7Merge.calls k _ _ l0 t300 _ ?side1 ?side2 A2.out).mono ?_); (case side1 => repeat (first | exact HR0.out | (with_reducible refine Kd.C_alloc ?_ _) | (with_reducible refine Kd.C_drewN ?_ _) | (with_reducible refine Kd.C_drew ?_))); (case side2 => exact HC0.out); rintro e w3 ⟨v301, rfl, ho0, hb⟩; have n0_ := AM (Kd.R_lower ho0 (below_size (by repeat (first | (with_reducible first | exact HB.out | apply below_alloc | apply pw_below_drewN | apply below_drew1) | exact HB.out)))); have n1_ := AM (below_step (by repeat (first | (with_reducible first | exact HB.out | apply below_alloc | apply pw_below_drewN | apply below_drew1) | exact HB.out)) hb); clear HB; have HO302 := n0_; have HB := n1_; clear n0_ n1_; (try clear hb); (try clear hb2); (try clear hk); (try clear hi); (try clear ho0))); try go_wp2_with (first | (go_at_call 55; (with_reducible refine (spec_l7Merge.calls k _ _ l0 t300 _ ?side1 ?side2 A2.out).mono ?_); (case side1 => repeat (first | exact HR0.out | (with_reducible refine Kd.C_alloc ?_ _) | (with_reducible refine Kd.C_drewN ?_ _) | (with_reducible refine Kd.C_drew ?_))); (case side2 => exact HC0.out); rintro e w3 ⟨v301, rfl, ho0, hb⟩; have n0_ := AM (Kd.R_lower ho0 (below_size (by repeat (first | (with_reducible first | exact HB.out | apply below_alloc | apply pw_below_drewN | apply below_drew1) | exact HB.out)))); have n1_ := AM (below_step (by repeat (first | (with_reducible first | exact HB.out | apply below_alloc | apply pw_below_drewN | apply below_drew1) | exact HB.out)) hb); clear HB; have HO302 := n0_; have HB := n1_; clear n0_ n1_; (try clear hb); (try clear hb2); (try clear hk); (try clear hi); (try clear ho0))))
 go_loopg [3, 5] k (fun kq v3 v5 w' => ∃ (x3_1 : Int) (x5_1 : Int), v3 = .int .i64 x3_1 ∧ v5 = .int .i64 x5_1 ∧ Aside0 (spec_l7Count.l0 kq x3_1 t300 x5_1 = some r) ∧ Aside0 (kq ≤ k) ∧ Aside0 (Kd.R k27 27 w' w.heap.size (fun _ => True) v301 t300) ∧ Aside0 (Below w.heap.size w w'))
 case atStart => exact ⟨(0), (0), (by first | rfl | (simp; done) | (simp [*]; done)), (by first | rfl | (simp; done) | (simp [*]; done)), H', ⟨Nat.le_refl _⟩, ⟨by (with_reducible repeat (first | apply Kd.R_alloc | apply Kd.R_drewN | apply Kd.R_drew)); exact Kd.R_mono HO302.out (fun _ hk => trivial)⟩, ⟨by repeat (first | (with_reducible first | exact HB.out | apply below_alloc | apply pw_below_drewN | apply below_drew1) | exact HB.out)⟩⟩
 case round =>
  clear H'
  try clear p2
  obtain ⟨x3_1, x5_1, rfl, rfl, HA, HK1, HO_4, HB⟩ := hrel
  cases gk with
  | zero => exact absurd HA.out (by simp [spec_l7Count.l0])
  | succ k1 =>
   have H := HA.out
   clear HA
   simp only [spec_l7Count.l0] at H
   by_cases c4 : x5_1 < (t300.length : Int)
   ·rw [if_pos c4] at H
    have c4b0 : decide (x5_1 < (t300.length : Int)) = true := decide_eq_true c4
    clear c4
    by_cases c5 : 0 ≤ x5_1
    ·rw [if_pos c5] at H
     have c5b0 : decide (0 ≤ x5_1) = true := decide_eq_true c5
     clear c5
     have H' := AM H
     clear H
     obtain ⟨Ao6, co6, eo6⟩ := Kd.R_slice HO_4.out
     subst eo6
     have p303 : 0 ≤ (x5_1 : Int) := of_decide_eq_true (by first | (with_reducible assumption) | assumption)
     have q303 : x5_1 < (t300.length : Int) := of_decide_eq_true (by first | (with_reducible assumption) | assumption)
     obtain ⟨ad303, e303, hx303_0, hx303_1, hx303_2⟩ := at_T27 (Kd.R_reads' HO_4.out).2.2 x5_1 p303 q303
     cases e303
     replace p303 := eq_true p303
     replace q303 := eq_true q303
     have p304 : 0 ≤ (x5_1 : Int) := of_decide_eq_true (by first | (with_reducible assumption) | assumption)
     have q304 : x5_1 < (t300.length : Int) := of_decide_eq_true (by first | (with_reducible assumption) | assumption)
     obtain ⟨ad304, e304, hx304_0, hx304_1, hx304_2⟩ := at_T27 (Kd.R_reads' HO_4.out).2.2 x5_1 p304 q304
     obtain rfl : ad303 = ad304 := (by injection e304)
     replace p304 := eq_true p304
     replace q304 := eq_true q304
     go_wp2
     repeat (go_quiet (fail); try go_wp2)
     go_roundg k1
     case measure => have := HK1.out; omega
     case rel => exact ⟨(wrap64 ((wrap64 ((wrap64 (x3_1 + ((rd_T27 t300 x5_1).f2))) - ((rd_T27 t300 x5_1).f1))) + 1)), (wrap64 (x5_1 + 1)), (by first | rfl | (simp; done) | (simp [*]; done)), (by first | rfl | (simp; done) | (simp [*]; done)), H', ⟨by have := HK1.out; omega⟩, ⟨by (with_reducible repeat (first | apply Kd.R_alloc | apply Kd.R_drewN | apply Kd.R_drew)); exact HO_4.out⟩, ⟨by repeat (first | (with_reducible first | exact HB.out | apply below_alloc | apply pw_below_drewN | apply below_drew1) | exact HB.out)⟩⟩
    ·rw [if_neg c5] at H
     exact absurd H (by simp)
   ·rw [if_neg c4] at H
    have c4b0 : decide (x5_1 < (t300.length : Int)) = false := decide_eq_false c4
    clear c4
    obtain rfl := Option.some.inj H
    obtain ⟨Ao7, co7, eo7⟩ := Kd.R_slice HO_4.out
    subst eo7
    go_wp2
    repeat (go_quiet (fail); try go_wp2)
    go_ret
    exact ⟨by first | rfl | (simp [errW_none, errW_some] <;> rfl) | (simp [*, errW_none, errW_some] <;> rfl) | (simp [errW_none, errW_some] <;> (apply Bool.eq_iff_iff.2; simp [List.isEmpty_iff])), by repeat (first | (with_reducible first | exact HB.out | apply below_alloc | apply pw_below_drewN | apply below_drew1) | exact HB.out)⟩

/-! ### spec_LocatorText: function 30 -/
def spec_LocatorText.j0 : Nat → List (S27) → ByteArray → ByteArray → Option (ByteArray × Bool)
 | 0, _, _, _ => none
 | k + 1, x1, x6, x7 => (spec_l7Count.f k x1).bind fun t306 => (if t306 > 1 then (if x7.size + 1 ≤ 9223372036854775807 then ((spec_l7List.f k x1).bind fun t307 => (if (x7 ++ (⟨#[32]⟩ : ByteArray)).size + t307.size ≤ 9223372036854775807 then (some ((x7 ++ (⟨#[32]⟩ : ByteArray)) ++ t307, true)) else (none))) else (none)) else (if x6.size + 1 ≤ 9223372036854775807 then ((spec_l7List.f k x1).bind fun t308 => (if (x6 ++ (⟨#[32]⟩ : ByteArray)).size + t308.size ≤ 9223372036854775807 then (some ((x6 ++ (⟨#[32]⟩ : ByteArray)) ++ t308, true)) else (none))) else (none)))
def spec_LocatorText.f (k : Nat) (a0 : ByteArray) (l1 : List (S27)) : Option (ByteArray × Bool) := (spec_l7Good.f k l1).bind fun t305 => (if t305 = true then (if a0.toList = ([112, 97, 103, 101] : List UInt8) then (spec_LocatorText.j0 k l1 (⟨#[112, 46]⟩ : ByteArray) (⟨#[112, 112, 46]⟩ : ByteArray)) else (if a0.toList = ([108, 105, 110, 101] : List UInt8) then (spec_LocatorText.j0 k l1 (⟨#[108, 46]⟩ : ByteArray) (⟨#[108, 108, 46]⟩ : ByteArray)) else (if a0.toList = ([99, 104, 97, 112, 116, 101, 114] : List UInt8) then (spec_LocatorText.j0 k l1 (⟨#[99, 104, 46]⟩ : ByteArray) (⟨#[99, 104, 115, 46]⟩ : ByteArray)) else (if a0.toList = ([115, 101, 99, 116, 105, 111, 110] : List UInt8) then (spec_LocatorText.j0 k l1 (⟨#[115, 101, 99, 46]⟩ : ByteArray) (⟨#[115, 101, 99, 115, 46]⟩ : ByteArray)) else (some ((⟨#[]⟩ : ByteArray), false)))))) else (some ((⟨#[]⟩ : ByteArray), false)))
theorem spec_LocatorText.mono_l : ∀ k, (∀ y0 y1 y2, LeO (spec_LocatorText.j0 k y0 y1 y2) (spec_LocatorText.j0 (k + 1) y0 y1 y2))
 | 0 => fun _ _ _ r h => by simp [spec_LocatorText.j0] at h
 | k + 1 => by
  have ih0 := spec_LocatorText.mono_l k
  ·intro y0 y1 y2
   unfold spec_LocatorText.j0
   repeat' first
   | (with_reducible exact ih0 _ _ _)
   | (with_reducible exact spec_l7Count.mono _ _)
   | (with_reducible exact spec_l7Good.mono _ _)
   | (with_reducible exact spec_l7List.mono _ _)
   | (with_reducible exact LeO.refl _)
   | (with_reducible exact LeO.none _)
   | (with_reducible refine LeO.ite ?_ ?_)
   | (with_reducible refine LeO.bind ?_ (fun _ => ?_))
   | exact ih0 _ _ _
   | exact spec_l7Count.mono _ _
   | exact spec_l7Good.mono _ _
   | exact spec_l7List.mono _ _
   | exact LeO.none _
   | refine LeO.ite ?_ ?_
   | refine LeO.bind ?_ (fun _ => ?_)
theorem spec_LocatorText.mono : ∀ a0 a1 k, LeO (spec_LocatorText.f k a0 a1) (spec_LocatorText.f (k + 1) a0 a1) := by
 intro a0 a1 k
 have ih0 := spec_LocatorText.mono_l k
 unfold spec_LocatorText.f
 repeat' first
   | (with_reducible exact ih0 _ _ _)
   | (with_reducible exact spec_l7Count.mono _ _)
   | (with_reducible exact spec_l7Good.mono _ _)
   | (with_reducible exact spec_l7List.mono _ _)
   | (with_reducible exact LeO.refl _)
   | (with_reducible exact LeO.none _)
   | (with_reducible refine LeO.ite ?_ ?_)
   | (with_reducible refine LeO.bind ?_ (fun _ => ?_))
   | exact ih0 _ _ _
   | exact spec_l7Count.mono _ _
   | exact spec_l7Good.mono _ _
   | exact spec_l7List.mono _ _
   | exact LeO.none _
   | refine LeO.ite ?_ ?_
   | refine LeO.bind ?_ (fun _ => ?_)
set_option maxHeartbeats 8000000 in
set_option maxRecDepth 100000 in
theorem spec_LocatorText.calls (k : Nat) (a0 : ByteArray) (A1 : Option Addr) (c1 : Nat) (l1 : List (S27)) (r1 : ByteArray) (r2 : Bool) (w : World) (hr1 : Kd.C k27 w A1 l1.length l1) (hc1 : l1.length ≤ c1) (h : spec_LocatorText.f k a0 l1 = some (r1, r2)) :
  Calls Tryd.prog 30 #[.string a0, .slice A1 l1.length c1] w fun e w' => e = .returned (.tuple #[.string r1, .bool r2]) ∧ Below w.heap.size w w' := by
 have HR1 := AM hr1
 have HC1 := AM hc1
 clear hr1 hc1
 have HB := AM (Below.refl w.heap.size w)
 have H : ((spec_l7Good.f k l1).bind fun t305 => (if t305 = true then (if a0.toList = ([112, 97, 103, 101] : List UInt8) then (spec_LocatorText.j0 k l1 (⟨#[112, 46]⟩ : ByteArray) (⟨#[112, 112, 46]⟩ : ByteArray)) else (if a0.toList = ([108, 105, 110, 101] : List UInt8) then (spec_LocatorText.j0 k l1 (⟨#[108, 46]⟩ : ByteArray) (⟨#[108, 108, 46]⟩ : ByteArray)) else (if a0.toList = ([99, 104, 97, 112, 116, 101, 114] : List UInt8) then (spec_LocatorText.j0 k l1 (⟨#[99, 104, 46]⟩ : ByteArray) (⟨#[99, 104, 115, 46]⟩ : ByteArray)) else (if a0.toList = ([115, 101, 99, 116, 105, 111, 110] : List UInt8) then (spec_LocatorText.j0 k l1 (⟨#[115, 101, 99, 46]⟩ : ByteArray) (⟨#[115, 101, 99, 115, 46]⟩ : ByteArray)) else (some ((⟨#[]⟩ : ByteArray), false)))))) else (some ((⟨#[]⟩ : ByteArray), false)))) = some (r1, r2) := h
 clear h
 replace H := Option.bind_eq_some_iff.mp H
 obtain ⟨t305, A30, H⟩ := H
 replace H : (if t305 = true then (if a0.toList = ([112, 97, 103, 101] : List UInt8) then (spec_LocatorText.j0 k l1 (⟨#[112, 46]⟩ : ByteArray) (⟨#[112, 112, 46]⟩ : ByteArray)) else (if a0.toList = ([108, 105, 110, 101] : List UInt8) then (spec_LocatorText.j0 k l1 (⟨#[108, 46]⟩ : ByteArray) (⟨#[108, 108, 46]⟩ : ByteArray)) else (if a0.toList = ([99, 104, 97, 112, 116, 101, 114] : List UInt8) then (spec_LocatorText.j0 k l1 (⟨#[99, 104, 46]⟩ : ByteArray) (⟨#[99, 104, 115, 46]⟩ : ByteArray)) else (if a0.toList = ([115, 101, 99, 116, 105, 111, 110] : List UInt8) then (spec_LocatorText.j0 k l1 (⟨#[115, 101, 99, 46]⟩ : ByteArray) (⟨#[115, 101, 99, 115, 46]⟩ : ByteArray)) else (some ((⟨#[]⟩ : ByteArray), false)))))) else (some ((⟨#[]⟩ : ByteArray), false))) = some (r1, r2) := H
 have A3 := AM A30
 clear A30
 by_cases c4 : t305 = true
 ·subst c4
  have H1 : (if a0.toList = ([112, 97, 103, 101] : List UInt8) then (spec_LocatorText.j0 k l1 (⟨#[112, 46]⟩ : ByteArray) (⟨#[112, 112, 46]⟩ : ByteArray)) else (if a0.toList = ([108, 105, 110, 101] : List UInt8) then (spec_LocatorText.j0 k l1 (⟨#[108, 46]⟩ : ByteArray) (⟨#[108, 108, 46]⟩ : ByteArray)) else (if a0.toList = ([99, 104, 97, 112, 116, 101, 114] : List UInt8) then (spec_LocatorText.j0 k l1 (⟨#[99, 104, 46]⟩ : ByteArray) (⟨#[99, 104, 115, 46]⟩ : ByteArray)) else (if a0.toList = ([115, 101, 99, 116, 105, 111, 110] : List UInt8) then (spec_LocatorText.j0 k l1 (⟨#[115, 101, 99, 46]⟩ : ByteArray) (⟨#[115, 101, 99, 115, 46]⟩ : ByteArray)) else (some ((⟨#[]⟩ : ByteArray), false)))))) = some (r1, r2) := by rw [if_pos rfl] at H; exact H
  clear H
  have H := H1
  clear H1
  have HC5 := AM H
  clear H
  go_enter Tryd.func30, Tryd.ntmps30
  go_upto_block 0 with (first | ((with_reducible refine gate_callee (f := 41) rfl ?_); refine goesL_ (some 9) rfl rfl Tryd.func41 (by kernel_rfl) rfl #[.slice A1 l1.length c1] rfl (by (try simp only [List.map_toArray, List.map_cons, List.map_nil]); first | done | rfl | (simp only [List.length_drop, List.length_take]; rfl)) ?_; (with_reducible refine (spec_l7Good.calls k _ _ l1 true _ ?side1 ?side2 A3.out).mono ?_); (case side1 => repeat (first | exact HR1.out | (with_reducible refine Kd.C_alloc ?_ _) | (with_reducible refine Kd.C_drewN ?_ _) | (with_reducible refine Kd.C_drew ?_))); (case side2 => exact HC1.out); rintro e w6 ⟨rfl, hb⟩; refine ⟨_, rfl, ?_⟩; have n0_ := AM (below_step (by repeat (first | (with_reducible first | exact HB.out | apply below_alloc | apply pw_below_drewN | apply below_drew1) | exact HB.out)) hb); clear HB; have HB := n0_; clear n0_; (try clear hb); (try clear hb2); (try clear hk); (try clear hi)))
  (try simp only [Act.put, sT, sZ, sS])
  go_cut [6, 7] (fun v6 v7 wc => ∃ (kq : Nat) (x6_4 : ByteArray) (x7_4 : ByteArray), v6 = .string x6_4 ∧ v7 = .string x7_4 ∧ Aside0 (spec_LocatorText.j0 kq l1 x6_4 x7_4 = some (r1, r2)) ∧ Aside0 (kq ≤ k) ∧ Aside0 (Below w.heap.size w wc))
  case first =>
   have H := HC5.out
   clear HC5
   by_cases c7 : a0.toList = ([112, 97, 103, 101] : List UInt8)
   ·rw [if_pos c7] at H
    have c7b0 : (a0.toList == ([112, 97, 103, 101] : List UInt8)) = true := beq_iff_eq.mpr c7
    have c7b1 : (a0.toList != ([112, 97, 103, 101] : List UInt8)) = false := bne_eq_false_iff_eq.mpr c7
    clear c7
    (first | rw [c7b0] | rw [c7b1] | rw [c7b2] | (simp only [i64_w, i32_w]; rw [c7b0]) | skip)
    have H' := AM H
    clear H
    go_wp2
    go_meet
    case rel => exact ⟨_, ((⟨#[112, 46]⟩ : ByteArray)), ((⟨#[112, 112, 46]⟩ : ByteArray)), (by first | rfl | (simp; done) | (simp [*]; done)), (by first | rfl | (simp; done) | (simp [*]; done)), H', ⟨by first | omega | exact Nat.le_refl _⟩, ⟨by repeat (first | (with_reducible first | exact HB.out | apply below_alloc | apply pw_below_drewN | apply below_drew1) | exact HB.out)⟩⟩
   ·rw [if_neg c7] at H
    have c7b0 : (a0.toList == ([112, 97, 103, 101] : List UInt8)) = false := beq_eq_false_iff_ne.mpr c7
    have c7b1 : (a0.toList != ([112, 97, 103, 101] : List UInt8)) = true := bne_iff_ne.mpr c7
    (first | rw [c7b0] | rw [c7b1] | rw [c7b2] | (simp only [i64_w, i32_w]; rw [c7b0]) | skip)
    by_cases c8 : a0.toList = ([108, 105, 110, 101] : List UInt8)
    ·rw [if_pos c8] at H
     have c8b0 : (a0.toList == ([108, 105, 110, 101] : List UInt8)) = true := beq_iff_eq.mpr c8
     have c8b1 : (a0.toList != ([108, 105, 110, 101] : List UInt8)) = false := bne_eq_false_iff_eq.mpr c8
     clear c8
     have H' := AM H
     clear H
     go_wp2
     go_meet
     case rel => exact ⟨_, ((⟨#[108, 46]⟩ : ByteArray)), ((⟨#[108, 108, 46]⟩ : ByteArray)), (by first | rfl | (simp; done) | (simp [*]; done)), (by first | rfl | (simp; done) | (simp [*]; done)), H', ⟨by first | omega | exact Nat.le_refl _⟩, ⟨by repeat (first | (with_reducible first | exact HB.out | apply below_alloc | apply pw_below_drewN | apply below_drew1) | exact HB.out)⟩⟩
    ·rw [if_neg c8] at H
     have c8b0 : (a0.toList == ([108, 105, 110, 101] : List UInt8)) = false := beq_eq_false_iff_ne.mpr c8
     have c8b1 : (a0.toList != ([108, 105, 110, 101] : List UInt8)) = true := bne_iff_ne.mpr c8
     by_cases c9 : a0.toList = ([99, 104, 97, 112, 116, 101, 114] : List UInt8)
     ·rw [if_pos c9] at H
      have c9b0 : (a0.toList == ([99, 104, 97, 112, 116, 101, 114] : List UInt8)) = true := beq_iff_eq.mpr c9
      have c9b1 : (a0.toList != ([99, 104, 97, 112, 116, 101, 114] : List UInt8)) = false := bne_eq_false_iff_eq.mpr c9
      clear c9
      have H' := AM H
      clear H
      go_wp2
      go_meet
      case rel => exact ⟨_, ((⟨#[99, 104, 46]⟩ : ByteArray)), ((⟨#[99, 104, 115, 46]⟩ : ByteArray)), (by first | rfl | (simp; done) | (simp [*]; done)), (by first | rfl | (simp; done) | (simp [*]; done)), H', ⟨by first | omega | exact Nat.le_refl _⟩, ⟨by repeat (first | (with_reducible first | exact HB.out | apply below_alloc | apply pw_below_drewN | apply below_drew1) | exact HB.out)⟩⟩
     ·rw [if_neg c9] at H
      have c9b0 : (a0.toList == ([99, 104, 97, 112, 116, 101, 114] : List UInt8)) = false := beq_eq_false_iff_ne.mpr c9
      have c9b1 : (a0.toList != ([99, 104, 97, 112, 116, 101, 114] : List UInt8)) = true := bne_iff_ne.mpr c9
      by_cases c10 : a0.toList = ([115, 101, 99, 116, 105, 111, 110] : List UInt8)
      ·rw [if_pos c10] at H
       have c10b0 : (a0.toList == ([115, 101, 99, 116, 105, 111, 110] : List UInt8)) = true := beq_iff_eq.mpr c10
       have c10b1 : (a0.toList != ([115, 101, 99, 116, 105, 111, 110] : List UInt8)) = false := bne_eq_false_iff_eq.mpr c10
       clear c10
       have H' := AM H
       clear H
       go_wp2
       go_meet
       case rel => exact ⟨_, ((⟨#[115, 101, 99, 46]⟩ : ByteArray)), ((⟨#[115, 101, 99, 115, 46]⟩ : ByteArray)), (by first | rfl | (simp; done) | (simp [*]; done)), (by first | rfl | (simp; done) | (simp [*]; done)), H', ⟨by first | omega | exact Nat.le_refl _⟩, ⟨by repeat (first | (with_reducible first | exact HB.out | apply below_alloc | apply pw_below_drewN | apply below_drew1) | exact HB.out)⟩⟩
      ·rw [if_neg c10] at H
       have c10b0 : (a0.toList == ([115, 101, 99, 116, 105, 111, 110] : List UInt8)) = false := beq_eq_false_iff_ne.mpr c10
       have c10b1 : (a0.toList != ([115, 101, 99, 116, 105, 111, 110] : List UInt8)) = true := bne_iff_ne.mpr c10
       simp only [Option.some.injEq, Prod.mk.injEq] at H
       obtain ⟨rfl, rfl⟩ := H
       go_wp2
       go_ret2
       exact ⟨by first | rfl | (simp [errW_none, errW_some] <;> rfl) | (simp [*, errW_none, errW_some] <;> rfl) | (simp [errW_none, errW_some] <;> (apply Bool.eq_iff_iff.2; simp [List.isEmpty_iff])), by repeat (first | (with_reducible first | exact HB.out | apply below_alloc | apply pw_below_drewN | apply below_drew1) | exact HB.out)⟩
  case rest =>
   clear HC5
   try clear c1
   try clear p2
   try clear c3
   try clear c4
   try clear c7
   try clear c7b0
   try clear c7b1
   try clear c7b2
   try clear c8
   try clear c8b0
   try clear c8b1
   try clear c9
   try clear c9b0
   try clear c9b1
   try clear c10
   try clear c10b0
   try clear c10b1
   obtain ⟨kq, x6_4, x7_4, rfl, rfl, HA, HJ4, HB⟩ := hcut
   cases kq with
   | zero => exact absurd HA.out (by simp [spec_LocatorText.j0])
   | succ kj4 =>
    have H := HA.out
    clear HA
    simp only [spec_LocatorText.j0] at H
    replace H := Option.bind_eq_some_iff.mp H
    obtain ⟨t306, A110, H⟩ := H
    replace H : (if t306 > 1 then (if x7_4.size + 1 ≤ 9223372036854775807 then ((spec_l7List.f kj4 l1).bind fun t307 => (if (x7_4 ++ (⟨#[32]⟩ : ByteArray)).size + t307.size ≤ 9223372036854775807 then (some ((x7_4 ++ (⟨#[32]⟩ : ByteArray)) ++ t307, true)) else (none))) else (none)) else (if x6_4.size + 1 ≤ 9223372036854775807 then ((spec_l7List.f kj4 l1).bind fun t308 => (if (x6_4 ++ (⟨#[32]⟩ : ByteArray)).size + t308.size ≤ 9223372036854775807 then (some ((x6_4 ++ (⟨#[32]⟩ : ByteArray)) ++ t308, true)) else (none))) else (none))) = some (r1, r2) := H
    have A11 := AM A110
    clear A110
    by_cases c12 : t306 > 1
    ·rw [if_pos c12] at H
     have c12b0 : decide (1 < t306) = true := decide_eq_true c12
     clear c12
     by_cases c13 : x7_4.size + 1 ≤ 9223372036854775807
     ·rw [if_pos c13] at H
      have c13b0 := eq_true c13
      have c13b1 : decide (x7_4.size + 1 ≤ 9223372036854775807) = true := decide_eq_true c13
      try have c13b2 : (9223372036854775807 < x7_4.size + 1) = False := eq_false (Nat.not_lt.2 c13)
      replace H := Option.bind_eq_some_iff.mp H
      obtain ⟨t307, A140, H⟩ := H
      replace H : (if (x7_4 ++ (⟨#[32]⟩ : ByteArray)).size + t307.size ≤ 9223372036854775807 then (some ((x7_4 ++ (⟨#[32]⟩ : ByteArray)) ++ t307, true)) else (none)) = some (r1, r2) := H
      have A14 := AM A140
      clear A140
      by_cases c15 : (x7_4 ++ (⟨#[32]⟩ : ByteArray)).size + t307.size ≤ 9223372036854775807
      ·rw [if_pos c15] at H
       have c15b0 := eq_true c15
       have c15b1 : decide ((x7_4 ++ (⟨#[32]⟩ : ByteArray)).size + t307.size ≤ 9223372036854775807) = true := decide_eq_true c15
       try have c15b2 : (9223372036854775807 < (x7_4 ++ (⟨#[32]⟩ : ByteArray)).size + t307.size) = False := eq_false (Nat.not_lt.2 c15)
       try have c15b3 : (9223372036854775807 < x7_4.size + 1 + t307.size) = False := eq_false (by have h_ := c15; simp only [ByteArray.size_append, ByteArray.size_extract] at h_; (try simp only [show (⟨#[32]⟩ : ByteArray).size = 1 from rfl] at h_); (try have q0_ := of_eq_true c12b0); (try have q1_ := of_eq_true c13b0); omega)
       simp only [Option.some.injEq, Prod.mk.injEq] at H
       obtain ⟨rfl, rfl⟩ := H
       go_wp2_with (first | ((with_reducible refine gate_callee (f := 64) rfl ?_); refine goesL_ (some 21) rfl rfl Tryd.func64 (by kernel_rfl) rfl #[.slice A1 l1.length c1] rfl (by (try simp only [List.map_toArray, List.map_cons, List.map_nil]); first | done | rfl | (simp only [List.length_drop, List.length_take]; rfl)) ?_; (with_reducible refine (spec_l7Count.calls kj4 _ _ l1 t306 _ ?side1 ?side2 A11.out).mono ?_); (case side1 => repeat (first | exact (Kd.C_below HR1.out HB.out) | (with_reducible refine Kd.C_alloc ?_ _) | (with_reducible refine Kd.C_drewN ?_ _) | (with_reducible refine Kd.C_drew ?_))); (case side2 => exact HC1.out); rintro e w16 ⟨rfl, hb⟩; refine ⟨_, rfl, ?_⟩; have n0_ := AM (below_step (by repeat (first | (with_reducible first | exact HB.out | apply below_alloc | apply pw_below_drewN | apply below_drew1) | exact HB.out)) hb); clear HB; have HB := n0_; clear n0_; (try clear hb); (try clear hb2); (try clear hk); (try clear hi)) | ((with_reducible refine gate_callee (f := 42) rfl ?_); refine goesL_ (some 27) rfl rfl Tryd.func42 (by kernel_rfl) rfl #[.slice A1 l1.length c1] rfl (by (try simp only [List.map_toArray, List.map_cons, List.map_nil]); first | done | rfl | (simp only [List.length_drop, List.length_take]; rfl)) ?_; (with_reducible refine (spec_l7List.calls kj4 _ _ l1 t307 _ ?side1 ?side2 A14.out).mono ?_); (case side1 => repeat (first | exact (Kd.C_below HR1.out HB.out) | (with_reducible refine Kd.C_alloc ?_ _) | (with_reducible refine Kd.C_drewN ?_ _) | (with_reducible refine Kd.C_drew ?_))); (case side2 => exact HC1.out); rintro e w17 ⟨rfl, hb⟩; refine ⟨_, rfl, ?_⟩; have n0_ := AM (below_step (by repeat (first | (with_reducible first | exact HB.out | apply below_alloc | apply pw_below_drewN | apply below_drew1) | exact HB.out)) hb); clear HB; have HB := n0_; clear n0_; (try clear hb); (try clear hb2); (try clear hk); (try clear hi)))
       go_ret2
       exact ⟨by first | rfl | (simp [errW_none, errW_some] <;> rfl) | (simp [*, errW_none, errW_some] <;> rfl) | (simp [errW_none, errW_some] <;> (apply Bool.eq_iff_iff.2; simp [List.isEmpty_iff])), by repeat (first | (with_reducible first | exact HB.out | apply below_alloc | apply pw_below_drewN | apply below_drew1) | exact HB.out)⟩
      ·rw [if_neg c15] at H
       exact absurd H (by simp)
     ·rw [if_neg c13] at H
      exact absurd H (by simp)
    ·rw [if_neg c12] at H
     have c12b0 : decide (1 < t306) = false := decide_eq_false c12
     clear c12
     by_cases c18 : x6_4.size + 1 ≤ 9223372036854775807
     ·rw [if_pos c18] at H
      have c18b0 := eq_true c18
      have c18b1 : decide (x6_4.size + 1 ≤ 9223372036854775807) = true := decide_eq_true c18
      try have c18b2 : (9223372036854775807 < x6_4.size + 1) = False := eq_false (Nat.not_lt.2 c18)
      replace H := Option.bind_eq_some_iff.mp H
      obtain ⟨t308, A190, H⟩ := H
      replace H : (if (x6_4 ++ (⟨#[32]⟩ : ByteArray)).size + t308.size ≤ 9223372036854775807 then (some ((x6_4 ++ (⟨#[32]⟩ : ByteArray)) ++ t308, true)) else (none)) = some (r1, r2) := H
      have A19 := AM A190
      clear A190
      by_cases c20 : (x6_4 ++ (⟨#[32]⟩ : ByteArray)).size + t308.size ≤ 9223372036854775807
      ·rw [if_pos c20] at H
       have c20b0 := eq_true c20
       have c20b1 : decide ((x6_4 ++ (⟨#[32]⟩ : ByteArray)).size + t308.size ≤ 9223372036854775807) = true := decide_eq_true c20
       try have c20b2 : (9223372036854775807 < (x6_4 ++ (⟨#[32]⟩ : ByteArray)).size + t308.size) = False := eq_false (Nat.not_lt.2 c20)
       try have c20b3 : (9223372036854775807 < x6_4.size + 1 + t308.size) = False := eq_false (by have h_ := c20; simp only [ByteArray.size_append, ByteArray.size_extract] at h_; (try simp only [show (⟨#[32]⟩ : ByteArray).size = 1 from rfl] at h_); (try have q0_ := of_eq_true c12b0); (try have q1_ := of_eq_true c18b0); omega)
       simp only [Option.some.injEq, Prod.mk.injEq] at H
       obtain ⟨rfl, rfl⟩ := H
       go_wp2_with (first | ((with_reducible refine gate_callee (f := 64) rfl ?_); refine goesL_ (some 21) rfl rfl Tryd.func64 (by kernel_rfl) rfl #[.slice A1 l1.length c1] rfl (by (try simp only [List.map_toArray, List.map_cons, List.map_nil]); first | done | rfl | (simp only [List.length_drop, List.length_take]; rfl)) ?_; (with_reducible refine (spec_l7Count.calls kj4 _ _ l1 t306 _ ?side1 ?side2 A11.out).mono ?_); (case side1 => repeat (first | exact (Kd.C_below HR1.out HB.out) | (with_reducible refine Kd.C_alloc ?_ _) | (with_reducible refine Kd.C_drewN ?_ _) | (with_reducible refine Kd.C_drew ?_))); (case side2 => exact HC1.out); rintro e w21 ⟨rfl, hb⟩; refine ⟨_, rfl, ?_⟩; have n0_ := AM (below_step (by repeat (first | (with_reducible first | exact HB.out | apply below_alloc | apply pw_below_drewN | apply below_drew1) | exact HB.out)) hb); clear HB; have HB := n0_; clear n0_; (try clear hb); (try clear hb2); (try clear hk); (try clear hi)) | ((with_reducible refine gate_callee (f := 42) rfl ?_); refine goesL_ (some 27) rfl rfl Tryd.func42 (by kernel_rfl) rfl #[.slice A1 l1.length c1] rfl (by (try simp only [List.map_toArray, List.map_cons, List.map_nil]); first | done | rfl | (simp only [List.length_drop, List.length_take]; rfl)) ?_; (with_reducible refine (spec_l7List.calls kj4 _ _ l1 t308 _ ?side1 ?side2 A19.out).mono ?_); (case side1 => repeat (first | exact (Kd.C_below HR1.out HB.out) | (with_reducible refine Kd.C_alloc ?_ _) | (with_reducible refine Kd.C_drewN ?_ _) | (with_reducible refine Kd.C_drew ?_))); (case side2 => exact HC1.out); rintro e w22 ⟨rfl, hb⟩; refine ⟨_, rfl, ?_⟩; have n0_ := AM (below_step (by repeat (first | (with_reducible first | exact HB.out | apply below_alloc | apply pw_below_drewN | apply below_drew1) | exact HB.out)) hb); clear HB; have HB := n0_; clear n0_; (try clear hb); (try clear hb2); (try clear hk); (try clear hi)))
       go_ret2
       exact ⟨by first | rfl | (simp [errW_none, errW_some] <;> rfl) | (simp [*, errW_none, errW_some] <;> rfl) | (simp [errW_none, errW_some] <;> (apply Bool.eq_iff_iff.2; simp [List.isEmpty_iff])), by repeat (first | (with_reducible first | exact HB.out | apply below_alloc | apply pw_below_drewN | apply below_drew1) | exact HB.out)⟩
      ·rw [if_neg c20] at H
       exact absurd H (by simp)
     ·rw [if_neg c18] at H
      exact absurd H (by simp)
 ·replace c4 := Bool.eq_false_iff.mpr c4
  subst c4
  have H1 : (some ((⟨#[]⟩ : ByteArray), false)) = some (r1, r2) := by rw [if_neg (show ¬ (false = true) by decide)] at H; exact H
  clear H
  have H := H1
  clear H1
  simp only [Option.some.injEq, Prod.mk.injEq] at H
  obtain ⟨rfl, rfl⟩ := H
  go_enter Tryd.func30, Tryd.ntmps30
  go_wp2_with (first | ((with_reducible refine gate_callee (f := 41) rfl ?_); refine goesL_ (some 9) rfl rfl Tryd.func41 (by kernel_rfl) rfl #[.slice A1 l1.length c1] rfl (by (try simp only [List.map_toArray, List.map_cons, List.map_nil]); first | done | rfl | (simp only [List.length_drop, List.length_take]; rfl)) ?_; (with_reducible refine (spec_l7Good.calls k _ _ l1 false _ ?side1 ?side2 A3.out).mono ?_); (case side1 => repeat (first | exact HR1.out | (with_reducible refine Kd.C_alloc ?_ _) | (with_reducible refine Kd.C_drewN ?_ _) | (with_reducible refine Kd.C_drew ?_))); (case side2 => exact HC1.out); rintro e w23 ⟨rfl, hb⟩; refine ⟨_, rfl, ?_⟩; have n0_ := AM (below_step (by repeat (first | (with_reducible first | exact HB.out | apply below_alloc | apply pw_below_drewN | apply below_drew1) | exact HB.out)) hb); clear HB; have HB := n0_; clear n0_; (try clear hb); (try clear hb2); (try clear hk); (try clear hi)))
  go_ret2
  exact ⟨by first | rfl | (simp [errW_none, errW_some] <;> rfl) | (simp [*, errW_none, errW_some] <;> rfl) | (simp [errW_none, errW_some] <;> (apply Bool.eq_iff_iff.2; simp [List.isEmpty_iff])), by repeat (first | (with_reducible first | exact HB.out | apply below_alloc | apply pw_below_drewN | apply below_drew1) | exact HB.out)⟩

/-! ### laws_FnExactLocatorText: function 8 -/
def laws_FnExactLocatorText.j0 : Nat → List (S23) → List (S27) → Bool → Option (Bool)
 | 0, _, _, _ => none
 | k + 1, x1, x8, x41 => if x41 = true then (some false) else ((laws_toPageRangeS.f k x1).bind fun t320 => ((laws_eqPageRangeS.f k x8 t320).bind fun t323 => (if t323 = true then (some true) else (some false))))
def laws_FnExactLocatorText.f (k : Nat) (a0 : ByteArray) (l1 : List (S23)) : Option (Bool) := if (a0.size : Int) > 1048576 then (some true) else ((laws_szPageRangeS.f k l1 1048576).bind fun t309 => (if t309 < 0 then (some true) else ((laws_toPageRangeS.f k l1).bind fun t310 => ((spec_LocatorText.f k a0 t310).bind fun bt313 => ((laws_toPageRangeS.f k l1).bind fun t315 => ((impl_LocatorText.f k a0 t315).bind fun bt318 => (if bt318.1.toList = bt313.1.toList then (laws_FnExactLocatorText.j0 k l1 t315 (bt318.2 != bt313.2)) else (laws_FnExactLocatorText.j0 k l1 t315 true))))))))
theorem laws_FnExactLocatorText.mono_l : ∀ k, (∀ y0 y1 y2, LeO (laws_FnExactLocatorText.j0 k y0 y1 y2) (laws_FnExactLocatorText.j0 (k + 1) y0 y1 y2))
 | 0 => fun _ _ _ r h => by simp [laws_FnExactLocatorText.j0] at h
 | k + 1 => by
  have ih0 := laws_FnExactLocatorText.mono_l k
  ·intro y0 y1 y2
   unfold laws_FnExactLocatorText.j0
   repeat' first
   | (with_reducible exact ih0 _ _ _)
   | (with_reducible exact impl_LocatorText.mono _ _ _)
   | (with_reducible exact laws_eqPageRangeS.mono _ _ _)
   | (with_reducible exact laws_szPageRangeS.mono _ _ _)
   | (with_reducible exact laws_toPageRangeS.mono _ _)
   | (with_reducible exact spec_LocatorText.mono _ _ _)
   | (with_reducible exact LeO.refl _)
   | (with_reducible exact LeO.none _)
   | (with_reducible refine LeO.ite ?_ ?_)
   | (with_reducible refine LeO.bind ?_ (fun _ => ?_))
   | exact ih0 _ _ _
   | exact impl_LocatorText.mono _ _ _
   | exact laws_eqPageRangeS.mono _ _ _
   | exact laws_szPageRangeS.mono _ _ _
   | exact laws_toPageRangeS.mono _ _
   | exact spec_LocatorText.mono _ _ _
   | exact LeO.none _
   | refine LeO.ite ?_ ?_
   | refine LeO.bind ?_ (fun _ => ?_)
theorem laws_FnExactLocatorText.mono : ∀ a0 a1 k, LeO (laws_FnExactLocatorText.f k a0 a1) (laws_FnExactLocatorText.f (k + 1) a0 a1) := by
 intro a0 a1 k
 have ih0 := laws_FnExactLocatorText.mono_l k
 unfold laws_FnExactLocatorText.f
 repeat' first
   | (with_reducible exact ih0 _ _ _)
   | (with_reducible exact impl_LocatorText.mono _ _ _)
   | (with_reducible exact laws_eqPageRangeS.mono _ _ _)
   | (with_reducible exact laws_szPageRangeS.mono _ _ _)
   | (with_reducible exact laws_toPageRangeS.mono _ _)
   | (with_reducible exact spec_LocatorText.mono _ _ _)
   | (with_reducible exact LeO.refl _)
   | (with_reducible exact LeO.none _)
   | (with_reducible refine LeO.ite ?_ ?_)
   | (with_reducible refine LeO.bind ?_ (fun _ => ?_))
   | exact ih0 _ _ _
   | exact impl_LocatorText.mono _ _ _
   | exact laws_eqPageRangeS.mono _ _ _
   | exact laws_szPageRangeS.mono _ _ _
   | exact laws_toPageRangeS.mono _ _
   | exact spec_LocatorText.mono _ _ _
   | exact LeO.none _
   | refine LeO.ite ?_ ?_
   | refine LeO.bind ?_ (fun _ => ?_)
set_option maxHeartbeats 8000000 in
set_option maxRecDepth 100000 in
theorem laws_FnExactLocatorText.calls (k : Nat) (a0 : ByteArray) (A1 : Option Addr) (c1 : Nat) (l1 : List (S23)) (r : Bool) (w : World) (hr1 : Kd.C k23 w A1 l1.length l1) (hc1 : l1.length ≤ c1) (henv : Go.Proofs.YtjckholdcgjdnaaDoorW.Envs.Env [1] w) (h : laws_FnExactLocatorText.f k a0 l1 = some r) :
  Calls Tryd.prog 8 #[.string a0, .slice A1 l1.length c1] w fun e w' => e = .returned (.bool r) ∧ Below w.heap.size w w' := by
 have HR1 := AM hr1
 have HC1 := AM hc1
 clear hr1 hc1
 have HB := AM (Below.refl w.heap.size w)
 have HENV := AM henv
 clear henv
 have H : (if (a0.size : Int) > 1048576 then (some true) else ((laws_szPageRangeS.f k l1 1048576).bind fun t309 => (if t309 < 0 then (some true) else ((laws_toPageRangeS.f k l1).bind fun t310 => ((spec_LocatorText.f k a0 t310).bind fun bt313 => ((laws_toPageRangeS.f k l1).bind fun t315 => ((impl_LocatorText.f k a0 t315).bind fun bt318 => (if bt318.1.toList = bt313.1.toList then (laws_FnExactLocatorText.j0 k l1 t315 (bt318.2 != bt313.2)) else (laws_FnExactLocatorText.j0 k l1 t315 true))))))))) = some r := h
 clear h
 by_cases c3 : (a0.size : Int) > 1048576
 ·rw [if_pos c3] at H
  have c3b0 : decide (1048576 < (a0.size : Int)) = true := decide_eq_true c3
  have c3b1 : decide (1048576 < a0.size) = true := decide_eq_true (by omega)
  clear c3
  obtain rfl := Option.some.inj H
  go_enter Tryd.func8, Tryd.ntmps8
  go_wp2
  go_ret
  exact ⟨by first | rfl | (simp [errW_none, errW_some] <;> rfl) | (simp [*, errW_none, errW_some] <;> rfl) | (simp [errW_none, errW_some] <;> (apply Bool.eq_iff_iff.2; simp [List.isEmpty_iff])), by repeat (first | (with_reducible first | exact HB.out | apply below_alloc | apply pw_below_drewN | apply below_drew1) | exact HB.out)⟩
 ·rw [if_neg c3] at H
  have c3b0 : decide (1048576 < (a0.size : Int)) = false := decide_eq_false c3
  have c3b1 : decide (1048576 < a0.size) = false := decide_eq_false (by omega)
  clear c3
  replace H := Option.bind_eq_some_iff.mp H
  obtain ⟨t309, A40, H⟩ := H
  replace H : (if t309 < 0 then (some true) else ((laws_toPageRangeS.f k l1).bind fun t310 => ((spec_LocatorText.f k a0 t310).bind fun bt313 => ((laws_toPageRangeS.f k l1).bind fun t315 => ((impl_LocatorText.f k a0 t315).bind fun bt318 => (if bt318.1.toList = bt313.1.toList then (laws_FnExactLocatorText.j0 k l1 t315 (bt318.2 != bt313.2)) else (laws_FnExactLocatorText.j0 k l1 t315 true))))))) = some r := H
  have A4 := AM A40
  clear A40
  by_cases c5 : t309 < 0
  ·rw [if_pos c5] at H
   have c5b0 : decide (t309 < 0) = true := decide_eq_true c5
   clear c5
   obtain rfl := Option.some.inj H
   go_enter Tryd.func8, Tryd.ntmps8
   go_wp2_with (first | ((with_reducible refine gate_callee (f := 13) rfl ?_); refine goesL_ (some 16) rfl rfl Tryd.func13 (by kernel_rfl) rfl #[.slice A1 l1.length c1, .int .i64 1048576] rfl (by (try simp only [List.map_toArray, List.map_cons, List.map_nil]); first | done | rfl | (simp only [List.length_drop, List.length_take]; rfl)) ?_; (with_reducible refine (laws_szPageRangeS.calls k _ _ l1 1048576 t309 _ ?side1 ?side2 A4.out).mono ?_); (case side1 => repeat (first | exact HR1.out | (with_reducible refine Kd.C_alloc ?_ _) | (with_reducible refine Kd.C_drewN ?_ _) | (with_reducible refine Kd.C_drew ?_))); (case side2 => exact HC1.out); rintro e w6 ⟨rfl, hb⟩; refine ⟨_, rfl, ?_⟩; have n0_ := AM (below_step (by repeat (first | (with_reducible first | exact HB.out | apply below_alloc | apply pw_below_drewN | apply below_drew1) | exact HB.out)) hb); clear HB; have HB := n0_; clear n0_; (try clear hb); (try clear hb2); (try clear hk); (try clear hi)))
   go_ret
   exact ⟨by first | rfl | (simp [errW_none, errW_some] <;> rfl) | (simp [*, errW_none, errW_some] <;> rfl) | (simp [errW_none, errW_some] <;> (apply Bool.eq_iff_iff.2; simp [List.isEmpty_iff])), by repeat (first | (with_reducible first | exact HB.out | apply below_alloc | apply pw_below_drewN | apply below_drew1) | exact HB.out)⟩
  ·rw [if_neg c5] at H
   have c5b0 : decide (t309 < 0) = false := decide_eq_false c5
   clear c5
   replace H := Option.bind_eq_some_iff.mp H
   obtain ⟨t310, A70, H⟩ := H
   replace H : ((spec_LocatorText.f k a0 t310).bind fun bt313 => ((laws_toPageRangeS.f k l1).bind fun t315 => ((impl_LocatorText.f k a0 t315).bind fun bt318 => (if bt318.1.toList = bt313.1.toList then (laws_FnExactLocatorText.j0 k l1 t315 (bt318.2 != bt313.2)) else (laws_FnExactLocatorText.j0 k l1 t315 true))))) = some r := H
   have A7 := AM A70
   clear A70
   replace H := Option.bind_eq_some_iff.mp H
   obtain ⟨⟨t313, t314⟩, A80, H⟩ := H
   replace H : ((laws_toPageRangeS.f k l1).bind fun t315 => ((impl_LocatorText.f k a0 t315).bind fun bt318 => (if bt318.1.toList = t313.toList then (laws_FnExactLocatorText.j0 k l1 t315 (bt318.2 != t314)) else (laws_FnExactLocatorText.j0 k l1 t315 true)))) = some r := H
   have A8 := AM A80
   clear A80
   replace H := Option.bind_eq_some_iff.mp H
   obtain ⟨t315, A90, H⟩ := H
   replace H : ((impl_LocatorText.f k a0 t315).bind fun bt318 => (if bt318.1.toList = t313.toList then (laws_FnExactLocatorText.j0 k l1 t315 (bt318.2 != t314)) else (laws_FnExactLocatorText.j0 k l1 t315 true))) = some r := H
   have A9 := AM A90
   clear A90
   replace H := Option.bind_eq_some_iff.mp H
   obtain ⟨⟨t318, t319⟩, A100, H⟩ := H
   replace H : (if t318.toList = t313.toList then (laws_FnExactLocatorText.j0 k l1 t315 (t319 != t314)) else (laws_FnExactLocatorText.j0 k l1 t315 true)) = some r := H
   have A10 := AM A100
   clear A100
   have HC11 := AM H
   clear H
   go_enter Tryd.func8, Tryd.ntmps8
   go_upto_region 10 with (first | ((with_reducible refine gate_callee (f := 13) rfl ?_); refine goesL_ (some 16) rfl rfl Tryd.func13 (by kernel_rfl) rfl #[.slice A1 l1.length c1, .int .i64 1048576] rfl (by (try simp only [List.map_toArray, List.map_cons, List.map_nil]); first | done | rfl | (simp only [List.length_drop, List.length_take]; rfl)) ?_; (with_reducible refine (laws_szPageRangeS.calls k _ _ l1 1048576 t309 _ ?side1 ?side2 A4.out).mono ?_); (case side1 => repeat (first | exact HR1.out | (with_reducible refine Kd.C_alloc ?_ _) | (with_reducible refine Kd.C_drewN ?_ _) | (with_reducible refine Kd.C_drew ?_))); (case side2 => exact HC1.out); rintro e w12 ⟨rfl, hb⟩; refine ⟨_, rfl, ?_⟩; have n0_ := AM (below_step (by repeat (first | (with_reducible first | exact HB.out | apply below_alloc | apply pw_below_drewN | apply below_drew1) | exact HB.out)) hb); clear HB; have HB := n0_; clear n0_; (try clear hb); (try clear hb2); (try clear hk); (try clear hi)) | ((with_reducible refine gate_callee (f := 15) rfl ?_); refine goesL_ (some 22) rfl rfl Tryd.func15 (by kernel_rfl) rfl #[.slice A1 l1.length c1] rfl (by (try simp only [List.map_toArray, List.map_cons, List.map_nil]); first | done | rfl | (simp only [List.length_drop, List.length_take]; rfl)) ?_; (with_reducible refine (laws_toPageRangeS.calls k _ _ l1 t310 _ ?side1 ?side2 A7.out).mono ?_); (case side1 => repeat (first | exact (Kd.C_below HR1.out HB.out) | (with_reducible refine Kd.C_alloc ?_ _) | (with_reducible refine Kd.C_drewN ?_ _) | (with_reducible refine Kd.C_drew ?_))); (case side2 => exact HC1.out); rintro e w13 ⟨v311, rfl, ho0, hb⟩; refine ⟨_, rfl, ?_⟩; have n0_ := AM (Kd.R_lower ho0 (below_size (by repeat (first | (with_reducible first | exact HB.out | apply below_alloc | apply pw_below_drewN | apply below_drew1) | exact HB.out)))); have n1_ := AM (below_step (by repeat (first | (with_reducible first | exact HB.out | apply below_alloc | apply pw_below_drewN | apply below_drew1) | exact HB.out)) hb); clear HB; have HO312 := n0_; have HB := n1_; clear n0_ n1_; (try clear hb); (try clear hb2); (try clear hk); (try clear hi); (try clear ho0); obtain ⟨Ao14, co14, eo14⟩ := Kd.R_slice HO312.out; subst eo14) | ((with_reducible refine gate_callee (f := 30) rfl ?_); refine goesL_ (some 23) rfl rfl Tryd.func30 (by kernel_rfl) rfl #[.string a0, .slice Ao14 t310.length co14] rfl (by (try simp only [List.map_toArray, List.map_cons, List.map_nil]); first | done | rfl | (simp only [List.length_drop, List.length_take]; rfl)) ?_; (with_reducible refine (spec_LocatorText.calls k a0 _ _ t310 t313 t314 _ ?side1 ?side2 A8.out).mono ?_); (case side1 => repeat (first | exact (Kd.R_reads' HO312.out).2.2 | (with_reducible refine Kd.C_alloc ?_ _) | (with_reducible refine Kd.C_drewN ?_ _) | (with_reducible refine Kd.C_drew ?_))); (case side2 => exact (Kd.R_reads' HO312.out).2.1); rintro e w15 ⟨rfl, hb⟩; refine ⟨_, rfl, ?_⟩; have n0_ := AM (Kd.R_below (by (with_reducible repeat (first | apply Kd.R_alloc | apply Kd.R_drewN | apply Kd.R_drew)); exact HO312.out) hb); have n1_ := AM (below_step (by repeat (first | (with_reducible first | exact HB.out | apply below_alloc | apply pw_below_drewN | apply below_drew1) | exact HB.out)) hb); clear HO312; clear HB; have HO312 := n0_; have HB := n1_; clear n0_ n1_; (try clear hb); (try clear hb2); (try clear hk); (try clear hi)) | ((with_reducible refine gate_callee (f := 15) rfl ?_); refine goesL_ (some 27) rfl rfl Tryd.func15 (by kernel_rfl) rfl #[.slice A1 l1.length c1] rfl (by (try simp only [List.map_toArray, List.map_cons, List.map_nil]); first | done | rfl | (simp only [List.length_drop, List.length_take]; rfl)) ?_; (with_reducible refine (laws_toPageRangeS.calls k _ _ l1 t315 _ ?side1 ?side2 A9.out).mono ?_); (case side1 => repeat (first | exact (Kd.C_below HR1.out HB.out) | (with_reducible refine Kd.C_alloc ?_ _) | (with_reducible refine Kd.C_drewN ?_ _) | (with_reducible refine Kd.C_drew ?_))); (case side2 => exact HC1.out); rintro e w16 ⟨v316, rfl, ho0, hb⟩; refine ⟨_, rfl, ?_⟩; have n0_ := AM (Kd.R_elder' (by (with_reducible repeat (first | apply Kd.R_alloc | apply Kd.R_drewN | apply Kd.R_drew)); exact HO312.out) (Kd.R_base ho0) hb); have n1_ := AM (Kd.R_lower (Kd.R_new' ho0 (Kd.R_lt (by (with_reducible repeat (first | apply Kd.R_alloc | apply Kd.R_drewN | apply Kd.R_drew)); exact HO312.out))) (below_size (by repeat (first | (with_reducible first | exact HB.out | apply below_alloc | apply pw_below_drewN | apply below_drew1) | exact HB.out)))); have n2_ := AM (below_step (by repeat (first | (with_reducible first | exact HB.out | apply below_alloc | apply pw_below_drewN | apply below_drew1) | exact HB.out)) hb); clear HO312; clear HB; have HO312 := n0_; have HO317 := n1_; have HB := n2_; clear n0_ n1_ n2_; (try clear hb); (try clear hb2); (try clear hk); (try clear hi); (try clear ho0); obtain ⟨Ao17, co17, eo17⟩ := Kd.R_slice HO317.out; subst eo17) | ((with_reducible refine gate_callee (f := 29) rfl ?_); refine goesL_ (some 31) rfl rfl Tryd.func29 (by kernel_rfl) rfl #[.string a0, .slice Ao17 t315.length co17] rfl (by (try simp only [List.map_toArray, List.map_cons, List.map_nil]); first | done | rfl | (simp only [List.length_drop, List.length_take]; rfl)) ?_; (with_reducible refine (impl_LocatorText.calls k a0 _ _ t315 t318 t319 _ ?side1 ?side2 ?side3 A10.out).mono ?_); (case side1 => repeat (first | exact (Kd.R_reads' HO317.out).2.2 | (with_reducible refine Kd.C_alloc ?_ _) | (with_reducible refine Kd.C_drewN ?_ _) | (with_reducible refine Kd.C_drew ?_))); (case side2 => exact (Kd.R_reads' HO317.out).2.1); (case side3 => exact Go.Proofs.YtjckholdcgjdnaaDoorW.Envs.Env.below HENV.out (by repeat (first | (with_reducible first | exact HB.out | apply below_alloc | apply pw_below_drewN | apply below_drew1) | exact HB.out))); rintro e w18 ⟨rfl, hb⟩; refine ⟨_, rfl, ?_⟩; have n0_ := AM (Kd.R_below (by (with_reducible repeat (first | apply Kd.R_alloc | apply Kd.R_drewN | apply Kd.R_drew)); exact HO312.out) hb); have n1_ := AM (Kd.R_below (by (with_reducible repeat (first | apply Kd.R_alloc | apply Kd.R_drewN | apply Kd.R_drew)); exact HO317.out) hb); have n2_ := AM (below_step (by repeat (first | (with_reducible first | exact HB.out | apply below_alloc | apply pw_below_drewN | apply below_drew1) | exact HB.out)) hb); clear HO312; clear HO317; clear HB; have HO312 := n0_; have HO317 := n1_; have HB := n2_; clear n0_ n1_ n2_; (try clear hb); (try clear hb2); (try clear hk); (try clear hi)))
   (try simp only [Act.put, sT, sZ, sS])
   go_cut [41] (fun v41 wc => ∃ (kq : Nat) (x41_10 : Bool), v41 = .bool x41_10 ∧ Aside0 (laws_FnExactLocatorText.j0 kq l1 t315 x41_10 = some r) ∧ Aside0 (kq ≤ k) ∧ Aside0 (Kd.R k27 27 wc w.heap.size (fun _ => True) (.slice Ao17 t315.length co17) t315) ∧ Aside0 (Below w.heap.size w wc))
   case first =>
    have H := HC11.out
    clear HC11
    by_cases c19 : t318.toList = t313.toList
    ·rw [if_pos c19] at H
     have c19b0 : (t318.toList == t313.toList) = true := beq_iff_eq.mpr c19
     have c19b1 : (t318.toList != t313.toList) = false := bne_eq_false_iff_eq.mpr c19
     clear c19
     (first | rw [c19b0] | rw [c19b1] | rw [c19b2] | (simp only [i64_w, i32_w]; rw [c19b0]) | skip)
     have H' := AM H
     clear H
     go_wp2
     go_meet
     case rel => exact ⟨_, ((t319 != t314)), (by first | rfl | (simp; done) | (simp [*]; done)), H', ⟨by first | omega | exact Nat.le_refl _⟩, ⟨by (with_reducible repeat (first | apply Kd.R_alloc | apply Kd.R_drewN | apply Kd.R_drew)); exact Kd.R_mono HO317.out (fun _ hk => trivial)⟩, ⟨by repeat (first | (with_reducible first | exact HB.out | apply below_alloc | apply pw_below_drewN | apply below_drew1) | exact HB.out)⟩⟩
    ·rw [if_neg c19] at H
     have c19b0 : (t318.toList == t313.toList) = false := beq_eq_false_iff_ne.mpr c19
     have c19b1 : (t318.toList != t313.toList) = true := bne_iff_ne.mpr c19
     (first | rw [c19b0] | rw [c19b1] | rw [c19b2] | (simp only [i64_w, i32_w]; rw [c19b0]) | skip)
     have H' := AM H
     clear H
     go_wp2
     go_meet
     case rel => exact ⟨_, (true), (by first | rfl | (simp; done) | (simp [*]; done)), H', ⟨by first | omega | exact Nat.le_refl _⟩, ⟨by (with_reducible repeat (first | apply Kd.R_alloc | apply Kd.R_drewN | apply Kd.R_drew)); exact Kd.R_mono HO317.out (fun _ hk => trivial)⟩, ⟨by repeat (first | (with_reducible first | exact HB.out | apply below_alloc | apply pw_below_drewN | apply below_drew1) | exact HB.out)⟩⟩
   case rest =>
    clear HC11
    try clear c1
    try clear c2
    try clear p2
    try clear c3
    try clear c3b0
    try clear c3b1
    try clear c5
    try clear c5b0
    try clear c8
    try clear c13
    try clear c15
    try clear c19
    try clear c19b0
    try clear c19b1
    try clear c19b2
    obtain ⟨kq, x41_10, rfl, HA, HJ10, HO_8, HB⟩ := hcut
    cases kq with
    | zero => exact absurd HA.out (by simp [laws_FnExactLocatorText.j0])
    | succ kj10 =>
     have H := HA.out
     clear HA
     simp only [laws_FnExactLocatorText.j0] at H
     by_cases c20 : x41_10 = true
     ·subst c20
      have H1 : (some false) = some r := by rw [if_pos rfl] at H; exact H
      clear H
      have H := H1
      clear H1
      obtain rfl := Option.some.inj H
      go_wp2
      go_ret
      exact ⟨by first | rfl | (simp [errW_none, errW_some] <;> rfl) | (simp [*, errW_none, errW_some] <;> rfl) | (simp [errW_none, errW_some] <;> (apply Bool.eq_iff_iff.2; simp [List.isEmpty_iff])), by repeat (first | (with_reducible first | exact HB.out | apply below_alloc | apply pw_below_drewN | apply below_drew1) | exact HB.out)⟩
     ·replace c20 := Bool.eq_false_iff.mpr c20
      subst c20
      have H1 : ((laws_toPageRangeS.f kj10 l1).bind fun t320 => ((laws_eqPageRangeS.f kj10 t315 t320).bind fun t323 => (if t323 = true then (some true) else (some false)))) = some r := by rw [if_neg (show ¬ (false = true) by decide)] at H; exact H
      clear H
      have H := H1
      clear H1
      replace H := Option.bind_eq_some_iff.mp H
      obtain ⟨t320, A210, H⟩ := H
      replace H : ((laws_eqPageRangeS.f kj10 t315 t320).bind fun t323 => (if t323 = true then (some true) else (some false))) = some r := H
      have A21 := AM A210
      clear A210
      replace H := Option.bind_eq_some_iff.mp H
      obtain ⟨t323, A220, H⟩ := H
      replace H : (if t323 = true then (some true) else (some false)) = some r := H
      have A22 := AM A220
      clear A220
      by_cases c23 : t323 = true
      ·subst c23
       have H1 : (some true) = some r := by rw [if_pos rfl] at H; exact H
       clear H
       have H := H1
       clear H1
       obtain rfl := Option.some.inj H
       go_wp2_with (first | ((with_reducible refine gate_callee (f := 15) rfl ?_); refine goesL_ (some 44) rfl rfl Tryd.func15 (by kernel_rfl) rfl #[.slice A1 l1.length c1] rfl (by (try simp only [List.map_toArray, List.map_cons, List.map_nil]); first | done | rfl | (simp only [List.length_drop, List.length_take]; rfl)) ?_; (with_reducible refine (laws_toPageRangeS.calls kj10 _ _ l1 t320 _ ?side1 ?side2 A21.out).mono ?_); (case side1 => repeat (first | exact (Kd.C_below HR1.out HB.out) | (with_reducible refine Kd.C_alloc ?_ _) | (with_reducible refine Kd.C_drewN ?_ _) | (with_reducible refine Kd.C_drew ?_))); (case side2 => exact HC1.out); rintro e w24 ⟨v321, rfl, ho0, hb⟩; refine ⟨_, rfl, ?_⟩; have n0_ := AM (Kd.R_elder' (by (with_reducible repeat (first | apply Kd.R_alloc | apply Kd.R_drewN | apply Kd.R_drew)); exact HO_8.out) (Kd.R_base ho0) hb); have n1_ := AM (Kd.R_lower (Kd.R_new' ho0 (Kd.R_lt (by (with_reducible repeat (first | apply Kd.R_alloc | apply Kd.R_drewN | apply Kd.R_drew)); exact HO_8.out))) (below_size (by repeat (first | (with_reducible first | exact HB.out | apply below_alloc | apply pw_below_drewN | apply below_drew1) | exact HB.out)))); have n2_ := AM (below_step (by repeat (first | (with_reducible first | exact HB.out | apply below_alloc | apply pw_below_drewN | apply below_drew1) | exact HB.out)) hb); clear HO_8; clear HB; have HO_8 := n0_; have HO322 := n1_; have HB := n2_; clear n0_ n1_ n2_; (try clear hb); (try clear hb2); (try clear hk); (try clear hi); (try clear ho0); obtain ⟨Ao25, co25, eo25⟩ := Kd.R_slice HO322.out; subst eo25) | ((with_reducible refine gate_callee (f := 17) rfl ?_); refine goesL_ (some 45) rfl rfl Tryd.func17 (by kernel_rfl) rfl #[.slice Ao17 t315.length co17, .slice Ao25 t320.length co25] rfl (by (try simp only [List.map_toArray, List.map_cons, List.map_nil]); first | done | rfl | (simp only [List.length_drop, List.length_take]; rfl)) ?_; (with_reducible refine (laws_eqPageRangeS.calls kj10 _ _ t315 _ _ t320 true _ ?side1 ?side2 ?side3 ?side4 A22.out).mono ?_); (case side1 => repeat (first | exact (Kd.R_reads' HO_8.out).2.2 | (with_reducible refine Kd.C_alloc ?_ _) | (with_reducible refine Kd.C_drewN ?_ _) | (with_reducible refine Kd.C_drew ?_))); (case side2 => exact (Kd.R_reads' HO_8.out).2.1); (case side3 => repeat (first | exact (Kd.R_reads' HO322.out).2.2 | (with_reducible refine Kd.C_alloc ?_ _) | (with_reducible refine Kd.C_drewN ?_ _) | (with_reducible refine Kd.C_drew ?_))); (case side4 => exact (Kd.R_reads' HO322.out).2.1); rintro e w26 ⟨rfl, hb⟩; refine ⟨_, rfl, ?_⟩; have n0_ := AM (Kd.R_below (by (with_reducible repeat (first | apply Kd.R_alloc | apply Kd.R_drewN | apply Kd.R_drew)); exact HO_8.out) hb); have n1_ := AM (Kd.R_below (by (with_reducible repeat (first | apply Kd.R_alloc | apply Kd.R_drewN | apply Kd.R_drew)); exact HO322.out) hb); have n2_ := AM (below_step (by repeat (first | (with_reducible first | exact HB.out | apply below_alloc | apply pw_below_drewN | apply below_drew1) | exact HB.out)) hb); clear HO_8; clear HO322; clear HB; have HO_8 := n0_; have HO322 := n1_; have HB := n2_; clear n0_ n1_ n2_; (try clear hb); (try clear hb2); (try clear hk); (try clear hi)))
       go_ret
       exact ⟨by first | rfl | (simp [errW_none, errW_some] <;> rfl) | (simp [*, errW_none, errW_some] <;> rfl) | (simp [errW_none, errW_some] <;> (apply Bool.eq_iff_iff.2; simp [List.isEmpty_iff])), by repeat (first | (with_reducible first | exact HB.out | apply below_alloc | apply pw_below_drewN | apply below_drew1) | exact HB.out)⟩
      ·replace c23 := Bool.eq_false_iff.mpr c23
       subst c23
       have H1 : (some false) = some r := by rw [if_neg (show ¬ (false = true) by decide)] at H; exact H
       clear H
       have H := H1
       clear H1
       obtain rfl := Option.some.inj H
       go_wp2_with (first | ((with_reducible refine gate_callee (f := 15) rfl ?_); refine goesL_ (some 44) rfl rfl Tryd.func15 (by kernel_rfl) rfl #[.slice A1 l1.length c1] rfl (by (try simp only [List.map_toArray, List.map_cons, List.map_nil]); first | done | rfl | (simp only [List.length_drop, List.length_take]; rfl)) ?_; (with_reducible refine (laws_toPageRangeS.calls kj10 _ _ l1 t320 _ ?side1 ?side2 A21.out).mono ?_); (case side1 => repeat (first | exact (Kd.C_below HR1.out HB.out) | (with_reducible refine Kd.C_alloc ?_ _) | (with_reducible refine Kd.C_drewN ?_ _) | (with_reducible refine Kd.C_drew ?_))); (case side2 => exact HC1.out); rintro e w27 ⟨v321, rfl, ho0, hb⟩; refine ⟨_, rfl, ?_⟩; have n0_ := AM (Kd.R_elder' (by (with_reducible repeat (first | apply Kd.R_alloc | apply Kd.R_drewN | apply Kd.R_drew)); exact HO_8.out) (Kd.R_base ho0) hb); have n1_ := AM (Kd.R_lower (Kd.R_new' ho0 (Kd.R_lt (by (with_reducible repeat (first | apply Kd.R_alloc | apply Kd.R_drewN | apply Kd.R_drew)); exact HO_8.out))) (below_size (by repeat (first | (with_reducible first | exact HB.out | apply below_alloc | apply pw_below_drewN | apply below_drew1) | exact HB.out)))); have n2_ := AM (below_step (by repeat (first | (with_reducible first | exact HB.out | apply below_alloc | apply pw_below_drewN | apply below_drew1) | exact HB.out)) hb); clear HO_8; clear HB; have HO_8 := n0_; have HO322 := n1_; have HB := n2_; clear n0_ n1_ n2_; (try clear hb); (try clear hb2); (try clear hk); (try clear hi); (try clear ho0); obtain ⟨Ao28, co28, eo28⟩ := Kd.R_slice HO322.out; subst eo28) | ((with_reducible refine gate_callee (f := 17) rfl ?_); refine goesL_ (some 45) rfl rfl Tryd.func17 (by kernel_rfl) rfl #[.slice Ao17 t315.length co17, .slice Ao28 t320.length co28] rfl (by (try simp only [List.map_toArray, List.map_cons, List.map_nil]); first | done | rfl | (simp only [List.length_drop, List.length_take]; rfl)) ?_; (with_reducible refine (laws_eqPageRangeS.calls kj10 _ _ t315 _ _ t320 false _ ?side1 ?side2 ?side3 ?side4 A22.out).mono ?_); (case side1 => repeat (first | exact (Kd.R_reads' HO_8.out).2.2 | (with_reducible refine Kd.C_alloc ?_ _) | (with_reducible refine Kd.C_drewN ?_ _) | (with_reducible refine Kd.C_drew ?_))); (case side2 => exact (Kd.R_reads' HO_8.out).2.1); (case side3 => repeat (first | exact (Kd.R_reads' HO322.out).2.2 | (with_reducible refine Kd.C_alloc ?_ _) | (with_reducible refine Kd.C_drewN ?_ _) | (with_reducible refine Kd.C_drew ?_))); (case side4 => exact (Kd.R_reads' HO322.out).2.1); rintro e w29 ⟨rfl, hb⟩; refine ⟨_, rfl, ?_⟩; have n0_ := AM (Kd.R_below (by (with_reducible repeat (first | apply Kd.R_alloc | apply Kd.R_drewN | apply Kd.R_drew)); exact HO_8.out) hb); have n1_ := AM (Kd.R_below (by (with_reducible repeat (first | apply Kd.R_alloc | apply Kd.R_drewN | apply Kd.R_drew)); exact HO322.out) hb); have n2_ := AM (below_step (by repeat (first | (with_reducible first | exact HB.out | apply below_alloc | apply pw_below_drewN | apply below_drew1) | exact HB.out)) hb); clear HO_8; clear HO322; clear HB; have HO_8 := n0_; have HO322 := n1_; have HB := n2_; clear n0_ n1_ n2_; (try clear hb); (try clear hb2); (try clear hk); (try clear hi)))
       go_ret
       exact ⟨by first | rfl | (simp [errW_none, errW_some] <;> rfl) | (simp [*, errW_none, errW_some] <;> rfl) | (simp [errW_none, errW_some] <;> (apply Bool.eq_iff_iff.2; simp [List.isEmpty_iff])), by repeat (first | (with_reducible first | exact HB.out | apply below_alloc | apply pw_below_drewN | apply below_drew1) | exact HB.out)⟩

/-- THE ONE PURE STATEMENT of laws_FnExactLocatorText. -/
def laws_FnExactLocatorText.Pure : Prop := ∀ (a0 : ByteArray) (l1 : List (S23)), a0.size ≤ 140737488351232 → l1.length ≤ 9223372036854775807 → (∀ x ∈ l1, Wf23 x) → ∃ k, laws_FnExactLocatorText.f k a0 l1 = some true
theorem laws_FnExactLocatorText.walk (P : laws_FnExactLocatorText.Pure) (a0 : ByteArray) (A1 : Option Addr) (c1 : Nat) (l1 : List (S23)) (w : World) (hw0 : a0.size ≤ 140737488351232) (hr1 : Kd.C k23 w A1 l1.length l1) (hc1 : l1.length ≤ c1) (hw1 : ∀ x ∈ l1, Wf23 x) (henv : Go.Proofs.YtjckholdcgjdnaaDoorW.Envs.Env [1] w) :
  Calls Tryd.prog 8 #[.string a0, .slice A1 l1.length c1] w fun e w' => e = .returned (.bool true) ∧ Below w.heap.size w w' := by
 obtain ⟨k, h⟩ := P a0 l1 hw0 hr1.2.1 hw1
 refine (laws_FnExactLocatorText.calls k a0 A1 c1 l1 true w hr1 hc1 henv h).mono ?_
 rintro e w' ⟨rfl, hd⟩
 exact ⟨rfl, hd⟩

end Go.Proofs.YtjckholdcgjdnaaDoor.Px
