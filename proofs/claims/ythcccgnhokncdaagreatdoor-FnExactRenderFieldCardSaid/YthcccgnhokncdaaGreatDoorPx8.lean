/- Calls of Go functions come to what the Lean functions beside them say; written by a program of this session (wip/xprint); no conditions. -/
import Derived.Test.YthcccgnhokncdaaGreatDoorPx7
namespace Go.Proofs.YthcccgnhokncdaaGreatDoor.Px
open Go.RowKit Go.Proofs.YthcccgnhokncdaaGreatDoorW.PrintWords Go.Proofs.YthcccgnhokncdaaGreatDoorW.PrintLast Go.Proofs.YthcccgnhokncdaaGreatDoorW.PrintMore
open Go.Proofs.YthcccgnhokncdaaGreatDoorW.PrintWords renaming pw_below_drewN → pN, below_drew1 → p1, below_alloc → pA, below_set → pS, blk_drewN → bN, blk_alloc → bL, blk_drew → bW, below_step → bS, below_size → bZ, gate_dst → gD, box_event → gB, blk_below → bB, gate_callee → gC
open Go.Proofs.YthcccgnhokncdaaGreatDoorW.PrintWords.Aside0 renaming mk → AM
open Go.World renaming drewN_drewN → wD
open Bool renaming eq_false_iff → bE
open Option renaming bind_eq_some_iff → oB
open Option.some renaming inj → oI
open Go.Proofs.YthcccgnhokncdaaGreatDoorW.PrintWords.Kd renaming C_alloc → cA, C_drewN → cN, C_drew → cD, C_below → cB
open Go.Proofs.YthcccgnhokncdaaGreatDoorW.PrintLast renaming goesL_ → gL
open List renaming map_toArray → mT, map_cons → mC, map_nil → mN
attribute [local go_sem] max2_int min2_int max_two min_two max_three min_three max_four min_four
set_option maxHeartbeats 8000000
set_option maxRecDepth 100000
set_option linter.unusedVariables false
set_option linter.unusedSimpArgs false
attribute [local go_sem high] eqA31
/-! ### impl_IsValidDate: function 37 -/
def impl_IsValidDate.j0 : Nat → Bool → Int → Int → Int → Bool → Option (Bool)
 | 0, _, _, _, _, _ => none
 | k + 1, x24, x326000, x326001, x326002, x326003 => if x24 = true then (some false) else (if x326001 = 0 then (some (x326002 == 0)) else ((impl_daysInMonth.f x326000 x326001).bind fun t328 => ((impl_inside.f x326002 0 t328).bind fun t329 => (some t329))))
def impl_IsValidDate.f (k : Nat) (a0_0 : Int) (a0_1 : Int) (a0_2 : Int) (a0_3 : Bool) : Option (Bool) := if (a0_0 == 0 && (a0_1 == 0 && (a0_2 == 0 && (!a0_3)))) = true then (some true) else ((impl_inside.f a0_0 1 2999).bind fun t326 => (if t326 = true then ((impl_inside.f a0_1 0 12).bind fun t327 => (if t327 = true then (if a0_3 = true then (impl_IsValidDate.j0 k (a0_1 != 0) a0_0 a0_1 a0_2 a0_3) else (impl_IsValidDate.j0 k false a0_0 a0_1 a0_2 a0_3)) else (impl_IsValidDate.j0 k true a0_0 a0_1 a0_2 a0_3))) else (impl_IsValidDate.j0 k true a0_0 a0_1 a0_2 a0_3)))
theorem impl_IsValidDate.mono_l : ∀ k, (∀ y0 y1 y2 y3 y4, LeO (impl_IsValidDate.j0 k y0 y1 y2 y3 y4) (impl_IsValidDate.j0 (k + 1) y0 y1 y2 y3 y4))
 | 0 => fun _ _ _ _ _ r h => by simp [impl_IsValidDate.j0] at h
 | k + 1 => by
  have ih0 := impl_IsValidDate.mono_l k
  ·intro y0 y1 y2 y3 y4
   unfold impl_IsValidDate.j0
   repeat' with_reducible first
   | exact ih0 _ _ _ _ _
   | exact LeO.refl _
   | exact LeO.none _
   | refine LeO.ite ?_ ?_
   | refine LeO.bind ?_ (fun _ => ?_)
theorem impl_IsValidDate.mono : ∀ a0 a1 a2 a3 k, LeO (impl_IsValidDate.f k a0 a1 a2 a3) (impl_IsValidDate.f (k + 1) a0 a1 a2 a3) := by
 intro a0 a1 a2 a3 k;have ih0 := impl_IsValidDate.mono_l k;unfold impl_IsValidDate.f
 repeat' with_reducible first
   | exact ih0 _ _ _ _ _
   | exact LeO.refl _
   | exact LeO.none _
   | refine LeO.ite ?_ ?_
   | refine LeO.bind ?_ (fun _ => ?_)
theorem impl_IsValidDate.calls (k : Nat) (a0_0 : Int) (a0_1 : Int) (a0_2 : Int) (a0_3 : Bool) (r : Bool) (w : World) (h : impl_IsValidDate.f k a0_0 a0_1 a0_2 a0_3 = some r) :
  Calls Tryz.prog 37 #[.agg #[.int .i64 a0_0, .int .i64 a0_1, .int .i64 a0_2, .bool a0_3]] w fun e w' => e = .returned (.bool r) ∧ Below w.heap.size w w' := by
 have hu31 := Tryz.underlying31;have HB := AM (Below.refl w.heap.size w);have H := h;unfold impl_IsValidDate.f at H;clear h;have HC2 := AM H;clear H;(go_enter Tryz.func37, Tryz.ntmps37)
 go_upto_if 5 with (first | ((with_reducible refine gD (N := 1) rfl ?_); refine gB ?hg (N := 1) ?hd (cs := #[.int .i64 a0_0, .int .i64 a0_1, .int .i64 a0_2, .bool a0_3]) (t := 31) ?hr ?_; (case hd => rfl); (case hg => rfl); (case hr => first | (go_simp; done) | (go_simp; rfl)); intro gb325 hg w3 hbox hb; have BK325 := AM (hbox); have GW325 := AM ((by rw [hg]; exact (bZ (by with_reducible repeat first | exact HB.out | apply pA | apply pN | apply p1)) : w.heap.size ≤ gb325)); have GE325 := AM ((by rw [hg]; exact (bZ (by with_reducible repeat first | exact HB.out | apply pA | apply pN | apply p1)) : w.heap.size ≤ gb325)); replace HB := AM (bS (by with_reducible repeat first | exact HB.out | apply pA | apply pN | apply p1) hb); clear hb hbox hg; obtain ⟨z4_0, z4_1, z4_2, z4_3⟩ := cells4 BK325.out))
 (repeat (go_quiet (first | ((with_reducible refine gD (N := 1) rfl ?_); refine gB ?hg (N := 1) ?hd (cs := #[.int .i64 a0_0, .int .i64 a0_1, .int .i64 a0_2, .bool a0_3]) (t := 31) ?hr ?_; (case hd => rfl); (case hg => rfl); (case hr => first | (go_simp; done) | (go_simp; rfl)); intro gb325 hg w3 hbox hb; have BK325 := AM (hbox); have GW325 := AM ((by rw [hg]; exact (bZ (by with_reducible repeat first | exact HB.out | apply pA | apply pN | apply p1)) : w.heap.size ≤ gb325)); have GE325 := AM ((by rw [hg]; exact (bZ (by with_reducible repeat first | exact HB.out | apply pA | apply pN | apply p1)) : w.heap.size ≤ gb325)); replace HB := AM (bS (by with_reducible repeat first | exact HB.out | apply pA | apply pN | apply p1) hb); clear hb hbox hg; obtain ⟨z4_0, z4_1, z4_2, z4_3⟩ := cells4 BK325.out)); go_upto_if 5 with (first | ((with_reducible refine gD (N := 1) rfl ?_); refine gB ?hg (N := 1) ?hd (cs := #[.int .i64 a0_0, .int .i64 a0_1, .int .i64 a0_2, .bool a0_3]) (t := 31) ?hr ?_; (case hd => rfl); (case hg => rfl); (case hr => first | (go_simp; done) | (go_simp; rfl)); intro gb325 hg w3 hbox hb; have BK325 := AM (hbox); have GW325 := AM ((by rw [hg]; exact (bZ (by with_reducible repeat first | exact HB.out | apply pA | apply pN | apply p1)) : w.heap.size ≤ gb325)); have GE325 := AM ((by rw [hg]; exact (bZ (by with_reducible repeat first | exact HB.out | apply pA | apply pN | apply p1)) : w.heap.size ≤ gb325)); replace HB := AM (bS (by with_reducible repeat first | exact HB.out | apply pA | apply pN | apply p1) hb); clear hb hbox hg; obtain ⟨z4_0, z4_1, z4_2, z4_3⟩ := cells4 BK325.out))));have H := HC2.out;clear HC2;by_cases c5 : (a0_0 == 0 && (a0_1 == 0 && (a0_2 == 0 && (!a0_3)))) = true;(·rw [if_pos c5] at H;have c5b0 : (a0_0 == 0 && (a0_1 == 0 && (a0_2 == 0 && (!a0_3)))) = true := c5;(try (have c5b1 : decide (a0_0 = 0 && (a0_1 == 0 && (a0_2 == 0 && (!a0_3)))) = true := by simpa using c5));(try (have c5b2 : (a0_0 == 0 && (a0_1 == 0 && (a0_2 == 0 && (!a0_3)))) = true := by simpa using c5));clear c5;(first | rw [c5b0] | rw [c5b1] | rw [c5b2] | (simp only [i64_w, i32_w]; rw [c5b0]) | skip);obtain rfl := oI H;(go_wp2);(repeat (go_quiet (fail); try go_wp2));(go_ret);exact ⟨rfl, by with_reducible repeat first | exact HB.out | apply pA | apply pN | apply p1 | refine pS ?_ GE325.out⟩)
 ·rw [if_neg c5] at H
  (have c5b0 : (a0_0 == 0 && (a0_1 == 0 && (a0_2 == 0 && (!a0_3)))) = false := by simpa using c5);(try (have c5b1 : decide (a0_0 = 0 && (a0_1 == 0 && (a0_2 == 0 && (!a0_3)))) = false := by simpa using c5));(try (have c5b2 : (a0_0 == 0 && (a0_1 == 0 && (a0_2 == 0 && (!a0_3)))) = false := by simpa using c5));(try (have c5b3 : ¬ (a0_0 = 0 && (a0_1 == 0 && (a0_2 == 0 && (!a0_3)))) := by simpa using c5));clear c5;(first | rw [c5b0] | rw [c5b1] | rw [c5b2] | (simp only [i64_w, i32_w]; rw [c5b0]) | skip);have HC6 := AM H;clear H
  go_upto_region 3 with (fail)
  (repeat (go_quiet (fail); go_upto_region 3 with (fail)));(go_cut [24] (fun v24 wc => ∃ (kq : Nat) (x24_5 : Bool), v24 = .bool x24_5 ∧ Aside0 (impl_IsValidDate.j0 kq x24_5 a0_0 a0_1 a0_2 a0_3 = some r) ∧ Aside0 (kq ≤ k) ∧ Aside0 (wc.heap[gb325]? = some (.cells #[.int .i64 a0_0, .int .i64 a0_1, .int .i64 a0_2, .bool a0_3] 31 (0, 0))) ∧ Aside0 (Below w.heap.size w wc)))
  case first =>
   have H := HC6.out;clear HC6;replace H := oB.mp H;obtain ⟨t326, A70, H⟩ := H;(try dsimp only at H);have A7 := AM A70;clear A70;by_cases c8 : t326 = true
   ·subst c8
    rw [if_pos rfl] at H;replace H := oB.mp H;obtain ⟨t327, A90, H⟩ := H;(try dsimp only at H);have A9 := AM A90;clear A90;by_cases c10 : t327 = true
    ·subst c10
     rw [if_pos rfl] at H;by_cases c11 : a0_3 = true
     ·subst c11
      rw [if_pos rfl] at H;have H' := AM H;clear H;obtain ⟨z12_0, z12_1, z12_2, z12_3⟩ := cells4 BK325.out
      go_wp2_with (first | (go_at_call 38; (with_reducible refine (impl_inside.calls a0_0 1 2999 true _ A7.out).mono ?_); rintro e w' ⟨rfl, ⟨nd, rfl⟩⟩; (try first | exact ⟨rfl, _, wD _ _ _⟩ | exact ⟨rfl, _, Eq.trans (wD _ _ _) (congrArg (World.drewN _) (Nat.add_assoc _ _ _))⟩)) | (go_at_call 38; (with_reducible refine (impl_inside.calls a0_1 0 12 true _ A9.out).mono ?_); rintro e w' ⟨rfl, ⟨nd, rfl⟩⟩; (try first | exact ⟨rfl, _, wD _ _ _⟩ | exact ⟨rfl, _, Eq.trans (wD _ _ _) (congrArg (World.drewN _) (Nat.add_assoc _ _ _))⟩)))
      (repeat (go_quiet (first | (go_at_call 38; (with_reducible refine (impl_inside.calls a0_0 1 2999 true _ A7.out).mono ?_); rintro e w' ⟨rfl, ⟨nd, rfl⟩⟩; (try first | exact ⟨rfl, _, wD _ _ _⟩ | exact ⟨rfl, _, Eq.trans (wD _ _ _) (congrArg (World.drewN _) (Nat.add_assoc _ _ _))⟩)) | (go_at_call 38; (with_reducible refine (impl_inside.calls a0_1 0 12 true _ A9.out).mono ?_); rintro e w' ⟨rfl, ⟨nd, rfl⟩⟩; (try first | exact ⟨rfl, _, wD _ _ _⟩ | exact ⟨rfl, _, Eq.trans (wD _ _ _) (congrArg (World.drewN _) (Nat.add_assoc _ _ _))⟩))); try go_wp2_with (first | (go_at_call 38; (with_reducible refine (impl_inside.calls a0_0 1 2999 true _ A7.out).mono ?_); rintro e w' ⟨rfl, ⟨nd, rfl⟩⟩; (try first | exact ⟨rfl, _, wD _ _ _⟩ | exact ⟨rfl, _, Eq.trans (wD _ _ _) (congrArg (World.drewN _) (Nat.add_assoc _ _ _))⟩)) | (go_at_call 38; (with_reducible refine (impl_inside.calls a0_1 0 12 true _ A9.out).mono ?_); rintro e w' ⟨rfl, ⟨nd, rfl⟩⟩; (try first | exact ⟨rfl, _, wD _ _ _⟩ | exact ⟨rfl, _, Eq.trans (wD _ _ _) (congrArg (World.drewN _) (Nat.add_assoc _ _ _))⟩)))));(go_meet)
      case rel => exact ⟨_, ((a0_1 != 0)), (by first | rfl | (simp; done) | (simp [*]; done)), H', ⟨by first | omega | exact Nat.le_refl _⟩, ⟨by (with_reducible repeat (first | refine bN ?_ _ | refine bW ?_ | refine bL ?_ _)); exact BK325.out⟩, ⟨by with_reducible repeat first | exact HB.out | apply pA | apply pN | apply p1 | refine pS ?_ GE325.out⟩⟩
     ·replace c11 := bE.mpr c11
      subst c11;rw [if_neg (show ¬ (false = true) by decide)] at H;have H' := AM H;clear H;obtain ⟨z13_0, z13_1, z13_2, z13_3⟩ := cells4 BK325.out
      go_wp2_with (first | (go_at_call 38; (with_reducible refine (impl_inside.calls a0_0 1 2999 true _ A7.out).mono ?_); rintro e w' ⟨rfl, ⟨nd, rfl⟩⟩; (try first | exact ⟨rfl, _, wD _ _ _⟩ | exact ⟨rfl, _, Eq.trans (wD _ _ _) (congrArg (World.drewN _) (Nat.add_assoc _ _ _))⟩)) | (go_at_call 38; (with_reducible refine (impl_inside.calls a0_1 0 12 true _ A9.out).mono ?_); rintro e w' ⟨rfl, ⟨nd, rfl⟩⟩; (try first | exact ⟨rfl, _, wD _ _ _⟩ | exact ⟨rfl, _, Eq.trans (wD _ _ _) (congrArg (World.drewN _) (Nat.add_assoc _ _ _))⟩)))
      (repeat (go_quiet (first | (go_at_call 38; (with_reducible refine (impl_inside.calls a0_0 1 2999 true _ A7.out).mono ?_); rintro e w' ⟨rfl, ⟨nd, rfl⟩⟩; (try first | exact ⟨rfl, _, wD _ _ _⟩ | exact ⟨rfl, _, Eq.trans (wD _ _ _) (congrArg (World.drewN _) (Nat.add_assoc _ _ _))⟩)) | (go_at_call 38; (with_reducible refine (impl_inside.calls a0_1 0 12 true _ A9.out).mono ?_); rintro e w' ⟨rfl, ⟨nd, rfl⟩⟩; (try first | exact ⟨rfl, _, wD _ _ _⟩ | exact ⟨rfl, _, Eq.trans (wD _ _ _) (congrArg (World.drewN _) (Nat.add_assoc _ _ _))⟩))); try go_wp2_with (first | (go_at_call 38; (with_reducible refine (impl_inside.calls a0_0 1 2999 true _ A7.out).mono ?_); rintro e w' ⟨rfl, ⟨nd, rfl⟩⟩; (try first | exact ⟨rfl, _, wD _ _ _⟩ | exact ⟨rfl, _, Eq.trans (wD _ _ _) (congrArg (World.drewN _) (Nat.add_assoc _ _ _))⟩)) | (go_at_call 38; (with_reducible refine (impl_inside.calls a0_1 0 12 true _ A9.out).mono ?_); rintro e w' ⟨rfl, ⟨nd, rfl⟩⟩; (try first | exact ⟨rfl, _, wD _ _ _⟩ | exact ⟨rfl, _, Eq.trans (wD _ _ _) (congrArg (World.drewN _) (Nat.add_assoc _ _ _))⟩)))));(go_meet)
      case rel => exact ⟨_, (false), (by first | rfl | (simp; done) | (simp [*]; done)), H', ⟨by first | omega | exact Nat.le_refl _⟩, ⟨by (with_reducible repeat (first | refine bN ?_ _ | refine bW ?_ | refine bL ?_ _)); exact BK325.out⟩, ⟨by with_reducible repeat first | exact HB.out | apply pA | apply pN | apply p1 | refine pS ?_ GE325.out⟩⟩
    ·replace c10 := bE.mpr c10
     subst c10;rw [if_neg (show ¬ (false = true) by decide)] at H;have H' := AM H;clear H;obtain ⟨z14_0, z14_1, z14_2, z14_3⟩ := cells4 BK325.out
     go_wp2_with (first | (go_at_call 38; (with_reducible refine (impl_inside.calls a0_0 1 2999 true _ A7.out).mono ?_); rintro e w' ⟨rfl, ⟨nd, rfl⟩⟩; (try first | exact ⟨rfl, _, wD _ _ _⟩ | exact ⟨rfl, _, Eq.trans (wD _ _ _) (congrArg (World.drewN _) (Nat.add_assoc _ _ _))⟩)) | (go_at_call 38; (with_reducible refine (impl_inside.calls a0_1 0 12 false _ A9.out).mono ?_); rintro e w' ⟨rfl, ⟨nd, rfl⟩⟩; (try first | exact ⟨rfl, _, wD _ _ _⟩ | exact ⟨rfl, _, Eq.trans (wD _ _ _) (congrArg (World.drewN _) (Nat.add_assoc _ _ _))⟩)))
     (repeat (go_quiet (first | (go_at_call 38; (with_reducible refine (impl_inside.calls a0_0 1 2999 true _ A7.out).mono ?_); rintro e w' ⟨rfl, ⟨nd, rfl⟩⟩; (try first | exact ⟨rfl, _, wD _ _ _⟩ | exact ⟨rfl, _, Eq.trans (wD _ _ _) (congrArg (World.drewN _) (Nat.add_assoc _ _ _))⟩)) | (go_at_call 38; (with_reducible refine (impl_inside.calls a0_1 0 12 false _ A9.out).mono ?_); rintro e w' ⟨rfl, ⟨nd, rfl⟩⟩; (try first | exact ⟨rfl, _, wD _ _ _⟩ | exact ⟨rfl, _, Eq.trans (wD _ _ _) (congrArg (World.drewN _) (Nat.add_assoc _ _ _))⟩))); try go_wp2_with (first | (go_at_call 38; (with_reducible refine (impl_inside.calls a0_0 1 2999 true _ A7.out).mono ?_); rintro e w' ⟨rfl, ⟨nd, rfl⟩⟩; (try first | exact ⟨rfl, _, wD _ _ _⟩ | exact ⟨rfl, _, Eq.trans (wD _ _ _) (congrArg (World.drewN _) (Nat.add_assoc _ _ _))⟩)) | (go_at_call 38; (with_reducible refine (impl_inside.calls a0_1 0 12 false _ A9.out).mono ?_); rintro e w' ⟨rfl, ⟨nd, rfl⟩⟩; (try first | exact ⟨rfl, _, wD _ _ _⟩ | exact ⟨rfl, _, Eq.trans (wD _ _ _) (congrArg (World.drewN _) (Nat.add_assoc _ _ _))⟩)))));(go_meet)
     case rel => exact ⟨_, (true), (by first | rfl | (simp; done) | (simp [*]; done)), H', ⟨by first | omega | exact Nat.le_refl _⟩, ⟨by (with_reducible repeat (first | refine bN ?_ _ | refine bW ?_ | refine bL ?_ _)); exact BK325.out⟩, ⟨by with_reducible repeat first | exact HB.out | apply pA | apply pN | apply p1 | refine pS ?_ GE325.out⟩⟩
   ·replace c8 := bE.mpr c8
    subst c8;rw [if_neg (show ¬ (false = true) by decide)] at H;have H' := AM H;clear H;obtain ⟨z15_0, z15_1, z15_2, z15_3⟩ := cells4 BK325.out
    go_wp2_with (first | (go_at_call 38; (with_reducible refine (impl_inside.calls a0_0 1 2999 false _ A7.out).mono ?_); rintro e w' ⟨rfl, ⟨nd, rfl⟩⟩; (try first | exact ⟨rfl, _, wD _ _ _⟩ | exact ⟨rfl, _, Eq.trans (wD _ _ _) (congrArg (World.drewN _) (Nat.add_assoc _ _ _))⟩)))
    (repeat (go_quiet (first | (go_at_call 38; (with_reducible refine (impl_inside.calls a0_0 1 2999 false _ A7.out).mono ?_); rintro e w' ⟨rfl, ⟨nd, rfl⟩⟩; (try first | exact ⟨rfl, _, wD _ _ _⟩ | exact ⟨rfl, _, Eq.trans (wD _ _ _) (congrArg (World.drewN _) (Nat.add_assoc _ _ _))⟩))); try go_wp2_with (first | (go_at_call 38; (with_reducible refine (impl_inside.calls a0_0 1 2999 false _ A7.out).mono ?_); rintro e w' ⟨rfl, ⟨nd, rfl⟩⟩; (try first | exact ⟨rfl, _, wD _ _ _⟩ | exact ⟨rfl, _, Eq.trans (wD _ _ _) (congrArg (World.drewN _) (Nat.add_assoc _ _ _))⟩)))));(go_meet)
    case rel => exact ⟨_, (true), (by first | rfl | (simp; done) | (simp [*]; done)), H', ⟨by first | omega | exact Nat.le_refl _⟩, ⟨by (with_reducible repeat (first | refine bN ?_ _ | refine bW ?_ | refine bL ?_ _)); exact BK325.out⟩, ⟨by with_reducible repeat first | exact HB.out | apply pA | apply pN | apply p1 | refine pS ?_ GE325.out⟩⟩
  case rest =>
   clear HC6;(try clear c1);(try clear p2);(try clear c3);(try clear c5);(try clear c5b0);(try clear c5b1);(try clear c5b2);(try clear c8);(try clear c10);(try clear c11);(try clear z12_0);(try clear z12_1);(try clear z12_2);(try clear z12_3);(try clear z13_0);(try clear z13_1);(try clear z13_2);(try clear z13_3);(try clear z14_0);(try clear z14_1);(try clear z14_2);(try clear z14_3);(try clear z15_0);(try clear z15_1);(try clear z15_2);(try clear z15_3);(try clear z4_0);(try clear z4_1);(try clear z4_2);(try clear z4_3);obtain ⟨kq, x24_5, rfl, HA, HJ5, BK325, HB⟩ := hcut
   cases kq with
   | zero => exact absurd HA.out (by simp [impl_IsValidDate.j0])
   | succ kj5 =>
    have H := HA.out;clear HA;simp only [impl_IsValidDate.j0] at H;by_cases c16 : x24_5 = true;(·subst c16;rw [if_pos rfl] at H;obtain rfl := oI H;(go_wp2);(repeat (go_quiet (fail); try go_wp2));(go_ret);exact ⟨rfl, by with_reducible repeat first | exact HB.out | apply pA | apply pN | apply p1 | refine pS ?_ GE325.out⟩)
    ·replace c16 := bE.mpr c16
     subst c16;rw [if_neg (show ¬ (false = true) by decide)] at H;by_cases c17 : a0_1 = 0;(·rw [if_pos c17] at H;have c17b0 : (a0_1 == 0) = true := beq_iff_eq.mpr c17;have c17b1 : (a0_1 != 0) = false := bne_eq_false_iff_eq.mpr c17;clear c17;obtain rfl := oI H;obtain ⟨z18_0, z18_1, z18_2, z18_3⟩ := cells4 BK325.out;(go_wp2);(repeat (go_quiet (fail); try go_wp2));(go_ret);exact ⟨rfl, by with_reducible repeat first | exact HB.out | apply pA | apply pN | apply p1 | refine pS ?_ GE325.out⟩)
     ·rw [if_neg c17] at H
      have c17b0 : (a0_1 == 0) = false := beq_eq_false_iff_ne.mpr c17;have c17b1 : (a0_1 != 0) = true := bne_iff_ne.mpr c17;replace H := oB.mp H;obtain ⟨t328, A190, H⟩ := H;(try dsimp only at H);have A19 := AM A190;clear A190;replace H := oB.mp H;obtain ⟨t329, A200, H⟩ := H;(try dsimp only at H);have A20 := AM A200;clear A200;obtain rfl := oI H;obtain ⟨z21_0, z21_1, z21_2, z21_3⟩ := cells4 BK325.out
      go_wp2_with (first | (go_at_call 61; (with_reducible refine (impl_daysInMonth.calls a0_0 a0_1 t328 _ A19.out).mono ?_); rintro e w' ⟨rfl, ⟨nd, rfl⟩⟩; (try first | exact ⟨rfl, _, wD _ _ _⟩ | exact ⟨rfl, _, Eq.trans (wD _ _ _) (congrArg (World.drewN _) (Nat.add_assoc _ _ _))⟩)) | (go_at_call 38; (with_reducible refine (impl_inside.calls a0_2 0 t328 t329 _ A20.out).mono ?_); rintro e w' ⟨rfl, ⟨nd, rfl⟩⟩; (try first | exact ⟨rfl, _, wD _ _ _⟩ | exact ⟨rfl, _, Eq.trans (wD _ _ _) (congrArg (World.drewN _) (Nat.add_assoc _ _ _))⟩)))
      (repeat (go_quiet (first | (go_at_call 61; (with_reducible refine (impl_daysInMonth.calls a0_0 a0_1 t328 _ A19.out).mono ?_); rintro e w' ⟨rfl, ⟨nd, rfl⟩⟩; (try first | exact ⟨rfl, _, wD _ _ _⟩ | exact ⟨rfl, _, Eq.trans (wD _ _ _) (congrArg (World.drewN _) (Nat.add_assoc _ _ _))⟩)) | (go_at_call 38; (with_reducible refine (impl_inside.calls a0_2 0 t328 t329 _ A20.out).mono ?_); rintro e w' ⟨rfl, ⟨nd, rfl⟩⟩; (try first | exact ⟨rfl, _, wD _ _ _⟩ | exact ⟨rfl, _, Eq.trans (wD _ _ _) (congrArg (World.drewN _) (Nat.add_assoc _ _ _))⟩))); try go_wp2_with (first | (go_at_call 61; (with_reducible refine (impl_daysInMonth.calls a0_0 a0_1 t328 _ A19.out).mono ?_); rintro e w' ⟨rfl, ⟨nd, rfl⟩⟩; (try first | exact ⟨rfl, _, wD _ _ _⟩ | exact ⟨rfl, _, Eq.trans (wD _ _ _) (congrArg (World.drewN _) (Nat.add_assoc _ _ _))⟩)) | (go_at_call 38; (with_reducible refine (impl_inside.calls a0_2 0 t328 t329 _ A20.out).mono ?_); rintro e w' ⟨rfl, ⟨nd, rfl⟩⟩; (try first | exact ⟨rfl, _, wD _ _ _⟩ | exact ⟨rfl, _, Eq.trans (wD _ _ _) (congrArg (World.drewN _) (Nat.add_assoc _ _ _))⟩)))));(go_ret);exact ⟨rfl, by with_reducible repeat first | exact HB.out | apply pA | apply pN | apply p1 | refine pS ?_ GE325.out⟩
/-! ### strings_trimLeftByte: function 102 -/
def strings_trimLeftByte.l0 : Nat → ByteArray → Int → Option (ByteArray)
 | 0, _, _ => none
 | k + 1, x0, x1 => if (x0.size : Int) > 0 then (if 0 < (x0.size : Int) then (if (bt x0 0) = x1 then (if 1 ≤ (x0.size : Int) then (strings_trimLeftByte.l0 k (x0.extract 1 x0.size) x1) else (none)) else (some x0)) else (none)) else (some x0)
def strings_trimLeftByte.f (k : Nat) (a0 : ByteArray) (a1 : Int) : Option (ByteArray) := strings_trimLeftByte.l0 k a0 a1
theorem strings_trimLeftByte.mono_l : ∀ k, (∀ y0 y1, LeO (strings_trimLeftByte.l0 k y0 y1) (strings_trimLeftByte.l0 (k + 1) y0 y1))
 | 0 => fun _ _ r h => by simp [strings_trimLeftByte.l0] at h
 | k + 1 => by
  have ih0 := strings_trimLeftByte.mono_l k
  ·intro y0 y1
   unfold strings_trimLeftByte.l0
   repeat' with_reducible first
   | exact ih0 _ _
   | exact LeO.refl _
   | exact LeO.none _
   | refine LeO.ite ?_ ?_
   | refine LeO.bind ?_ (fun _ => ?_)
theorem strings_trimLeftByte.mono : ∀ a0 a1 k, LeO (strings_trimLeftByte.f k a0 a1) (strings_trimLeftByte.f (k + 1) a0 a1) := by
 intro a0 a1 k;have ih0 := strings_trimLeftByte.mono_l k;unfold strings_trimLeftByte.f
 repeat' with_reducible first
   | exact ih0 _ _
   | exact LeO.refl _
   | exact LeO.none _
   | refine LeO.ite ?_ ?_
   | refine LeO.bind ?_ (fun _ => ?_)
theorem strings_trimLeftByte.calls (k : Nat) (a0 : ByteArray) (a1 : Int) (r : ByteArray) (w : World) (h : strings_trimLeftByte.f k a0 a1 = some r) :
  Calls Tryz.prog 102 #[.string a0, .int .u8 a1] w fun e w' => e = .returned (.string r) ∧ Drawn0 w w' := by
 have H := h;unfold strings_trimLeftByte.f at H;clear h;have H' := AM H;clear H;(go_enter Tryz.func102, Tryz.ntmps102);(go_wp2);(go_loopg [0] k (fun kq v0 w' => ∃ (x0_1 : ByteArray), v0 = .string x0_1 ∧ Aside0 (strings_trimLeftByte.l0 kq x0_1 a1 = some r) ∧ Aside0 (kq ≤ k) ∧ Drawn0 w w'))
 case atStart => exact ⟨(a0), (by first | rfl | (simp; done) | (simp [*]; done)), H', ⟨Nat.le_refl _⟩, by repeat (first | exact Drawn0.refl _ | apply Drawn0.step)⟩
 case round =>
  clear H';(try clear c1);(try clear p2);obtain ⟨x0_1, rfl, HA, HK1, ⟨m1, rfl⟩⟩ := hrel
  cases gk with
  | zero => exact absurd HA.out (by simp [strings_trimLeftByte.l0])
  | succ k1 =>
   have H := HA.out;clear HA;simp only [strings_trimLeftByte.l0] at H;by_cases c3 : (x0_1.size : Int) > 0
   ·rw [if_pos c3] at H
    have c3b0 : decide (0 < (x0_1.size : Int)) = true := dT c3;have c3b1 : decide (0 < x0_1.size) = true := dT (by omega);clear c3;by_cases c4 : 0 < (x0_1.size : Int)
    ·rw [if_pos c4] at H
     have c4b0 : decide (0 < (x0_1.size : Int)) = true := dT c4;have c4b1 : decide (0 < x0_1.size) = true := dT (by omega);clear c4;by_cases c6 : (bt x0_1 0) = a1
     ·rw [if_pos c6] at H
      have c6b0 : ((bt x0_1 0) == a1) = true := beq_iff_eq.mpr c6;have c6b1 : ((bt x0_1 0) != a1) = false := bne_eq_false_iff_eq.mpr c6;clear c6;by_cases c7 : 1 ≤ (x0_1.size : Int)
      ·rw [if_pos c7] at H
       have c7b0 := eq_true c7;have c7b1 : decide (1 ≤ (x0_1.size : Int)) = true := dT c7;clear c7;have H' := AM H;clear H
       have p5 : 0 ≤ (0 : Int) := (by omega)
       have q5 : 0 < x0_1.size := (by have : (0 : Int) < (x0_1.size : Int) := oD (by assumption); omega)
       have hx5 : ∀ h : 0 < x0_1.size, ((x0_1[0]'h).toNat : Int) = bt x0_1 0 := bt_at x0_1 0;clear p5;have qi5 : (0 < (x0_1.size : Int)) = True := eq_true (oD (by assumption));replace q5 := eq_true q5;(go_wp2);(go_roundg k1)
       case measure => have := HK1.out; omega
       case rel => exact ⟨(x0_1.extract 1 x0_1.size), (by first | rfl | (simp; done) | (simp [*]; done)), H', ⟨by have := HK1.out; omega⟩, by repeat (first | exact Drawn0.refl _ | apply Drawn0.step)⟩
      ·rw [if_neg c7] at H
       exact absurd H (by simp)
     ·rw [if_neg c6] at H
      have c6b0 : ((bt x0_1 0) == a1) = false := beq_eq_false_iff_ne.mpr c6;have c6b1 : ((bt x0_1 0) != a1) = true := bne_iff_ne.mpr c6;obtain rfl := oI H
      have p5 : 0 ≤ (0 : Int) := (by omega)
      have q5 : 0 < x0_1.size := (by have : (0 : Int) < (x0_1.size : Int) := oD (by assumption); omega)
      have hx5 : ∀ h : 0 < x0_1.size, ((x0_1[0]'h).toNat : Int) = bt x0_1 0 := bt_at x0_1 0;clear p5;have qi5 : (0 < (x0_1.size : Int)) = True := eq_true (oD (by assumption));replace q5 := eq_true q5;(go_wp2);(go_ret);exact ⟨by first | rfl | (simp; done) | (simp [*]; done), by repeat (first | exact Drawn0.refl _ | apply Drawn0.step)⟩
    ·rw [if_neg c4] at H
     exact absurd H (by simp)
   ·rw [if_neg c3] at H
    have c3b0 : decide (0 < (x0_1.size : Int)) = false := dF c3;have c3b1 : decide (0 < x0_1.size) = false := dF (by omega);clear c3;obtain rfl := oI H;(go_wp2);(go_ret);exact ⟨by first | rfl | (simp; done) | (simp [*]; done), by repeat (first | exact Drawn0.refl _ | apply Drawn0.step)⟩
/-! ### strings_trimRightByte: function 103 -/
def strings_trimRightByte.l0 : Nat → ByteArray → Int → Option (ByteArray)
 | 0, _, _ => none
 | k + 1, x0, x1 => if (x0.size : Int) > 0 then (if 0 ≤ (wrap64 ((x0.size : Int) - 1)) then (if (wrap64 ((x0.size : Int) - 1)) < (x0.size : Int) then (if (bt x0 (wrap64 ((x0.size : Int) - 1))) = x1 then (if (wrap64 ((x0.size : Int) - 1)) ≤ (x0.size : Int) then (strings_trimRightByte.l0 k (x0.extract 0 ((wrap64 ((x0.size : Int) - 1)) : Int).toNat) x1) else (none)) else (some x0)) else (none)) else (none)) else (some x0)
def strings_trimRightByte.f (k : Nat) (a0 : ByteArray) (a1 : Int) : Option (ByteArray) := strings_trimRightByte.l0 k a0 a1
theorem strings_trimRightByte.mono_l : ∀ k, (∀ y0 y1, LeO (strings_trimRightByte.l0 k y0 y1) (strings_trimRightByte.l0 (k + 1) y0 y1))
 | 0 => fun _ _ r h => by simp [strings_trimRightByte.l0] at h
 | k + 1 => by
  have ih0 := strings_trimRightByte.mono_l k
  ·intro y0 y1
   unfold strings_trimRightByte.l0
   repeat' with_reducible first
   | exact ih0 _ _
   | exact LeO.refl _
   | exact LeO.none _
   | refine LeO.ite ?_ ?_
   | refine LeO.bind ?_ (fun _ => ?_)
theorem strings_trimRightByte.mono : ∀ a0 a1 k, LeO (strings_trimRightByte.f k a0 a1) (strings_trimRightByte.f (k + 1) a0 a1) := by
 intro a0 a1 k;have ih0 := strings_trimRightByte.mono_l k;unfold strings_trimRightByte.f
 repeat' with_reducible first
   | exact ih0 _ _
   | exact LeO.refl _
   | exact LeO.none _
   | refine LeO.ite ?_ ?_
   | refine LeO.bind ?_ (fun _ => ?_)
theorem strings_trimRightByte.calls (k : Nat) (a0 : ByteArray) (a1 : Int) (r : ByteArray) (w : World) (h : strings_trimRightByte.f k a0 a1 = some r) :
  Calls Tryz.prog 103 #[.string a0, .int .u8 a1] w fun e w' => e = .returned (.string r) ∧ Drawn0 w w' := by
 have H := h;unfold strings_trimRightByte.f at H;clear h;have H' := AM H;clear H;(go_enter Tryz.func103, Tryz.ntmps103);(go_wp2);(go_loopg [0] k (fun kq v0 w' => ∃ (x0_1 : ByteArray), v0 = .string x0_1 ∧ Aside0 (strings_trimRightByte.l0 kq x0_1 a1 = some r) ∧ Aside0 (kq ≤ k) ∧ Drawn0 w w'))
 case atStart => exact ⟨(a0), (by first | rfl | (simp; done) | (simp [*]; done)), H', ⟨Nat.le_refl _⟩, by repeat (first | exact Drawn0.refl _ | apply Drawn0.step)⟩
 case round =>
  clear H';(try clear c1);(try clear p2);obtain ⟨x0_1, rfl, HA, HK1, ⟨m1, rfl⟩⟩ := hrel
  cases gk with
  | zero => exact absurd HA.out (by simp [strings_trimRightByte.l0])
  | succ k1 =>
   have H := HA.out;clear HA;simp only [strings_trimRightByte.l0] at H;by_cases c3 : (x0_1.size : Int) > 0
   ·rw [if_pos c3] at H
    have c3b0 : decide (0 < (x0_1.size : Int)) = true := dT c3;have c3b1 : decide (0 < x0_1.size) = true := dT (by omega);clear c3
    obtain ⟨ji4, hji4⟩ : ∃ j_ : Int, (wrap64 ((x0_1.size : Int) - 1)) = j_ := ⟨_, rfl⟩
    replace H : (if 0 ≤ (ji4) then (if (ji4) < (x0_1.size : Int) then (if (bt x0_1 (ji4)) = a1 then (if (ji4) ≤ (x0_1.size : Int) then (strings_trimRightByte.l0 k1 (x0_1.extract 0 ((ji4) : Int).toNat) a1) else (none)) else (some x0_1)) else (none)) else (none)) = some r := by first | (rw [hji4] at H; exact H) | (simp only [hji4] at H ⊢; exact H)
    have hji4w : (IntKind.i64.wrap ((x0_1.size : Int) - 1)) = ji4 := (i64_w _).trans hji4;by_cases c5 : 0 ≤ (ji4)
    ·rw [if_pos c5] at H
     have c5b0 : decide (0 ≤ (ji4)) = true := dT c5;clear c5;by_cases c6 : (ji4) < (x0_1.size : Int)
     ·rw [if_pos c6] at H
      have c6b0 : decide ((ji4) < (x0_1.size : Int)) = true := dT c6;clear c6;by_cases c8 : (bt x0_1 (ji4)) = a1
      ·rw [if_pos c8] at H
       have c8b0 : ((bt x0_1 (ji4)) == a1) = true := beq_iff_eq.mpr c8;have c8b1 : ((bt x0_1 (ji4)) != a1) = false := bne_eq_false_iff_eq.mpr c8;clear c8;have c9b0 := eq_true (oD (by assumption) : 0 ≤ (ji4));by_cases c10 : (ji4) ≤ (x0_1.size : Int)
       ·rw [if_pos c10] at H
        have c10b0 := eq_true c10;have c10b1 : decide ((ji4) ≤ (x0_1.size : Int)) = true := dT c10;clear c10;have H' := AM H;clear H;have p7 : 0 ≤ ((ji4) : Int) := oD (by assumption);have q7 : (ji4) < (x0_1.size : Int) := oD (by assumption);have hx7 := bt_at x0_1 (ji4);replace p7 := eq_true p7;replace q7 := eq_true q7;(go_wp2);(go_roundg k1)
        case measure => have := HK1.out; omega
        case rel => exact ⟨(x0_1.extract 0 ((ji4) : Int).toNat), (by first | rfl | (simp; done) | (simp only [← hji4] <;> (first | rfl | simp)) | (simp [*]; done)), H', ⟨by have := HK1.out; omega⟩, by repeat (first | exact Drawn0.refl _ | apply Drawn0.step)⟩
       ·rw [if_neg c10] at H
        exact absurd H (by simp)
      ·rw [if_neg c8] at H
       have c8b0 : ((bt x0_1 (ji4)) == a1) = false := beq_eq_false_iff_ne.mpr c8;have c8b1 : ((bt x0_1 (ji4)) != a1) = true := bne_iff_ne.mpr c8;obtain rfl := oI H;have p7 : 0 ≤ ((ji4) : Int) := oD (by assumption);have q7 : (ji4) < (x0_1.size : Int) := oD (by assumption);have hx7 := bt_at x0_1 (ji4);replace p7 := eq_true p7;replace q7 := eq_true q7;(go_wp2);(go_ret);exact ⟨by first | rfl | (simp; done) | (simp only [← hji4] <;> (first | rfl | simp)) | (simp [*]; done), by repeat (first | exact Drawn0.refl _ | apply Drawn0.step)⟩
     ·rw [if_neg c6] at H
      exact absurd H (by simp)
    ·rw [if_neg c5] at H
     exact absurd H (by simp)
   ·rw [if_neg c3] at H
    have c3b0 : decide (0 < (x0_1.size : Int)) = false := dF c3;have c3b1 : decide (0 < x0_1.size) = false := dF (by omega);clear c3;obtain rfl := oI H;(go_wp2);(go_ret);exact ⟨by first | rfl | (simp; done) | (simp [*]; done), by repeat (first | exact Drawn0.refl _ | apply Drawn0.step)⟩
/-! ### strings_Trim: function 84 -/
def strings_Trim.f (k : Nat) (a0 : ByteArray) (a1 : ByteArray) : Option (ByteArray) := if a1.size = 1 then (if bt a1 0 < 128 then (strings_trimRightByte.f k a0 (bt a1 0)).bind (fun t => strings_trimLeftByte.f k t (bt a1 0)) else none) else none
theorem strings_Trim.mono : ∀ a0 a1 k, LeO (strings_Trim.f k a0 a1) (strings_Trim.f (k + 1) a0 a1) := by
  intro a0 a1 k;unfold strings_Trim.f;exact LeO.ite (LeO.ite (LeO.bind (strings_trimRightByte.mono _ _ _) (fun _ => strings_trimLeftByte.mono _ _ _)) (LeO.none _)) (LeO.none _)
theorem strings_Trim.none1 (k : Nat) (a0 : ByteArray) (c : Int) (r : ByteArray) (h0 : a0.size = 0) (h : strings_trimLeftByte.f k a0 c = some r) : r = a0 := by
  cases k with
  | zero => simp [strings_trimLeftByte.f, strings_trimLeftByte.l0] at h
  | succ k => simpa [strings_trimLeftByte.f, strings_trimLeftByte.l0, h0] using h.symm
theorem strings_Trim.none0 (k : Nat) (a0 : ByteArray) (c : Int) (r : ByteArray) (h0 : a0.size = 0) (h : strings_trimRightByte.f k a0 c = some r) : r = a0 := by
  cases k with
  | zero => simp [strings_trimRightByte.f, strings_trimRightByte.l0] at h
  | succ k => simpa [strings_trimRightByte.f, strings_trimRightByte.l0, h0] using h.symm
theorem strings_Trim.calls (k : Nat) (a0 : ByteArray) (a1 : ByteArray) (r : ByteArray) (w : World) (h : strings_Trim.f k a0 a1 = some r) :
    Calls Tryz.prog 84 #[.string a0, .string a1] w fun e w' => e = .returned (.string r) ∧ Drawn0 w w' := by
  unfold strings_Trim.f at h;by_cases h1 : a1.size = 1
  · rw [if_pos h1] at h
    by_cases h2 : bt a1 0 < 128
    · rw [if_pos h2] at h
      obtain ⟨t, ht, h⟩ := oB.1 h;have HT := AM ht;have HL := AM h;clear ht;clear h;(have h1i : (a1.size : Int) = 1 := by omega)
      have hz1 : ¬ a1.toList = [] := fun e => by
        have := congrArg List.length e;rw [Lib.toList_data] at this;simp at this;rw [this] at h1;simp at h1
      (have hb1 : a1.toList.isEmpty = false := by simpa using hz1);have p7 : (0 : Int) ≤ 0 := Int.le_refl _;(have q7 : (0 : Int) < (a1.size : Int) := by omega);have hx7 : ∀ h : 0 < a1.size, ((a1[0].toNat : Nat) : Int) = bt a1 0 := bt_at a1 0;have c2b0 : decide (bt a1 0 < 128) = true := dT h2;replace p7 := eq_true p7;replace q7 := eq_true q7;by_cases h3 : a0.size = 0;(·have he : a0 = ByteArray.mk #[] := ByteArray.ext (Array.eq_empty_of_size_eq_zero h3);have hr := strings_Trim.none0 k a0 _ t h3 HT.out;subst hr;have hr := strings_Trim.none1 k t _ r h3 HL.out;subst hr;(have hb0 : r.toList.isEmpty = true := by rw [he, Lib.toList_data]; rfl);(go_enter Tryz.func84, Tryz.ntmps84);(go_wp2);(go_ret);exact ⟨rfl, Drawn0.refl _⟩)
      · have hz0 : ¬ a0.toList = [] := fun e => by
          have := congrArg List.length e;rw [Lib.toList_data] at this;simp at this;rw [this] at h3;simp at h3
        (have hb0 : a0.toList.isEmpty = false := by simpa using hz0);(go_enter Tryz.func84, Tryz.ntmps84);(go_wp2);(go_quiet (first | (go_at_call 103; (with_reducible refine (strings_trimRightByte.calls k a0 _ t _ HT.out).mono ?_); rintro e w' ⟨rfl, ⟨nd, rfl⟩⟩; (try first | exact ⟨rfl, _, wD _ _ _⟩ | exact ⟨rfl, _, Eq.trans (wD _ _ _) (congrArg (World.drewN _) (Nat.add_assoc _ _ _))⟩)) | (go_at_call 102; (with_reducible refine (strings_trimLeftByte.calls k t _ r _ HL.out).mono ?_); rintro e w' ⟨rfl, ⟨nd, rfl⟩⟩; (try first | exact ⟨rfl, _, wD _ _ _⟩ | exact ⟨rfl, _, Eq.trans (wD _ _ _) (congrArg (World.drewN _) (Nat.add_assoc _ _ _))⟩))));(go_wp2);(go_ret);exact ⟨rfl, ⟨_, rfl⟩⟩
    · rw [if_neg h2] at h
      exact absurd h (by simp)
  · rw [if_neg h1] at h
    exact absurd h (by simp)
/-! ### impl_isPrintable: function 62 -/
def impl_isPrintable.l0 : Nat → ByteArray → Int → Option (Bool)
 | 0, _, _ => none
 | k + 1, x0, x3 => if x3 < (x0.size : Int) then (if 0 ≤ x3 then (if (bt x0 x3) < 32 then (some false) else (if (bt x0 x3) > 126 then (some false) else (impl_isPrintable.l0 k x0 (wrap64 (x3 + 1))))) else (none)) else ((strings_Trim.f k x0 (⟨#[32]⟩ : ByteArray)).bind fun t330 => (some (t330.toList == x0.toList)))
def impl_isPrintable.f (k : Nat) (a0 : ByteArray) : Option (Bool) := impl_isPrintable.l0 k a0 0
theorem impl_isPrintable.mono_l : ∀ k, (∀ y0 y1, LeO (impl_isPrintable.l0 k y0 y1) (impl_isPrintable.l0 (k + 1) y0 y1))
 | 0 => fun _ _ r h => by simp [impl_isPrintable.l0] at h
 | k + 1 => by
  have ih0 := impl_isPrintable.mono_l k
  ·intro y0 y1
   unfold impl_isPrintable.l0
   repeat' with_reducible first
   | exact ih0 _ _
   | exact strings_Trim.mono _ _ _
   | exact LeO.refl _
   | exact LeO.none _
   | refine LeO.ite ?_ ?_
   | refine LeO.bind ?_ (fun _ => ?_)
theorem impl_isPrintable.mono : ∀ a0 k, LeO (impl_isPrintable.f k a0) (impl_isPrintable.f (k + 1) a0) := by
 intro a0 k;have ih0 := impl_isPrintable.mono_l k;unfold impl_isPrintable.f
 repeat' with_reducible first
   | exact ih0 _ _
   | exact strings_Trim.mono _ _ _
   | exact LeO.refl _
   | exact LeO.none _
   | refine LeO.ite ?_ ?_
   | refine LeO.bind ?_ (fun _ => ?_)
theorem impl_isPrintable.calls (k : Nat) (a0 : ByteArray) (r : Bool) (w : World) (h : impl_isPrintable.f k a0 = some r) :
  Calls Tryz.prog 62 #[.string a0] w fun e w' => e = .returned (.bool r) ∧ Drawn0 w w' := by
 have H := h;unfold impl_isPrintable.f at H;clear h;have H' := AM H;clear H;(go_enter Tryz.func62, Tryz.ntmps62);(go_wp2);(go_loopg [3] k (fun kq v3 w' => ∃ (x3_1 : Int), v3 = .int .i64 x3_1 ∧ Aside0 (impl_isPrintable.l0 kq a0 x3_1 = some r) ∧ Aside0 (kq ≤ k) ∧ Drawn0 w w'))
 case atStart => exact ⟨(0), (by first | rfl | (simp; done) | (simp [*]; done)), H', ⟨Nat.le_refl _⟩, by repeat (first | exact Drawn0.refl _ | apply Drawn0.step)⟩
 case round =>
  clear H';obtain ⟨x3_1, rfl, HA, HK1, ⟨m1, rfl⟩⟩ := hrel
  cases gk with
  | zero => exact absurd HA.out (by simp [impl_isPrintable.l0])
  | succ k1 =>
   have H := HA.out;clear HA;simp only [impl_isPrintable.l0] at H;by_cases c2 : x3_1 < (a0.size : Int)
   ·rw [if_pos c2] at H
    have c2b0 : decide (x3_1 < (a0.size : Int)) = true := dT c2;clear c2;by_cases c3 : 0 ≤ x3_1
    ·rw [if_pos c3] at H
     have c3b0 : decide (0 ≤ x3_1) = true := dT c3;clear c3;by_cases c5 : (bt a0 x3_1) < 32;(·rw [if_pos c5] at H;have c5b0 : decide ((bt a0 x3_1) < 32) = true := dT c5;clear c5;obtain rfl := oI H;have p4 : 0 ≤ (x3_1 : Int) := oD (by assumption);have q4 : x3_1 < (a0.size : Int) := oD (by assumption);have hx4 := bt_at a0 x3_1;replace p4 := eq_true p4;replace q4 := eq_true q4;(go_wp2);(go_ret);exact ⟨by first | rfl | (simp; done) | (simp [*]; done), by repeat (first | exact Drawn0.refl _ | apply Drawn0.step)⟩)
     ·rw [if_neg c5] at H
      have c5b0 : decide ((bt a0 x3_1) < 32) = false := dF c5;clear c5;by_cases c7 : (bt a0 x3_1) > 126;(·rw [if_pos c7] at H;have c7b0 : decide (126 < (bt a0 x3_1)) = true := dT c7;clear c7;obtain rfl := oI H;have p4 : 0 ≤ (x3_1 : Int) := oD (by assumption);have q4 : x3_1 < (a0.size : Int) := oD (by assumption);have hx4 := bt_at a0 x3_1;replace p4 := eq_true p4;replace q4 := eq_true q4;have p6 : 0 ≤ (x3_1 : Int) := oD (by assumption);have q6 : x3_1 < (a0.size : Int) := oD (by assumption);have hx6 := bt_at a0 x3_1;replace p6 := eq_true p6;replace q6 := eq_true q6;(go_wp2);(go_ret);exact ⟨by first | rfl | (simp; done) | (simp [*]; done), by repeat (first | exact Drawn0.refl _ | apply Drawn0.step)⟩)
      ·rw [if_neg c7] at H
       have c7b0 : decide (126 < (bt a0 x3_1)) = false := dF c7;clear c7;have H' := AM H;clear H;have p4 : 0 ≤ (x3_1 : Int) := oD (by assumption);have q4 : x3_1 < (a0.size : Int) := oD (by assumption);have hx4 := bt_at a0 x3_1;replace p4 := eq_true p4;replace q4 := eq_true q4;have p6 : 0 ≤ (x3_1 : Int) := oD (by assumption);have q6 : x3_1 < (a0.size : Int) := oD (by assumption);have hx6 := bt_at a0 x3_1;replace p6 := eq_true p6;replace q6 := eq_true q6;(go_wp2);(go_roundg k1)
       case measure => have := HK1.out; omega
       case rel => exact ⟨(wrap64 (x3_1 + 1)), (by first | rfl | (simp; done) | (simp [*]; done)), H', ⟨by have := HK1.out; omega⟩, by repeat (first | exact Drawn0.refl _ | apply Drawn0.step)⟩
    ·rw [if_neg c3] at H
     exact absurd H (by simp)
   ·rw [if_neg c2] at H
    have c2b0 : decide (x3_1 < (a0.size : Int)) = false := dF c2;clear c2;replace H := oB.mp H;obtain ⟨t330, A80, H⟩ := H;(try dsimp only at H);have A8 := AM A80;clear A80;obtain rfl := oI H
    go_wp2_with (first | ((with_reducible refine gate_callee (f := 84) rfl ?_); refine goesL_ (some 21) rfl rfl Tryz.func84 (by kernel_rfl) rfl #[.string a0, .string (⟨#[32]⟩ : ByteArray)] rfl (by (try simp only [List.map_toArray, List.map_cons, List.map_nil]); try rfl) ?_; (with_reducible refine (strings_Trim.calls k1 a0 (⟨#[32]⟩ : ByteArray) t330 _ A8.out).mono ?_); rintro e w' ⟨rfl, ⟨nd, rfl⟩⟩; refine ⟨_, rfl, ?_⟩))
    (go_ret);exact ⟨by first | rfl | (simp; done) | (simp [*]; done), by repeat (first | exact Drawn0.refl _ | apply Drawn0.step)⟩
/-! ### impl_isText: function 39 -/
def impl_isText.f (k : Nat) (a0 : ByteArray) : Option (Bool) := if (a0.size : Int) ≤ 40 then ((impl_isPrintable.f k a0).bind fun t331 => (some t331)) else (some false)
theorem impl_isText.mono : ∀ a0 k, LeO (impl_isText.f k a0) (impl_isText.f (k + 1) a0) := by
 intro a0 k;unfold impl_isText.f
 repeat' with_reducible first
   | exact impl_isPrintable.mono _ _
   | exact LeO.refl _
   | exact LeO.none _
   | refine LeO.ite ?_ ?_
   | refine LeO.bind ?_ (fun _ => ?_)
theorem impl_isText.calls (k : Nat) (a0 : ByteArray) (r : Bool) (w : World) (h : impl_isText.f k a0 = some r) :
  Calls Tryz.prog 39 #[.string a0] w fun e w' => e = .returned (.bool r) ∧ Drawn0 w w' := by
 have H := h;unfold impl_isText.f at H;clear h;by_cases c2 : (a0.size : Int) ≤ 40
 ·rw [if_pos c2] at H
  have c2b0 : decide ((a0.size : Int) ≤ 40) = true := dT c2;have c2b1 : decide (a0.size ≤ 40) = true := dT (by omega);clear c2;replace H := oB.mp H;obtain ⟨t331, A30, H⟩ := H;(try dsimp only at H);have A3 := AM A30;clear A30;obtain rfl := oI H;(go_enter Tryz.func39, Tryz.ntmps39)
  go_wp2_with (first | (go_at_call 62; (with_reducible refine (impl_isPrintable.calls k a0 t331 _ A3.out).mono ?_); rintro e w' ⟨rfl, ⟨nd, rfl⟩⟩))
  (go_ret);exact ⟨by first | rfl | (simp; done) | (simp [*]; done), by repeat (first | exact Drawn0.refl _ | apply Drawn0.step)⟩
 ·rw [if_neg c2] at H
  have c2b0 : decide ((a0.size : Int) ≤ 40) = false := dF c2;have c2b1 : decide (a0.size ≤ 40) = false := dF (by omega);clear c2;obtain rfl := oI H;(go_enter Tryz.func39, Tryz.ntmps39);(go_wp2);(go_ret);exact ⟨by first | rfl | (simp; done) | (simp [*]; done), by repeat (first | exact Drawn0.refl _ | apply Drawn0.step)⟩
/-! ### impl_IsValidEntry: function 16 -/
def impl_IsValidEntry.j0 : Nat → Bool → ByteArray → Int → List (S61) → List (S61) → ByteArray → ByteArray → ByteArray → Int → Int → Int → Bool → Int → ByteArray → ByteArray → Option (Bool)
 | 0, _, _, _, _, _, _, _, _, _, _, _, _, _, _, _ => none
 | k + 1, x36, x333000, x333001, x333002, x333003, x333004, x333005, x333006, x333007, x333008, x333009, x333010, x333011, x333012, x333013 => if x36 = true then (some false) else ((impl_isText.f k x333004).bind fun t339 => (if t339 = true then ((impl_isText.f k x333005).bind fun t340 => (if t340 = true then ((impl_isText.f k x333006).bind fun t341 => (if t341 = true then ((impl_isText.f k x333012).bind fun t342 => (if t342 = true then (if x333013.toList = ([] : List UInt8) then (some true) else ((impl_isKey.f k x333013).bind fun t343 => (if t343 = true then (some (x333013.toList != x333000.toList)) else (some false)))) else (some false))) else (some false))) else (some false))) else (some false)))
def impl_IsValidEntry.f (k : Nat) (a0_0 : ByteArray) (a0_1 : Int) (l0_2 : List (S61)) (l0_3 : List (S61)) (a0_4 : ByteArray) (a0_5 : ByteArray) (a0_6 : ByteArray) (a0_7 : Int) (a0_8 : Int) (a0_9 : Int) (a0_10 : Bool) (a0_11 : Int) (a0_12 : ByteArray) (a0_13 : ByteArray) : Option (Bool) := (impl_isKey.f k a0_0).bind fun t333 => (if t333 = true then ((impl_isKind.f a0_1).bind fun t334 => (if t334 = true then ((impl_areNames.f k l0_2).bind fun t335 => (if t335 = true then ((impl_areNames.f k l0_3).bind fun t336 => (if t336 = true then ((impl_IsValidDate.f k a0_7 a0_8 a0_9 a0_10).bind fun t337 => (if t337 = true then ((impl_inside.f a0_11 0 9999).bind fun t338 => (impl_IsValidEntry.j0 k (!t338) a0_0 a0_1 l0_2 l0_3 a0_4 a0_5 a0_6 a0_7 a0_8 a0_9 a0_10 a0_11 a0_12 a0_13)) else (impl_IsValidEntry.j0 k true a0_0 a0_1 l0_2 l0_3 a0_4 a0_5 a0_6 a0_7 a0_8 a0_9 a0_10 a0_11 a0_12 a0_13))) else (impl_IsValidEntry.j0 k true a0_0 a0_1 l0_2 l0_3 a0_4 a0_5 a0_6 a0_7 a0_8 a0_9 a0_10 a0_11 a0_12 a0_13))) else (impl_IsValidEntry.j0 k true a0_0 a0_1 l0_2 l0_3 a0_4 a0_5 a0_6 a0_7 a0_8 a0_9 a0_10 a0_11 a0_12 a0_13))) else (impl_IsValidEntry.j0 k true a0_0 a0_1 l0_2 l0_3 a0_4 a0_5 a0_6 a0_7 a0_8 a0_9 a0_10 a0_11 a0_12 a0_13))) else (impl_IsValidEntry.j0 k true a0_0 a0_1 l0_2 l0_3 a0_4 a0_5 a0_6 a0_7 a0_8 a0_9 a0_10 a0_11 a0_12 a0_13))
theorem impl_IsValidEntry.mono_l : ∀ k, (∀ y0 y1 y2 y3 y4 y5 y6 y7 y8 y9 y10 y11 y12 y13 y14, LeO (impl_IsValidEntry.j0 k y0 y1 y2 y3 y4 y5 y6 y7 y8 y9 y10 y11 y12 y13 y14) (impl_IsValidEntry.j0 (k + 1) y0 y1 y2 y3 y4 y5 y6 y7 y8 y9 y10 y11 y12 y13 y14))
 | 0 => fun _ _ _ _ _ _ _ _ _ _ _ _ _ _ _ r h => by simp [impl_IsValidEntry.j0] at h
 | k + 1 => by
  have ih0 := impl_IsValidEntry.mono_l k
  ·intro y0 y1 y2 y3 y4 y5 y6 y7 y8 y9 y10 y11 y12 y13 y14
   unfold impl_IsValidEntry.j0
   repeat' with_reducible first
   | exact ih0 _ _ _ _ _ _ _ _ _ _ _ _ _ _ _
   | exact impl_IsValidDate.mono _ _ _ _ _
   | exact impl_areNames.mono _ _
   | exact impl_isKey.mono _ _
   | exact impl_isText.mono _ _
   | exact LeO.refl _
   | exact LeO.none _
   | refine LeO.ite ?_ ?_
   | refine LeO.bind ?_ (fun _ => ?_)
theorem impl_IsValidEntry.mono : ∀ a0 a1 a2 a3 a4 a5 a6 a7 a8 a9 a10 a11 a12 a13 k, LeO (impl_IsValidEntry.f k a0 a1 a2 a3 a4 a5 a6 a7 a8 a9 a10 a11 a12 a13) (impl_IsValidEntry.f (k + 1) a0 a1 a2 a3 a4 a5 a6 a7 a8 a9 a10 a11 a12 a13) := by
 intro a0 a1 a2 a3 a4 a5 a6 a7 a8 a9 a10 a11 a12 a13 k;have ih0 := impl_IsValidEntry.mono_l k;unfold impl_IsValidEntry.f
 repeat' with_reducible first
   | exact ih0 _ _ _ _ _ _ _ _ _ _ _ _ _ _ _
   | exact impl_IsValidDate.mono _ _ _ _ _
   | exact impl_areNames.mono _ _
   | exact impl_isKey.mono _ _
   | exact impl_isText.mono _ _
   | exact LeO.refl _
   | exact LeO.none _
   | refine LeO.ite ?_ ?_
   | refine LeO.bind ?_ (fun _ => ?_)
theorem impl_IsValidEntry.calls (k : Nat) (a0_0 : ByteArray) (a0_1 : Int) (A0_2 : Option Addr) (c0_2 : Nat) (l0_2 : List (S61)) (A0_3 : Option Addr) (c0_3 : Nat) (l0_3 : List (S61)) (a0_4 : ByteArray) (a0_5 : ByteArray) (a0_6 : ByteArray) (a0_7 : Int) (a0_8 : Int) (a0_9 : Int) (a0_10 : Bool) (a0_11 : Int) (a0_12 : ByteArray) (a0_13 : ByteArray) (r : Bool) (w : World) (hr0_2 : Kd.C k61 w A0_2 l0_2.length l0_2) (hc0_2 : l0_2.length ≤ c0_2) (hr0_3 : Kd.C k61 w A0_3 l0_3.length l0_3) (hc0_3 : l0_3.length ≤ c0_3) (henv : Go.Proofs.YthcccgnhokncdaaGreatDoorW.Envs.Env [0] w) (h : impl_IsValidEntry.f k a0_0 a0_1 l0_2 l0_3 a0_4 a0_5 a0_6 a0_7 a0_8 a0_9 a0_10 a0_11 a0_12 a0_13 = some r) :
  Calls Tryz.prog 16 #[.agg #[.string a0_0, .int .i64 a0_1, .slice A0_2 l0_2.length c0_2, .slice A0_3 l0_3.length c0_3, .string a0_4, .string a0_5, .string a0_6, .int .i64 a0_7, .int .i64 a0_8, .int .i64 a0_9, .bool a0_10, .int .i64 a0_11, .string a0_12, .string a0_13]] w fun e w' => e = .returned (.bool r) ∧ Below w.heap.size w w' := by
 have hu33 := Tryz.underlying33;have hu31 := Tryz.underlying31;have HR0_2 := AM hr0_2;have HC0_2 := AM hc0_2;clear hr0_2 hc0_2;have HR0_3 := AM hr0_3;have HC0_3 := AM hc0_3;clear hr0_3 hc0_3;have HB := AM (Below.refl w.heap.size w);have HENV := AM henv;clear henv;have H := h;unfold impl_IsValidEntry.f at H;clear h;have HC2 := AM H;clear H;(go_enter Tryz.func16, Tryz.ntmps16)
 go_upto_region 1 with (first | ((with_reducible refine gate_dst (N := 1) rfl ?_); refine box_event ?hg (N := 1) ?hd (cs := #[.string a0_0, .int .i64 a0_1, .slice A0_2 l0_2.length c0_2, .slice A0_3 l0_3.length c0_3, .string a0_4, .string a0_5, .string a0_6, .int .i64 a0_7, .int .i64 a0_8, .int .i64 a0_9, .bool a0_10, .int .i64 a0_11, .string a0_12, .string a0_13]) (t := 33) ?hr ?_; (case hd => rfl); (case hg => rfl); (case hr => first | (go_simp; done) | (go_simp; rfl)); intro gb332 hg w3 hbox hb; have BK332 := AM (hbox); have GW332 := AM ((by rw [hg]; exact (below_size (by with_reducible repeat first | exact HB.out | apply pA | apply pN | apply p1)) : w.heap.size ≤ gb332)); have GE332 := AM ((by rw [hg]; exact (below_size (by with_reducible repeat first | exact HB.out | apply pA | apply pN | apply p1)) : w.heap.size ≤ gb332)); replace HB := AM (bS (by with_reducible repeat first | exact HB.out | apply pA | apply pN | apply p1) hb); clear hb hbox hg))
 (try simp only [Act.put, List.setIfInBounds_toArray, List.set_cons_zero, List.set_cons_succ]);(go_cut [36] (fun v36 wc => ∃ (kq : Nat) (x36_1 : Bool), v36 = .bool x36_1 ∧ Aside0 (impl_IsValidEntry.j0 kq x36_1 a0_0 a0_1 l0_2 l0_3 a0_4 a0_5 a0_6 a0_7 a0_8 a0_9 a0_10 a0_11 a0_12 a0_13 = some r) ∧ Aside0 (kq ≤ k) ∧ Aside0 (wc.heap[gb332]? = some (.cells #[.string a0_0, .int .i64 a0_1, (.slice A0_2 l0_2.length c0_2), (.slice A0_3 l0_3.length c0_3), .string a0_4, .string a0_5, .string a0_6, .int .i64 a0_7, .int .i64 a0_8, .int .i64 a0_9, .bool a0_10, .int .i64 a0_11, .string a0_12, .string a0_13] 33 (0, 0))) ∧ Aside0 (Below w.heap.size w wc)))
 case first =>
  have H := HC2.out;clear HC2;replace H := oB.mp H;obtain ⟨t333, A40, H⟩ := H;(try dsimp only at H);have A4 := AM A40;clear A40;by_cases c5 : t333 = true
  ·subst c5
   rw [if_pos rfl] at H;replace H := oB.mp H;obtain ⟨t334, A60, H⟩ := H;(try dsimp only at H);have A6 := AM A60;clear A60;by_cases c7 : t334 = true
   ·subst c7
    rw [if_pos rfl] at H;replace H := oB.mp H;obtain ⟨t335, A80, H⟩ := H;(try dsimp only at H);have A8 := AM A80;clear A80;by_cases c9 : t335 = true
    ·subst c9
     rw [if_pos rfl] at H;replace H := oB.mp H;obtain ⟨t336, A100, H⟩ := H;(try dsimp only at H);have A10 := AM A100;clear A100;by_cases c11 : t336 = true
     ·subst c11
      rw [if_pos rfl] at H;replace H := oB.mp H;obtain ⟨t337, A120, H⟩ := H;(try dsimp only at H);have A12 := AM A120;clear A120;by_cases c13 : t337 = true
      ·subst c13
       rw [if_pos rfl] at H;replace H := oB.mp H;obtain ⟨t338, A140, H⟩ := H;(try dsimp only at H);have A14 := AM A140;clear A140;have H' := AM H;clear H;obtain ⟨z15_0, z15_1, z15_2, z15_3, z15_4, z15_5, z15_6, z15_7, z15_8, z15_9, z15_10, z15_11, z15_12, z15_13⟩ := cells14 BK332.out
       go_wp2_with (first | ((with_reducible refine gC (f := 34) rfl ?_); refine gL (some 5) rfl rfl Tryz.func34 (by kernel_rfl) rfl #[.string a0_0] rfl (by (try simp only [mT, mC, mN]); try rfl) ?_; (with_reducible refine (impl_isKey.calls k a0_0 true _ A4.out).mono ?_); rintro e w' ⟨rfl, ⟨nd, rfl⟩⟩; refine ⟨_, rfl, ?_⟩) | (go_at_call 35; (with_reducible refine (impl_isKind.calls a0_1 true _ A6.out).mono ?_); rintro e w' ⟨rfl, ⟨nd, rfl⟩⟩) | (go_at_call 36; (with_reducible refine (impl_areNames.calls k _ _ l0_2 true _ ?side1 ?side2 ?side3 A8.out).mono ?_); (case side1 => repeat (first | exact (cB HR0_2.out (by with_reducible repeat first | exact HB.out | apply pA | apply pN | apply p1 | refine pS ?_ GE332.out)) | (with_reducible refine cA ?_ _) | (with_reducible refine cN ?_ _) | (with_reducible refine cD ?_))); (case side2 => exact HC0_2.out); (case side3 => exact Go.Proofs.YthcccgnhokncdaaGreatDoorW.Envs.Env.below HENV.out (by with_reducible repeat first | exact HB.out | apply pA | apply pN | apply p1 | refine pS ?_ GE332.out)); rintro e w16 ⟨rfl, hb⟩; replace BK332 := AM (bB (by (with_reducible repeat first | apply bN | apply bW | apply bL); exact BK332.out) hb); replace HB := AM (bS (by with_reducible repeat first | exact HB.out | apply pA | apply pN | apply p1 | refine pS ?_ GE332.out) hb); (try clear hb); obtain ⟨z17_0, z17_1, z17_2, z17_3, z17_4, z17_5, z17_6, z17_7, z17_8, z17_9, z17_10, z17_11, z17_12, z17_13⟩ := cells14 BK332.out) | (go_at_call 36; (with_reducible refine (impl_areNames.calls k _ _ l0_3 true _ ?side1 ?side2 ?side3 A10.out).mono ?_); (case side1 => repeat first | exact (cB HR0_3.out HB.out) | with_reducible first | apply cA | apply cN | apply cD); (case side2 => exact HC0_3.out); (case side3 => exact Go.Proofs.YthcccgnhokncdaaGreatDoorW.Envs.Env.below HENV.out (by with_reducible repeat first | exact HB.out | apply pA | apply pN | apply p1 | refine pS ?_ GE332.out)); rintro e w18 ⟨rfl, hb⟩; replace BK332 := AM (bB (by (with_reducible repeat first | apply bN | apply bW | apply bL); exact BK332.out) hb); replace HB := AM (bS (by with_reducible repeat first | exact HB.out | apply pA | apply pN | apply p1 | refine pS ?_ GE332.out) hb); (try clear hb); obtain ⟨z19_0, z19_1, z19_2, z19_3, z19_4, z19_5, z19_6, z19_7, z19_8, z19_9, z19_10, z19_11, z19_12, z19_13⟩ := cells14 BK332.out) | (go_at_call 37; (with_reducible refine (impl_IsValidDate.calls k a0_7 a0_8 a0_9 a0_10 true _ A12.out).mono ?_); rintro e w20 ⟨rfl, hb⟩; replace BK332 := AM (bB (by (with_reducible repeat first | apply bN | apply bW | apply bL); exact BK332.out) hb); replace HB := AM (bS (by with_reducible repeat first | exact HB.out | apply pA | apply pN | apply p1 | refine pS ?_ GE332.out) hb); (try clear hb); obtain ⟨z21_0, z21_1, z21_2, z21_3, z21_4, z21_5, z21_6, z21_7, z21_8, z21_9, z21_10, z21_11, z21_12, z21_13⟩ := cells14 BK332.out) | (go_at_call 38; (with_reducible refine (impl_inside.calls a0_11 0 9999 t338 _ A14.out).mono ?_); rintro e w' ⟨rfl, ⟨nd, rfl⟩⟩))
       go_meet
       case rel => exact ⟨_, (!t338), (by first | rfl | (simp; done) | (simp [*]; done)), H', ⟨by first | omega | exact Nat.le_refl _⟩, ⟨by (with_reducible repeat (first | refine bN ?_ _ | refine bW ?_ | refine bL ?_ _)); exact BK332.out⟩, ⟨by with_reducible repeat first | exact HB.out | apply pA | apply pN | apply p1 | refine pS ?_ GE332.out⟩⟩
      ·replace c13 := bE.mpr c13
       subst c13;rw [if_neg (show ¬ (false = true) by decide)] at H;have H' := AM H;clear H;obtain ⟨z22_0, z22_1, z22_2, z22_3, z22_4, z22_5, z22_6, z22_7, z22_8, z22_9, z22_10, z22_11, z22_12, z22_13⟩ := cells14 BK332.out
       go_wp2_with (first | ((with_reducible refine gC (f := 34) rfl ?_); refine gL (some 5) rfl rfl Tryz.func34 (by kernel_rfl) rfl #[.string a0_0] rfl (by (try simp only [mT, mC, mN]); try rfl) ?_; (with_reducible refine (impl_isKey.calls k a0_0 true _ A4.out).mono ?_); rintro e w' ⟨rfl, ⟨nd, rfl⟩⟩; refine ⟨_, rfl, ?_⟩) | (go_at_call 35; (with_reducible refine (impl_isKind.calls a0_1 true _ A6.out).mono ?_); rintro e w' ⟨rfl, ⟨nd, rfl⟩⟩) | (go_at_call 36; (with_reducible refine (impl_areNames.calls k _ _ l0_2 true _ ?side1 ?side2 ?side3 A8.out).mono ?_); (case side1 => repeat (first | exact (cB HR0_2.out (by with_reducible repeat first | exact HB.out | apply pA | apply pN | apply p1 | refine pS ?_ GE332.out)) | (with_reducible refine cA ?_ _) | (with_reducible refine cN ?_ _) | (with_reducible refine cD ?_))); (case side2 => exact HC0_2.out); (case side3 => exact Go.Proofs.YthcccgnhokncdaaGreatDoorW.Envs.Env.below HENV.out (by with_reducible repeat first | exact HB.out | apply pA | apply pN | apply p1 | refine pS ?_ GE332.out)); rintro e w23 ⟨rfl, hb⟩; replace BK332 := AM (bB (by (with_reducible repeat first | apply bN | apply bW | apply bL); exact BK332.out) hb); replace HB := AM (bS (by with_reducible repeat first | exact HB.out | apply pA | apply pN | apply p1 | refine pS ?_ GE332.out) hb); (try clear hb); obtain ⟨z24_0, z24_1, z24_2, z24_3, z24_4, z24_5, z24_6, z24_7, z24_8, z24_9, z24_10, z24_11, z24_12, z24_13⟩ := cells14 BK332.out) | (go_at_call 36; (with_reducible refine (impl_areNames.calls k _ _ l0_3 true _ ?side1 ?side2 ?side3 A10.out).mono ?_); (case side1 => repeat first | exact (cB HR0_3.out HB.out) | with_reducible first | apply cA | apply cN | apply cD); (case side2 => exact HC0_3.out); (case side3 => exact Go.Proofs.YthcccgnhokncdaaGreatDoorW.Envs.Env.below HENV.out (by with_reducible repeat first | exact HB.out | apply pA | apply pN | apply p1 | refine pS ?_ GE332.out)); rintro e w25 ⟨rfl, hb⟩; replace BK332 := AM (bB (by (with_reducible repeat first | apply bN | apply bW | apply bL); exact BK332.out) hb); replace HB := AM (bS (by with_reducible repeat first | exact HB.out | apply pA | apply pN | apply p1 | refine pS ?_ GE332.out) hb); (try clear hb); obtain ⟨z26_0, z26_1, z26_2, z26_3, z26_4, z26_5, z26_6, z26_7, z26_8, z26_9, z26_10, z26_11, z26_12, z26_13⟩ := cells14 BK332.out) | (go_at_call 37; (with_reducible refine (impl_IsValidDate.calls k a0_7 a0_8 a0_9 a0_10 false _ A12.out).mono ?_); rintro e w27 ⟨rfl, hb⟩; replace BK332 := AM (bB (by (with_reducible repeat first | apply bN | apply bW | apply bL); exact BK332.out) hb); replace HB := AM (bS (by with_reducible repeat first | exact HB.out | apply pA | apply pN | apply p1 | refine pS ?_ GE332.out) hb); (try clear hb)))
       go_meet
       case rel => exact ⟨_, (true), (by first | rfl | (simp; done) | (simp [*]; done)), H', ⟨by first | omega | exact Nat.le_refl _⟩, ⟨by (with_reducible repeat (first | refine bN ?_ _ | refine bW ?_ | refine bL ?_ _)); exact BK332.out⟩, ⟨by with_reducible repeat first | exact HB.out | apply pA | apply pN | apply p1 | refine pS ?_ GE332.out⟩⟩
     ·replace c11 := bE.mpr c11
      subst c11;rw [if_neg (show ¬ (false = true) by decide)] at H;have H' := AM H;clear H;obtain ⟨z28_0, z28_1, z28_2, z28_3, z28_4, z28_5, z28_6, z28_7, z28_8, z28_9, z28_10, z28_11, z28_12, z28_13⟩ := cells14 BK332.out
      go_wp2_with (first | ((with_reducible refine gC (f := 34) rfl ?_); refine gL (some 5) rfl rfl Tryz.func34 (by kernel_rfl) rfl #[.string a0_0] rfl (by (try simp only [mT, mC, mN]); try rfl) ?_; (with_reducible refine (impl_isKey.calls k a0_0 true _ A4.out).mono ?_); rintro e w' ⟨rfl, ⟨nd, rfl⟩⟩; refine ⟨_, rfl, ?_⟩) | (go_at_call 35; (with_reducible refine (impl_isKind.calls a0_1 true _ A6.out).mono ?_); rintro e w' ⟨rfl, ⟨nd, rfl⟩⟩) | (go_at_call 36; (with_reducible refine (impl_areNames.calls k _ _ l0_2 true _ ?side1 ?side2 ?side3 A8.out).mono ?_); (case side1 => repeat (first | exact (cB HR0_2.out (by with_reducible repeat first | exact HB.out | apply pA | apply pN | apply p1 | refine pS ?_ GE332.out)) | (with_reducible refine cA ?_ _) | (with_reducible refine cN ?_ _) | (with_reducible refine cD ?_))); (case side2 => exact HC0_2.out); (case side3 => exact Go.Proofs.YthcccgnhokncdaaGreatDoorW.Envs.Env.below HENV.out (by with_reducible repeat first | exact HB.out | apply pA | apply pN | apply p1 | refine pS ?_ GE332.out)); rintro e w29 ⟨rfl, hb⟩; replace BK332 := AM (bB (by (with_reducible repeat first | apply bN | apply bW | apply bL); exact BK332.out) hb); replace HB := AM (bS (by with_reducible repeat first | exact HB.out | apply pA | apply pN | apply p1 | refine pS ?_ GE332.out) hb); (try clear hb); obtain ⟨z30_0, z30_1, z30_2, z30_3, z30_4, z30_5, z30_6, z30_7, z30_8, z30_9, z30_10, z30_11, z30_12, z30_13⟩ := cells14 BK332.out) | (go_at_call 36; (with_reducible refine (impl_areNames.calls k _ _ l0_3 false _ ?side1 ?side2 ?side3 A10.out).mono ?_); (case side1 => repeat first | exact (cB HR0_3.out HB.out) | with_reducible first | apply cA | apply cN | apply cD); (case side2 => exact HC0_3.out); (case side3 => exact Go.Proofs.YthcccgnhokncdaaGreatDoorW.Envs.Env.below HENV.out (by with_reducible repeat first | exact HB.out | apply pA | apply pN | apply p1 | refine pS ?_ GE332.out)); rintro e w31 ⟨rfl, hb⟩; replace BK332 := AM (bB (by (with_reducible repeat first | apply bN | apply bW | apply bL); exact BK332.out) hb); replace HB := AM (bS (by with_reducible repeat first | exact HB.out | apply pA | apply pN | apply p1 | refine pS ?_ GE332.out) hb); (try clear hb)))
      go_meet
      case rel => exact ⟨_, (true), (by first | rfl | (simp; done) | (simp [*]; done)), H', ⟨by first | omega | exact Nat.le_refl _⟩, ⟨by (with_reducible repeat (first | refine bN ?_ _ | refine bW ?_ | refine bL ?_ _)); exact BK332.out⟩, ⟨by with_reducible repeat first | exact HB.out | apply pA | apply pN | apply p1 | refine pS ?_ GE332.out⟩⟩
    ·replace c9 := bE.mpr c9
     subst c9;rw [if_neg (show ¬ (false = true) by decide)] at H;have H' := AM H;clear H;obtain ⟨z32_0, z32_1, z32_2, z32_3, z32_4, z32_5, z32_6, z32_7, z32_8, z32_9, z32_10, z32_11, z32_12, z32_13⟩ := cells14 BK332.out
     go_wp2_with (first | ((with_reducible refine gC (f := 34) rfl ?_); refine gL (some 5) rfl rfl Tryz.func34 (by kernel_rfl) rfl #[.string a0_0] rfl (by (try simp only [mT, mC, mN]); try rfl) ?_; (with_reducible refine (impl_isKey.calls k a0_0 true _ A4.out).mono ?_); rintro e w' ⟨rfl, ⟨nd, rfl⟩⟩; refine ⟨_, rfl, ?_⟩) | (go_at_call 35; (with_reducible refine (impl_isKind.calls a0_1 true _ A6.out).mono ?_); rintro e w' ⟨rfl, ⟨nd, rfl⟩⟩) | (go_at_call 36; (with_reducible refine (impl_areNames.calls k _ _ l0_2 false _ ?side1 ?side2 ?side3 A8.out).mono ?_); (case side1 => repeat (first | exact (cB HR0_2.out (by with_reducible repeat first | exact HB.out | apply pA | apply pN | apply p1 | refine pS ?_ GE332.out)) | (with_reducible refine cA ?_ _) | (with_reducible refine cN ?_ _) | (with_reducible refine cD ?_))); (case side2 => exact HC0_2.out); (case side3 => exact Go.Proofs.YthcccgnhokncdaaGreatDoorW.Envs.Env.below HENV.out (by with_reducible repeat first | exact HB.out | apply pA | apply pN | apply p1 | refine pS ?_ GE332.out)); rintro e w33 ⟨rfl, hb⟩; replace BK332 := AM (bB (by (with_reducible repeat first | apply bN | apply bW | apply bL); exact BK332.out) hb); replace HB := AM (bS (by with_reducible repeat first | exact HB.out | apply pA | apply pN | apply p1 | refine pS ?_ GE332.out) hb); (try clear hb)))
     go_meet
     case rel => exact ⟨_, (true), (by first | rfl | (simp; done) | (simp [*]; done)), H', ⟨by first | omega | exact Nat.le_refl _⟩, ⟨by (with_reducible repeat (first | refine bN ?_ _ | refine bW ?_ | refine bL ?_ _)); exact BK332.out⟩, ⟨by with_reducible repeat first | exact HB.out | apply pA | apply pN | apply p1 | refine pS ?_ GE332.out⟩⟩
   ·replace c7 := bE.mpr c7
    subst c7;rw [if_neg (show ¬ (false = true) by decide)] at H;have H' := AM H;clear H;obtain ⟨z34_0, z34_1, z34_2, z34_3, z34_4, z34_5, z34_6, z34_7, z34_8, z34_9, z34_10, z34_11, z34_12, z34_13⟩ := cells14 BK332.out
    go_wp2_with (first | ((with_reducible refine gC (f := 34) rfl ?_); refine gL (some 5) rfl rfl Tryz.func34 (by kernel_rfl) rfl #[.string a0_0] rfl (by (try simp only [mT, mC, mN]); try rfl) ?_; (with_reducible refine (impl_isKey.calls k a0_0 true _ A4.out).mono ?_); rintro e w' ⟨rfl, ⟨nd, rfl⟩⟩; refine ⟨_, rfl, ?_⟩) | (go_at_call 35; (with_reducible refine (impl_isKind.calls a0_1 false _ A6.out).mono ?_); rintro e w' ⟨rfl, ⟨nd, rfl⟩⟩))
    go_meet
    case rel => exact ⟨_, (true), (by first | rfl | (simp; done) | (simp [*]; done)), H', ⟨by first | omega | exact Nat.le_refl _⟩, ⟨by (with_reducible repeat (first | refine bN ?_ _ | refine bW ?_ | refine bL ?_ _)); exact BK332.out⟩, ⟨by with_reducible repeat first | exact HB.out | apply pA | apply pN | apply p1 | refine pS ?_ GE332.out⟩⟩
  ·replace c5 := bE.mpr c5
   subst c5;rw [if_neg (show ¬ (false = true) by decide)] at H;have H' := AM H;clear H;obtain ⟨z35_0, z35_1, z35_2, z35_3, z35_4, z35_5, z35_6, z35_7, z35_8, z35_9, z35_10, z35_11, z35_12, z35_13⟩ := cells14 BK332.out
   go_wp2_with (first | ((with_reducible refine gC (f := 34) rfl ?_); refine gL (some 5) rfl rfl Tryz.func34 (by kernel_rfl) rfl #[.string a0_0] rfl (by (try simp only [mT, mC, mN]); try rfl) ?_; (with_reducible refine (impl_isKey.calls k a0_0 false _ A4.out).mono ?_); rintro e w' ⟨rfl, ⟨nd, rfl⟩⟩; refine ⟨_, rfl, ?_⟩))
   go_meet
   case rel => exact ⟨_, (true), (by first | rfl | (simp; done) | (simp [*]; done)), H', ⟨by first | omega | exact Nat.le_refl _⟩, ⟨by (with_reducible repeat (first | refine bN ?_ _ | refine bW ?_ | refine bL ?_ _)); exact BK332.out⟩, ⟨by with_reducible repeat first | exact HB.out | apply pA | apply pN | apply p1 | refine pS ?_ GE332.out⟩⟩
 case rest =>
  clear HC2;(try clear c1);(try clear p2);(try clear c3);(try clear c5);(try clear c7);(try clear c9);(try clear c11);(try clear c13);(try clear c16);(try clear c34);(try clear z15_0);(try clear z15_1);(try clear z15_10);(try clear z15_11);(try clear z15_12);(try clear z15_13);(try clear z15_2);(try clear z15_3);(try clear z15_4);(try clear z15_5);(try clear z15_6);(try clear z15_7);(try clear z15_8);(try clear z15_9);(try clear z17_0);(try clear z17_1);(try clear z17_10);(try clear z17_11);(try clear z17_12);(try clear z17_13);(try clear z17_2);(try clear z17_3);(try clear z17_4);(try clear z17_5);(try clear z17_6);(try clear z17_7);(try clear z17_8);(try clear z17_9);(try clear z19_0);(try clear z19_1);(try clear z19_10);(try clear z19_11);(try clear z19_12);(try clear z19_13);(try clear z19_2);(try clear z19_3);(try clear z19_4);(try clear z19_5);(try clear z19_6);(try clear z19_7);(try clear z19_8);(try clear z19_9);(try clear z21_0);(try clear z21_1);(try clear z21_10);(try clear z21_11);(try clear z21_12);(try clear z21_13);(try clear z21_2);(try clear z21_3);(try clear z21_4);(try clear z21_5);(try clear z21_6);(try clear z21_7);(try clear z21_8);(try clear z21_9);(try clear z22_0);(try clear z22_1);(try clear z22_10);(try clear z22_11);(try clear z22_12);(try clear z22_13);(try clear z22_2);(try clear z22_3);(try clear z22_4);(try clear z22_5);(try clear z22_6);(try clear z22_7);(try clear z22_8);(try clear z22_9);(try clear z24_0);(try clear z24_1);(try clear z24_10);(try clear z24_11);(try clear z24_12);(try clear z24_13);(try clear z24_2);(try clear z24_3);(try clear z24_4);(try clear z24_5);(try clear z24_6);(try clear z24_7);(try clear z24_8);(try clear z24_9);(try clear z26_0);(try clear z26_1);(try clear z26_10);(try clear z26_11);(try clear z26_12);(try clear z26_13);(try clear z26_2);(try clear z26_3);(try clear z26_4);(try clear z26_5);(try clear z26_6);(try clear z26_7);(try clear z26_8);(try clear z26_9);(try clear z28_0);(try clear z28_1);(try clear z28_10);(try clear z28_11);(try clear z28_12);(try clear z28_13);(try clear z28_2);(try clear z28_3);(try clear z28_4);(try clear z28_5);(try clear z28_6);(try clear z28_7);(try clear z28_8);(try clear z28_9);(try clear z30_0);(try clear z30_1);(try clear z30_10);(try clear z30_11);(try clear z30_12);(try clear z30_13);(try clear z30_2);(try clear z30_3);(try clear z30_4);(try clear z30_5);(try clear z30_6);(try clear z30_7);(try clear z30_8);(try clear z30_9);(try clear z32_0);(try clear z32_1);(try clear z32_10);(try clear z32_11);(try clear z32_12);(try clear z32_13);(try clear z32_2);(try clear z32_3);(try clear z32_4);(try clear z32_5);(try clear z32_6);(try clear z32_7);(try clear z32_8);(try clear z32_9);(try clear z34_0);(try clear z34_1);(try clear z34_10);(try clear z34_11);(try clear z34_12);(try clear z34_13);(try clear z34_2);(try clear z34_3);(try clear z34_4);(try clear z34_5);(try clear z34_6);(try clear z34_7);(try clear z34_8);(try clear z34_9);(try clear z35_0);(try clear z35_1);(try clear z35_10);(try clear z35_11);(try clear z35_12);(try clear z35_13);(try clear z35_2);(try clear z35_3);(try clear z35_4);(try clear z35_5);(try clear z35_6);(try clear z35_7);(try clear z35_8);(try clear z35_9);obtain ⟨kq, x36_1, rfl, HA, HJ1, BK332, HB⟩ := hcut
  cases kq with
  | zero => exact absurd HA.out (by simp [impl_IsValidEntry.j0])
  | succ kj1 =>
   have H := HA.out;clear HA;simp only [impl_IsValidEntry.j0] at H;by_cases c36 : x36_1 = true;(·subst c36;rw [if_pos rfl] at H;obtain rfl := oI H;(go_wp2);(go_ret);exact ⟨rfl, by with_reducible repeat first | exact HB.out | apply pA | apply pN | apply p1 | refine pS ?_ GE332.out⟩)
   ·replace c36 := bE.mpr c36
    subst c36;rw [if_neg (show ¬ (false = true) by decide)] at H;replace H := oB.mp H;obtain ⟨t339, A370, H⟩ := H;(try dsimp only at H);have A37 := AM A370;clear A370;by_cases c38 : t339 = true
    ·subst c38
     rw [if_pos rfl] at H;replace H := oB.mp H;obtain ⟨t340, A390, H⟩ := H;(try dsimp only at H);have A39 := AM A390;clear A390;by_cases c40 : t340 = true
     ·subst c40
      rw [if_pos rfl] at H;replace H := oB.mp H;obtain ⟨t341, A410, H⟩ := H;(try dsimp only at H);have A41 := AM A410;clear A410;by_cases c42 : t341 = true
      ·subst c42
       rw [if_pos rfl] at H;replace H := oB.mp H;obtain ⟨t342, A430, H⟩ := H;(try dsimp only at H);have A43 := AM A430;clear A430;by_cases c44 : t342 = true
       ·subst c44
        rw [if_pos rfl] at H;by_cases c45 : a0_13.toList = ([] : List UInt8)
        ·rw [if_pos c45] at H
         have c45b0 : (a0_13.toList == ([] : List UInt8)) = true := beq_iff_eq.mpr c45;have c45b1 : (a0_13.toList != ([] : List UInt8)) = false := bne_eq_false_iff_eq.mpr c45;clear c45;obtain rfl := oI H;obtain ⟨z46_0, z46_1, z46_2, z46_3, z46_4, z46_5, z46_6, z46_7, z46_8, z46_9, z46_10, z46_11, z46_12, z46_13⟩ := cells14 BK332.out
         go_wp2_with (first | ((with_reducible refine gC (f := 39) rfl ?_); refine gL (some 39) rfl rfl Tryz.func39 (by kernel_rfl) rfl #[.string a0_4] rfl (by (try simp only [mT, mC, mN]); try rfl) ?_; (with_reducible refine (impl_isText.calls kj1 a0_4 true _ A37.out).mono ?_); rintro e w' ⟨rfl, ⟨nd, rfl⟩⟩; refine ⟨_, rfl, ?_⟩) | (go_at_call 39; (with_reducible refine (impl_isText.calls kj1 a0_5 true _ A39.out).mono ?_); rintro e w' ⟨rfl, ⟨nd, rfl⟩⟩) | (go_at_call 39; (with_reducible refine (impl_isText.calls kj1 a0_6 true _ A41.out).mono ?_); rintro e w' ⟨rfl, ⟨nd, rfl⟩⟩) | (go_at_call 39; (with_reducible refine (impl_isText.calls kj1 a0_12 true _ A43.out).mono ?_); rintro e w' ⟨rfl, ⟨nd, rfl⟩⟩))
         (go_ret);exact ⟨rfl, by with_reducible repeat first | exact HB.out | apply pA | apply pN | apply p1 | refine pS ?_ GE332.out⟩
        ·rw [if_neg c45] at H
         have c45b0 : (a0_13.toList == ([] : List UInt8)) = false := beq_eq_false_iff_ne.mpr c45;have c45b1 : (a0_13.toList != ([] : List UInt8)) = true := bne_iff_ne.mpr c45;replace H := oB.mp H;obtain ⟨t343, A470, H⟩ := H;(try dsimp only at H);have A47 := AM A470;clear A470;by_cases c48 : t343 = true
         ·subst c48
          rw [if_pos rfl] at H;obtain rfl := oI H;obtain ⟨z49_0, z49_1, z49_2, z49_3, z49_4, z49_5, z49_6, z49_7, z49_8, z49_9, z49_10, z49_11, z49_12, z49_13⟩ := cells14 BK332.out
          go_wp2_with (first | ((with_reducible refine gC (f := 39) rfl ?_); refine gL (some 39) rfl rfl Tryz.func39 (by kernel_rfl) rfl #[.string a0_4] rfl (by (try simp only [mT, mC, mN]); try rfl) ?_; (with_reducible refine (impl_isText.calls kj1 a0_4 true _ A37.out).mono ?_); rintro e w' ⟨rfl, ⟨nd, rfl⟩⟩; refine ⟨_, rfl, ?_⟩) | (go_at_call 39; (with_reducible refine (impl_isText.calls kj1 a0_5 true _ A39.out).mono ?_); rintro e w' ⟨rfl, ⟨nd, rfl⟩⟩) | (go_at_call 39; (with_reducible refine (impl_isText.calls kj1 a0_6 true _ A41.out).mono ?_); rintro e w' ⟨rfl, ⟨nd, rfl⟩⟩) | (go_at_call 39; (with_reducible refine (impl_isText.calls kj1 a0_12 true _ A43.out).mono ?_); rintro e w' ⟨rfl, ⟨nd, rfl⟩⟩) | (go_at_call 34; (with_reducible refine (impl_isKey.calls kj1 a0_13 true _ A47.out).mono ?_); rintro e w' ⟨rfl, ⟨nd, rfl⟩⟩))
          (go_ret);exact ⟨rfl, by with_reducible repeat first | exact HB.out | apply pA | apply pN | apply p1 | refine pS ?_ GE332.out⟩
         ·replace c48 := bE.mpr c48
          subst c48;rw [if_neg (show ¬ (false = true) by decide)] at H;obtain rfl := oI H;obtain ⟨z50_0, z50_1, z50_2, z50_3, z50_4, z50_5, z50_6, z50_7, z50_8, z50_9, z50_10, z50_11, z50_12, z50_13⟩ := cells14 BK332.out
          go_wp2_with (first | ((with_reducible refine gC (f := 39) rfl ?_); refine gL (some 39) rfl rfl Tryz.func39 (by kernel_rfl) rfl #[.string a0_4] rfl (by (try simp only [mT, mC, mN]); try rfl) ?_; (with_reducible refine (impl_isText.calls kj1 a0_4 true _ A37.out).mono ?_); rintro e w' ⟨rfl, ⟨nd, rfl⟩⟩; refine ⟨_, rfl, ?_⟩) | (go_at_call 39; (with_reducible refine (impl_isText.calls kj1 a0_5 true _ A39.out).mono ?_); rintro e w' ⟨rfl, ⟨nd, rfl⟩⟩) | (go_at_call 39; (with_reducible refine (impl_isText.calls kj1 a0_6 true _ A41.out).mono ?_); rintro e w' ⟨rfl, ⟨nd, rfl⟩⟩) | (go_at_call 39; (with_reducible refine (impl_isText.calls kj1 a0_12 true _ A43.out).mono ?_); rintro e w' ⟨rfl, ⟨nd, rfl⟩⟩) | (go_at_call 34; (with_reducible refine (impl_isKey.calls kj1 a0_13 false _ A47.out).mono ?_); rintro e w' ⟨rfl, ⟨nd, rfl⟩⟩))
          (go_ret);exact ⟨rfl, by with_reducible repeat first | exact HB.out | apply pA | apply pN | apply p1 | refine pS ?_ GE332.out⟩
       ·replace c44 := bE.mpr c44
        subst c44;rw [if_neg (show ¬ (false = true) by decide)] at H;obtain rfl := oI H;obtain ⟨z51_0, z51_1, z51_2, z51_3, z51_4, z51_5, z51_6, z51_7, z51_8, z51_9, z51_10, z51_11, z51_12, z51_13⟩ := cells14 BK332.out
        go_wp2_with (first | ((with_reducible refine gC (f := 39) rfl ?_); refine gL (some 39) rfl rfl Tryz.func39 (by kernel_rfl) rfl #[.string a0_4] rfl (by (try simp only [mT, mC, mN]); try rfl) ?_; (with_reducible refine (impl_isText.calls kj1 a0_4 true _ A37.out).mono ?_); rintro e w' ⟨rfl, ⟨nd, rfl⟩⟩; refine ⟨_, rfl, ?_⟩) | (go_at_call 39; (with_reducible refine (impl_isText.calls kj1 a0_5 true _ A39.out).mono ?_); rintro e w' ⟨rfl, ⟨nd, rfl⟩⟩) | (go_at_call 39; (with_reducible refine (impl_isText.calls kj1 a0_6 true _ A41.out).mono ?_); rintro e w' ⟨rfl, ⟨nd, rfl⟩⟩) | (go_at_call 39; (with_reducible refine (impl_isText.calls kj1 a0_12 false _ A43.out).mono ?_); rintro e w' ⟨rfl, ⟨nd, rfl⟩⟩))
        (go_ret);exact ⟨rfl, by with_reducible repeat first | exact HB.out | apply pA | apply pN | apply p1 | refine pS ?_ GE332.out⟩
      ·replace c42 := bE.mpr c42
       subst c42;rw [if_neg (show ¬ (false = true) by decide)] at H;obtain rfl := oI H;obtain ⟨z52_0, z52_1, z52_2, z52_3, z52_4, z52_5, z52_6, z52_7, z52_8, z52_9, z52_10, z52_11, z52_12, z52_13⟩ := cells14 BK332.out
       go_wp2_with (first | ((with_reducible refine gC (f := 39) rfl ?_); refine gL (some 39) rfl rfl Tryz.func39 (by kernel_rfl) rfl #[.string a0_4] rfl (by (try simp only [mT, mC, mN]); try rfl) ?_; (with_reducible refine (impl_isText.calls kj1 a0_4 true _ A37.out).mono ?_); rintro e w' ⟨rfl, ⟨nd, rfl⟩⟩; refine ⟨_, rfl, ?_⟩) | (go_at_call 39; (with_reducible refine (impl_isText.calls kj1 a0_5 true _ A39.out).mono ?_); rintro e w' ⟨rfl, ⟨nd, rfl⟩⟩) | (go_at_call 39; (with_reducible refine (impl_isText.calls kj1 a0_6 false _ A41.out).mono ?_); rintro e w' ⟨rfl, ⟨nd, rfl⟩⟩))
       (go_ret);exact ⟨rfl, by with_reducible repeat first | exact HB.out | apply pA | apply pN | apply p1 | refine pS ?_ GE332.out⟩
     ·replace c40 := bE.mpr c40
      subst c40;rw [if_neg (show ¬ (false = true) by decide)] at H;obtain rfl := oI H;obtain ⟨z53_0, z53_1, z53_2, z53_3, z53_4, z53_5, z53_6, z53_7, z53_8, z53_9, z53_10, z53_11, z53_12, z53_13⟩ := cells14 BK332.out
      go_wp2_with (first | ((with_reducible refine gC (f := 39) rfl ?_); refine gL (some 39) rfl rfl Tryz.func39 (by kernel_rfl) rfl #[.string a0_4] rfl (by (try simp only [mT, mC, mN]); try rfl) ?_; (with_reducible refine (impl_isText.calls kj1 a0_4 true _ A37.out).mono ?_); rintro e w' ⟨rfl, ⟨nd, rfl⟩⟩; refine ⟨_, rfl, ?_⟩) | (go_at_call 39; (with_reducible refine (impl_isText.calls kj1 a0_5 false _ A39.out).mono ?_); rintro e w' ⟨rfl, ⟨nd, rfl⟩⟩))
      (go_ret);exact ⟨rfl, by with_reducible repeat first | exact HB.out | apply pA | apply pN | apply p1 | refine pS ?_ GE332.out⟩
    ·replace c38 := bE.mpr c38
     subst c38;rw [if_neg (show ¬ (false = true) by decide)] at H;obtain rfl := oI H;obtain ⟨z54_0, z54_1, z54_2, z54_3, z54_4, z54_5, z54_6, z54_7, z54_8, z54_9, z54_10, z54_11, z54_12, z54_13⟩ := cells14 BK332.out
     go_wp2_with (first | ((with_reducible refine gC (f := 39) rfl ?_); refine gL (some 39) rfl rfl Tryz.func39 (by kernel_rfl) rfl #[.string a0_4] rfl (by (try simp only [mT, mC, mN]); try rfl) ?_; (with_reducible refine (impl_isText.calls kj1 a0_4 false _ A37.out).mono ?_); rintro e w' ⟨rfl, ⟨nd, rfl⟩⟩; refine ⟨_, rfl, ?_⟩))
     (go_ret);exact ⟨rfl, by with_reducible repeat first | exact HB.out | apply pA | apply pN | apply p1 | refine pS ?_ GE332.out⟩
end Go.Proofs.YthcccgnhokncdaaGreatDoor.Px
