/- Calls of Go functions come to what the Lean functions beside them say; written by a program of this session (wip/xprint); no conditions. -/
import Derived.Test.YthcccgnhokncdaaGreatDoorPx4
namespace Go.Proofs.YthcccgnhokncdaaGreatDoor.Px
open Go.RowKit Go.Proofs.YthcccgnhokncdaaGreatDoorW.PrintWords Go.Proofs.YthcccgnhokncdaaGreatDoorW.PrintLast Go.Proofs.YthcccgnhokncdaaGreatDoorW.PrintMore
open Go.Proofs.YthcccgnhokncdaaGreatDoorW.PrintWords renaming pw_below_drewN → pN, below_drew1 → p1, below_alloc → pA, below_set → pS, blk_drewN → bN, blk_alloc → bL, blk_drew → bW, blk_below → bB, below_step → bS, below_size → bZ, gate_callee → gC, gate_dst → gD
open Go.Proofs.YthcccgnhokncdaaGreatDoorW.PrintWords.Aside0 renaming mk → AM
open Go.Proofs.YthcccgnhokncdaaGreatDoorW.PrintWords.Kd renaming C_alloc → cA, C_drewN → cN, C_drew → cD, C_below → cB, R_reads' → rR
open Go.Proofs.YthcccgnhokncdaaGreatDoorW.PrintLast renaming goesL_ → gL
open Option renaming bind_eq_some_iff → oB
open Option.some renaming inj → oI
open List renaming map_toArray → mT, map_cons → mC, map_nil → mN
open Bool renaming eq_false_iff → bE
attribute [local go_sem] max2_int min2_int max_two min_two max_three min_three max_four min_four
set_option maxHeartbeats 8000000
set_option maxRecDepth 100000
set_option linter.unusedVariables false
set_option linter.unusedSimpArgs false
/-! ### spec_l2Given: function 97 -/
def spec_l2Given.f (k : Nat) (l0_0 : List ByteArray) (a0_1 : ByteArray) (a0_2 : ByteArray) (a0_3 : ByteArray) : Option (ByteArray) := (spec_l2Join.f k l0_0).bind fun t221 => (some t221)
theorem spec_l2Given.mono : ∀ a0 a1 a2 a3 k, LeO (spec_l2Given.f k a0 a1 a2 a3) (spec_l2Given.f (k + 1) a0 a1 a2 a3) := by
 intro a0 a1 a2 a3 k;unfold spec_l2Given.f
 repeat' with_reducible first
   | exact spec_l2Join.mono _ _
   | exact LeO.refl _
   | exact LeO.none _
   | refine LeO.ite ?_ ?_
   | refine LeO.bind ?_ (fun _ => ?_)
theorem spec_l2Given.calls (k : Nat) (A0_0 : Option Addr) (c0_0 : Nat) (l0_0 : List ByteArray) (a0_1 : ByteArray) (a0_2 : ByteArray) (a0_3 : ByteArray) (r : ByteArray) (w : World) (hr0_0 : Kd.C Kd.string w A0_0 l0_0.length l0_0) (hc0_0 : l0_0.length ≤ c0_0) (h : spec_l2Given.f k l0_0 a0_1 a0_2 a0_3 = some r) :
  Calls Tryz.prog 97 #[.agg #[.slice A0_0 l0_0.length c0_0, .string a0_1, .string a0_2, .string a0_3]] w fun e w' => e = .returned (.string r) ∧ Below w.heap.size w w' := by
 have hu61 := Tryz.underlying61;have HR0_0 := AM hr0_0;have HC0_0 := AM hc0_0;clear hr0_0 hc0_0;have HB := AM (Below.refl w.heap.size w);have H := h;unfold spec_l2Given.f at H;clear h;replace H := oB.mp H;obtain ⟨t221, A20, H⟩ := H;(try dsimp only at H);have A2 := AM A20;clear A20;obtain rfl := oI H;(go_enter Tryz.func97, Tryz.ntmps97)
 go_wp2_with (first | ((with_reducible refine gD (N := 1) rfl ?_); refine box_event ?hg (N := 1) ?hd (cs := #[.slice A0_0 l0_0.length c0_0, .string a0_1, .string a0_2, .string a0_3]) (t := 61) ?hr ?_; (case hd => rfl); (case hg => rfl); (case hr => first | (go_simp; done) | (go_simp; rfl)); intro gb220 hg w3 hbox hb; have BK220 := AM (hbox); have GW220 := AM ((by rw [hg]; exact (bZ (by with_reducible repeat first | exact HB.out | apply pA | apply pN | apply p1)) : w.heap.size ≤ gb220)); have GE220 := AM ((by rw [hg]; exact (bZ (by with_reducible repeat first | exact HB.out | apply pA | apply pN | apply p1)) : w.heap.size ≤ gb220)); replace HB := AM (bS (by with_reducible repeat first | exact HB.out | apply pA | apply pN | apply p1) hb); clear hb hbox hg; obtain ⟨z4_0, z4_1, z4_2, z4_3⟩ := cells4 BK220.out) | ((with_reducible refine gC (f := 74) rfl ?_); refine gL (some 5) rfl rfl Tryz.func74 (by kernel_rfl) rfl #[.slice A0_0 l0_0.length c0_0] rfl (by (try simp only [mT, mC, mN]); try rfl) ?_; (with_reducible refine (spec_l2Join.calls k _ _ l0_0 t221 _ ?side1 ?side2 A2.out).mono ?_); (case side1 => repeat first | exact (cB HR0_0.out HB.out) | with_reducible first | apply cA | apply cN | apply cD); (case side2 => exact HC0_0.out); rintro e w' ⟨rfl, ⟨nd, rfl⟩⟩; refine ⟨_, rfl, ?_⟩))
 (go_ret);exact ⟨rfl, by with_reducible repeat first | exact HB.out | apply pA | apply pN | apply p1 | refine pS ?_ GE220.out⟩
/-! ### spec_l2Inverse: function 76 -/
def spec_l2Inverse.j0 : Nat → ByteArray → Bool → List ByteArray → ByteArray → ByteArray → ByteArray → Option (ByteArray)
 | 0, _, _, _, _, _, _ => none
 | k + 1, x3, x18, x223000, x223001, x223002, x223003 => if x18 = true then (if x3.size + 2 ≤ 9223372036854775807 then ((spec_l2Given.f k x223000 x223001 x223002 x223003).bind fun t227 => (if (x3 ++ (⟨#[44, 32]⟩ : ByteArray)).size + t227.size ≤ 9223372036854775807 then (if x223003.toList = ([] : List UInt8) then (some ((x3 ++ (⟨#[44, 32]⟩ : ByteArray)) ++ t227)) else (if ((x3 ++ (⟨#[44, 32]⟩ : ByteArray)) ++ t227).size + 2 ≤ 9223372036854775807 then (if (((x3 ++ (⟨#[44, 32]⟩ : ByteArray)) ++ t227) ++ (⟨#[44, 32]⟩ : ByteArray)).size + x223003.size ≤ 9223372036854775807 then (some ((((x3 ++ (⟨#[44, 32]⟩ : ByteArray)) ++ t227) ++ (⟨#[44, 32]⟩ : ByteArray)) ++ x223003)) else (none)) else (none))) else (none))) else (none)) else (if x223003.toList = ([] : List UInt8) then (some x3) else (if x3.size + 2 ≤ 9223372036854775807 then (if (x3 ++ (⟨#[44, 32]⟩ : ByteArray)).size + x223003.size ≤ 9223372036854775807 then (some ((x3 ++ (⟨#[44, 32]⟩ : ByteArray)) ++ x223003)) else (none)) else (none)))
def spec_l2Inverse.f (k : Nat) (l0_0 : List ByteArray) (a0_1 : ByteArray) (a0_2 : ByteArray) (a0_3 : ByteArray) : Option (ByteArray) := (spec_l2Join.f k (([a0_1, a0_2] : List ByteArray))).bind fun t226 => (if (l0_0.length : Int) > 0 then (spec_l2Inverse.j0 k t226 true l0_0 a0_1 a0_2 a0_3) else (spec_l2Inverse.j0 k t226 (a0_3.toList != ([] : List UInt8)) l0_0 a0_1 a0_2 a0_3))
theorem spec_l2Inverse.mono_l : ∀ k, (∀ y0 y1 y2 y3 y4 y5, LeO (spec_l2Inverse.j0 k y0 y1 y2 y3 y4 y5) (spec_l2Inverse.j0 (k + 1) y0 y1 y2 y3 y4 y5))
 | 0 => fun _ _ _ _ _ _ r h => by simp [spec_l2Inverse.j0] at h
 | k + 1 => by
  have ih0 := spec_l2Inverse.mono_l k
  ·intro y0 y1 y2 y3 y4 y5
   unfold spec_l2Inverse.j0
   repeat' with_reducible first
   | exact ih0 _ _ _ _ _ _
   | exact spec_l2Given.mono _ _ _ _ _
   | exact spec_l2Join.mono _ _
   | exact LeO.refl _
   | exact LeO.none _
   | refine LeO.ite ?_ ?_
   | refine LeO.bind ?_ (fun _ => ?_)
theorem spec_l2Inverse.mono : ∀ a0 a1 a2 a3 k, LeO (spec_l2Inverse.f k a0 a1 a2 a3) (spec_l2Inverse.f (k + 1) a0 a1 a2 a3) := by
 intro a0 a1 a2 a3 k;have ih0 := spec_l2Inverse.mono_l k;unfold spec_l2Inverse.f
 repeat' with_reducible first
   | exact ih0 _ _ _ _ _ _
   | exact spec_l2Given.mono _ _ _ _ _
   | exact spec_l2Join.mono _ _
   | exact LeO.refl _
   | exact LeO.none _
   | refine LeO.ite ?_ ?_
   | refine LeO.bind ?_ (fun _ => ?_)
theorem spec_l2Inverse.calls (k : Nat) (A0_0 : Option Addr) (c0_0 : Nat) (l0_0 : List ByteArray) (a0_1 : ByteArray) (a0_2 : ByteArray) (a0_3 : ByteArray) (r : ByteArray) (w : World) (hr0_0 : Kd.C Kd.string w A0_0 l0_0.length l0_0) (hc0_0 : l0_0.length ≤ c0_0) (h : spec_l2Inverse.f k l0_0 a0_1 a0_2 a0_3 = some r) :
  Calls Tryz.prog 76 #[.agg #[.slice A0_0 l0_0.length c0_0, .string a0_1, .string a0_2, .string a0_3]] w fun e w' => e = .returned (.string r) ∧ Below w.heap.size w w' := by
 have hu61 := Tryz.underlying61;have HR0_0 := AM hr0_0;have HC0_0 := AM hc0_0;clear hr0_0 hc0_0;have HB := AM (Below.refl w.heap.size w);have H := h;unfold spec_l2Inverse.f at H;clear h
 obtain ⟨y223, hy223⟩ : ∃ y_ : List ByteArray, y_ = (([a0_1, a0_2] : List ByteArray)) := ⟨_, rfl⟩
 (replace H : ((spec_l2Join.f k y223).bind fun t226 => (if (l0_0.length : Int) > 0 then (spec_l2Inverse.j0 k t226 true l0_0 a0_1 a0_2 a0_3) else (spec_l2Inverse.j0 k t226 (a0_3.toList != ([] : List UInt8)) l0_0 a0_1 a0_2 a0_3))) = some r := by first | (rw [hy223]; with_reducible exact H) | (have H2_ := (Option.bind_some _ _).symm.trans H; rw [hy223]; with_reducible exact H2_) | (have H2_ := (Option.bind_some _ _).symm.trans H; with_reducible exact H2_) | with_reducible exact H | (rw [hy223]; exact H) | exact H);have Ny223 := AM hy223;clear hy223;replace H := oB.mp H;obtain ⟨t226, A20, H⟩ := H;(try dsimp only at H);have A2 := AM A20;clear A20;have HC3 := AM H;clear H;(go_enter Tryz.func76, Tryz.ntmps76)
 go_upto_region 2 with (first | ((with_reducible refine gD (N := 1) rfl ?_); refine box_event ?hg (N := 1) ?hd (cs := #[.slice A0_0 l0_0.length c0_0, .string a0_1, .string a0_2, .string a0_3]) (t := 61) ?hr ?_; (case hd => rfl); (case hg => rfl); (case hr => first | (go_simp; done) | (go_simp; rfl)); intro gb222 hg w4 hbox hb; have BK222 := AM (hbox); have GW222 := AM ((by rw [hg]; exact (bZ (by with_reducible repeat first | exact HB.out | apply pA | apply pN | apply p1)) : w.heap.size ≤ gb222)); have GE222 := AM ((by rw [hg]; exact (bZ (by with_reducible repeat first | exact HB.out | apply pA | apply pN | apply p1)) : w.heap.size ≤ gb222)); replace HB := AM (bS (by with_reducible repeat first | exact HB.out | apply pA | apply pN | apply p1) hb); clear hb hbox hg; obtain ⟨z5_0, z5_1, z5_2, z5_3⟩ := cells4 BK222.out) | ((with_reducible refine gD (N := 8) rfl ?_); refine Kd.R_lit Kd.string _ 9 ?hg (N := 8) ?hd (xs := ([a0_1, a0_2] : List ByteArray)) (inner := [.string a0_1, .string a0_2]) (ok := fun _ => True) (okp := fun _ => True) ?hr ?hp (fun _ hk => hk) trivial (Below.refl _ _) (Nat.le_refl _) (by simp) ?_; (case hd => rfl); (case hg => rfl); (case hr => first | (go_simp; done) | (go_simp; rfl)); (case hp => exact (Reps.one (show Kd.M Kd.string _ _ _ a0_1 [.string a0_1] from rfl) (Reps.one (show Kd.M Kd.string _ _ _ a0_2 [.string a0_2] from rfl) (Reps.none _ _)))); intro v224 w6 ho7 hb hg_ hnew_; clear hg_ hnew_; (first | rw [← Ny223.out] at ho7 | (simp only [Int.reduceToNat] at ho7; rw [← Ny223.out] at ho7)); have HO225 := AM (Kd.R_lower ho7 (bZ (by with_reducible repeat first | exact HB.out | apply pA | apply pN | apply p1 | refine pS ?_ GE222.out))); replace BK222 := AM (bB (by (with_reducible repeat first | apply bN | apply bW | apply bL); exact BK222.out) hb); replace HB := AM (bS (by with_reducible repeat first | exact HB.out | apply pA | apply pN | apply p1 | refine pS ?_ GE222.out) hb); clear hb ho7; obtain ⟨Ao8, co8, eo8⟩ := Kd.R_slice HO225.out; subst eo8) | ((with_reducible refine gC (f := 74) rfl ?_); refine gL (some 9) rfl rfl Tryz.func74 (by kernel_rfl) rfl #[.slice Ao8 y223.length co8] rfl (by (try simp only [mT, mC, mN]); try rfl) ?_; (with_reducible refine (spec_l2Join.calls k _ _ y223 t226 _ ?side1 ?side2 A2.out).mono ?_); (case side1 => repeat first | exact (rR HO225.out).2.2 | with_reducible first | apply cA | apply cN | apply cD); (case side2 => exact (rR HO225.out).2.1); rintro e w' ⟨rfl, ⟨nd, rfl⟩⟩; refine ⟨_, rfl, ?_⟩))
 (try simp only [Act.put, List.setIfInBounds_toArray, List.set_cons_zero, List.set_cons_succ]);(go_cut [18] (fun v18 wc => ∃ (kq : Nat) (x18_2 : Bool), v18 = .bool x18_2 ∧ Aside0 (spec_l2Inverse.j0 kq t226 x18_2 l0_0 a0_1 a0_2 a0_3 = some r) ∧ Aside0 (kq ≤ k) ∧ Aside0 (wc.heap[gb222]? = some (.cells #[(.slice A0_0 l0_0.length c0_0), .string a0_1, .string a0_2, .string a0_3] 61 (0, 0))) ∧ Aside0 (Below w.heap.size w wc)))
 case first =>
  have H := HC3.out;clear HC3;by_cases c9 : (l0_0.length : Int) > 0
  ·rw [if_pos c9] at H
   have c9b0 : decide (0 < (l0_0.length : Int)) = true := dT c9;have c9b1 : decide (0 < l0_0.length) = true := dT (by omega);clear c9;(first | rw [c9b0] | rw [c9b1] | rw [c9b2] | (simp only [i64_w, i32_w]; rw [c9b0]) | skip);have H' := AM H;clear H;obtain ⟨z10_0, z10_1, z10_2, z10_3⟩ := cells4 BK222.out;(go_wp2);(go_meet)
   case rel => exact ⟨_, (true), (by first | rfl | (simp; done) | (simp [*]; done)), H', ⟨by first | omega | exact Nat.le_refl _⟩, ⟨by (with_reducible repeat (first | refine bN ?_ _ | refine bW ?_ | refine bL ?_ _)); exact BK222.out⟩, ⟨by with_reducible repeat first | exact HB.out | apply pA | apply pN | apply p1 | refine pS ?_ GE222.out⟩⟩
  ·rw [if_neg c9] at H
   have c9b0 : decide (0 < (l0_0.length : Int)) = false := dF c9;have c9b1 : decide (0 < l0_0.length) = false := dF (by omega);clear c9;(first | rw [c9b0] | rw [c9b1] | rw [c9b2] | (simp only [i64_w, i32_w]; rw [c9b0]) | skip);have H' := AM H;clear H;obtain ⟨z11_0, z11_1, z11_2, z11_3⟩ := cells4 BK222.out;(go_wp2);(go_meet)
   case rel => exact ⟨_, ((a0_3.toList != ([] : List UInt8))), (by first | rfl | (simp; done) | (simp [*]; done) | (refine congrArg Value.bool (Bool.eq_iff_iff.2 ?_); simp [List.isEmpty_iff])), H', ⟨by first | omega | exact Nat.le_refl _⟩, ⟨by (with_reducible repeat (first | refine bN ?_ _ | refine bW ?_ | refine bL ?_ _)); exact BK222.out⟩, ⟨by with_reducible repeat first | exact HB.out | apply pA | apply pN | apply p1 | refine pS ?_ GE222.out⟩⟩
 case rest =>
  clear HC3;(try clear p2);(try clear c7);(try clear c9);(try clear c9b0);(try clear c9b1);(try clear c9b2);(try clear z10_0);(try clear z10_1);(try clear z10_2);(try clear z10_3);(try clear z11_0);(try clear z11_1);(try clear z11_2);(try clear z11_3);(try clear z5_0);(try clear z5_1);(try clear z5_2);(try clear z5_3);obtain ⟨kq, x18_2, rfl, HA, HJ2, BK222, HB⟩ := hcut
  cases kq with
  | zero => exact absurd HA.out (by simp [spec_l2Inverse.j0])
  | succ kj2 =>
   have H := HA.out;clear HA;simp only [spec_l2Inverse.j0] at H;by_cases c12 : x18_2 = true
   ·subst c12
    rw [if_pos rfl] at H;by_cases c13 : t226.size + 2 ≤ 9223372036854775807
    ·rw [if_pos c13] at H
     have c13b0 := eq_true c13;have c13b1 : decide (t226.size + 2 ≤ 9223372036854775807) = true := dT c13;(try have c13b2 : (9223372036854775807 < t226.size + 2) = False := eq_false (Nat.not_lt.2 c13));replace H := oB.mp H;obtain ⟨t227, A140, H⟩ := H;(try dsimp only at H);have A14 := AM A140;clear A140;by_cases c15 : (t226 ++ (⟨#[44, 32]⟩ : ByteArray)).size + t227.size ≤ 9223372036854775807
     ·rw [if_pos c15] at H
      have c15b0 := eq_true c15;have c15b1 : decide ((t226 ++ (⟨#[44, 32]⟩ : ByteArray)).size + t227.size ≤ 9223372036854775807) = true := dT c15;(try have c15b2 : (9223372036854775807 < (t226 ++ (⟨#[44, 32]⟩ : ByteArray)).size + t227.size) = False := eq_false (Nat.not_lt.2 c15));(try have c15b3 : (9223372036854775807 < t226.size + 2 + t227.size) = False := eq_false (by have h_ := c15; simp only [ByteArray.size_append, ByteArray.size_extract] at h_; (try simp only [show (⟨#[44, 32]⟩ : ByteArray).size = 2 from rfl] at h_); (try have q0_ := of_eq_true c13b0); omega));by_cases c16 : a0_3.toList = ([] : List UInt8)
      ·rw [if_pos c16] at H
       have c16b0 : (a0_3.toList == ([] : List UInt8)) = true := beq_iff_eq.mpr c16;have c16b1 : (a0_3.toList != ([] : List UInt8)) = false := bne_eq_false_iff_eq.mpr c16;clear c16;obtain rfl := oI H;obtain ⟨z17_0, z17_1, z17_2, z17_3⟩ := cells4 BK222.out
       go_wp2_with (first | ((with_reducible refine gC (f := 97) rfl ?_); refine gL (some 22) rfl rfl Tryz.func97 (by kernel_rfl) rfl #[.agg #[.slice A0_0 l0_0.length c0_0, .string a0_1, .string a0_2, .string a0_3]] rfl (by (try simp only [mT, mC, mN]); try rfl) ?_; (with_reducible refine (spec_l2Given.calls kj2 _ _ l0_0 a0_1 a0_2 a0_3 t227 _ ?side1 ?side2 A14.out).mono ?_); (case side1 => repeat first | exact (cB HR0_0.out HB.out) | with_reducible first | apply cA | apply cN | apply cD); (case side2 => exact HC0_0.out); rintro e w18 ⟨rfl, hb⟩; refine ⟨_, rfl, ?_⟩; replace BK222 := AM (bB (by (with_reducible repeat first | apply bN | apply bW | apply bL); exact BK222.out) hb); replace HB := AM (bS (by with_reducible repeat first | exact HB.out | apply pA | apply pN | apply p1 | refine pS ?_ GE222.out) hb); (try clear hb); obtain ⟨z19_0, z19_1, z19_2, z19_3⟩ := cells4 BK222.out))
       (go_ret);exact ⟨rfl, by with_reducible repeat first | exact HB.out | apply pA | apply pN | apply p1 | refine pS ?_ GE222.out⟩
      ·rw [if_neg c16] at H
       have c16b0 : (a0_3.toList == ([] : List UInt8)) = false := beq_eq_false_iff_ne.mpr c16;have c16b1 : (a0_3.toList != ([] : List UInt8)) = true := bne_iff_ne.mpr c16;by_cases c20 : ((t226 ++ (⟨#[44, 32]⟩ : ByteArray)) ++ t227).size + 2 ≤ 9223372036854775807
       ·rw [if_pos c20] at H
        have c20b0 := eq_true c20;have c20b1 : decide (((t226 ++ (⟨#[44, 32]⟩ : ByteArray)) ++ t227).size + 2 ≤ 9223372036854775807) = true := dT c20;(try have c20b2 : (9223372036854775807 < ((t226 ++ (⟨#[44, 32]⟩ : ByteArray)) ++ t227).size + 2) = False := eq_false (Nat.not_lt.2 c20));(try have c20b3 : (9223372036854775807 < t226.size + 2 + t227.size + 2) = False := eq_false (by have h_ := c20; simp only [ByteArray.size_append, ByteArray.size_extract] at h_; (try simp only [show (⟨#[44, 32]⟩ : ByteArray).size = 2 from rfl] at h_); (try have q0_ := of_eq_true c13b0); (try have q3_ := of_eq_true c15b0); (try have q6_ := of_eq_true c16b0); omega));by_cases c21 : (((t226 ++ (⟨#[44, 32]⟩ : ByteArray)) ++ t227) ++ (⟨#[44, 32]⟩ : ByteArray)).size + a0_3.size ≤ 9223372036854775807
        ·rw [if_pos c21] at H
         have c21b0 := eq_true c21;have c21b1 : decide ((((t226 ++ (⟨#[44, 32]⟩ : ByteArray)) ++ t227) ++ (⟨#[44, 32]⟩ : ByteArray)).size + a0_3.size ≤ 9223372036854775807) = true := dT c21;(try have c21b2 : (9223372036854775807 < (((t226 ++ (⟨#[44, 32]⟩ : ByteArray)) ++ t227) ++ (⟨#[44, 32]⟩ : ByteArray)).size + a0_3.size) = False := eq_false (Nat.not_lt.2 c21));(try have c21b3 : (9223372036854775807 < t226.size + 2 + t227.size + 2 + a0_3.size) = False := eq_false (by have h_ := c21; simp only [ByteArray.size_append, ByteArray.size_extract] at h_; (try simp only [show (⟨#[44, 32]⟩ : ByteArray).size = 2 from rfl] at h_); (try have q0_ := of_eq_true c13b0); (try have q3_ := of_eq_true c15b0); (try have q6_ := of_eq_true c16b0); (try have q8_ := of_eq_true c20b0); omega));obtain rfl := oI H;obtain ⟨z22_0, z22_1, z22_2, z22_3⟩ := cells4 BK222.out
         go_wp2_with (first | ((with_reducible refine gC (f := 97) rfl ?_); refine gL (some 22) rfl rfl Tryz.func97 (by kernel_rfl) rfl #[.agg #[.slice A0_0 l0_0.length c0_0, .string a0_1, .string a0_2, .string a0_3]] rfl (by (try simp only [mT, mC, mN]); try rfl) ?_; (with_reducible refine (spec_l2Given.calls kj2 _ _ l0_0 a0_1 a0_2 a0_3 t227 _ ?side1 ?side2 A14.out).mono ?_); (case side1 => repeat first | exact (cB HR0_0.out HB.out) | with_reducible first | apply cA | apply cN | apply cD); (case side2 => exact HC0_0.out); rintro e w23 ⟨rfl, hb⟩; refine ⟨_, rfl, ?_⟩; replace BK222 := AM (bB (by (with_reducible repeat first | apply bN | apply bW | apply bL); exact BK222.out) hb); replace HB := AM (bS (by with_reducible repeat first | exact HB.out | apply pA | apply pN | apply p1 | refine pS ?_ GE222.out) hb); (try clear hb); obtain ⟨z24_0, z24_1, z24_2, z24_3⟩ := cells4 BK222.out))
         (go_ret);exact ⟨rfl, by with_reducible repeat first | exact HB.out | apply pA | apply pN | apply p1 | refine pS ?_ GE222.out⟩
        ·rw [if_neg c21] at H
         exact absurd H (by simp)
       ·rw [if_neg c20] at H
        exact absurd H (by simp)
     ·rw [if_neg c15] at H
      exact absurd H (by simp)
    ·rw [if_neg c13] at H
     exact absurd H (by simp)
   ·replace c12 := Bool.eq_false_iff.mpr c12
    subst c12;rw [if_neg (show ¬ (false = true) by decide)] at H;by_cases c25 : a0_3.toList = ([] : List UInt8);(·rw [if_pos c25] at H;have c25b0 : (a0_3.toList == ([] : List UInt8)) = true := beq_iff_eq.mpr c25;have c25b1 : (a0_3.toList != ([] : List UInt8)) = false := bne_eq_false_iff_eq.mpr c25;clear c25;obtain rfl := oI H;obtain ⟨z26_0, z26_1, z26_2, z26_3⟩ := cells4 BK222.out;(go_wp2);(go_ret);exact ⟨rfl, by with_reducible repeat first | exact HB.out | apply pA | apply pN | apply p1 | refine pS ?_ GE222.out⟩);(·rw [if_neg c25] at H;have c25b0 : (a0_3.toList == ([] : List UInt8)) = false := beq_eq_false_iff_ne.mpr c25;have c25b1 : (a0_3.toList != ([] : List UInt8)) = true := bne_iff_ne.mpr c25;by_cases c27 : t226.size + 2 ≤ 9223372036854775807;(·rw [if_pos c27] at H;have c27b0 := eq_true c27;have c27b1 : decide (t226.size + 2 ≤ 9223372036854775807) = true := dT c27;(try have c27b2 : (9223372036854775807 < t226.size + 2) = False := eq_false (Nat.not_lt.2 c27));by_cases c28 : (t226 ++ (⟨#[44, 32]⟩ : ByteArray)).size + a0_3.size ≤ 9223372036854775807;(·rw [if_pos c28] at H;have c28b0 := eq_true c28;have c28b1 : decide ((t226 ++ (⟨#[44, 32]⟩ : ByteArray)).size + a0_3.size ≤ 9223372036854775807) = true := dT c28;(try have c28b2 : (9223372036854775807 < (t226 ++ (⟨#[44, 32]⟩ : ByteArray)).size + a0_3.size) = False := eq_false (Nat.not_lt.2 c28));(try have c28b3 : (9223372036854775807 < t226.size + 2 + a0_3.size) = False := eq_false (by have h_ := c28; simp only [ByteArray.size_append, ByteArray.size_extract] at h_; (try simp only [show (⟨#[44, 32]⟩ : ByteArray).size = 2 from rfl] at h_); (try have q0_ := of_eq_true c25b0); (try have q2_ := of_eq_true c27b0); omega));obtain rfl := oI H;obtain ⟨z29_0, z29_1, z29_2, z29_3⟩ := cells4 BK222.out;(go_wp2);(go_ret);exact ⟨rfl, by with_reducible repeat first | exact HB.out | apply pA | apply pN | apply p1 | refine pS ?_ GE222.out⟩);(·rw [if_neg c28] at H;exact absurd H (by simp)));(·rw [if_neg c27] at H;exact absurd H (by simp)))
/-! ### spec_l4Names: function 53 -/
def spec_l4Names.l0 : Nat → List (S61) → ByteArray → Int → Option (ByteArray)
 | 0, _, _, _ => none
 | k + 1, x0, x3, x4 => if x4 < (x0.length : Int) then (if x4 > 0 then (if x3.size + 2 ≤ 9223372036854775807 then (if 0 ≤ x4 then ((spec_l2Inverse.f k ((rd_T61 x0 x4).f0) ((rd_T61 x0 x4).f1) ((rd_T61 x0 x4).f2) ((rd_T61 x0 x4).f3)).bind fun t229 => (if (x3 ++ (⟨#[59, 32]⟩ : ByteArray)).size + t229.size ≤ 9223372036854775807 then (spec_l4Names.l0 k x0 ((x3 ++ (⟨#[59, 32]⟩ : ByteArray)) ++ t229) (wrap64 (x4 + 1))) else (none))) else (none)) else (none)) else (if 0 ≤ x4 then ((spec_l2Inverse.f k ((rd_T61 x0 x4).f0) ((rd_T61 x0 x4).f1) ((rd_T61 x0 x4).f2) ((rd_T61 x0 x4).f3)).bind fun t231 => (if x3.size + t231.size ≤ 9223372036854775807 then (spec_l4Names.l0 k x0 (x3 ++ t231) (wrap64 (x4 + 1))) else (none))) else (none))) else (some x3)
def spec_l4Names.f (k : Nat) (l0 : List (S61)) : Option (ByteArray) := spec_l4Names.l0 k l0 (⟨#[]⟩ : ByteArray) 0
theorem spec_l4Names.mono_l : ∀ k, (∀ y0 y1 y2, LeO (spec_l4Names.l0 k y0 y1 y2) (spec_l4Names.l0 (k + 1) y0 y1 y2))
 | 0 => fun _ _ _ r h => by simp [spec_l4Names.l0] at h
 | k + 1 => by
  have ih0 := spec_l4Names.mono_l k
  ·intro y0 y1 y2
   unfold spec_l4Names.l0
   repeat' with_reducible first
   | exact ih0 _ _ _
   | exact spec_l2Inverse.mono _ _ _ _ _
   | exact LeO.refl _
   | exact LeO.none _
   | refine LeO.ite ?_ ?_
   | refine LeO.bind ?_ (fun _ => ?_)
theorem spec_l4Names.mono : ∀ a0 k, LeO (spec_l4Names.f k a0) (spec_l4Names.f (k + 1) a0) := by
 intro a0 k;have ih0 := spec_l4Names.mono_l k;unfold spec_l4Names.f
 repeat' with_reducible first
   | exact ih0 _ _ _
   | exact spec_l2Inverse.mono _ _ _ _ _
   | exact LeO.refl _
   | exact LeO.none _
   | refine LeO.ite ?_ ?_
   | refine LeO.bind ?_ (fun _ => ?_)
theorem spec_l4Names.calls (k : Nat) (A0 : Option Addr) (c0 : Nat) (l0 : List (S61)) (r : ByteArray) (w : World) (hr0 : Kd.C k61 w A0 l0.length l0) (hc0 : l0.length ≤ c0) (h : spec_l4Names.f k l0 = some r) :
  Calls Tryz.prog 53 #[.slice A0 l0.length c0] w fun e w' => e = .returned (.string r) ∧ Below w.heap.size w w' := by
 have hu61 := Tryz.underlying61;have HR0 := AM hr0;have HC0 := AM hc0;clear hr0 hc0;have HB := AM (Below.refl w.heap.size w);have H := h;unfold spec_l4Names.f at H;clear h;have H' := AM H;clear H;(go_enter Tryz.func53, Tryz.ntmps53);(go_wp2);(go_loopg [3, 4] k (fun kq v3 v4 w' => ∃ (x3_1 : ByteArray) (x4_1 : Int), v3 = .string x3_1 ∧ v4 = .int .i64 x4_1 ∧ Aside0 (spec_l4Names.l0 kq l0 x3_1 x4_1 = some r) ∧ Aside0 (kq ≤ k) ∧ Aside0 (Below w.heap.size w w')))
 case atStart => exact ⟨((⟨#[]⟩ : ByteArray)), (0), (by first | rfl | (simp; done) | (simp [*]; done)), (by first | rfl | (simp; done) | (simp [*]; done)), H', ⟨Nat.le_refl _⟩, ⟨by with_reducible repeat first | exact HB.out | apply pA | apply pN | apply p1⟩⟩
 case round =>
  clear H';obtain ⟨x3_1, x4_1, rfl, rfl, HA, HK1, HB⟩ := hrel
  cases gk with
  | zero => exact absurd HA.out (by simp [spec_l4Names.l0])
  | succ k1 =>
   have H := HA.out;clear HA;simp only [spec_l4Names.l0] at H;by_cases c2 : x4_1 < (l0.length : Int)
   ·rw [if_pos c2] at H
    have c2b0 : decide (x4_1 < (l0.length : Int)) = true := dT c2;clear c2;by_cases c3 : x4_1 > 0
    ·rw [if_pos c3] at H
     have c3b0 : decide (0 < x4_1) = true := dT c3;clear c3;by_cases c4 : x3_1.size + 2 ≤ 9223372036854775807
     ·rw [if_pos c4] at H
      have c4b0 := eq_true c4;have c4b1 : decide (x3_1.size + 2 ≤ 9223372036854775807) = true := dT c4;(try have c4b2 : (9223372036854775807 < x3_1.size + 2) = False := eq_false (Nat.not_lt.2 c4));by_cases c5 : 0 ≤ x4_1
      ·rw [if_pos c5] at H
       have c5b0 : decide (0 ≤ x4_1) = true := dT c5;clear c5;replace H := oB.mp H;obtain ⟨t229, A60, H⟩ := H;(try dsimp only at H);have A6 := AM A60;clear A60;by_cases c7 : (x3_1 ++ (⟨#[59, 32]⟩ : ByteArray)).size + t229.size ≤ 9223372036854775807
       ·rw [if_pos c7] at H
        have c7b0 := eq_true c7;have c7b1 : decide ((x3_1 ++ (⟨#[59, 32]⟩ : ByteArray)).size + t229.size ≤ 9223372036854775807) = true := dT c7;(try have c7b2 : (9223372036854775807 < (x3_1 ++ (⟨#[59, 32]⟩ : ByteArray)).size + t229.size) = False := eq_false (Nat.not_lt.2 c7));(try have c7b3 : (9223372036854775807 < x3_1.size + 2 + t229.size) = False := eq_false (by have h_ := c7; simp only [ByteArray.size_append, ByteArray.size_extract] at h_; (try simp only [show (⟨#[59, 32]⟩ : ByteArray).size = 2 from rfl] at h_); (try have q0_ := of_eq_true c2b0); (try have q1_ := of_eq_true c3b0); (try have q2_ := of_eq_true c4b0); (try have q5_ := of_eq_true c5b0); omega));have H' := AM H;clear H;have p228 : 0 ≤ (x4_1 : Int) := oD (by assumption);have q228 : x4_1 < (l0.length : Int) := oD (by assumption);obtain ⟨ad228, A228_0, c228_0, e228, hx228_0, hx228_1, hx228_2, hx228_3, hl228_0, hi228_0⟩ := at_T61 HR0.out x4_1 p228 q228;cases e228;replace hx228_0 := (HB.out.cell (World.block_lt_of_cell? w _ hx228_0)).trans hx228_0;replace hx228_1 := (HB.out.cell (World.block_lt_of_cell? w _ hx228_1)).trans hx228_1;replace hx228_2 := (HB.out.cell (World.block_lt_of_cell? w _ hx228_2)).trans hx228_2;replace hx228_3 := (HB.out.cell (World.block_lt_of_cell? w _ hx228_3)).trans hx228_3;have HR228_0 := AM hi228_0;have HC228_0 := AM hl228_0;clear hi228_0 hl228_0;replace p228 := eq_true p228;replace q228 := eq_true q228
        go_wp2_with (first | ((with_reducible refine gC (f := 76) rfl ?_); refine goesL_ (some 20) rfl rfl Tryz.func76 (by kernel_rfl) rfl #[.agg #[.slice A228_0 ((rd_T61 l0 x4_1).f0).length c228_0, .string ((rd_T61 l0 x4_1).f1), .string ((rd_T61 l0 x4_1).f2), .string ((rd_T61 l0 x4_1).f3)]] rfl (by (try simp only [mT, mC, mN]); try rfl) ?_; (with_reducible refine (spec_l2Inverse.calls k1 _ _ ((rd_T61 l0 x4_1).f0) ((rd_T61 l0 x4_1).f1) ((rd_T61 l0 x4_1).f2) ((rd_T61 l0 x4_1).f3) t229 _ ?side1 ?side2 A6.out).mono ?_); (case side1 => repeat first | exact (cB HR228_0.out HB.out) | with_reducible first | apply cA | apply cN | apply cD); (case side2 => exact HC228_0.out); rintro e w8 ⟨rfl, hb⟩; refine ⟨_, rfl, ?_⟩; replace HB := AM (bS (by with_reducible repeat first | exact HB.out | apply pA | apply pN | apply p1) hb); (try clear hb)))
        go_roundg k1
        case measure => have := HK1.out; omega
        case rel => exact ⟨((x3_1 ++ (⟨#[59, 32]⟩ : ByteArray)) ++ t229), (wrap64 (x4_1 + 1)), (by first | rfl | (simp; done) | (simp [*]; done)), (by first | rfl | (simp; done) | (simp [*]; done)), H', ⟨by have := HK1.out; omega⟩, ⟨by with_reducible repeat first | exact HB.out | apply pA | apply pN | apply p1⟩⟩
       ·rw [if_neg c7] at H
        exact absurd H (by simp)
      ·rw [if_neg c5] at H
       exact absurd H (by simp)
     ·rw [if_neg c4] at H
      exact absurd H (by simp)
    ·rw [if_neg c3] at H
     have c3b0 : decide (0 < x4_1) = false := dF c3;clear c3;by_cases c9 : 0 ≤ x4_1
     ·rw [if_pos c9] at H
      have c9b0 : decide (0 ≤ x4_1) = true := dT c9;clear c9;replace H := oB.mp H;obtain ⟨t231, A100, H⟩ := H;(try dsimp only at H);have A10 := AM A100;clear A100;by_cases c11 : x3_1.size + t231.size ≤ 9223372036854775807
      ·rw [if_pos c11] at H
       have c11b0 := eq_true c11;have c11b1 : decide (x3_1.size + t231.size ≤ 9223372036854775807) = true := dT c11;(try have c11b2 : (9223372036854775807 < x3_1.size + t231.size) = False := eq_false (Nat.not_lt.2 c11));have H' := AM H;clear H;have p230 : 0 ≤ (x4_1 : Int) := oD (by assumption);have q230 : x4_1 < (l0.length : Int) := oD (by assumption);obtain ⟨ad230, A230_0, c230_0, e230, hx230_0, hx230_1, hx230_2, hx230_3, hl230_0, hi230_0⟩ := at_T61 HR0.out x4_1 p230 q230;cases e230;replace hx230_0 := (HB.out.cell (World.block_lt_of_cell? w _ hx230_0)).trans hx230_0;replace hx230_1 := (HB.out.cell (World.block_lt_of_cell? w _ hx230_1)).trans hx230_1;replace hx230_2 := (HB.out.cell (World.block_lt_of_cell? w _ hx230_2)).trans hx230_2;replace hx230_3 := (HB.out.cell (World.block_lt_of_cell? w _ hx230_3)).trans hx230_3;have HR230_0 := AM hi230_0;have HC230_0 := AM hl230_0;clear hi230_0 hl230_0;replace p230 := eq_true p230;replace q230 := eq_true q230
       go_wp2_with (first | ((with_reducible refine gC (f := 76) rfl ?_); refine goesL_ (some 20) rfl rfl Tryz.func76 (by kernel_rfl) rfl #[.agg #[.slice A230_0 ((rd_T61 l0 x4_1).f0).length c230_0, .string ((rd_T61 l0 x4_1).f1), .string ((rd_T61 l0 x4_1).f2), .string ((rd_T61 l0 x4_1).f3)]] rfl (by (try simp only [mT, mC, mN]); try rfl) ?_; (with_reducible refine (spec_l2Inverse.calls k1 _ _ ((rd_T61 l0 x4_1).f0) ((rd_T61 l0 x4_1).f1) ((rd_T61 l0 x4_1).f2) ((rd_T61 l0 x4_1).f3) t231 _ ?side1 ?side2 A10.out).mono ?_); (case side1 => repeat first | exact (cB HR230_0.out HB.out) | with_reducible first | apply cA | apply cN | apply cD); (case side2 => exact HC230_0.out); rintro e w12 ⟨rfl, hb⟩; refine ⟨_, rfl, ?_⟩; replace HB := AM (bS (by with_reducible repeat first | exact HB.out | apply pA | apply pN | apply p1) hb); (try clear hb)))
       go_roundg k1
       case measure => have := HK1.out; omega
       case rel => exact ⟨(x3_1 ++ t231), (wrap64 (x4_1 + 1)), (by first | rfl | (simp; done) | (simp [*]; done)), (by first | rfl | (simp; done) | (simp [*]; done)), H', ⟨by have := HK1.out; omega⟩, ⟨by with_reducible repeat first | exact HB.out | apply pA | apply pN | apply p1⟩⟩
      ·rw [if_neg c11] at H
       exact absurd H (by simp)
     ·rw [if_neg c9] at H
      exact absurd H (by simp)
   ·rw [if_neg c2] at H
    have c2b0 : decide (x4_1 < (l0.length : Int)) = false := dF c2;clear c2;obtain rfl := oI H;(go_wp2);(go_ret);exact ⟨rfl, by with_reducible repeat first | exact HB.out | apply pA | apply pN | apply p1⟩
/-! ### spec_l3Pad: function 77 -/
def spec_l3Pad.l0 : Nat → Int → ByteArray → Option (ByteArray)
 | 0, _, _ => none
 | k + 1, x1, x5 => if (x5.size : Int) < x1 then (if 1 + x5.size ≤ 9223372036854775807 then (spec_l3Pad.l0 k x1 ((⟨#[48]⟩ : ByteArray) ++ x5)) else (none)) else (some x5)
def spec_l3Pad.f (k : Nat) (a0 : Int) (a1 : Int) : Option (ByteArray) := (spec_l1Num.f k a0).bind fun t232 => (spec_l3Pad.l0 k a1 t232)
theorem spec_l3Pad.mono_l : ∀ k, (∀ y0 y1, LeO (spec_l3Pad.l0 k y0 y1) (spec_l3Pad.l0 (k + 1) y0 y1))
 | 0 => fun _ _ r h => by simp [spec_l3Pad.l0] at h
 | k + 1 => by
  have ih0 := spec_l3Pad.mono_l k
  ·intro y0 y1
   unfold spec_l3Pad.l0
   repeat' with_reducible first
   | exact ih0 _ _
   | exact spec_l1Num.mono _ _
   | exact LeO.refl _
   | exact LeO.none _
   | refine LeO.ite ?_ ?_
   | refine LeO.bind ?_ (fun _ => ?_)
theorem spec_l3Pad.mono : ∀ a0 a1 k, LeO (spec_l3Pad.f k a0 a1) (spec_l3Pad.f (k + 1) a0 a1) := by
 intro a0 a1 k;have ih0 := spec_l3Pad.mono_l k;unfold spec_l3Pad.f
 repeat' with_reducible first
   | exact ih0 _ _
   | exact spec_l1Num.mono _ _
   | exact LeO.refl _
   | exact LeO.none _
   | refine LeO.ite ?_ ?_
   | refine LeO.bind ?_ (fun _ => ?_)
theorem spec_l3Pad.calls (k : Nat) (a0 : Int) (a1 : Int) (r : ByteArray) (w : World) (h : spec_l3Pad.f k a0 a1 = some r) :
  Calls Tryz.prog 77 #[.int .i64 a0, .int .i64 a1] w fun e w' => e = .returned (.string r) ∧ Below w.heap.size w w' := by
 have HB := AM (Below.refl w.heap.size w);have H := h;unfold spec_l3Pad.f at H;clear h;replace H := oB.mp H;obtain ⟨t232, A30, H⟩ := H;(try dsimp only at H);have A3 := AM A30;clear A30;have H' := AM H;clear H;(go_enter Tryz.func77, Tryz.ntmps77)
 go_wp2_with (first | ((with_reducible refine gC (f := 51) rfl ?_); refine goesL_ (some 7) rfl rfl Tryz.func51 (by kernel_rfl) rfl #[.int .i64 a0] rfl (by (try simp only [mT, mC, mN]); try rfl) ?_; (with_reducible refine (spec_l1Num.calls k a0 t232 _ A3.out).mono ?_); rintro e w4 ⟨rfl, hb⟩; refine ⟨_, rfl, ?_⟩; replace HB := AM (bS (by with_reducible repeat first | exact HB.out | apply pA | apply pN | apply p1) hb); (try clear hb)))
 go_loopg [5] k (fun kq v5 w' => ∃ (x5_1 : ByteArray), v5 = .string x5_1 ∧ Aside0 (spec_l3Pad.l0 kq a1 x5_1 = some r) ∧ Aside0 (kq ≤ k) ∧ Aside0 (Below w.heap.size w w'))
 case atStart => exact ⟨(t232), (by first | rfl | (simp; done) | (simp [*]; done)), H', ⟨Nat.le_refl _⟩, ⟨by with_reducible repeat first | exact HB.out | apply pA | apply pN | apply p1⟩⟩
 case round =>
  clear H';(try clear p2);obtain ⟨x5_1, rfl, HA, HK1, HB⟩ := hrel
  cases gk with
  | zero => exact absurd HA.out (by simp [spec_l3Pad.l0])
  | succ k1 =>
   have H := HA.out;clear HA;simp only [spec_l3Pad.l0] at H;by_cases c5 : (x5_1.size : Int) < a1
   ·rw [if_pos c5] at H
    have c5b0 : decide ((x5_1.size : Int) < a1) = true := dT c5;clear c5;by_cases c6 : 1 + x5_1.size ≤ 9223372036854775807
    ·rw [if_pos c6] at H
     have c6b0 := eq_true c6;have c6b1 : decide (1 + x5_1.size ≤ 9223372036854775807) = true := dT c6;(try have c6b2 : (9223372036854775807 < 1 + x5_1.size) = False := eq_false (Nat.not_lt.2 c6));have H' := AM H;clear H;(go_wp2);(go_roundg k1)
     case measure => have := HK1.out; omega
     case rel => exact ⟨((⟨#[48]⟩ : ByteArray) ++ x5_1), (by first | rfl | (simp; done) | (simp [*]; done)), H', ⟨by have := HK1.out; omega⟩, ⟨by with_reducible repeat first | exact HB.out | apply pA | apply pN | apply p1⟩⟩
    ·rw [if_neg c6] at H
     exact absurd H (by simp)
   ·rw [if_neg c5] at H
    have c5b0 : decide ((x5_1.size : Int) < a1) = false := dF c5;clear c5;obtain rfl := oI H;(go_wp2);(go_ret);exact ⟨rfl, by with_reducible repeat first | exact HB.out | apply pA | apply pN | apply p1⟩
/-! ### spec_l3Text: function 54 -/
def spec_l3Text.j0 : Nat → ByteArray → Int → Int → Int → Bool → Option (ByteArray)
 | 0, _, _, _, _, _ => none
 | k + 1, x3, x234000, x234001, x234002, x234003 => if x234002 > 0 then (if x3.size + 1 ≤ 9223372036854775807 then ((spec_l3Pad.f k x234002 2).bind fun t236 => (if (x3 ++ (⟨#[45]⟩ : ByteArray)).size + t236.size ≤ 9223372036854775807 then (if x234003 = true then (if 1 + ((x3 ++ (⟨#[45]⟩ : ByteArray)) ++ t236).size ≤ 9223372036854775807 then (some ((⟨#[99]⟩ : ByteArray) ++ ((x3 ++ (⟨#[45]⟩ : ByteArray)) ++ t236))) else (none)) else (some ((x3 ++ (⟨#[45]⟩ : ByteArray)) ++ t236))) else (none))) else (none)) else (if x234003 = true then (if 1 + x3.size ≤ 9223372036854775807 then (some ((⟨#[99]⟩ : ByteArray) ++ x3)) else (none)) else (some x3))
def spec_l3Text.f (k : Nat) (a0_0 : Int) (a0_1 : Int) (a0_2 : Int) (a0_3 : Bool) : Option (ByteArray) := if a0_0 = 0 then (some (⟨#[117, 110, 107, 110, 111, 119, 110]⟩ : ByteArray)) else ((spec_l3Pad.f k a0_0 4).bind fun t234 => (if a0_1 > 0 then (if t234.size + 1 ≤ 9223372036854775807 then ((spec_l3Pad.f k a0_1 2).bind fun t235 => (if (t234 ++ (⟨#[45]⟩ : ByteArray)).size + t235.size ≤ 9223372036854775807 then (spec_l3Text.j0 k ((t234 ++ (⟨#[45]⟩ : ByteArray)) ++ t235) a0_0 a0_1 a0_2 a0_3) else (none))) else (none)) else (spec_l3Text.j0 k t234 a0_0 a0_1 a0_2 a0_3)))
theorem spec_l3Text.mono_l : ∀ k, (∀ y0 y1 y2 y3 y4, LeO (spec_l3Text.j0 k y0 y1 y2 y3 y4) (spec_l3Text.j0 (k + 1) y0 y1 y2 y3 y4))
 | 0 => fun _ _ _ _ _ r h => by simp [spec_l3Text.j0] at h
 | k + 1 => by
  have ih0 := spec_l3Text.mono_l k
  ·intro y0 y1 y2 y3 y4
   unfold spec_l3Text.j0
   repeat' with_reducible first
   | exact ih0 _ _ _ _ _
   | exact spec_l3Pad.mono _ _ _
   | exact LeO.refl _
   | exact LeO.none _
   | refine LeO.ite ?_ ?_
   | refine LeO.bind ?_ (fun _ => ?_)
theorem spec_l3Text.mono : ∀ a0 a1 a2 a3 k, LeO (spec_l3Text.f k a0 a1 a2 a3) (spec_l3Text.f (k + 1) a0 a1 a2 a3) := by
 intro a0 a1 a2 a3 k;have ih0 := spec_l3Text.mono_l k;unfold spec_l3Text.f
 repeat' with_reducible first
   | exact ih0 _ _ _ _ _
   | exact spec_l3Pad.mono _ _ _
   | exact LeO.refl _
   | exact LeO.none _
   | refine LeO.ite ?_ ?_
   | refine LeO.bind ?_ (fun _ => ?_)
theorem spec_l3Text.calls (k : Nat) (a0_0 : Int) (a0_1 : Int) (a0_2 : Int) (a0_3 : Bool) (r : ByteArray) (w : World) (h : spec_l3Text.f k a0_0 a0_1 a0_2 a0_3 = some r) :
  Calls Tryz.prog 54 #[.agg #[.int .i64 a0_0, .int .i64 a0_1, .int .i64 a0_2, .bool a0_3]] w fun e w' => e = .returned (.string r) ∧ Below w.heap.size w w' := by
 have hu31 := Tryz.underlying31;have HB := AM (Below.refl w.heap.size w);have H := h;unfold spec_l3Text.f at H;clear h;have HC2 := AM H;clear H;(go_enter Tryz.func54, Tryz.ntmps54)
 go_upto_if 6 with (first | ((with_reducible refine gate_dst (N := 1) rfl ?_); refine box_event ?hg (N := 1) ?hd (cs := #[.int .i64 a0_0, .int .i64 a0_1, .int .i64 a0_2, .bool a0_3]) (t := 31) ?hr ?_; (case hd => rfl); (case hg => rfl); (case hr => first | (go_simp; done) | (go_simp; rfl)); intro gb233 hg w3 hbox hb; have BK233 := AM (hbox); have GW233 := AM ((by rw [hg]; exact (below_size (by with_reducible repeat first | exact HB.out | apply pA | apply pN | apply p1)) : w.heap.size ≤ gb233)); have GE233 := AM ((by rw [hg]; exact (below_size (by with_reducible repeat first | exact HB.out | apply pA | apply pN | apply p1)) : w.heap.size ≤ gb233)); replace HB := AM (bS (by with_reducible repeat first | exact HB.out | apply pA | apply pN | apply p1) hb); clear hb hbox hg; obtain ⟨z4_0, z4_1, z4_2, z4_3⟩ := cells4 BK233.out))
 have H := HC2.out;clear HC2;by_cases c5 : a0_0 = 0;(·rw [if_pos c5] at H;have c5b0 : (a0_0 == 0) = true := beq_iff_eq.mpr c5;have c5b1 : (a0_0 != 0) = false := bne_eq_false_iff_eq.mpr c5;clear c5;(first | rw [c5b0] | rw [c5b1] | rw [c5b2] | (simp only [i64_w, i32_w]; rw [c5b0]) | skip);obtain rfl := oI H;(go_wp2);(go_ret);exact ⟨rfl, by with_reducible repeat first | exact HB.out | apply pA | apply pN | apply p1 | refine pS ?_ GE233.out⟩)
 ·rw [if_neg c5] at H
  have c5b0 : (a0_0 == 0) = false := beq_eq_false_iff_ne.mpr c5;have c5b1 : (a0_0 != 0) = true := bne_iff_ne.mpr c5;(first | rw [c5b0] | rw [c5b1] | rw [c5b2] | (simp only [i64_w, i32_w]; rw [c5b0]) | skip);replace H := oB.mp H;obtain ⟨t234, A60, H⟩ := H;(try dsimp only at H);have A6 := AM A60;clear A60;have HC7 := AM H;clear H;obtain ⟨z8_0, z8_1, z8_2, z8_3⟩ := cells4 BK233.out
  go_upto_if 12 with (first | ((with_reducible refine gC (f := 77) rfl ?_); refine gL (some 9) rfl rfl Tryz.func77 (by kernel_rfl) rfl #[.int .i64 a0_0, .int .i64 4] rfl (by (try simp only [mT, mC, mN]); try rfl) ?_; (with_reducible refine (spec_l3Pad.calls k a0_0 4 t234 _ A6.out).mono ?_); rintro e w9 ⟨rfl, hb⟩; refine ⟨_, rfl, ?_⟩; replace BK233 := AM (bB (by (with_reducible repeat first | apply bN | apply bW | apply bL); exact BK233.out) hb); replace HB := AM (bS (by with_reducible repeat first | exact HB.out | apply pA | apply pN | apply p1 | refine pS ?_ GE233.out) hb); (try clear hb); obtain ⟨z10_0, z10_1, z10_2, z10_3⟩ := cells4 BK233.out))
  (try simp only [Act.put, List.setIfInBounds_toArray, List.set_cons_zero, List.set_cons_succ]);(go_cut [3] (fun v3 wc => ∃ (kq : Nat) (x3_6 : ByteArray), v3 = .string x3_6 ∧ Aside0 (spec_l3Text.j0 kq x3_6 a0_0 a0_1 a0_2 a0_3 = some r) ∧ Aside0 (kq ≤ k) ∧ Aside0 (wc.heap[gb233]? = some (.cells #[.int .i64 a0_0, .int .i64 a0_1, .int .i64 a0_2, .bool a0_3] 31 (0, 0))) ∧ Aside0 (Below w.heap.size w wc)))
  case first =>
   have H := HC7.out;clear HC7;by_cases c11 : a0_1 > 0
   ·rw [if_pos c11] at H
    have c11b0 : decide (0 < a0_1) = true := dT c11;clear c11;(first | rw [c11b0] | rw [c11b1] | rw [c11b2] | (simp only [i64_w, i32_w]; rw [c11b0]) | skip);by_cases c12 : t234.size + 1 ≤ 9223372036854775807
    ·rw [if_pos c12] at H
     have c12b0 := eq_true c12;have c12b1 : decide (t234.size + 1 ≤ 9223372036854775807) = true := dT c12;(try have c12b2 : (9223372036854775807 < t234.size + 1) = False := eq_false (Nat.not_lt.2 c12));replace H := oB.mp H;obtain ⟨t235, A130, H⟩ := H;(try dsimp only at H);have A13 := AM A130;clear A130;by_cases c14 : (t234 ++ (⟨#[45]⟩ : ByteArray)).size + t235.size ≤ 9223372036854775807
     ·rw [if_pos c14] at H
      have c14b0 := eq_true c14;have c14b1 : decide ((t234 ++ (⟨#[45]⟩ : ByteArray)).size + t235.size ≤ 9223372036854775807) = true := dT c14;(try have c14b2 : (9223372036854775807 < (t234 ++ (⟨#[45]⟩ : ByteArray)).size + t235.size) = False := eq_false (Nat.not_lt.2 c14));(try have c14b3 : (9223372036854775807 < t234.size + 1 + t235.size) = False := eq_false (by have h_ := c14; simp only [ByteArray.size_append, ByteArray.size_extract] at h_; (try simp only [show (⟨#[45]⟩ : ByteArray).size = 1 from rfl] at h_); (try have q0_ := of_eq_true c5b0); (try have q2_ := of_eq_true c11b0); (try have q3_ := of_eq_true c12b0); omega));have H' := AM H;clear H;obtain ⟨z15_0, z15_1, z15_2, z15_3⟩ := cells4 BK233.out
      go_wp2_with (first | ((with_reducible refine gC (f := 77) rfl ?_); refine gL (some 17) rfl rfl Tryz.func77 (by kernel_rfl) rfl #[.int .i64 a0_1, .int .i64 2] rfl (by (try simp only [mT, mC, mN]); try rfl) ?_; (with_reducible refine (spec_l3Pad.calls k a0_1 2 t235 _ A13.out).mono ?_); rintro e w16 ⟨rfl, hb⟩; refine ⟨_, rfl, ?_⟩; replace BK233 := AM (bB (by (with_reducible repeat first | apply bN | apply bW | apply bL); exact BK233.out) hb); replace HB := AM (bS (by with_reducible repeat first | exact HB.out | apply pA | apply pN | apply p1 | refine pS ?_ GE233.out) hb); (try clear hb)))
      go_meet
      case rel => exact ⟨_, ((t234 ++ (⟨#[45]⟩ : ByteArray)) ++ t235), (by first | rfl | (simp; done) | (simp [*]; done)), H', ⟨by first | omega | exact Nat.le_refl _⟩, ⟨by (with_reducible repeat (first | refine bN ?_ _ | refine bW ?_ | refine bL ?_ _)); exact BK233.out⟩, ⟨by with_reducible repeat first | exact HB.out | apply pA | apply pN | apply p1 | refine pS ?_ GE233.out⟩⟩
     ·rw [if_neg c14] at H
      exact absurd H (by simp)
    ·rw [if_neg c12] at H
     exact absurd H (by simp)
   ·rw [if_neg c11] at H
    have c11b0 : decide (0 < a0_1) = false := dF c11;clear c11;(first | rw [c11b0] | rw [c11b1] | rw [c11b2] | (simp only [i64_w, i32_w]; rw [c11b0]) | skip);have H' := AM H;clear H;(go_wp2);(go_meet)
    case rel => exact ⟨_, (t234), (by first | rfl | (simp; done) | (simp [*]; done)), H', ⟨by first | omega | exact Nat.le_refl _⟩, ⟨by (with_reducible repeat (first | refine bN ?_ _ | refine bW ?_ | refine bL ?_ _)); exact BK233.out⟩, ⟨by with_reducible repeat first | exact HB.out | apply pA | apply pN | apply p1 | refine pS ?_ GE233.out⟩⟩
  case rest =>
   clear HC7;(try clear c1);(try clear p2);(try clear q2);(try clear q3);(try clear c5);(try clear c5b0);(try clear c5b1);(try clear c5b2);(try clear c7);(try clear c11);(try clear c11b0);(try clear c11b1);(try clear c11b2);(try clear c12);(try clear c12b0);(try clear c12b1);(try clear c12b2);(try clear c14);(try clear c14b0);(try clear c14b1);(try clear c14b2);(try clear z10_0);(try clear z10_1);(try clear z10_2);(try clear z10_3);(try clear z15_0);(try clear z15_1);(try clear z15_2);(try clear z15_3);(try clear z4_0);(try clear z4_1);(try clear z4_2);(try clear z4_3);(try clear z8_0);(try clear z8_1);(try clear z8_2);(try clear z8_3);obtain ⟨kq, x3_6, rfl, HA, HJ6, BK233, HB⟩ := hcut
   cases kq with
   | zero => exact absurd HA.out (by simp [spec_l3Text.j0])
   | succ kj6 =>
    have H := HA.out;clear HA;simp only [spec_l3Text.j0] at H;by_cases c17 : a0_2 > 0
    ·rw [if_pos c17] at H
     have c17b0 : decide (0 < a0_2) = true := dT c17;clear c17;by_cases c18 : x3_6.size + 1 ≤ 9223372036854775807
     ·rw [if_pos c18] at H
      have c18b0 := eq_true c18;have c18b1 : decide (x3_6.size + 1 ≤ 9223372036854775807) = true := dT c18;(try have c18b2 : (9223372036854775807 < x3_6.size + 1) = False := eq_false (Nat.not_lt.2 c18));replace H := oB.mp H;obtain ⟨t236, A190, H⟩ := H;(try dsimp only at H);have A19 := AM A190;clear A190;by_cases c20 : (x3_6 ++ (⟨#[45]⟩ : ByteArray)).size + t236.size ≤ 9223372036854775807
      ·rw [if_pos c20] at H
       have c20b0 := eq_true c20;have c20b1 : decide ((x3_6 ++ (⟨#[45]⟩ : ByteArray)).size + t236.size ≤ 9223372036854775807) = true := dT c20;(try have c20b2 : (9223372036854775807 < (x3_6 ++ (⟨#[45]⟩ : ByteArray)).size + t236.size) = False := eq_false (Nat.not_lt.2 c20));(try have c20b3 : (9223372036854775807 < x3_6.size + 1 + t236.size) = False := eq_false (by have h_ := c20; simp only [ByteArray.size_append, ByteArray.size_extract] at h_; (try simp only [show (⟨#[45]⟩ : ByteArray).size = 1 from rfl] at h_); (try have q0_ := of_eq_true c5b0); (try have q2_ := of_eq_true c17b0); (try have q3_ := of_eq_true c18b0); omega));by_cases c21 : a0_3 = true
       ·subst c21
        rw [if_pos rfl] at H;by_cases c22 : 1 + ((x3_6 ++ (⟨#[45]⟩ : ByteArray)) ++ t236).size ≤ 9223372036854775807
        ·rw [if_pos c22] at H
         have c22b0 := eq_true c22;have c22b1 : decide (1 + ((x3_6 ++ (⟨#[45]⟩ : ByteArray)) ++ t236).size ≤ 9223372036854775807) = true := dT c22;(try have c22b2 : (9223372036854775807 < 1 + ((x3_6 ++ (⟨#[45]⟩ : ByteArray)) ++ t236).size) = False := eq_false (Nat.not_lt.2 c22));(try have c22b3 : (9223372036854775807 < 1 + (x3_6.size + 1 + t236.size)) = False := eq_false (by have h_ := c22; simp only [ByteArray.size_append, ByteArray.size_extract] at h_; (try simp only [show (⟨#[45]⟩ : ByteArray).size = 1 from rfl] at h_); (try have q0_ := of_eq_true c5b0); (try have q2_ := of_eq_true c17b0); (try have q3_ := of_eq_true c18b0); (try have q6_ := of_eq_true c20b0); omega));obtain rfl := oI H;obtain ⟨z23_0, z23_1, z23_2, z23_3⟩ := cells4 BK233.out
         go_wp2_with (first | ((with_reducible refine gC (f := 77) rfl ?_); refine gL (some 26) rfl rfl Tryz.func77 (by kernel_rfl) rfl #[.int .i64 a0_2, .int .i64 2] rfl (by (try simp only [mT, mC, mN]); try rfl) ?_; (with_reducible refine (spec_l3Pad.calls kj6 a0_2 2 t236 _ A19.out).mono ?_); rintro e w24 ⟨rfl, hb⟩; refine ⟨_, rfl, ?_⟩; replace BK233 := AM (bB (by (with_reducible repeat first | apply bN | apply bW | apply bL); exact BK233.out) hb); replace HB := AM (bS (by with_reducible repeat first | exact HB.out | apply pA | apply pN | apply p1 | refine pS ?_ GE233.out) hb); (try clear hb); obtain ⟨z25_0, z25_1, z25_2, z25_3⟩ := cells4 BK233.out))
         (go_ret);exact ⟨rfl, by with_reducible repeat first | exact HB.out | apply pA | apply pN | apply p1 | refine pS ?_ GE233.out⟩
        ·rw [if_neg c22] at H
         exact absurd H (by simp)
       ·replace c21 := bE.mpr c21
        subst c21;rw [if_neg (show ¬ (false = true) by decide)] at H;obtain rfl := oI H;obtain ⟨z26_0, z26_1, z26_2, z26_3⟩ := cells4 BK233.out
        go_wp2_with (first | ((with_reducible refine gC (f := 77) rfl ?_); refine gL (some 26) rfl rfl Tryz.func77 (by kernel_rfl) rfl #[.int .i64 a0_2, .int .i64 2] rfl (by (try simp only [mT, mC, mN]); try rfl) ?_; (with_reducible refine (spec_l3Pad.calls kj6 a0_2 2 t236 _ A19.out).mono ?_); rintro e w27 ⟨rfl, hb⟩; refine ⟨_, rfl, ?_⟩; replace BK233 := AM (bB (by (with_reducible repeat first | apply bN | apply bW | apply bL); exact BK233.out) hb); replace HB := AM (bS (by with_reducible repeat first | exact HB.out | apply pA | apply pN | apply p1 | refine pS ?_ GE233.out) hb); (try clear hb); obtain ⟨z28_0, z28_1, z28_2, z28_3⟩ := cells4 BK233.out))
        (go_ret);exact ⟨rfl, by with_reducible repeat first | exact HB.out | apply pA | apply pN | apply p1 | refine pS ?_ GE233.out⟩
      ·rw [if_neg c20] at H
       exact absurd H (by simp)
     ·rw [if_neg c18] at H
      exact absurd H (by simp)
    ·rw [if_neg c17] at H
     have c17b0 : decide (0 < a0_2) = false := dF c17;clear c17;by_cases c29 : a0_3 = true;(·subst c29;rw [if_pos rfl] at H;by_cases c30 : 1 + x3_6.size ≤ 9223372036854775807;(·rw [if_pos c30] at H;have c30b0 := eq_true c30;have c30b1 : decide (1 + x3_6.size ≤ 9223372036854775807) = true := dT c30;(try have c30b2 : (9223372036854775807 < 1 + x3_6.size) = False := eq_false (Nat.not_lt.2 c30));obtain rfl := oI H;obtain ⟨z31_0, z31_1, z31_2, z31_3⟩ := cells4 BK233.out;(go_wp2);(go_ret);exact ⟨rfl, by with_reducible repeat first | exact HB.out | apply pA | apply pN | apply p1 | refine pS ?_ GE233.out⟩);(·rw [if_neg c30] at H;exact absurd H (by simp)));(·replace c29 := bE.mpr c29;subst c29;rw [if_neg (show ¬ (false = true) by decide)] at H;obtain rfl := oI H;obtain ⟨z32_0, z32_1, z32_2, z32_3⟩ := cells4 BK233.out;(go_wp2);(go_ret);exact ⟨rfl, by with_reducible repeat first | exact HB.out | apply pA | apply pN | apply p1 | refine pS ?_ GE233.out⟩)
/-! ### spec_l4Field: function 32 -/
def spec_l4Field.f (k : Nat) (a0_0 : ByteArray) (a0_1 : Int) (l0_2 : List (S61)) (l0_3 : List (S61)) (a0_4 : ByteArray) (a0_5 : ByteArray) (a0_6 : ByteArray) (a0_7 : Int) (a0_8 : Int) (a0_9 : Int) (a0_10 : Bool) (a0_11 : Int) (a0_12 : ByteArray) (a0_13 : ByteArray) (a1 : ByteArray) : Option (ByteArray × Bool) := if a1.toList = ([97, 117, 116, 104, 111, 114, 115] : List UInt8) then ((spec_l4Names.f k l0_2).bind fun t238 => (some (t238, true))) else (if a1.toList = ([101, 100, 105, 116, 111, 114, 115] : List UInt8) then ((spec_l4Names.f k l0_3).bind fun t239 => (some (t239, true))) else (if a1.toList = ([116, 105, 116, 108, 101] : List UInt8) then (some (a0_4, true)) else (if a1.toList = ([99, 111, 110, 116, 97, 105, 110, 101, 114] : List UInt8) then (some (a0_5, true)) else (if a1.toList = ([112, 117, 98, 108, 105, 115, 104, 101, 114] : List UInt8) then (some (a0_6, true)) else (if a1.toList = ([112, 97, 103, 101, 115] : List UInt8) then (some (a0_12, true)) else (if a1.toList = ([100, 97, 116, 101] : List UInt8) then (if a0_7 = 0 then (some ((⟨#[]⟩ : ByteArray), true)) else ((spec_l3Text.f k a0_7 a0_8 a0_9 a0_10).bind fun t240 => (some (t240, true)))) else (if a1.toList = ([118, 111, 108, 117, 109, 101] : List UInt8) then (if a0_11 = 0 then (some ((⟨#[]⟩ : ByteArray), true)) else ((spec_l1Num.f k a0_11).bind fun t241 => (some (t241, true)))) else (some ((⟨#[]⟩ : ByteArray), false)))))))))
theorem spec_l4Field.mono : ∀ a0 a1 a2 a3 a4 a5 a6 a7 a8 a9 a10 a11 a12 a13 a14 k, LeO (spec_l4Field.f k a0 a1 a2 a3 a4 a5 a6 a7 a8 a9 a10 a11 a12 a13 a14) (spec_l4Field.f (k + 1) a0 a1 a2 a3 a4 a5 a6 a7 a8 a9 a10 a11 a12 a13 a14) := by
 intro a0 a1 a2 a3 a4 a5 a6 a7 a8 a9 a10 a11 a12 a13 a14 k;unfold spec_l4Field.f
 repeat' with_reducible first
   | exact spec_l1Num.mono _ _
   | exact spec_l3Text.mono _ _ _ _ _
   | exact spec_l4Names.mono _ _
   | exact LeO.refl _
   | exact LeO.none _
   | refine LeO.ite ?_ ?_
   | refine LeO.bind ?_ (fun _ => ?_)
theorem spec_l4Field.calls (k : Nat) (a0_0 : ByteArray) (a0_1 : Int) (A0_2 : Option Addr) (c0_2 : Nat) (l0_2 : List (S61)) (A0_3 : Option Addr) (c0_3 : Nat) (l0_3 : List (S61)) (a0_4 : ByteArray) (a0_5 : ByteArray) (a0_6 : ByteArray) (a0_7 : Int) (a0_8 : Int) (a0_9 : Int) (a0_10 : Bool) (a0_11 : Int) (a0_12 : ByteArray) (a0_13 : ByteArray) (a1 : ByteArray) (r1 : ByteArray) (r2 : Bool) (w : World) (hr0_2 : Kd.C k61 w A0_2 l0_2.length l0_2) (hc0_2 : l0_2.length ≤ c0_2) (hr0_3 : Kd.C k61 w A0_3 l0_3.length l0_3) (hc0_3 : l0_3.length ≤ c0_3) (h : spec_l4Field.f k a0_0 a0_1 l0_2 l0_3 a0_4 a0_5 a0_6 a0_7 a0_8 a0_9 a0_10 a0_11 a0_12 a0_13 a1 = some (r1, r2)) :
  Calls Tryz.prog 32 #[.agg #[.string a0_0, .int .i64 a0_1, .slice A0_2 l0_2.length c0_2, .slice A0_3 l0_3.length c0_3, .string a0_4, .string a0_5, .string a0_6, .int .i64 a0_7, .int .i64 a0_8, .int .i64 a0_9, .bool a0_10, .int .i64 a0_11, .string a0_12, .string a0_13], .string a1] w fun e w' => e = .returned (.tuple #[.string r1, .bool r2]) ∧ Below w.heap.size w w' := by
 have hu33 := Tryz.underlying33;have hu31 := Tryz.underlying31;have HR0_2 := AM hr0_2;have HC0_2 := AM hc0_2;clear hr0_2 hc0_2;have HR0_3 := AM hr0_3;have HC0_3 := AM hc0_3;clear hr0_3 hc0_3;have HB := AM (Below.refl w.heap.size w);have H := h;unfold spec_l4Field.f at H;clear h;have HC3 := AM H;clear H;(go_enter Tryz.func32, Tryz.ntmps32)
 go_upto_if 7 with (first | ((with_reducible refine gate_dst (N := 2) rfl ?_); refine box_event ?hg (N := 2) ?hd (cs := #[.string a0_0, .int .i64 a0_1, .slice A0_2 l0_2.length c0_2, .slice A0_3 l0_3.length c0_3, .string a0_4, .string a0_5, .string a0_6, .int .i64 a0_7, .int .i64 a0_8, .int .i64 a0_9, .bool a0_10, .int .i64 a0_11, .string a0_12, .string a0_13]) (t := 33) ?hr ?_; (case hd => rfl); (case hg => rfl); (case hr => first | (go_simp; done) | (go_simp; rfl)); intro gb237 hg w4 hbox hb; have BK237 := AM (hbox); have GW237 := AM ((by rw [hg]; exact (bZ (by with_reducible repeat first | exact HB.out | apply pA | apply pN | apply p1)) : w.heap.size ≤ gb237)); have GE237 := AM ((by rw [hg]; exact (bZ (by with_reducible repeat first | exact HB.out | apply pA | apply pN | apply p1)) : w.heap.size ≤ gb237)); replace HB := AM (bS (by with_reducible repeat first | exact HB.out | apply pA | apply pN | apply p1) hb); clear hb hbox hg))
 have H := HC3.out;clear HC3;by_cases c5 : a1.toList = ([97, 117, 116, 104, 111, 114, 115] : List UInt8)
 ·rw [if_pos c5] at H
  have c5b0 : (a1.toList == ([97, 117, 116, 104, 111, 114, 115] : List UInt8)) = true := beq_iff_eq.mpr c5;have c5b1 : (a1.toList != ([97, 117, 116, 104, 111, 114, 115] : List UInt8)) = false := bne_eq_false_iff_eq.mpr c5;clear c5;(first | rw [c5b0] | rw [c5b1] | rw [c5b2] | (simp only [i64_w, i32_w]; rw [c5b0]) | skip);replace H := oB.mp H;obtain ⟨t238, A60, H⟩ := H;(try dsimp only at H);have A6 := AM A60;clear A60;simp only [Option.some.injEq, Prod.mk.injEq] at H;obtain ⟨rfl, rfl⟩ := H;obtain ⟨z7_0, z7_1, z7_2, z7_3, z7_4, z7_5, z7_6, z7_7, z7_8, z7_9, z7_10, z7_11, z7_12, z7_13⟩ := cells14 BK237.out
  go_wp2_with (first | ((with_reducible refine gC (f := 53) rfl ?_); refine gL (some 11) rfl rfl Tryz.func53 (by kernel_rfl) rfl #[.slice A0_2 l0_2.length c0_2] rfl (by (try simp only [mT, mC, mN]); try rfl) ?_; (with_reducible refine (spec_l4Names.calls k _ _ l0_2 t238 _ ?side1 ?side2 A6.out).mono ?_); (case side1 => repeat first | exact (cB HR0_2.out HB.out) | with_reducible first | apply cA | apply cN | apply cD); (case side2 => exact HC0_2.out); rintro e w8 ⟨rfl, hb⟩; refine ⟨_, rfl, ?_⟩; replace BK237 := AM (bB (by (with_reducible repeat first | apply bN | apply bW | apply bL); exact BK237.out) hb); replace HB := AM (bS (by with_reducible repeat first | exact HB.out | apply pA | apply pN | apply p1 | refine pS ?_ GE237.out) hb); (try clear hb)))
  (go_ret2);exact ⟨rfl, by with_reducible repeat first | exact HB.out | apply pA | apply pN | apply p1 | refine pS ?_ GE237.out⟩
 ·rw [if_neg c5] at H
  have c5b0 : (a1.toList == ([97, 117, 116, 104, 111, 114, 115] : List UInt8)) = false := beq_eq_false_iff_ne.mpr c5;have c5b1 : (a1.toList != ([97, 117, 116, 104, 111, 114, 115] : List UInt8)) = true := bne_iff_ne.mpr c5;(first | rw [c5b0] | rw [c5b1] | rw [c5b2] | (simp only [i64_w, i32_w]; rw [c5b0]) | skip);by_cases c9 : a1.toList = ([101, 100, 105, 116, 111, 114, 115] : List UInt8)
  ·rw [if_pos c9] at H
   have c9b0 : (a1.toList == ([101, 100, 105, 116, 111, 114, 115] : List UInt8)) = true := beq_iff_eq.mpr c9;have c9b1 : (a1.toList != ([101, 100, 105, 116, 111, 114, 115] : List UInt8)) = false := bne_eq_false_iff_eq.mpr c9;clear c9;replace H := oB.mp H;obtain ⟨t239, A100, H⟩ := H;(try dsimp only at H);have A10 := AM A100;clear A100;simp only [Option.some.injEq, Prod.mk.injEq] at H;obtain ⟨rfl, rfl⟩ := H;obtain ⟨z11_0, z11_1, z11_2, z11_3, z11_4, z11_5, z11_6, z11_7, z11_8, z11_9, z11_10, z11_11, z11_12, z11_13⟩ := cells14 BK237.out
   go_wp2_with (first | ((with_reducible refine gC (f := 53) rfl ?_); refine gL (some 16) rfl rfl Tryz.func53 (by kernel_rfl) rfl #[.slice A0_3 l0_3.length c0_3] rfl (by (try simp only [mT, mC, mN]); try rfl) ?_; (with_reducible refine (spec_l4Names.calls k _ _ l0_3 t239 _ ?side1 ?side2 A10.out).mono ?_); (case side1 => repeat first | exact (cB HR0_3.out HB.out) | with_reducible first | apply cA | apply cN | apply cD); (case side2 => exact HC0_3.out); rintro e w12 ⟨rfl, hb⟩; refine ⟨_, rfl, ?_⟩; replace BK237 := AM (bB (by (with_reducible repeat first | apply bN | apply bW | apply bL); exact BK237.out) hb); replace HB := AM (bS (by with_reducible repeat first | exact HB.out | apply pA | apply pN | apply p1 | refine pS ?_ GE237.out) hb); (try clear hb)))
   (go_ret2);exact ⟨rfl, by with_reducible repeat first | exact HB.out | apply pA | apply pN | apply p1 | refine pS ?_ GE237.out⟩
  ·rw [if_neg c9] at H
   have c9b0 : (a1.toList == ([101, 100, 105, 116, 111, 114, 115] : List UInt8)) = false := beq_eq_false_iff_ne.mpr c9;have c9b1 : (a1.toList != ([101, 100, 105, 116, 111, 114, 115] : List UInt8)) = true := bne_iff_ne.mpr c9;by_cases c13 : a1.toList = ([116, 105, 116, 108, 101] : List UInt8);(·rw [if_pos c13] at H;have c13b0 : (a1.toList == ([116, 105, 116, 108, 101] : List UInt8)) = true := beq_iff_eq.mpr c13;have c13b1 : (a1.toList != ([116, 105, 116, 108, 101] : List UInt8)) = false := bne_eq_false_iff_eq.mpr c13;clear c13;simp only [Option.some.injEq, Prod.mk.injEq] at H;obtain ⟨rfl, rfl⟩ := H;obtain ⟨z14_0, z14_1, z14_2, z14_3, z14_4, z14_5, z14_6, z14_7, z14_8, z14_9, z14_10, z14_11, z14_12, z14_13⟩ := cells14 BK237.out;(go_wp2);(go_ret2);exact ⟨rfl, by with_reducible repeat first | exact HB.out | apply pA | apply pN | apply p1 | refine pS ?_ GE237.out⟩)
   ·rw [if_neg c13] at H
    have c13b0 : (a1.toList == ([116, 105, 116, 108, 101] : List UInt8)) = false := beq_eq_false_iff_ne.mpr c13;have c13b1 : (a1.toList != ([116, 105, 116, 108, 101] : List UInt8)) = true := bne_iff_ne.mpr c13;by_cases c15 : a1.toList = ([99, 111, 110, 116, 97, 105, 110, 101, 114] : List UInt8);(·rw [if_pos c15] at H;have c15b0 : (a1.toList == ([99, 111, 110, 116, 97, 105, 110, 101, 114] : List UInt8)) = true := beq_iff_eq.mpr c15;have c15b1 : (a1.toList != ([99, 111, 110, 116, 97, 105, 110, 101, 114] : List UInt8)) = false := bne_eq_false_iff_eq.mpr c15;clear c15;simp only [Option.some.injEq, Prod.mk.injEq] at H;obtain ⟨rfl, rfl⟩ := H;obtain ⟨z16_0, z16_1, z16_2, z16_3, z16_4, z16_5, z16_6, z16_7, z16_8, z16_9, z16_10, z16_11, z16_12, z16_13⟩ := cells14 BK237.out;(go_wp2);(go_ret2);exact ⟨rfl, by with_reducible repeat first | exact HB.out | apply pA | apply pN | apply p1 | refine pS ?_ GE237.out⟩)
    ·rw [if_neg c15] at H
     have c15b0 : (a1.toList == ([99, 111, 110, 116, 97, 105, 110, 101, 114] : List UInt8)) = false := beq_eq_false_iff_ne.mpr c15;have c15b1 : (a1.toList != ([99, 111, 110, 116, 97, 105, 110, 101, 114] : List UInt8)) = true := bne_iff_ne.mpr c15;by_cases c17 : a1.toList = ([112, 117, 98, 108, 105, 115, 104, 101, 114] : List UInt8);(·rw [if_pos c17] at H;have c17b0 : (a1.toList == ([112, 117, 98, 108, 105, 115, 104, 101, 114] : List UInt8)) = true := beq_iff_eq.mpr c17;have c17b1 : (a1.toList != ([112, 117, 98, 108, 105, 115, 104, 101, 114] : List UInt8)) = false := bne_eq_false_iff_eq.mpr c17;clear c17;simp only [Option.some.injEq, Prod.mk.injEq] at H;obtain ⟨rfl, rfl⟩ := H;obtain ⟨z18_0, z18_1, z18_2, z18_3, z18_4, z18_5, z18_6, z18_7, z18_8, z18_9, z18_10, z18_11, z18_12, z18_13⟩ := cells14 BK237.out;(go_wp2);(go_ret2);exact ⟨rfl, by with_reducible repeat first | exact HB.out | apply pA | apply pN | apply p1 | refine pS ?_ GE237.out⟩)
     ·rw [if_neg c17] at H
      have c17b0 : (a1.toList == ([112, 117, 98, 108, 105, 115, 104, 101, 114] : List UInt8)) = false := beq_eq_false_iff_ne.mpr c17;have c17b1 : (a1.toList != ([112, 117, 98, 108, 105, 115, 104, 101, 114] : List UInt8)) = true := bne_iff_ne.mpr c17;by_cases c19 : a1.toList = ([112, 97, 103, 101, 115] : List UInt8);(·rw [if_pos c19] at H;have c19b0 : (a1.toList == ([112, 97, 103, 101, 115] : List UInt8)) = true := beq_iff_eq.mpr c19;have c19b1 : (a1.toList != ([112, 97, 103, 101, 115] : List UInt8)) = false := bne_eq_false_iff_eq.mpr c19;clear c19;simp only [Option.some.injEq, Prod.mk.injEq] at H;obtain ⟨rfl, rfl⟩ := H;obtain ⟨z20_0, z20_1, z20_2, z20_3, z20_4, z20_5, z20_6, z20_7, z20_8, z20_9, z20_10, z20_11, z20_12, z20_13⟩ := cells14 BK237.out;(go_wp2);(go_ret2);exact ⟨rfl, by with_reducible repeat first | exact HB.out | apply pA | apply pN | apply p1 | refine pS ?_ GE237.out⟩)
      ·rw [if_neg c19] at H
       have c19b0 : (a1.toList == ([112, 97, 103, 101, 115] : List UInt8)) = false := beq_eq_false_iff_ne.mpr c19;have c19b1 : (a1.toList != ([112, 97, 103, 101, 115] : List UInt8)) = true := bne_iff_ne.mpr c19;by_cases c21 : a1.toList = ([100, 97, 116, 101] : List UInt8)
       ·rw [if_pos c21] at H
        have c21b0 : (a1.toList == ([100, 97, 116, 101] : List UInt8)) = true := beq_iff_eq.mpr c21;have c21b1 : (a1.toList != ([100, 97, 116, 101] : List UInt8)) = false := bne_eq_false_iff_eq.mpr c21;clear c21;by_cases c22 : a0_7 = 0;(·rw [if_pos c22] at H;have c22b0 : (a0_7 == 0) = true := beq_iff_eq.mpr c22;have c22b1 : (a0_7 != 0) = false := bne_eq_false_iff_eq.mpr c22;clear c22;simp only [Option.some.injEq, Prod.mk.injEq] at H;obtain ⟨rfl, rfl⟩ := H;obtain ⟨z23_0, z23_1, z23_2, z23_3, z23_4, z23_5, z23_6, z23_7, z23_8, z23_9, z23_10, z23_11, z23_12, z23_13⟩ := cells14 BK237.out;(go_wp2);(go_ret2);exact ⟨rfl, by with_reducible repeat first | exact HB.out | apply pA | apply pN | apply p1 | refine pS ?_ GE237.out⟩)
        ·rw [if_neg c22] at H
         have c22b0 : (a0_7 == 0) = false := beq_eq_false_iff_ne.mpr c22;have c22b1 : (a0_7 != 0) = true := bne_iff_ne.mpr c22;replace H := oB.mp H;obtain ⟨t240, A240, H⟩ := H;(try dsimp only at H);have A24 := AM A240;clear A240;simp only [Option.some.injEq, Prod.mk.injEq] at H;obtain ⟨rfl, rfl⟩ := H;obtain ⟨z25_0, z25_1, z25_2, z25_3, z25_4, z25_5, z25_6, z25_7, z25_8, z25_9, z25_10, z25_11, z25_12, z25_13⟩ := cells14 BK237.out
         go_wp2_with (first | ((with_reducible refine gC (f := 54) rfl ?_); refine gL (some 41) rfl rfl Tryz.func54 (by kernel_rfl) rfl #[.agg #[.int .i64 a0_7, .int .i64 a0_8, .int .i64 a0_9, .bool a0_10]] rfl (by (try simp only [mT, mC, mN]); try rfl) ?_; (with_reducible refine (spec_l3Text.calls k a0_7 a0_8 a0_9 a0_10 t240 _ A24.out).mono ?_); rintro e w26 ⟨rfl, hb⟩; refine ⟨_, rfl, ?_⟩; replace BK237 := AM (bB (by (with_reducible repeat first | apply bN | apply bW | apply bL); exact BK237.out) hb); replace HB := AM (bS (by with_reducible repeat first | exact HB.out | apply pA | apply pN | apply p1 | refine pS ?_ GE237.out) hb); (try clear hb)))
         (go_ret2);exact ⟨rfl, by with_reducible repeat first | exact HB.out | apply pA | apply pN | apply p1 | refine pS ?_ GE237.out⟩
       ·rw [if_neg c21] at H
        have c21b0 : (a1.toList == ([100, 97, 116, 101] : List UInt8)) = false := beq_eq_false_iff_ne.mpr c21;have c21b1 : (a1.toList != ([100, 97, 116, 101] : List UInt8)) = true := bne_iff_ne.mpr c21;by_cases c27 : a1.toList = ([118, 111, 108, 117, 109, 101] : List UInt8)
        ·rw [if_pos c27] at H
         have c27b0 : (a1.toList == ([118, 111, 108, 117, 109, 101] : List UInt8)) = true := beq_iff_eq.mpr c27;have c27b1 : (a1.toList != ([118, 111, 108, 117, 109, 101] : List UInt8)) = false := bne_eq_false_iff_eq.mpr c27;clear c27;by_cases c28 : a0_11 = 0;(·rw [if_pos c28] at H;have c28b0 : (a0_11 == 0) = true := beq_iff_eq.mpr c28;have c28b1 : (a0_11 != 0) = false := bne_eq_false_iff_eq.mpr c28;clear c28;simp only [Option.some.injEq, Prod.mk.injEq] at H;obtain ⟨rfl, rfl⟩ := H;obtain ⟨z29_0, z29_1, z29_2, z29_3, z29_4, z29_5, z29_6, z29_7, z29_8, z29_9, z29_10, z29_11, z29_12, z29_13⟩ := cells14 BK237.out;(go_wp2);(go_ret2);exact ⟨rfl, by with_reducible repeat first | exact HB.out | apply pA | apply pN | apply p1 | refine pS ?_ GE237.out⟩)
         ·rw [if_neg c28] at H
          have c28b0 : (a0_11 == 0) = false := beq_eq_false_iff_ne.mpr c28;have c28b1 : (a0_11 != 0) = true := bne_iff_ne.mpr c28;replace H := oB.mp H;obtain ⟨t241, A300, H⟩ := H;(try dsimp only at H);have A30 := AM A300;clear A300;simp only [Option.some.injEq, Prod.mk.injEq] at H;obtain ⟨rfl, rfl⟩ := H;obtain ⟨z31_0, z31_1, z31_2, z31_3, z31_4, z31_5, z31_6, z31_7, z31_8, z31_9, z31_10, z31_11, z31_12, z31_13⟩ := cells14 BK237.out
          go_wp2_with (first | ((with_reducible refine gC (f := 51) rfl ?_); refine gL (some 49) rfl rfl Tryz.func51 (by kernel_rfl) rfl #[.int .i64 a0_11] rfl (by (try simp only [mT, mC, mN]); try rfl) ?_; (with_reducible refine (spec_l1Num.calls k a0_11 t241 _ A30.out).mono ?_); rintro e w32 ⟨rfl, hb⟩; refine ⟨_, rfl, ?_⟩; replace BK237 := AM (bB (by (with_reducible repeat first | apply bN | apply bW | apply bL); exact BK237.out) hb); replace HB := AM (bS (by with_reducible repeat first | exact HB.out | apply pA | apply pN | apply p1 | refine pS ?_ GE237.out) hb); (try clear hb)))
          (go_ret2);exact ⟨rfl, by with_reducible repeat first | exact HB.out | apply pA | apply pN | apply p1 | refine pS ?_ GE237.out⟩
        ·rw [if_neg c27] at H
         have c27b0 : (a1.toList == ([118, 111, 108, 117, 109, 101] : List UInt8)) = false := beq_eq_false_iff_ne.mpr c27;have c27b1 : (a1.toList != ([118, 111, 108, 117, 109, 101] : List UInt8)) = true := bne_iff_ne.mpr c27;simp only [Option.some.injEq, Prod.mk.injEq] at H;obtain ⟨rfl, rfl⟩ := H;(go_wp2);(go_ret2);exact ⟨rfl, by with_reducible repeat first | exact HB.out | apply pA | apply pN | apply p1 | refine pS ?_ GE237.out⟩
/-! ### spec_l10Field: function 13 -/
def spec_l10Field.f (k : Nat) (a0_0 : ByteArray) (a0_1 : Int) (l0_2 : List (S61)) (l0_3 : List (S61)) (a0_4 : ByteArray) (a0_5 : ByteArray) (a0_6 : ByteArray) (a0_7 : Int) (a0_8 : Int) (a0_9 : Int) (a0_10 : Bool) (a0_11 : Int) (a0_12 : ByteArray) (a0_13 : ByteArray) (a1 : Int) (a2 : ByteArray) : Option (ByteArray) := if a2.toList = ([97, 117, 116, 104, 111, 114, 115] : List UInt8) then ((spec_l2Names.f k l0_2 a1).bind fun t243 => (some t243)) else (if a2.toList = ([101, 100, 105, 116, 111, 114, 115] : List UInt8) then ((spec_l2Names.f k l0_3 a1).bind fun t244 => (some t244)) else (if a2.toList = ([121, 101, 97, 114] : List UInt8) then ((spec_l10Year.f k a0_7 a0_8 a0_9 a0_10).bind fun t245 => (some t245)) else (if a2.toList = ([107, 101, 121] : List UInt8) then (some a0_0) else (if a2.toList = ([100, 97, 116, 101] : List UInt8) then (if a0_7 = 0 then (some (⟨#[]⟩ : ByteArray)) else ((spec_l3Long.f k a0_7 a0_8 a0_9 a0_10).bind fun t246 => (some t246))) else ((spec_l4Field.f k a0_0 a0_1 l0_2 l0_3 a0_4 a0_5 a0_6 a0_7 a0_8 a0_9 a0_10 a0_11 a0_12 a0_13 a2).bind fun bt247 => (some bt247.1))))))
theorem spec_l10Field.mono : ∀ a0 a1 a2 a3 a4 a5 a6 a7 a8 a9 a10 a11 a12 a13 a14 a15 k, LeO (spec_l10Field.f k a0 a1 a2 a3 a4 a5 a6 a7 a8 a9 a10 a11 a12 a13 a14 a15) (spec_l10Field.f (k + 1) a0 a1 a2 a3 a4 a5 a6 a7 a8 a9 a10 a11 a12 a13 a14 a15) := by
 intro a0 a1 a2 a3 a4 a5 a6 a7 a8 a9 a10 a11 a12 a13 a14 a15 k;unfold spec_l10Field.f
 repeat' with_reducible first
   | exact spec_l10Year.mono _ _ _ _ _
   | exact spec_l2Names.mono _ _ _
   | exact spec_l3Long.mono _ _ _ _ _
   | exact spec_l4Field.mono _ _ _ _ _ _ _ _ _ _ _ _ _ _ _ _
   | exact LeO.refl _
   | exact LeO.none _
   | refine LeO.ite ?_ ?_
   | refine LeO.bind ?_ (fun _ => ?_)
theorem spec_l10Field.calls (k : Nat) (a0_0 : ByteArray) (a0_1 : Int) (A0_2 : Option Addr) (c0_2 : Nat) (l0_2 : List (S61)) (A0_3 : Option Addr) (c0_3 : Nat) (l0_3 : List (S61)) (a0_4 : ByteArray) (a0_5 : ByteArray) (a0_6 : ByteArray) (a0_7 : Int) (a0_8 : Int) (a0_9 : Int) (a0_10 : Bool) (a0_11 : Int) (a0_12 : ByteArray) (a0_13 : ByteArray) (a1 : Int) (a2 : ByteArray) (r : ByteArray) (w : World) (hr0_2 : Kd.C k61 w A0_2 l0_2.length l0_2) (hc0_2 : l0_2.length ≤ c0_2) (hr0_3 : Kd.C k61 w A0_3 l0_3.length l0_3) (hc0_3 : l0_3.length ≤ c0_3) (h : spec_l10Field.f k a0_0 a0_1 l0_2 l0_3 a0_4 a0_5 a0_6 a0_7 a0_8 a0_9 a0_10 a0_11 a0_12 a0_13 a1 a2 = some r) :
  Calls Tryz.prog 13 #[.agg #[.string a0_0, .int .i64 a0_1, .slice A0_2 l0_2.length c0_2, .slice A0_3 l0_3.length c0_3, .string a0_4, .string a0_5, .string a0_6, .int .i64 a0_7, .int .i64 a0_8, .int .i64 a0_9, .bool a0_10, .int .i64 a0_11, .string a0_12, .string a0_13], .int .i64 a1, .string a2] w fun e w' => e = .returned (.string r) ∧ Below w.heap.size w w' := by
 have hu33 := Tryz.underlying33;have hu31 := Tryz.underlying31;have HR0_2 := AM hr0_2;have HC0_2 := AM hc0_2;clear hr0_2 hc0_2;have HR0_3 := AM hr0_3;have HC0_3 := AM hc0_3;clear hr0_3 hc0_3;have HB := AM (Below.refl w.heap.size w);have H := h;unfold spec_l10Field.f at H;clear h;have HC4 := AM H;clear H;(go_enter Tryz.func13, Tryz.ntmps13)
 go_upto_if 10 with (first | ((with_reducible refine gate_dst (N := 3) rfl ?_); refine box_event ?hg (N := 3) ?hd (cs := #[.string a0_0, .int .i64 a0_1, .slice A0_2 l0_2.length c0_2, .slice A0_3 l0_3.length c0_3, .string a0_4, .string a0_5, .string a0_6, .int .i64 a0_7, .int .i64 a0_8, .int .i64 a0_9, .bool a0_10, .int .i64 a0_11, .string a0_12, .string a0_13]) (t := 33) ?hr ?_; (case hd => rfl); (case hg => rfl); (case hr => first | (go_simp; done) | (go_simp; rfl)); intro gb242 hg w5 hbox hb; have BK242 := AM (hbox); have GW242 := AM ((by rw [hg]; exact (bZ (by with_reducible repeat first | exact HB.out | apply pA | apply pN | apply p1)) : w.heap.size ≤ gb242)); have GE242 := AM ((by rw [hg]; exact (bZ (by with_reducible repeat first | exact HB.out | apply pA | apply pN | apply p1)) : w.heap.size ≤ gb242)); replace HB := AM (bS (by with_reducible repeat first | exact HB.out | apply pA | apply pN | apply p1) hb); clear hb hbox hg))
 have H := HC4.out;clear HC4;by_cases c6 : a2.toList = ([97, 117, 116, 104, 111, 114, 115] : List UInt8)
 ·rw [if_pos c6] at H
  have c6b0 : (a2.toList == ([97, 117, 116, 104, 111, 114, 115] : List UInt8)) = true := beq_iff_eq.mpr c6;have c6b1 : (a2.toList != ([97, 117, 116, 104, 111, 114, 115] : List UInt8)) = false := bne_eq_false_iff_eq.mpr c6;clear c6;(first | rw [c6b0] | rw [c6b1] | rw [c6b2] | (simp only [i64_w, i32_w]; rw [c6b0]) | skip);replace H := oB.mp H;obtain ⟨t243, A70, H⟩ := H;(try dsimp only at H);have A7 := AM A70;clear A70;obtain rfl := oI H;obtain ⟨z8_0, z8_1, z8_2, z8_3, z8_4, z8_5, z8_6, z8_7, z8_8, z8_9, z8_10, z8_11, z8_12, z8_13⟩ := cells14 BK242.out
  go_wp2_with (first | ((with_reducible refine gC (f := 29) rfl ?_); refine gL (some 15) rfl rfl Tryz.func29 (by kernel_rfl) rfl #[.slice A0_2 l0_2.length c0_2, .int .i64 a1] rfl (by (try simp only [mT, mC, mN]); try rfl) ?_; (with_reducible refine (spec_l2Names.calls k _ _ l0_2 a1 t243 _ ?side1 ?side2 A7.out).mono ?_); (case side1 => repeat first | exact (cB HR0_2.out HB.out) | with_reducible first | apply cA | apply cN | apply cD); (case side2 => exact HC0_2.out); rintro e w9 ⟨rfl, hb⟩; refine ⟨_, rfl, ?_⟩; replace BK242 := AM (bB (by (with_reducible repeat first | apply bN | apply bW | apply bL); exact BK242.out) hb); replace HB := AM (bS (by with_reducible repeat first | exact HB.out | apply pA | apply pN | apply p1 | refine pS ?_ GE242.out) hb); (try clear hb)))
  (go_ret);exact ⟨rfl, by with_reducible repeat first | exact HB.out | apply pA | apply pN | apply p1 | refine pS ?_ GE242.out⟩
 ·rw [if_neg c6] at H
  have c6b0 : (a2.toList == ([97, 117, 116, 104, 111, 114, 115] : List UInt8)) = false := beq_eq_false_iff_ne.mpr c6;have c6b1 : (a2.toList != ([97, 117, 116, 104, 111, 114, 115] : List UInt8)) = true := bne_iff_ne.mpr c6;(first | rw [c6b0] | rw [c6b1] | rw [c6b2] | (simp only [i64_w, i32_w]; rw [c6b0]) | skip);by_cases c10 : a2.toList = ([101, 100, 105, 116, 111, 114, 115] : List UInt8)
  ·rw [if_pos c10] at H
   have c10b0 : (a2.toList == ([101, 100, 105, 116, 111, 114, 115] : List UInt8)) = true := beq_iff_eq.mpr c10;have c10b1 : (a2.toList != ([101, 100, 105, 116, 111, 114, 115] : List UInt8)) = false := bne_eq_false_iff_eq.mpr c10;clear c10;replace H := oB.mp H;obtain ⟨t244, A110, H⟩ := H;(try dsimp only at H);have A11 := AM A110;clear A110;obtain rfl := oI H;obtain ⟨z12_0, z12_1, z12_2, z12_3, z12_4, z12_5, z12_6, z12_7, z12_8, z12_9, z12_10, z12_11, z12_12, z12_13⟩ := cells14 BK242.out
   go_wp2_with (first | ((with_reducible refine gC (f := 29) rfl ?_); refine gL (some 21) rfl rfl Tryz.func29 (by kernel_rfl) rfl #[.slice A0_3 l0_3.length c0_3, .int .i64 a1] rfl (by (try simp only [mT, mC, mN]); try rfl) ?_; (with_reducible refine (spec_l2Names.calls k _ _ l0_3 a1 t244 _ ?side1 ?side2 A11.out).mono ?_); (case side1 => repeat first | exact (cB HR0_3.out HB.out) | with_reducible first | apply cA | apply cN | apply cD); (case side2 => exact HC0_3.out); rintro e w13 ⟨rfl, hb⟩; refine ⟨_, rfl, ?_⟩; replace BK242 := AM (bB (by (with_reducible repeat first | apply bN | apply bW | apply bL); exact BK242.out) hb); replace HB := AM (bS (by with_reducible repeat first | exact HB.out | apply pA | apply pN | apply p1 | refine pS ?_ GE242.out) hb); (try clear hb)))
   (go_ret);exact ⟨rfl, by with_reducible repeat first | exact HB.out | apply pA | apply pN | apply p1 | refine pS ?_ GE242.out⟩
  ·rw [if_neg c10] at H
   have c10b0 : (a2.toList == ([101, 100, 105, 116, 111, 114, 115] : List UInt8)) = false := beq_eq_false_iff_ne.mpr c10;have c10b1 : (a2.toList != ([101, 100, 105, 116, 111, 114, 115] : List UInt8)) = true := bne_iff_ne.mpr c10;by_cases c14 : a2.toList = ([121, 101, 97, 114] : List UInt8)
   ·rw [if_pos c14] at H
    have c14b0 : (a2.toList == ([121, 101, 97, 114] : List UInt8)) = true := beq_iff_eq.mpr c14;have c14b1 : (a2.toList != ([121, 101, 97, 114] : List UInt8)) = false := bne_eq_false_iff_eq.mpr c14;clear c14;replace H := oB.mp H;obtain ⟨t245, A150, H⟩ := H;(try dsimp only at H);have A15 := AM A150;clear A150;obtain rfl := oI H;obtain ⟨z16_0, z16_1, z16_2, z16_3, z16_4, z16_5, z16_6, z16_7, z16_8, z16_9, z16_10, z16_11, z16_12, z16_13⟩ := cells14 BK242.out
    go_wp2_with (first | ((with_reducible refine gC (f := 30) rfl ?_); refine gL (some 26) rfl rfl Tryz.func30 (by kernel_rfl) rfl #[.agg #[.int .i64 a0_7, .int .i64 a0_8, .int .i64 a0_9, .bool a0_10]] rfl (by (try simp only [mT, mC, mN]); try rfl) ?_; (with_reducible refine (spec_l10Year.calls k a0_7 a0_8 a0_9 a0_10 t245 _ A15.out).mono ?_); rintro e w17 ⟨rfl, hb⟩; refine ⟨_, rfl, ?_⟩; replace BK242 := AM (bB (by (with_reducible repeat first | apply bN | apply bW | apply bL); exact BK242.out) hb); replace HB := AM (bS (by with_reducible repeat first | exact HB.out | apply pA | apply pN | apply p1 | refine pS ?_ GE242.out) hb); (try clear hb)))
    (go_ret);exact ⟨rfl, by with_reducible repeat first | exact HB.out | apply pA | apply pN | apply p1 | refine pS ?_ GE242.out⟩
   ·rw [if_neg c14] at H
    have c14b0 : (a2.toList == ([121, 101, 97, 114] : List UInt8)) = false := beq_eq_false_iff_ne.mpr c14;have c14b1 : (a2.toList != ([121, 101, 97, 114] : List UInt8)) = true := bne_iff_ne.mpr c14;by_cases c18 : a2.toList = ([107, 101, 121] : List UInt8);(·rw [if_pos c18] at H;have c18b0 : (a2.toList == ([107, 101, 121] : List UInt8)) = true := beq_iff_eq.mpr c18;have c18b1 : (a2.toList != ([107, 101, 121] : List UInt8)) = false := bne_eq_false_iff_eq.mpr c18;clear c18;obtain rfl := oI H;obtain ⟨z19_0, z19_1, z19_2, z19_3, z19_4, z19_5, z19_6, z19_7, z19_8, z19_9, z19_10, z19_11, z19_12, z19_13⟩ := cells14 BK242.out;(go_wp2);(go_ret);exact ⟨rfl, by with_reducible repeat first | exact HB.out | apply pA | apply pN | apply p1 | refine pS ?_ GE242.out⟩)
    ·rw [if_neg c18] at H
     have c18b0 : (a2.toList == ([107, 101, 121] : List UInt8)) = false := beq_eq_false_iff_ne.mpr c18;have c18b1 : (a2.toList != ([107, 101, 121] : List UInt8)) = true := bne_iff_ne.mpr c18;by_cases c20 : a2.toList = ([100, 97, 116, 101] : List UInt8)
     ·rw [if_pos c20] at H
      have c20b0 : (a2.toList == ([100, 97, 116, 101] : List UInt8)) = true := beq_iff_eq.mpr c20;have c20b1 : (a2.toList != ([100, 97, 116, 101] : List UInt8)) = false := bne_eq_false_iff_eq.mpr c20;clear c20;by_cases c21 : a0_7 = 0;(·rw [if_pos c21] at H;have c21b0 : (a0_7 == 0) = true := beq_iff_eq.mpr c21;have c21b1 : (a0_7 != 0) = false := bne_eq_false_iff_eq.mpr c21;clear c21;obtain rfl := oI H;obtain ⟨z22_0, z22_1, z22_2, z22_3, z22_4, z22_5, z22_6, z22_7, z22_8, z22_9, z22_10, z22_11, z22_12, z22_13⟩ := cells14 BK242.out;(go_wp2);(go_ret);exact ⟨rfl, by with_reducible repeat first | exact HB.out | apply pA | apply pN | apply p1 | refine pS ?_ GE242.out⟩)
      ·rw [if_neg c21] at H
       have c21b0 : (a0_7 == 0) = false := beq_eq_false_iff_ne.mpr c21;have c21b1 : (a0_7 != 0) = true := bne_iff_ne.mpr c21;replace H := oB.mp H;obtain ⟨t246, A230, H⟩ := H;(try dsimp only at H);have A23 := AM A230;clear A230;obtain rfl := oI H;obtain ⟨z24_0, z24_1, z24_2, z24_3, z24_4, z24_5, z24_6, z24_7, z24_8, z24_9, z24_10, z24_11, z24_12, z24_13⟩ := cells14 BK242.out
       go_wp2_with (first | ((with_reducible refine gC (f := 31) rfl ?_); refine gL (some 39) rfl rfl Tryz.func31 (by kernel_rfl) rfl #[.agg #[.int .i64 a0_7, .int .i64 a0_8, .int .i64 a0_9, .bool a0_10]] rfl (by (try simp only [mT, mC, mN]); try rfl) ?_; (with_reducible refine (spec_l3Long.calls k a0_7 a0_8 a0_9 a0_10 t246 _ A23.out).mono ?_); rintro e w25 ⟨rfl, hb⟩; refine ⟨_, rfl, ?_⟩; replace BK242 := AM (bB (by (with_reducible repeat first | apply bN | apply bW | apply bL); exact BK242.out) hb); replace HB := AM (bS (by with_reducible repeat first | exact HB.out | apply pA | apply pN | apply p1 | refine pS ?_ GE242.out) hb); (try clear hb)))
       (go_ret);exact ⟨rfl, by with_reducible repeat first | exact HB.out | apply pA | apply pN | apply p1 | refine pS ?_ GE242.out⟩
     ·rw [if_neg c20] at H
      have c20b0 : (a2.toList == ([100, 97, 116, 101] : List UInt8)) = false := beq_eq_false_iff_ne.mpr c20;have c20b1 : (a2.toList != ([100, 97, 116, 101] : List UInt8)) = true := bne_iff_ne.mpr c20;replace H := oB.mp H;obtain ⟨⟨t247, t248⟩, A260, H⟩ := H;(try dsimp only at H);have A26 := AM A260;clear A260;obtain rfl := oI H;obtain ⟨z27_0, z27_1, z27_2, z27_3, z27_4, z27_5, z27_6, z27_7, z27_8, z27_9, z27_10, z27_11, z27_12, z27_13⟩ := cells14 BK242.out
      go_wp2_with (first | ((with_reducible refine gC (f := 32) rfl ?_); refine gL (some 43) rfl rfl Tryz.func32 (by kernel_rfl) rfl #[.agg #[.string a0_0, .int .i64 a0_1, .slice A0_2 l0_2.length c0_2, .slice A0_3 l0_3.length c0_3, .string a0_4, .string a0_5, .string a0_6, .int .i64 a0_7, .int .i64 a0_8, .int .i64 a0_9, .bool a0_10, .int .i64 a0_11, .string a0_12, .string a0_13], .string a2] rfl (by (try simp only [mT, mC, mN]); try rfl) ?_; (with_reducible refine (spec_l4Field.calls k a0_0 a0_1 _ _ l0_2 _ _ l0_3 a0_4 a0_5 a0_6 a0_7 a0_8 a0_9 a0_10 a0_11 a0_12 a0_13 a2 t247 t248 _ ?side1 ?side2 ?side3 ?side4 A26.out).mono ?_); (case side1 => repeat first | exact (cB HR0_2.out HB.out) | with_reducible first | apply cA | apply cN | apply cD); (case side2 => exact HC0_2.out); (case side3 => repeat first | exact (cB HR0_3.out HB.out) | with_reducible first | apply cA | apply cN | apply cD); (case side4 => exact HC0_3.out); rintro e w28 ⟨rfl, hb⟩; refine ⟨_, rfl, ?_⟩; replace BK242 := AM (bB (by (with_reducible repeat first | apply bN | apply bW | apply bL); exact BK242.out) hb); replace HB := AM (bS (by with_reducible repeat first | exact HB.out | apply pA | apply pN | apply p1 | refine pS ?_ GE242.out) hb); (try clear hb)))
      (go_ret);exact ⟨rfl, by with_reducible repeat first | exact HB.out | apply pA | apply pN | apply p1 | refine pS ?_ GE242.out⟩
end Go.Proofs.YthcccgnhokncdaaGreatDoor.Px
