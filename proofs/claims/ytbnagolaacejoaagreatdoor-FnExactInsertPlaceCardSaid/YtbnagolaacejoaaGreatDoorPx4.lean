/- Calls of Go functions come to what the Lean functions beside them say; written by a program of this session (wip/xprint); no conditions. -/
import Derived.Test.YtbnagolaacejoaaGreatDoorPx3
namespace Go.Proofs.YtbnagolaacejoaaGreatDoor.Px
open Go.RowKit Go.Proofs.YtbnagolaacejoaaGreatDoorW.PrintWords Go.Proofs.YtbnagolaacejoaaGreatDoorW.PrintLast Go.Proofs.YtbnagolaacejoaaGreatDoorW.PrintMore
open Go.Proofs.YtbnagolaacejoaaGreatDoorW.PrintWords renaming gate_callee → gC, pw_below_drewN → pN, below_drew1 → p1, below_alloc → pA, below_set → pS, blk_drewN → bN, blk_alloc → bL, blk_drew → bW, blk_below → bB, below_step → bS, below_size → bZ, gate_dst → gD, box_event → gB, blk_cell → bC, blk_frozen → bF, blk_far → bR
open Go.Proofs.YtbnagolaacejoaaGreatDoorW.PrintWords.Aside0 renaming mk → AM
open Go.Proofs.YtbnagolaacejoaaGreatDoorW.PrintLast renaming goesL_ → gL
open Bool renaming eq_false_iff → bE
open Option renaming bind_eq_some_iff → oB
open Option.some renaming inj → oI
open List renaming map_toArray → mT, map_cons → mC, map_nil → mN, setIfInBounds_toArray → lT, set_cons_zero → lZ, set_cons_succ → lS
open Go.Proofs.YtbnagolaacejoaaGreatDoorW.PrintWords.Kd renaming R_reads' → rR, C_alloc → cA, C_drewN → cN, C_drew → cD, C_below → cB
open Go.Proofs.YtbnagolaacejoaaGreatDoorW.Envs.Env renaming below → eB
open Go.World renaming drewN_drewN → wD
attribute [local go_sem] max2_int min2_int max_two min_two max_three min_three max_four min_four
set_option maxHeartbeats 8000000
set_option maxRecDepth 100000
set_option linter.unusedVariables false
set_option linter.unusedSimpArgs false
mutual
def impl_isNameWord.j0 : Nat → ByteArray → Bool → Option (Bool)
 | 0, _, _ => none
 | k + 1, x0, x22 => if x22 = true then (some false) else (impl_isNameWord.l0 k x0 0)
def impl_isNameWord.l0 : Nat → ByteArray → Int → Option (Bool)
 | 0, _, _ => none
 | k + 1, x0, x3 => if x3 < (x0.size : Int) then (if 0 ≤ x3 then ((impl_isLetter.f (bt x0 x3)).bind fun t391 => (if t391 = true then (impl_isNameWord.l0 k x0 (wrap64 (x3 + 1))) else (if (bt x0 x3) = 45 then (if 0 ≤ (wrap64 (x3 - 1)) then (if (wrap64 (x3 - 1)) < (x0.size : Int) then ((impl_isLetter.f (bt x0 (wrap64 (x3 - 1)))).bind fun t392 => (if t392 = true then (impl_isNameWord.l0 k x0 (wrap64 (x3 + 1))) else (some false))) else (none)) else (none)) else (if (bt x0 x3) = 39 then (if 0 ≤ (wrap64 (x3 - 1)) then (if (wrap64 (x3 - 1)) < (x0.size : Int) then ((impl_isLetter.f (bt x0 (wrap64 (x3 - 1)))).bind fun t393 => (if t393 = true then (impl_isNameWord.l0 k x0 (wrap64 (x3 + 1))) else (some false))) else (none)) else (none)) else (some false))))) else (none)) else (some true)
end
def impl_isNameWord.f (k : Nat) (a0 : ByteArray) : Option (Bool) := (impl_inside.f (a0.size : Int) 1 12).bind fun t388 => (if t388 = true then (if 0 ≤ (wrap64 ((a0.size : Int) - 1)) then (if (wrap64 ((a0.size : Int) - 1)) < (a0.size : Int) then ((impl_isLetter.f (bt a0 (wrap64 ((a0.size : Int) - 1)))).bind fun t389 => (if t389 = true then (if 0 < (a0.size : Int) then ((impl_isLetter.f (bt a0 0)).bind fun t390 => (impl_isNameWord.j0 k a0 (!t390))) else (none)) else (impl_isNameWord.j0 k a0 true))) else (none)) else (none)) else (impl_isNameWord.j0 k a0 true))
theorem impl_isNameWord.mono_l : ∀ k, (∀ y0 y1, LeO (impl_isNameWord.j0 k y0 y1) (impl_isNameWord.j0 (k + 1) y0 y1)) ∧ (∀ y0 y1, LeO (impl_isNameWord.l0 k y0 y1) (impl_isNameWord.l0 (k + 1) y0 y1))
 | 0 => ⟨fun _ _ r h => by simp [impl_isNameWord.j0] at h, fun _ _ r h => by simp [impl_isNameWord.l0] at h⟩
 | k + 1 => by
  obtain ⟨ih0, ih1⟩ := impl_isNameWord.mono_l k;refine ⟨?_, ?_⟩
  ·intro y0 y1
   unfold impl_isNameWord.j0
   repeat' with_reducible first
   | exact ih0 _ _
   | exact ih1 _ _
   | exact LeO.refl _
   | exact LeO.none _
   | refine LeO.ite ?_ ?_
   | refine LeO.bind ?_ (fun _ => ?_)
  ·intro y0 y1
   unfold impl_isNameWord.l0
   repeat' with_reducible first
   | exact ih0 _ _
   | exact ih1 _ _
   | exact LeO.refl _
   | exact LeO.none _
   | refine LeO.ite ?_ ?_
   | refine LeO.bind ?_ (fun _ => ?_)
theorem impl_isNameWord.mono : ∀ a0 k, LeO (impl_isNameWord.f k a0) (impl_isNameWord.f (k + 1) a0) := by
 intro a0 k;obtain ⟨ih0, ih1⟩ := impl_isNameWord.mono_l k;unfold impl_isNameWord.f
 repeat' with_reducible first
   | exact ih0 _ _
   | exact ih1 _ _
   | exact LeO.refl _
   | exact LeO.none _
   | refine LeO.ite ?_ ?_
   | refine LeO.bind ?_ (fun _ => ?_)
theorem impl_isNameWord.calls (k : Nat) (a0 : ByteArray) (r : Bool) (w : World) (h : impl_isNameWord.f k a0 = some r) :
  Calls Tryz.prog 126 #[.string a0] w fun e w' => e = .returned (.bool r) ∧ Drawn0 w w' := by
 have H := h;unfold impl_isNameWord.f at H;clear h;have HC2 := AM H;clear H;(go_enter Tryz.func126, Tryz.ntmps126)
 go_upto_region 1 with (fail)
 go_cut [22] (fun v22 wc => ∃ (kq : Nat) (x22_1 : Bool), v22 = .bool x22_1 ∧ Aside0 (impl_isNameWord.j0 kq a0 x22_1 = some r) ∧ Aside0 (kq ≤ k) ∧ Drawn0 w wc)
 case first =>
  have H := HC2.out;clear HC2;obtain ⟨t388, A3, H⟩ := oA H;(try dsimp only at H);by_cases c4 : t388 = true
  ·subst c4
   rw [if_pos rfl] at H
   obtain ⟨ji5, hji5⟩ : ∃ j_ : Int, (wrap64 ((a0.size : Int) - 1)) = j_ := ⟨_, rfl⟩
   replace H : (if 0 ≤ (ji5) then (if (ji5) < (a0.size : Int) then ((impl_isLetter.f (bt a0 (ji5))).bind fun t389 => (if t389 = true then (if 0 < (a0.size : Int) then ((impl_isLetter.f (bt a0 0)).bind fun t390 => (impl_isNameWord.j0 k a0 (!t390))) else (none)) else (impl_isNameWord.j0 k a0 true))) else (none)) else (none)) = some r := by first | (rw [hji5] at H; exact H) | (simp only [hji5] at H ⊢; exact H)
   (try rw [hji5] at A3);have hji5w : (IntKind.i64.wrap ((a0.size : Int) - 1)) = ji5 := (i64_w _).trans hji5;by_cases c6 : 0 ≤ (ji5)
   ·rw [if_pos c6] at H
    have c6b0 := dT c6;clear c6;(first | rw [c6b0] | rw [c6b1] | rw [c6b2] | (simp only [i64_w, i32_w]; rw [c6b0]) | skip);by_cases c7 : (ji5) < (a0.size : Int)
    ·rw [if_pos c7] at H
     have c7b0 := dT c7;clear c7;obtain ⟨t389, A9, H⟩ := oA H;(try dsimp only at H);by_cases c10 : t389 = true
     ·subst c10
      rw [if_pos rfl] at H;by_cases c11 : 0 < (a0.size : Int)
      ·rw [if_pos c11] at H
       have c11b0 := dT c11;have c11b1 : decide (0 < a0.size) = true := dT (by omega);clear c11;obtain ⟨t390, A13, H⟩ := oA H;(try dsimp only at H);have H' := AM H;clear H
       go_wp2_with (first | ((with_reducible refine gC (f := 72) rfl ?_); refine gX (some 6) Tryz.func72 #[.int .i64 (a0.size : Int), .int .i64 1, .int .i64 12] ?_; (with_reducible refine (impl_inside.calls (a0.size : Int) 1 12 true _ A3.out).mono ?_); rintro e w' ⟨rfl, ⟨nd, rfl⟩⟩; refine ⟨_, rfl, ?_⟩; have p8 : 0 ≤ ((ji5) : Int) := oD (by assumption); have q8 : (ji5) < (a0.size : Int) := oD (by assumption); have hx8 := bt_at a0 (ji5); replace p8 := eq_true p8; replace q8 := eq_true q8) | (go_at_call 138; (with_reducible refine (impl_isLetter.calls (bt a0 (ji5)) true _ A9.out).mono ?_); rintro e w' ⟨rfl, ⟨nd, rfl⟩⟩; have p12 : 0 ≤ (0 : Int) := (by omega); have q12 : 0 < a0.size := (by have : (0 : Int) < (a0.size : Int) := oD (by assumption); omega); have hx12 : ∀ h : 0 < a0.size, ((a0[0]'h).toNat : Int) = bt a0 0 := bt_at a0 0; clear p12; have qi12 : (0 < (a0.size : Int)) = True := eq_true (oD (by assumption)); replace q12 := eq_true q12) | (go_at_call 138; (with_reducible refine (impl_isLetter.calls (bt a0 0) t390 _ A13.out).mono ?_); rintro e w' ⟨rfl, ⟨nd, rfl⟩⟩))
       go_meet
       case rel => exact ⟨_, (!t390), rf, H', ⟨lE⟩, dR⟩
      ·exact nO c11 H
     ·replace c10 := bE.mpr c10
      subst c10;replace H := nF H;have H' := AM H;clear H
      go_wp2_with (first | ((with_reducible refine gC (f := 72) rfl ?_); refine gX (some 6) Tryz.func72 #[.int .i64 (a0.size : Int), .int .i64 1, .int .i64 12] ?_; (with_reducible refine (impl_inside.calls (a0.size : Int) 1 12 true _ A3.out).mono ?_); rintro e w' ⟨rfl, ⟨nd, rfl⟩⟩; refine ⟨_, rfl, ?_⟩; have p8 : 0 ≤ ((ji5) : Int) := oD (by assumption); have q8 : (ji5) < (a0.size : Int) := oD (by assumption); have hx8 := bt_at a0 (ji5); replace p8 := eq_true p8; replace q8 := eq_true q8) | (go_at_call 138; (with_reducible refine (impl_isLetter.calls (bt a0 (ji5)) false _ A9.out).mono ?_); rintro e w' ⟨rfl, ⟨nd, rfl⟩⟩))
      go_meet
      case rel => exact ⟨_, (true), rf, H', ⟨lE⟩, dR⟩
    ·exact nO c7 H
   ·exact nO c6 H
  ·replace c4 := bE.mpr c4
   subst c4;replace H := nF H;have H' := AM H;clear H
   go_wp2_with (first | ((with_reducible refine gC (f := 72) rfl ?_); refine gX (some 6) Tryz.func72 #[.int .i64 (a0.size : Int), .int .i64 1, .int .i64 12] ?_; (with_reducible refine (impl_inside.calls (a0.size : Int) 1 12 false _ A3.out).mono ?_); rintro e w' ⟨rfl, ⟨nd, rfl⟩⟩; refine ⟨_, rfl, ?_⟩))
   go_meet
   case rel => exact ⟨_, (true), rf, H', ⟨lE⟩, dR⟩
 case rest =>
  clear HC2;(try clear c1);(try clear p1);(try clear q1);(try clear hx1);(try clear qi1);(try clear p2);(try clear c4);(try clear c6);(try clear c6b0);(try clear c6b1);(try clear c6b2);(try clear p6);(try clear c7);(try clear c7b0);(try clear p8);(try clear q8);(try clear hx8);(try clear c10);(try clear c11);(try clear c11b0);(try clear c11b1);(try clear c12);(try clear p12);(try clear q12);(try clear hx12);(try clear qi12);(try clear p12);(try clear p8);(try clear q12);(try clear q8);obtain ⟨kq, x22_1, rfl, HA, HJ1, ⟨mc1, rfl⟩⟩ := hcut
  cases kq with
  | zero => exact absurd HA.out (by simp [impl_isNameWord.j0])
  | succ kj1 =>
   have H := HA.out;clear HA;simp only [impl_isNameWord.j0] at H;by_cases c14 : x22_1 = true;(·subst c14;rw [if_pos rfl] at H;obtain rfl := oI H;(go_wp2);(go_ret);exact ⟨rf, dR⟩)
   ·replace c14 := bE.mpr c14
    subst c14;replace H := nF H;have H' := AM H;clear H;(go_wp2);(go_loopg [3] kj1 (fun kq v3 w' => ∃ (x3_2 : Int), v3 = .int .i64 x3_2 ∧ Aside0 (impl_isNameWord.l0 kq a0 x3_2 = some r) ∧ Aside0 (kq ≤ kj1) ∧ Drawn0 w w'))
    case atStart => exact ⟨(0), rf, H', ⟨Nat.le_refl _⟩, dR⟩
    case round =>
     clear H';(try clear c1);(try clear p1);(try clear q1);(try clear hx1);(try clear qi1);(try clear p2);(try clear c4);(try clear c6);(try clear c6b0);(try clear c6b1);(try clear c6b2);(try clear p6);(try clear c7);(try clear c7b0);(try clear p8);(try clear q8);(try clear hx8);(try clear c10);(try clear c11);(try clear c11b0);(try clear c11b1);(try clear c12);(try clear p12);(try clear q12);(try clear hx12);(try clear qi12);(try clear c14);(try clear p1);(try clear p12);(try clear p2);(try clear p6);(try clear p8);(try clear q1);(try clear q12);(try clear q8);obtain ⟨x3_2, rfl, HA, HK2, ⟨m2, rfl⟩⟩ := hrel
     cases gk with
     | zero => exact absurd HA.out (by simp [impl_isNameWord.l0])
     | succ k2 =>
      have H := HA.out;clear HA;simp only [impl_isNameWord.l0] at H;by_cases c15 : x3_2 < (a0.size : Int)
      ·rw [if_pos c15] at H
       have c15b0 := dT c15;clear c15;by_cases c16 : 0 ≤ x3_2
       ·rw [if_pos c16] at H
        have c16b0 := dT c16;clear c16;obtain ⟨t391, A18, H⟩ := oA H;(try dsimp only at H);by_cases c19 : t391 = true
        ·subst c19
         rw [if_pos rfl] at H;have H' := AM H;clear H;have p17 := pz x3_2;have q17 := qz x3_2 (a0.size : Int);have hx17 := bt_at a0 x3_2;replace p17 := eq_true p17;replace q17 := eq_true q17
         go_wp2_with (first | ((with_reducible refine gC (f := 138) rfl ?_); refine gX (some 32) Tryz.func138 #[.int .u8 (bt a0 x3_2)] ?_; (with_reducible refine (impl_isLetter.calls (bt a0 x3_2) true _ A18.out).mono ?_); rintro e w' ⟨rfl, ⟨nd, rfl⟩⟩; refine ⟨_, rfl, ?_⟩))
         go_roundg k2
         case measure => have := HJ1.out; have := HK2.out; omega
         case rel => exact ⟨(wrap64 (x3_2 + 1)), rf, H', ⟨by have := HJ1.out; have := HK2.out; omega⟩, dR⟩
        ·replace c19 := bE.mpr c19
         subst c19;replace H := nF H;by_cases c21 : (bt a0 x3_2) = 45
         ·rw [if_pos c21] at H
          have c21b0 : ((bt a0 x3_2) == 45) = true := beq_iff_eq.mpr c21;have c21b1 : ((bt a0 x3_2) != 45) = false := bne_eq_false_iff_eq.mpr c21;clear c21
          obtain ⟨ji22, hji22⟩ : ∃ j_ : Int, (wrap64 (x3_2 - 1)) = j_ := ⟨_, rfl⟩
          replace H : (if 0 ≤ (ji22) then (if (ji22) < (a0.size : Int) then ((impl_isLetter.f (bt a0 (ji22))).bind fun t392 => (if t392 = true then (impl_isNameWord.l0 k2 a0 (wrap64 (x3_2 + 1))) else (some false))) else (none)) else (none)) = some r := by first | (rw [hji22] at H; exact H) | (simp only [hji22] at H ⊢; exact H)
          (try rw [hji22] at A18);have hji22w : (IntKind.i64.wrap (x3_2 - 1)) = ji22 := (i64_w _).trans hji22;by_cases c23 : 0 ≤ (ji22)
          ·rw [if_pos c23] at H
           have c23b0 := dT c23;clear c23;by_cases c24 : (ji22) < (a0.size : Int)
           ·rw [if_pos c24] at H
            have c24b0 := dT c24;clear c24;obtain ⟨t392, A26, H⟩ := oA H;(try dsimp only at H);have HC27 := AM H;clear H;have p17 := pz x3_2;have q17 := qz x3_2 (a0.size : Int);have hx17 := bt_at a0 x3_2;replace p17 := eq_true p17;replace q17 := eq_true q17
            go_upto_if 53 with (first | ((with_reducible refine gC (f := 138) rfl ?_); refine gX (some 32) Tryz.func138 #[.int .u8 (bt a0 x3_2)] ?_; (with_reducible refine (impl_isLetter.calls (bt a0 x3_2) false _ A18.out).mono ?_); rintro e w' ⟨rfl, ⟨nd, rfl⟩⟩; refine ⟨_, rfl, ?_⟩; have p20 := pz x3_2; have q20 := qz x3_2 (a0.size : Int); have hx20 := bt_at a0 x3_2; replace p20 := eq_true p20; replace q20 := eq_true q20; have p25 : 0 ≤ ((ji22) : Int) := oD (by assumption); have q25 : (ji22) < (a0.size : Int) := oD (by assumption); have hx25 := bt_at a0 (ji22); replace p25 := eq_true p25; replace q25 := eq_true q25) | (go_at_call 138; (with_reducible refine (impl_isLetter.calls (bt a0 (ji22)) t392 _ A26.out).mono ?_); rintro e w' ⟨rfl, ⟨nd, rfl⟩⟩))
            (skip);have H := HC27.out;clear HC27;by_cases c28 : t392 = true
            ·subst c28
             rw [if_pos rfl] at H;have H' := AM H;clear H;(go_wp2);(go_roundg k2)
             case measure => have := HJ1.out; have := HK2.out; omega
             case rel => exact ⟨(wrap64 (x3_2 + 1)), rf, H', ⟨by have := HJ1.out; have := HK2.out; omega⟩, dR⟩
            ·replace c28 := bE.mpr c28
             subst c28;replace H := nF H;obtain rfl := oI H;(go_wp2);(go_ret);exact ⟨by first | rfl | (simp; done) | (simp only [← hji22] <;> (first | rfl | simp)) | (simp [*]; done), dR⟩
           ·exact nO c24 H
          ·exact nO c23 H
         ·rw [if_neg c21] at H
          have c21b0 : ((bt a0 x3_2) == 45) = false := beq_eq_false_iff_ne.mpr c21;have c21b1 : ((bt a0 x3_2) != 45) = true := bne_iff_ne.mpr c21;by_cases c30 : (bt a0 x3_2) = 39
          ·rw [if_pos c30] at H
           have c30b0 : ((bt a0 x3_2) == 39) = true := beq_iff_eq.mpr c30;have c30b1 : ((bt a0 x3_2) != 39) = false := bne_eq_false_iff_eq.mpr c30;clear c30
           obtain ⟨ji31, hji31⟩ : ∃ j_ : Int, (wrap64 (x3_2 - 1)) = j_ := ⟨_, rfl⟩
           replace H : (if 0 ≤ (ji31) then (if (ji31) < (a0.size : Int) then ((impl_isLetter.f (bt a0 (ji31))).bind fun t393 => (if t393 = true then (impl_isNameWord.l0 k2 a0 (wrap64 (x3_2 + 1))) else (some false))) else (none)) else (none)) = some r := by first | (rw [hji31] at H; exact H) | (simp only [hji31] at H ⊢; exact H)
           (try rw [hji31] at A18);have hji31w : (IntKind.i64.wrap (x3_2 - 1)) = ji31 := (i64_w _).trans hji31;by_cases c32 : 0 ≤ (ji31)
           ·rw [if_pos c32] at H
            have c32b0 := dT c32;clear c32;by_cases c33 : (ji31) < (a0.size : Int)
            ·rw [if_pos c33] at H
             have c33b0 := dT c33;clear c33;obtain ⟨t393, A35, H⟩ := oA H;(try dsimp only at H);have HC36 := AM H;clear H;have p17 := pz x3_2;have q17 := qz x3_2 (a0.size : Int);have hx17 := bt_at a0 x3_2;replace p17 := eq_true p17;replace q17 := eq_true q17
             go_upto_if 53 with (first | ((with_reducible refine gC (f := 138) rfl ?_); refine gX (some 32) Tryz.func138 #[.int .u8 (bt a0 x3_2)] ?_; (with_reducible refine (impl_isLetter.calls (bt a0 x3_2) false _ A18.out).mono ?_); rintro e w' ⟨rfl, ⟨nd, rfl⟩⟩; refine ⟨_, rfl, ?_⟩; have p20 := pz x3_2; have q20 := qz x3_2 (a0.size : Int); have hx20 := bt_at a0 x3_2; replace p20 := eq_true p20; replace q20 := eq_true q20; have p29 := pz x3_2; have q29 := qz x3_2 (a0.size : Int); have hx29 := bt_at a0 x3_2; replace p29 := eq_true p29; replace q29 := eq_true q29; have p34 : 0 ≤ ((ji31) : Int) := oD (by assumption); have q34 : (ji31) < (a0.size : Int) := oD (by assumption); have hx34 := bt_at a0 (ji31); replace p34 := eq_true p34; replace q34 := eq_true q34) | (go_at_call 138; (with_reducible refine (impl_isLetter.calls (bt a0 (ji31)) t393 _ A35.out).mono ?_); rintro e w' ⟨rfl, ⟨nd, rfl⟩⟩))
             (skip);have H := HC36.out;clear HC36;by_cases c37 : t393 = true
             ·subst c37
              rw [if_pos rfl] at H;have H' := AM H;clear H;(go_wp2);(go_roundg k2)
              case measure => have := HJ1.out; have := HK2.out; omega
              case rel => exact ⟨(wrap64 (x3_2 + 1)), rf, H', ⟨by have := HJ1.out; have := HK2.out; omega⟩, dR⟩
             ·replace c37 := bE.mpr c37
              subst c37;replace H := nF H;obtain rfl := oI H;(go_wp2);(go_ret);exact ⟨by first | rfl | (simp; done) | (simp only [← hji31] <;> (first | rfl | simp)) | (simp [*]; done), dR⟩
            ·exact nO c33 H
           ·exact nO c32 H
          ·rw [if_neg c30] at H
           have c30b0 : ((bt a0 x3_2) == 39) = false := beq_eq_false_iff_ne.mpr c30;have c30b1 : ((bt a0 x3_2) != 39) = true := bne_iff_ne.mpr c30;obtain rfl := oI H;have p17 := pz x3_2;have q17 := qz x3_2 (a0.size : Int);have hx17 := bt_at a0 x3_2;replace p17 := eq_true p17;replace q17 := eq_true q17
           go_wp2_with (first | ((with_reducible refine gC (f := 138) rfl ?_); refine gX (some 32) Tryz.func138 #[.int .u8 (bt a0 x3_2)] ?_; (with_reducible refine (impl_isLetter.calls (bt a0 x3_2) false _ A18.out).mono ?_); rintro e w' ⟨rfl, ⟨nd, rfl⟩⟩; refine ⟨_, rfl, ?_⟩; have p20 := pz x3_2; have q20 := qz x3_2 (a0.size : Int); have hx20 := bt_at a0 x3_2; replace p20 := eq_true p20; replace q20 := eq_true q20; have p29 := pz x3_2; have q29 := qz x3_2 (a0.size : Int); have hx29 := bt_at a0 x3_2; replace p29 := eq_true p29; replace q29 := eq_true q29))
           (go_ret);exact ⟨rf, dR⟩
       ·exact nO c16 H
      ·rw [if_neg c15] at H
       have c15b0 := dF c15;clear c15;obtain rfl := oI H;(go_wp2);(go_ret);exact ⟨rf, dR⟩
def impl_isGreatWord.f (k : Nat) (a0 : ByteArray) : Option (Bool) := (impl_isNameWord.f k a0).bind fun t394 => (if t394 = true then (if 0 < (a0.size : Int) then ((impl_isUpper.f (bt a0 0)).bind fun t395 => (some t395)) else (none)) else (some false))
theorem impl_isGreatWord.mono : ∀ a0 k, LeO (impl_isGreatWord.f k a0) (impl_isGreatWord.f (k + 1) a0) := by
 intro a0 k;unfold impl_isGreatWord.f
 repeat' with_reducible first
   | exact impl_isNameWord.mono _ _
   | exact LeO.refl _
   | exact LeO.none _
   | refine LeO.ite ?_ ?_
   | refine LeO.bind ?_ (fun _ => ?_)
theorem impl_isGreatWord.calls (k : Nat) (a0 : ByteArray) (r : Bool) (w : World) (h : impl_isGreatWord.f k a0 = some r) :
  Calls Tryz.prog 124 #[.string a0] w fun e w' => e = .returned (.bool r) ∧ Drawn0 w w' := by
 have H := h;unfold impl_isGreatWord.f at H;clear h;obtain ⟨t394, A2, H⟩ := oA H;(try dsimp only at H);by_cases c3 : t394 = true
 ·subst c3
  rw [if_pos rfl] at H;by_cases c4 : 0 < (a0.size : Int)
  ·rw [if_pos c4] at H
   have c4b0 := dT c4;have c4b1 : decide (0 < a0.size) = true := dT (by omega);clear c4;obtain ⟨t395, A6, H⟩ := oA H;(try dsimp only at H);obtain rfl := oI H;(go_enter Tryz.func124, Tryz.ntmps124)
   go_wp2_with (first | ((with_reducible refine gC (f := 126) rfl ?_); refine gX (some 4) Tryz.func126 #[.string a0] ?_; (with_reducible refine (impl_isNameWord.calls k a0 true _ A2.out).mono ?_); rintro e w' ⟨rfl, ⟨nd, rfl⟩⟩; refine ⟨_, rfl, ?_⟩; have p5 : 0 ≤ (0 : Int) := (by omega); have q5 : 0 < a0.size := (by have : (0 : Int) < (a0.size : Int) := oD (by assumption); omega); have hx5 : ∀ h : 0 < a0.size, ((a0[0]'h).toNat : Int) = bt a0 0 := bt_at a0 0; clear p5; have qi5 : (0 < (a0.size : Int)) = True := eq_true (oD (by assumption)); replace q5 := eq_true q5) | (go_at_call 112; (with_reducible refine (impl_isUpper.calls (bt a0 0) t395 _ A6.out).mono ?_); rintro e w' ⟨rfl, ⟨nd, rfl⟩⟩))
   (go_ret);exact ⟨rf, dR⟩
  ·exact nO c4 H
 ·replace c3 := bE.mpr c3
  subst c3;replace H := nF H;obtain rfl := oI H;(go_enter Tryz.func124, Tryz.ntmps124)
  go_wp2_with (first | ((with_reducible refine gC (f := 126) rfl ?_); refine gX (some 4) Tryz.func126 #[.string a0] ?_; (with_reducible refine (impl_isNameWord.calls k a0 false _ A2.out).mono ?_); rintro e w' ⟨rfl, ⟨nd, rfl⟩⟩; refine ⟨_, rfl, ?_⟩))
  (go_ret);exact ⟨rf, dR⟩
def impl_IsValidName_1.f (k : Nat) (a0 : ByteArray) : Option (Bool) := (impl_isGreatWord.f k a0).bind fun t396 => (some (!t396))
theorem impl_IsValidName_1.mono : ∀ a0 k, LeO (impl_IsValidName_1.f k a0) (impl_IsValidName_1.f (k + 1) a0) := by
 intro a0 k;unfold impl_IsValidName_1.f
 repeat' with_reducible first
   | exact impl_isGreatWord.mono _ _
   | exact LeO.refl _
   | exact LeO.none _
   | refine LeO.ite ?_ ?_
   | refine LeO.bind ?_ (fun _ => ?_)
theorem impl_IsValidName_1.calls (k : Nat) (a0 : ByteArray) (r : Bool) (w : World) (h : impl_IsValidName_1.f k a0 = some r) :
  Calls Tryz.prog 123 #[.string a0] w fun e w' => e = .returned (.bool r) ∧ Drawn0 w w' := by
 have H := h;unfold impl_IsValidName_1.f at H;clear h;obtain ⟨t396, A2, H⟩ := oA H;(try dsimp only at H);obtain rfl := oI H;(go_enter Tryz.func123, Tryz.ntmps123)
 go_wp2_with (first | ((with_reducible refine gC (f := 124) rfl ?_); refine gX (some 4) Tryz.func124 #[.string a0] ?_; (with_reducible refine (impl_isGreatWord.calls k a0 t396 _ A2.out).mono ?_); rintro e w' ⟨rfl, ⟨nd, rfl⟩⟩; refine ⟨_, rfl, ?_⟩))
 (go_ret);exact ⟨rf, dR⟩
theorem slices_ContainsFunc_string_string.index (g : FuncId) (cb : Array Value) (p : ByteArray → Bool) (A0 : Option Addr) (c0 : Nat) (l0 : List ByteArray) (w : World) (hr0 : Kd.C Kd.string w A0 l0.length l0) (hc0 : l0.length ≤ c0) (hb0 : l0.length ≤ 9223372036854775807)
    (eg : ∀ args W, (callFunc g args).run Tryz.prog W = .ok (.enter g args) W)
    (hcl : ∀ (x : ByteArray) (W : World), x ∈ l0 → Below w.heap.size w W → Calls Tryz.prog g (#[.string x] ++ cb) W fun e W' => e = .returned (.bool (p x)) ∧ Below W.heap.size W W') :
    Calls Tryz.prog 136 #[.slice A0 l0.length c0, .func (.func g) #[] cb] w fun e w' => ∃ r : Int, e = .returned (.int .i64 r) ∧ decide (0 ≤ r) = l0.any p ∧ Below w.heap.size w w' := by
  have HR0 := AM hr0;have HCL := AM hcl;clear hr0 hcl;(go_enter Tryz.func136, Tryz.ntmps136);(go_wp2);(go_loopw [8] (fun v8 wr => ∃ (i : Int), 0 ≤ i ∧ i ≤ (l0.length : Int) ∧ v8 = .int .i64 i ∧ Aside0 (∀ x ∈ l0.take i.toNat, p x = false) ∧ Aside0 (Below w.heap.size w wr)) (fun v _ => l0.length - (intOf v).toNat))
  case atStart => exact ⟨0, Int.le_refl _, by omega, rfl, ⟨by simp⟩, ⟨Below.refl _ _⟩⟩
  case round =>
    obtain ⟨i, hi0, hin, rfl, HP, HB⟩ := hrel;by_cases hlt : i < (l0.length : Int)
    · obtain ⟨ad, e107, hx_0⟩ := Kd.at_string HR0.out i hi0 hlt
      cases e107;replace hx_0 := cU hx_0
      have hmem : rdOf ByteArray.empty l0 i ∈ l0 := by
        unfold rdOf;(have hj : i.toNat < l0.length := by omega);simp only [List.getD, List.getElem?_eq_getElem hj, Option.getD_some];exact List.getElem_mem hj
      have htk : l0.take (i + 1).toNat = l0.take i.toNat ++ [rdOf ByteArray.empty l0 i] := by
        unfold rdOf;(have hj : i.toNat < l0.length := by omega);(have e : (i + 1).toNat = i.toNat + 1 := by omega);rw [e, List.take_succ_eq_append_getElem hj];simp only [List.getD, List.getElem?_eq_getElem hj, Option.getD_some]
      have HMEM := AM hmem;have HTK := AM htk;clear hmem htk;generalize rdOf ByteArray.empty l0 i = x at hx_0 HMEM HTK;have p107 : (0 ≤ i) = True := eq_true hi0;have q107 : (i < (l0.length : Int)) = True := eq_true hlt;have c2b0 : decide (i < (l0.length : Int)) = true := dT hlt
      cases hp : p x with
      | true =>
        have HPX := AM hp;clear hp
        go_wp2_with (go_at_fn g; refine (HCL.out x _ HMEM.out HB.out).mono ?_; rintro e w6 ⟨rfl, hb⟩; rw [HPX.out]; have HB6 := AM hb; clear hb)
        (go_ret);refine ⟨i, rfl, ?_, below_then HB.out HB.out.size HB6.out⟩;rw [dT hi0];exact (List.any_eq_true.2 ⟨x, HMEM.out, HPX.out⟩).symm
      | false =>
        have HPX := AM hp;clear hp
        go_wp2_with (go_at_fn g; refine (HCL.out x _ HMEM.out HB.out).mono ?_; rintro e w6 ⟨rfl, hb⟩; rw [HPX.out]; have HB6 := AM hb; clear hb)
        refine ⟨⟨i + 1, by omega, by omega, by first | rfl | go_num | (simp; done), ⟨?_⟩, ⟨below_then HB.out HB.out.size HB6.out⟩⟩, by simp [intOf]; omega⟩;rw [HTK.out];intro y hy;(rcases List.mem_append.1 hy with hy | hy);(·exact HP.out y hy);(·(rw [List.mem_singleton.1 hy]; exact HPX.out))
    · have c2b0 : decide (i < (l0.length : Int)) = false := dF hlt
      (go_wp2);(go_ret);refine ⟨-1, rfl, ?_, HB.out⟩;have hall := HP.out;rw [List.take_of_length_le (by omega)] at hall;rw [show decide (0 ≤ (-1 : Int)) = false from rfl];refine (bE.2 fun h => ?_).symm;obtain ⟨y, hy, hpy⟩ := List.any_eq_true.1 h;rw [hall y hy] at hpy;cases hpy
theorem slices_ContainsFunc_string_string.contains (g : FuncId) (cb : Array Value) (p : ByteArray → Bool) (A0 : Option Addr) (c0 : Nat) (l0 : List ByteArray) (w : World) (hr0 : Kd.C Kd.string w A0 l0.length l0) (hc0 : l0.length ≤ c0) (hb0 : l0.length ≤ 9223372036854775807)
    (eg : ∀ args W, (callFunc g args).run Tryz.prog W = .ok (.enter g args) W)
    (hcl : ∀ (x : ByteArray) (W : World), x ∈ l0 → Below w.heap.size w W → Calls Tryz.prog g (#[.string x] ++ cb) W fun e W' => e = .returned (.bool (p x)) ∧ Below W.heap.size W W') :
    Calls Tryz.prog 122 #[.slice A0 l0.length c0, .func (.func g) #[] cb] w fun e w' => e = .returned (.bool (l0.any p)) ∧ Below w.heap.size w w' := by
  have hI := slices_ContainsFunc_string_string.index g cb p A0 c0 l0 w hr0 hc0 hb0 eg hcl;clear hcl;(go_enter Tryz.func122, Tryz.ntmps122)
  go_wp2_with (go_at_call 136; refine hI.mono ?_; rintro e w6 ⟨r, rfl, hr, hb⟩; have HR6 := AM hr; have HB6 := AM hb; clear hr hb)
  (go_ret);refine ⟨?_, HB6.out⟩;rw [← HR6.out];rfl
def slices_ContainsFunc_string_string.f (k : Nat) (l0 : List ByteArray) (a1 : Unit) : Option (Bool) := if l0.all (fun x => (impl_IsValidName_1.f k x).isSome) = true then some (l0.any fun x => (impl_IsValidName_1.f k x).getD false) else none
theorem slices_ContainsFunc_string_string.mono : ∀ a0 a1 k, LeO (slices_ContainsFunc_string_string.f k a0 a1) (slices_ContainsFunc_string_string.f (k + 1) a0 a1) := by
  intro l a1 k r h;unfold slices_ContainsFunc_string_string.f at h ⊢;by_cases ha : l.all (fun x => (impl_IsValidName_1.f k x).isSome) = true
  · rw [if_pos ha] at h
    have hx : ∀ x ∈ l, impl_IsValidName_1.f (k + 1) x = impl_IsValidName_1.f k x := fun x hx => by
      obtain ⟨b, hb⟩ := Option.isSome_iff_exists.1 (List.all_eq_true.1 ha x hx);rw [hb];exact impl_IsValidName_1.mono x k b hb
    have h1 : l.all (fun x => (impl_IsValidName_1.f (k + 1) x).isSome) = true := List.all_eq_true.2 fun x hm => by
      rw [hx x hm];exact List.all_eq_true.1 ha x hm
    have h2 : l.any (fun x => (impl_IsValidName_1.f (k + 1) x).getD false) = l.any (fun x => (impl_IsValidName_1.f k x).getD false) := by
      clear h ha h1
      induction l with
      | nil => rfl
      | cons a t ih => rw [List.any_cons, List.any_cons, hx a (by simp), ih (fun x hm => hx x (List.mem_cons_of_mem _ hm))]
    rw [if_pos h1, h2];exact h
  · rw [if_neg ha] at h
    cases h
theorem slices_ContainsFunc_string_string.calls (k : Nat) (A0 : Option Addr) (c0 : Nat) (l0 : List ByteArray) (a1 : Unit) (r : Bool) (w : World) (hr0 : Kd.C Kd.string w A0 l0.length l0) (hc0 : l0.length ≤ c0) (h : slices_ContainsFunc_string_string.f k l0 a1 = some r) :
    Calls Tryz.prog 122 #[.slice A0 l0.length c0, .func (.func 123) #[] #[]] w fun e w' => e = .returned (.bool r) ∧ Below w.heap.size w w' := by
  unfold slices_ContainsFunc_string_string.f at h;by_cases ha : l0.all (fun x => (impl_IsValidName_1.f k x).isSome) = true
  · rw [if_pos ha] at h
    obtain rfl := oI h
    exact slices_ContainsFunc_string_string.contains 123 #[] (fun x => (impl_IsValidName_1.f k x).getD false) A0 c0 l0 w hr0 hc0 (Kd.C_max hr0) (enters_of Tryz.func123 (by kernel_rfl) rfl) (fun x W hx hW => by
      obtain ⟨b, hb⟩ := Option.isSome_iff_exists.1 (List.all_eq_true.1 ha x hx)
      show Calls Tryz.prog 123 #[.string x] W _
      rw [hb]
      exact (impl_IsValidName_1.calls k x b W hb).mono fun e w' ⟨he, hd⟩ => ⟨he, by obtain ⟨n, rfl⟩ := hd; exact pw_below_drewN (Below.refl _ _) _⟩)
  · rw [if_neg ha] at h
    cases h
def strings_Split.parts (a0 : ByteArray) (a1 : ByteArray) : List ByteArray := Lib.splitB a1 0 (Lib.countB a0 a1) a0
def strings_Split.f (a0 : ByteArray) (a1 : ByteArray) : Option (List ByteArray) := if a0.size < 4294967281 then (if 1 ≤ a1.size then some (strings_Split.parts a0 a1) else none) else none
theorem strings_Split.calls (a0 : ByteArray) (a1 : ByteArray) (r : List ByteArray) (w : World) (henv : Go.Proofs.YtbnagolaacejoaaGreatDoorW.Envs.Env [0] w) (h : strings_Split.f a0 a1 = some r) :
    Calls Tryz.prog 137 #[.string a0, .string a1] w fun e w' => ∃ v0_ : Value, e = .returned (v0_) ∧ Kd.R Kd.string 9 w' w.heap.size (fun _ => True) v0_ r ∧ Below w.heap.size w w' := by
  unfold strings_Split.f at h;by_cases h0 : a0.size < 4294967281;(·rw [if_pos h0] at h;by_cases h1 : 1 ≤ a1.size;(·rw [if_pos h1] at h;obtain rfl := oI h;obtain ⟨m, hm⟩ := henv.int (by decide) (strings_Split.lays.s1_3);(refine (Any.strings_Split { strings_Split.lays with } strings_Split.lays.i9 a0 a1 m w h0 hm h1).mono fun e w' ⟨he, hw⟩ => ?_);have hn : (strings_Split.parts a0 a1).length = Lib.countB a0 a1 + 1 := Lib.splitB_all a1 h1 0 _ a0 rfl;have hle := Lib.countB_le a1 h1 a0.size a0 (Nat.le_refl _);subst hw;refine ⟨_, he, ?_, below_alloc (Below.refl _ _) _⟩;rw [← hn];exact Kd.R_of_own (own_lit_of w w.heap.size 9 (strings_Split.parts a0 a1) (Nat.le_refl _) (by omega)) (fun _ _ => trivial));(·rw [if_neg h1] at h;exact absurd h (by simp)));(·rw [if_neg h0] at h;exact absurd h (by simp))
mutual
def impl_isParticle.l0 : Nat → List ByteArray → List ByteArray → Int → Int → Option (Bool)
 | 0, _, _, _, _ => none
 | k + 1, x3, x11, x12, x13 => if x13 < x12 then (if 0 ≤ x13 then (if x13 < (x11.length : Int) then ((impl_inside.f ((rdOf ByteArray.empty x11 x13).size : Int) 1 12).bind fun t401 => (if t401 = true then (impl_isParticle.l1 k x3 (rdOf ByteArray.empty x11 x13) 0 x11 x12 x13) else (some false))) else (none)) else (none)) else (some (decide ((x3.length : Int) ≤ 2)))
def impl_isParticle.l1 : Nat → List ByteArray → ByteArray → Int → List ByteArray → Int → Int → Option (Bool)
 | 0, _, _, _, _, _, _ => none
 | k + 1, x3, x5, x6, x11, x12, x13 => if x6 < (x5.size : Int) then (if 0 ≤ x6 then ((impl_isLower.f (bt x5 x6)).bind fun t402 => (if t402 = true then (impl_isParticle.l1 k x3 x5 (wrap64 (x6 + 1)) x11 x12 x13) else (some false))) else (none)) else (impl_isParticle.l0 k x3 x11 x12 (wrap64 (x13 + 1)))
end
def impl_isParticle.f (k : Nat) (a0 : ByteArray) : Option (Bool) := if a0.toList = ([] : List UInt8) then (some true) else ((strings_Split.f a0 (⟨#[32]⟩ : ByteArray)).bind fun t397 => (impl_isParticle.l0 k t397 t397 (t397.length : Int) 0))
theorem impl_isParticle.mono_l : ∀ k, (∀ y0 y1 y2 y3, LeO (impl_isParticle.l0 k y0 y1 y2 y3) (impl_isParticle.l0 (k + 1) y0 y1 y2 y3)) ∧ (∀ y0 y1 y2 y3 y4 y5, LeO (impl_isParticle.l1 k y0 y1 y2 y3 y4 y5) (impl_isParticle.l1 (k + 1) y0 y1 y2 y3 y4 y5))
 | 0 => ⟨fun _ _ _ _ r h => by simp [impl_isParticle.l0] at h, fun _ _ _ _ _ _ r h => by simp [impl_isParticle.l1] at h⟩
 | k + 1 => by
  obtain ⟨ih0, ih1⟩ := impl_isParticle.mono_l k;refine ⟨?_, ?_⟩
  ·intro y0 y1 y2 y3
   unfold impl_isParticle.l0
   repeat' with_reducible first
   | exact ih0 _ _ _ _
   | exact ih1 _ _ _ _ _ _
   | exact LeO.refl _
   | exact LeO.none _
   | refine LeO.ite ?_ ?_
   | refine LeO.bind ?_ (fun _ => ?_)
  ·intro y0 y1 y2 y3 y4 y5
   unfold impl_isParticle.l1
   repeat' with_reducible first
   | exact ih0 _ _ _ _
   | exact ih1 _ _ _ _ _ _
   | exact LeO.refl _
   | exact LeO.none _
   | refine LeO.ite ?_ ?_
   | refine LeO.bind ?_ (fun _ => ?_)
theorem impl_isParticle.mono : ∀ a0 k, LeO (impl_isParticle.f k a0) (impl_isParticle.f (k + 1) a0) := by
 intro a0 k;obtain ⟨ih0, ih1⟩ := impl_isParticle.mono_l k;unfold impl_isParticle.f
 repeat' with_reducible first
   | exact ih0 _ _ _ _
   | exact ih1 _ _ _ _ _ _
   | exact LeO.refl _
   | exact LeO.none _
   | refine LeO.ite ?_ ?_
   | refine LeO.bind ?_ (fun _ => ?_)
theorem impl_isParticle.calls (k : Nat) (a0 : ByteArray) (r : Bool) (w : World) (henv : Go.Proofs.YtbnagolaacejoaaGreatDoorW.Envs.Env [0] w) (h : impl_isParticle.f k a0 = some r) :
  Calls Tryz.prog 125 #[.string a0] w fun e w' => e = .returned (.bool r) ∧ Below w.heap.size w w' := by
 have HB := AM (Below.refl w.heap.size w);have HENV := AM henv;clear henv;have H := h;unfold impl_isParticle.f at H;clear h;by_cases c2 : a0.toList = ([] : List UInt8);(·rw [if_pos c2] at H;have c2b0 : (a0.toList == ([] : List UInt8)) = true := beq_iff_eq.mpr c2;have c2b1 : (a0.toList != ([] : List UInt8)) = false := bne_eq_false_iff_eq.mpr c2;clear c2;obtain rfl := oI H;(go_enter Tryz.func125, Tryz.ntmps125);(go_wp2);(go_ret);exact ⟨rfl, bb⟩)
 ·rw [if_neg c2] at H
  have c2b0 : (a0.toList == ([] : List UInt8)) = false := beq_eq_false_iff_ne.mpr c2;have c2b1 : (a0.toList != ([] : List UInt8)) = true := bne_iff_ne.mpr c2;obtain ⟨t397, A3, H⟩ := oA H;(try dsimp only at H);have H' := AM H;clear H;(go_enter Tryz.func125, Tryz.ntmps125)
  go_wp2_with (first | ((with_reducible refine gC (f := 137) rfl ?_); refine gX (some 10) Tryz.func137 #[.string a0, .string (⟨#[32]⟩ : ByteArray)] ?_; (with_reducible refine (strings_Split.calls a0 (⟨#[32]⟩ : ByteArray) t397 _ ?side1 A3.out).mono ?_); (case side1 => exact eB HENV.out bb); rintro e w4 ⟨v398, rfl, ho0, hb⟩; refine ⟨_, rfl, ?_⟩; have HO399 := AM (Kd.R_lower ho0 (below_size bb)); replace HB := bH hb; (try clear hb);(try clear ho0); obtain ⟨Ao5, co5, eo5⟩ := Kd.R_slice HO399.out; subst eo5))
  go_loopg [13] k (fun kq v13 w' => ∃ (x13_1 : Int), v13 = .int .i64 x13_1 ∧ Aside0 (impl_isParticle.l0 kq t397 t397 (t397.length : Int) x13_1 = some r) ∧ Aside0 (kq ≤ k) ∧ Aside0 (Kd.R Kd.string 9 w' w.heap.size (fun _ => True) (.slice Ao5 t397.length co5) t397) ∧ Aside0 (Kd.R Kd.string 9 w' w.heap.size (fun _ => True) (.slice Ao5 t397.length co5) t397) ∧ Aside0 (Below w.heap.size w w'))
  case atStart => exact ⟨(0), rf, H', ⟨Nat.le_refl _⟩, ⟨qR HO399⟩, ⟨qR HO399⟩, ⟨bb⟩⟩
  case round =>
   clear H';(try clear c1);(try clear c2);(try clear c2b0);(try clear c2b1);(try clear p2);obtain ⟨x13_1, rfl, HA, HK1, HO_3, HO_11, HB⟩ := hrel
   cases gk with
   | zero => exact absurd HA.out (by simp [impl_isParticle.l0])
   | succ k1 =>
    have H := HA.out;clear HA;simp only [impl_isParticle.l0] at H;by_cases c6 : x13_1 < (t397.length : Int)
    ·rw [if_pos c6] at H
     have c6b0 := dT c6;clear c6;by_cases c7 : 0 ≤ x13_1
     ·rw [if_pos c7] at H
      have c7b0 := dT c7;clear c7;by_cases c8 : x13_1 < (t397.length : Int)
      ·rw [if_pos c8] at H
       have c8b0 := dT c8;clear c8;obtain ⟨t401, A9, H⟩ := oA H;(try dsimp only at H);by_cases c10 : t401 = true
       ·subst c10
        rw [if_pos rfl] at H;have H' := AM H;clear H;have p400 := pz x13_1;have q400 := qz x13_1 (t397.length : Int);obtain ⟨ad400, e400, hx400_0⟩ := Kd.at_string (rR HO_11.out).2.2 x13_1 p400 q400;cases e400;replace p400 := eq_true p400;replace q400 := eq_true q400
        go_wp2_with (first | ((with_reducible refine gC (f := 72) rfl ?_); refine gX (some 19) Tryz.func72 #[.int .i64 ((rdOf ByteArray.empty t397 x13_1).size : Int), .int .i64 1, .int .i64 12] ?_; (with_reducible refine (impl_inside.calls ((rdOf ByteArray.empty t397 x13_1).size : Int) 1 12 true _ A9.out).mono ?_); rintro e w' ⟨rfl, ⟨nd, rfl⟩⟩; refine ⟨_, rfl, ?_⟩))
        go_loopg [6] k1 (fun kq v6 w' => ∃ (x6_2 : Int), v6 = .int .i64 x6_2 ∧ Aside0 (impl_isParticle.l1 kq t397 (rdOf ByteArray.empty t397 x13_1) x6_2 t397 (t397.length : Int) x13_1 = some r) ∧ Aside0 (kq ≤ k1) ∧ Aside0 (Kd.R Kd.string 9 w' w.heap.size (fun _ => True) (.slice (some ad400) t397.length co5) t397) ∧ Aside0 (Kd.R Kd.string 9 w' w.heap.size (fun _ => True) (.slice (some ad400) t397.length co5) t397) ∧ Aside0 (Below w.heap.size w w'))
        case atStart => exact ⟨(0), rf, H', ⟨Nat.le_refl _⟩, ⟨qR HO_3⟩, ⟨qR HO_11⟩, ⟨bb⟩⟩
        case round =>
         clear H';(try clear c1);(try clear c2);(try clear c2b0);(try clear c2b1);(try clear p2);(try clear p4);(try clear q4);(try clear hx4);(try clear c6);(try clear c6b0);(try clear c7);(try clear c7b0);(try clear c8);(try clear c8b0);(try clear c10);(try clear hx400_0);(try clear p2);(try clear p400);(try clear q400);obtain ⟨x6_2, rfl, HA, HK2, HO_3, HO_11, HB⟩ := hrel
         cases gk with
         | zero => exact absurd HA.out (by simp [impl_isParticle.l1])
         | succ k2 =>
          have H := HA.out;clear HA;simp only [impl_isParticle.l1] at H;by_cases c11 : x6_2 < ((rdOf ByteArray.empty t397 x13_1).size : Int)
          ·rw [if_pos c11] at H
           have c11b0 := dT c11;clear c11;by_cases c12 : 0 ≤ x6_2
           ·rw [if_pos c12] at H
            have c12b0 := dT c12;clear c12;obtain ⟨t402, A14, H⟩ := oA H;(try dsimp only at H);by_cases c15 : t402 = true
            ·subst c15
             rw [if_pos rfl] at H;have H' := AM H;clear H;have p13 := pz x6_2;have q13 : x6_2 < ((rdOf ByteArray.empty t397 x13_1).size : Int) := oD (by assumption);have hx13 := bt_at (rdOf ByteArray.empty t397 x13_1) x6_2;replace p13 := eq_true p13;replace q13 := eq_true q13
             go_wp2_with (first | ((with_reducible refine gC (f := 100) rfl ?_); refine gX (some 30) Tryz.func100 #[.int .u8 (bt (rdOf ByteArray.empty t397 x13_1) x6_2)] ?_; (with_reducible refine (impl_isLower.calls (bt (rdOf ByteArray.empty t397 x13_1) x6_2) true _ A14.out).mono ?_); rintro e w' ⟨rfl, ⟨nd, rfl⟩⟩; refine ⟨_, rfl, ?_⟩))
             go_roundg k2
             case measure => have := HK1.out; have := HK2.out; omega
             case rel => exact ⟨(wrap64 (x6_2 + 1)), rf, H', ⟨by have := HK1.out; have := HK2.out; omega⟩, ⟨qR HO_3⟩, ⟨qR HO_11⟩, ⟨bb⟩⟩
            ·replace c15 := bE.mpr c15
             subst c15;replace H := nF H;obtain rfl := oI H;have p13 := pz x6_2;have q13 : x6_2 < ((rdOf ByteArray.empty t397 x13_1).size : Int) := oD (by assumption);have hx13 := bt_at (rdOf ByteArray.empty t397 x13_1) x6_2;replace p13 := eq_true p13;replace q13 := eq_true q13
             go_wp2_with (first | ((with_reducible refine gC (f := 100) rfl ?_); refine gX (some 30) Tryz.func100 #[.int .u8 (bt (rdOf ByteArray.empty t397 x13_1) x6_2)] ?_; (with_reducible refine (impl_isLower.calls (bt (rdOf ByteArray.empty t397 x13_1) x6_2) false _ A14.out).mono ?_); rintro e w' ⟨rfl, ⟨nd, rfl⟩⟩; refine ⟨_, rfl, ?_⟩))
             (go_ret);exact ⟨rfl, bb⟩
           ·exact nO c12 H
          ·rw [if_neg c11] at H
           have c11b0 := dF c11;clear c11;have H' := AM H;clear H;(go_wp2);(go_roundg k2)
           case measure => have := HK1.out; have := HK2.out; omega
           case rel => exact ⟨(wrap64 (x13_1 + 1)), rf, H', ⟨by have := HK1.out; have := HK2.out; omega⟩, ⟨qR HO_3⟩, ⟨qR HO_11⟩, ⟨bb⟩⟩
       ·replace c10 := bE.mpr c10
        subst c10;replace H := nF H;obtain rfl := oI H;have p400 := pz x13_1;have q400 := qz x13_1 (t397.length : Int);obtain ⟨ad400, e400, hx400_0⟩ := Kd.at_string (rR HO_11.out).2.2 x13_1 p400 q400;cases e400;replace p400 := eq_true p400;replace q400 := eq_true q400
        go_wp2_with (first | ((with_reducible refine gC (f := 72) rfl ?_); refine gX (some 19) Tryz.func72 #[.int .i64 ((rdOf ByteArray.empty t397 x13_1).size : Int), .int .i64 1, .int .i64 12] ?_; (with_reducible refine (impl_inside.calls ((rdOf ByteArray.empty t397 x13_1).size : Int) 1 12 false _ A9.out).mono ?_); rintro e w' ⟨rfl, ⟨nd, rfl⟩⟩; refine ⟨_, rfl, ?_⟩))
        (go_ret);exact ⟨rfl, bb⟩
      ·exact nO c8 H
     ·exact nO c7 H
    ·rw [if_neg c6] at H
     have c6b0 := dF c6;clear c6;obtain rfl := oI H;(go_wp2);(go_ret);exact ⟨rfl, bb⟩
def impl_IsValidName.j0 : Nat → Bool → List ByteArray → ByteArray → ByteArray → ByteArray → Option (Bool)
 | 0, _, _, _, _, _ => none
 | k + 1, x11, x404000, x404001, x404002, x404003 => if x11 = true then (some false) else ((impl_isParticle.f k x404001).bind fun t405 => (if t405 = true then ((impl_isGreatWord.f k x404002).bind fun t406 => (if t406 = true then (if x404003.toList = ([] : List UInt8) then (some true) else ((impl_isNameWord.f k x404003).bind fun t407 => (some t407))) else (some false))) else (some false)))
def impl_IsValidName.f (k : Nat) (l0_0 : List ByteArray) (a0_1 : ByteArray) (a0_2 : ByteArray) (a0_3 : ByteArray) : Option (Bool) := if (l0_0.length : Int) > 3 then (impl_IsValidName.j0 k true l0_0 a0_1 a0_2 a0_3) else ((slices_ContainsFunc_string_string.f k l0_0 ()).bind fun t404 => (impl_IsValidName.j0 k t404 l0_0 a0_1 a0_2 a0_3))
theorem impl_IsValidName.mono_l : ∀ k, (∀ y0 y1 y2 y3 y4, LeO (impl_IsValidName.j0 k y0 y1 y2 y3 y4) (impl_IsValidName.j0 (k + 1) y0 y1 y2 y3 y4))
 | 0 => fun _ _ _ _ _ r h => by simp [impl_IsValidName.j0] at h
 | k + 1 => by
  have ih0 := impl_IsValidName.mono_l k
  ·intro y0 y1 y2 y3 y4
   unfold impl_IsValidName.j0
   repeat' with_reducible first
   | exact ih0 _ _ _ _ _
   | exact impl_isGreatWord.mono _ _
   | exact impl_isNameWord.mono _ _
   | exact impl_isParticle.mono _ _
   | exact slices_ContainsFunc_string_string.mono _ _ _
   | exact LeO.refl _
   | exact LeO.none _
   | refine LeO.ite ?_ ?_
   | refine LeO.bind ?_ (fun _ => ?_)
theorem impl_IsValidName.mono : ∀ a0 a1 a2 a3 k, LeO (impl_IsValidName.f k a0 a1 a2 a3) (impl_IsValidName.f (k + 1) a0 a1 a2 a3) := by
 intro a0 a1 a2 a3 k;have ih0 := impl_IsValidName.mono_l k;unfold impl_IsValidName.f
 repeat' with_reducible first
   | exact ih0 _ _ _ _ _
   | exact impl_isGreatWord.mono _ _
   | exact impl_isNameWord.mono _ _
   | exact impl_isParticle.mono _ _
   | exact slices_ContainsFunc_string_string.mono _ _ _
   | exact LeO.refl _
   | exact LeO.none _
   | refine LeO.ite ?_ ?_
   | refine LeO.bind ?_ (fun _ => ?_)
theorem impl_IsValidName.calls (k : Nat) (A0_0 : Option Addr) (c0_0 : Nat) (l0_0 : List ByteArray) (a0_1 : ByteArray) (a0_2 : ByteArray) (a0_3 : ByteArray) (r : Bool) (w : World) (hr0_0 : Kd.C Kd.string w A0_0 l0_0.length l0_0) (hc0_0 : l0_0.length ≤ c0_0) (henv : Go.Proofs.YtbnagolaacejoaaGreatDoorW.Envs.Env [0] w) (h : impl_IsValidName.f k l0_0 a0_1 a0_2 a0_3 = some r) :
  Calls Tryz.prog 104 #[.agg #[.slice A0_0 l0_0.length c0_0, .string a0_1, .string a0_2, .string a0_3]] w fun e w' => e = .returned (.bool r) ∧ Below w.heap.size w w' := by
 have hu77 := Tryz.underlying77;have HR0_0 := AM hr0_0;have HC0_0 := AM hc0_0;clear hr0_0 hc0_0;have HB := AM (Below.refl w.heap.size w);have HENV := AM henv;clear henv;have H := h;unfold impl_IsValidName.f at H;clear h;have HC2 := AM H;clear H;(go_enter Tryz.func104, Tryz.ntmps104)
 go_upto_region 1 with (first | ((with_reducible refine gate_dst (N := 1) rfl ?_); refine bX (N := 1) (cs := #[.slice A0_0 l0_0.length c0_0, .string a0_1, .string a0_2, .string a0_3]) (t := 77) ?_; intro gb403 hg w3 hbox hb; have BK403 := AM (hbox); have GW403 := bG (w := w) hg; replace HB := bH hb; clear hb hbox hg))
 (try simp only [Act.put, List.setIfInBounds_toArray, List.set_cons_zero, List.set_cons_succ]);(go_cut [11] (fun v11 wc => ∃ (kq : Nat) (x11_1 : Bool), v11 = .bool x11_1 ∧ Aside0 (impl_IsValidName.j0 kq x11_1 l0_0 a0_1 a0_2 a0_3 = some r) ∧ Aside0 (kq ≤ k) ∧ Aside0 (wc.heap[gb403]? = some (.cells #[(.slice A0_0 l0_0.length c0_0), .string a0_1, .string a0_2, .string a0_3] 77 (0, 0))) ∧ Aside0 (Below w.heap.size w wc)))
 case first =>
  have H := HC2.out;clear HC2;by_cases c4 : (l0_0.length : Int) > 3
  ·rw [if_pos c4] at H
   have c4b0 : decide (3 < (l0_0.length : Int)) = true := dT c4;have c4b1 : decide (3 < l0_0.length) = true := dT (by omega);clear c4;(first | rw [c4b0] | rw [c4b1] | rw [c4b2] | (simp only [i64_w, i32_w]; rw [c4b0]) | skip);have H' := AM H;clear H;obtain ⟨z5_0, z5_1, z5_2, z5_3⟩ := cells4 BK403.out;(go_wp2);(go_meet)
   case rel => exact ⟨_, (true), rf, H', ⟨lE⟩, ⟨kk BK403⟩, ⟨bb⟩⟩
  ·rw [if_neg c4] at H
   have c4b0 : decide (3 < (l0_0.length : Int)) = false := dF c4;have c4b1 : decide (3 < l0_0.length) = false := dF (by omega);clear c4;(first | rw [c4b0] | rw [c4b1] | rw [c4b2] | (simp only [i64_w, i32_w]; rw [c4b0]) | skip);obtain ⟨t404, A6, H⟩ := oA H;(try dsimp only at H);have H' := AM H;clear H;obtain ⟨z7_0, z7_1, z7_2, z7_3⟩ := cells4 BK403.out
   go_wp2_with (first | (go_at_call 122; (with_reducible refine (slices_ContainsFunc_string_string.calls k _ _ l0_0 () t404 _ ?side1 ?side2 A6.out).mono ?_); (case side1 => exact cX HR0_0); (case side2 => exact HC0_0.out); rintro e w8 ⟨rfl, hb⟩; replace BK403 := bK BK403 hb; replace HB := bH hb; (try clear hb)))
   go_meet
   case rel => exact ⟨_, (t404), rf, H', ⟨lE⟩, ⟨kk BK403⟩, ⟨bb⟩⟩
 case rest =>
  clear HC2;(try clear c1);(try clear p2);(try clear c4);(try clear c4b0);(try clear c4b1);(try clear c4b2);(try clear z5_0 z5_1 z5_2 z5_3);(try clear z7_0 z7_1 z7_2 z7_3);obtain ⟨kq, x11_1, rfl, HA, HJ1, BK403, HB⟩ := hcut
  cases kq with
  | zero => exact absurd HA.out (by simp [impl_IsValidName.j0])
  | succ kj1 =>
   have H := HA.out;clear HA;simp only [impl_IsValidName.j0] at H;by_cases c9 : x11_1 = true;(·subst c9;rw [if_pos rfl] at H;obtain rfl := oI H;(go_wp2);(go_ret);exact ⟨rfl, bb⟩)
   ·replace c9 := bE.mpr c9
    subst c9;replace H := nF H;obtain ⟨t405, A10, H⟩ := oA H;(try dsimp only at H);by_cases c11 : t405 = true
    ·subst c11
     rw [if_pos rfl] at H;obtain ⟨t406, A12, H⟩ := oA H;(try dsimp only at H);by_cases c13 : t406 = true
     ·subst c13
      rw [if_pos rfl] at H;by_cases c14 : a0_3.toList = ([] : List UInt8)
      ·rw [if_pos c14] at H
       have c14b0 : (a0_3.toList == ([] : List UInt8)) = true := beq_iff_eq.mpr c14;have c14b1 : (a0_3.toList != ([] : List UInt8)) = false := bne_eq_false_iff_eq.mpr c14;clear c14;obtain rfl := oI H;obtain ⟨_,_,_,_⟩ := cells4 BK403.out
       go_wp2_with (first | ((with_reducible refine gC (f := 125) rfl ?_); refine gX (some 14) Tryz.func125 #[.string a0_1] ?_; (with_reducible refine (impl_isParticle.calls kj1 a0_1 true _ ?side1 A10.out).mono ?_); (case side1 => exact eB HENV.out bb); rintro e w16 ⟨rfl, hb⟩; refine ⟨_, rfl, ?_⟩; replace BK403 := bK BK403 hb; replace HB := bH hb; (try clear hb); obtain ⟨_,_,_,_⟩ := cells4 BK403.out) | (go_at_call 124; (with_reducible refine (impl_isGreatWord.calls kj1 a0_2 true _ A12.out).mono ?_); rintro e w' ⟨rfl, ⟨nd, rfl⟩⟩))
       (go_ret);exact ⟨rfl, bb⟩
      ·rw [if_neg c14] at H
       have c14b0 : (a0_3.toList == ([] : List UInt8)) = false := beq_eq_false_iff_ne.mpr c14;have c14b1 : (a0_3.toList != ([] : List UInt8)) = true := bne_iff_ne.mpr c14;obtain ⟨t407, A18, H⟩ := oA H;(try dsimp only at H);obtain rfl := oI H;obtain ⟨_,_,_,_⟩ := cells4 BK403.out
       go_wp2_with (first | ((with_reducible refine gC (f := 125) rfl ?_); refine gX (some 14) Tryz.func125 #[.string a0_1] ?_; (with_reducible refine (impl_isParticle.calls kj1 a0_1 true _ ?side1 A10.out).mono ?_); (case side1 => exact eB HENV.out bb); rintro e w20 ⟨rfl, hb⟩; refine ⟨_, rfl, ?_⟩; replace BK403 := bK BK403 hb; replace HB := bH hb; (try clear hb); obtain ⟨_,_,_,_⟩ := cells4 BK403.out) | (go_at_call 124; (with_reducible refine (impl_isGreatWord.calls kj1 a0_2 true _ A12.out).mono ?_); rintro e w' ⟨rfl, ⟨nd, rfl⟩⟩) | (go_at_call 126; (with_reducible refine (impl_isNameWord.calls kj1 a0_3 t407 _ A18.out).mono ?_); rintro e w' ⟨rfl, ⟨nd, rfl⟩⟩))
       (go_ret);exact ⟨rfl, bb⟩
     ·replace c13 := bE.mpr c13
      subst c13;replace H := nF H;obtain rfl := oI H;obtain ⟨_,_,_,_⟩ := cells4 BK403.out
      go_wp2_with (first | ((with_reducible refine gC (f := 125) rfl ?_); refine gX (some 14) Tryz.func125 #[.string a0_1] ?_; (with_reducible refine (impl_isParticle.calls kj1 a0_1 true _ ?side1 A10.out).mono ?_); (case side1 => exact eB HENV.out bb); rintro e w23 ⟨rfl, hb⟩; refine ⟨_, rfl, ?_⟩; replace BK403 := bK BK403 hb; replace HB := bH hb; (try clear hb); obtain ⟨_,_,_,_⟩ := cells4 BK403.out) | (go_at_call 124; (with_reducible refine (impl_isGreatWord.calls kj1 a0_2 false _ A12.out).mono ?_); rintro e w' ⟨rfl, ⟨nd, rfl⟩⟩))
      (go_ret);exact ⟨rfl, bb⟩
    ·replace c11 := bE.mpr c11
     subst c11;replace H := nF H;obtain rfl := oI H;obtain ⟨_,_,_,_⟩ := cells4 BK403.out
     go_wp2_with (first | ((with_reducible refine gC (f := 125) rfl ?_); refine gX (some 14) Tryz.func125 #[.string a0_1] ?_; (with_reducible refine (impl_isParticle.calls kj1 a0_1 false _ ?side1 A10.out).mono ?_); (case side1 => exact eB HENV.out bb); rintro e w26 ⟨rfl, hb⟩; refine ⟨_, rfl, ?_⟩; replace BK403 := bK BK403 hb; replace HB := bH hb; (try clear hb)))
     (go_ret);exact ⟨rfl, bb⟩
def impl_areNames_1.f (k : Nat) (l0_0 : List ByteArray) (a0_1 : ByteArray) (a0_2 : ByteArray) (a0_3 : ByteArray) : Option (Bool) := (impl_IsValidName.f k l0_0 a0_1 a0_2 a0_3).bind fun t409 => (some (!t409))
theorem impl_areNames_1.mono : ∀ a0 a1 a2 a3 k, LeO (impl_areNames_1.f k a0 a1 a2 a3) (impl_areNames_1.f (k + 1) a0 a1 a2 a3) := by
 intro a0 a1 a2 a3 k;unfold impl_areNames_1.f
 repeat' with_reducible first
   | exact impl_IsValidName.mono _ _ _ _ _
   | exact LeO.refl _
   | exact LeO.none _
   | refine LeO.ite ?_ ?_
   | refine LeO.bind ?_ (fun _ => ?_)
theorem impl_areNames_1.calls (k : Nat) (A0_0 : Option Addr) (c0_0 : Nat) (l0_0 : List ByteArray) (a0_1 : ByteArray) (a0_2 : ByteArray) (a0_3 : ByteArray) (r : Bool) (w : World) (hr0_0 : Kd.C Kd.string w A0_0 l0_0.length l0_0) (hc0_0 : l0_0.length ≤ c0_0) (henv : Go.Proofs.YtbnagolaacejoaaGreatDoorW.Envs.Env [0] w) (h : impl_areNames_1.f k l0_0 a0_1 a0_2 a0_3 = some r) :
  Calls Tryz.prog 103 #[.agg #[.slice A0_0 l0_0.length c0_0, .string a0_1, .string a0_2, .string a0_3]] w fun e w' => e = .returned (.bool r) ∧ Below w.heap.size w w' := by
 have hu77 := Tryz.underlying77;have HR0_0 := AM hr0_0;have HC0_0 := AM hc0_0;clear hr0_0 hc0_0;have HB := AM (Below.refl w.heap.size w);have HENV := AM henv;clear henv;have H := h;unfold impl_areNames_1.f at H;clear h;obtain ⟨t409, A2, H⟩ := oA H;(try dsimp only at H);obtain rfl := oI H;(go_enter Tryz.func103, Tryz.ntmps103)
 go_wp2_with (first | ((with_reducible refine gate_dst (N := 1) rfl ?_); refine bX (N := 1) (cs := #[.slice A0_0 l0_0.length c0_0, .string a0_1, .string a0_2, .string a0_3]) (t := 77) ?_; intro gb408 hg w3 hbox hb; have BK408 := AM (hbox); have GW408 := bG (w := w) hg; replace HB := bH hb; clear hb hbox hg; obtain ⟨_,_,_,_⟩ := cells4 BK408.out) | ((with_reducible refine gC (f := 104) rfl ?_); refine gX (some 4) Tryz.func104 #[.agg #[.slice A0_0 l0_0.length c0_0, .string a0_1, .string a0_2, .string a0_3]] ?_; (with_reducible refine (impl_IsValidName.calls k _ _ l0_0 a0_1 a0_2 a0_3 t409 _ ?side1 ?side2 ?side3 A2.out).mono ?_); (case side1 => exact cX HR0_0); (case side2 => exact HC0_0.out); (case side3 => exact eB HENV.out bb); rintro e w5 ⟨rfl, hb⟩; refine ⟨_, rfl, ?_⟩; replace BK408 := bK BK408 hb; replace HB := bH hb; (try clear hb)))
 (go_ret);exact ⟨rfl, bb⟩
def impl_Name_121.l0 : Nat → List (S77) → Int → Int → Option (Int)
 | 0, _, _, _ => none
 | k + 1, x0, x7, x8 => if x8 < x7 then (if 0 ≤ x8 then (if x8 < (x0.length : Int) then ((impl_areNames_1.f k ((rd_T77 x0 x8).f0) ((rd_T77 x0 x8).f1) ((rd_T77 x0 x8).f2) ((rd_T77 x0 x8).f3)).bind fun t411 => (if t411 = true then (some x8) else (impl_Name_121.l0 k x0 x7 (wrap64 (x8 + 1))))) else (none)) else (none)) else (some (-1))
def impl_Name_121.f (k : Nat) (l0 : List (S77)) (a1 : Unit) : Option (Int) := impl_Name_121.l0 k l0 (l0.length : Int) 0
theorem impl_Name_121.mono_l : ∀ k, (∀ y0 y1 y2, LeO (impl_Name_121.l0 k y0 y1 y2) (impl_Name_121.l0 (k + 1) y0 y1 y2))
 | 0 => fun _ _ _ r h => by simp [impl_Name_121.l0] at h
 | k + 1 => by
  have ih0 := impl_Name_121.mono_l k
  ·intro y0 y1 y2
   unfold impl_Name_121.l0
   repeat' with_reducible first
   | exact ih0 _ _ _
   | exact impl_areNames_1.mono _ _ _ _ _
   | exact LeO.refl _
   | exact LeO.none _
   | refine LeO.ite ?_ ?_
   | refine LeO.bind ?_ (fun _ => ?_)
theorem impl_Name_121.mono : ∀ a0 a1 k, LeO (impl_Name_121.f k a0 a1) (impl_Name_121.f (k + 1) a0 a1) := by
 intro a0 a1 k;have ih0 := impl_Name_121.mono_l k;unfold impl_Name_121.f
 repeat' with_reducible first
   | exact ih0 _ _ _
   | exact impl_areNames_1.mono _ _ _ _ _
   | exact LeO.refl _
   | exact LeO.none _
   | refine LeO.ite ?_ ?_
   | refine LeO.bind ?_ (fun _ => ?_)
theorem impl_Name_121.calls (k : Nat) (A0 : Option Addr) (c0 : Nat) (l0 : List (S77)) (a1 : Unit) (r : Int) (w : World) (hr0 : Kd.C k77 w A0 l0.length l0) (hc0 : l0.length ≤ c0) (henv : Go.Proofs.YtbnagolaacejoaaGreatDoorW.Envs.Env [0] w) (h : impl_Name_121.f k l0 a1 = some r) :
  Calls Tryz.prog 121 #[.slice A0 l0.length c0, .func (.func 103) #[] #[]] w fun e w' => e = .returned (.int .i64 r) ∧ Below w.heap.size w w' := by
 have hu77 := Tryz.underlying77;have HR0 := AM hr0;have HC0 := AM hc0;clear hr0 hc0;have HB := AM (Below.refl w.heap.size w);have HENV := AM henv;clear henv;(have eg103 : ∀ args W, (callFunc 103 args).run Tryz.prog W = .ok (.enter 103 args) W := fun args W => Go.Proofs.YtbnagolaacejoaaGreatDoorW.PrintLast.enters_ Tryz.func103 (by kernel_rfl) rfl args W);have H := h;unfold impl_Name_121.f at H;clear h;have H' := AM H;clear H;(go_enter Tryz.func121, Tryz.ntmps121);(go_wp2);(go_loopg [8] k (fun kq v8 w' => ∃ (x8_1 : Int), v8 = .int .i64 x8_1 ∧ Aside0 (impl_Name_121.l0 kq l0 (l0.length : Int) x8_1 = some r) ∧ Aside0 (kq ≤ k) ∧ Aside0 (Below w.heap.size w w')))
 case atStart => exact ⟨(0), rf, H', ⟨Nat.le_refl _⟩, ⟨bb⟩⟩
 case round =>
  clear H';(try clear c1);(try clear p2);obtain ⟨x8_1, rfl, HA, HK1, HB⟩ := hrel
  cases gk with
  | zero => exact absurd HA.out (by simp [impl_Name_121.l0])
  | succ k1 =>
   have H := HA.out;clear HA;simp only [impl_Name_121.l0] at H;by_cases c3 : x8_1 < (l0.length : Int)
   ·rw [if_pos c3] at H
    have c3b0 := dT c3;clear c3;by_cases c4 : 0 ≤ x8_1
    ·rw [if_pos c4] at H
     have c4b0 := dT c4;clear c4;by_cases c5 : x8_1 < (l0.length : Int)
     ·rw [if_pos c5] at H
      have c5b0 := dT c5;clear c5;obtain ⟨t411, A6, H⟩ := oA H;(try dsimp only at H);by_cases c7 : t411 = true
      ·subst c7
       rw [if_pos rfl] at H;obtain rfl := oI H;have p410 := pz x8_1;have q410 := qz x8_1 (l0.length : Int);obtain ⟨ad410, A410_0, c410_0, e410, hx410_0, hx410_1, hx410_2, hx410_3, hl410_0, hi410_0⟩ := at_T77 HR0.out x8_1 p410 q410;cases e410;replace hx410_0 := cU hx410_0;replace hx410_1 := cU hx410_1;replace hx410_2 := cU hx410_2;replace hx410_3 := cU hx410_3;have HR410_0 := AM hi410_0;have HC410_0 := AM hl410_0;clear hi410_0 hl410_0;replace p410 := eq_true p410;replace q410 := eq_true q410
       go_wp2_with (first | (go_at_fn 103; (with_reducible refine (impl_areNames_1.calls k1 _ _ ((rd_T77 l0 x8_1).f0) ((rd_T77 l0 x8_1).f1) ((rd_T77 l0 x8_1).f2) ((rd_T77 l0 x8_1).f3) true _ ?side1 ?side2 ?side3 A6.out).mono ?_); (case side1 => exact cX HR410_0); (case side2 => exact HC410_0.out); (case side3 => exact eB HENV.out bb); rintro e w8 ⟨rfl, hb⟩; replace HB := bH hb; (try clear hb)))
       (go_ret);exact ⟨rfl, bb⟩
      ·replace c7 := bE.mpr c7
       subst c7;replace H := nF H;have H' := AM H;clear H;have p410 := pz x8_1;have q410 := qz x8_1 (l0.length : Int);obtain ⟨ad410, A410_0, c410_0, e410, hx410_0, hx410_1, hx410_2, hx410_3, hl410_0, hi410_0⟩ := at_T77 HR0.out x8_1 p410 q410;cases e410;replace hx410_0 := cU hx410_0;replace hx410_1 := cU hx410_1;replace hx410_2 := cU hx410_2;replace hx410_3 := cU hx410_3;have HR410_0 := AM hi410_0;have HC410_0 := AM hl410_0;clear hi410_0 hl410_0;replace p410 := eq_true p410;replace q410 := eq_true q410
       go_wp2_with (first | (go_at_fn 103; (with_reducible refine (impl_areNames_1.calls k1 _ _ ((rd_T77 l0 x8_1).f0) ((rd_T77 l0 x8_1).f1) ((rd_T77 l0 x8_1).f2) ((rd_T77 l0 x8_1).f3) false _ ?side1 ?side2 ?side3 A6.out).mono ?_); (case side1 => exact cX HR410_0); (case side2 => exact HC410_0.out); (case side3 => exact eB HENV.out bb); rintro e w9 ⟨rfl, hb⟩; replace HB := bH hb; (try clear hb)))
       go_roundg k1
       case measure => have := HK1.out; omega
       case rel => exact ⟨(wrap64 (x8_1 + 1)), rf, H', ⟨by have := HK1.out; omega⟩, ⟨bb⟩⟩
     ·exact nO c5 H
    ·exact nO c4 H
   ·rw [if_neg c3] at H
    have c3b0 := dF c3;clear c3;obtain rfl := oI H;(go_wp2);(go_ret);exact ⟨rfl, bb⟩
def impl_Name_102.f (k : Nat) (l0 : List (S77)) (a1 : Unit) : Option (Bool) := (impl_Name_121.f k l0 a1).bind fun t412 => (some (decide (t412 ≥ 0)))
theorem impl_Name_102.mono : ∀ a0 a1 k, LeO (impl_Name_102.f k a0 a1) (impl_Name_102.f (k + 1) a0 a1) := by
 intro a0 a1 k;unfold impl_Name_102.f
 repeat' with_reducible first
   | exact impl_Name_121.mono _ _ _
   | exact LeO.refl _
   | exact LeO.none _
   | refine LeO.ite ?_ ?_
   | refine LeO.bind ?_ (fun _ => ?_)
theorem impl_Name_102.calls (k : Nat) (A0 : Option Addr) (c0 : Nat) (l0 : List (S77)) (a1 : Unit) (r : Bool) (w : World) (hr0 : Kd.C k77 w A0 l0.length l0) (hc0 : l0.length ≤ c0) (henv : Go.Proofs.YtbnagolaacejoaaGreatDoorW.Envs.Env [0] w) (h : impl_Name_102.f k l0 a1 = some r) :
  Calls Tryz.prog 102 #[.slice A0 l0.length c0, .func (.func 103) #[] #[]] w fun e w' => e = .returned (.bool r) ∧ Below w.heap.size w w' := by
 have HR0 := AM hr0;have HC0 := AM hc0;clear hr0 hc0;have HB := AM (Below.refl w.heap.size w);have HENV := AM henv;clear henv;(have eg103 : ∀ args W, (callFunc 103 args).run Tryz.prog W = .ok (.enter 103 args) W := fun args W => Go.Proofs.YtbnagolaacejoaaGreatDoorW.PrintLast.enters_ Tryz.func103 (by kernel_rfl) rfl args W);have H := h;unfold impl_Name_102.f at H;clear h;obtain ⟨t412, A3, H⟩ := oA H;(try dsimp only at H);obtain rfl := oI H;(go_enter Tryz.func102, Tryz.ntmps102)
 go_wp2_with (first | ((with_reducible refine gate_callee (f := 121) rfl ?_); refine goesL_ (some 7) rfl rfl Tryz.func121 (by kernel_rfl) rfl #[.slice A0 l0.length c0, .func (.func 103) #[] #[]] rfl (by (try simp only [List.map_toArray, List.map_cons, List.map_nil]); try rfl) ?_; (with_reducible refine (impl_Name_121.calls k _ _ l0 a1 t412 _ ?side1 ?side2 ?side3 A3.out).mono ?_); (case side1 => repeat first | exact HR0.out | with_reducible first | apply cA | apply cN | apply cD); (case side2 => exact HC0.out); (case side3 => exact eB HENV.out bb); rintro e w4 ⟨rfl, hb⟩; refine ⟨_, rfl, ?_⟩; replace HB := bH hb; (try clear hb)))
 (go_ret);exact ⟨rfl, bb⟩
def impl_areNames.f (k : Nat) (l0 : List (S77)) : Option (Bool) := if (l0.length : Int) ≤ 4 then ((impl_Name_102.f k l0 ()).bind fun t413 => (some (!t413))) else (some false)
theorem impl_areNames.mono : ∀ a0 k, LeO (impl_areNames.f k a0) (impl_areNames.f (k + 1) a0) := by
 intro a0 k;unfold impl_areNames.f
 repeat' with_reducible first
   | exact impl_Name_102.mono _ _ _
   | exact LeO.refl _
   | exact LeO.none _
   | refine LeO.ite ?_ ?_
   | refine LeO.bind ?_ (fun _ => ?_)
theorem impl_areNames.calls (k : Nat) (A0 : Option Addr) (c0 : Nat) (l0 : List (S77)) (r : Bool) (w : World) (hr0 : Kd.C k77 w A0 l0.length l0) (hc0 : l0.length ≤ c0) (henv : Go.Proofs.YtbnagolaacejoaaGreatDoorW.Envs.Env [0] w) (h : impl_areNames.f k l0 = some r) :
  Calls Tryz.prog 70 #[.slice A0 l0.length c0] w fun e w' => e = .returned (.bool r) ∧ Below w.heap.size w w' := by
 have HR0 := AM hr0;have HC0 := AM hc0;clear hr0 hc0;have HB := AM (Below.refl w.heap.size w);have HENV := AM henv;clear henv;have H := h;unfold impl_areNames.f at H;clear h;by_cases c2 : (l0.length : Int) ≤ 4
 ·rw [if_pos c2] at H
  have c2b0 := dT c2;have c2b1 : decide (l0.length ≤ 4) = true := dT (by omega);clear c2;obtain ⟨t413, A3, H⟩ := oA H;(try dsimp only at H);obtain rfl := oI H;(go_enter Tryz.func70, Tryz.ntmps70)
  go_wp2_with (first | (go_at_call 102; (with_reducible refine (impl_Name_102.calls k _ _ l0 () t413 _ ?side1 ?side2 ?side3 A3.out).mono ?_); (case side1 => repeat first | exact HR0.out | with_reducible first | apply cA | apply cN | apply cD); (case side2 => exact HC0.out); (case side3 => exact eB HENV.out bb); rintro e w4 ⟨rfl, hb⟩; replace HB := bH hb; (try clear hb)))
  (go_ret);exact ⟨rfl, bb⟩
 ·rw [if_neg c2] at H
  have c2b0 := dF c2;have c2b1 : decide (l0.length ≤ 4) = false := dF (by omega);clear c2;obtain rfl := oI H;(go_enter Tryz.func70, Tryz.ntmps70);(go_wp2);(go_ret);exact ⟨rfl, bb⟩
def impl_daysInMonth.f (a0 : Int) (a1 : Int) : Option (Int) := if a1 = 2 then (if (Int.tmod a0 4) = 0 then (if (Int.tmod a0 100) = 0 then (if (Int.tmod a0 400) = 0 then (some 29) else (some 28)) else (some 29)) else (some 28)) else (if a1 = 4 then (some 30) else (if a1 = 6 then (some 30) else (if a1 = 9 then (some 30) else (if a1 = 11 then (some 30) else (some 31)))))
theorem impl_daysInMonth.calls (a0 : Int) (a1 : Int) (r : Int) (w : World) (h : impl_daysInMonth.f a0 a1 = some r) :
  Calls Tryz.prog 105 #[.int .i64 a0, .int .i64 a1] w fun e w' => e = .returned (.int .i64 r) ∧ Drawn0 w w' := by
 have H := h;unfold impl_daysInMonth.f at H;clear h;by_cases c3 : a1 = 2;(·rw [if_pos c3] at H;have c3b0 : (a1 == 2) = true := beq_iff_eq.mpr c3;have c3b1 : (a1 != 2) = false := bne_eq_false_iff_eq.mpr c3;clear c3;by_cases c4 : (Int.tmod a0 4) = 0;(·rw [if_pos c4] at H;have c4b0 : ((Int.tmod a0 4) == 0) = true := beq_iff_eq.mpr c4;have c4b1 : ((Int.tmod a0 4) != 0) = false := bne_eq_false_iff_eq.mpr c4;clear c4;by_cases c5 : (Int.tmod a0 100) = 0;(·rw [if_pos c5] at H;have c5b0 : ((Int.tmod a0 100) == 0) = true := beq_iff_eq.mpr c5;have c5b1 : ((Int.tmod a0 100) != 0) = false := bne_eq_false_iff_eq.mpr c5;clear c5;by_cases c6 : (Int.tmod a0 400) = 0;(·rw [if_pos c6] at H;have c6b0 : ((Int.tmod a0 400) == 0) = true := beq_iff_eq.mpr c6;have c6b1 : ((Int.tmod a0 400) != 0) = false := bne_eq_false_iff_eq.mpr c6;clear c6;obtain rfl := oI H;(go_enter Tryz.func105, Tryz.ntmps105);(go_wp2);(go_ret);exact ⟨rf, dR⟩);(·rw [if_neg c6] at H;have c6b0 : ((Int.tmod a0 400) == 0) = false := beq_eq_false_iff_ne.mpr c6;have c6b1 : ((Int.tmod a0 400) != 0) = true := bne_iff_ne.mpr c6;obtain rfl := oI H;(go_enter Tryz.func105, Tryz.ntmps105);(go_wp2);(go_ret);exact ⟨rf, dR⟩));(·rw [if_neg c5] at H;have c5b0 : ((Int.tmod a0 100) == 0) = false := beq_eq_false_iff_ne.mpr c5;have c5b1 : ((Int.tmod a0 100) != 0) = true := bne_iff_ne.mpr c5;obtain rfl := oI H;(go_enter Tryz.func105, Tryz.ntmps105);(go_wp2);(go_ret);exact ⟨rf, dR⟩));(·rw [if_neg c4] at H;have c4b0 : ((Int.tmod a0 4) == 0) = false := beq_eq_false_iff_ne.mpr c4;have c4b1 : ((Int.tmod a0 4) != 0) = true := bne_iff_ne.mpr c4;obtain rfl := oI H;(go_enter Tryz.func105, Tryz.ntmps105);(go_wp2);(go_ret);exact ⟨rf, dR⟩));(·rw [if_neg c3] at H;have c3b0 : (a1 == 2) = false := beq_eq_false_iff_ne.mpr c3;have c3b1 : (a1 != 2) = true := bne_iff_ne.mpr c3;by_cases c7 : a1 = 4;(·rw [if_pos c7] at H;have c7b0 : (a1 == 4) = true := beq_iff_eq.mpr c7;have c7b1 : (a1 != 4) = false := bne_eq_false_iff_eq.mpr c7;clear c7;obtain rfl := oI H;(go_enter Tryz.func105, Tryz.ntmps105);(go_wp2);(go_ret);exact ⟨rf, dR⟩);(·rw [if_neg c7] at H;have c7b0 : (a1 == 4) = false := beq_eq_false_iff_ne.mpr c7;have c7b1 : (a1 != 4) = true := bne_iff_ne.mpr c7;by_cases c8 : a1 = 6;(·rw [if_pos c8] at H;have c8b0 : (a1 == 6) = true := beq_iff_eq.mpr c8;have c8b1 : (a1 != 6) = false := bne_eq_false_iff_eq.mpr c8;clear c8;obtain rfl := oI H;(go_enter Tryz.func105, Tryz.ntmps105);(go_wp2);(go_ret);exact ⟨rf, dR⟩);(·rw [if_neg c8] at H;have c8b0 : (a1 == 6) = false := beq_eq_false_iff_ne.mpr c8;have c8b1 : (a1 != 6) = true := bne_iff_ne.mpr c8;by_cases c9 : a1 = 9;(·rw [if_pos c9] at H;have c9b0 : (a1 == 9) = true := beq_iff_eq.mpr c9;have c9b1 : (a1 != 9) = false := bne_eq_false_iff_eq.mpr c9;clear c9;obtain rfl := oI H;(go_enter Tryz.func105, Tryz.ntmps105);(go_wp2);(go_ret);exact ⟨rf, dR⟩);(·rw [if_neg c9] at H;have c9b0 : (a1 == 9) = false := beq_eq_false_iff_ne.mpr c9;have c9b1 : (a1 != 9) = true := bne_iff_ne.mpr c9;by_cases c10 : a1 = 11;(·rw [if_pos c10] at H;have c10b0 : (a1 == 11) = true := beq_iff_eq.mpr c10;have c10b1 : (a1 != 11) = false := bne_eq_false_iff_eq.mpr c10;clear c10;obtain rfl := oI H;(go_enter Tryz.func105, Tryz.ntmps105);(go_wp2);(go_ret);exact ⟨rf, dR⟩);(·rw [if_neg c10] at H;have c10b0 : (a1 == 11) = false := beq_eq_false_iff_ne.mpr c10;have c10b1 : (a1 != 11) = true := bne_iff_ne.mpr c10;obtain rfl := oI H;(go_enter Tryz.func105, Tryz.ntmps105);(go_wp2);(go_ret);exact ⟨rf, dR⟩)))))
attribute [local go_sem high] eqA54
def impl_IsValidDate.j0 : Nat → Bool → Int → Int → Int → Bool → Option (Bool)
 | 0, _, _, _, _, _ => none
 | k + 1, x24, x415000, x415001, x415002, x415003 => if x24 = true then (some false) else (if x415001 = 0 then (some (x415002 == 0)) else ((impl_daysInMonth.f x415000 x415001).bind fun t417 => ((impl_inside.f x415002 0 t417).bind fun t418 => (some t418))))
def impl_IsValidDate.f (k : Nat) (a0_0 : Int) (a0_1 : Int) (a0_2 : Int) (a0_3 : Bool) : Option (Bool) := if (a0_0 == 0 && (a0_1 == 0 && (a0_2 == 0 && (!a0_3)))) = true then (some true) else ((impl_inside.f a0_0 1 2999).bind fun t415 => (if t415 = true then ((impl_inside.f a0_1 0 12).bind fun t416 => (if t416 = true then (if a0_3 = true then (impl_IsValidDate.j0 k (a0_1 != 0) a0_0 a0_1 a0_2 a0_3) else (impl_IsValidDate.j0 k false a0_0 a0_1 a0_2 a0_3)) else (impl_IsValidDate.j0 k true a0_0 a0_1 a0_2 a0_3))) else (impl_IsValidDate.j0 k true a0_0 a0_1 a0_2 a0_3)))
theorem impl_IsValidDate.mono_l : ∀ k, (∀ y0 y1 y2 y3 y4, LeO (impl_IsValidDate.j0 k y0 y1 y2 y3 y4) (impl_IsValidDate.j0 (k + 1) y0 y1 y2 y3 y4))
 | 0 => fun _ _ _ _ _ r h => by simp [impl_IsValidDate.j0] at h
 | k + 1 => by
  have ih0 := impl_IsValidDate.mono_l k
  ·intro y0 y1 y2 y3 y4
   unfold impl_IsValidDate.j0
   repeat' with_reducible first
   | exact ih0 _ _ _ _ _
   | exact LeO.refl _
   | exact LeO.none _
   | refine LeO.ite ?_ ?_
   | refine LeO.bind ?_ (fun _ => ?_)
theorem impl_IsValidDate.mono : ∀ a0 a1 a2 a3 k, LeO (impl_IsValidDate.f k a0 a1 a2 a3) (impl_IsValidDate.f (k + 1) a0 a1 a2 a3) := by
 intro a0 a1 a2 a3 k;have ih0 := impl_IsValidDate.mono_l k;unfold impl_IsValidDate.f
 repeat' with_reducible first
   | exact ih0 _ _ _ _ _
   | exact LeO.refl _
   | exact LeO.none _
   | refine LeO.ite ?_ ?_
   | refine LeO.bind ?_ (fun _ => ?_)
theorem impl_IsValidDate.calls (k : Nat) (a0_0 : Int) (a0_1 : Int) (a0_2 : Int) (a0_3 : Bool) (r : Bool) (w : World) (h : impl_IsValidDate.f k a0_0 a0_1 a0_2 a0_3 = some r) :
  Calls Tryz.prog 71 #[.agg #[.int .i64 a0_0, .int .i64 a0_1, .int .i64 a0_2, .bool a0_3]] w fun e w' => e = .returned (.bool r) ∧ Below w.heap.size w w' := by
 have hu54 := Tryz.underlying54;have HB := AM (Below.refl w.heap.size w);have H := h;unfold impl_IsValidDate.f at H;clear h;have HC2 := AM H;clear H;(go_enter Tryz.func71, Tryz.ntmps71)
 go_upto_if 5 with (first | ((with_reducible refine gD (N := 1) rfl ?_); refine bX (N := 1) (cs := #[.int .i64 a0_0, .int .i64 a0_1, .int .i64 a0_2, .bool a0_3]) (t := 54) ?_; intro gb414 hg w3 hbox hb; have BK414 := AM (hbox); have GW414 := bG (w := w) hg; replace HB := bH hb; clear hb hbox hg; obtain ⟨z4_0, z4_1, z4_2, z4_3⟩ := cells4 BK414.out))
 (repeat (go_quiet (first | ((with_reducible refine gD (N := 1) rfl ?_); refine bX (N := 1) (cs := #[.int .i64 a0_0, .int .i64 a0_1, .int .i64 a0_2, .bool a0_3]) (t := 54) ?_; intro gb414 hg w3 hbox hb; have BK414 := AM (hbox); have GW414 := bG (w := w) hg; replace HB := bH hb; clear hb hbox hg; obtain ⟨z4_0, z4_1, z4_2, z4_3⟩ := cells4 BK414.out)); go_upto_if 5 with (first | ((with_reducible refine gD (N := 1) rfl ?_); refine bX (N := 1) (cs := #[.int .i64 a0_0, .int .i64 a0_1, .int .i64 a0_2, .bool a0_3]) (t := 54) ?_; intro gb414 hg w3 hbox hb; have BK414 := AM (hbox); have GW414 := bG (w := w) hg; replace HB := bH hb; clear hb hbox hg; obtain ⟨z4_0, z4_1, z4_2, z4_3⟩ := cells4 BK414.out))));have H := HC2.out;clear HC2;by_cases c5 : (a0_0 == 0 && (a0_1 == 0 && (a0_2 == 0 && (!a0_3)))) = true;(·rw [if_pos c5] at H;have c5b0 : (a0_0 == 0 && (a0_1 == 0 && (a0_2 == 0 && (!a0_3)))) = true := c5;(try (have c5b1 : decide (a0_0 = 0 && (a0_1 == 0 && (a0_2 == 0 && (!a0_3)))) = true := by simpa using c5));(try (have c5b2 : (a0_0 == 0 && (a0_1 == 0 && (a0_2 == 0 && (!a0_3)))) = true := by simpa using c5));clear c5;(first | rw [c5b0] | rw [c5b1] | rw [c5b2] | (simp only [i64_w, i32_w]; rw [c5b0]) | skip);obtain rfl := oI H;(go_wp2);(repeat (go_quiet (fail); try go_wp2));(go_ret);exact ⟨rfl, bb⟩)
 ·rw [if_neg c5] at H
  (have c5b0 : (a0_0 == 0 && (a0_1 == 0 && (a0_2 == 0 && (!a0_3)))) = false := by simpa using c5);(try (have c5b1 : decide (a0_0 = 0 && (a0_1 == 0 && (a0_2 == 0 && (!a0_3)))) = false := by simpa using c5));(try (have c5b2 : (a0_0 == 0 && (a0_1 == 0 && (a0_2 == 0 && (!a0_3)))) = false := by simpa using c5));(try (have c5b3 : ¬ (a0_0 = 0 && (a0_1 == 0 && (a0_2 == 0 && (!a0_3)))) := by simpa using c5));clear c5;(first | rw [c5b0] | rw [c5b1] | rw [c5b2] | (simp only [i64_w, i32_w]; rw [c5b0]) | skip);have HC6 := AM H;clear H
  go_upto_region 3 with (fail)
  (repeat (go_quiet (fail); go_upto_region 3 with (fail)));(go_cut [24] (fun v24 wc => ∃ (kq : Nat) (x24_5 : Bool), v24 = .bool x24_5 ∧ Aside0 (impl_IsValidDate.j0 kq x24_5 a0_0 a0_1 a0_2 a0_3 = some r) ∧ Aside0 (kq ≤ k) ∧ Aside0 (wc.heap[gb414]? = some (.cells #[.int .i64 a0_0, .int .i64 a0_1, .int .i64 a0_2, .bool a0_3] 54 (0, 0))) ∧ Aside0 (Below w.heap.size w wc)))
  case first =>
   have H := HC6.out;clear HC6;obtain ⟨t415, A7, H⟩ := oA H;(try dsimp only at H);by_cases c8 : t415 = true
   ·subst c8
    rw [if_pos rfl] at H;obtain ⟨t416, A9, H⟩ := oA H;(try dsimp only at H);by_cases c10 : t416 = true
    ·subst c10
     rw [if_pos rfl] at H;by_cases c11 : a0_3 = true
     ·subst c11
      rw [if_pos rfl] at H;have H' := AM H;clear H;obtain ⟨z12_0, z12_1, z12_2, z12_3⟩ := cells4 BK414.out
      go_wp2_with (first | (go_at_call 72; (with_reducible refine (impl_inside.calls a0_0 1 2999 true _ A7.out).mono ?_); rintro e w' ⟨rfl, ⟨nd, rfl⟩⟩; (try first | exact ⟨rfl, _, wD _ _ _⟩ | exact ⟨rfl, _, Eq.trans (wD _ _ _) (congrArg (World.drewN _) (Nat.add_assoc _ _ _))⟩)) | (go_at_call 72; (with_reducible refine (impl_inside.calls a0_1 0 12 true _ A9.out).mono ?_); rintro e w' ⟨rfl, ⟨nd, rfl⟩⟩; (try first | exact ⟨rfl, _, wD _ _ _⟩ | exact ⟨rfl, _, Eq.trans (wD _ _ _) (congrArg (World.drewN _) (Nat.add_assoc _ _ _))⟩)))
      (repeat (go_quiet (first | (go_at_call 72; (with_reducible refine (impl_inside.calls a0_0 1 2999 true _ A7.out).mono ?_); rintro e w' ⟨rfl, ⟨nd, rfl⟩⟩; (try first | exact ⟨rfl, _, wD _ _ _⟩ | exact ⟨rfl, _, Eq.trans (wD _ _ _) (congrArg (World.drewN _) (Nat.add_assoc _ _ _))⟩)) | (go_at_call 72; (with_reducible refine (impl_inside.calls a0_1 0 12 true _ A9.out).mono ?_); rintro e w' ⟨rfl, ⟨nd, rfl⟩⟩; (try first | exact ⟨rfl, _, wD _ _ _⟩ | exact ⟨rfl, _, Eq.trans (wD _ _ _) (congrArg (World.drewN _) (Nat.add_assoc _ _ _))⟩))); try go_wp2_with (first | (go_at_call 72; (with_reducible refine (impl_inside.calls a0_0 1 2999 true _ A7.out).mono ?_); rintro e w' ⟨rfl, ⟨nd, rfl⟩⟩; (try first | exact ⟨rfl, _, wD _ _ _⟩ | exact ⟨rfl, _, Eq.trans (wD _ _ _) (congrArg (World.drewN _) (Nat.add_assoc _ _ _))⟩)) | (go_at_call 72; (with_reducible refine (impl_inside.calls a0_1 0 12 true _ A9.out).mono ?_); rintro e w' ⟨rfl, ⟨nd, rfl⟩⟩; (try first | exact ⟨rfl, _, wD _ _ _⟩ | exact ⟨rfl, _, Eq.trans (wD _ _ _) (congrArg (World.drewN _) (Nat.add_assoc _ _ _))⟩)))));(go_meet)
      case rel => exact ⟨_, ((a0_1 != 0)), rf, H', ⟨lE⟩, ⟨kk BK414⟩, ⟨bb⟩⟩
     ·replace c11 := bE.mpr c11
      subst c11;replace H := nF H;have H' := AM H;clear H;obtain ⟨z13_0, z13_1, z13_2, z13_3⟩ := cells4 BK414.out
      go_wp2_with (first | (go_at_call 72; (with_reducible refine (impl_inside.calls a0_0 1 2999 true _ A7.out).mono ?_); rintro e w' ⟨rfl, ⟨nd, rfl⟩⟩; (try first | exact ⟨rfl, _, wD _ _ _⟩ | exact ⟨rfl, _, Eq.trans (wD _ _ _) (congrArg (World.drewN _) (Nat.add_assoc _ _ _))⟩)) | (go_at_call 72; (with_reducible refine (impl_inside.calls a0_1 0 12 true _ A9.out).mono ?_); rintro e w' ⟨rfl, ⟨nd, rfl⟩⟩; (try first | exact ⟨rfl, _, wD _ _ _⟩ | exact ⟨rfl, _, Eq.trans (wD _ _ _) (congrArg (World.drewN _) (Nat.add_assoc _ _ _))⟩)))
      (repeat (go_quiet (first | (go_at_call 72; (with_reducible refine (impl_inside.calls a0_0 1 2999 true _ A7.out).mono ?_); rintro e w' ⟨rfl, ⟨nd, rfl⟩⟩; (try first | exact ⟨rfl, _, wD _ _ _⟩ | exact ⟨rfl, _, Eq.trans (wD _ _ _) (congrArg (World.drewN _) (Nat.add_assoc _ _ _))⟩)) | (go_at_call 72; (with_reducible refine (impl_inside.calls a0_1 0 12 true _ A9.out).mono ?_); rintro e w' ⟨rfl, ⟨nd, rfl⟩⟩; (try first | exact ⟨rfl, _, wD _ _ _⟩ | exact ⟨rfl, _, Eq.trans (wD _ _ _) (congrArg (World.drewN _) (Nat.add_assoc _ _ _))⟩))); try go_wp2_with (first | (go_at_call 72; (with_reducible refine (impl_inside.calls a0_0 1 2999 true _ A7.out).mono ?_); rintro e w' ⟨rfl, ⟨nd, rfl⟩⟩; (try first | exact ⟨rfl, _, wD _ _ _⟩ | exact ⟨rfl, _, Eq.trans (wD _ _ _) (congrArg (World.drewN _) (Nat.add_assoc _ _ _))⟩)) | (go_at_call 72; (with_reducible refine (impl_inside.calls a0_1 0 12 true _ A9.out).mono ?_); rintro e w' ⟨rfl, ⟨nd, rfl⟩⟩; (try first | exact ⟨rfl, _, wD _ _ _⟩ | exact ⟨rfl, _, Eq.trans (wD _ _ _) (congrArg (World.drewN _) (Nat.add_assoc _ _ _))⟩)))));(go_meet)
      case rel => exact ⟨_, (false), rf, H', ⟨lE⟩, ⟨kk BK414⟩, ⟨bb⟩⟩
    ·replace c10 := bE.mpr c10
     subst c10;replace H := nF H;have H' := AM H;clear H;obtain ⟨z14_0, z14_1, z14_2, z14_3⟩ := cells4 BK414.out
     go_wp2_with (first | (go_at_call 72; (with_reducible refine (impl_inside.calls a0_0 1 2999 true _ A7.out).mono ?_); rintro e w' ⟨rfl, ⟨nd, rfl⟩⟩; (try first | exact ⟨rfl, _, wD _ _ _⟩ | exact ⟨rfl, _, Eq.trans (wD _ _ _) (congrArg (World.drewN _) (Nat.add_assoc _ _ _))⟩)) | (go_at_call 72; (with_reducible refine (impl_inside.calls a0_1 0 12 false _ A9.out).mono ?_); rintro e w' ⟨rfl, ⟨nd, rfl⟩⟩; (try first | exact ⟨rfl, _, wD _ _ _⟩ | exact ⟨rfl, _, Eq.trans (wD _ _ _) (congrArg (World.drewN _) (Nat.add_assoc _ _ _))⟩)))
     (repeat (go_quiet (first | (go_at_call 72; (with_reducible refine (impl_inside.calls a0_0 1 2999 true _ A7.out).mono ?_); rintro e w' ⟨rfl, ⟨nd, rfl⟩⟩; (try first | exact ⟨rfl, _, wD _ _ _⟩ | exact ⟨rfl, _, Eq.trans (wD _ _ _) (congrArg (World.drewN _) (Nat.add_assoc _ _ _))⟩)) | (go_at_call 72; (with_reducible refine (impl_inside.calls a0_1 0 12 false _ A9.out).mono ?_); rintro e w' ⟨rfl, ⟨nd, rfl⟩⟩; (try first | exact ⟨rfl, _, wD _ _ _⟩ | exact ⟨rfl, _, Eq.trans (wD _ _ _) (congrArg (World.drewN _) (Nat.add_assoc _ _ _))⟩))); try go_wp2_with (first | (go_at_call 72; (with_reducible refine (impl_inside.calls a0_0 1 2999 true _ A7.out).mono ?_); rintro e w' ⟨rfl, ⟨nd, rfl⟩⟩; (try first | exact ⟨rfl, _, wD _ _ _⟩ | exact ⟨rfl, _, Eq.trans (wD _ _ _) (congrArg (World.drewN _) (Nat.add_assoc _ _ _))⟩)) | (go_at_call 72; (with_reducible refine (impl_inside.calls a0_1 0 12 false _ A9.out).mono ?_); rintro e w' ⟨rfl, ⟨nd, rfl⟩⟩; (try first | exact ⟨rfl, _, wD _ _ _⟩ | exact ⟨rfl, _, Eq.trans (wD _ _ _) (congrArg (World.drewN _) (Nat.add_assoc _ _ _))⟩)))));(go_meet)
     case rel => exact ⟨_, (true), rf, H', ⟨lE⟩, ⟨kk BK414⟩, ⟨bb⟩⟩
   ·replace c8 := bE.mpr c8
    subst c8;replace H := nF H;have H' := AM H;clear H;obtain ⟨z15_0, z15_1, z15_2, z15_3⟩ := cells4 BK414.out
    go_wp2_with (first | (go_at_call 72; (with_reducible refine (impl_inside.calls a0_0 1 2999 false _ A7.out).mono ?_); rintro e w' ⟨rfl, ⟨nd, rfl⟩⟩; (try first | exact ⟨rfl, _, wD _ _ _⟩ | exact ⟨rfl, _, Eq.trans (wD _ _ _) (congrArg (World.drewN _) (Nat.add_assoc _ _ _))⟩)))
    (repeat (go_quiet (first | (go_at_call 72; (with_reducible refine (impl_inside.calls a0_0 1 2999 false _ A7.out).mono ?_); rintro e w' ⟨rfl, ⟨nd, rfl⟩⟩; (try first | exact ⟨rfl, _, wD _ _ _⟩ | exact ⟨rfl, _, Eq.trans (wD _ _ _) (congrArg (World.drewN _) (Nat.add_assoc _ _ _))⟩))); try go_wp2_with (first | (go_at_call 72; (with_reducible refine (impl_inside.calls a0_0 1 2999 false _ A7.out).mono ?_); rintro e w' ⟨rfl, ⟨nd, rfl⟩⟩; (try first | exact ⟨rfl, _, wD _ _ _⟩ | exact ⟨rfl, _, Eq.trans (wD _ _ _) (congrArg (World.drewN _) (Nat.add_assoc _ _ _))⟩)))));(go_meet)
    case rel => exact ⟨_, (true), rf, H', ⟨lE⟩, ⟨kk BK414⟩, ⟨bb⟩⟩
  case rest =>
   clear HC6;(try clear c1);(try clear p2);(try clear c5);(try clear c5b0);(try clear c5b1);(try clear c5b2);(try clear c7);(try clear c8);(try clear c10);(try clear c11);(try clear z12_0 z12_1 z12_2 z12_3);(try clear z13_0 z13_1 z13_2 z13_3);(try clear z14_0 z14_1 z14_2 z14_3);(try clear z15_0 z15_1 z15_2 z15_3);(try clear z4_0 z4_1 z4_2 z4_3);obtain ⟨kq, x24_5, rfl, HA, HJ5, BK414, HB⟩ := hcut
   cases kq with
   | zero => exact absurd HA.out (by simp [impl_IsValidDate.j0])
   | succ kj5 =>
    have H := HA.out;clear HA;simp only [impl_IsValidDate.j0] at H;by_cases c16 : x24_5 = true;(·subst c16;rw [if_pos rfl] at H;obtain rfl := oI H;(go_wp2);(repeat (go_quiet (fail); try go_wp2));(go_ret);exact ⟨rfl, bb⟩)
    ·replace c16 := bE.mpr c16
     subst c16;replace H := nF H;by_cases c17 : a0_1 = 0;(·rw [if_pos c17] at H;have c17b0 : (a0_1 == 0) = true := beq_iff_eq.mpr c17;have c17b1 : (a0_1 != 0) = false := bne_eq_false_iff_eq.mpr c17;clear c17;obtain rfl := oI H;obtain ⟨_,_,_,_⟩ := cells4 BK414.out;(go_wp2);(repeat (go_quiet (fail); try go_wp2));(go_ret);exact ⟨rfl, bb⟩)
     ·rw [if_neg c17] at H
      have c17b0 : (a0_1 == 0) = false := beq_eq_false_iff_ne.mpr c17;have c17b1 : (a0_1 != 0) = true := bne_iff_ne.mpr c17;obtain ⟨t417, A19, H⟩ := oA H;(try dsimp only at H);obtain ⟨t418, A20, H⟩ := oA H;(try dsimp only at H);obtain rfl := oI H;obtain ⟨_,_,_,_⟩ := cells4 BK414.out
      go_wp2_with (first | (go_at_call 105; (with_reducible refine (impl_daysInMonth.calls a0_0 a0_1 t417 _ A19.out).mono ?_); rintro e w' ⟨rfl, ⟨nd, rfl⟩⟩; (try first | exact ⟨rfl, _, wD _ _ _⟩ | exact ⟨rfl, _, Eq.trans (wD _ _ _) (congrArg (World.drewN _) (Nat.add_assoc _ _ _))⟩)) | (go_at_call 72; (with_reducible refine (impl_inside.calls a0_2 0 t417 t418 _ A20.out).mono ?_); rintro e w' ⟨rfl, ⟨nd, rfl⟩⟩; (try first | exact ⟨rfl, _, wD _ _ _⟩ | exact ⟨rfl, _, Eq.trans (wD _ _ _) (congrArg (World.drewN _) (Nat.add_assoc _ _ _))⟩)))
      (repeat (go_quiet (first | (go_at_call 105; (with_reducible refine (impl_daysInMonth.calls a0_0 a0_1 t417 _ A19.out).mono ?_); rintro e w' ⟨rfl, ⟨nd, rfl⟩⟩; (try first | exact ⟨rfl, _, wD _ _ _⟩ | exact ⟨rfl, _, Eq.trans (wD _ _ _) (congrArg (World.drewN _) (Nat.add_assoc _ _ _))⟩)) | (go_at_call 72; (with_reducible refine (impl_inside.calls a0_2 0 t417 t418 _ A20.out).mono ?_); rintro e w' ⟨rfl, ⟨nd, rfl⟩⟩; (try first | exact ⟨rfl, _, wD _ _ _⟩ | exact ⟨rfl, _, Eq.trans (wD _ _ _) (congrArg (World.drewN _) (Nat.add_assoc _ _ _))⟩))); try go_wp2_with (first | (go_at_call 105; (with_reducible refine (impl_daysInMonth.calls a0_0 a0_1 t417 _ A19.out).mono ?_); rintro e w' ⟨rfl, ⟨nd, rfl⟩⟩; (try first | exact ⟨rfl, _, wD _ _ _⟩ | exact ⟨rfl, _, Eq.trans (wD _ _ _) (congrArg (World.drewN _) (Nat.add_assoc _ _ _))⟩)) | (go_at_call 72; (with_reducible refine (impl_inside.calls a0_2 0 t417 t418 _ A20.out).mono ?_); rintro e w' ⟨rfl, ⟨nd, rfl⟩⟩; (try first | exact ⟨rfl, _, wD _ _ _⟩ | exact ⟨rfl, _, Eq.trans (wD _ _ _) (congrArg (World.drewN _) (Nat.add_assoc _ _ _))⟩)))));(go_ret);exact ⟨rfl, bb⟩
def strings_trimLeftByte.l0 : Nat → ByteArray → Int → Option (ByteArray)
 | 0, _, _ => none
 | k + 1, x0, x1 => if (x0.size : Int) > 0 then (if 0 < (x0.size : Int) then (if (bt x0 0) = x1 then (if 1 ≤ (x0.size : Int) then (strings_trimLeftByte.l0 k (x0.extract 1 x0.size) x1) else (none)) else (some x0)) else (none)) else (some x0)
def strings_trimLeftByte.f (k : Nat) (a0 : ByteArray) (a1 : Int) : Option (ByteArray) := strings_trimLeftByte.l0 k a0 a1
theorem strings_trimLeftByte.mono_l : ∀ k, (∀ y0 y1, LeO (strings_trimLeftByte.l0 k y0 y1) (strings_trimLeftByte.l0 (k + 1) y0 y1))
 | 0 => fun _ _ r h => by simp [strings_trimLeftByte.l0] at h
 | k + 1 => by
  have ih0 := strings_trimLeftByte.mono_l k
  ·intro y0 y1
   unfold strings_trimLeftByte.l0
   repeat' with_reducible first
   | exact ih0 _ _
   | exact LeO.refl _
   | exact LeO.none _
   | refine LeO.ite ?_ ?_
   | refine LeO.bind ?_ (fun _ => ?_)
theorem strings_trimLeftByte.mono : ∀ a0 a1 k, LeO (strings_trimLeftByte.f k a0 a1) (strings_trimLeftByte.f (k + 1) a0 a1) := by
 intro a0 a1 k;have ih0 := strings_trimLeftByte.mono_l k;unfold strings_trimLeftByte.f
 repeat' with_reducible first
   | exact ih0 _ _
   | exact LeO.refl _
   | exact LeO.none _
   | refine LeO.ite ?_ ?_
   | refine LeO.bind ?_ (fun _ => ?_)
theorem strings_trimLeftByte.calls (k : Nat) (a0 : ByteArray) (a1 : Int) (r : ByteArray) (w : World) (h : strings_trimLeftByte.f k a0 a1 = some r) :
  Calls Tryz.prog 139 #[.string a0, .int .u8 a1] w fun e w' => e = .returned (.string r) ∧ Drawn0 w w' := by
 have H := h;unfold strings_trimLeftByte.f at H;clear h;have H' := AM H;clear H;(go_enter Tryz.func139, Tryz.ntmps139);(go_wp2);(go_loopg [0] k (fun kq v0 w' => ∃ (x0_1 : ByteArray), v0 = .string x0_1 ∧ Aside0 (strings_trimLeftByte.l0 kq x0_1 a1 = some r) ∧ Aside0 (kq ≤ k) ∧ Drawn0 w w'))
 case atStart => exact ⟨(a0), rf, H', ⟨Nat.le_refl _⟩, dR⟩
 case round =>
  clear H';(try clear c1);(try clear p2);obtain ⟨x0_1, rfl, HA, HK1, ⟨m1, rfl⟩⟩ := hrel
  cases gk with
  | zero => exact absurd HA.out (by simp [strings_trimLeftByte.l0])
  | succ k1 =>
   have H := HA.out;clear HA;simp only [strings_trimLeftByte.l0] at H;by_cases c3 : (x0_1.size : Int) > 0
   ·rw [if_pos c3] at H
    have c3b0 : decide (0 < (x0_1.size : Int)) = true := dT c3;have c3b1 : decide (0 < x0_1.size) = true := dT (by omega);clear c3;by_cases c4 : 0 < (x0_1.size : Int)
    ·rw [if_pos c4] at H
     have c4b0 := dT c4;have c4b1 : decide (0 < x0_1.size) = true := dT (by omega);clear c4;by_cases c6 : (bt x0_1 0) = a1
     ·rw [if_pos c6] at H
      have c6b0 : ((bt x0_1 0) == a1) = true := beq_iff_eq.mpr c6;have c6b1 : ((bt x0_1 0) != a1) = false := bne_eq_false_iff_eq.mpr c6;clear c6;by_cases c7 : 1 ≤ (x0_1.size : Int)
      ·rw [if_pos c7] at H
       have c7b0 := eq_true c7;have c7b1 := dT c7;clear c7;have H' := AM H;clear H
       have p5 : 0 ≤ (0 : Int) := (by omega)
       have q5 : 0 < x0_1.size := (by have : (0 : Int) < (x0_1.size : Int) := oD (by assumption); omega)
       have hx5 : ∀ h : 0 < x0_1.size, ((x0_1[0]'h).toNat : Int) = bt x0_1 0 := bt_at x0_1 0;clear p5;have qi5 : (0 < (x0_1.size : Int)) = True := eq_true (oD (by assumption));replace q5 := eq_true q5;(go_wp2);(go_roundg k1)
       case measure => have := HK1.out; omega
       case rel => exact ⟨(x0_1.extract 1 x0_1.size), rf, H', ⟨by have := HK1.out; omega⟩, dR⟩
      ·exact nO c7 H
     ·rw [if_neg c6] at H
      have c6b0 : ((bt x0_1 0) == a1) = false := beq_eq_false_iff_ne.mpr c6;have c6b1 : ((bt x0_1 0) != a1) = true := bne_iff_ne.mpr c6;obtain rfl := oI H
      have p5 : 0 ≤ (0 : Int) := (by omega)
      have q5 : 0 < x0_1.size := (by have : (0 : Int) < (x0_1.size : Int) := oD (by assumption); omega)
      have hx5 : ∀ h : 0 < x0_1.size, ((x0_1[0]'h).toNat : Int) = bt x0_1 0 := bt_at x0_1 0;clear p5;have qi5 : (0 < (x0_1.size : Int)) = True := eq_true (oD (by assumption));replace q5 := eq_true q5;(go_wp2);(go_ret);exact ⟨rf, dR⟩
    ·exact nO c4 H
   ·rw [if_neg c3] at H
    have c3b0 : decide (0 < (x0_1.size : Int)) = false := dF c3;have c3b1 : decide (0 < x0_1.size) = false := dF (by omega);clear c3;obtain rfl := oI H;(go_wp2);(go_ret);exact ⟨rf, dR⟩
def strings_trimRightByte.l0 : Nat → ByteArray → Int → Option (ByteArray)
 | 0, _, _ => none
 | k + 1, x0, x1 => if (x0.size : Int) > 0 then (if 0 ≤ (wrap64 ((x0.size : Int) - 1)) then (if (wrap64 ((x0.size : Int) - 1)) < (x0.size : Int) then (if (bt x0 (wrap64 ((x0.size : Int) - 1))) = x1 then (if (wrap64 ((x0.size : Int) - 1)) ≤ (x0.size : Int) then (strings_trimRightByte.l0 k (x0.extract 0 ((wrap64 ((x0.size : Int) - 1)) : Int).toNat) x1) else (none)) else (some x0)) else (none)) else (none)) else (some x0)
def strings_trimRightByte.f (k : Nat) (a0 : ByteArray) (a1 : Int) : Option (ByteArray) := strings_trimRightByte.l0 k a0 a1
theorem strings_trimRightByte.mono_l : ∀ k, (∀ y0 y1, LeO (strings_trimRightByte.l0 k y0 y1) (strings_trimRightByte.l0 (k + 1) y0 y1))
 | 0 => fun _ _ r h => by simp [strings_trimRightByte.l0] at h
 | k + 1 => by
  have ih0 := strings_trimRightByte.mono_l k
  ·intro y0 y1
   unfold strings_trimRightByte.l0
   repeat' with_reducible first
   | exact ih0 _ _
   | exact LeO.refl _
   | exact LeO.none _
   | refine LeO.ite ?_ ?_
   | refine LeO.bind ?_ (fun _ => ?_)
theorem strings_trimRightByte.mono : ∀ a0 a1 k, LeO (strings_trimRightByte.f k a0 a1) (strings_trimRightByte.f (k + 1) a0 a1) := by
 intro a0 a1 k;have ih0 := strings_trimRightByte.mono_l k;unfold strings_trimRightByte.f
 repeat' with_reducible first
   | exact ih0 _ _
   | exact LeO.refl _
   | exact LeO.none _
   | refine LeO.ite ?_ ?_
   | refine LeO.bind ?_ (fun _ => ?_)
theorem strings_trimRightByte.calls (k : Nat) (a0 : ByteArray) (a1 : Int) (r : ByteArray) (w : World) (h : strings_trimRightByte.f k a0 a1 = some r) :
  Calls Tryz.prog 140 #[.string a0, .int .u8 a1] w fun e w' => e = .returned (.string r) ∧ Drawn0 w w' := by
 have H := h;unfold strings_trimRightByte.f at H;clear h;have H' := AM H;clear H;(go_enter Tryz.func140, Tryz.ntmps140);(go_wp2);(go_loopg [0] k (fun kq v0 w' => ∃ (x0_1 : ByteArray), v0 = .string x0_1 ∧ Aside0 (strings_trimRightByte.l0 kq x0_1 a1 = some r) ∧ Aside0 (kq ≤ k) ∧ Drawn0 w w'))
 case atStart => exact ⟨(a0), rf, H', ⟨Nat.le_refl _⟩, dR⟩
 case round =>
  clear H';(try clear c1);(try clear p2);obtain ⟨x0_1, rfl, HA, HK1, ⟨m1, rfl⟩⟩ := hrel
  cases gk with
  | zero => exact absurd HA.out (by simp [strings_trimRightByte.l0])
  | succ k1 =>
   have H := HA.out;clear HA;simp only [strings_trimRightByte.l0] at H;by_cases c3 : (x0_1.size : Int) > 0
   ·rw [if_pos c3] at H
    have c3b0 : decide (0 < (x0_1.size : Int)) = true := dT c3;have c3b1 : decide (0 < x0_1.size) = true := dT (by omega);clear c3
    obtain ⟨ji4, hji4⟩ : ∃ j_ : Int, (wrap64 ((x0_1.size : Int) - 1)) = j_ := ⟨_, rfl⟩
    replace H : (if 0 ≤ (ji4) then (if (ji4) < (x0_1.size : Int) then (if (bt x0_1 (ji4)) = a1 then (if (ji4) ≤ (x0_1.size : Int) then (strings_trimRightByte.l0 k1 (x0_1.extract 0 ((ji4) : Int).toNat) a1) else (none)) else (some x0_1)) else (none)) else (none)) = some r := by first | (rw [hji4] at H; exact H) | (simp only [hji4] at H ⊢; exact H)
    have hji4w : (IntKind.i64.wrap ((x0_1.size : Int) - 1)) = ji4 := (i64_w _).trans hji4;by_cases c5 : 0 ≤ (ji4)
    ·rw [if_pos c5] at H
     have c5b0 := dT c5;clear c5;by_cases c6 : (ji4) < (x0_1.size : Int)
     ·rw [if_pos c6] at H
      have c6b0 := dT c6;clear c6;by_cases c8 : (bt x0_1 (ji4)) = a1
      ·rw [if_pos c8] at H
       have c8b0 : ((bt x0_1 (ji4)) == a1) = true := beq_iff_eq.mpr c8;have c8b1 : ((bt x0_1 (ji4)) != a1) = false := bne_eq_false_iff_eq.mpr c8;clear c8;have c9b0 := eq_true (oD (by assumption) : 0 ≤ (ji4));by_cases c10 : (ji4) ≤ (x0_1.size : Int)
       ·rw [if_pos c10] at H
        have c10b0 := eq_true c10;have c10b1 := dT c10;clear c10;have H' := AM H;clear H;have p7 : 0 ≤ ((ji4) : Int) := oD (by assumption);have q7 : (ji4) < (x0_1.size : Int) := oD (by assumption);have hx7 := bt_at x0_1 (ji4);replace p7 := eq_true p7;replace q7 := eq_true q7;(go_wp2);(go_roundg k1)
        case measure => have := HK1.out; omega
        case rel => exact ⟨(x0_1.extract 0 ((ji4) : Int).toNat), (by first | rfl | (simp; done) | (simp only [← hji4] <;> (first | rfl | simp)) | (simp [*]; done)), H', ⟨by have := HK1.out; omega⟩, dR⟩
       ·exact nO c10 H
      ·rw [if_neg c8] at H
       have c8b0 : ((bt x0_1 (ji4)) == a1) = false := beq_eq_false_iff_ne.mpr c8;have c8b1 : ((bt x0_1 (ji4)) != a1) = true := bne_iff_ne.mpr c8;obtain rfl := oI H;have p7 : 0 ≤ ((ji4) : Int) := oD (by assumption);have q7 : (ji4) < (x0_1.size : Int) := oD (by assumption);have hx7 := bt_at x0_1 (ji4);replace p7 := eq_true p7;replace q7 := eq_true q7;(go_wp2);(go_ret);exact ⟨by first | rfl | (simp; done) | (simp only [← hji4] <;> (first | rfl | simp)) | (simp [*]; done), dR⟩
     ·exact nO c6 H
    ·exact nO c5 H
   ·rw [if_neg c3] at H
    have c3b0 : decide (0 < (x0_1.size : Int)) = false := dF c3;have c3b1 : decide (0 < x0_1.size) = false := dF (by omega);clear c3;obtain rfl := oI H;(go_wp2);(go_ret);exact ⟨rf, dR⟩
def strings_Trim.f (k : Nat) (a0 : ByteArray) (a1 : ByteArray) : Option (ByteArray) := if a1.size = 1 then (if bt a1 0 < 128 then (strings_trimRightByte.f k a0 (bt a1 0)).bind (fun t => strings_trimLeftByte.f k t (bt a1 0)) else none) else none
theorem strings_Trim.mono : ∀ a0 a1 k, LeO (strings_Trim.f k a0 a1) (strings_Trim.f (k + 1) a0 a1) := by
  intro a0 a1 k;unfold strings_Trim.f;exact LeO.ite (LeO.ite (LeO.bind (strings_trimRightByte.mono _ _ _) (fun _ => strings_trimLeftByte.mono _ _ _)) (LeO.none _)) (LeO.none _)
theorem strings_Trim.none1 (k : Nat) (a0 : ByteArray) (c : Int) (r : ByteArray) (h0 : a0.size = 0) (h : strings_trimLeftByte.f k a0 c = some r) : r = a0 := by
  cases k with
  | zero => simp [strings_trimLeftByte.f, strings_trimLeftByte.l0] at h
  | succ k => simpa [strings_trimLeftByte.f, strings_trimLeftByte.l0, h0] using h.symm
theorem strings_Trim.none0 (k : Nat) (a0 : ByteArray) (c : Int) (r : ByteArray) (h0 : a0.size = 0) (h : strings_trimRightByte.f k a0 c = some r) : r = a0 := by
  cases k with
  | zero => simp [strings_trimRightByte.f, strings_trimRightByte.l0] at h
  | succ k => simpa [strings_trimRightByte.f, strings_trimRightByte.l0, h0] using h.symm
theorem strings_Trim.calls (k : Nat) (a0 : ByteArray) (a1 : ByteArray) (r : ByteArray) (w : World) (h : strings_Trim.f k a0 a1 = some r) :
    Calls Tryz.prog 127 #[.string a0, .string a1] w fun e w' => e = .returned (.string r) ∧ Drawn0 w w' := by
  unfold strings_Trim.f at h;by_cases h1 : a1.size = 1
  · rw [if_pos h1] at h
    by_cases h2 : bt a1 0 < 128
    · rw [if_pos h2] at h
      obtain ⟨t, ht, h⟩ := oB.1 h;have HT := AM ht;have HL := AM h;clear ht;clear h;(have h1i : (a1.size : Int) = 1 := by omega)
      have hz1 : ¬ a1.toList = [] := fun e => by
        have := congrArg List.length e;rw [Lib.toList_data] at this;simp at this;rw [this] at h1;simp at h1
      (have hb1 : a1.toList.isEmpty = false := by simpa using hz1);have p7 : (0 : Int) ≤ 0 := Int.le_refl _;(have q7 : (0 : Int) < (a1.size : Int) := by omega);have hx7 : ∀ h : 0 < a1.size, ((a1[0].toNat : Nat) : Int) = bt a1 0 := bt_at a1 0;have c2b0 : decide (bt a1 0 < 128) = true := dT h2;replace p7 := eq_true p7;replace q7 := eq_true q7;by_cases h3 : a0.size = 0;(·have he : a0 = ByteArray.mk #[] := ByteArray.ext (Array.eq_empty_of_size_eq_zero h3);have hr := strings_Trim.none0 k a0 _ t h3 HT.out;subst hr;have hr := strings_Trim.none1 k t _ r h3 HL.out;subst hr;(have hb0 : r.toList.isEmpty = true := by rw [he, Lib.toList_data]; rfl);(go_enter Tryz.func127, Tryz.ntmps127);(go_wp2);(go_ret);exact ⟨rfl, Drawn0.refl _⟩)
      · have hz0 : ¬ a0.toList = [] := fun e => by
          have := congrArg List.length e;rw [Lib.toList_data] at this;simp at this;rw [this] at h3;simp at h3
        (have hb0 : a0.toList.isEmpty = false := by simpa using hz0);(go_enter Tryz.func127, Tryz.ntmps127);(go_wp2);(go_quiet (first | (go_at_call 140; (with_reducible refine (strings_trimRightByte.calls k a0 _ t _ HT.out).mono ?_); rintro e w' ⟨rfl, ⟨nd, rfl⟩⟩; (try first | exact ⟨rfl, _, wD _ _ _⟩ | exact ⟨rfl, _, Eq.trans (wD _ _ _) (congrArg (World.drewN _) (Nat.add_assoc _ _ _))⟩)) | (go_at_call 139; (with_reducible refine (strings_trimLeftByte.calls k t _ r _ HL.out).mono ?_); rintro e w' ⟨rfl, ⟨nd, rfl⟩⟩; (try first | exact ⟨rfl, _, wD _ _ _⟩ | exact ⟨rfl, _, Eq.trans (wD _ _ _) (congrArg (World.drewN _) (Nat.add_assoc _ _ _))⟩))));(go_wp2);(go_ret);exact ⟨rfl, ⟨_, rfl⟩⟩
    · rw [if_neg h2] at h
      exact absurd h (by simp)
  · rw [if_neg h1] at h
    exact absurd h (by simp)
def impl_isPrintable.l0 : Nat → ByteArray → Int → Option (Bool)
 | 0, _, _ => none
 | k + 1, x0, x3 => if x3 < (x0.size : Int) then (if 0 ≤ x3 then (if (bt x0 x3) < 32 then (some false) else (if (bt x0 x3) > 126 then (some false) else (impl_isPrintable.l0 k x0 (wrap64 (x3 + 1))))) else (none)) else ((strings_Trim.f k x0 (⟨#[32]⟩ : ByteArray)).bind fun t419 => (some (t419.toList == x0.toList)))
def impl_isPrintable.f (k : Nat) (a0 : ByteArray) : Option (Bool) := impl_isPrintable.l0 k a0 0
theorem impl_isPrintable.mono_l : ∀ k, (∀ y0 y1, LeO (impl_isPrintable.l0 k y0 y1) (impl_isPrintable.l0 (k + 1) y0 y1))
 | 0 => fun _ _ r h => by simp [impl_isPrintable.l0] at h
 | k + 1 => by
  have ih0 := impl_isPrintable.mono_l k
  ·intro y0 y1
   unfold impl_isPrintable.l0
   repeat' with_reducible first
   | exact ih0 _ _
   | exact strings_Trim.mono _ _ _
   | exact LeO.refl _
   | exact LeO.none _
   | refine LeO.ite ?_ ?_
   | refine LeO.bind ?_ (fun _ => ?_)
theorem impl_isPrintable.mono : ∀ a0 k, LeO (impl_isPrintable.f k a0) (impl_isPrintable.f (k + 1) a0) := by
 intro a0 k;have ih0 := impl_isPrintable.mono_l k;unfold impl_isPrintable.f
 repeat' with_reducible first
   | exact ih0 _ _
   | exact strings_Trim.mono _ _ _
   | exact LeO.refl _
   | exact LeO.none _
   | refine LeO.ite ?_ ?_
   | refine LeO.bind ?_ (fun _ => ?_)
theorem impl_isPrintable.calls (k : Nat) (a0 : ByteArray) (r : Bool) (w : World) (h : impl_isPrintable.f k a0 = some r) :
  Calls Tryz.prog 106 #[.string a0] w fun e w' => e = .returned (.bool r) ∧ Drawn0 w w' := by
 have H := h;unfold impl_isPrintable.f at H;clear h;have H' := AM H;clear H;(go_enter Tryz.func106, Tryz.ntmps106);(go_wp2);(go_loopg [3] k (fun kq v3 w' => ∃ (x3_1 : Int), v3 = .int .i64 x3_1 ∧ Aside0 (impl_isPrintable.l0 kq a0 x3_1 = some r) ∧ Aside0 (kq ≤ k) ∧ Drawn0 w w'))
 case atStart => exact ⟨(0), rf, H', ⟨Nat.le_refl _⟩, dR⟩
 case round =>
  clear H';(try clear c1);obtain ⟨x3_1, rfl, HA, HK1, ⟨m1, rfl⟩⟩ := hrel
  cases gk with
  | zero => exact absurd HA.out (by simp [impl_isPrintable.l0])
  | succ k1 =>
   have H := HA.out;clear HA;simp only [impl_isPrintable.l0] at H;by_cases c2 : x3_1 < (a0.size : Int)
   ·rw [if_pos c2] at H
    have c2b0 := dT c2;clear c2;by_cases c3 : 0 ≤ x3_1
    ·rw [if_pos c3] at H
     have c3b0 := dT c3;clear c3;by_cases c5 : (bt a0 x3_1) < 32;(·rw [if_pos c5] at H;have c5b0 := dT c5;clear c5;obtain rfl := oI H;have p4 := pz x3_1;have q4 := qz x3_1 (a0.size : Int);have hx4 := bt_at a0 x3_1;replace p4 := eq_true p4;replace q4 := eq_true q4;(go_wp2);(go_ret);exact ⟨rf, dR⟩)
     ·rw [if_neg c5] at H
      have c5b0 := dF c5;clear c5;by_cases c7 : (bt a0 x3_1) > 126;(·rw [if_pos c7] at H;have c7b0 : decide (126 < (bt a0 x3_1)) = true := dT c7;clear c7;obtain rfl := oI H;have p4 := pz x3_1;have q4 := qz x3_1 (a0.size : Int);have hx4 := bt_at a0 x3_1;replace p4 := eq_true p4;replace q4 := eq_true q4;have p6 := pz x3_1;have q6 := qz x3_1 (a0.size : Int);have hx6 := bt_at a0 x3_1;replace p6 := eq_true p6;replace q6 := eq_true q6;(go_wp2);(go_ret);exact ⟨rf, dR⟩)
      ·rw [if_neg c7] at H
       have c7b0 : decide (126 < (bt a0 x3_1)) = false := dF c7;clear c7;have H' := AM H;clear H;have p4 := pz x3_1;have q4 := qz x3_1 (a0.size : Int);have hx4 := bt_at a0 x3_1;replace p4 := eq_true p4;replace q4 := eq_true q4;have p6 := pz x3_1;have q6 := qz x3_1 (a0.size : Int);have hx6 := bt_at a0 x3_1;replace p6 := eq_true p6;replace q6 := eq_true q6;(go_wp2);(go_roundg k1)
       case measure => have := HK1.out; omega
       case rel => exact ⟨(wrap64 (x3_1 + 1)), rf, H', ⟨by have := HK1.out; omega⟩, dR⟩
    ·exact nO c3 H
   ·rw [if_neg c2] at H
    have c2b0 := dF c2;clear c2;obtain ⟨t419, A8, H⟩ := oA H;(try dsimp only at H);obtain rfl := oI H
    go_wp2_with (first | ((with_reducible refine gate_callee (f := 127) rfl ?_); refine goesL_ (some 21) rfl rfl Tryz.func127 (by kernel_rfl) rfl #[.string a0, .string (⟨#[32]⟩ : ByteArray)] rfl (by (try simp only [List.map_toArray, List.map_cons, List.map_nil]); try rfl) ?_; (with_reducible refine (strings_Trim.calls k1 a0 (⟨#[32]⟩ : ByteArray) t419 _ A8.out).mono ?_); rintro e w' ⟨rfl, ⟨nd, rfl⟩⟩; refine ⟨_, rfl, ?_⟩))
    (go_ret);exact ⟨rf, dR⟩
def impl_isText.f (k : Nat) (a0 : ByteArray) : Option (Bool) := if (a0.size : Int) ≤ 40 then ((impl_isPrintable.f k a0).bind fun t420 => (some t420)) else (some false)
theorem impl_isText.mono : ∀ a0 k, LeO (impl_isText.f k a0) (impl_isText.f (k + 1) a0) := by
 intro a0 k;unfold impl_isText.f
 repeat' with_reducible first
   | exact impl_isPrintable.mono _ _
   | exact LeO.refl _
   | exact LeO.none _
   | refine LeO.ite ?_ ?_
   | refine LeO.bind ?_ (fun _ => ?_)
theorem impl_isText.calls (k : Nat) (a0 : ByteArray) (r : Bool) (w : World) (h : impl_isText.f k a0 = some r) :
  Calls Tryz.prog 73 #[.string a0] w fun e w' => e = .returned (.bool r) ∧ Drawn0 w w' := by
 have H := h;unfold impl_isText.f at H;clear h;by_cases c2 : (a0.size : Int) ≤ 40
 ·rw [if_pos c2] at H
  have c2b0 := dT c2;have c2b1 : decide (a0.size ≤ 40) = true := dT (by omega);clear c2;obtain ⟨t420, A3, H⟩ := oA H;(try dsimp only at H);obtain rfl := oI H;(go_enter Tryz.func73, Tryz.ntmps73)
  go_wp2_with (first | (go_at_call 106; (with_reducible refine (impl_isPrintable.calls k a0 t420 _ A3.out).mono ?_); rintro e w' ⟨rfl, ⟨nd, rfl⟩⟩))
  (go_ret);exact ⟨rf, dR⟩
 ·rw [if_neg c2] at H
  have c2b0 := dF c2;have c2b1 : decide (a0.size ≤ 40) = false := dF (by omega);clear c2;obtain rfl := oI H;(go_enter Tryz.func73, Tryz.ntmps73);(go_wp2);(go_ret);exact ⟨rf, dR⟩
def impl_IsValidEntry.j0 : Nat → Bool → ByteArray → Int → List (S77) → List (S77) → ByteArray → ByteArray → ByteArray → Int → Int → Int → Bool → Int → ByteArray → ByteArray → Option (Bool)
 | 0, _, _, _, _, _, _, _, _, _, _, _, _, _, _, _ => none
 | k + 1, x36, x422000, x422001, x422002, x422003, x422004, x422005, x422006, x422007, x422008, x422009, x422010, x422011, x422012, x422013 => if x36 = true then (some false) else ((impl_isText.f k x422004).bind fun t428 => (if t428 = true then ((impl_isText.f k x422005).bind fun t429 => (if t429 = true then ((impl_isText.f k x422006).bind fun t430 => (if t430 = true then ((impl_isText.f k x422012).bind fun t431 => (if t431 = true then (if x422013.toList = ([] : List UInt8) then (some true) else ((impl_isKey.f k x422013).bind fun t432 => (if t432 = true then (some (x422013.toList != x422000.toList)) else (some false)))) else (some false))) else (some false))) else (some false))) else (some false)))
def impl_IsValidEntry.f (k : Nat) (a0_0 : ByteArray) (a0_1 : Int) (l0_2 : List (S77)) (l0_3 : List (S77)) (a0_4 : ByteArray) (a0_5 : ByteArray) (a0_6 : ByteArray) (a0_7 : Int) (a0_8 : Int) (a0_9 : Int) (a0_10 : Bool) (a0_11 : Int) (a0_12 : ByteArray) (a0_13 : ByteArray) : Option (Bool) := (impl_isKey.f k a0_0).bind fun t422 => (if t422 = true then ((impl_isKind.f a0_1).bind fun t423 => (if t423 = true then ((impl_areNames.f k l0_2).bind fun t424 => (if t424 = true then ((impl_areNames.f k l0_3).bind fun t425 => (if t425 = true then ((impl_IsValidDate.f k a0_7 a0_8 a0_9 a0_10).bind fun t426 => (if t426 = true then ((impl_inside.f a0_11 0 9999).bind fun t427 => (impl_IsValidEntry.j0 k (!t427) a0_0 a0_1 l0_2 l0_3 a0_4 a0_5 a0_6 a0_7 a0_8 a0_9 a0_10 a0_11 a0_12 a0_13)) else (impl_IsValidEntry.j0 k true a0_0 a0_1 l0_2 l0_3 a0_4 a0_5 a0_6 a0_7 a0_8 a0_9 a0_10 a0_11 a0_12 a0_13))) else (impl_IsValidEntry.j0 k true a0_0 a0_1 l0_2 l0_3 a0_4 a0_5 a0_6 a0_7 a0_8 a0_9 a0_10 a0_11 a0_12 a0_13))) else (impl_IsValidEntry.j0 k true a0_0 a0_1 l0_2 l0_3 a0_4 a0_5 a0_6 a0_7 a0_8 a0_9 a0_10 a0_11 a0_12 a0_13))) else (impl_IsValidEntry.j0 k true a0_0 a0_1 l0_2 l0_3 a0_4 a0_5 a0_6 a0_7 a0_8 a0_9 a0_10 a0_11 a0_12 a0_13))) else (impl_IsValidEntry.j0 k true a0_0 a0_1 l0_2 l0_3 a0_4 a0_5 a0_6 a0_7 a0_8 a0_9 a0_10 a0_11 a0_12 a0_13))
theorem impl_IsValidEntry.mono_l : ∀ k, (∀ y0 y1 y2 y3 y4 y5 y6 y7 y8 y9 y10 y11 y12 y13 y14, LeO (impl_IsValidEntry.j0 k y0 y1 y2 y3 y4 y5 y6 y7 y8 y9 y10 y11 y12 y13 y14) (impl_IsValidEntry.j0 (k + 1) y0 y1 y2 y3 y4 y5 y6 y7 y8 y9 y10 y11 y12 y13 y14))
 | 0 => fun _ _ _ _ _ _ _ _ _ _ _ _ _ _ _ r h => by simp [impl_IsValidEntry.j0] at h
 | k + 1 => by
  have ih0 := impl_IsValidEntry.mono_l k
  ·intro y0 y1 y2 y3 y4 y5 y6 y7 y8 y9 y10 y11 y12 y13 y14
   unfold impl_IsValidEntry.j0
   repeat' with_reducible first
   | exact ih0 _ _ _ _ _ _ _ _ _ _ _ _ _ _ _
   | exact impl_IsValidDate.mono _ _ _ _ _
   | exact impl_areNames.mono _ _
   | exact impl_isKey.mono _ _
   | exact impl_isText.mono _ _
   | exact LeO.refl _
   | exact LeO.none _
   | refine LeO.ite ?_ ?_
   | refine LeO.bind ?_ (fun _ => ?_)
theorem impl_IsValidEntry.mono : ∀ a0 a1 a2 a3 a4 a5 a6 a7 a8 a9 a10 a11 a12 a13 k, LeO (impl_IsValidEntry.f k a0 a1 a2 a3 a4 a5 a6 a7 a8 a9 a10 a11 a12 a13) (impl_IsValidEntry.f (k + 1) a0 a1 a2 a3 a4 a5 a6 a7 a8 a9 a10 a11 a12 a13) := by
 intro a0 a1 a2 a3 a4 a5 a6 a7 a8 a9 a10 a11 a12 a13 k;have ih0 := impl_IsValidEntry.mono_l k;unfold impl_IsValidEntry.f
 repeat' with_reducible first
   | exact ih0 _ _ _ _ _ _ _ _ _ _ _ _ _ _ _
   | exact impl_IsValidDate.mono _ _ _ _ _
   | exact impl_areNames.mono _ _
   | exact impl_isKey.mono _ _
   | exact impl_isText.mono _ _
   | exact LeO.refl _
   | exact LeO.none _
   | refine LeO.ite ?_ ?_
   | refine LeO.bind ?_ (fun _ => ?_)
theorem impl_IsValidEntry.calls (k : Nat) (a0_0 : ByteArray) (a0_1 : Int) (A0_2 : Option Addr) (c0_2 : Nat) (l0_2 : List (S77)) (A0_3 : Option Addr) (c0_3 : Nat) (l0_3 : List (S77)) (a0_4 : ByteArray) (a0_5 : ByteArray) (a0_6 : ByteArray) (a0_7 : Int) (a0_8 : Int) (a0_9 : Int) (a0_10 : Bool) (a0_11 : Int) (a0_12 : ByteArray) (a0_13 : ByteArray) (r : Bool) (w : World) (hr0_2 : Kd.C k77 w A0_2 l0_2.length l0_2) (hc0_2 : l0_2.length ≤ c0_2) (hr0_3 : Kd.C k77 w A0_3 l0_3.length l0_3) (hc0_3 : l0_3.length ≤ c0_3) (henv : Go.Proofs.YtbnagolaacejoaaGreatDoorW.Envs.Env [0] w) (h : impl_IsValidEntry.f k a0_0 a0_1 l0_2 l0_3 a0_4 a0_5 a0_6 a0_7 a0_8 a0_9 a0_10 a0_11 a0_12 a0_13 = some r) :
  Calls Tryz.prog 44 #[.agg #[.string a0_0, .int .i64 a0_1, .slice A0_2 l0_2.length c0_2, .slice A0_3 l0_3.length c0_3, .string a0_4, .string a0_5, .string a0_6, .int .i64 a0_7, .int .i64 a0_8, .int .i64 a0_9, .bool a0_10, .int .i64 a0_11, .string a0_12, .string a0_13]] w fun e w' => e = .returned (.bool r) ∧ Below w.heap.size w w' := by
 have hu56 := Tryz.underlying56;have hu54 := Tryz.underlying54;have HR0_2 := AM hr0_2;have HC0_2 := AM hc0_2;clear hr0_2 hc0_2;have HR0_3 := AM hr0_3;have HC0_3 := AM hc0_3;clear hr0_3 hc0_3;have HB := AM (Below.refl w.heap.size w);have HENV := AM henv;clear henv;have H := h;unfold impl_IsValidEntry.f at H;clear h;have HC2 := AM H;clear H;(go_enter Tryz.func44, Tryz.ntmps44)
 go_upto_region 1 with (first | ((with_reducible refine gate_dst (N := 1) rfl ?_); refine bX (N := 1) (cs := #[.string a0_0, .int .i64 a0_1, .slice A0_2 l0_2.length c0_2, .slice A0_3 l0_3.length c0_3, .string a0_4, .string a0_5, .string a0_6, .int .i64 a0_7, .int .i64 a0_8, .int .i64 a0_9, .bool a0_10, .int .i64 a0_11, .string a0_12, .string a0_13]) (t := 56) ?_; intro gb421 hg w3 hbox hb; have BK421 := AM (hbox); have GW421 := bG (w := w) hg; replace HB := bH hb; clear hb hbox hg))
 (try simp only [Act.put, List.setIfInBounds_toArray, List.set_cons_zero, List.set_cons_succ]);(go_cut [36] (fun v36 wc => ∃ (kq : Nat) (x36_1 : Bool), v36 = .bool x36_1 ∧ Aside0 (impl_IsValidEntry.j0 kq x36_1 a0_0 a0_1 l0_2 l0_3 a0_4 a0_5 a0_6 a0_7 a0_8 a0_9 a0_10 a0_11 a0_12 a0_13 = some r) ∧ Aside0 (kq ≤ k) ∧ Aside0 (wc.heap[gb421]? = some (.cells #[.string a0_0, .int .i64 a0_1, (.slice A0_2 l0_2.length c0_2), (.slice A0_3 l0_3.length c0_3), .string a0_4, .string a0_5, .string a0_6, .int .i64 a0_7, .int .i64 a0_8, .int .i64 a0_9, .bool a0_10, .int .i64 a0_11, .string a0_12, .string a0_13] 56 (0, 0))) ∧ Aside0 (Below w.heap.size w wc)))
 case first =>
  have H := HC2.out;clear HC2;obtain ⟨t422, A4, H⟩ := oA H;(try dsimp only at H);by_cases c5 : t422 = true
  ·subst c5
   rw [if_pos rfl] at H;obtain ⟨t423, A6, H⟩ := oA H;(try dsimp only at H);by_cases c7 : t423 = true
   ·subst c7
    rw [if_pos rfl] at H;obtain ⟨t424, A8, H⟩ := oA H;(try dsimp only at H);by_cases c9 : t424 = true
    ·subst c9
     rw [if_pos rfl] at H;obtain ⟨t425, A10, H⟩ := oA H;(try dsimp only at H);by_cases c11 : t425 = true
     ·subst c11
      rw [if_pos rfl] at H;obtain ⟨t426, A12, H⟩ := oA H;(try dsimp only at H);by_cases c13 : t426 = true
      ·subst c13
       rw [if_pos rfl] at H;obtain ⟨t427, A14, H⟩ := oA H;(try dsimp only at H);have H' := AM H;clear H;obtain ⟨z15_0, z15_1, z15_2, z15_3, z15_4, z15_5, z15_6, z15_7, z15_8, z15_9, z15_10, z15_11, z15_12, z15_13⟩ := cells14 BK421.out
       go_wp2_with (first | ((with_reducible refine gC (f := 68) rfl ?_); refine gX (some 5) Tryz.func68 #[.string a0_0] ?_; (with_reducible refine (impl_isKey.calls k a0_0 true _ A4.out).mono ?_); rintro e w' ⟨rfl, ⟨nd, rfl⟩⟩; refine ⟨_, rfl, ?_⟩) | (go_at_call 69; (with_reducible refine (impl_isKind.calls a0_1 true _ A6.out).mono ?_); rintro e w' ⟨rfl, ⟨nd, rfl⟩⟩) | (go_at_call 70; (with_reducible refine (impl_areNames.calls k _ _ l0_2 true _ ?side1 ?side2 ?side3 A8.out).mono ?_); (case side1 => exact (cB HR0_2.out bb)); (case side2 => exact HC0_2.out); (case side3 => exact eB HENV.out bb); rintro e w16 ⟨rfl, hb⟩; replace BK421 := bK BK421 hb; replace HB := bH hb; (try clear hb); obtain ⟨z17_0, z17_1, z17_2, z17_3, z17_4, z17_5, z17_6, z17_7, z17_8, z17_9, z17_10, z17_11, z17_12, z17_13⟩ := cells14 BK421.out) | (go_at_call 70; (with_reducible refine (impl_areNames.calls k _ _ l0_3 true _ ?side1 ?side2 ?side3 A10.out).mono ?_); (case side1 => exact cX HR0_3); (case side2 => exact HC0_3.out); (case side3 => exact eB HENV.out bb); rintro e w18 ⟨rfl, hb⟩; replace BK421 := bK BK421 hb; replace HB := bH hb; (try clear hb); obtain ⟨z19_0, z19_1, z19_2, z19_3, z19_4, z19_5, z19_6, z19_7, z19_8, z19_9, z19_10, z19_11, z19_12, z19_13⟩ := cells14 BK421.out) | (go_at_call 71; (with_reducible refine (impl_IsValidDate.calls k a0_7 a0_8 a0_9 a0_10 true _ A12.out).mono ?_); rintro e w20 ⟨rfl, hb⟩; replace BK421 := bK BK421 hb; replace HB := bH hb; (try clear hb); obtain ⟨z21_0, z21_1, z21_2, z21_3, z21_4, z21_5, z21_6, z21_7, z21_8, z21_9, z21_10, z21_11, z21_12, z21_13⟩ := cells14 BK421.out) | (go_at_call 72; (with_reducible refine (impl_inside.calls a0_11 0 9999 t427 _ A14.out).mono ?_); rintro e w' ⟨rfl, ⟨nd, rfl⟩⟩))
       go_meet
       case rel => exact ⟨_, (!t427), rf, H', ⟨lE⟩, ⟨kk BK421⟩, ⟨bb⟩⟩
      ·replace c13 := bE.mpr c13
       subst c13;replace H := nF H;have H' := AM H;clear H;obtain ⟨z22_0, z22_1, z22_2, z22_3, z22_4, z22_5, z22_6, z22_7, z22_8, z22_9, z22_10, z22_11, z22_12, z22_13⟩ := cells14 BK421.out
       go_wp2_with (first | ((with_reducible refine gC (f := 68) rfl ?_); refine gX (some 5) Tryz.func68 #[.string a0_0] ?_; (with_reducible refine (impl_isKey.calls k a0_0 true _ A4.out).mono ?_); rintro e w' ⟨rfl, ⟨nd, rfl⟩⟩; refine ⟨_, rfl, ?_⟩) | (go_at_call 69; (with_reducible refine (impl_isKind.calls a0_1 true _ A6.out).mono ?_); rintro e w' ⟨rfl, ⟨nd, rfl⟩⟩) | (go_at_call 70; (with_reducible refine (impl_areNames.calls k _ _ l0_2 true _ ?side1 ?side2 ?side3 A8.out).mono ?_); (case side1 => exact (cB HR0_2.out bb)); (case side2 => exact HC0_2.out); (case side3 => exact eB HENV.out bb); rintro e w23 ⟨rfl, hb⟩; replace BK421 := bK BK421 hb; replace HB := bH hb; (try clear hb); obtain ⟨z24_0, z24_1, z24_2, z24_3, z24_4, z24_5, z24_6, z24_7, z24_8, z24_9, z24_10, z24_11, z24_12, z24_13⟩ := cells14 BK421.out) | (go_at_call 70; (with_reducible refine (impl_areNames.calls k _ _ l0_3 true _ ?side1 ?side2 ?side3 A10.out).mono ?_); (case side1 => exact cX HR0_3); (case side2 => exact HC0_3.out); (case side3 => exact eB HENV.out bb); rintro e w25 ⟨rfl, hb⟩; replace BK421 := bK BK421 hb; replace HB := bH hb; (try clear hb); obtain ⟨z26_0, z26_1, z26_2, z26_3, z26_4, z26_5, z26_6, z26_7, z26_8, z26_9, z26_10, z26_11, z26_12, z26_13⟩ := cells14 BK421.out) | (go_at_call 71; (with_reducible refine (impl_IsValidDate.calls k a0_7 a0_8 a0_9 a0_10 false _ A12.out).mono ?_); rintro e w27 ⟨rfl, hb⟩; replace BK421 := bK BK421 hb; replace HB := bH hb; (try clear hb)))
       go_meet
       case rel => exact ⟨_, (true), rf, H', ⟨lE⟩, ⟨kk BK421⟩, ⟨bb⟩⟩
     ·replace c11 := bE.mpr c11
      subst c11;replace H := nF H;have H' := AM H;clear H;obtain ⟨z28_0, z28_1, z28_2, z28_3, z28_4, z28_5, z28_6, z28_7, z28_8, z28_9, z28_10, z28_11, z28_12, z28_13⟩ := cells14 BK421.out
      go_wp2_with (first | ((with_reducible refine gC (f := 68) rfl ?_); refine gX (some 5) Tryz.func68 #[.string a0_0] ?_; (with_reducible refine (impl_isKey.calls k a0_0 true _ A4.out).mono ?_); rintro e w' ⟨rfl, ⟨nd, rfl⟩⟩; refine ⟨_, rfl, ?_⟩) | (go_at_call 69; (with_reducible refine (impl_isKind.calls a0_1 true _ A6.out).mono ?_); rintro e w' ⟨rfl, ⟨nd, rfl⟩⟩) | (go_at_call 70; (with_reducible refine (impl_areNames.calls k _ _ l0_2 true _ ?side1 ?side2 ?side3 A8.out).mono ?_); (case side1 => exact (cB HR0_2.out bb)); (case side2 => exact HC0_2.out); (case side3 => exact eB HENV.out bb); rintro e w29 ⟨rfl, hb⟩; replace BK421 := bK BK421 hb; replace HB := bH hb; (try clear hb); obtain ⟨z30_0, z30_1, z30_2, z30_3, z30_4, z30_5, z30_6, z30_7, z30_8, z30_9, z30_10, z30_11, z30_12, z30_13⟩ := cells14 BK421.out) | (go_at_call 70; (with_reducible refine (impl_areNames.calls k _ _ l0_3 false _ ?side1 ?side2 ?side3 A10.out).mono ?_); (case side1 => exact cX HR0_3); (case side2 => exact HC0_3.out); (case side3 => exact eB HENV.out bb); rintro e w31 ⟨rfl, hb⟩; replace BK421 := bK BK421 hb; replace HB := bH hb; (try clear hb)))
      go_meet
      case rel => exact ⟨_, (true), rf, H', ⟨lE⟩, ⟨kk BK421⟩, ⟨bb⟩⟩
    ·replace c9 := bE.mpr c9
     subst c9;replace H := nF H;have H' := AM H;clear H;obtain ⟨z32_0, z32_1, z32_2, z32_3, z32_4, z32_5, z32_6, z32_7, z32_8, z32_9, z32_10, z32_11, z32_12, z32_13⟩ := cells14 BK421.out
     go_wp2_with (first | ((with_reducible refine gC (f := 68) rfl ?_); refine gX (some 5) Tryz.func68 #[.string a0_0] ?_; (with_reducible refine (impl_isKey.calls k a0_0 true _ A4.out).mono ?_); rintro e w' ⟨rfl, ⟨nd, rfl⟩⟩; refine ⟨_, rfl, ?_⟩) | (go_at_call 69; (with_reducible refine (impl_isKind.calls a0_1 true _ A6.out).mono ?_); rintro e w' ⟨rfl, ⟨nd, rfl⟩⟩) | (go_at_call 70; (with_reducible refine (impl_areNames.calls k _ _ l0_2 false _ ?side1 ?side2 ?side3 A8.out).mono ?_); (case side1 => exact (cB HR0_2.out bb)); (case side2 => exact HC0_2.out); (case side3 => exact eB HENV.out bb); rintro e w33 ⟨rfl, hb⟩; replace BK421 := bK BK421 hb; replace HB := bH hb; (try clear hb)))
     go_meet
     case rel => exact ⟨_, (true), rf, H', ⟨lE⟩, ⟨kk BK421⟩, ⟨bb⟩⟩
   ·replace c7 := bE.mpr c7
    subst c7;replace H := nF H;have H' := AM H;clear H;obtain ⟨z34_0, z34_1, z34_2, z34_3, z34_4, z34_5, z34_6, z34_7, z34_8, z34_9, z34_10, z34_11, z34_12, z34_13⟩ := cells14 BK421.out
    go_wp2_with (first | ((with_reducible refine gC (f := 68) rfl ?_); refine gX (some 5) Tryz.func68 #[.string a0_0] ?_; (with_reducible refine (impl_isKey.calls k a0_0 true _ A4.out).mono ?_); rintro e w' ⟨rfl, ⟨nd, rfl⟩⟩; refine ⟨_, rfl, ?_⟩) | (go_at_call 69; (with_reducible refine (impl_isKind.calls a0_1 false _ A6.out).mono ?_); rintro e w' ⟨rfl, ⟨nd, rfl⟩⟩))
    go_meet
    case rel => exact ⟨_, (true), rf, H', ⟨lE⟩, ⟨kk BK421⟩, ⟨bb⟩⟩
  ·replace c5 := bE.mpr c5
   subst c5;replace H := nF H;have H' := AM H;clear H;obtain ⟨z35_0, z35_1, z35_2, z35_3, z35_4, z35_5, z35_6, z35_7, z35_8, z35_9, z35_10, z35_11, z35_12, z35_13⟩ := cells14 BK421.out
   go_wp2_with (first | ((with_reducible refine gC (f := 68) rfl ?_); refine gX (some 5) Tryz.func68 #[.string a0_0] ?_; (with_reducible refine (impl_isKey.calls k a0_0 false _ A4.out).mono ?_); rintro e w' ⟨rfl, ⟨nd, rfl⟩⟩; refine ⟨_, rfl, ?_⟩))
   go_meet
   case rel => exact ⟨_, (true), rf, H', ⟨lE⟩, ⟨kk BK421⟩, ⟨bb⟩⟩
 case rest =>
  clear HC2;(try clear c1);(try clear p2);(try clear c4);(try clear c5);(try clear c6);(try clear c7);(try clear c9);(try clear c11);(try clear c13);(try clear z15_0 z15_1 z15_10 z15_11 z15_12 z15_13 z15_2 z15_3 z15_4 z15_5 z15_6 z15_7 z15_8 z15_9);(try clear z17_0 z17_1 z17_10 z17_11 z17_12 z17_13 z17_2 z17_3 z17_4 z17_5 z17_6 z17_7 z17_8 z17_9);(try clear z19_0 z19_1 z19_10 z19_11 z19_12 z19_13 z19_2 z19_3 z19_4 z19_5 z19_6 z19_7 z19_8 z19_9);(try clear z21_0 z21_1 z21_10 z21_11 z21_12 z21_13 z21_2 z21_3 z21_4 z21_5 z21_6 z21_7 z21_8 z21_9);(try clear z22_0 z22_1 z22_10 z22_11 z22_12 z22_13 z22_2 z22_3 z22_4 z22_5 z22_6 z22_7 z22_8 z22_9);(try clear z24_0 z24_1 z24_10 z24_11 z24_12 z24_13 z24_2 z24_3 z24_4 z24_5 z24_6 z24_7 z24_8 z24_9);(try clear z26_0 z26_1 z26_10 z26_11 z26_12 z26_13 z26_2 z26_3 z26_4 z26_5 z26_6 z26_7 z26_8 z26_9);(try clear z28_0 z28_1 z28_10 z28_11 z28_12 z28_13 z28_2 z28_3 z28_4 z28_5 z28_6 z28_7 z28_8 z28_9);(try clear z30_0 z30_1 z30_10 z30_11 z30_12 z30_13 z30_2 z30_3 z30_4 z30_5 z30_6 z30_7 z30_8 z30_9);(try clear z32_0 z32_1 z32_10 z32_11 z32_12 z32_13 z32_2 z32_3 z32_4 z32_5 z32_6 z32_7 z32_8 z32_9);(try clear z34_0 z34_1 z34_10 z34_11 z34_12 z34_13 z34_2 z34_3 z34_4 z34_5 z34_6 z34_7 z34_8 z34_9);(try clear z35_0 z35_1 z35_10 z35_11 z35_12 z35_13 z35_2 z35_3 z35_4 z35_5 z35_6 z35_7 z35_8 z35_9);obtain ⟨kq, x36_1, rfl, HA, HJ1, BK421, HB⟩ := hcut
  cases kq with
  | zero => exact absurd HA.out (by simp [impl_IsValidEntry.j0])
  | succ kj1 =>
   have H := HA.out;clear HA;simp only [impl_IsValidEntry.j0] at H;by_cases c36 : x36_1 = true;(·subst c36;rw [if_pos rfl] at H;obtain rfl := oI H;(go_wp2);(go_ret);exact ⟨rfl, bb⟩)
   ·replace c36 := bE.mpr c36
    subst c36;replace H := nF H;obtain ⟨t428, A37, H⟩ := oA H;(try dsimp only at H);by_cases c38 : t428 = true
    ·subst c38
     rw [if_pos rfl] at H;obtain ⟨t429, A39, H⟩ := oA H;(try dsimp only at H);by_cases c40 : t429 = true
     ·subst c40
      rw [if_pos rfl] at H;obtain ⟨t430, A41, H⟩ := oA H;(try dsimp only at H);by_cases c42 : t430 = true
      ·subst c42
       rw [if_pos rfl] at H;obtain ⟨t431, A43, H⟩ := oA H;(try dsimp only at H);by_cases c44 : t431 = true
       ·subst c44
        rw [if_pos rfl] at H;by_cases c45 : a0_13.toList = ([] : List UInt8)
        ·rw [if_pos c45] at H
         have c45b0 : (a0_13.toList == ([] : List UInt8)) = true := beq_iff_eq.mpr c45;have c45b1 : (a0_13.toList != ([] : List UInt8)) = false := bne_eq_false_iff_eq.mpr c45;clear c45;obtain rfl := oI H;obtain ⟨_,_,_,_,_,_,_,_,_,_,_,_,_,_⟩ := cells14 BK421.out
         go_wp2_with (first | ((with_reducible refine gC (f := 73) rfl ?_); refine gX (some 39) Tryz.func73 #[.string a0_4] ?_; (with_reducible refine (impl_isText.calls kj1 a0_4 true _ A37.out).mono ?_); rintro e w' ⟨rfl, ⟨nd, rfl⟩⟩; refine ⟨_, rfl, ?_⟩) | (go_at_call 73; (with_reducible refine (impl_isText.calls kj1 a0_5 true _ A39.out).mono ?_); rintro e w' ⟨rfl, ⟨nd, rfl⟩⟩) | (go_at_call 73; (with_reducible refine (impl_isText.calls kj1 a0_6 true _ A41.out).mono ?_); rintro e w' ⟨rfl, ⟨nd, rfl⟩⟩) | (go_at_call 73; (with_reducible refine (impl_isText.calls kj1 a0_12 true _ A43.out).mono ?_); rintro e w' ⟨rfl, ⟨nd, rfl⟩⟩))
         (go_ret);exact ⟨rfl, bb⟩
        ·rw [if_neg c45] at H
         have c45b0 : (a0_13.toList == ([] : List UInt8)) = false := beq_eq_false_iff_ne.mpr c45;have c45b1 : (a0_13.toList != ([] : List UInt8)) = true := bne_iff_ne.mpr c45;obtain ⟨t432, A47, H⟩ := oA H;(try dsimp only at H);by_cases c48 : t432 = true
         ·subst c48
          rw [if_pos rfl] at H;obtain rfl := oI H;obtain ⟨_,_,_,_,_,_,_,_,_,_,_,_,_,_⟩ := cells14 BK421.out
          go_wp2_with (first | ((with_reducible refine gC (f := 73) rfl ?_); refine gX (some 39) Tryz.func73 #[.string a0_4] ?_; (with_reducible refine (impl_isText.calls kj1 a0_4 true _ A37.out).mono ?_); rintro e w' ⟨rfl, ⟨nd, rfl⟩⟩; refine ⟨_, rfl, ?_⟩) | (go_at_call 73; (with_reducible refine (impl_isText.calls kj1 a0_5 true _ A39.out).mono ?_); rintro e w' ⟨rfl, ⟨nd, rfl⟩⟩) | (go_at_call 73; (with_reducible refine (impl_isText.calls kj1 a0_6 true _ A41.out).mono ?_); rintro e w' ⟨rfl, ⟨nd, rfl⟩⟩) | (go_at_call 73; (with_reducible refine (impl_isText.calls kj1 a0_12 true _ A43.out).mono ?_); rintro e w' ⟨rfl, ⟨nd, rfl⟩⟩) | (go_at_call 68; (with_reducible refine (impl_isKey.calls kj1 a0_13 true _ A47.out).mono ?_); rintro e w' ⟨rfl, ⟨nd, rfl⟩⟩))
          (go_ret);exact ⟨rfl, bb⟩
         ·replace c48 := bE.mpr c48
          subst c48;replace H := nF H;obtain rfl := oI H;obtain ⟨_,_,_,_,_,_,_,_,_,_,_,_,_,_⟩ := cells14 BK421.out
          go_wp2_with (first | ((with_reducible refine gC (f := 73) rfl ?_); refine gX (some 39) Tryz.func73 #[.string a0_4] ?_; (with_reducible refine (impl_isText.calls kj1 a0_4 true _ A37.out).mono ?_); rintro e w' ⟨rfl, ⟨nd, rfl⟩⟩; refine ⟨_, rfl, ?_⟩) | (go_at_call 73; (with_reducible refine (impl_isText.calls kj1 a0_5 true _ A39.out).mono ?_); rintro e w' ⟨rfl, ⟨nd, rfl⟩⟩) | (go_at_call 73; (with_reducible refine (impl_isText.calls kj1 a0_6 true _ A41.out).mono ?_); rintro e w' ⟨rfl, ⟨nd, rfl⟩⟩) | (go_at_call 73; (with_reducible refine (impl_isText.calls kj1 a0_12 true _ A43.out).mono ?_); rintro e w' ⟨rfl, ⟨nd, rfl⟩⟩) | (go_at_call 68; (with_reducible refine (impl_isKey.calls kj1 a0_13 false _ A47.out).mono ?_); rintro e w' ⟨rfl, ⟨nd, rfl⟩⟩))
          (go_ret);exact ⟨rfl, bb⟩
       ·replace c44 := bE.mpr c44
        subst c44;replace H := nF H;obtain rfl := oI H;obtain ⟨_,_,_,_,_,_,_,_,_,_,_,_,_,_⟩ := cells14 BK421.out
        go_wp2_with (first | ((with_reducible refine gC (f := 73) rfl ?_); refine gX (some 39) Tryz.func73 #[.string a0_4] ?_; (with_reducible refine (impl_isText.calls kj1 a0_4 true _ A37.out).mono ?_); rintro e w' ⟨rfl, ⟨nd, rfl⟩⟩; refine ⟨_, rfl, ?_⟩) | (go_at_call 73; (with_reducible refine (impl_isText.calls kj1 a0_5 true _ A39.out).mono ?_); rintro e w' ⟨rfl, ⟨nd, rfl⟩⟩) | (go_at_call 73; (with_reducible refine (impl_isText.calls kj1 a0_6 true _ A41.out).mono ?_); rintro e w' ⟨rfl, ⟨nd, rfl⟩⟩) | (go_at_call 73; (with_reducible refine (impl_isText.calls kj1 a0_12 false _ A43.out).mono ?_); rintro e w' ⟨rfl, ⟨nd, rfl⟩⟩))
        (go_ret);exact ⟨rfl, bb⟩
      ·replace c42 := bE.mpr c42
       subst c42;replace H := nF H;obtain rfl := oI H;obtain ⟨_,_,_,_,_,_,_,_,_,_,_,_,_,_⟩ := cells14 BK421.out
       go_wp2_with (first | ((with_reducible refine gC (f := 73) rfl ?_); refine gX (some 39) Tryz.func73 #[.string a0_4] ?_; (with_reducible refine (impl_isText.calls kj1 a0_4 true _ A37.out).mono ?_); rintro e w' ⟨rfl, ⟨nd, rfl⟩⟩; refine ⟨_, rfl, ?_⟩) | (go_at_call 73; (with_reducible refine (impl_isText.calls kj1 a0_5 true _ A39.out).mono ?_); rintro e w' ⟨rfl, ⟨nd, rfl⟩⟩) | (go_at_call 73; (with_reducible refine (impl_isText.calls kj1 a0_6 false _ A41.out).mono ?_); rintro e w' ⟨rfl, ⟨nd, rfl⟩⟩))
       (go_ret);exact ⟨rfl, bb⟩
     ·replace c40 := bE.mpr c40
      subst c40;replace H := nF H;obtain rfl := oI H;obtain ⟨_,_,_,_,_,_,_,_,_,_,_,_,_,_⟩ := cells14 BK421.out
      go_wp2_with (first | ((with_reducible refine gC (f := 73) rfl ?_); refine gX (some 39) Tryz.func73 #[.string a0_4] ?_; (with_reducible refine (impl_isText.calls kj1 a0_4 true _ A37.out).mono ?_); rintro e w' ⟨rfl, ⟨nd, rfl⟩⟩; refine ⟨_, rfl, ?_⟩) | (go_at_call 73; (with_reducible refine (impl_isText.calls kj1 a0_5 false _ A39.out).mono ?_); rintro e w' ⟨rfl, ⟨nd, rfl⟩⟩))
      (go_ret);exact ⟨rfl, bb⟩
    ·replace c38 := bE.mpr c38
     subst c38;replace H := nF H;obtain rfl := oI H;obtain ⟨_,_,_,_,_,_,_,_,_,_,_,_,_,_⟩ := cells14 BK421.out
     go_wp2_with (first | ((with_reducible refine gC (f := 73) rfl ?_); refine gX (some 39) Tryz.func73 #[.string a0_4] ?_; (with_reducible refine (impl_isText.calls kj1 a0_4 false _ A37.out).mono ?_); rintro e w' ⟨rfl, ⟨nd, rfl⟩⟩; refine ⟨_, rfl, ?_⟩))
     (go_ret);exact ⟨rfl, bb⟩
def impl_IsValidLibrary.l0 : Nat → List (S56) → Int → Int → List (S56) → Option (Bool)
 | 0, _, _, _, _ => none
 | k + 1, x6, x7, x8, x434000 => if x8 < x7 then (if 0 ≤ x8 then (if x8 < (x6.length : Int) then ((impl_IsValidEntry.f k ((rd_T56 x6 x8).f0) ((rd_T56 x6 x8).f1) ((rd_T56 x6 x8).f2) ((rd_T56 x6 x8).f3) ((rd_T56 x6 x8).f4) ((rd_T56 x6 x8).f5) ((rd_T56 x6 x8).f6) ((rd_T56 x6 x8).f7.f0) ((rd_T56 x6 x8).f7.f1) ((rd_T56 x6 x8).f7.f2) ((rd_T56 x6 x8).f7.f3) ((rd_T56 x6 x8).f8) ((rd_T56 x6 x8).f9) ((rd_T56 x6 x8).f10)).bind fun t436 => (if t436 = true then (if x8 > 0 then (if 0 ≤ (wrap64 (x8 - 1)) then (if (wrap64 (x8 - 1)) < (x434000.length : Int) then (if ((Op.bytesLess (((rd_T56 x434000 (wrap64 (x8 - 1))).f0).toList) (((rd_T56 x6 x8).f0).toList)) = true) then (impl_IsValidLibrary.l0 k x6 x7 (wrap64 (x8 + 1)) x434000) else (some false)) else (none)) else (none)) else (impl_IsValidLibrary.l0 k x6 x7 (wrap64 (x8 + 1)) x434000)) else (some false))) else (none)) else (none)) else (some (decide ((x434000.length : Int) ≤ 8)))
def impl_IsValidLibrary.f (k : Nat) (l0_0 : List (S56)) : Option (Bool) := impl_IsValidLibrary.l0 k l0_0 (l0_0.length : Int) 0 l0_0
theorem impl_IsValidLibrary.mono_l : ∀ k, (∀ y0 y1 y2 y3, LeO (impl_IsValidLibrary.l0 k y0 y1 y2 y3) (impl_IsValidLibrary.l0 (k + 1) y0 y1 y2 y3))
 | 0 => fun _ _ _ _ r h => by simp [impl_IsValidLibrary.l0] at h
 | k + 1 => by
  have ih0 := impl_IsValidLibrary.mono_l k
  ·intro y0 y1 y2 y3
   unfold impl_IsValidLibrary.l0
   repeat' with_reducible first
   | exact ih0 _ _ _ _
   | exact impl_IsValidEntry.mono _ _ _ _ _ _ _ _ _ _ _ _ _ _ _
   | exact LeO.refl _
   | exact LeO.none _
   | refine LeO.ite ?_ ?_
   | refine LeO.bind ?_ (fun _ => ?_)
theorem impl_IsValidLibrary.mono : ∀ a0 k, LeO (impl_IsValidLibrary.f k a0) (impl_IsValidLibrary.f (k + 1) a0) := by
 intro a0 k;have ih0 := impl_IsValidLibrary.mono_l k;unfold impl_IsValidLibrary.f
 repeat' with_reducible first
   | exact ih0 _ _ _ _
   | exact impl_IsValidEntry.mono _ _ _ _ _ _ _ _ _ _ _ _ _ _ _
   | exact LeO.refl _
   | exact LeO.none _
   | refine LeO.ite ?_ ?_
   | refine LeO.bind ?_ (fun _ => ?_)
def impl_IsValidLibrary.T4 : Bool × List (List Nat × List Nat) := (true, [([], []), ([0], [0]), ([1], [1]), ([2, 1], [2]), ([3], [3]), ([4, 3], [3, 4]), ([5, 3, 3], [3, 5]), ([6], [6]), ([7, 6], [6, 7]), ([6], [6]), ([9, 6], [6, 9]), ([8, 10, 6], [6, 8, 10]), ([11, 6], [6, 11]), ([12, 6], [6, 12]), ([6], [6]), ([14, 6], [6, 14]), ([13, 15, 6], [6, 13, 15]), ([6, 16, 3], [3, 6, 16]), ([3, 17], [3, 17])])
def impl_IsValidLibrary.B4 : List Nat := [0, 1, 3, 7, 15, 31, 63, 127, 255, 127, 639, 2047, 4095, 8191, 127, 16511, 65535, 131071, 262143]
theorem impl_IsValidLibrary.tab4 : rtab .any (opsOf Tryz.f27 4) = impl_IsValidLibrary.T4 := by kernel_rfl
theorem impl_IsValidLibrary.bits4 : waitsOk impl_IsValidLibrary.T4.2 impl_IsValidLibrary.B4 = true := by kernel_rfl
theorem impl_IsValidLibrary.calls (k : Nat) (A0_0 : Option Addr) (c0_0 : Nat) (l0_0 : List (S56)) (r : Bool) (w : World) (hr0_0 : Kd.C k56 w A0_0 l0_0.length l0_0) (hc0_0 : l0_0.length ≤ c0_0) (henv : Go.Proofs.YtbnagolaacejoaaGreatDoorW.Envs.Env [0] w) (h : impl_IsValidLibrary.f k l0_0 = some r) :
  Calls Tryz.prog 27 #[.agg #[.slice A0_0 l0_0.length c0_0]] w fun e w' => e = .returned (.bool r) ∧ Below w.heap.size w w' := by
 have hu32 := Tryz.underlying32;have hu56 := Tryz.underlying56;have HR0_0 := AM hr0_0;have HC0_0 := AM hc0_0;clear hr0_0 hc0_0;have HB := AM (Below.refl w.heap.size w);have HENV := AM henv;clear henv;have H := h;unfold impl_IsValidLibrary.f at H;clear h;have H' := AM H;clear H;(go_enter Tryz.func27, Tryz.ntmps27)
 go_wp2_with (first | ((with_reducible refine gate_dst (N := 1) rfl ?_); refine bX (N := 1) (cs := #[.slice A0_0 l0_0.length c0_0]) (t := 32) ?_; intro gb433 hg w2 hbox hb; have BK433 := AM (hbox); have GW433 := bG (w := w) hg; replace HB := bH hb; clear hb hbox hg; have z3_0 : w2.cell? ⟨gb433, 0, none⟩ = some (.slice A0_0 l0_0.length c0_0) := (bC BK433.out 0).trans rfl; have Y3_0 := bF BK433.out 0))
 go_loopg [8] k (fun kq v8 w' => ∃ (x8_1 : Int), v8 = .int .i64 x8_1 ∧ Aside0 (impl_IsValidLibrary.l0 kq l0_0 (l0_0.length : Int) x8_1 l0_0 = some r) ∧ Aside0 (kq ≤ k) ∧ Aside0 (w'.heap[gb433]? = some (.cells #[(.slice A0_0 l0_0.length c0_0)] 32 (0, 0))) ∧ Aside0 (Below w.heap.size w w'))
 case atStart => exact ⟨(0), rf, H', ⟨Nat.le_refl _⟩, ⟨kk BK433⟩, ⟨bb⟩⟩
 case round =>
  clear H';(try clear c2);(try clear p2);(try clear z3_0);(try clear Y3_0);obtain ⟨x8_1, rfl, HA, HK1, BK433, HB⟩ := hrel
  cases gk with
  | zero => exact absurd HA.out (by simp [impl_IsValidLibrary.l0])
  | succ k1 =>
   have H := HA.out;clear HA;simp only [impl_IsValidLibrary.l0] at H;by_cases c4 : x8_1 < (l0_0.length : Int)
   ·rw [if_pos c4] at H
    have c4b0 := dT c4;clear c4;by_cases c5 : 0 ≤ x8_1
    ·rw [if_pos c5] at H
     have c5b0 := dT c5;clear c5;by_cases c6 : x8_1 < (l0_0.length : Int)
     ·rw [if_pos c6] at H
      have c6b0 := dT c6;clear c6;have HC7 := AM H;clear H;have p434 := pz x8_1;have q434 := qz x8_1 (l0_0.length : Int);obtain ⟨ad434, A434_2, c434_2, A434_3, c434_3, e434, hx434_0, hx434_1, hx434_2, hx434_3, hx434_4, hx434_5, hx434_6, hx434_7, hx434_8, hx434_9, hx434_10, hx434_11, hx434_12, hx434_13, hl434_2, hi434_2, hl434_3, hi434_3⟩ := at_T56 HR0_0.out x8_1 p434 q434;cases e434;replace hx434_0 := cU hx434_0;replace hx434_1 := cU hx434_1;replace hx434_2 := cU hx434_2;replace hx434_3 := cU hx434_3;replace hx434_4 := cU hx434_4;replace hx434_5 := cU hx434_5;replace hx434_6 := cU hx434_6;replace hx434_7 := cU hx434_7;replace hx434_8 := cU hx434_8;replace hx434_9 := cU hx434_9;replace hx434_10 := cU hx434_10;replace hx434_11 := cU hx434_11;replace hx434_12 := cU hx434_12;replace hx434_13 := cU hx434_13;have HR434_2 := AM hi434_2;have HC434_2 := AM hl434_2;clear hi434_2 hl434_2;have HR434_3 := AM hi434_3;have HC434_3 := AM hl434_3;clear hi434_3 hl434_3;replace p434 := eq_true p434;replace q434 := eq_true q434
      go_upto_region 4 with (first | ((with_reducible refine gate_dst (N := 4) rfl ?_); refine bX (N := 4) (cs := #[.string (⟨#[]⟩ : ByteArray), .int .i64 0, .slice none 0 0, .slice none 0 0, .string (⟨#[]⟩ : ByteArray), .string (⟨#[]⟩ : ByteArray), .string (⟨#[]⟩ : ByteArray), .int .i64 0, .int .i64 0, .int .i64 0, .bool false, .int .i64 0, .string (⟨#[]⟩ : ByteArray), .string (⟨#[]⟩ : ByteArray)]) (t := 56) ?_; intro gb435 hg w8 hbox hb; have BK435 := AM (hbox); have GW435 := bG (w := w) hg; replace HB := bH hb; have NB433_435 := AM ((by rw [hg]; exact Nat.ne_of_lt (blk_lt (g := gb433) (kk BK433)) : gb433 ≠ gb435)); have NB435_433 := AM ((by rw [hg]; exact Nat.ne_of_gt (blk_lt (g := gb433) (kk BK433)) : gb435 ≠ gb433)); replace BK433 := bK BK433 hb; clear hb hbox hg; have hnb9 := NB435_433.out; have hnc9 := NB433_435.out; obtain ⟨_,_,_,_,_,_,_,_,_,_,_,_,_,_⟩ := cells14 BK435.out; have Y10_0 := bF BK435.out 0; have Y10_1 := bF BK435.out 1; have Y10_2 := bF BK435.out 2; have Y10_3 := bF BK435.out 3; have Y10_4 := bF BK435.out 4; have Y10_5 := bF BK435.out 5; have Y10_6 := bF BK435.out 6; have Y10_7 := bF BK435.out 7; have Y10_8 := bF BK435.out 8; have Y10_9 := bF BK435.out 9; have Y10_10 := bF BK435.out 10; have Y10_11 := bF BK435.out 11; have Y10_12 := bF BK435.out 12; have Y10_13 := bF BK435.out 13))
      have H := HC7.out;clear HC7;obtain ⟨t436, A11, H⟩ := oA H;(try dsimp only at H);by_cases c12 : t436 = true
      ·subst c12
       rw [if_pos rfl] at H;by_cases c13 : x8_1 > 0
       ·rw [if_pos c13] at H
        have c13b0 : decide (0 < x8_1) = true := dT c13;clear c13;(first | rw [c13b0] | rw [c13b1] | rw [c13b2] | (simp only [i64_w, i32_w]; rw [c13b0]) | skip)
        obtain ⟨ji14, hji14⟩ : ∃ j_ : Int, (wrap64 (x8_1 - 1)) = j_ := ⟨_, rfl⟩
        replace H : (if 0 ≤ (ji14) then (if (ji14) < (l0_0.length : Int) then (if ((Op.bytesLess (((rd_T56 l0_0 (ji14)).f0).toList) (((rd_T56 l0_0 x8_1).f0).toList)) = true) then (impl_IsValidLibrary.l0 k1 l0_0 (l0_0.length : Int) (wrap64 (x8_1 + 1)) l0_0) else (some false)) else (none)) else (none)) = some r := by first | (rw [hji14] at H; exact H) | (simp only [hji14] at H ⊢; exact H)
        (try rw [hji14] at A11);have hji14w : (IntKind.i64.wrap (x8_1 - 1)) = ji14 := (i64_w _).trans hji14;by_cases c15 : 0 ≤ (ji14)
        ·rw [if_pos c15] at H
         have c15b0 := dT c15;clear c15;by_cases c16 : (ji14) < (l0_0.length : Int)
         ·rw [if_pos c16] at H
          have c16b0 := dT c16;clear c16;have HC17 := AM H;clear H;(try go_wp2)
          have n0_ : Aside0 (((((((((((((((w8.setCell ⟨gb435, 0, none⟩ (.string ((rd_T56 l0_0 x8_1).f0))).setCell ⟨gb435, 1, none⟩ (.int .i64 ((rd_T56 l0_0 x8_1).f1))).setCell ⟨gb435, 2, none⟩ (.slice A434_2 ((rd_T56 l0_0 x8_1).f2).length c434_2)).setCell ⟨gb435, 3, none⟩ (.slice A434_3 ((rd_T56 l0_0 x8_1).f3).length c434_3)).setCell ⟨gb435, 4, none⟩ (.string ((rd_T56 l0_0 x8_1).f4))).setCell ⟨gb435, 5, none⟩ (.string ((rd_T56 l0_0 x8_1).f5))).setCell ⟨gb435, 6, none⟩ (.string ((rd_T56 l0_0 x8_1).f6))).setCell ⟨gb435, 7, none⟩ (.int .i64 ((rd_T56 l0_0 x8_1).f7.f0))).setCell ⟨gb435, 8, none⟩ (.int .i64 ((rd_T56 l0_0 x8_1).f7.f1))).setCell ⟨gb435, 9, none⟩ (.int .i64 ((rd_T56 l0_0 x8_1).f7.f2))).setCell ⟨gb435, 10, none⟩ (.bool ((rd_T56 l0_0 x8_1).f7.f3))).setCell ⟨gb435, 11, none⟩ (.int .i64 ((rd_T56 l0_0 x8_1).f8))).setCell ⟨gb435, 12, none⟩ (.string ((rd_T56 l0_0 x8_1).f9))).setCell ⟨gb435, 13, none⟩ (.string ((rd_T56 l0_0 x8_1).f10))).heap[gb433]? = some (.cells #[.slice (some ad434) l0_0.length c0_0] 32 (0, 0))) := ⟨by (with_reducible repeat first | apply bN | apply bW | apply bL | refine bR ?_ NB433_435.out _); exact BK433.out⟩
          have n1_ : Aside0 (((((((((((((((w8.setCell ⟨gb435, 0, none⟩ (.string ((rd_T56 l0_0 x8_1).f0))).setCell ⟨gb435, 1, none⟩ (.int .i64 ((rd_T56 l0_0 x8_1).f1))).setCell ⟨gb435, 2, none⟩ (.slice A434_2 ((rd_T56 l0_0 x8_1).f2).length c434_2)).setCell ⟨gb435, 3, none⟩ (.slice A434_3 ((rd_T56 l0_0 x8_1).f3).length c434_3)).setCell ⟨gb435, 4, none⟩ (.string ((rd_T56 l0_0 x8_1).f4))).setCell ⟨gb435, 5, none⟩ (.string ((rd_T56 l0_0 x8_1).f5))).setCell ⟨gb435, 6, none⟩ (.string ((rd_T56 l0_0 x8_1).f6))).setCell ⟨gb435, 7, none⟩ (.int .i64 ((rd_T56 l0_0 x8_1).f7.f0))).setCell ⟨gb435, 8, none⟩ (.int .i64 ((rd_T56 l0_0 x8_1).f7.f1))).setCell ⟨gb435, 9, none⟩ (.int .i64 ((rd_T56 l0_0 x8_1).f7.f2))).setCell ⟨gb435, 10, none⟩ (.bool ((rd_T56 l0_0 x8_1).f7.f3))).setCell ⟨gb435, 11, none⟩ (.int .i64 ((rd_T56 l0_0 x8_1).f8))).setCell ⟨gb435, 12, none⟩ (.string ((rd_T56 l0_0 x8_1).f9))).setCell ⟨gb435, 13, none⟩ (.string ((rd_T56 l0_0 x8_1).f10))).heap[gb435]? = some (.cells #[.string ((rd_T56 l0_0 x8_1).f0), .int .i64 ((rd_T56 l0_0 x8_1).f1), .slice A434_2 ((rd_T56 l0_0 x8_1).f2).length c434_2, .slice A434_3 ((rd_T56 l0_0 x8_1).f3).length c434_3, .string ((rd_T56 l0_0 x8_1).f4), .string ((rd_T56 l0_0 x8_1).f5), .string ((rd_T56 l0_0 x8_1).f6), .int .i64 ((rd_T56 l0_0 x8_1).f7.f0), .int .i64 ((rd_T56 l0_0 x8_1).f7.f1), .int .i64 ((rd_T56 l0_0 x8_1).f7.f2), .bool ((rd_T56 l0_0 x8_1).f7.f3), .int .i64 ((rd_T56 l0_0 x8_1).f8), .string ((rd_T56 l0_0 x8_1).f9), .string ((rd_T56 l0_0 x8_1).f10)] 56 (0, 0))) := ⟨by (with_reducible repeat (first | refine bN ?_ _ | refine bW ?_ | refine bL ?_ _)); refine bP14 (.string (⟨#[]⟩ : ByteArray)) (.int .i64 0) (.slice none 0 0) (.slice none 0 0) (.string (⟨#[]⟩ : ByteArray)) (.string (⟨#[]⟩ : ByteArray)) (.string (⟨#[]⟩ : ByteArray)) (.int .i64 0) (.int .i64 0) (.int .i64 0) (.bool false) (.int .i64 0) (.string (⟨#[]⟩ : ByteArray)) (.string (⟨#[]⟩ : ByteArray)) ?_ _ _ _ _ _ _ _ _ _ _ _ _ _ _; (with_reducible repeat (first | refine bN ?_ _ | refine bW ?_ | refine bL ?_ _)); exact BK435.out⟩
          have n2_ : Aside0 (Below w.heap.size w ((((((((((((((w8.setCell ⟨gb435, 0, none⟩ (.string ((rd_T56 l0_0 x8_1).f0))).setCell ⟨gb435, 1, none⟩ (.int .i64 ((rd_T56 l0_0 x8_1).f1))).setCell ⟨gb435, 2, none⟩ (.slice A434_2 ((rd_T56 l0_0 x8_1).f2).length c434_2)).setCell ⟨gb435, 3, none⟩ (.slice A434_3 ((rd_T56 l0_0 x8_1).f3).length c434_3)).setCell ⟨gb435, 4, none⟩ (.string ((rd_T56 l0_0 x8_1).f4))).setCell ⟨gb435, 5, none⟩ (.string ((rd_T56 l0_0 x8_1).f5))).setCell ⟨gb435, 6, none⟩ (.string ((rd_T56 l0_0 x8_1).f6))).setCell ⟨gb435, 7, none⟩ (.int .i64 ((rd_T56 l0_0 x8_1).f7.f0))).setCell ⟨gb435, 8, none⟩ (.int .i64 ((rd_T56 l0_0 x8_1).f7.f1))).setCell ⟨gb435, 9, none⟩ (.int .i64 ((rd_T56 l0_0 x8_1).f7.f2))).setCell ⟨gb435, 10, none⟩ (.bool ((rd_T56 l0_0 x8_1).f7.f3))).setCell ⟨gb435, 11, none⟩ (.int .i64 ((rd_T56 l0_0 x8_1).f8))).setCell ⟨gb435, 12, none⟩ (.string ((rd_T56 l0_0 x8_1).f9))).setCell ⟨gb435, 13, none⟩ (.string ((rd_T56 l0_0 x8_1).f10)))) := ⟨bb⟩
          (try clear BK433);(try clear BK435);(try clear HB);generalize ((((((((((((((w8.setCell ⟨gb435, 0, none⟩ (.string ((rd_T56 l0_0 x8_1).f0))).setCell ⟨gb435, 1, none⟩ (.int .i64 ((rd_T56 l0_0 x8_1).f1))).setCell ⟨gb435, 2, none⟩ (.slice A434_2 ((rd_T56 l0_0 x8_1).f2).length c434_2)).setCell ⟨gb435, 3, none⟩ (.slice A434_3 ((rd_T56 l0_0 x8_1).f3).length c434_3)).setCell ⟨gb435, 4, none⟩ (.string ((rd_T56 l0_0 x8_1).f4))).setCell ⟨gb435, 5, none⟩ (.string ((rd_T56 l0_0 x8_1).f5))).setCell ⟨gb435, 6, none⟩ (.string ((rd_T56 l0_0 x8_1).f6))).setCell ⟨gb435, 7, none⟩ (.int .i64 ((rd_T56 l0_0 x8_1).f7.f0))).setCell ⟨gb435, 8, none⟩ (.int .i64 ((rd_T56 l0_0 x8_1).f7.f1))).setCell ⟨gb435, 9, none⟩ (.int .i64 ((rd_T56 l0_0 x8_1).f7.f2))).setCell ⟨gb435, 10, none⟩ (.bool ((rd_T56 l0_0 x8_1).f7.f3))).setCell ⟨gb435, 11, none⟩ (.int .i64 ((rd_T56 l0_0 x8_1).f8))).setCell ⟨gb435, 12, none⟩ (.string ((rd_T56 l0_0 x8_1).f9))).setCell ⟨gb435, 13, none⟩ (.string ((rd_T56 l0_0 x8_1).f10))) = w18 at n0_ n1_ n2_ ⊢;have BK433 := n0_;have BK435 := n1_;have HB := n2_;clear n0_ n1_ n2_;replace BK433 := AM (bW BK433.out);replace BK435 := AM (bW BK435.out);replace HB := AM (p1 HB.out);have p437 : 0 ≤ ((ji14) : Int) := oD (by assumption);have q437 : (ji14) < (l0_0.length : Int) := oD (by assumption);obtain ⟨ad437, A437_2, c437_2, A437_3, c437_3, e437, hx437_0, hx437_1, hx437_2, hx437_3, hx437_4, hx437_5, hx437_6, hx437_7, hx437_8, hx437_9, hx437_10, hx437_11, hx437_12, hx437_13, hl437_2, hi437_2, hl437_3, hi437_3⟩ := at_T56 HR0_0.out (ji14) p437 q437;have hw437_0 := hx437_0
          obtain rfl : ad434 = ad437 := (by injection e437)
          replace hx437_0 := cU hx437_0;have HR437_2 := AM hi437_2;have HC437_2 := AM hl437_2;clear hi437_2 hl437_2;have HR437_3 := AM hi437_3;have HC437_3 := AM hl437_3;clear hi437_3 hl437_3;replace p437 := eq_true p437;replace q437 := eq_true q437;(refine start_ (n := 19) (S := fun w' => B14 w' gb435 (.string ((rd_T56 l0_0 x8_1).f0)) (.int .i64 ((rd_T56 l0_0 x8_1).f1)) (.slice A434_2 ((rd_T56 l0_0 x8_1).f2).length c434_2) (.slice A434_3 ((rd_T56 l0_0 x8_1).f3).length c434_3) (.string ((rd_T56 l0_0 x8_1).f4)) (.string ((rd_T56 l0_0 x8_1).f5)) (.string ((rd_T56 l0_0 x8_1).f6)) (.int .i64 ((rd_T56 l0_0 x8_1).f7.f0)) (.int .i64 ((rd_T56 l0_0 x8_1).f7.f1)) (.int .i64 ((rd_T56 l0_0 x8_1).f7.f2)) (.bool ((rd_T56 l0_0 x8_1).f7.f3)) (.int .i64 ((rd_T56 l0_0 x8_1).f8)) (.string ((rd_T56 l0_0 x8_1).f9)) (.string ((rd_T56 l0_0 x8_1).f10)) (w'.cell? ⟨gb433, 0, none⟩ = some (.slice (some ad434) l0_0.length c0_0) ∧ w'.cell? (ad434.add (((ji14)).toNat * 14)) = some (.string ((rd_T56 l0_0 (ji14)).f0)))) (ds := []) (bA 19 0) (by kernel_rfl) rfl rfl ⟨(bC BK435.out 0).trans rfl, (bC BK435.out 1).trans rfl, (bC BK435.out 2).trans rfl, (bC BK435.out 3).trans rfl, (bC BK435.out 4).trans rfl, (bC BK435.out 5).trans rfl, (bC BK435.out 6).trans rfl, (bC BK435.out 7).trans rfl, (bC BK435.out 8).trans rfl, (bC BK435.out 9).trans rfl, (bC BK435.out 10).trans rfl, (bC BK435.out 11).trans rfl, (bC BK435.out 12).trans rfl, (bC BK435.out 13).trans rfl, (bC BK433.out 0).trans rfl, (cU hw437_0)⟩ (fun hHeld => ?_); refine with_tabW impl_IsValidLibrary.tab4 impl_IsValidLibrary.bits4 (fun HT_ HW_ => ?_));generalize w18.drew = w19 at BK433 BK435 HB HR437_2 HR437_3 hx437_0 hx437_1 hx437_10 hx437_11 hx437_12 hx437_13 hx437_2 hx437_3 hx437_4 hx437_5 hx437_6 hx437_7 hx437_8 hx437_9 hHeld ⊢;refine tP 0 (some 13) (bA 19 1) HT_ HW_ hHeld ?_;refine oP 1 (some 14) (bA 19 3) HT_ (fun K hK => ?_);refine gV Tryz.func44 #[.agg #[.string ((rd_T56 l0_0 x8_1).f0), .int .i64 ((rd_T56 l0_0 x8_1).f1), .slice A434_2 ((rd_T56 l0_0 x8_1).f2).length c434_2, .slice A434_3 ((rd_T56 l0_0 x8_1).f3).length c434_3, .string ((rd_T56 l0_0 x8_1).f4), .string ((rd_T56 l0_0 x8_1).f5), .string ((rd_T56 l0_0 x8_1).f6), .int .i64 ((rd_T56 l0_0 x8_1).f7.f0), .int .i64 ((rd_T56 l0_0 x8_1).f7.f1), .int .i64 ((rd_T56 l0_0 x8_1).f7.f2), .bool ((rd_T56 l0_0 x8_1).f7.f3), .int .i64 ((rd_T56 l0_0 x8_1).f8), .string ((rd_T56 l0_0 x8_1).f9), .string ((rd_T56 l0_0 x8_1).f10)]] ?_;(with_reducible refine (impl_IsValidEntry.calls k1 ((rd_T56 l0_0 x8_1).f0) ((rd_T56 l0_0 x8_1).f1) _ _ ((rd_T56 l0_0 x8_1).f2) _ _ ((rd_T56 l0_0 x8_1).f3) ((rd_T56 l0_0 x8_1).f4) ((rd_T56 l0_0 x8_1).f5) ((rd_T56 l0_0 x8_1).f6) ((rd_T56 l0_0 x8_1).f7.f0) ((rd_T56 l0_0 x8_1).f7.f1) ((rd_T56 l0_0 x8_1).f7.f2) ((rd_T56 l0_0 x8_1).f7.f3) ((rd_T56 l0_0 x8_1).f8) ((rd_T56 l0_0 x8_1).f9) ((rd_T56 l0_0 x8_1).f10) true _ ?side1 ?side2 ?side3 ?side4 ?side5 A11.out).mono ?_);(case side1 => exact cX HR434_2);(case side2 => exact HC434_2.out);(case side3 => exact cX HR434_3);(case side4 => exact HC434_3.out);(case side5 => exact eB HENV.out bb);rintro e w20 ⟨rfl, hb⟩;refine ⟨_, rfl, ?_⟩;replace BK433 := bK BK433 hb;replace BK435 := bK BK435 hb;replace HB := bH hb;(try clear hb);refine hK.out _ _ ⟨(bC BK435.out 0).trans rfl, (bC BK435.out 1).trans rfl, (bC BK435.out 2).trans rfl, (bC BK435.out 3).trans rfl, (bC BK435.out 4).trans rfl, (bC BK435.out 5).trans rfl, (bC BK435.out 6).trans rfl, (bC BK435.out 7).trans rfl, (bC BK435.out 8).trans rfl, (bC BK435.out 9).trans rfl, (bC BK435.out 10).trans rfl, (bC BK435.out 11).trans rfl, (bC BK435.out 12).trans rfl, (bC BK435.out 13).trans rfl, (bC BK433.out 0).trans rfl, (cU hw437_0)⟩ (fun hHeld => ?_);clear hK K;refine nP ?_;refine pP 2 (some 15) (bA 19 7) HT_ ?_;refine pP 3 (some 16) (bA 19 15) HT_ ?_;refine pP 4 (some 17) (bA 19 31) HT_ ?_;refine pP 5 (some 18) (bA 19 63) HT_ ?_;refine pP 6 (some 19) (bA 19 127) HT_ ?_;refine pP 7 (some 20) (bA 19 255) HT_ ?_;refine pP 9 (some 22) (bA 19 767) HT_ ?_;refine pP 10 (some 23) (bA 19 1791) HT_ ?_;refine pP 14 (some 27) (bA 19 18175) HT_ ?_;refine tP 8 (some 21) (bA 19 18431) HT_ HW_ hHeld ?_;refine pP 11 (some 24) (bA 19 20479) HT_ ?_;refine pP 12 (some 25) (bA 19 24575) HT_ ?_;refine tP 13 (some 26) (bA 19 32767) HT_ HW_ hHeld ?_;refine tP 15 (some 28) (bA 19 65535) HT_ HW_ hHeld ?_;refine pP 16 (some 29) (bA 19 131071) HT_ ?_;refine pP 17 (some 30) (bA 19 262143) HT_ ?_;refine pP 18 (some 31) (bA 19 524287) HT_ ?_;refine done_ (done_of HT_.out (by kernel_rfl)) ?_
          go_upto_if 31 with (fail)
          have H := HC17.out;clear HC17;by_cases c21 : ((Op.bytesLess (((rd_T56 l0_0 (ji14)).f0).toList) (((rd_T56 l0_0 x8_1).f0).toList)) = true)
          ·rw [if_pos c21] at H
           have c21b0 : (Op.bytesLess (((rd_T56 l0_0 (ji14)).f0).toList) (((rd_T56 l0_0 x8_1).f0).toList)) = true := c21;clear c21;(first | rw [c21b0] | rw [c21b1] | rw [c21b2] | (simp only [i64_w, i32_w]; rw [c21b0]) | skip);have H' := AM H;clear H;(go_wp2);(go_roundg k1)
           case measure => have := HK1.out; omega
           case rel => exact ⟨(wrap64 (x8_1 + 1)), rf, H', ⟨by have := HK1.out; omega⟩, ⟨kk BK433⟩, ⟨bb⟩⟩
          ·rw [if_neg c21] at H
           (have c21b0 : (Op.bytesLess (((rd_T56 l0_0 (ji14)).f0).toList) (((rd_T56 l0_0 x8_1).f0).toList)) = false := by simpa using c21);clear c21;(first | rw [c21b0] | rw [c21b1] | rw [c21b2] | (simp only [i64_w, i32_w]; rw [c21b0]) | skip);obtain rfl := oI H;(go_wp2);(go_ret);exact ⟨by first | rfl | (simp [errW_none, errW_some] <;> rfl) | (simp only [← hji14]; first | rfl | (simp [errW_none, errW_some] <;> rfl)) | (simp [*, errW_none, errW_some] <;> rfl) | (simp [errW_none, errW_some] <;> (apply Bool.eq_iff_iff.2; simp [List.isEmpty_iff])), bb⟩
         ·exact nO c16 H
        ·exact nO c15 H
       ·rw [if_neg c13] at H
        have c13b0 : decide (0 < x8_1) = false := dF c13;clear c13;(first | rw [c13b0] | rw [c13b1] | rw [c13b2] | (simp only [i64_w, i32_w]; rw [c13b0]) | skip);have HC22 := AM H;clear H;(try go_wp2)
        have n0_ : Aside0 (((((((((((((((w8.setCell ⟨gb435, 0, none⟩ (.string ((rd_T56 l0_0 x8_1).f0))).setCell ⟨gb435, 1, none⟩ (.int .i64 ((rd_T56 l0_0 x8_1).f1))).setCell ⟨gb435, 2, none⟩ (.slice A434_2 ((rd_T56 l0_0 x8_1).f2).length c434_2)).setCell ⟨gb435, 3, none⟩ (.slice A434_3 ((rd_T56 l0_0 x8_1).f3).length c434_3)).setCell ⟨gb435, 4, none⟩ (.string ((rd_T56 l0_0 x8_1).f4))).setCell ⟨gb435, 5, none⟩ (.string ((rd_T56 l0_0 x8_1).f5))).setCell ⟨gb435, 6, none⟩ (.string ((rd_T56 l0_0 x8_1).f6))).setCell ⟨gb435, 7, none⟩ (.int .i64 ((rd_T56 l0_0 x8_1).f7.f0))).setCell ⟨gb435, 8, none⟩ (.int .i64 ((rd_T56 l0_0 x8_1).f7.f1))).setCell ⟨gb435, 9, none⟩ (.int .i64 ((rd_T56 l0_0 x8_1).f7.f2))).setCell ⟨gb435, 10, none⟩ (.bool ((rd_T56 l0_0 x8_1).f7.f3))).setCell ⟨gb435, 11, none⟩ (.int .i64 ((rd_T56 l0_0 x8_1).f8))).setCell ⟨gb435, 12, none⟩ (.string ((rd_T56 l0_0 x8_1).f9))).setCell ⟨gb435, 13, none⟩ (.string ((rd_T56 l0_0 x8_1).f10))).heap[gb433]? = some (.cells #[.slice (some ad434) l0_0.length c0_0] 32 (0, 0))) := ⟨by (with_reducible repeat first | apply bN | apply bW | apply bL | refine bR ?_ NB433_435.out _); exact BK433.out⟩
        have n1_ : Aside0 (((((((((((((((w8.setCell ⟨gb435, 0, none⟩ (.string ((rd_T56 l0_0 x8_1).f0))).setCell ⟨gb435, 1, none⟩ (.int .i64 ((rd_T56 l0_0 x8_1).f1))).setCell ⟨gb435, 2, none⟩ (.slice A434_2 ((rd_T56 l0_0 x8_1).f2).length c434_2)).setCell ⟨gb435, 3, none⟩ (.slice A434_3 ((rd_T56 l0_0 x8_1).f3).length c434_3)).setCell ⟨gb435, 4, none⟩ (.string ((rd_T56 l0_0 x8_1).f4))).setCell ⟨gb435, 5, none⟩ (.string ((rd_T56 l0_0 x8_1).f5))).setCell ⟨gb435, 6, none⟩ (.string ((rd_T56 l0_0 x8_1).f6))).setCell ⟨gb435, 7, none⟩ (.int .i64 ((rd_T56 l0_0 x8_1).f7.f0))).setCell ⟨gb435, 8, none⟩ (.int .i64 ((rd_T56 l0_0 x8_1).f7.f1))).setCell ⟨gb435, 9, none⟩ (.int .i64 ((rd_T56 l0_0 x8_1).f7.f2))).setCell ⟨gb435, 10, none⟩ (.bool ((rd_T56 l0_0 x8_1).f7.f3))).setCell ⟨gb435, 11, none⟩ (.int .i64 ((rd_T56 l0_0 x8_1).f8))).setCell ⟨gb435, 12, none⟩ (.string ((rd_T56 l0_0 x8_1).f9))).setCell ⟨gb435, 13, none⟩ (.string ((rd_T56 l0_0 x8_1).f10))).heap[gb435]? = some (.cells #[.string ((rd_T56 l0_0 x8_1).f0), .int .i64 ((rd_T56 l0_0 x8_1).f1), .slice A434_2 ((rd_T56 l0_0 x8_1).f2).length c434_2, .slice A434_3 ((rd_T56 l0_0 x8_1).f3).length c434_3, .string ((rd_T56 l0_0 x8_1).f4), .string ((rd_T56 l0_0 x8_1).f5), .string ((rd_T56 l0_0 x8_1).f6), .int .i64 ((rd_T56 l0_0 x8_1).f7.f0), .int .i64 ((rd_T56 l0_0 x8_1).f7.f1), .int .i64 ((rd_T56 l0_0 x8_1).f7.f2), .bool ((rd_T56 l0_0 x8_1).f7.f3), .int .i64 ((rd_T56 l0_0 x8_1).f8), .string ((rd_T56 l0_0 x8_1).f9), .string ((rd_T56 l0_0 x8_1).f10)] 56 (0, 0))) := ⟨by (with_reducible repeat (first | refine bN ?_ _ | refine bW ?_ | refine bL ?_ _)); refine bP14 (.string (⟨#[]⟩ : ByteArray)) (.int .i64 0) (.slice none 0 0) (.slice none 0 0) (.string (⟨#[]⟩ : ByteArray)) (.string (⟨#[]⟩ : ByteArray)) (.string (⟨#[]⟩ : ByteArray)) (.int .i64 0) (.int .i64 0) (.int .i64 0) (.bool false) (.int .i64 0) (.string (⟨#[]⟩ : ByteArray)) (.string (⟨#[]⟩ : ByteArray)) ?_ _ _ _ _ _ _ _ _ _ _ _ _ _ _; (with_reducible repeat (first | refine bN ?_ _ | refine bW ?_ | refine bL ?_ _)); exact BK435.out⟩
        have n2_ : Aside0 (Below w.heap.size w ((((((((((((((w8.setCell ⟨gb435, 0, none⟩ (.string ((rd_T56 l0_0 x8_1).f0))).setCell ⟨gb435, 1, none⟩ (.int .i64 ((rd_T56 l0_0 x8_1).f1))).setCell ⟨gb435, 2, none⟩ (.slice A434_2 ((rd_T56 l0_0 x8_1).f2).length c434_2)).setCell ⟨gb435, 3, none⟩ (.slice A434_3 ((rd_T56 l0_0 x8_1).f3).length c434_3)).setCell ⟨gb435, 4, none⟩ (.string ((rd_T56 l0_0 x8_1).f4))).setCell ⟨gb435, 5, none⟩ (.string ((rd_T56 l0_0 x8_1).f5))).setCell ⟨gb435, 6, none⟩ (.string ((rd_T56 l0_0 x8_1).f6))).setCell ⟨gb435, 7, none⟩ (.int .i64 ((rd_T56 l0_0 x8_1).f7.f0))).setCell ⟨gb435, 8, none⟩ (.int .i64 ((rd_T56 l0_0 x8_1).f7.f1))).setCell ⟨gb435, 9, none⟩ (.int .i64 ((rd_T56 l0_0 x8_1).f7.f2))).setCell ⟨gb435, 10, none⟩ (.bool ((rd_T56 l0_0 x8_1).f7.f3))).setCell ⟨gb435, 11, none⟩ (.int .i64 ((rd_T56 l0_0 x8_1).f8))).setCell ⟨gb435, 12, none⟩ (.string ((rd_T56 l0_0 x8_1).f9))).setCell ⟨gb435, 13, none⟩ (.string ((rd_T56 l0_0 x8_1).f10)))) := ⟨bb⟩
        (try clear BK433);(try clear BK435);(try clear HB);generalize ((((((((((((((w8.setCell ⟨gb435, 0, none⟩ (.string ((rd_T56 l0_0 x8_1).f0))).setCell ⟨gb435, 1, none⟩ (.int .i64 ((rd_T56 l0_0 x8_1).f1))).setCell ⟨gb435, 2, none⟩ (.slice A434_2 ((rd_T56 l0_0 x8_1).f2).length c434_2)).setCell ⟨gb435, 3, none⟩ (.slice A434_3 ((rd_T56 l0_0 x8_1).f3).length c434_3)).setCell ⟨gb435, 4, none⟩ (.string ((rd_T56 l0_0 x8_1).f4))).setCell ⟨gb435, 5, none⟩ (.string ((rd_T56 l0_0 x8_1).f5))).setCell ⟨gb435, 6, none⟩ (.string ((rd_T56 l0_0 x8_1).f6))).setCell ⟨gb435, 7, none⟩ (.int .i64 ((rd_T56 l0_0 x8_1).f7.f0))).setCell ⟨gb435, 8, none⟩ (.int .i64 ((rd_T56 l0_0 x8_1).f7.f1))).setCell ⟨gb435, 9, none⟩ (.int .i64 ((rd_T56 l0_0 x8_1).f7.f2))).setCell ⟨gb435, 10, none⟩ (.bool ((rd_T56 l0_0 x8_1).f7.f3))).setCell ⟨gb435, 11, none⟩ (.int .i64 ((rd_T56 l0_0 x8_1).f8))).setCell ⟨gb435, 12, none⟩ (.string ((rd_T56 l0_0 x8_1).f9))).setCell ⟨gb435, 13, none⟩ (.string ((rd_T56 l0_0 x8_1).f10))) = w23 at n0_ n1_ n2_ ⊢;have BK433 := n0_;have BK435 := n1_;have HB := n2_;clear n0_ n1_ n2_;replace BK433 := AM (bW BK433.out);replace BK435 := AM (bW BK435.out);replace HB := AM (p1 HB.out);(refine start_ (n := 19) (S := fun w' => b14 w' gb435 (.string ((rd_T56 l0_0 x8_1).f0)) (.int .i64 ((rd_T56 l0_0 x8_1).f1)) (.slice A434_2 ((rd_T56 l0_0 x8_1).f2).length c434_2) (.slice A434_3 ((rd_T56 l0_0 x8_1).f3).length c434_3) (.string ((rd_T56 l0_0 x8_1).f4)) (.string ((rd_T56 l0_0 x8_1).f5)) (.string ((rd_T56 l0_0 x8_1).f6)) (.int .i64 ((rd_T56 l0_0 x8_1).f7.f0)) (.int .i64 ((rd_T56 l0_0 x8_1).f7.f1)) (.int .i64 ((rd_T56 l0_0 x8_1).f7.f2)) (.bool ((rd_T56 l0_0 x8_1).f7.f3)) (.int .i64 ((rd_T56 l0_0 x8_1).f8)) (.string ((rd_T56 l0_0 x8_1).f9)) (.string ((rd_T56 l0_0 x8_1).f10))) (ds := []) (bA 19 0) (by kernel_rfl) rfl rfl ⟨(bC BK435.out 0).trans rfl, (bC BK435.out 1).trans rfl, (bC BK435.out 2).trans rfl, (bC BK435.out 3).trans rfl, (bC BK435.out 4).trans rfl, (bC BK435.out 5).trans rfl, (bC BK435.out 6).trans rfl, (bC BK435.out 7).trans rfl, (bC BK435.out 8).trans rfl, (bC BK435.out 9).trans rfl, (bC BK435.out 10).trans rfl, (bC BK435.out 11).trans rfl, (bC BK435.out 12).trans rfl, (bC BK435.out 13).trans rfl⟩ (fun hHeld => ?_); refine with_tabW impl_IsValidLibrary.tab4 impl_IsValidLibrary.bits4 (fun HT_ HW_ => ?_));generalize w23.drew = w24 at BK433 BK435 HB hHeld ⊢;refine tP 0 (some 13) (bA 19 1) HT_ HW_ hHeld ?_;refine oP 1 (some 14) (bA 19 3) HT_ (fun K hK => ?_);refine gV Tryz.func44 #[.agg #[.string ((rd_T56 l0_0 x8_1).f0), .int .i64 ((rd_T56 l0_0 x8_1).f1), .slice A434_2 ((rd_T56 l0_0 x8_1).f2).length c434_2, .slice A434_3 ((rd_T56 l0_0 x8_1).f3).length c434_3, .string ((rd_T56 l0_0 x8_1).f4), .string ((rd_T56 l0_0 x8_1).f5), .string ((rd_T56 l0_0 x8_1).f6), .int .i64 ((rd_T56 l0_0 x8_1).f7.f0), .int .i64 ((rd_T56 l0_0 x8_1).f7.f1), .int .i64 ((rd_T56 l0_0 x8_1).f7.f2), .bool ((rd_T56 l0_0 x8_1).f7.f3), .int .i64 ((rd_T56 l0_0 x8_1).f8), .string ((rd_T56 l0_0 x8_1).f9), .string ((rd_T56 l0_0 x8_1).f10)]] ?_;(with_reducible refine (impl_IsValidEntry.calls k1 ((rd_T56 l0_0 x8_1).f0) ((rd_T56 l0_0 x8_1).f1) _ _ ((rd_T56 l0_0 x8_1).f2) _ _ ((rd_T56 l0_0 x8_1).f3) ((rd_T56 l0_0 x8_1).f4) ((rd_T56 l0_0 x8_1).f5) ((rd_T56 l0_0 x8_1).f6) ((rd_T56 l0_0 x8_1).f7.f0) ((rd_T56 l0_0 x8_1).f7.f1) ((rd_T56 l0_0 x8_1).f7.f2) ((rd_T56 l0_0 x8_1).f7.f3) ((rd_T56 l0_0 x8_1).f8) ((rd_T56 l0_0 x8_1).f9) ((rd_T56 l0_0 x8_1).f10) true _ ?side1 ?side2 ?side3 ?side4 ?side5 A11.out).mono ?_);(case side1 => exact cX HR434_2);(case side2 => exact HC434_2.out);(case side3 => exact cX HR434_3);(case side4 => exact HC434_3.out);(case side5 => exact eB HENV.out bb);rintro e w25 ⟨rfl, hb⟩;refine ⟨_, rfl, ?_⟩;replace BK433 := bK BK433 hb;replace BK435 := bK BK435 hb;replace HB := bH hb;(try clear hb);refine hK.out _ _ (by and_intros <;> exact (bC BK435.out _).trans rfl) (fun hHeld => ?_);clear hK K;refine nP ?_;refine pP 2 (some 15) (bA 19 7) HT_ ?_;refine pP 3 (some 16) (bA 19 15) HT_ ?_;refine pP 4 (some 17) (bA 19 31) HT_ ?_;refine pP 5 (some 18) (bA 19 63) HT_ ?_;refine pP 6 (some 19) (bA 19 127) HT_ ?_;refine pU 7 (some 20) (bA 19 255) HT_ ?_;refine pU 8 (some 21) (bA 19 511) HT_ ?_;refine pU 9 (some 22) (bA 19 1023) HT_ ?_;refine pU 10 (some 23) (bA 19 2047) HT_ ?_;refine pU 11 (some 24) (bA 19 4095) HT_ ?_;refine pU 12 (some 25) (bA 19 8191) HT_ ?_;refine pU 13 (some 26) (bA 19 16383) HT_ ?_;refine pU 14 (some 27) (bA 19 32767) HT_ ?_;refine pU 15 (some 28) (bA 19 65535) HT_ ?_;refine pU 16 (some 29) (bA 19 131071) HT_ ?_;refine pP 17 (some 30) (bA 19 262143) HT_ ?_;refine pP 18 (some 31) (bA 19 524287) HT_ ?_;refine done_ (done_of HT_.out (by kernel_rfl)) ?_
        go_upto_if 31 with (fail)
        have H := HC22.out;clear HC22;have H' := AM H;clear H;(go_wp2);(go_roundg k1)
        case measure => have := HK1.out; omega
        case rel => exact ⟨(wrap64 (x8_1 + 1)), rf, H', ⟨by have := HK1.out; omega⟩, ⟨kk BK433⟩, ⟨bb⟩⟩
      ·replace c12 := Bool.eq_false_iff.mpr c12
       subst c12;replace H := nF H;have HC26 := AM H;clear H;(try go_wp2)
       have n0_ : Aside0 (((((((((((((((w8.setCell ⟨gb435, 0, none⟩ (.string ((rd_T56 l0_0 x8_1).f0))).setCell ⟨gb435, 1, none⟩ (.int .i64 ((rd_T56 l0_0 x8_1).f1))).setCell ⟨gb435, 2, none⟩ (.slice A434_2 ((rd_T56 l0_0 x8_1).f2).length c434_2)).setCell ⟨gb435, 3, none⟩ (.slice A434_3 ((rd_T56 l0_0 x8_1).f3).length c434_3)).setCell ⟨gb435, 4, none⟩ (.string ((rd_T56 l0_0 x8_1).f4))).setCell ⟨gb435, 5, none⟩ (.string ((rd_T56 l0_0 x8_1).f5))).setCell ⟨gb435, 6, none⟩ (.string ((rd_T56 l0_0 x8_1).f6))).setCell ⟨gb435, 7, none⟩ (.int .i64 ((rd_T56 l0_0 x8_1).f7.f0))).setCell ⟨gb435, 8, none⟩ (.int .i64 ((rd_T56 l0_0 x8_1).f7.f1))).setCell ⟨gb435, 9, none⟩ (.int .i64 ((rd_T56 l0_0 x8_1).f7.f2))).setCell ⟨gb435, 10, none⟩ (.bool ((rd_T56 l0_0 x8_1).f7.f3))).setCell ⟨gb435, 11, none⟩ (.int .i64 ((rd_T56 l0_0 x8_1).f8))).setCell ⟨gb435, 12, none⟩ (.string ((rd_T56 l0_0 x8_1).f9))).setCell ⟨gb435, 13, none⟩ (.string ((rd_T56 l0_0 x8_1).f10))).heap[gb433]? = some (.cells #[.slice (some ad434) l0_0.length c0_0] 32 (0, 0))) := ⟨by (with_reducible repeat first | apply bN | apply bW | apply bL | refine bR ?_ NB433_435.out _); exact BK433.out⟩
       have n1_ : Aside0 (((((((((((((((w8.setCell ⟨gb435, 0, none⟩ (.string ((rd_T56 l0_0 x8_1).f0))).setCell ⟨gb435, 1, none⟩ (.int .i64 ((rd_T56 l0_0 x8_1).f1))).setCell ⟨gb435, 2, none⟩ (.slice A434_2 ((rd_T56 l0_0 x8_1).f2).length c434_2)).setCell ⟨gb435, 3, none⟩ (.slice A434_3 ((rd_T56 l0_0 x8_1).f3).length c434_3)).setCell ⟨gb435, 4, none⟩ (.string ((rd_T56 l0_0 x8_1).f4))).setCell ⟨gb435, 5, none⟩ (.string ((rd_T56 l0_0 x8_1).f5))).setCell ⟨gb435, 6, none⟩ (.string ((rd_T56 l0_0 x8_1).f6))).setCell ⟨gb435, 7, none⟩ (.int .i64 ((rd_T56 l0_0 x8_1).f7.f0))).setCell ⟨gb435, 8, none⟩ (.int .i64 ((rd_T56 l0_0 x8_1).f7.f1))).setCell ⟨gb435, 9, none⟩ (.int .i64 ((rd_T56 l0_0 x8_1).f7.f2))).setCell ⟨gb435, 10, none⟩ (.bool ((rd_T56 l0_0 x8_1).f7.f3))).setCell ⟨gb435, 11, none⟩ (.int .i64 ((rd_T56 l0_0 x8_1).f8))).setCell ⟨gb435, 12, none⟩ (.string ((rd_T56 l0_0 x8_1).f9))).setCell ⟨gb435, 13, none⟩ (.string ((rd_T56 l0_0 x8_1).f10))).heap[gb435]? = some (.cells #[.string ((rd_T56 l0_0 x8_1).f0), .int .i64 ((rd_T56 l0_0 x8_1).f1), .slice A434_2 ((rd_T56 l0_0 x8_1).f2).length c434_2, .slice A434_3 ((rd_T56 l0_0 x8_1).f3).length c434_3, .string ((rd_T56 l0_0 x8_1).f4), .string ((rd_T56 l0_0 x8_1).f5), .string ((rd_T56 l0_0 x8_1).f6), .int .i64 ((rd_T56 l0_0 x8_1).f7.f0), .int .i64 ((rd_T56 l0_0 x8_1).f7.f1), .int .i64 ((rd_T56 l0_0 x8_1).f7.f2), .bool ((rd_T56 l0_0 x8_1).f7.f3), .int .i64 ((rd_T56 l0_0 x8_1).f8), .string ((rd_T56 l0_0 x8_1).f9), .string ((rd_T56 l0_0 x8_1).f10)] 56 (0, 0))) := ⟨by (with_reducible repeat (first | refine bN ?_ _ | refine bW ?_ | refine bL ?_ _)); refine bP14 (.string (⟨#[]⟩ : ByteArray)) (.int .i64 0) (.slice none 0 0) (.slice none 0 0) (.string (⟨#[]⟩ : ByteArray)) (.string (⟨#[]⟩ : ByteArray)) (.string (⟨#[]⟩ : ByteArray)) (.int .i64 0) (.int .i64 0) (.int .i64 0) (.bool false) (.int .i64 0) (.string (⟨#[]⟩ : ByteArray)) (.string (⟨#[]⟩ : ByteArray)) ?_ _ _ _ _ _ _ _ _ _ _ _ _ _ _; (with_reducible repeat (first | refine bN ?_ _ | refine bW ?_ | refine bL ?_ _)); exact BK435.out⟩
       have n2_ : Aside0 (Below w.heap.size w ((((((((((((((w8.setCell ⟨gb435, 0, none⟩ (.string ((rd_T56 l0_0 x8_1).f0))).setCell ⟨gb435, 1, none⟩ (.int .i64 ((rd_T56 l0_0 x8_1).f1))).setCell ⟨gb435, 2, none⟩ (.slice A434_2 ((rd_T56 l0_0 x8_1).f2).length c434_2)).setCell ⟨gb435, 3, none⟩ (.slice A434_3 ((rd_T56 l0_0 x8_1).f3).length c434_3)).setCell ⟨gb435, 4, none⟩ (.string ((rd_T56 l0_0 x8_1).f4))).setCell ⟨gb435, 5, none⟩ (.string ((rd_T56 l0_0 x8_1).f5))).setCell ⟨gb435, 6, none⟩ (.string ((rd_T56 l0_0 x8_1).f6))).setCell ⟨gb435, 7, none⟩ (.int .i64 ((rd_T56 l0_0 x8_1).f7.f0))).setCell ⟨gb435, 8, none⟩ (.int .i64 ((rd_T56 l0_0 x8_1).f7.f1))).setCell ⟨gb435, 9, none⟩ (.int .i64 ((rd_T56 l0_0 x8_1).f7.f2))).setCell ⟨gb435, 10, none⟩ (.bool ((rd_T56 l0_0 x8_1).f7.f3))).setCell ⟨gb435, 11, none⟩ (.int .i64 ((rd_T56 l0_0 x8_1).f8))).setCell ⟨gb435, 12, none⟩ (.string ((rd_T56 l0_0 x8_1).f9))).setCell ⟨gb435, 13, none⟩ (.string ((rd_T56 l0_0 x8_1).f10)))) := ⟨bb⟩
       (try clear BK433);(try clear BK435);(try clear HB);generalize ((((((((((((((w8.setCell ⟨gb435, 0, none⟩ (.string ((rd_T56 l0_0 x8_1).f0))).setCell ⟨gb435, 1, none⟩ (.int .i64 ((rd_T56 l0_0 x8_1).f1))).setCell ⟨gb435, 2, none⟩ (.slice A434_2 ((rd_T56 l0_0 x8_1).f2).length c434_2)).setCell ⟨gb435, 3, none⟩ (.slice A434_3 ((rd_T56 l0_0 x8_1).f3).length c434_3)).setCell ⟨gb435, 4, none⟩ (.string ((rd_T56 l0_0 x8_1).f4))).setCell ⟨gb435, 5, none⟩ (.string ((rd_T56 l0_0 x8_1).f5))).setCell ⟨gb435, 6, none⟩ (.string ((rd_T56 l0_0 x8_1).f6))).setCell ⟨gb435, 7, none⟩ (.int .i64 ((rd_T56 l0_0 x8_1).f7.f0))).setCell ⟨gb435, 8, none⟩ (.int .i64 ((rd_T56 l0_0 x8_1).f7.f1))).setCell ⟨gb435, 9, none⟩ (.int .i64 ((rd_T56 l0_0 x8_1).f7.f2))).setCell ⟨gb435, 10, none⟩ (.bool ((rd_T56 l0_0 x8_1).f7.f3))).setCell ⟨gb435, 11, none⟩ (.int .i64 ((rd_T56 l0_0 x8_1).f8))).setCell ⟨gb435, 12, none⟩ (.string ((rd_T56 l0_0 x8_1).f9))).setCell ⟨gb435, 13, none⟩ (.string ((rd_T56 l0_0 x8_1).f10))) = w27 at n0_ n1_ n2_ ⊢;have BK433 := n0_;have BK435 := n1_;have HB := n2_;clear n0_ n1_ n2_;replace BK433 := AM (bW BK433.out);replace BK435 := AM (bW BK435.out);replace HB := AM (p1 HB.out);(refine start_ (n := 19) (S := fun w' => b14 w' gb435 (.string ((rd_T56 l0_0 x8_1).f0)) (.int .i64 ((rd_T56 l0_0 x8_1).f1)) (.slice A434_2 ((rd_T56 l0_0 x8_1).f2).length c434_2) (.slice A434_3 ((rd_T56 l0_0 x8_1).f3).length c434_3) (.string ((rd_T56 l0_0 x8_1).f4)) (.string ((rd_T56 l0_0 x8_1).f5)) (.string ((rd_T56 l0_0 x8_1).f6)) (.int .i64 ((rd_T56 l0_0 x8_1).f7.f0)) (.int .i64 ((rd_T56 l0_0 x8_1).f7.f1)) (.int .i64 ((rd_T56 l0_0 x8_1).f7.f2)) (.bool ((rd_T56 l0_0 x8_1).f7.f3)) (.int .i64 ((rd_T56 l0_0 x8_1).f8)) (.string ((rd_T56 l0_0 x8_1).f9)) (.string ((rd_T56 l0_0 x8_1).f10))) (ds := []) (bA 19 0) (by kernel_rfl) rfl rfl ⟨(bC BK435.out 0).trans rfl, (bC BK435.out 1).trans rfl, (bC BK435.out 2).trans rfl, (bC BK435.out 3).trans rfl, (bC BK435.out 4).trans rfl, (bC BK435.out 5).trans rfl, (bC BK435.out 6).trans rfl, (bC BK435.out 7).trans rfl, (bC BK435.out 8).trans rfl, (bC BK435.out 9).trans rfl, (bC BK435.out 10).trans rfl, (bC BK435.out 11).trans rfl, (bC BK435.out 12).trans rfl, (bC BK435.out 13).trans rfl⟩ (fun hHeld => ?_); refine with_tabW impl_IsValidLibrary.tab4 impl_IsValidLibrary.bits4 (fun HT_ HW_ => ?_));generalize w27.drew = w28 at BK433 BK435 HB hHeld ⊢;refine tP 0 (some 13) (bA 19 1) HT_ HW_ hHeld ?_;refine oP 1 (some 14) (bA 19 3) HT_ (fun K hK => ?_);refine gV Tryz.func44 #[.agg #[.string ((rd_T56 l0_0 x8_1).f0), .int .i64 ((rd_T56 l0_0 x8_1).f1), .slice A434_2 ((rd_T56 l0_0 x8_1).f2).length c434_2, .slice A434_3 ((rd_T56 l0_0 x8_1).f3).length c434_3, .string ((rd_T56 l0_0 x8_1).f4), .string ((rd_T56 l0_0 x8_1).f5), .string ((rd_T56 l0_0 x8_1).f6), .int .i64 ((rd_T56 l0_0 x8_1).f7.f0), .int .i64 ((rd_T56 l0_0 x8_1).f7.f1), .int .i64 ((rd_T56 l0_0 x8_1).f7.f2), .bool ((rd_T56 l0_0 x8_1).f7.f3), .int .i64 ((rd_T56 l0_0 x8_1).f8), .string ((rd_T56 l0_0 x8_1).f9), .string ((rd_T56 l0_0 x8_1).f10)]] ?_;(with_reducible refine (impl_IsValidEntry.calls k1 ((rd_T56 l0_0 x8_1).f0) ((rd_T56 l0_0 x8_1).f1) _ _ ((rd_T56 l0_0 x8_1).f2) _ _ ((rd_T56 l0_0 x8_1).f3) ((rd_T56 l0_0 x8_1).f4) ((rd_T56 l0_0 x8_1).f5) ((rd_T56 l0_0 x8_1).f6) ((rd_T56 l0_0 x8_1).f7.f0) ((rd_T56 l0_0 x8_1).f7.f1) ((rd_T56 l0_0 x8_1).f7.f2) ((rd_T56 l0_0 x8_1).f7.f3) ((rd_T56 l0_0 x8_1).f8) ((rd_T56 l0_0 x8_1).f9) ((rd_T56 l0_0 x8_1).f10) false _ ?side1 ?side2 ?side3 ?side4 ?side5 A11.out).mono ?_);(case side1 => exact cX HR434_2);(case side2 => exact HC434_2.out);(case side3 => exact cX HR434_3);(case side4 => exact HC434_3.out);(case side5 => exact eB HENV.out bb);rintro e w29 ⟨rfl, hb⟩;refine ⟨_, rfl, ?_⟩;replace BK433 := bK BK433 hb;replace BK435 := bK BK435 hb;replace HB := bH hb;(try clear hb);refine hK.out _ _ (by and_intros <;> exact (bC BK435.out _).trans rfl) (fun hHeld => ?_);clear hK K;refine nP ?_;refine pP 2 (some 15) (bA 19 7) HT_ ?_;refine pP 3 (some 16) (bA 19 15) HT_ ?_;refine pU 4 (some 17) (bA 19 31) HT_ ?_;refine pU 5 (some 18) (bA 19 63) HT_ ?_;refine pU 6 (some 19) (bA 19 127) HT_ ?_;refine pU 7 (some 20) (bA 19 255) HT_ ?_;refine pU 8 (some 21) (bA 19 511) HT_ ?_;refine pU 9 (some 22) (bA 19 1023) HT_ ?_;refine pU 10 (some 23) (bA 19 2047) HT_ ?_;refine pU 11 (some 24) (bA 19 4095) HT_ ?_;refine pU 12 (some 25) (bA 19 8191) HT_ ?_;refine pU 13 (some 26) (bA 19 16383) HT_ ?_;refine pU 14 (some 27) (bA 19 32767) HT_ ?_;refine pU 15 (some 28) (bA 19 65535) HT_ ?_;refine pU 16 (some 29) (bA 19 131071) HT_ ?_;refine pU 17 (some 30) (bA 19 262143) HT_ ?_;refine pP 18 (some 31) (bA 19 524287) HT_ ?_;refine done_ (done_of HT_.out (by kernel_rfl)) ?_
       go_upto_if 31 with (fail)
       have H := HC26.out;clear HC26;obtain rfl := oI H;(go_wp2);(go_ret);exact ⟨rfl, bb⟩
     ·exact nO c6 H
    ·exact nO c5 H
   ·rw [if_neg c4] at H
    have c4b0 := dF c4;clear c4;obtain rfl := oI H;have z30_0 : wr.cell? ⟨gb433, 0, none⟩ = some (.slice A0_0 l0_0.length c0_0) := (bC BK433.out 0).trans rfl;have Y30_0 := bF BK433.out 0;(go_wp2);(go_ret);exact ⟨rfl, bb⟩
def impl_areKeys.l0 : Nat → List ByteArray → List ByteArray → Int → Int → List (S56) → Option (Bool)
 | 0, _, _, _, _, _ => none
 | k + 1, x1, x7, x8, x9, x439000 => if x9 < x8 then (if 0 ≤ x9 then (if x9 < (x7.length : Int) then ((impl_entryIndex.f x439000 (rdOf ByteArray.empty x7 x9)).bind fun t441 => (if t441 < 0 then (some false) else (if x9 ≤ (x1.length : Int) then ((slices_Contains_string_string.f k (x1.take (x9 : Int).toNat) (rdOf ByteArray.empty x7 x9)).bind fun t443 => (if t443 = true then (some false) else (impl_areKeys.l0 k x1 x7 x8 (wrap64 (x9 + 1)) x439000))) else (none)))) else (none)) else (none)) else ((impl_IsValidLibrary.f k x439000).bind fun t439 => (some t439))
def impl_areKeys.f (k : Nat) (l0_0 : List (S56)) (l1 : List ByteArray) : Option (Bool) := impl_areKeys.l0 k l1 l1 (l1.length : Int) 0 l0_0
theorem impl_areKeys.mono_l : ∀ k, (∀ y0 y1 y2 y3 y4, LeO (impl_areKeys.l0 k y0 y1 y2 y3 y4) (impl_areKeys.l0 (k + 1) y0 y1 y2 y3 y4))
 | 0 => fun _ _ _ _ _ r h => by simp [impl_areKeys.l0] at h
 | k + 1 => by
  have ih0 := impl_areKeys.mono_l k
  ·intro y0 y1 y2 y3 y4
   unfold impl_areKeys.l0
   repeat' with_reducible first
   | exact ih0 _ _ _ _ _
   | exact impl_IsValidLibrary.mono _ _
   | exact slices_Contains_string_string.mono _ _ _
   | exact LeO.refl _
   | exact LeO.none _
   | refine LeO.ite ?_ ?_
   | refine LeO.bind ?_ (fun _ => ?_)
theorem impl_areKeys.mono : ∀ a0 a1 k, LeO (impl_areKeys.f k a0 a1) (impl_areKeys.f (k + 1) a0 a1) := by
 intro a0 a1 k;have ih0 := impl_areKeys.mono_l k;unfold impl_areKeys.f
 repeat' with_reducible first
   | exact ih0 _ _ _ _ _
   | exact impl_IsValidLibrary.mono _ _
   | exact slices_Contains_string_string.mono _ _ _
   | exact LeO.refl _
   | exact LeO.none _
   | refine LeO.ite ?_ ?_
   | refine LeO.bind ?_ (fun _ => ?_)
set_option maxHeartbeats 8000000 in
set_option maxRecDepth 100000 in
theorem impl_areKeys.calls (k : Nat) (A0_0 : Option Addr) (c0_0 : Nat) (l0_0 : List (S56)) (A1 : Option Addr) (c1 : Nat) (l1 : List ByteArray) (r : Bool) (w : World) (hr0_0 : Kd.C k56 w A0_0 l0_0.length l0_0) (hc0_0 : l0_0.length ≤ c0_0) (hr1 : Kd.C Kd.string w A1 l1.length l1) (hc1 : l1.length ≤ c1) (henv : Go.Proofs.YtbnagolaacejoaaGreatDoorW.Envs.Env [0] w) (h : impl_areKeys.f k l0_0 l1 = some r) :
  Calls Tryz.prog 16 #[.agg #[.slice A0_0 l0_0.length c0_0], .slice A1 l1.length c1] w fun e w' => e = .returned (.bool r) ∧ Below w.heap.size w w' := by
 have hu32 := Tryz.underlying32;have HR0_0 := AM hr0_0;have HC0_0 := AM hc0_0;clear hr0_0 hc0_0;have HR1 := AM hr1;have HC1 := AM hc1;clear hr1 hc1;have HB := AM (Below.refl w.heap.size w);have HENV := AM henv;clear henv;have H := h;unfold impl_areKeys.f at H;clear h;have H' := AM H;clear H;(go_enter Tryz.func16, Tryz.ntmps16)
 go_wp2_with (first | ((with_reducible refine gate_dst (N := 2) rfl ?_); refine bX (N := 2) (cs := #[.slice A0_0 l0_0.length c0_0]) (t := 32) ?_; intro gb438 hg w3 hbox hb; have BK438 := AM (hbox); have GW438 := bG (w := w) hg; replace HB := bH hb; clear hb hbox hg))
 go_loopg [9] k (fun kq v9 w' => ∃ (x9_1 : Int), v9 = .int .i64 x9_1 ∧ Aside0 (impl_areKeys.l0 kq l1 l1 (l1.length : Int) x9_1 l0_0 = some r) ∧ Aside0 (kq ≤ k) ∧ Aside0 (w'.heap[gb438]? = some (.cells #[(.slice A0_0 l0_0.length c0_0)] 32 (0, 0))) ∧ Aside0 (Below w.heap.size w w'))
 case atStart => exact ⟨(0), rf, H', ⟨Nat.le_refl _⟩, ⟨kk BK438⟩, ⟨bb⟩⟩
 case round =>
  clear H';(try clear c1);(try clear p2);obtain ⟨x9_1, rfl, HA, HK1, BK438, HB⟩ := hrel
  cases gk with
  | zero => exact absurd HA.out (by simp [impl_areKeys.l0])
  | succ k1 =>
   have H := HA.out;clear HA;simp only [impl_areKeys.l0] at H;by_cases c4 : x9_1 < (l1.length : Int)
   ·rw [if_pos c4] at H
    have c4b0 := dT c4;clear c4;by_cases c5 : 0 ≤ x9_1
    ·rw [if_pos c5] at H
     have c5b0 := dT c5;clear c5;by_cases c6 : x9_1 < (l1.length : Int)
     ·rw [if_pos c6] at H
      have c6b0 := dT c6;clear c6;obtain ⟨t441, A7, H⟩ := oA H;(try dsimp only at H);by_cases c8 : t441 < 0
      ·rw [if_pos c8] at H
       have c8b0 := dT c8;clear c8;obtain rfl := oI H;have p440 := pz x9_1;have q440 := qz x9_1 (l1.length : Int);obtain ⟨ad440, e440, hx440_0⟩ := Kd.at_string HR1.out x9_1 p440 q440;cases e440;replace hx440_0 := cU hx440_0;replace p440 := eq_true p440;replace q440 := eq_true q440;have z9_0 : wr.cell? ⟨gb438, 0, none⟩ = some (.slice A0_0 l0_0.length c0_0) := (bC BK438.out 0).trans rfl
       go_wp2_with (first | ((with_reducible refine gC (f := 25) rfl ?_); refine gX (some 16) Tryz.func25 #[.agg #[.slice A0_0 l0_0.length c0_0], .string (rdOf ByteArray.empty l1 x9_1)] ?_; (with_reducible refine (impl_entryIndex.calls _ _ l0_0 (rdOf ByteArray.empty l1 x9_1) t441 _ ?side1 ?side2 A7.out).mono ?_); (case side1 => exact cX HR0_0); (case side2 => exact HC0_0.out); rintro e w10 ⟨rfl, hb⟩; refine ⟨_, rfl, ?_⟩; replace BK438 := bK BK438 hb; replace HB := bH hb; (try clear hb)))
       (go_ret);exact ⟨rfl, bb⟩
      ·rw [if_neg c8] at H
       have c8b0 := dF c8;clear c8;have c11b0 := eq_true (oD (by assumption) : 0 ≤ x9_1);by_cases c12 : x9_1 ≤ (l1.length : Int)
       ·rw [if_pos c12] at H
        have c12b0 := eq_true c12;have c12b1 := dT c12;clear c12;obtain ⟨t443, A13, H⟩ := oA H;(try dsimp only at H);have HC14 := AM H;clear H;have p440 := pz x9_1;have q440 := qz x9_1 (l1.length : Int);obtain ⟨ad440, e440, hx440_0⟩ := Kd.at_string HR1.out x9_1 p440 q440;cases e440;replace hx440_0 := cU hx440_0;replace p440 := eq_true p440;replace q440 := eq_true q440;have z15_0 : wr.cell? ⟨gb438, 0, none⟩ = some (.slice A0_0 l0_0.length c0_0) := (bC BK438.out 0).trans rfl
        go_upto_if 24 with (first | ((with_reducible refine gC (f := 25) rfl ?_); refine gX (some 16) Tryz.func25 #[.agg #[.slice A0_0 l0_0.length c0_0], .string (rdOf ByteArray.empty l1 x9_1)] ?_; (with_reducible refine (impl_entryIndex.calls _ _ l0_0 (rdOf ByteArray.empty l1 x9_1) t441 _ ?side1 ?side2 A7.out).mono ?_); (case side1 => exact cX HR0_0); (case side2 => exact HC0_0.out); rintro e w16 ⟨rfl, hb⟩; refine ⟨_, rfl, ?_⟩; replace BK438 := bK BK438 hb; replace HB := bH hb; (try clear hb); obtain ⟨i017, hi017, _, hsz17, _⟩ := info_parts info9; obtain ⟨hcut17, hA17, hC17⟩ := print_take_of (P := Tryz.prog) Value.string (⟨#[]⟩ : ByteArray) 25 9 .i64 Tryz.underlying25 hi017 hsz17 (some ad440) c1 l1 x9_1 (oD (by assumption)) (oD (by assumption)) HC1.out; have HR442 := AM (Kd.C_of_reads (h1 := fun _ => rfl) (hA17 _ (Kd.reads_of_C HR1.out))); have HC442 := AM hC17; clear hA17 hC17 hi017 hsz17) | (go_at_call 26; have hl_ : (l1.take (x9_1 : Int).toNat).length = (x9_1 : Int).toNat := (by rw [List.length_take]; have := oD c12b1; omega); have con_ := slices_Contains_string_string.calls k1 (some ad440) c1 (l1.take (x9_1 : Int).toNat) (rdOf ByteArray.empty l1 x9_1) t443; rw [hl_] at con_; refine (con_ _ ?side1 (by have h3_ := HC442.out; rw [hl_] at h3_; exact h3_) A13.out).mono ?_; (case side1 => have h2_ := (cB HR442.out HB.out); rw [hl_] at h2_; exact h2_); rintro e w' ⟨rfl, ⟨nd, rfl⟩⟩))
        (try (rw [drewN_self w16]; generalize hq_ : World.drewN w16 _ = w16; have n0_ : Aside0 (w16.heap[gb438]? = some (.cells #[.slice A0_0 l0_0.length c0_0] 32 (0, 0))) := ⟨by rw [← hq_]; exact (kk BK438)⟩; have n1_ : Aside0 (Below w.heap.size w w16) := ⟨by rw [← hq_]; exact bb⟩; clear BK438 HB hq_; have BK438 := n0_; have HB := n1_; clear n0_ n1_));have H := HC14.out;clear HC14;by_cases c18 : t443 = true;(·subst c18;rw [if_pos rfl] at H;obtain rfl := oI H;(go_wp2);(go_ret);exact ⟨rfl, bb⟩)
        ·replace c18 := Bool.eq_false_iff.mpr c18
         subst c18;replace H := nF H;have H' := AM H;clear H;(go_wp2);(go_roundg k1)
         case measure => have := HK1.out; omega
         case rel => exact ⟨(wrap64 (x9_1 + 1)), rf, H', ⟨by have := HK1.out; omega⟩, ⟨kk BK438⟩, ⟨bb⟩⟩
       ·exact nO c12 H
     ·exact nO c6 H
    ·exact nO c5 H
   ·rw [if_neg c4] at H
    have c4b0 := dF c4;clear c4;obtain ⟨t439, A19, H⟩ := oA H;(try dsimp only at H);obtain rfl := oI H;have z20_0 : wr.cell? ⟨gb438, 0, none⟩ = some (.slice A0_0 l0_0.length c0_0) := (bC BK438.out 0).trans rfl
    go_wp2_with (first | ((with_reducible refine gC (f := 27) rfl ?_); refine gX (some 27) Tryz.func27 #[.agg #[.slice A0_0 l0_0.length c0_0]] ?_; (with_reducible refine (impl_IsValidLibrary.calls k1 _ _ l0_0 t439 _ ?side1 ?side2 ?side3 A19.out).mono ?_); (case side1 => exact cX HR0_0); (case side2 => exact HC0_0.out); (case side3 => exact eB HENV.out bb); rintro e w21 ⟨rfl, hb⟩; refine ⟨_, rfl, ?_⟩; replace BK438 := bK BK438 hb; replace HB := bH hb; (try clear hb)))
    (go_ret);exact ⟨rfl, bb⟩
def bits_Len.f (a0 : Int) : Option (Int) := if 0 ≤ a0 then (if a0 ≤ 18446744073709551615 then some ((Lib.bitLen a0.toNat : Nat) : Int) else none) else none
theorem bits_Len.calls (a0 : Int) (r : Int) (w : World) (h : bits_Len.f a0 = some r) :
    Calls Tryz.prog 46 #[.int .u64 a0] w fun e w' => e = .returned (.int .i64 r) ∧ Drawn0 w w' := by
  unfold bits_Len.f at h;by_cases h0 : 0 ≤ a0
  · rw [if_pos h0] at h
    by_cases h1 : a0 ≤ 18446744073709551615
    · rw [if_pos h1] at h
      obtain rfl := oI h
      exact (Any.bits_Len bits_Len.lays a0 w h0 h1).mono fun e w' ⟨he, hw⟩ => ⟨he, by subst hw; exact Drawn0.refl _⟩
    · rw [if_neg h1] at h
      exact absurd h (by simp)
  · rw [if_neg h0] at h
    exact absurd h (by simp)
def cmp_Or_int.l0 : Nat → Int → List Int → Int → Int → Option (Int)
 | 0, _, _, _, _ => none
 | k + 1, x3, x6, x7, x8 => if x8 < x7 then (if 0 ≤ x8 then (if x8 < (x6.length : Int) then (if (rd x6 x8) = x3 then (cmp_Or_int.l0 k x3 x6 x7 (wrap64 (x8 + 1))) else (some (rd x6 x8))) else (none)) else (none)) else (some x3)
def cmp_Or_int.f (k : Nat) (l0 : List Int) : Option (Int) := cmp_Or_int.l0 k 0 l0 (l0.length : Int) 0
theorem cmp_Or_int.mono_l : ∀ k, (∀ y0 y1 y2 y3, LeO (cmp_Or_int.l0 k y0 y1 y2 y3) (cmp_Or_int.l0 (k + 1) y0 y1 y2 y3))
 | 0 => fun _ _ _ _ r h => by simp [cmp_Or_int.l0] at h
 | k + 1 => by
  have ih0 := cmp_Or_int.mono_l k
  ·intro y0 y1 y2 y3
   unfold cmp_Or_int.l0
   repeat' with_reducible first
   | exact ih0 _ _ _ _
   | exact LeO.refl _
   | exact LeO.none _
   | refine LeO.ite ?_ ?_
   | refine LeO.bind ?_ (fun _ => ?_)
theorem cmp_Or_int.mono : ∀ a0 k, LeO (cmp_Or_int.f k a0) (cmp_Or_int.f (k + 1) a0) := by
 intro a0 k;have ih0 := cmp_Or_int.mono_l k;unfold cmp_Or_int.f
 repeat' with_reducible first
   | exact ih0 _ _ _ _
   | exact LeO.refl _
   | exact LeO.none _
   | refine LeO.ite ?_ ?_
   | refine LeO.bind ?_ (fun _ => ?_)
set_option maxHeartbeats 8000000 in
set_option maxRecDepth 100000 in
theorem cmp_Or_int.calls (k : Nat) (A0 : Option Addr) (c0 : Nat) (l0 : List Int) (r : Int) (w : World) (hr0 : Kd.C (Kd.int .i64) w A0 l0.length l0) (hc0 : l0.length ≤ c0) (h : cmp_Or_int.f k l0 = some r) :
  Calls Tryz.prog 47 #[.slice A0 l0.length c0] w fun e w' => e = .returned (.int .i64 r) ∧ Drawn0 w w' := by
 have HR0 := AM hr0;have HC0 := AM hc0;clear hr0 hc0;have H := h;unfold cmp_Or_int.f at H;clear h;have H' := AM H;clear H;(go_enter Tryz.func47, Tryz.ntmps47);(go_wp2);(go_loopg [8] k (fun kq v8 w' => ∃ (x8_1 : Int), v8 = .int .i64 x8_1 ∧ Aside0 (cmp_Or_int.l0 kq 0 l0 (l0.length : Int) x8_1 = some r) ∧ Aside0 (kq ≤ k) ∧ Drawn0 w w'))
 case atStart => exact ⟨(0), rf, H', ⟨Nat.le_refl _⟩, dR⟩
 case round =>
  clear H';obtain ⟨x8_1, rfl, HA, HK1, ⟨m1, rfl⟩⟩ := hrel
  cases gk with
  | zero => exact absurd HA.out (by simp [cmp_Or_int.l0])
  | succ k1 =>
   have H := HA.out;clear HA;simp only [cmp_Or_int.l0] at H;by_cases c2 : x8_1 < (l0.length : Int)
   ·rw [if_pos c2] at H
    have c2b0 := dT c2;clear c2;by_cases c3 : 0 ≤ x8_1
    ·rw [if_pos c3] at H
     have c3b0 := dT c3;clear c3;by_cases c4 : x8_1 < (l0.length : Int)
     ·rw [if_pos c4] at H
      have c4b0 := dT c4;clear c4;by_cases c5 : (rd l0 x8_1) = 0
      ·rw [if_pos c5] at H
       have c5b0 : ((rd l0 x8_1) == 0) = true := beq_iff_eq.mpr c5;have c5b1 : ((rd l0 x8_1) != 0) = false := bne_eq_false_iff_eq.mpr c5;clear c5;have H' := AM H;clear H;have p444 := pz x8_1;have q444 := qz x8_1 (l0.length : Int);obtain ⟨ad444, e444, hx444_0⟩ := Kd.at_int HR0.out x8_1 p444 q444;cases e444;replace p444 := eq_true p444;replace q444 := eq_true q444;(go_wp2);(go_roundg k1)
       case measure => have := HK1.out; omega
       case rel => exact ⟨(wrap64 (x8_1 + 1)), rf, H', ⟨by have := HK1.out; omega⟩, dR⟩
      ·rw [if_neg c5] at H
       have c5b0 : ((rd l0 x8_1) == 0) = false := beq_eq_false_iff_ne.mpr c5;have c5b1 : ((rd l0 x8_1) != 0) = true := bne_iff_ne.mpr c5;obtain rfl := oI H;have p444 := pz x8_1;have q444 := qz x8_1 (l0.length : Int);obtain ⟨ad444, e444, hx444_0⟩ := Kd.at_int HR0.out x8_1 p444 q444;cases e444;replace p444 := eq_true p444;replace q444 := eq_true q444;(go_wp2);(go_ret);exact ⟨rf, dR⟩
     ·exact nO c4 H
    ·exact nO c3 H
   ·rw [if_neg c2] at H
    have c2b0 := dF c2;clear c2;obtain rfl := oI H;(go_wp2);(go_ret);exact ⟨rf, dR⟩
def bytealg_CompareString.f (a0 : ByteArray) (a1 : ByteArray) : Option (Int) := some (Lib.compareBytes a0.data.toList a1.data.toList)
set_option maxHeartbeats 1000000 in
set_option maxRecDepth 100000 in
theorem bytealg_CompareString.calls (a0 : ByteArray) (a1 : ByteArray) (r : Int) (w : World) (h : bytealg_CompareString.f a0 a1 = some r) :
    Calls Tryz.prog 91 #[.string a0, .string a1] w fun e w' => e = .returned (.int .i64 r) ∧ Drawn0 w w' := by
  obtain rfl := oI h;clear h;(go_enter Tryz.func91, Tryz.ntmps91);(go_wp2);rw [run_callFunc_extern Tryz.func116 (by kernel_rfl) (by kernel_rfl) (by kernel_rfl) (e := Extern.BytealgCompare.compare) (by kernel_rfl), Lib.run_compareString];simp only [Result.andThen];rw [Oper.upon_value];(go_wp2);(go_ret);exact ⟨rfl, Drawn0.refl _⟩
def strings_Compare.f (a0 : ByteArray) (a1 : ByteArray) : Option (Int) := (bytealg_CompareString.f a0 a1).bind fun t445 => (some t445)
set_option maxHeartbeats 8000000 in
set_option maxRecDepth 100000 in
theorem strings_Compare.calls (a0 : ByteArray) (a1 : ByteArray) (r : Int) (w : World) (h : strings_Compare.f a0 a1 = some r) :
  Calls Tryz.prog 55 #[.string a0, .string a1] w fun e w' => e = .returned (.int .i64 r) ∧ Drawn0 w w' := by
 have H := h;unfold strings_Compare.f at H;clear h;obtain ⟨t445, A3, H⟩ := oA H;(try dsimp only at H);obtain rfl := oI H;(go_enter Tryz.func55, Tryz.ntmps55)
 go_wp2_with (first | ((with_reducible refine gC (f := 91) rfl ?_); refine gX (some 7) Tryz.func91 #[.string a0, .string a1] ?_; (with_reducible refine (bytealg_CompareString.calls a0 a1 t445 _ A3.out).mono ?_); rintro e w' ⟨rfl, ⟨nd, rfl⟩⟩; refine ⟨_, rfl, ?_⟩))
 (go_ret);exact ⟨rf, dR⟩
end Go.Proofs.YtbnagolaacejoaaGreatDoor.Px
