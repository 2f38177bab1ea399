/- Calls of Go functions come to what the Lean functions beside them say; written by a program of this session (wip/xprint); no conditions. -/
import Derived.Test.YthcccgnhokncdaaGreatDoorPx6
namespace Go.Proofs.YthcccgnhokncdaaGreatDoor.Px
open Go.RowKit Go.Proofs.YthcccgnhokncdaaGreatDoorW.PrintWords Go.Proofs.YthcccgnhokncdaaGreatDoorW.PrintLast Go.Proofs.YthcccgnhokncdaaGreatDoorW.PrintMore
open Go.Proofs.YthcccgnhokncdaaGreatDoorW.PrintWords renaming gate_callee → gC, pw_below_drewN → pN, below_drew1 → p1, below_alloc → pA, below_set → pS, blk_drewN → bN, blk_alloc → bL, blk_drew → bW, blk_below → bB, below_step → bS, below_size → bZ
open Go.Proofs.YthcccgnhokncdaaGreatDoorW.PrintWords.Aside0 renaming mk → AM
open Go.Proofs.YthcccgnhokncdaaGreatDoorW.PrintLast renaming goesL_ → gL
open Bool renaming eq_false_iff → bE
open Option renaming bind_eq_some_iff → oB
open Option.some renaming inj → oI
open List renaming map_toArray → mT, map_cons → mC, map_nil → mN
open Go.Proofs.YthcccgnhokncdaaGreatDoorW.PrintWords.Kd renaming R_reads' → rR, C_alloc → cA, C_drewN → cN, C_drew → cD, C_below → cB
attribute [local go_sem] max2_int min2_int max_two min_two max_three min_three max_four min_four
set_option maxHeartbeats 8000000
set_option maxRecDepth 100000
set_option linter.unusedVariables false
set_option linter.unusedSimpArgs false
/-! ### impl_isNameWord: function 83 -/
mutual
def impl_isNameWord.j0 : Nat → ByteArray → Bool → Option (Bool)
 | 0, _, _ => none
 | k + 1, x0, x22 => if x22 = true then (some false) else (impl_isNameWord.l0 k x0 0)
def impl_isNameWord.l0 : Nat → ByteArray → Int → Option (Bool)
 | 0, _, _ => none
 | k + 1, x0, x3 => if x3 < (x0.size : Int) then (if 0 ≤ x3 then ((impl_isLetter.f (bt x0 x3)).bind fun t302 => (if t302 = true then (impl_isNameWord.l0 k x0 (wrap64 (x3 + 1))) else (if (bt x0 x3) = 45 then (if 0 ≤ (wrap64 (x3 - 1)) then (if (wrap64 (x3 - 1)) < (x0.size : Int) then ((impl_isLetter.f (bt x0 (wrap64 (x3 - 1)))).bind fun t303 => (if t303 = true then (impl_isNameWord.l0 k x0 (wrap64 (x3 + 1))) else (some false))) else (none)) else (none)) else (if (bt x0 x3) = 39 then (if 0 ≤ (wrap64 (x3 - 1)) then (if (wrap64 (x3 - 1)) < (x0.size : Int) then ((impl_isLetter.f (bt x0 (wrap64 (x3 - 1)))).bind fun t304 => (if t304 = true then (impl_isNameWord.l0 k x0 (wrap64 (x3 + 1))) else (some false))) else (none)) else (none)) else (some false))))) else (none)) else (some true)
end
def impl_isNameWord.f (k : Nat) (a0 : ByteArray) : Option (Bool) := (impl_inside.f (a0.size : Int) 1 12).bind fun t299 => (if t299 = true then (if 0 ≤ (wrap64 ((a0.size : Int) - 1)) then (if (wrap64 ((a0.size : Int) - 1)) < (a0.size : Int) then ((impl_isLetter.f (bt a0 (wrap64 ((a0.size : Int) - 1)))).bind fun t300 => (if t300 = true then (if 0 < (a0.size : Int) then ((impl_isLetter.f (bt a0 0)).bind fun t301 => (impl_isNameWord.j0 k a0 (!t301))) else (none)) else (impl_isNameWord.j0 k a0 true))) else (none)) else (none)) else (impl_isNameWord.j0 k a0 true))
theorem impl_isNameWord.mono_l : ∀ k, (∀ y0 y1, LeO (impl_isNameWord.j0 k y0 y1) (impl_isNameWord.j0 (k + 1) y0 y1)) ∧ (∀ y0 y1, LeO (impl_isNameWord.l0 k y0 y1) (impl_isNameWord.l0 (k + 1) y0 y1))
 | 0 => ⟨fun _ _ r h => by simp [impl_isNameWord.j0] at h, fun _ _ r h => by simp [impl_isNameWord.l0] at h⟩
 | k + 1 => by
  obtain ⟨ih0, ih1⟩ := impl_isNameWord.mono_l k;refine ⟨?_, ?_⟩
  ·intro y0 y1
   unfold impl_isNameWord.j0
   repeat' with_reducible first
   | exact ih0 _ _
   | exact ih1 _ _
   | exact LeO.refl _
   | exact LeO.none _
   | refine LeO.ite ?_ ?_
   | refine LeO.bind ?_ (fun _ => ?_)
  ·intro y0 y1
   unfold impl_isNameWord.l0
   repeat' with_reducible first
   | exact ih0 _ _
   | exact ih1 _ _
   | exact LeO.refl _
   | exact LeO.none _
   | refine LeO.ite ?_ ?_
   | refine LeO.bind ?_ (fun _ => ?_)
theorem impl_isNameWord.mono : ∀ a0 k, LeO (impl_isNameWord.f k a0) (impl_isNameWord.f (k + 1) a0) := by
 intro a0 k;obtain ⟨ih0, ih1⟩ := impl_isNameWord.mono_l k;unfold impl_isNameWord.f
 repeat' with_reducible first
   | exact ih0 _ _
   | exact ih1 _ _
   | exact LeO.refl _
   | exact LeO.none _
   | refine LeO.ite ?_ ?_
   | refine LeO.bind ?_ (fun _ => ?_)
theorem impl_isNameWord.calls (k : Nat) (a0 : ByteArray) (r : Bool) (w : World) (h : impl_isNameWord.f k a0 = some r) :
  Calls Tryz.prog 83 #[.string a0] w fun e w' => e = .returned (.bool r) ∧ Drawn0 w w' := by
 have H := h;unfold impl_isNameWord.f at H;clear h;have HC2 := AM H;clear H;(go_enter Tryz.func83, Tryz.ntmps83)
 go_upto_region 1 with (fail)
 go_cut [22] (fun v22 wc => ∃ (kq : Nat) (x22_1 : Bool), v22 = .bool x22_1 ∧ Aside0 (impl_isNameWord.j0 kq a0 x22_1 = some r) ∧ Aside0 (kq ≤ k) ∧ Drawn0 w wc)
 case first =>
  have H := HC2.out;clear HC2;replace H := oB.mp H;obtain ⟨t299, A30, H⟩ := H;(try dsimp only at H);have A3 := AM A30;clear A30;by_cases c4 : t299 = true
  ·subst c4
   rw [if_pos rfl] at H
   obtain ⟨ji5, hji5⟩ : ∃ j_ : Int, (wrap64 ((a0.size : Int) - 1)) = j_ := ⟨_, rfl⟩
   replace H : (if 0 ≤ (ji5) then (if (ji5) < (a0.size : Int) then ((impl_isLetter.f (bt a0 (ji5))).bind fun t300 => (if t300 = true then (if 0 < (a0.size : Int) then ((impl_isLetter.f (bt a0 0)).bind fun t301 => (impl_isNameWord.j0 k a0 (!t301))) else (none)) else (impl_isNameWord.j0 k a0 true))) else (none)) else (none)) = some r := by first | (rw [hji5] at H; exact H) | (simp only [hji5] at H ⊢; exact H)
   (try rw [hji5] at A3);have hji5w : (IntKind.i64.wrap ((a0.size : Int) - 1)) = ji5 := (i64_w _).trans hji5;by_cases c6 : 0 ≤ (ji5)
   ·rw [if_pos c6] at H
    have c6b0 : decide (0 ≤ (ji5)) = true := dT c6;clear c6;(first | rw [c6b0] | rw [c6b1] | rw [c6b2] | (simp only [i64_w, i32_w]; rw [c6b0]) | skip);by_cases c7 : (ji5) < (a0.size : Int)
    ·rw [if_pos c7] at H
     have c7b0 : decide ((ji5) < (a0.size : Int)) = true := dT c7;clear c7;replace H := oB.mp H;obtain ⟨t300, A90, H⟩ := H;(try dsimp only at H);have A9 := AM A90;clear A90;by_cases c10 : t300 = true
     ·subst c10
      rw [if_pos rfl] at H;by_cases c11 : 0 < (a0.size : Int)
      ·rw [if_pos c11] at H
       have c11b0 : decide (0 < (a0.size : Int)) = true := dT c11;have c11b1 : decide (0 < a0.size) = true := dT (by omega);clear c11;replace H := oB.mp H;obtain ⟨t301, A130, H⟩ := H;(try dsimp only at H);have A13 := AM A130;clear A130;have H' := AM H;clear H
       go_wp2_with (first | ((with_reducible refine gC (f := 38) rfl ?_); refine gL (some 6) rfl rfl Tryz.func38 (by kernel_rfl) rfl #[.int .i64 (a0.size : Int), .int .i64 1, .int .i64 12] rfl (by (try simp only [mT, mC, mN]); try rfl) ?_; (with_reducible refine (impl_inside.calls (a0.size : Int) 1 12 true _ A3.out).mono ?_); rintro e w' ⟨rfl, ⟨nd, rfl⟩⟩; refine ⟨_, rfl, ?_⟩; have p8 : 0 ≤ ((ji5) : Int) := oD (by assumption); have q8 : (ji5) < (a0.size : Int) := oD (by assumption); have hx8 := bt_at a0 (ji5); replace p8 := eq_true p8; replace q8 := eq_true q8) | (go_at_call 101; (with_reducible refine (impl_isLetter.calls (bt a0 (ji5)) true _ A9.out).mono ?_); rintro e w' ⟨rfl, ⟨nd, rfl⟩⟩; have p12 : 0 ≤ (0 : Int) := (by omega); have q12 : 0 < a0.size := (by have : (0 : Int) < (a0.size : Int) := oD (by assumption); omega); have hx12 : ∀ h : 0 < a0.size, ((a0[0]'h).toNat : Int) = bt a0 0 := bt_at a0 0; clear p12; have qi12 : (0 < (a0.size : Int)) = True := eq_true (oD (by assumption)); replace q12 := eq_true q12) | (go_at_call 101; (with_reducible refine (impl_isLetter.calls (bt a0 0) t301 _ A13.out).mono ?_); rintro e w' ⟨rfl, ⟨nd, rfl⟩⟩))
       go_meet
       case rel => exact ⟨_, (!t301), (by first | rfl | (simp; done) | (simp [*]; done)), H', ⟨by first | omega | exact Nat.le_refl _⟩, by repeat (first | exact Drawn0.refl _ | apply Drawn0.step)⟩
      ·rw [if_neg c11] at H
       exact absurd H (by simp)
     ·replace c10 := bE.mpr c10
      subst c10;rw [if_neg (show ¬ (false = true) by decide)] at H;have H' := AM H;clear H
      go_wp2_with (first | ((with_reducible refine gC (f := 38) rfl ?_); refine gL (some 6) rfl rfl Tryz.func38 (by kernel_rfl) rfl #[.int .i64 (a0.size : Int), .int .i64 1, .int .i64 12] rfl (by (try simp only [mT, mC, mN]); try rfl) ?_; (with_reducible refine (impl_inside.calls (a0.size : Int) 1 12 true _ A3.out).mono ?_); rintro e w' ⟨rfl, ⟨nd, rfl⟩⟩; refine ⟨_, rfl, ?_⟩; have p8 : 0 ≤ ((ji5) : Int) := oD (by assumption); have q8 : (ji5) < (a0.size : Int) := oD (by assumption); have hx8 := bt_at a0 (ji5); replace p8 := eq_true p8; replace q8 := eq_true q8) | (go_at_call 101; (with_reducible refine (impl_isLetter.calls (bt a0 (ji5)) false _ A9.out).mono ?_); rintro e w' ⟨rfl, ⟨nd, rfl⟩⟩))
      go_meet
      case rel => exact ⟨_, (true), (by first | rfl | (simp; done) | (simp [*]; done)), H', ⟨by first | omega | exact Nat.le_refl _⟩, by repeat (first | exact Drawn0.refl _ | apply Drawn0.step)⟩
    ·rw [if_neg c7] at H
     exact absurd H (by simp)
   ·rw [if_neg c6] at H
    exact absurd H (by simp)
  ·replace c4 := bE.mpr c4
   subst c4;rw [if_neg (show ¬ (false = true) by decide)] at H;have H' := AM H;clear H
   go_wp2_with (first | ((with_reducible refine gC (f := 38) rfl ?_); refine gL (some 6) rfl rfl Tryz.func38 (by kernel_rfl) rfl #[.int .i64 (a0.size : Int), .int .i64 1, .int .i64 12] rfl (by (try simp only [mT, mC, mN]); try rfl) ?_; (with_reducible refine (impl_inside.calls (a0.size : Int) 1 12 false _ A3.out).mono ?_); rintro e w' ⟨rfl, ⟨nd, rfl⟩⟩; refine ⟨_, rfl, ?_⟩))
   go_meet
   case rel => exact ⟨_, (true), (by first | rfl | (simp; done) | (simp [*]; done)), H', ⟨by first | omega | exact Nat.le_refl _⟩, by repeat (first | exact Drawn0.refl _ | apply Drawn0.step)⟩
 case rest =>
  clear HC2;(try clear c1);(try clear p1);(try clear q1);(try clear hx1);(try clear qi1);(try clear p2);(try clear c3);(try clear c4);(try clear c6);(try clear c6b0);(try clear c6b1);(try clear c6b2);(try clear p6);(try clear c7);(try clear c7b0);(try clear c8);(try clear p8);(try clear q8);(try clear hx8);(try clear c10);(try clear c11);(try clear c11b0);(try clear c11b1);(try clear p12);(try clear q12);(try clear hx12);(try clear qi12);(try clear p12);(try clear p8);(try clear q12);(try clear q8);obtain ⟨kq, x22_1, rfl, HA, HJ1, ⟨mc1, rfl⟩⟩ := hcut
  cases kq with
  | zero => exact absurd HA.out (by simp [impl_isNameWord.j0])
  | succ kj1 =>
   have H := HA.out;clear HA;simp only [impl_isNameWord.j0] at H;by_cases c14 : x22_1 = true;(·subst c14;rw [if_pos rfl] at H;obtain rfl := oI H;(go_wp2);(go_ret);exact ⟨by first | rfl | (simp; done) | (simp [*]; done), by repeat (first | exact Drawn0.refl _ | apply Drawn0.step)⟩)
   ·replace c14 := bE.mpr c14
    subst c14;rw [if_neg (show ¬ (false = true) by decide)] at H;have H' := AM H;clear H;(go_wp2);(go_loopg [3] kj1 (fun kq v3 w' => ∃ (x3_2 : Int), v3 = .int .i64 x3_2 ∧ Aside0 (impl_isNameWord.l0 kq a0 x3_2 = some r) ∧ Aside0 (kq ≤ kj1) ∧ Drawn0 w w'))
    case atStart => exact ⟨(0), (by first | rfl | (simp; done) | (simp [*]; done)), H', ⟨Nat.le_refl _⟩, by repeat (first | exact Drawn0.refl _ | apply Drawn0.step)⟩
    case round =>
     clear H';(try clear c1);(try clear p1);(try clear q1);(try clear hx1);(try clear qi1);(try clear p2);(try clear c3);(try clear c4);(try clear c6);(try clear c6b0);(try clear c6b1);(try clear c6b2);(try clear p6);(try clear c7);(try clear c7b0);(try clear c8);(try clear p8);(try clear q8);(try clear hx8);(try clear c10);(try clear c11);(try clear c11b0);(try clear c11b1);(try clear p12);(try clear q12);(try clear hx12);(try clear qi12);(try clear c14);(try clear p1);(try clear p12);(try clear p2);(try clear p6);(try clear p8);(try clear q1);(try clear q12);(try clear q8);obtain ⟨x3_2, rfl, HA, HK2, ⟨m2, rfl⟩⟩ := hrel
     cases gk with
     | zero => exact absurd HA.out (by simp [impl_isNameWord.l0])
     | succ k2 =>
      have H := HA.out;clear HA;simp only [impl_isNameWord.l0] at H;by_cases c15 : x3_2 < (a0.size : Int)
      ·rw [if_pos c15] at H
       have c15b0 : decide (x3_2 < (a0.size : Int)) = true := dT c15;clear c15;by_cases c16 : 0 ≤ x3_2
       ·rw [if_pos c16] at H
        have c16b0 : decide (0 ≤ x3_2) = true := dT c16;clear c16;replace H := oB.mp H;obtain ⟨t302, A180, H⟩ := H;(try dsimp only at H);have A18 := AM A180;clear A180;by_cases c19 : t302 = true
        ·subst c19
         rw [if_pos rfl] at H;have H' := AM H;clear H;have p17 : 0 ≤ (x3_2 : Int) := oD (by assumption);have q17 : x3_2 < (a0.size : Int) := oD (by assumption);have hx17 := bt_at a0 x3_2;replace p17 := eq_true p17;replace q17 := eq_true q17
         go_wp2_with (first | ((with_reducible refine gC (f := 101) rfl ?_); refine gL (some 32) rfl rfl Tryz.func101 (by kernel_rfl) rfl #[.int .u8 (bt a0 x3_2)] rfl (by (try simp only [mT, mC, mN]); try rfl) ?_; (with_reducible refine (impl_isLetter.calls (bt a0 x3_2) true _ A18.out).mono ?_); rintro e w' ⟨rfl, ⟨nd, rfl⟩⟩; refine ⟨_, rfl, ?_⟩))
         go_roundg k2
         case measure => have := HJ1.out; have := HK2.out; omega
         case rel => exact ⟨(wrap64 (x3_2 + 1)), (by first | rfl | (simp; done) | (simp [*]; done)), H', ⟨by have := HJ1.out; have := HK2.out; omega⟩, by repeat (first | exact Drawn0.refl _ | apply Drawn0.step)⟩
        ·replace c19 := bE.mpr c19
         subst c19;rw [if_neg (show ¬ (false = true) by decide)] at H;by_cases c21 : (bt a0 x3_2) = 45
         ·rw [if_pos c21] at H
          have c21b0 : ((bt a0 x3_2) == 45) = true := beq_iff_eq.mpr c21;have c21b1 : ((bt a0 x3_2) != 45) = false := bne_eq_false_iff_eq.mpr c21;clear c21
          obtain ⟨ji22, hji22⟩ : ∃ j_ : Int, (wrap64 (x3_2 - 1)) = j_ := ⟨_, rfl⟩
          replace H : (if 0 ≤ (ji22) then (if (ji22) < (a0.size : Int) then ((impl_isLetter.f (bt a0 (ji22))).bind fun t303 => (if t303 = true then (impl_isNameWord.l0 k2 a0 (wrap64 (x3_2 + 1))) else (some false))) else (none)) else (none)) = some r := by first | (rw [hji22] at H; exact H) | (simp only [hji22] at H ⊢; exact H)
          (try rw [hji22] at A18);have hji22w : (IntKind.i64.wrap (x3_2 - 1)) = ji22 := (i64_w _).trans hji22;by_cases c23 : 0 ≤ (ji22)
          ·rw [if_pos c23] at H
           have c23b0 : decide (0 ≤ (ji22)) = true := dT c23;clear c23;by_cases c24 : (ji22) < (a0.size : Int)
           ·rw [if_pos c24] at H
            have c24b0 : decide ((ji22) < (a0.size : Int)) = true := dT c24;clear c24;replace H := oB.mp H;obtain ⟨t303, A260, H⟩ := H;(try dsimp only at H);have A26 := AM A260;clear A260;have HC27 := AM H;clear H;have p17 : 0 ≤ (x3_2 : Int) := oD (by assumption);have q17 : x3_2 < (a0.size : Int) := oD (by assumption);have hx17 := bt_at a0 x3_2;replace p17 := eq_true p17;replace q17 := eq_true q17
            go_upto_if 53 with (first | ((with_reducible refine gC (f := 101) rfl ?_); refine gL (some 32) rfl rfl Tryz.func101 (by kernel_rfl) rfl #[.int .u8 (bt a0 x3_2)] rfl (by (try simp only [mT, mC, mN]); try rfl) ?_; (with_reducible refine (impl_isLetter.calls (bt a0 x3_2) false _ A18.out).mono ?_); rintro e w' ⟨rfl, ⟨nd, rfl⟩⟩; refine ⟨_, rfl, ?_⟩; have p20 : 0 ≤ (x3_2 : Int) := oD (by assumption); have q20 : x3_2 < (a0.size : Int) := oD (by assumption); have hx20 := bt_at a0 x3_2; replace p20 := eq_true p20; replace q20 := eq_true q20; have p25 : 0 ≤ ((ji22) : Int) := oD (by assumption); have q25 : (ji22) < (a0.size : Int) := oD (by assumption); have hx25 := bt_at a0 (ji22); replace p25 := eq_true p25; replace q25 := eq_true q25) | (go_at_call 101; (with_reducible refine (impl_isLetter.calls (bt a0 (ji22)) t303 _ A26.out).mono ?_); rintro e w' ⟨rfl, ⟨nd, rfl⟩⟩))
            (skip);have H := HC27.out;clear HC27;by_cases c28 : t303 = true
            ·subst c28
             rw [if_pos rfl] at H;have H' := AM H;clear H;(go_wp2);(go_roundg k2)
             case measure => have := HJ1.out; have := HK2.out; omega
             case rel => exact ⟨(wrap64 (x3_2 + 1)), (by first | rfl | (simp; done) | (simp [*]; done)), H', ⟨by have := HJ1.out; have := HK2.out; omega⟩, by repeat (first | exact Drawn0.refl _ | apply Drawn0.step)⟩
            ·replace c28 := bE.mpr c28
             subst c28;rw [if_neg (show ¬ (false = true) by decide)] at H;obtain rfl := oI H;(go_wp2);(go_ret);exact ⟨by first | rfl | (simp; done) | (simp only [← hji22] <;> (first | rfl | simp)) | (simp [*]; done), by repeat (first | exact Drawn0.refl _ | apply Drawn0.step)⟩
           ·rw [if_neg c24] at H
            exact absurd H (by simp)
          ·rw [if_neg c23] at H
           exact absurd H (by simp)
         ·rw [if_neg c21] at H
          have c21b0 : ((bt a0 x3_2) == 45) = false := beq_eq_false_iff_ne.mpr c21;have c21b1 : ((bt a0 x3_2) != 45) = true := bne_iff_ne.mpr c21;by_cases c30 : (bt a0 x3_2) = 39
          ·rw [if_pos c30] at H
           have c30b0 : ((bt a0 x3_2) == 39) = true := beq_iff_eq.mpr c30;have c30b1 : ((bt a0 x3_2) != 39) = false := bne_eq_false_iff_eq.mpr c30;clear c30
           obtain ⟨ji31, hji31⟩ : ∃ j_ : Int, (wrap64 (x3_2 - 1)) = j_ := ⟨_, rfl⟩
           replace H : (if 0 ≤ (ji31) then (if (ji31) < (a0.size : Int) then ((impl_isLetter.f (bt a0 (ji31))).bind fun t304 => (if t304 = true then (impl_isNameWord.l0 k2 a0 (wrap64 (x3_2 + 1))) else (some false))) else (none)) else (none)) = some r := by first | (rw [hji31] at H; exact H) | (simp only [hji31] at H ⊢; exact H)
           (try rw [hji31] at A18);have hji31w : (IntKind.i64.wrap (x3_2 - 1)) = ji31 := (i64_w _).trans hji31;by_cases c32 : 0 ≤ (ji31)
           ·rw [if_pos c32] at H
            have c32b0 : decide (0 ≤ (ji31)) = true := dT c32;clear c32;by_cases c33 : (ji31) < (a0.size : Int)
            ·rw [if_pos c33] at H
             have c33b0 : decide ((ji31) < (a0.size : Int)) = true := dT c33;clear c33;replace H := oB.mp H;obtain ⟨t304, A350, H⟩ := H;(try dsimp only at H);have A35 := AM A350;clear A350;have HC36 := AM H;clear H;have p17 : 0 ≤ (x3_2 : Int) := oD (by assumption);have q17 : x3_2 < (a0.size : Int) := oD (by assumption);have hx17 := bt_at a0 x3_2;replace p17 := eq_true p17;replace q17 := eq_true q17
             go_upto_if 53 with (first | ((with_reducible refine gC (f := 101) rfl ?_); refine gL (some 32) rfl rfl Tryz.func101 (by kernel_rfl) rfl #[.int .u8 (bt a0 x3_2)] rfl (by (try simp only [mT, mC, mN]); try rfl) ?_; (with_reducible refine (impl_isLetter.calls (bt a0 x3_2) false _ A18.out).mono ?_); rintro e w' ⟨rfl, ⟨nd, rfl⟩⟩; refine ⟨_, rfl, ?_⟩; have p20 : 0 ≤ (x3_2 : Int) := oD (by assumption); have q20 : x3_2 < (a0.size : Int) := oD (by assumption); have hx20 := bt_at a0 x3_2; replace p20 := eq_true p20; replace q20 := eq_true q20; have p29 : 0 ≤ (x3_2 : Int) := oD (by assumption); have q29 : x3_2 < (a0.size : Int) := oD (by assumption); have hx29 := bt_at a0 x3_2; replace p29 := eq_true p29; replace q29 := eq_true q29; have p34 : 0 ≤ ((ji31) : Int) := oD (by assumption); have q34 : (ji31) < (a0.size : Int) := oD (by assumption); have hx34 := bt_at a0 (ji31); replace p34 := eq_true p34; replace q34 := eq_true q34) | (go_at_call 101; (with_reducible refine (impl_isLetter.calls (bt a0 (ji31)) t304 _ A35.out).mono ?_); rintro e w' ⟨rfl, ⟨nd, rfl⟩⟩))
             (skip);have H := HC36.out;clear HC36;by_cases c37 : t304 = true
             ·subst c37
              rw [if_pos rfl] at H;have H' := AM H;clear H;(go_wp2);(go_roundg k2)
              case measure => have := HJ1.out; have := HK2.out; omega
              case rel => exact ⟨(wrap64 (x3_2 + 1)), (by first | rfl | (simp; done) | (simp [*]; done)), H', ⟨by have := HJ1.out; have := HK2.out; omega⟩, by repeat (first | exact Drawn0.refl _ | apply Drawn0.step)⟩
             ·replace c37 := bE.mpr c37
              subst c37;rw [if_neg (show ¬ (false = true) by decide)] at H;obtain rfl := oI H;(go_wp2);(go_ret);exact ⟨by first | rfl | (simp; done) | (simp only [← hji31] <;> (first | rfl | simp)) | (simp [*]; done), by repeat (first | exact Drawn0.refl _ | apply Drawn0.step)⟩
            ·rw [if_neg c33] at H
             exact absurd H (by simp)
           ·rw [if_neg c32] at H
            exact absurd H (by simp)
          ·rw [if_neg c30] at H
           have c30b0 : ((bt a0 x3_2) == 39) = false := beq_eq_false_iff_ne.mpr c30;have c30b1 : ((bt a0 x3_2) != 39) = true := bne_iff_ne.mpr c30;obtain rfl := oI H;have p17 : 0 ≤ (x3_2 : Int) := oD (by assumption);have q17 : x3_2 < (a0.size : Int) := oD (by assumption);have hx17 := bt_at a0 x3_2;replace p17 := eq_true p17;replace q17 := eq_true q17
           go_wp2_with (first | ((with_reducible refine gC (f := 101) rfl ?_); refine gL (some 32) rfl rfl Tryz.func101 (by kernel_rfl) rfl #[.int .u8 (bt a0 x3_2)] rfl (by (try simp only [mT, mC, mN]); try rfl) ?_; (with_reducible refine (impl_isLetter.calls (bt a0 x3_2) false _ A18.out).mono ?_); rintro e w' ⟨rfl, ⟨nd, rfl⟩⟩; refine ⟨_, rfl, ?_⟩; have p20 : 0 ≤ (x3_2 : Int) := oD (by assumption); have q20 : x3_2 < (a0.size : Int) := oD (by assumption); have hx20 := bt_at a0 x3_2; replace p20 := eq_true p20; replace q20 := eq_true q20; have p29 : 0 ≤ (x3_2 : Int) := oD (by assumption); have q29 : x3_2 < (a0.size : Int) := oD (by assumption); have hx29 := bt_at a0 x3_2; replace p29 := eq_true p29; replace q29 := eq_true q29))
           (go_ret);exact ⟨by first | rfl | (simp; done) | (simp [*]; done), by repeat (first | exact Drawn0.refl _ | apply Drawn0.step)⟩
       ·rw [if_neg c16] at H
        exact absurd H (by simp)
      ·rw [if_neg c15] at H
       have c15b0 : decide (x3_2 < (a0.size : Int)) = false := dF c15;clear c15;obtain rfl := oI H;(go_wp2);(go_ret);exact ⟨by first | rfl | (simp; done) | (simp [*]; done), by repeat (first | exact Drawn0.refl _ | apply Drawn0.step)⟩
/-! ### impl_isGreatWord: function 81 -/
def impl_isGreatWord.f (k : Nat) (a0 : ByteArray) : Option (Bool) := (impl_isNameWord.f k a0).bind fun t305 => (if t305 = true then (if 0 < (a0.size : Int) then ((impl_isUpper.f (bt a0 0)).bind fun t306 => (some t306)) else (none)) else (some false))
theorem impl_isGreatWord.mono : ∀ a0 k, LeO (impl_isGreatWord.f k a0) (impl_isGreatWord.f (k + 1) a0) := by
 intro a0 k;unfold impl_isGreatWord.f
 repeat' with_reducible first
   | exact impl_isNameWord.mono _ _
   | exact LeO.refl _
   | exact LeO.none _
   | refine LeO.ite ?_ ?_
   | refine LeO.bind ?_ (fun _ => ?_)
theorem impl_isGreatWord.calls (k : Nat) (a0 : ByteArray) (r : Bool) (w : World) (h : impl_isGreatWord.f k a0 = some r) :
  Calls Tryz.prog 81 #[.string a0] w fun e w' => e = .returned (.bool r) ∧ Drawn0 w w' := by
 have H := h;unfold impl_isGreatWord.f at H;clear h;replace H := oB.mp H;obtain ⟨t305, A20, H⟩ := H;(try dsimp only at H);have A2 := AM A20;clear A20;by_cases c3 : t305 = true
 ·subst c3
  rw [if_pos rfl] at H;by_cases c4 : 0 < (a0.size : Int)
  ·rw [if_pos c4] at H
   have c4b0 : decide (0 < (a0.size : Int)) = true := dT c4;have c4b1 : decide (0 < a0.size) = true := dT (by omega);clear c4;replace H := oB.mp H;obtain ⟨t306, A60, H⟩ := H;(try dsimp only at H);have A6 := AM A60;clear A60;obtain rfl := oI H;(go_enter Tryz.func81, Tryz.ntmps81)
   go_wp2_with (first | ((with_reducible refine gC (f := 83) rfl ?_); refine goesL_ (some 4) rfl rfl Tryz.func83 (by kernel_rfl) rfl #[.string a0] rfl (by (try simp only [mT, mC, mN]); try rfl) ?_; (with_reducible refine (impl_isNameWord.calls k a0 true _ A2.out).mono ?_); rintro e w' ⟨rfl, ⟨nd, rfl⟩⟩; refine ⟨_, rfl, ?_⟩; have p5 : 0 ≤ (0 : Int) := (by omega); have q5 : 0 < a0.size := (by have : (0 : Int) < (a0.size : Int) := oD (by assumption); omega); have hx5 : ∀ h : 0 < a0.size, ((a0[0]'h).toNat : Int) = bt a0 0 := bt_at a0 0; clear p5; have qi5 : (0 < (a0.size : Int)) = True := eq_true (oD (by assumption)); replace q5 := eq_true q5) | (go_at_call 99; (with_reducible refine (impl_isUpper.calls (bt a0 0) t306 _ A6.out).mono ?_); rintro e w' ⟨rfl, ⟨nd, rfl⟩⟩))
   (go_ret);exact ⟨by first | rfl | (simp; done) | (simp [*]; done), by repeat (first | exact Drawn0.refl _ | apply Drawn0.step)⟩
  ·rw [if_neg c4] at H
   exact absurd H (by simp)
 ·replace c3 := bE.mpr c3
  subst c3;rw [if_neg (show ¬ (false = true) by decide)] at H;obtain rfl := oI H;(go_enter Tryz.func81, Tryz.ntmps81)
  go_wp2_with (first | ((with_reducible refine gC (f := 83) rfl ?_); refine goesL_ (some 4) rfl rfl Tryz.func83 (by kernel_rfl) rfl #[.string a0] rfl (by (try simp only [mT, mC, mN]); try rfl) ?_; (with_reducible refine (impl_isNameWord.calls k a0 false _ A2.out).mono ?_); rintro e w' ⟨rfl, ⟨nd, rfl⟩⟩; refine ⟨_, rfl, ?_⟩))
  (go_ret);exact ⟨by first | rfl | (simp; done) | (simp [*]; done), by repeat (first | exact Drawn0.refl _ | apply Drawn0.step)⟩
/-! ### impl_IsValidName_1: function 80 -/
def impl_IsValidName_1.f (k : Nat) (a0 : ByteArray) : Option (Bool) := (impl_isGreatWord.f k a0).bind fun t307 => (some (!t307))
theorem impl_IsValidName_1.mono : ∀ a0 k, LeO (impl_IsValidName_1.f k a0) (impl_IsValidName_1.f (k + 1) a0) := by
 intro a0 k;unfold impl_IsValidName_1.f
 repeat' with_reducible first
   | exact impl_isGreatWord.mono _ _
   | exact LeO.refl _
   | exact LeO.none _
   | refine LeO.ite ?_ ?_
   | refine LeO.bind ?_ (fun _ => ?_)
theorem impl_IsValidName_1.calls (k : Nat) (a0 : ByteArray) (r : Bool) (w : World) (h : impl_IsValidName_1.f k a0 = some r) :
  Calls Tryz.prog 80 #[.string a0] w fun e w' => e = .returned (.bool r) ∧ Drawn0 w w' := by
 have H := h;unfold impl_IsValidName_1.f at H;clear h;replace H := oB.mp H;obtain ⟨t307, A20, H⟩ := H;(try dsimp only at H);have A2 := AM A20;clear A20;obtain rfl := oI H;(go_enter Tryz.func80, Tryz.ntmps80)
 go_wp2_with (first | ((with_reducible refine gC (f := 81) rfl ?_); refine goesL_ (some 4) rfl rfl Tryz.func81 (by kernel_rfl) rfl #[.string a0] rfl (by (try simp only [mT, mC, mN]); try rfl) ?_; (with_reducible refine (impl_isGreatWord.calls k a0 t307 _ A2.out).mono ?_); rintro e w' ⟨rfl, ⟨nd, rfl⟩⟩; refine ⟨_, rfl, ?_⟩))
 (go_ret);exact ⟨by first | rfl | (simp; done) | (simp [*]; done), by repeat (first | exact Drawn0.refl _ | apply Drawn0.step)⟩
/-! ### slices_ContainsFunc_string_string: function 79 -/
theorem slices_ContainsFunc_string_string.index (g : FuncId) (cb : Array Value) (p : ByteArray → Bool) (A0 : Option Addr) (c0 : Nat) (l0 : List ByteArray) (w : World) (hr0 : Kd.C Kd.string w A0 l0.length l0) (hc0 : l0.length ≤ c0) (hb0 : l0.length ≤ 9223372036854775807)
    (eg : ∀ args W, (callFunc g args).run Tryz.prog W = .ok (.enter g args) W)
    (hcl : ∀ (x : ByteArray) (W : World), x ∈ l0 → Below w.heap.size w W → Calls Tryz.prog g (#[.string x] ++ cb) W fun e W' => e = .returned (.bool (p x)) ∧ Below W.heap.size W W') :
    Calls Tryz.prog 98 #[.slice A0 l0.length c0, .func (.func g) #[] cb] w fun e w' => ∃ r : Int, e = .returned (.int .i64 r) ∧ decide (0 ≤ r) = l0.any p ∧ Below w.heap.size w w' := by
  have HR0 := AM hr0;have HCL := AM hcl;clear hr0 hcl;(go_enter Tryz.func98, Tryz.ntmps98);(go_wp2);(go_loopw [8] (fun v8 wr => ∃ (i : Int), 0 ≤ i ∧ i ≤ (l0.length : Int) ∧ v8 = .int .i64 i ∧ Aside0 (∀ x ∈ l0.take i.toNat, p x = false) ∧ Aside0 (Below w.heap.size w wr)) (fun v _ => l0.length - (intOf v).toNat))
  case atStart => exact ⟨0, Int.le_refl _, by omega, rfl, ⟨by simp⟩, ⟨Below.refl _ _⟩⟩
  case round =>
    obtain ⟨i, hi0, hin, rfl, HP, HB⟩ := hrel;by_cases hlt : i < (l0.length : Int)
    · obtain ⟨ad, e107, hx_0⟩ := Kd.at_string HR0.out i hi0 hlt
      cases e107;replace hx_0 := (HB.out.cell (World.block_lt_of_cell? w _ hx_0)).trans hx_0
      have hmem : rdOf ByteArray.empty l0 i ∈ l0 := by
        unfold rdOf;(have hj : i.toNat < l0.length := by omega);simp only [List.getD, List.getElem?_eq_getElem hj, Option.getD_some];exact List.getElem_mem hj
      have htk : l0.take (i + 1).toNat = l0.take i.toNat ++ [rdOf ByteArray.empty l0 i] := by
        unfold rdOf;(have hj : i.toNat < l0.length := by omega);(have e : (i + 1).toNat = i.toNat + 1 := by omega);rw [e, List.take_succ_eq_append_getElem hj];simp only [List.getD, List.getElem?_eq_getElem hj, Option.getD_some]
      have HMEM := AM hmem;have HTK := AM htk;clear hmem htk;generalize rdOf ByteArray.empty l0 i = x at hx_0 HMEM HTK;have p107 : (0 ≤ i) = True := eq_true hi0;have q107 : (i < (l0.length : Int)) = True := eq_true hlt;have c2b0 : decide (i < (l0.length : Int)) = true := dT hlt
      cases hp : p x with
      | true =>
        have HPX := AM hp;clear hp
        go_wp2_with (go_at_fn g; refine (HCL.out x _ HMEM.out HB.out).mono ?_; rintro e w6 ⟨rfl, hb⟩; rw [HPX.out]; have HB6 := AM hb; clear hb)
        (go_ret);refine ⟨i, rfl, ?_, below_then HB.out HB.out.size HB6.out⟩;rw [dT hi0];exact (List.any_eq_true.2 ⟨x, HMEM.out, HPX.out⟩).symm
      | false =>
        have HPX := AM hp;clear hp
        go_wp2_with (go_at_fn g; refine (HCL.out x _ HMEM.out HB.out).mono ?_; rintro e w6 ⟨rfl, hb⟩; rw [HPX.out]; have HB6 := AM hb; clear hb)
        refine ⟨⟨i + 1, by omega, by omega, by first | rfl | go_num | (simp; done), ⟨?_⟩, ⟨below_then HB.out HB.out.size HB6.out⟩⟩, by simp [intOf]; omega⟩;rw [HTK.out];intro y hy;(rcases List.mem_append.1 hy with hy | hy);(·exact HP.out y hy);(·(rw [List.mem_singleton.1 hy]; exact HPX.out))
    · have c2b0 : decide (i < (l0.length : Int)) = false := dF hlt
      (go_wp2);(go_ret);refine ⟨-1, rfl, ?_, HB.out⟩;have hall := HP.out;rw [List.take_of_length_le (by omega)] at hall;rw [show decide (0 ≤ (-1 : Int)) = false from rfl];refine (bE.2 fun h => ?_).symm;obtain ⟨y, hy, hpy⟩ := List.any_eq_true.1 h;rw [hall y hy] at hpy;cases hpy
theorem slices_ContainsFunc_string_string.contains (g : FuncId) (cb : Array Value) (p : ByteArray → Bool) (A0 : Option Addr) (c0 : Nat) (l0 : List ByteArray) (w : World) (hr0 : Kd.C Kd.string w A0 l0.length l0) (hc0 : l0.length ≤ c0) (hb0 : l0.length ≤ 9223372036854775807)
    (eg : ∀ args W, (callFunc g args).run Tryz.prog W = .ok (.enter g args) W)
    (hcl : ∀ (x : ByteArray) (W : World), x ∈ l0 → Below w.heap.size w W → Calls Tryz.prog g (#[.string x] ++ cb) W fun e W' => e = .returned (.bool (p x)) ∧ Below W.heap.size W W') :
    Calls Tryz.prog 79 #[.slice A0 l0.length c0, .func (.func g) #[] cb] w fun e w' => e = .returned (.bool (l0.any p)) ∧ Below w.heap.size w w' := by
  have hI := slices_ContainsFunc_string_string.index g cb p A0 c0 l0 w hr0 hc0 hb0 eg hcl;clear hcl;(go_enter Tryz.func79, Tryz.ntmps79)
  go_wp2_with (go_at_call 98; refine hI.mono ?_; rintro e w6 ⟨r, rfl, hr, hb⟩; have HR6 := AM hr; have HB6 := AM hb; clear hr hb)
  (go_ret);refine ⟨?_, HB6.out⟩;rw [← HR6.out];rfl
def slices_ContainsFunc_string_string.f (k : Nat) (l0 : List ByteArray) (a1 : Unit) : Option (Bool) := if l0.all (fun x => (impl_IsValidName_1.f k x).isSome) = true then some (l0.any fun x => (impl_IsValidName_1.f k x).getD false) else none
theorem slices_ContainsFunc_string_string.mono : ∀ a0 a1 k, LeO (slices_ContainsFunc_string_string.f k a0 a1) (slices_ContainsFunc_string_string.f (k + 1) a0 a1) := by
  intro l a1 k r h;unfold slices_ContainsFunc_string_string.f at h ⊢;by_cases ha : l.all (fun x => (impl_IsValidName_1.f k x).isSome) = true
  · rw [if_pos ha] at h
    have hx : ∀ x ∈ l, impl_IsValidName_1.f (k + 1) x = impl_IsValidName_1.f k x := fun x hx => by
      obtain ⟨b, hb⟩ := Option.isSome_iff_exists.1 (List.all_eq_true.1 ha x hx);rw [hb];exact impl_IsValidName_1.mono x k b hb
    have h1 : l.all (fun x => (impl_IsValidName_1.f (k + 1) x).isSome) = true := List.all_eq_true.2 fun x hm => by
      rw [hx x hm];exact List.all_eq_true.1 ha x hm
    have h2 : l.any (fun x => (impl_IsValidName_1.f (k + 1) x).getD false) = l.any (fun x => (impl_IsValidName_1.f k x).getD false) := by
      clear h ha h1
      induction l with
      | nil => rfl
      | cons a t ih => rw [List.any_cons, List.any_cons, hx a (by simp), ih (fun x hm => hx x (List.mem_cons_of_mem _ hm))]
    rw [if_pos h1, h2];exact h
  · rw [if_neg ha] at h
    cases h
theorem slices_ContainsFunc_string_string.calls (k : Nat) (A0 : Option Addr) (c0 : Nat) (l0 : List ByteArray) (a1 : Unit) (r : Bool) (w : World) (hr0 : Kd.C Kd.string w A0 l0.length l0) (hc0 : l0.length ≤ c0) (h : slices_ContainsFunc_string_string.f k l0 a1 = some r) :
    Calls Tryz.prog 79 #[.slice A0 l0.length c0, .func (.func 80) #[] #[]] w fun e w' => e = .returned (.bool r) ∧ Below w.heap.size w w' := by
  unfold slices_ContainsFunc_string_string.f at h;by_cases ha : l0.all (fun x => (impl_IsValidName_1.f k x).isSome) = true
  · rw [if_pos ha] at h
    obtain rfl := oI h
    exact slices_ContainsFunc_string_string.contains 80 #[] (fun x => (impl_IsValidName_1.f k x).getD false) A0 c0 l0 w hr0 hc0 (Kd.C_max hr0) (enters_of Tryz.func80 (by kernel_rfl) rfl) (fun x W hx hW => by
      obtain ⟨b, hb⟩ := Option.isSome_iff_exists.1 (List.all_eq_true.1 ha x hx)
      show Calls Tryz.prog 80 #[.string x] W _
      rw [hb]
      exact (impl_IsValidName_1.calls k x b W hb).mono fun e w' ⟨he, hd⟩ => ⟨he, by obtain ⟨n, rfl⟩ := hd; exact pw_below_drewN (Below.refl _ _) _⟩)
  · rw [if_neg ha] at h
    cases h
/-! ### strings_Split: function 100 -/
def strings_Split.parts (a0 : ByteArray) (a1 : ByteArray) : List ByteArray := Lib.splitB a1 0 (Lib.countB a0 a1) a0
def strings_Split.f (a0 : ByteArray) (a1 : ByteArray) : Option (List ByteArray) := if a0.size < 4294967281 then (if 1 ≤ a1.size then some (strings_Split.parts a0 a1) else none) else none
theorem strings_Split.calls (a0 : ByteArray) (a1 : ByteArray) (r : List ByteArray) (w : World) (henv : Go.Proofs.YthcccgnhokncdaaGreatDoorW.Envs.Env [0] w) (h : strings_Split.f a0 a1 = some r) :
    Calls Tryz.prog 100 #[.string a0, .string a1] w fun e w' => ∃ v0_ : Value, e = .returned (v0_) ∧ Kd.R Kd.string 9 w' w.heap.size (fun _ => True) v0_ r ∧ Below w.heap.size w w' := by
  unfold strings_Split.f at h;by_cases h0 : a0.size < 4294967281;(·rw [if_pos h0] at h;by_cases h1 : 1 ≤ a1.size;(·rw [if_pos h1] at h;obtain rfl := oI h;obtain ⟨m, hm⟩ := henv.int (by decide) (strings_Split.lays.s1_3);(refine (Any.strings_Split { strings_Split.lays with } strings_Split.lays.i9 a0 a1 m w h0 hm h1).mono fun e w' ⟨he, hw⟩ => ?_);have hn : (strings_Split.parts a0 a1).length = Lib.countB a0 a1 + 1 := Lib.splitB_all a1 h1 0 _ a0 rfl;have hle := Lib.countB_le a1 h1 a0.size a0 (Nat.le_refl _);subst hw;refine ⟨_, he, ?_, below_alloc (Below.refl _ _) _⟩;rw [← hn];exact Kd.R_of_own (own_lit_of w w.heap.size 9 (strings_Split.parts a0 a1) (Nat.le_refl _) (by omega)) (fun _ _ => trivial));(·rw [if_neg h1] at h;exact absurd h (by simp)));(·rw [if_neg h0] at h;exact absurd h (by simp))
/-! ### impl_isParticle: function 82 -/
mutual
def impl_isParticle.l0 : Nat → List ByteArray → List ByteArray → Int → Int → Option (Bool)
 | 0, _, _, _, _ => none
 | k + 1, x3, x11, x12, x13 => if x13 < x12 then (if 0 ≤ x13 then (if x13 < (x11.length : Int) then ((impl_inside.f ((rdOf ByteArray.empty x11 x13).size : Int) 1 12).bind fun t312 => (if t312 = true then (impl_isParticle.l1 k x3 (rdOf ByteArray.empty x11 x13) 0 x11 x12 x13) else (some false))) else (none)) else (none)) else (some (decide ((x3.length : Int) ≤ 2)))
def impl_isParticle.l1 : Nat → List ByteArray → ByteArray → Int → List ByteArray → Int → Int → Option (Bool)
 | 0, _, _, _, _, _, _ => none
 | k + 1, x3, x5, x6, x11, x12, x13 => if x6 < (x5.size : Int) then (if 0 ≤ x6 then ((impl_isLower.f (bt x5 x6)).bind fun t313 => (if t313 = true then (impl_isParticle.l1 k x3 x5 (wrap64 (x6 + 1)) x11 x12 x13) else (some false))) else (none)) else (impl_isParticle.l0 k x3 x11 x12 (wrap64 (x13 + 1)))
end
def impl_isParticle.f (k : Nat) (a0 : ByteArray) : Option (Bool) := if a0.toList = ([] : List UInt8) then (some true) else ((strings_Split.f a0 (⟨#[32]⟩ : ByteArray)).bind fun t308 => (impl_isParticle.l0 k t308 t308 (t308.length : Int) 0))
theorem impl_isParticle.mono_l : ∀ k, (∀ y0 y1 y2 y3, LeO (impl_isParticle.l0 k y0 y1 y2 y3) (impl_isParticle.l0 (k + 1) y0 y1 y2 y3)) ∧ (∀ y0 y1 y2 y3 y4 y5, LeO (impl_isParticle.l1 k y0 y1 y2 y3 y4 y5) (impl_isParticle.l1 (k + 1) y0 y1 y2 y3 y4 y5))
 | 0 => ⟨fun _ _ _ _ r h => by simp [impl_isParticle.l0] at h, fun _ _ _ _ _ _ r h => by simp [impl_isParticle.l1] at h⟩
 | k + 1 => by
  obtain ⟨ih0, ih1⟩ := impl_isParticle.mono_l k;refine ⟨?_, ?_⟩
  ·intro y0 y1 y2 y3
   unfold impl_isParticle.l0
   repeat' with_reducible first
   | exact ih0 _ _ _ _
   | exact ih1 _ _ _ _ _ _
   | exact LeO.refl _
   | exact LeO.none _
   | refine LeO.ite ?_ ?_
   | refine LeO.bind ?_ (fun _ => ?_)
  ·intro y0 y1 y2 y3 y4 y5
   unfold impl_isParticle.l1
   repeat' with_reducible first
   | exact ih0 _ _ _ _
   | exact ih1 _ _ _ _ _ _
   | exact LeO.refl _
   | exact LeO.none _
   | refine LeO.ite ?_ ?_
   | refine LeO.bind ?_ (fun _ => ?_)
theorem impl_isParticle.mono : ∀ a0 k, LeO (impl_isParticle.f k a0) (impl_isParticle.f (k + 1) a0) := by
 intro a0 k;obtain ⟨ih0, ih1⟩ := impl_isParticle.mono_l k;unfold impl_isParticle.f
 repeat' with_reducible first
   | exact ih0 _ _ _ _
   | exact ih1 _ _ _ _ _ _
   | exact LeO.refl _
   | exact LeO.none _
   | refine LeO.ite ?_ ?_
   | refine LeO.bind ?_ (fun _ => ?_)
theorem impl_isParticle.calls (k : Nat) (a0 : ByteArray) (r : Bool) (w : World) (henv : Go.Proofs.YthcccgnhokncdaaGreatDoorW.Envs.Env [0] w) (h : impl_isParticle.f k a0 = some r) :
  Calls Tryz.prog 82 #[.string a0] w fun e w' => e = .returned (.bool r) ∧ Below w.heap.size w w' := by
 have HB := AM (Below.refl w.heap.size w);have HENV := AM henv;clear henv;have H := h;unfold impl_isParticle.f at H;clear h;by_cases c2 : a0.toList = ([] : List UInt8);(·rw [if_pos c2] at H;have c2b0 : (a0.toList == ([] : List UInt8)) = true := beq_iff_eq.mpr c2;have c2b1 : (a0.toList != ([] : List UInt8)) = false := bne_eq_false_iff_eq.mpr c2;clear c2;obtain rfl := oI H;(go_enter Tryz.func82, Tryz.ntmps82);(go_wp2);(go_ret);exact ⟨rfl, by with_reducible repeat first | exact HB.out | apply pA | apply pN | apply p1⟩)
 ·rw [if_neg c2] at H
  have c2b0 : (a0.toList == ([] : List UInt8)) = false := beq_eq_false_iff_ne.mpr c2;have c2b1 : (a0.toList != ([] : List UInt8)) = true := bne_iff_ne.mpr c2;replace H := oB.mp H;obtain ⟨t308, A30, H⟩ := H;(try dsimp only at H);have A3 := AM A30;clear A30;have H' := AM H;clear H;(go_enter Tryz.func82, Tryz.ntmps82)
  go_wp2_with (first | ((with_reducible refine gC (f := 100) rfl ?_); refine gL (some 10) rfl rfl Tryz.func100 (by kernel_rfl) rfl #[.string a0, .string (⟨#[32]⟩ : ByteArray)] rfl (by (try simp only [mT, mC, mN]); try rfl) ?_; (with_reducible refine (strings_Split.calls a0 (⟨#[32]⟩ : ByteArray) t308 _ ?side1 A3.out).mono ?_); (case side1 => exact Go.Proofs.YthcccgnhokncdaaGreatDoorW.Envs.Env.below HENV.out (by with_reducible repeat first | exact HB.out | apply pA | apply pN | apply p1)); rintro e w4 ⟨v309, rfl, ho0, hb⟩; refine ⟨_, rfl, ?_⟩; have HO310 := AM (Kd.R_lower ho0 (below_size (by with_reducible repeat first | exact HB.out | apply pA | apply pN | apply p1))); replace HB := AM (below_step (by with_reducible repeat first | exact HB.out | apply pA | apply pN | apply p1) hb); (try clear hb); (try clear ho0); obtain ⟨Ao5, co5, eo5⟩ := Kd.R_slice HO310.out; subst eo5))
  go_loopg [13] k (fun kq v13 w' => ∃ (x13_1 : Int), v13 = .int .i64 x13_1 ∧ Aside0 (impl_isParticle.l0 kq t308 t308 (t308.length : Int) x13_1 = some r) ∧ Aside0 (kq ≤ k) ∧ Aside0 (Kd.R Kd.string 9 w' w.heap.size (fun _ => True) (.slice Ao5 t308.length co5) t308) ∧ Aside0 (Kd.R Kd.string 9 w' w.heap.size (fun _ => True) (.slice Ao5 t308.length co5) t308) ∧ Aside0 (Below w.heap.size w w'))
  case atStart => exact ⟨(0), (by first | rfl | (simp; done) | (simp [*]; done)), H', ⟨Nat.le_refl _⟩, ⟨by (with_reducible repeat (first | apply Kd.R_alloc | apply Kd.R_drewN | apply Kd.R_drew)); exact HO310.out⟩, ⟨by (with_reducible repeat (first | apply Kd.R_alloc | apply Kd.R_drewN | apply Kd.R_drew)); exact HO310.out⟩, ⟨by with_reducible repeat first | exact HB.out | apply pA | apply pN | apply p1⟩⟩
  case round =>
   clear H';(try clear c1);(try clear c2);(try clear c2b0);(try clear c2b1);(try clear p2);obtain ⟨x13_1, rfl, HA, HK1, HO_3, HO_11, HB⟩ := hrel
   cases gk with
   | zero => exact absurd HA.out (by simp [impl_isParticle.l0])
   | succ k1 =>
    have H := HA.out;clear HA;simp only [impl_isParticle.l0] at H;by_cases c6 : x13_1 < (t308.length : Int)
    ·rw [if_pos c6] at H
     have c6b0 : decide (x13_1 < (t308.length : Int)) = true := dT c6;clear c6;by_cases c7 : 0 ≤ x13_1
     ·rw [if_pos c7] at H
      have c7b0 : decide (0 ≤ x13_1) = true := dT c7;clear c7;by_cases c8 : x13_1 < (t308.length : Int)
      ·rw [if_pos c8] at H
       have c8b0 : decide (x13_1 < (t308.length : Int)) = true := dT c8;clear c8;replace H := oB.mp H;obtain ⟨t312, A90, H⟩ := H;(try dsimp only at H);have A9 := AM A90;clear A90;by_cases c10 : t312 = true
       ·subst c10
        rw [if_pos rfl] at H;have H' := AM H;clear H;have p311 : 0 ≤ (x13_1 : Int) := oD (by assumption);have q311 : x13_1 < (t308.length : Int) := oD (by assumption);obtain ⟨ad311, e311, hx311_0⟩ := Kd.at_string (rR HO_11.out).2.2 x13_1 p311 q311;cases e311;replace p311 := eq_true p311;replace q311 := eq_true q311
        go_wp2_with (first | ((with_reducible refine gC (f := 38) rfl ?_); refine gL (some 19) rfl rfl Tryz.func38 (by kernel_rfl) rfl #[.int .i64 ((rdOf ByteArray.empty t308 x13_1).size : Int), .int .i64 1, .int .i64 12] rfl (by (try simp only [mT, mC, mN]); try rfl) ?_; (with_reducible refine (impl_inside.calls ((rdOf ByteArray.empty t308 x13_1).size : Int) 1 12 true _ A9.out).mono ?_); rintro e w' ⟨rfl, ⟨nd, rfl⟩⟩; refine ⟨_, rfl, ?_⟩))
        go_loopg [6] k1 (fun kq v6 w' => ∃ (x6_2 : Int), v6 = .int .i64 x6_2 ∧ Aside0 (impl_isParticle.l1 kq t308 (rdOf ByteArray.empty t308 x13_1) x6_2 t308 (t308.length : Int) x13_1 = some r) ∧ Aside0 (kq ≤ k1) ∧ Aside0 (Kd.R Kd.string 9 w' w.heap.size (fun _ => True) (.slice (some ad311) t308.length co5) t308) ∧ Aside0 (Kd.R Kd.string 9 w' w.heap.size (fun _ => True) (.slice (some ad311) t308.length co5) t308) ∧ Aside0 (Below w.heap.size w w'))
        case atStart => exact ⟨(0), (by first | rfl | (simp; done) | (simp [*]; done)), H', ⟨Nat.le_refl _⟩, ⟨by (with_reducible repeat (first | apply Kd.R_alloc | apply Kd.R_drewN | apply Kd.R_drew)); exact HO_3.out⟩, ⟨by (with_reducible repeat (first | apply Kd.R_alloc | apply Kd.R_drewN | apply Kd.R_drew)); exact HO_11.out⟩, ⟨by with_reducible repeat first | exact HB.out | apply pA | apply pN | apply p1⟩⟩
        case round =>
         clear H';(try clear c1);(try clear c2);(try clear c2b0);(try clear c2b1);(try clear p2);(try clear c3);(try clear p3);(try clear q3);(try clear hx3);(try clear c6);(try clear c6b0);(try clear c7);(try clear c7b0);(try clear c8);(try clear c8b0);(try clear c10);(try clear hx311_0);(try clear p2);(try clear p311);(try clear q311);obtain ⟨x6_2, rfl, HA, HK2, HO_3, HO_11, HB⟩ := hrel
         cases gk with
         | zero => exact absurd HA.out (by simp [impl_isParticle.l1])
         | succ k2 =>
          have H := HA.out;clear HA;simp only [impl_isParticle.l1] at H;by_cases c11 : x6_2 < ((rdOf ByteArray.empty t308 x13_1).size : Int)
          ·rw [if_pos c11] at H
           have c11b0 : decide (x6_2 < ((rdOf ByteArray.empty t308 x13_1).size : Int)) = true := dT c11;clear c11;by_cases c12 : 0 ≤ x6_2
           ·rw [if_pos c12] at H
            have c12b0 : decide (0 ≤ x6_2) = true := dT c12;clear c12;replace H := oB.mp H;obtain ⟨t313, A140, H⟩ := H;(try dsimp only at H);have A14 := AM A140;clear A140;by_cases c15 : t313 = true
            ·subst c15
             rw [if_pos rfl] at H;have H' := AM H;clear H;have p13 : 0 ≤ (x6_2 : Int) := oD (by assumption);have q13 : x6_2 < ((rdOf ByteArray.empty t308 x13_1).size : Int) := oD (by assumption);have hx13 := bt_at (rdOf ByteArray.empty t308 x13_1) x6_2;replace p13 := eq_true p13;replace q13 := eq_true q13
             go_wp2_with (first | ((with_reducible refine gC (f := 56) rfl ?_); refine gL (some 30) rfl rfl Tryz.func56 (by kernel_rfl) rfl #[.int .u8 (bt (rdOf ByteArray.empty t308 x13_1) x6_2)] rfl (by (try simp only [mT, mC, mN]); try rfl) ?_; (with_reducible refine (impl_isLower.calls (bt (rdOf ByteArray.empty t308 x13_1) x6_2) true _ A14.out).mono ?_); rintro e w' ⟨rfl, ⟨nd, rfl⟩⟩; refine ⟨_, rfl, ?_⟩))
             go_roundg k2
             case measure => have := HK1.out; have := HK2.out; omega
             case rel => exact ⟨(wrap64 (x6_2 + 1)), (by first | rfl | (simp; done) | (simp [*]; done)), H', ⟨by have := HK1.out; have := HK2.out; omega⟩, ⟨by (with_reducible repeat (first | apply Kd.R_alloc | apply Kd.R_drewN | apply Kd.R_drew)); exact HO_3.out⟩, ⟨by (with_reducible repeat (first | apply Kd.R_alloc | apply Kd.R_drewN | apply Kd.R_drew)); exact HO_11.out⟩, ⟨by with_reducible repeat first | exact HB.out | apply pA | apply pN | apply p1⟩⟩
            ·replace c15 := bE.mpr c15
             subst c15;rw [if_neg (show ¬ (false = true) by decide)] at H;obtain rfl := oI H;have p13 : 0 ≤ (x6_2 : Int) := oD (by assumption);have q13 : x6_2 < ((rdOf ByteArray.empty t308 x13_1).size : Int) := oD (by assumption);have hx13 := bt_at (rdOf ByteArray.empty t308 x13_1) x6_2;replace p13 := eq_true p13;replace q13 := eq_true q13
             go_wp2_with (first | ((with_reducible refine gC (f := 56) rfl ?_); refine gL (some 30) rfl rfl Tryz.func56 (by kernel_rfl) rfl #[.int .u8 (bt (rdOf ByteArray.empty t308 x13_1) x6_2)] rfl (by (try simp only [mT, mC, mN]); try rfl) ?_; (with_reducible refine (impl_isLower.calls (bt (rdOf ByteArray.empty t308 x13_1) x6_2) false _ A14.out).mono ?_); rintro e w' ⟨rfl, ⟨nd, rfl⟩⟩; refine ⟨_, rfl, ?_⟩))
             (go_ret);exact ⟨rfl, by with_reducible repeat first | exact HB.out | apply pA | apply pN | apply p1⟩
           ·rw [if_neg c12] at H
            exact absurd H (by simp)
          ·rw [if_neg c11] at H
           have c11b0 : decide (x6_2 < ((rdOf ByteArray.empty t308 x13_1).size : Int)) = false := dF c11;clear c11;have H' := AM H;clear H;(go_wp2);(go_roundg k2)
           case measure => have := HK1.out; have := HK2.out; omega
           case rel => exact ⟨(wrap64 (x13_1 + 1)), (by first | rfl | (simp; done) | (simp [*]; done)), H', ⟨by have := HK1.out; have := HK2.out; omega⟩, ⟨by (with_reducible repeat (first | apply Kd.R_alloc | apply Kd.R_drewN | apply Kd.R_drew)); exact HO_3.out⟩, ⟨by (with_reducible repeat (first | apply Kd.R_alloc | apply Kd.R_drewN | apply Kd.R_drew)); exact HO_11.out⟩, ⟨by with_reducible repeat first | exact HB.out | apply pA | apply pN | apply p1⟩⟩
       ·replace c10 := bE.mpr c10
        subst c10;rw [if_neg (show ¬ (false = true) by decide)] at H;obtain rfl := oI H;have p311 : 0 ≤ (x13_1 : Int) := oD (by assumption);have q311 : x13_1 < (t308.length : Int) := oD (by assumption);obtain ⟨ad311, e311, hx311_0⟩ := Kd.at_string (rR HO_11.out).2.2 x13_1 p311 q311;cases e311;replace p311 := eq_true p311;replace q311 := eq_true q311
        go_wp2_with (first | ((with_reducible refine gC (f := 38) rfl ?_); refine gL (some 19) rfl rfl Tryz.func38 (by kernel_rfl) rfl #[.int .i64 ((rdOf ByteArray.empty t308 x13_1).size : Int), .int .i64 1, .int .i64 12] rfl (by (try simp only [mT, mC, mN]); try rfl) ?_; (with_reducible refine (impl_inside.calls ((rdOf ByteArray.empty t308 x13_1).size : Int) 1 12 false _ A9.out).mono ?_); rintro e w' ⟨rfl, ⟨nd, rfl⟩⟩; refine ⟨_, rfl, ?_⟩))
        (go_ret);exact ⟨rfl, by with_reducible repeat first | exact HB.out | apply pA | apply pN | apply p1⟩
      ·rw [if_neg c8] at H
       exact absurd H (by simp)
     ·rw [if_neg c7] at H
      exact absurd H (by simp)
    ·rw [if_neg c6] at H
     have c6b0 : decide (x13_1 < (t308.length : Int)) = false := dF c6;clear c6;obtain rfl := oI H;(go_wp2);(go_ret);exact ⟨rfl, by with_reducible repeat first | exact HB.out | apply pA | apply pN | apply p1⟩
/-! ### impl_IsValidName: function 60 -/
def impl_IsValidName.j0 : Nat → Bool → List ByteArray → ByteArray → ByteArray → ByteArray → Option (Bool)
 | 0, _, _, _, _, _ => none
 | k + 1, x11, x315000, x315001, x315002, x315003 => if x11 = true then (some false) else ((impl_isParticle.f k x315001).bind fun t316 => (if t316 = true then ((impl_isGreatWord.f k x315002).bind fun t317 => (if t317 = true then (if x315003.toList = ([] : List UInt8) then (some true) else ((impl_isNameWord.f k x315003).bind fun t318 => (some t318))) else (some false))) else (some false)))
def impl_IsValidName.f (k : Nat) (l0_0 : List ByteArray) (a0_1 : ByteArray) (a0_2 : ByteArray) (a0_3 : ByteArray) : Option (Bool) := if (l0_0.length : Int) > 3 then (impl_IsValidName.j0 k true l0_0 a0_1 a0_2 a0_3) else ((slices_ContainsFunc_string_string.f k l0_0 ()).bind fun t315 => (impl_IsValidName.j0 k t315 l0_0 a0_1 a0_2 a0_3))
theorem impl_IsValidName.mono_l : ∀ k, (∀ y0 y1 y2 y3 y4, LeO (impl_IsValidName.j0 k y0 y1 y2 y3 y4) (impl_IsValidName.j0 (k + 1) y0 y1 y2 y3 y4))
 | 0 => fun _ _ _ _ _ r h => by simp [impl_IsValidName.j0] at h
 | k + 1 => by
  have ih0 := impl_IsValidName.mono_l k
  ·intro y0 y1 y2 y3 y4
   unfold impl_IsValidName.j0
   repeat' with_reducible first
   | exact ih0 _ _ _ _ _
   | exact impl_isGreatWord.mono _ _
   | exact impl_isNameWord.mono _ _
   | exact impl_isParticle.mono _ _
   | exact slices_ContainsFunc_string_string.mono _ _ _
   | exact LeO.refl _
   | exact LeO.none _
   | refine LeO.ite ?_ ?_
   | refine LeO.bind ?_ (fun _ => ?_)
theorem impl_IsValidName.mono : ∀ a0 a1 a2 a3 k, LeO (impl_IsValidName.f k a0 a1 a2 a3) (impl_IsValidName.f (k + 1) a0 a1 a2 a3) := by
 intro a0 a1 a2 a3 k;have ih0 := impl_IsValidName.mono_l k;unfold impl_IsValidName.f
 repeat' with_reducible first
   | exact ih0 _ _ _ _ _
   | exact impl_isGreatWord.mono _ _
   | exact impl_isNameWord.mono _ _
   | exact impl_isParticle.mono _ _
   | exact slices_ContainsFunc_string_string.mono _ _ _
   | exact LeO.refl _
   | exact LeO.none _
   | refine LeO.ite ?_ ?_
   | refine LeO.bind ?_ (fun _ => ?_)
theorem impl_IsValidName.calls (k : Nat) (A0_0 : Option Addr) (c0_0 : Nat) (l0_0 : List ByteArray) (a0_1 : ByteArray) (a0_2 : ByteArray) (a0_3 : ByteArray) (r : Bool) (w : World) (hr0_0 : Kd.C Kd.string w A0_0 l0_0.length l0_0) (hc0_0 : l0_0.length ≤ c0_0) (henv : Go.Proofs.YthcccgnhokncdaaGreatDoorW.Envs.Env [0] w) (h : impl_IsValidName.f k l0_0 a0_1 a0_2 a0_3 = some r) :
  Calls Tryz.prog 60 #[.agg #[.slice A0_0 l0_0.length c0_0, .string a0_1, .string a0_2, .string a0_3]] w fun e w' => e = .returned (.bool r) ∧ Below w.heap.size w w' := by
 have hu61 := Tryz.underlying61;have HR0_0 := AM hr0_0;have HC0_0 := AM hc0_0;clear hr0_0 hc0_0;have HB := AM (Below.refl w.heap.size w);have HENV := AM henv;clear henv;have H := h;unfold impl_IsValidName.f at H;clear h;have HC2 := AM H;clear H;(go_enter Tryz.func60, Tryz.ntmps60)
 go_upto_region 1 with (first | ((with_reducible refine gate_dst (N := 1) rfl ?_); refine box_event ?hg (N := 1) ?hd (cs := #[.slice A0_0 l0_0.length c0_0, .string a0_1, .string a0_2, .string a0_3]) (t := 61) ?hr ?_; (case hd => rfl); (case hg => rfl); (case hr => first | (go_simp; done) | (go_simp; rfl)); intro gb314 hg w3 hbox hb; have BK314 := AM (hbox); have GW314 := AM ((by rw [hg]; exact (bZ (by with_reducible repeat first | exact HB.out | apply pA | apply pN | apply p1)) : w.heap.size ≤ gb314)); have GE314 := AM ((by rw [hg]; exact (bZ (by with_reducible repeat first | exact HB.out | apply pA | apply pN | apply p1)) : w.heap.size ≤ gb314)); replace HB := AM (bS (by with_reducible repeat first | exact HB.out | apply pA | apply pN | apply p1) hb); clear hb hbox hg))
 (try simp only [Act.put, List.setIfInBounds_toArray, List.set_cons_zero, List.set_cons_succ]);(go_cut [11] (fun v11 wc => ∃ (kq : Nat) (x11_1 : Bool), v11 = .bool x11_1 ∧ Aside0 (impl_IsValidName.j0 kq x11_1 l0_0 a0_1 a0_2 a0_3 = some r) ∧ Aside0 (kq ≤ k) ∧ Aside0 (wc.heap[gb314]? = some (.cells #[(.slice A0_0 l0_0.length c0_0), .string a0_1, .string a0_2, .string a0_3] 61 (0, 0))) ∧ Aside0 (Below w.heap.size w wc)))
 case first =>
  have H := HC2.out;clear HC2;by_cases c4 : (l0_0.length : Int) > 3
  ·rw [if_pos c4] at H
   have c4b0 : decide (3 < (l0_0.length : Int)) = true := dT c4;have c4b1 : decide (3 < l0_0.length) = true := dT (by omega);clear c4;(first | rw [c4b0] | rw [c4b1] | rw [c4b2] | (simp only [i64_w, i32_w]; rw [c4b0]) | skip);have H' := AM H;clear H;obtain ⟨z5_0, z5_1, z5_2, z5_3⟩ := cells4 BK314.out;(go_wp2);(go_meet)
   case rel => exact ⟨_, (true), (by first | rfl | (simp; done) | (simp [*]; done)), H', ⟨by first | omega | exact Nat.le_refl _⟩, ⟨by (with_reducible repeat (first | refine bN ?_ _ | refine bW ?_ | refine bL ?_ _)); exact BK314.out⟩, ⟨by with_reducible repeat first | exact HB.out | apply pA | apply pN | apply p1 | refine pS ?_ GE314.out⟩⟩
  ·rw [if_neg c4] at H
   have c4b0 : decide (3 < (l0_0.length : Int)) = false := dF c4;have c4b1 : decide (3 < l0_0.length) = false := dF (by omega);clear c4;(first | rw [c4b0] | rw [c4b1] | rw [c4b2] | (simp only [i64_w, i32_w]; rw [c4b0]) | skip);replace H := oB.mp H;obtain ⟨t315, A60, H⟩ := H;(try dsimp only at H);have A6 := AM A60;clear A60;have H' := AM H;clear H;obtain ⟨z7_0, z7_1, z7_2, z7_3⟩ := cells4 BK314.out
   go_wp2_with (first | (go_at_call 79; (with_reducible refine (slices_ContainsFunc_string_string.calls k _ _ l0_0 () t315 _ ?side1 ?side2 A6.out).mono ?_); (case side1 => repeat first | exact (cB HR0_0.out HB.out) | with_reducible first | apply cA | apply cN | apply cD); (case side2 => exact HC0_0.out); rintro e w8 ⟨rfl, hb⟩; replace BK314 := AM (bB (by (with_reducible repeat first | apply bN | apply bW | apply bL); exact BK314.out) hb); replace HB := AM (bS (by with_reducible repeat first | exact HB.out | apply pA | apply pN | apply p1 | refine pS ?_ GE314.out) hb); (try clear hb)))
   go_meet
   case rel => exact ⟨_, (t315), (by first | rfl | (simp; done) | (simp [*]; done)), H', ⟨by first | omega | exact Nat.le_refl _⟩, ⟨by (with_reducible repeat (first | refine bN ?_ _ | refine bW ?_ | refine bL ?_ _)); exact BK314.out⟩, ⟨by with_reducible repeat first | exact HB.out | apply pA | apply pN | apply p1 | refine pS ?_ GE314.out⟩⟩
 case rest =>
  clear HC2;(try clear p2);(try clear c4);(try clear c4b0);(try clear c4b1);(try clear c4b2);(try clear c6);(try clear z5_0);(try clear z5_1);(try clear z5_2);(try clear z5_3);(try clear z7_0);(try clear z7_1);(try clear z7_2);(try clear z7_3);obtain ⟨kq, x11_1, rfl, HA, HJ1, BK314, HB⟩ := hcut
  cases kq with
  | zero => exact absurd HA.out (by simp [impl_IsValidName.j0])
  | succ kj1 =>
   have H := HA.out;clear HA;simp only [impl_IsValidName.j0] at H;by_cases c9 : x11_1 = true;(·subst c9;rw [if_pos rfl] at H;obtain rfl := oI H;(go_wp2);(go_ret);exact ⟨rfl, by with_reducible repeat first | exact HB.out | apply pA | apply pN | apply p1 | refine pS ?_ GE314.out⟩)
   ·replace c9 := bE.mpr c9
    subst c9;rw [if_neg (show ¬ (false = true) by decide)] at H;replace H := oB.mp H;obtain ⟨t316, A100, H⟩ := H;(try dsimp only at H);have A10 := AM A100;clear A100;by_cases c11 : t316 = true
    ·subst c11
     rw [if_pos rfl] at H;replace H := oB.mp H;obtain ⟨t317, A120, H⟩ := H;(try dsimp only at H);have A12 := AM A120;clear A120;by_cases c13 : t317 = true
     ·subst c13
      rw [if_pos rfl] at H;by_cases c14 : a0_3.toList = ([] : List UInt8)
      ·rw [if_pos c14] at H
       have c14b0 : (a0_3.toList == ([] : List UInt8)) = true := beq_iff_eq.mpr c14;have c14b1 : (a0_3.toList != ([] : List UInt8)) = false := bne_eq_false_iff_eq.mpr c14;clear c14;obtain rfl := oI H;obtain ⟨z15_0, z15_1, z15_2, z15_3⟩ := cells4 BK314.out
       go_wp2_with (first | ((with_reducible refine gC (f := 82) rfl ?_); refine gL (some 14) rfl rfl Tryz.func82 (by kernel_rfl) rfl #[.string a0_1] rfl (by (try simp only [mT, mC, mN]); try rfl) ?_; (with_reducible refine (impl_isParticle.calls kj1 a0_1 true _ ?side1 A10.out).mono ?_); (case side1 => exact Go.Proofs.YthcccgnhokncdaaGreatDoorW.Envs.Env.below HENV.out (by with_reducible repeat first | exact HB.out | apply pA | apply pN | apply p1 | refine pS ?_ GE314.out)); rintro e w16 ⟨rfl, hb⟩; refine ⟨_, rfl, ?_⟩; replace BK314 := AM (bB (by (with_reducible repeat first | apply bN | apply bW | apply bL); exact BK314.out) hb); replace HB := AM (bS (by with_reducible repeat first | exact HB.out | apply pA | apply pN | apply p1 | refine pS ?_ GE314.out) hb); (try clear hb); obtain ⟨z17_0, z17_1, z17_2, z17_3⟩ := cells4 BK314.out) | (go_at_call 81; (with_reducible refine (impl_isGreatWord.calls kj1 a0_2 true _ A12.out).mono ?_); rintro e w' ⟨rfl, ⟨nd, rfl⟩⟩))
       (go_ret);exact ⟨rfl, by with_reducible repeat first | exact HB.out | apply pA | apply pN | apply p1 | refine pS ?_ GE314.out⟩
      ·rw [if_neg c14] at H
       have c14b0 : (a0_3.toList == ([] : List UInt8)) = false := beq_eq_false_iff_ne.mpr c14;have c14b1 : (a0_3.toList != ([] : List UInt8)) = true := bne_iff_ne.mpr c14;replace H := oB.mp H;obtain ⟨t318, A180, H⟩ := H;(try dsimp only at H);have A18 := AM A180;clear A180;obtain rfl := oI H;obtain ⟨z19_0, z19_1, z19_2, z19_3⟩ := cells4 BK314.out
       go_wp2_with (first | ((with_reducible refine gC (f := 82) rfl ?_); refine gL (some 14) rfl rfl Tryz.func82 (by kernel_rfl) rfl #[.string a0_1] rfl (by (try simp only [mT, mC, mN]); try rfl) ?_; (with_reducible refine (impl_isParticle.calls kj1 a0_1 true _ ?side1 A10.out).mono ?_); (case side1 => exact Go.Proofs.YthcccgnhokncdaaGreatDoorW.Envs.Env.below HENV.out (by with_reducible repeat first | exact HB.out | apply pA | apply pN | apply p1 | refine pS ?_ GE314.out)); rintro e w20 ⟨rfl, hb⟩; refine ⟨_, rfl, ?_⟩; replace BK314 := AM (bB (by (with_reducible repeat first | apply bN | apply bW | apply bL); exact BK314.out) hb); replace HB := AM (bS (by with_reducible repeat first | exact HB.out | apply pA | apply pN | apply p1 | refine pS ?_ GE314.out) hb); (try clear hb); obtain ⟨z21_0, z21_1, z21_2, z21_3⟩ := cells4 BK314.out) | (go_at_call 81; (with_reducible refine (impl_isGreatWord.calls kj1 a0_2 true _ A12.out).mono ?_); rintro e w' ⟨rfl, ⟨nd, rfl⟩⟩) | (go_at_call 83; (with_reducible refine (impl_isNameWord.calls kj1 a0_3 t318 _ A18.out).mono ?_); rintro e w' ⟨rfl, ⟨nd, rfl⟩⟩))
       (go_ret);exact ⟨rfl, by with_reducible repeat first | exact HB.out | apply pA | apply pN | apply p1 | refine pS ?_ GE314.out⟩
     ·replace c13 := bE.mpr c13
      subst c13;rw [if_neg (show ¬ (false = true) by decide)] at H;obtain rfl := oI H;obtain ⟨z22_0, z22_1, z22_2, z22_3⟩ := cells4 BK314.out
      go_wp2_with (first | ((with_reducible refine gC (f := 82) rfl ?_); refine gL (some 14) rfl rfl Tryz.func82 (by kernel_rfl) rfl #[.string a0_1] rfl (by (try simp only [mT, mC, mN]); try rfl) ?_; (with_reducible refine (impl_isParticle.calls kj1 a0_1 true _ ?side1 A10.out).mono ?_); (case side1 => exact Go.Proofs.YthcccgnhokncdaaGreatDoorW.Envs.Env.below HENV.out (by with_reducible repeat first | exact HB.out | apply pA | apply pN | apply p1 | refine pS ?_ GE314.out)); rintro e w23 ⟨rfl, hb⟩; refine ⟨_, rfl, ?_⟩; replace BK314 := AM (bB (by (with_reducible repeat first | apply bN | apply bW | apply bL); exact BK314.out) hb); replace HB := AM (bS (by with_reducible repeat first | exact HB.out | apply pA | apply pN | apply p1 | refine pS ?_ GE314.out) hb); (try clear hb); obtain ⟨z24_0, z24_1, z24_2, z24_3⟩ := cells4 BK314.out) | (go_at_call 81; (with_reducible refine (impl_isGreatWord.calls kj1 a0_2 false _ A12.out).mono ?_); rintro e w' ⟨rfl, ⟨nd, rfl⟩⟩))
      (go_ret);exact ⟨rfl, by with_reducible repeat first | exact HB.out | apply pA | apply pN | apply p1 | refine pS ?_ GE314.out⟩
    ·replace c11 := bE.mpr c11
     subst c11;rw [if_neg (show ¬ (false = true) by decide)] at H;obtain rfl := oI H;obtain ⟨z25_0, z25_1, z25_2, z25_3⟩ := cells4 BK314.out
     go_wp2_with (first | ((with_reducible refine gC (f := 82) rfl ?_); refine gL (some 14) rfl rfl Tryz.func82 (by kernel_rfl) rfl #[.string a0_1] rfl (by (try simp only [mT, mC, mN]); try rfl) ?_; (with_reducible refine (impl_isParticle.calls kj1 a0_1 false _ ?side1 A10.out).mono ?_); (case side1 => exact Go.Proofs.YthcccgnhokncdaaGreatDoorW.Envs.Env.below HENV.out (by with_reducible repeat first | exact HB.out | apply pA | apply pN | apply p1 | refine pS ?_ GE314.out)); rintro e w26 ⟨rfl, hb⟩; refine ⟨_, rfl, ?_⟩; replace BK314 := AM (bB (by (with_reducible repeat first | apply bN | apply bW | apply bL); exact BK314.out) hb); replace HB := AM (bS (by with_reducible repeat first | exact HB.out | apply pA | apply pN | apply p1 | refine pS ?_ GE314.out) hb); (try clear hb)))
     (go_ret);exact ⟨rfl, by with_reducible repeat first | exact HB.out | apply pA | apply pN | apply p1 | refine pS ?_ GE314.out⟩
/-! ### impl_areNames_1: function 59 -/
def impl_areNames_1.f (k : Nat) (l0_0 : List ByteArray) (a0_1 : ByteArray) (a0_2 : ByteArray) (a0_3 : ByteArray) : Option (Bool) := (impl_IsValidName.f k l0_0 a0_1 a0_2 a0_3).bind fun t320 => (some (!t320))
theorem impl_areNames_1.mono : ∀ a0 a1 a2 a3 k, LeO (impl_areNames_1.f k a0 a1 a2 a3) (impl_areNames_1.f (k + 1) a0 a1 a2 a3) := by
 intro a0 a1 a2 a3 k;unfold impl_areNames_1.f
 repeat' with_reducible first
   | exact impl_IsValidName.mono _ _ _ _ _
   | exact LeO.refl _
   | exact LeO.none _
   | refine LeO.ite ?_ ?_
   | refine LeO.bind ?_ (fun _ => ?_)
theorem impl_areNames_1.calls (k : Nat) (A0_0 : Option Addr) (c0_0 : Nat) (l0_0 : List ByteArray) (a0_1 : ByteArray) (a0_2 : ByteArray) (a0_3 : ByteArray) (r : Bool) (w : World) (hr0_0 : Kd.C Kd.string w A0_0 l0_0.length l0_0) (hc0_0 : l0_0.length ≤ c0_0) (henv : Go.Proofs.YthcccgnhokncdaaGreatDoorW.Envs.Env [0] w) (h : impl_areNames_1.f k l0_0 a0_1 a0_2 a0_3 = some r) :
  Calls Tryz.prog 59 #[.agg #[.slice A0_0 l0_0.length c0_0, .string a0_1, .string a0_2, .string a0_3]] w fun e w' => e = .returned (.bool r) ∧ Below w.heap.size w w' := by
 have hu61 := Tryz.underlying61;have HR0_0 := AM hr0_0;have HC0_0 := AM hc0_0;clear hr0_0 hc0_0;have HB := AM (Below.refl w.heap.size w);have HENV := AM henv;clear henv;have H := h;unfold impl_areNames_1.f at H;clear h;replace H := oB.mp H;obtain ⟨t320, A20, H⟩ := H;(try dsimp only at H);have A2 := AM A20;clear A20;obtain rfl := oI H;(go_enter Tryz.func59, Tryz.ntmps59)
 go_wp2_with (first | ((with_reducible refine gate_dst (N := 1) rfl ?_); refine box_event ?hg (N := 1) ?hd (cs := #[.slice A0_0 l0_0.length c0_0, .string a0_1, .string a0_2, .string a0_3]) (t := 61) ?hr ?_; (case hd => rfl); (case hg => rfl); (case hr => first | (go_simp; done) | (go_simp; rfl)); intro gb319 hg w3 hbox hb; have BK319 := AM (hbox); have GW319 := AM ((by rw [hg]; exact (bZ (by with_reducible repeat first | exact HB.out | apply pA | apply pN | apply p1)) : w.heap.size ≤ gb319)); have GE319 := AM ((by rw [hg]; exact (bZ (by with_reducible repeat first | exact HB.out | apply pA | apply pN | apply p1)) : w.heap.size ≤ gb319)); replace HB := AM (bS (by with_reducible repeat first | exact HB.out | apply pA | apply pN | apply p1) hb); clear hb hbox hg; obtain ⟨z4_0, z4_1, z4_2, z4_3⟩ := cells4 BK319.out) | ((with_reducible refine gC (f := 60) rfl ?_); refine gL (some 4) rfl rfl Tryz.func60 (by kernel_rfl) rfl #[.agg #[.slice A0_0 l0_0.length c0_0, .string a0_1, .string a0_2, .string a0_3]] rfl (by (try simp only [mT, mC, mN]); try rfl) ?_; (with_reducible refine (impl_IsValidName.calls k _ _ l0_0 a0_1 a0_2 a0_3 t320 _ ?side1 ?side2 ?side3 A2.out).mono ?_); (case side1 => repeat first | exact (cB HR0_0.out HB.out) | with_reducible first | apply cA | apply cN | apply cD); (case side2 => exact HC0_0.out); (case side3 => exact Go.Proofs.YthcccgnhokncdaaGreatDoorW.Envs.Env.below HENV.out (by with_reducible repeat first | exact HB.out | apply pA | apply pN | apply p1 | refine pS ?_ GE319.out)); rintro e w5 ⟨rfl, hb⟩; refine ⟨_, rfl, ?_⟩; replace BK319 := AM (bB (by (with_reducible repeat first | apply bN | apply bW | apply bL); exact BK319.out) hb); replace HB := AM (bS (by with_reducible repeat first | exact HB.out | apply pA | apply pN | apply p1 | refine pS ?_ GE319.out) hb); (try clear hb)))
 (go_ret);exact ⟨rfl, by with_reducible repeat first | exact HB.out | apply pA | apply pN | apply p1 | refine pS ?_ GE319.out⟩
/-! ### impl_Name_78: function 78 -/
def impl_Name_78.l0 : Nat → List (S61) → Int → Int → Option (Int)
 | 0, _, _, _ => none
 | k + 1, x0, x7, x8 => if x8 < x7 then (if 0 ≤ x8 then (if x8 < (x0.length : Int) then ((impl_areNames_1.f k ((rd_T61 x0 x8).f0) ((rd_T61 x0 x8).f1) ((rd_T61 x0 x8).f2) ((rd_T61 x0 x8).f3)).bind fun t322 => (if t322 = true then (some x8) else (impl_Name_78.l0 k x0 x7 (wrap64 (x8 + 1))))) else (none)) else (none)) else (some (-1))
def impl_Name_78.f (k : Nat) (l0 : List (S61)) (a1 : Unit) : Option (Int) := impl_Name_78.l0 k l0 (l0.length : Int) 0
theorem impl_Name_78.mono_l : ∀ k, (∀ y0 y1 y2, LeO (impl_Name_78.l0 k y0 y1 y2) (impl_Name_78.l0 (k + 1) y0 y1 y2))
 | 0 => fun _ _ _ r h => by simp [impl_Name_78.l0] at h
 | k + 1 => by
  have ih0 := impl_Name_78.mono_l k
  ·intro y0 y1 y2
   unfold impl_Name_78.l0
   repeat' with_reducible first
   | exact ih0 _ _ _
   | exact impl_areNames_1.mono _ _ _ _ _
   | exact LeO.refl _
   | exact LeO.none _
   | refine LeO.ite ?_ ?_
   | refine LeO.bind ?_ (fun _ => ?_)
theorem impl_Name_78.mono : ∀ a0 a1 k, LeO (impl_Name_78.f k a0 a1) (impl_Name_78.f (k + 1) a0 a1) := by
 intro a0 a1 k;have ih0 := impl_Name_78.mono_l k;unfold impl_Name_78.f
 repeat' with_reducible first
   | exact ih0 _ _ _
   | exact impl_areNames_1.mono _ _ _ _ _
   | exact LeO.refl _
   | exact LeO.none _
   | refine LeO.ite ?_ ?_
   | refine LeO.bind ?_ (fun _ => ?_)
theorem impl_Name_78.calls (k : Nat) (A0 : Option Addr) (c0 : Nat) (l0 : List (S61)) (a1 : Unit) (r : Int) (w : World) (hr0 : Kd.C k61 w A0 l0.length l0) (hc0 : l0.length ≤ c0) (henv : Go.Proofs.YthcccgnhokncdaaGreatDoorW.Envs.Env [0] w) (h : impl_Name_78.f k l0 a1 = some r) :
  Calls Tryz.prog 78 #[.slice A0 l0.length c0, .func (.func 59) #[] #[]] w fun e w' => e = .returned (.int .i64 r) ∧ Below w.heap.size w w' := by
 have hu61 := Tryz.underlying61;have HR0 := AM hr0;have HC0 := AM hc0;clear hr0 hc0;have HB := AM (Below.refl w.heap.size w);have HENV := AM henv;clear henv;(have eg59 : ∀ args W, (callFunc 59 args).run Tryz.prog W = .ok (.enter 59 args) W := fun args W => Go.Proofs.YthcccgnhokncdaaGreatDoorW.PrintLast.enters_ Tryz.func59 (by kernel_rfl) rfl args W);have H := h;unfold impl_Name_78.f at H;clear h;have H' := AM H;clear H;(go_enter Tryz.func78, Tryz.ntmps78);(go_wp2);(go_loopg [8] k (fun kq v8 w' => ∃ (x8_1 : Int), v8 = .int .i64 x8_1 ∧ Aside0 (impl_Name_78.l0 kq l0 (l0.length : Int) x8_1 = some r) ∧ Aside0 (kq ≤ k) ∧ Aside0 (Below w.heap.size w w')))
 case atStart => exact ⟨(0), (by first | rfl | (simp; done) | (simp [*]; done)), H', ⟨Nat.le_refl _⟩, ⟨by with_reducible repeat first | exact HB.out | apply pA | apply pN | apply p1⟩⟩
 case round =>
  clear H';(try clear p2);obtain ⟨x8_1, rfl, HA, HK1, HB⟩ := hrel
  cases gk with
  | zero => exact absurd HA.out (by simp [impl_Name_78.l0])
  | succ k1 =>
   have H := HA.out;clear HA;simp only [impl_Name_78.l0] at H;by_cases c3 : x8_1 < (l0.length : Int)
   ·rw [if_pos c3] at H
    have c3b0 : decide (x8_1 < (l0.length : Int)) = true := dT c3;clear c3;by_cases c4 : 0 ≤ x8_1
    ·rw [if_pos c4] at H
     have c4b0 : decide (0 ≤ x8_1) = true := dT c4;clear c4;by_cases c5 : x8_1 < (l0.length : Int)
     ·rw [if_pos c5] at H
      have c5b0 : decide (x8_1 < (l0.length : Int)) = true := dT c5;clear c5;replace H := oB.mp H;obtain ⟨t322, A60, H⟩ := H;(try dsimp only at H);have A6 := AM A60;clear A60;by_cases c7 : t322 = true
      ·subst c7
       rw [if_pos rfl] at H;obtain rfl := oI H;have p321 : 0 ≤ (x8_1 : Int) := oD (by assumption);have q321 : x8_1 < (l0.length : Int) := oD (by assumption);obtain ⟨ad321, A321_0, c321_0, e321, hx321_0, hx321_1, hx321_2, hx321_3, hl321_0, hi321_0⟩ := at_T61 HR0.out x8_1 p321 q321;cases e321;replace hx321_0 := (HB.out.cell (World.block_lt_of_cell? w _ hx321_0)).trans hx321_0;replace hx321_1 := (HB.out.cell (World.block_lt_of_cell? w _ hx321_1)).trans hx321_1;replace hx321_2 := (HB.out.cell (World.block_lt_of_cell? w _ hx321_2)).trans hx321_2;replace hx321_3 := (HB.out.cell (World.block_lt_of_cell? w _ hx321_3)).trans hx321_3;have HR321_0 := AM hi321_0;have HC321_0 := AM hl321_0;clear hi321_0 hl321_0;replace p321 := eq_true p321;replace q321 := eq_true q321
       go_wp2_with (first | (go_at_fn 59; (with_reducible refine (impl_areNames_1.calls k1 _ _ ((rd_T61 l0 x8_1).f0) ((rd_T61 l0 x8_1).f1) ((rd_T61 l0 x8_1).f2) ((rd_T61 l0 x8_1).f3) true _ ?side1 ?side2 ?side3 A6.out).mono ?_); (case side1 => repeat first | exact (cB HR321_0.out HB.out) | with_reducible first | apply cA | apply cN | apply cD); (case side2 => exact HC321_0.out); (case side3 => exact Go.Proofs.YthcccgnhokncdaaGreatDoorW.Envs.Env.below HENV.out (by with_reducible repeat first | exact HB.out | apply pA | apply pN | apply p1)); rintro e w8 ⟨rfl, hb⟩; replace HB := AM (bS (by with_reducible repeat first | exact HB.out | apply pA | apply pN | apply p1) hb); (try clear hb)))
       (go_ret);exact ⟨rfl, by with_reducible repeat first | exact HB.out | apply pA | apply pN | apply p1⟩
      ·replace c7 := bE.mpr c7
       subst c7;rw [if_neg (show ¬ (false = true) by decide)] at H;have H' := AM H;clear H;have p321 : 0 ≤ (x8_1 : Int) := oD (by assumption);have q321 : x8_1 < (l0.length : Int) := oD (by assumption);obtain ⟨ad321, A321_0, c321_0, e321, hx321_0, hx321_1, hx321_2, hx321_3, hl321_0, hi321_0⟩ := at_T61 HR0.out x8_1 p321 q321;cases e321;replace hx321_0 := (HB.out.cell (World.block_lt_of_cell? w _ hx321_0)).trans hx321_0;replace hx321_1 := (HB.out.cell (World.block_lt_of_cell? w _ hx321_1)).trans hx321_1;replace hx321_2 := (HB.out.cell (World.block_lt_of_cell? w _ hx321_2)).trans hx321_2;replace hx321_3 := (HB.out.cell (World.block_lt_of_cell? w _ hx321_3)).trans hx321_3;have HR321_0 := AM hi321_0;have HC321_0 := AM hl321_0;clear hi321_0 hl321_0;replace p321 := eq_true p321;replace q321 := eq_true q321
       go_wp2_with (first | (go_at_fn 59; (with_reducible refine (impl_areNames_1.calls k1 _ _ ((rd_T61 l0 x8_1).f0) ((rd_T61 l0 x8_1).f1) ((rd_T61 l0 x8_1).f2) ((rd_T61 l0 x8_1).f3) false _ ?side1 ?side2 ?side3 A6.out).mono ?_); (case side1 => repeat first | exact (cB HR321_0.out HB.out) | with_reducible first | apply cA | apply cN | apply cD); (case side2 => exact HC321_0.out); (case side3 => exact Go.Proofs.YthcccgnhokncdaaGreatDoorW.Envs.Env.below HENV.out (by with_reducible repeat first | exact HB.out | apply pA | apply pN | apply p1)); rintro e w9 ⟨rfl, hb⟩; replace HB := AM (bS (by with_reducible repeat first | exact HB.out | apply pA | apply pN | apply p1) hb); (try clear hb)))
       go_roundg k1
       case measure => have := HK1.out; omega
       case rel => exact ⟨(wrap64 (x8_1 + 1)), (by first | rfl | (simp; done) | (simp [*]; done)), H', ⟨by have := HK1.out; omega⟩, ⟨by with_reducible repeat first | exact HB.out | apply pA | apply pN | apply p1⟩⟩
     ·rw [if_neg c5] at H
      exact absurd H (by simp)
    ·rw [if_neg c4] at H
     exact absurd H (by simp)
   ·rw [if_neg c3] at H
    have c3b0 : decide (x8_1 < (l0.length : Int)) = false := dF c3;clear c3;obtain rfl := oI H;(go_wp2);(go_ret);exact ⟨rfl, by with_reducible repeat first | exact HB.out | apply pA | apply pN | apply p1⟩
/-! ### impl_Name_58: function 58 -/
def impl_Name_58.f (k : Nat) (l0 : List (S61)) (a1 : Unit) : Option (Bool) := (impl_Name_78.f k l0 a1).bind fun t323 => (some (decide (t323 ≥ 0)))
theorem impl_Name_58.mono : ∀ a0 a1 k, LeO (impl_Name_58.f k a0 a1) (impl_Name_58.f (k + 1) a0 a1) := by
 intro a0 a1 k;unfold impl_Name_58.f
 repeat' with_reducible first
   | exact impl_Name_78.mono _ _ _
   | exact LeO.refl _
   | exact LeO.none _
   | refine LeO.ite ?_ ?_
   | refine LeO.bind ?_ (fun _ => ?_)
theorem impl_Name_58.calls (k : Nat) (A0 : Option Addr) (c0 : Nat) (l0 : List (S61)) (a1 : Unit) (r : Bool) (w : World) (hr0 : Kd.C k61 w A0 l0.length l0) (hc0 : l0.length ≤ c0) (henv : Go.Proofs.YthcccgnhokncdaaGreatDoorW.Envs.Env [0] w) (h : impl_Name_58.f k l0 a1 = some r) :
  Calls Tryz.prog 58 #[.slice A0 l0.length c0, .func (.func 59) #[] #[]] w fun e w' => e = .returned (.bool r) ∧ Below w.heap.size w w' := by
 have HR0 := AM hr0;have HC0 := AM hc0;clear hr0 hc0;have HB := AM (Below.refl w.heap.size w);have HENV := AM henv;clear henv;(have eg59 : ∀ args W, (callFunc 59 args).run Tryz.prog W = .ok (.enter 59 args) W := fun args W => Go.Proofs.YthcccgnhokncdaaGreatDoorW.PrintLast.enters_ Tryz.func59 (by kernel_rfl) rfl args W);have H := h;unfold impl_Name_58.f at H;clear h;replace H := oB.mp H;obtain ⟨t323, A30, H⟩ := H;(try dsimp only at H);have A3 := AM A30;clear A30;obtain rfl := oI H;(go_enter Tryz.func58, Tryz.ntmps58)
 go_wp2_with (first | ((with_reducible refine gate_callee (f := 78) rfl ?_); refine goesL_ (some 7) rfl rfl Tryz.func78 (by kernel_rfl) rfl #[.slice A0 l0.length c0, .func (.func 59) #[] #[]] rfl (by (try simp only [List.map_toArray, List.map_cons, List.map_nil]); try rfl) ?_; (with_reducible refine (impl_Name_78.calls k _ _ l0 a1 t323 _ ?side1 ?side2 ?side3 A3.out).mono ?_); (case side1 => repeat first | exact HR0.out | with_reducible first | apply cA | apply cN | apply cD); (case side2 => exact HC0.out); (case side3 => exact Go.Proofs.YthcccgnhokncdaaGreatDoorW.Envs.Env.below HENV.out (by with_reducible repeat first | exact HB.out | apply pA | apply pN | apply p1)); rintro e w4 ⟨rfl, hb⟩; refine ⟨_, rfl, ?_⟩; replace HB := AM (below_step (by with_reducible repeat first | exact HB.out | apply pA | apply pN | apply p1) hb); (try clear hb)))
 (go_ret);exact ⟨rfl, by with_reducible repeat first | exact HB.out | apply pA | apply pN | apply p1⟩
/-! ### impl_areNames: function 36 -/
def impl_areNames.f (k : Nat) (l0 : List (S61)) : Option (Bool) := if (l0.length : Int) ≤ 4 then ((impl_Name_58.f k l0 ()).bind fun t324 => (some (!t324))) else (some false)
theorem impl_areNames.mono : ∀ a0 k, LeO (impl_areNames.f k a0) (impl_areNames.f (k + 1) a0) := by
 intro a0 k;unfold impl_areNames.f
 repeat' with_reducible first
   | exact impl_Name_58.mono _ _ _
   | exact LeO.refl _
   | exact LeO.none _
   | refine LeO.ite ?_ ?_
   | refine LeO.bind ?_ (fun _ => ?_)
theorem impl_areNames.calls (k : Nat) (A0 : Option Addr) (c0 : Nat) (l0 : List (S61)) (r : Bool) (w : World) (hr0 : Kd.C k61 w A0 l0.length l0) (hc0 : l0.length ≤ c0) (henv : Go.Proofs.YthcccgnhokncdaaGreatDoorW.Envs.Env [0] w) (h : impl_areNames.f k l0 = some r) :
  Calls Tryz.prog 36 #[.slice A0 l0.length c0] w fun e w' => e = .returned (.bool r) ∧ Below w.heap.size w w' := by
 have HR0 := AM hr0;have HC0 := AM hc0;clear hr0 hc0;have HB := AM (Below.refl w.heap.size w);have HENV := AM henv;clear henv;have H := h;unfold impl_areNames.f at H;clear h;by_cases c2 : (l0.length : Int) ≤ 4
 ·rw [if_pos c2] at H
  have c2b0 : decide ((l0.length : Int) ≤ 4) = true := dT c2;have c2b1 : decide (l0.length ≤ 4) = true := dT (by omega);clear c2;replace H := oB.mp H;obtain ⟨t324, A30, H⟩ := H;(try dsimp only at H);have A3 := AM A30;clear A30;obtain rfl := oI H;(go_enter Tryz.func36, Tryz.ntmps36)
  go_wp2_with (first | (go_at_call 58; (with_reducible refine (impl_Name_58.calls k _ _ l0 () t324 _ ?side1 ?side2 ?side3 A3.out).mono ?_); (case side1 => repeat first | exact HR0.out | with_reducible first | apply cA | apply cN | apply cD); (case side2 => exact HC0.out); (case side3 => exact Go.Proofs.YthcccgnhokncdaaGreatDoorW.Envs.Env.below HENV.out (by with_reducible repeat first | exact HB.out | apply pA | apply pN | apply p1)); rintro e w4 ⟨rfl, hb⟩; replace HB := AM (below_step (by with_reducible repeat first | exact HB.out | apply pA | apply pN | apply p1) hb); (try clear hb)))
  (go_ret);exact ⟨rfl, by with_reducible repeat first | exact HB.out | apply pA | apply pN | apply p1⟩
 ·rw [if_neg c2] at H
  have c2b0 : decide ((l0.length : Int) ≤ 4) = false := dF c2;have c2b1 : decide (l0.length ≤ 4) = false := dF (by omega);clear c2;obtain rfl := oI H;(go_enter Tryz.func36, Tryz.ntmps36);(go_wp2);(go_ret);exact ⟨rfl, by with_reducible repeat first | exact HB.out | apply pA | apply pN | apply p1⟩
/-! ### impl_daysInMonth: function 61 -/
def impl_daysInMonth.f (a0 : Int) (a1 : Int) : Option (Int) := if a1 = 2 then (if (Int.tmod a0 4) = 0 then (if (Int.tmod a0 100) = 0 then (if (Int.tmod a0 400) = 0 then (some 29) else (some 28)) else (some 29)) else (some 28)) else (if a1 = 4 then (some 30) else (if a1 = 6 then (some 30) else (if a1 = 9 then (some 30) else (if a1 = 11 then (some 30) else (some 31)))))
theorem impl_daysInMonth.calls (a0 : Int) (a1 : Int) (r : Int) (w : World) (h : impl_daysInMonth.f a0 a1 = some r) :
  Calls Tryz.prog 61 #[.int .i64 a0, .int .i64 a1] w fun e w' => e = .returned (.int .i64 r) ∧ Drawn0 w w' := by
 have H := h;unfold impl_daysInMonth.f at H;clear h;by_cases c3 : a1 = 2;(·rw [if_pos c3] at H;have c3b0 : (a1 == 2) = true := beq_iff_eq.mpr c3;have c3b1 : (a1 != 2) = false := bne_eq_false_iff_eq.mpr c3;clear c3;by_cases c4 : (Int.tmod a0 4) = 0;(·rw [if_pos c4] at H;have c4b0 : ((Int.tmod a0 4) == 0) = true := beq_iff_eq.mpr c4;have c4b1 : ((Int.tmod a0 4) != 0) = false := bne_eq_false_iff_eq.mpr c4;clear c4;by_cases c5 : (Int.tmod a0 100) = 0;(·rw [if_pos c5] at H;have c5b0 : ((Int.tmod a0 100) == 0) = true := beq_iff_eq.mpr c5;have c5b1 : ((Int.tmod a0 100) != 0) = false := bne_eq_false_iff_eq.mpr c5;clear c5;by_cases c6 : (Int.tmod a0 400) = 0;(·rw [if_pos c6] at H;have c6b0 : ((Int.tmod a0 400) == 0) = true := beq_iff_eq.mpr c6;have c6b1 : ((Int.tmod a0 400) != 0) = false := bne_eq_false_iff_eq.mpr c6;clear c6;obtain rfl := oI H;(go_enter Tryz.func61, Tryz.ntmps61);(go_wp2);(go_ret);exact ⟨by first | rfl | (simp; done) | (simp [*]; done), by repeat (first | exact Drawn0.refl _ | apply Drawn0.step)⟩);(·rw [if_neg c6] at H;have c6b0 : ((Int.tmod a0 400) == 0) = false := beq_eq_false_iff_ne.mpr c6;have c6b1 : ((Int.tmod a0 400) != 0) = true := bne_iff_ne.mpr c6;obtain rfl := oI H;(go_enter Tryz.func61, Tryz.ntmps61);(go_wp2);(go_ret);exact ⟨by first | rfl | (simp; done) | (simp [*]; done), by repeat (first | exact Drawn0.refl _ | apply Drawn0.step)⟩));(·rw [if_neg c5] at H;have c5b0 : ((Int.tmod a0 100) == 0) = false := beq_eq_false_iff_ne.mpr c5;have c5b1 : ((Int.tmod a0 100) != 0) = true := bne_iff_ne.mpr c5;obtain rfl := oI H;(go_enter Tryz.func61, Tryz.ntmps61);(go_wp2);(go_ret);exact ⟨by first | rfl | (simp; done) | (simp [*]; done), by repeat (first | exact Drawn0.refl _ | apply Drawn0.step)⟩));(·rw [if_neg c4] at H;have c4b0 : ((Int.tmod a0 4) == 0) = false := beq_eq_false_iff_ne.mpr c4;have c4b1 : ((Int.tmod a0 4) != 0) = true := bne_iff_ne.mpr c4;obtain rfl := oI H;(go_enter Tryz.func61, Tryz.ntmps61);(go_wp2);(go_ret);exact ⟨by first | rfl | (simp; done) | (simp [*]; done), by repeat (first | exact Drawn0.refl _ | apply Drawn0.step)⟩));(·rw [if_neg c3] at H;have c3b0 : (a1 == 2) = false := beq_eq_false_iff_ne.mpr c3;have c3b1 : (a1 != 2) = true := bne_iff_ne.mpr c3;by_cases c7 : a1 = 4;(·rw [if_pos c7] at H;have c7b0 : (a1 == 4) = true := beq_iff_eq.mpr c7;have c7b1 : (a1 != 4) = false := bne_eq_false_iff_eq.mpr c7;clear c7;obtain rfl := oI H;(go_enter Tryz.func61, Tryz.ntmps61);(go_wp2);(go_ret);exact ⟨by first | rfl | (simp; done) | (simp [*]; done), by repeat (first | exact Drawn0.refl _ | apply Drawn0.step)⟩);(·rw [if_neg c7] at H;have c7b0 : (a1 == 4) = false := beq_eq_false_iff_ne.mpr c7;have c7b1 : (a1 != 4) = true := bne_iff_ne.mpr c7;by_cases c8 : a1 = 6;(·rw [if_pos c8] at H;have c8b0 : (a1 == 6) = true := beq_iff_eq.mpr c8;have c8b1 : (a1 != 6) = false := bne_eq_false_iff_eq.mpr c8;clear c8;obtain rfl := oI H;(go_enter Tryz.func61, Tryz.ntmps61);(go_wp2);(go_ret);exact ⟨by first | rfl | (simp; done) | (simp [*]; done), by repeat (first | exact Drawn0.refl _ | apply Drawn0.step)⟩);(·rw [if_neg c8] at H;have c8b0 : (a1 == 6) = false := beq_eq_false_iff_ne.mpr c8;have c8b1 : (a1 != 6) = true := bne_iff_ne.mpr c8;by_cases c9 : a1 = 9;(·rw [if_pos c9] at H;have c9b0 : (a1 == 9) = true := beq_iff_eq.mpr c9;have c9b1 : (a1 != 9) = false := bne_eq_false_iff_eq.mpr c9;clear c9;obtain rfl := oI H;(go_enter Tryz.func61, Tryz.ntmps61);(go_wp2);(go_ret);exact ⟨by first | rfl | (simp; done) | (simp [*]; done), by repeat (first | exact Drawn0.refl _ | apply Drawn0.step)⟩);(·rw [if_neg c9] at H;have c9b0 : (a1 == 9) = false := beq_eq_false_iff_ne.mpr c9;have c9b1 : (a1 != 9) = true := bne_iff_ne.mpr c9;by_cases c10 : a1 = 11;(·rw [if_pos c10] at H;have c10b0 : (a1 == 11) = true := beq_iff_eq.mpr c10;have c10b1 : (a1 != 11) = false := bne_eq_false_iff_eq.mpr c10;clear c10;obtain rfl := oI H;(go_enter Tryz.func61, Tryz.ntmps61);(go_wp2);(go_ret);exact ⟨by first | rfl | (simp; done) | (simp [*]; done), by repeat (first | exact Drawn0.refl _ | apply Drawn0.step)⟩);(·rw [if_neg c10] at H;have c10b0 : (a1 == 11) = false := beq_eq_false_iff_ne.mpr c10;have c10b1 : (a1 != 11) = true := bne_iff_ne.mpr c10;obtain rfl := oI H;(go_enter Tryz.func61, Tryz.ntmps61);(go_wp2);(go_ret);exact ⟨by first | rfl | (simp; done) | (simp [*]; done), by repeat (first | exact Drawn0.refl _ | apply Drawn0.step)⟩)))))
end Go.Proofs.YthcccgnhokncdaaGreatDoor.Px
