/- Calls of Go functions come to what the Lean functions beside them say; written by a program of this session (wip/xprint); no conditions. -/
import Derived.Test.YthcccgnhokncdaaGreatDoorPx1
namespace Go.Proofs.YthcccgnhokncdaaGreatDoor.Px
open Go.RowKit Go.Proofs.YthcccgnhokncdaaGreatDoorW.PrintWords Go.Proofs.YthcccgnhokncdaaGreatDoorW.PrintLast Go.Proofs.YthcccgnhokncdaaGreatDoorW.PrintMore
open Go.Proofs.YthcccgnhokncdaaGreatDoorW.PrintWords renaming pw_below_drewN → pN, below_drew1 → p1, below_alloc → pA, gate_callee → gC, below_set → pS, blk_drewN → bN, blk_alloc → bL, blk_drew → bW, blk_below → bB, below_step → bS, below_size → bZ, gate_dst → gD, box_event → gB
open Go.Proofs.YthcccgnhokncdaaGreatDoorW.PrintWords.Aside0 renaming mk → AM
open Go.Proofs.YthcccgnhokncdaaGreatDoorW.PrintWords.Kd renaming R_reads' → rR, R_slice → rS, C_alloc → cA, C_drewN → cN, C_drew → cD, C_below → cB
open Go.Proofs.YthcccgnhokncdaaGreatDoorW.PrintLast renaming goesL_ → gL
open Bool renaming eq_false_iff → bE
open Option renaming bind_eq_some_iff → oB
open Option.some renaming inj → oI
open List renaming map_toArray → mT, map_cons → mC, map_nil → mN
open Go.World renaming drewN_drewN → wD
attribute [local go_sem] max2_int min2_int max_two min_two max_three min_three max_four min_four
set_option maxHeartbeats 8000000
set_option maxRecDepth 100000
set_option linter.unusedVariables false
set_option linter.unusedSimpArgs false
/-! ### spec_l2Particle: function 73 -/
mutual
def spec_l2Particle.l0 : Nat → List ByteArray → Int → Option (Bool)
 | 0, _, _ => none
 | k + 1, x3, x4 => if x4 < (x3.length : Int) then (if 0 ≤ x4 then ((spec_l2Word.f k (rdOf ByteArray.empty x3 x4)).bind fun t133 => (if t133 = true then (spec_l2Particle.l1 k x3 x4 0) else (some false))) else (none)) else (some (decide ((x3.length : Int) ≤ 2)))
def spec_l2Particle.l1 : Nat → List ByteArray → Int → Int → Option (Bool)
 | 0, _, _, _ => none
 | k + 1, x3, x4, x5 => if 0 ≤ x4 then (if x4 < (x3.length : Int) then (if x5 < ((rdOf ByteArray.empty x3 x4).size : Int) then (if 0 ≤ x5 then ((spec_l2Lower.f (bt (rdOf ByteArray.empty x3 x4) x5)).bind fun t136 => (if t136 = true then (spec_l2Particle.l1 k x3 x4 (wrap64 (x5 + 1))) else (some false))) else (none)) else (spec_l2Particle.l0 k x3 (wrap64 (x4 + 1)))) else (none)) else (none)
end
def spec_l2Particle.f (k : Nat) (a0 : ByteArray) : Option (Bool) := if a0.toList = ([] : List UInt8) then (some true) else ((spec_l1Split.f k a0 32).bind fun t129 => (spec_l2Particle.l0 k t129 0))
theorem spec_l2Particle.mono_l : ∀ k, (∀ y0 y1, LeO (spec_l2Particle.l0 k y0 y1) (spec_l2Particle.l0 (k + 1) y0 y1)) ∧ (∀ y0 y1 y2, LeO (spec_l2Particle.l1 k y0 y1 y2) (spec_l2Particle.l1 (k + 1) y0 y1 y2))
 | 0 => ⟨fun _ _ r h => by simp [spec_l2Particle.l0] at h, fun _ _ _ r h => by simp [spec_l2Particle.l1] at h⟩
 | k + 1 => by
  obtain ⟨ih0, ih1⟩ := spec_l2Particle.mono_l k;refine ⟨?_, ?_⟩
  ·intro y0 y1
   unfold spec_l2Particle.l0
   repeat' with_reducible first
   | exact ih0 _ _
   | exact ih1 _ _ _
   | exact spec_l1Split.mono _ _ _
   | exact spec_l2Word.mono _ _
   | exact LeO.refl _
   | exact LeO.none _
   | refine LeO.ite ?_ ?_
   | refine LeO.bind ?_ (fun _ => ?_)
  ·intro y0 y1 y2
   unfold spec_l2Particle.l1
   repeat' with_reducible first
   | exact ih0 _ _
   | exact ih1 _ _ _
   | exact spec_l1Split.mono _ _ _
   | exact spec_l2Word.mono _ _
   | exact LeO.refl _
   | exact LeO.none _
   | refine LeO.ite ?_ ?_
   | refine LeO.bind ?_ (fun _ => ?_)
theorem spec_l2Particle.mono : ∀ a0 k, LeO (spec_l2Particle.f k a0) (spec_l2Particle.f (k + 1) a0) := by
 intro a0 k;obtain ⟨ih0, ih1⟩ := spec_l2Particle.mono_l k;unfold spec_l2Particle.f
 repeat' with_reducible first
   | exact ih0 _ _
   | exact ih1 _ _ _
   | exact spec_l1Split.mono _ _ _
   | exact spec_l2Word.mono _ _
   | exact LeO.refl _
   | exact LeO.none _
   | refine LeO.ite ?_ ?_
   | refine LeO.bind ?_ (fun _ => ?_)
theorem spec_l2Particle.calls (k : Nat) (a0 : ByteArray) (r : Bool) (w : World) (h : spec_l2Particle.f k a0 = some r) :
  Calls Tryz.prog 73 #[.string a0] w fun e w' => e = .returned (.bool r) ∧ Below w.heap.size w w' := by
 have HB := AM (Below.refl w.heap.size w);have H := h;unfold spec_l2Particle.f at H;clear h;by_cases c2 : a0.toList = ([] : List UInt8);(·rw [if_pos c2] at H;have c2b0 : (a0.toList == ([] : List UInt8)) = true := beq_iff_eq.mpr c2;have c2b1 : (a0.toList != ([] : List UInt8)) = false := bne_eq_false_iff_eq.mpr c2;clear c2;obtain rfl := oI H;(go_enter Tryz.func73, Tryz.ntmps73);(go_wp2);(go_ret);exact ⟨rfl, by with_reducible repeat first | exact HB.out | apply pA | apply pN | apply p1⟩)
 ·rw [if_neg c2] at H
  have c2b0 : (a0.toList == ([] : List UInt8)) = false := beq_eq_false_iff_ne.mpr c2;have c2b1 : (a0.toList != ([] : List UInt8)) = true := bne_iff_ne.mpr c2;replace H := oB.mp H;obtain ⟨t129, A30, H⟩ := H;(try dsimp only at H);have A3 := AM A30;clear A30;have H' := AM H;clear H;(go_enter Tryz.func73, Tryz.ntmps73)
  go_wp2_with (first | ((with_reducible refine gC (f := 96) rfl ?_); refine gL (some 9) rfl rfl Tryz.func96 (by kernel_rfl) rfl #[.string a0, .int .u8 32] rfl (by (try simp only [mT, mC, mN]); try rfl) ?_; (with_reducible refine (spec_l1Split.calls k a0 32 t129 _ A3.out).mono ?_); rintro e w4 ⟨v130, rfl, ho0, hb⟩; refine ⟨_, rfl, ?_⟩; have HO131 := AM (Kd.R_lower ho0 (below_size (by with_reducible repeat first | exact HB.out | apply pA | apply pN | apply p1))); replace HB := AM (below_step (by with_reducible repeat first | exact HB.out | apply pA | apply pN | apply p1) hb); (try clear hb); (try clear ho0)))
  go_loopg [4] k (fun kq v4 w' => ∃ (x4_1 : Int), v4 = .int .i64 x4_1 ∧ Aside0 (spec_l2Particle.l0 kq t129 x4_1 = some r) ∧ Aside0 (kq ≤ k) ∧ Aside0 (Kd.R Kd.string 9 w' w.heap.size (fun _ => True) v130 t129) ∧ Aside0 (Below w.heap.size w w'))
  case atStart => exact ⟨(0), (by first | rfl | (simp; done) | (simp [*]; done)), H', ⟨Nat.le_refl _⟩, ⟨by (with_reducible repeat (first | apply Kd.R_alloc | apply Kd.R_drewN | apply Kd.R_drew)); exact HO131.out⟩, ⟨by with_reducible repeat first | exact HB.out | apply pA | apply pN | apply p1⟩⟩
  case round =>
   clear H';(try clear c2);(try clear c2b0);(try clear c2b1);(try clear p2);obtain ⟨x4_1, rfl, HA, HK1, HO_3, HB⟩ := hrel
   cases gk with
   | zero => exact absurd HA.out (by simp [spec_l2Particle.l0])
   | succ k1 =>
    have H := HA.out;clear HA;simp only [spec_l2Particle.l0] at H;by_cases c5 : x4_1 < (t129.length : Int)
    ·rw [if_pos c5] at H
     have c5b0 : decide (x4_1 < (t129.length : Int)) = true := dT c5;clear c5;by_cases c6 : 0 ≤ x4_1
     ·rw [if_pos c6] at H
      have c6b0 : decide (0 ≤ x4_1) = true := dT c6;clear c6;replace H := oB.mp H;obtain ⟨t133, A70, H⟩ := H;(try dsimp only at H);have A7 := AM A70;clear A70;by_cases c8 : t133 = true
      ·subst c8
       rw [if_pos rfl] at H;have H' := AM H;clear H;obtain ⟨Ao9, co9, eo9⟩ := rS HO_3.out;subst eo9;have p132 : 0 ≤ (x4_1 : Int) := oD (by assumption);have q132 : x4_1 < (t129.length : Int) := oD (by assumption);obtain ⟨ad132, e132, hx132_0⟩ := Kd.at_string (rR HO_3.out).2.2 x4_1 p132 q132;cases e132;replace p132 := eq_true p132;replace q132 := eq_true q132
       go_wp2_with (first | ((with_reducible refine gC (f := 71) rfl ?_); refine gL (some 20) rfl rfl Tryz.func71 (by kernel_rfl) rfl #[.string (rdOf ByteArray.empty t129 x4_1)] rfl (by (try simp only [mT, mC, mN]); try rfl) ?_; (with_reducible refine (spec_l2Word.calls k1 (rdOf ByteArray.empty t129 x4_1) true _ A7.out).mono ?_); rintro e w' ⟨rfl, ⟨nd, rfl⟩⟩; refine ⟨_, rfl, ?_⟩))
       go_loopg [5] k1 (fun kq v5 w' => ∃ (x5_2 : Int), v5 = .int .i64 x5_2 ∧ Aside0 (spec_l2Particle.l1 kq t129 x4_1 x5_2 = some r) ∧ Aside0 (kq ≤ k1) ∧ Aside0 (Kd.R Kd.string 9 w' w.heap.size (fun _ => True) (.slice (some ad132) t129.length co9) t129) ∧ Aside0 (Below w.heap.size w w'))
       case atStart => exact ⟨(0), (by first | rfl | (simp; done) | (simp [*]; done)), H', ⟨Nat.le_refl _⟩, ⟨by (with_reducible repeat (first | apply Kd.R_alloc | apply Kd.R_drewN | apply Kd.R_drew)); exact HO_3.out⟩, ⟨by with_reducible repeat first | exact HB.out | apply pA | apply pN | apply p1⟩⟩
       case round =>
        clear H';(try clear p1);(try clear q1);(try clear hx1);(try clear c2);(try clear c2b0);(try clear c2b1);(try clear p2);(try clear c5);(try clear c5b0);(try clear c6);(try clear c6b0);(try clear c7);(try clear c8);(try clear c9);(try clear hx132_0);(try clear p132);(try clear p2);(try clear q132);obtain ⟨x5_2, rfl, HA, HK2, HO_3, HB⟩ := hrel
        cases gk with
        | zero => exact absurd HA.out (by simp [spec_l2Particle.l1])
        | succ k2 =>
         have H := HA.out;clear HA;simp only [spec_l2Particle.l1] at H;by_cases c10 : 0 ≤ x4_1
         ·rw [if_pos c10] at H
          have c10b0 : decide (0 ≤ x4_1) = true := dT c10;clear c10;by_cases c11 : x4_1 < (t129.length : Int)
          ·rw [if_pos c11] at H
           have c11b0 : decide (x4_1 < (t129.length : Int)) = true := dT c11;clear c11;by_cases c12 : x5_2 < ((rdOf ByteArray.empty t129 x4_1).size : Int)
           ·rw [if_pos c12] at H
            have c12b0 : decide (x5_2 < ((rdOf ByteArray.empty t129 x4_1).size : Int)) = true := dT c12;clear c12;by_cases c13 : 0 ≤ x5_2
            ·rw [if_pos c13] at H
             have c13b0 : decide (0 ≤ x5_2) = true := dT c13;clear c13;replace H := oB.mp H;obtain ⟨t136, A150, H⟩ := H;(try dsimp only at H);have A15 := AM A150;clear A150;by_cases c16 : t136 = true
             ·subst c16
              rw [if_pos rfl] at H;have H' := AM H;clear H;have p134 : 0 ≤ (x4_1 : Int) := oD (by assumption);have q134 : x4_1 < (t129.length : Int) := oD (by assumption);obtain ⟨ad134, e134, hx134_0⟩ := Kd.at_string (rR HO_3.out).2.2 x4_1 p134 q134
              obtain rfl : ad132 = ad134 := (by injection e134)
              replace p134 := eq_true p134;replace q134 := eq_true q134;have p135 : 0 ≤ (x4_1 : Int) := oD (by assumption);have q135 : x4_1 < (t129.length : Int) := oD (by assumption);obtain ⟨ad135, e135, hx135_0⟩ := Kd.at_string (rR HO_3.out).2.2 x4_1 p135 q135
              obtain rfl : ad132 = ad135 := (by injection e135)
              replace p135 := eq_true p135;replace q135 := eq_true q135;have p14 : 0 ≤ (x5_2 : Int) := oD (by assumption);have q14 : x5_2 < ((rdOf ByteArray.empty t129 x4_1).size : Int) := oD (by assumption);have hx14 := bt_at (rdOf ByteArray.empty t129 x4_1) x5_2;replace p14 := eq_true p14;replace q14 := eq_true q14
              go_wp2_with (first | ((with_reducible refine gC (f := 47) rfl ?_); refine gL (some 37) rfl rfl Tryz.func47 (by kernel_rfl) rfl #[.int .u8 (bt (rdOf ByteArray.empty t129 x4_1) x5_2)] rfl (by (try simp only [mT, mC, mN]); try rfl) ?_; (with_reducible refine (spec_l2Lower.calls (bt (rdOf ByteArray.empty t129 x4_1) x5_2) true _ A15.out).mono ?_); rintro e w' ⟨rfl, ⟨nd, rfl⟩⟩; refine ⟨_, rfl, ?_⟩))
              go_roundg k2
              case measure => have := HK1.out; have := HK2.out; omega
              case rel => exact ⟨(wrap64 (x5_2 + 1)), (by first | rfl | (simp; done) | (simp [*]; done)), H', ⟨by have := HK1.out; have := HK2.out; omega⟩, ⟨by (with_reducible repeat (first | apply Kd.R_alloc | apply Kd.R_drewN | apply Kd.R_drew)); exact HO_3.out⟩, ⟨by with_reducible repeat first | exact HB.out | apply pA | apply pN | apply p1⟩⟩
             ·replace c16 := bE.mpr c16
              subst c16;rw [if_neg (show ¬ (false = true) by decide)] at H;obtain rfl := oI H;have p134 : 0 ≤ (x4_1 : Int) := oD (by assumption);have q134 : x4_1 < (t129.length : Int) := oD (by assumption);obtain ⟨ad134, e134, hx134_0⟩ := Kd.at_string (rR HO_3.out).2.2 x4_1 p134 q134
              obtain rfl : ad132 = ad134 := (by injection e134)
              replace p134 := eq_true p134;replace q134 := eq_true q134;have p135 : 0 ≤ (x4_1 : Int) := oD (by assumption);have q135 : x4_1 < (t129.length : Int) := oD (by assumption);obtain ⟨ad135, e135, hx135_0⟩ := Kd.at_string (rR HO_3.out).2.2 x4_1 p135 q135
              obtain rfl : ad132 = ad135 := (by injection e135)
              replace p135 := eq_true p135;replace q135 := eq_true q135;have p14 : 0 ≤ (x5_2 : Int) := oD (by assumption);have q14 : x5_2 < ((rdOf ByteArray.empty t129 x4_1).size : Int) := oD (by assumption);have hx14 := bt_at (rdOf ByteArray.empty t129 x4_1) x5_2;replace p14 := eq_true p14;replace q14 := eq_true q14
              go_wp2_with (first | ((with_reducible refine gC (f := 47) rfl ?_); refine gL (some 37) rfl rfl Tryz.func47 (by kernel_rfl) rfl #[.int .u8 (bt (rdOf ByteArray.empty t129 x4_1) x5_2)] rfl (by (try simp only [mT, mC, mN]); try rfl) ?_; (with_reducible refine (spec_l2Lower.calls (bt (rdOf ByteArray.empty t129 x4_1) x5_2) false _ A15.out).mono ?_); rintro e w' ⟨rfl, ⟨nd, rfl⟩⟩; refine ⟨_, rfl, ?_⟩))
              (go_ret);exact ⟨rfl, by with_reducible repeat first | exact HB.out | apply pA | apply pN | apply p1⟩
            ·rw [if_neg c13] at H
             exact absurd H (by simp)
           ·rw [if_neg c12] at H
            have c12b0 : decide (x5_2 < ((rdOf ByteArray.empty t129 x4_1).size : Int)) = false := dF c12;clear c12;have H' := AM H;clear H;have p134 : 0 ≤ (x4_1 : Int) := oD (by assumption);have q134 : x4_1 < (t129.length : Int) := oD (by assumption);obtain ⟨ad134, e134, hx134_0⟩ := Kd.at_string (rR HO_3.out).2.2 x4_1 p134 q134
            obtain rfl : ad132 = ad134 := (by injection e134)
            replace p134 := eq_true p134;replace q134 := eq_true q134;(go_wp2);(go_roundg k2)
            case measure => have := HK1.out; have := HK2.out; omega
            case rel => exact ⟨(wrap64 (x4_1 + 1)), (by first | rfl | (simp; done) | (simp [*]; done)), H', ⟨by have := HK1.out; have := HK2.out; omega⟩, ⟨by (with_reducible repeat (first | apply Kd.R_alloc | apply Kd.R_drewN | apply Kd.R_drew)); exact HO_3.out⟩, ⟨by with_reducible repeat first | exact HB.out | apply pA | apply pN | apply p1⟩⟩
          ·rw [if_neg c11] at H
           exact absurd H (by simp)
         ·rw [if_neg c10] at H
          exact absurd H (by simp)
      ·replace c8 := bE.mpr c8
       subst c8;rw [if_neg (show ¬ (false = true) by decide)] at H;obtain rfl := oI H;obtain ⟨Ao17, co17, eo17⟩ := rS HO_3.out;subst eo17;have p132 : 0 ≤ (x4_1 : Int) := oD (by assumption);have q132 : x4_1 < (t129.length : Int) := oD (by assumption);obtain ⟨ad132, e132, hx132_0⟩ := Kd.at_string (rR HO_3.out).2.2 x4_1 p132 q132;cases e132;replace p132 := eq_true p132;replace q132 := eq_true q132
       go_wp2_with (first | ((with_reducible refine gC (f := 71) rfl ?_); refine gL (some 20) rfl rfl Tryz.func71 (by kernel_rfl) rfl #[.string (rdOf ByteArray.empty t129 x4_1)] rfl (by (try simp only [mT, mC, mN]); try rfl) ?_; (with_reducible refine (spec_l2Word.calls k1 (rdOf ByteArray.empty t129 x4_1) false _ A7.out).mono ?_); rintro e w' ⟨rfl, ⟨nd, rfl⟩⟩; refine ⟨_, rfl, ?_⟩))
       (go_ret);exact ⟨rfl, by with_reducible repeat first | exact HB.out | apply pA | apply pN | apply p1⟩
     ·rw [if_neg c6] at H
      exact absurd H (by simp)
    ·rw [if_neg c5] at H
     have c5b0 : decide (x4_1 < (t129.length : Int)) = false := dF c5;clear c5;obtain rfl := oI H;obtain ⟨Ao18, co18, eo18⟩ := rS HO_3.out;subst eo18;(go_wp2);(go_ret);exact ⟨rfl, by with_reducible repeat first | exact HB.out | apply pA | apply pN | apply p1⟩
/-! ### spec_l2Good: function 48 -/
def spec_l2Good.l0 : Nat → Int → List ByteArray → ByteArray → ByteArray → ByteArray → Option (Bool)
 | 0, _, _, _, _, _ => none
 | k + 1, x3, x138000, x138001, x138002, x138003 => if x3 < (x138000.length : Int) then (if 0 ≤ x3 then ((spec_l2Word.f k (rdOf ByteArray.empty x138000 x3)).bind fun t139 => (if t139 = true then (if 0 < ((rdOf ByteArray.empty x138000 x3).size : Int) then ((spec_l2Upper.f (bt (rdOf ByteArray.empty x138000 x3) 0)).bind fun t141 => (if t141 = true then (spec_l2Good.l0 k (wrap64 (x3 + 1)) x138000 x138001 x138002 x138003) else (some false))) else (none)) else (some false))) else (none)) else (if (x138000.length : Int) ≤ 3 then ((spec_l2Particle.f k x138001).bind fun t142 => (if t142 = true then ((spec_l2Word.f k x138002).bind fun t143 => (if t143 = true then (if 0 < (x138002.size : Int) then ((spec_l2Upper.f (bt x138002 0)).bind fun t144 => (if t144 = true then (if x138003.toList = ([] : List UInt8) then (some true) else ((spec_l2Word.f k x138003).bind fun t145 => (some t145))) else (some false))) else (none)) else (some false))) else (some false))) else (some false))
def spec_l2Good.f (k : Nat) (l0_0 : List ByteArray) (a0_1 : ByteArray) (a0_2 : ByteArray) (a0_3 : ByteArray) : Option (Bool) := spec_l2Good.l0 k 0 l0_0 a0_1 a0_2 a0_3
theorem spec_l2Good.mono_l : ∀ k, (∀ y0 y1 y2 y3 y4, LeO (spec_l2Good.l0 k y0 y1 y2 y3 y4) (spec_l2Good.l0 (k + 1) y0 y1 y2 y3 y4))
 | 0 => fun _ _ _ _ _ r h => by simp [spec_l2Good.l0] at h
 | k + 1 => by
  have ih0 := spec_l2Good.mono_l k
  ·intro y0 y1 y2 y3 y4
   unfold spec_l2Good.l0
   repeat' with_reducible first
   | exact ih0 _ _ _ _ _
   | exact spec_l2Particle.mono _ _
   | exact spec_l2Word.mono _ _
   | exact LeO.refl _
   | exact LeO.none _
   | refine LeO.ite ?_ ?_
   | refine LeO.bind ?_ (fun _ => ?_)
theorem spec_l2Good.mono : ∀ a0 a1 a2 a3 k, LeO (spec_l2Good.f k a0 a1 a2 a3) (spec_l2Good.f (k + 1) a0 a1 a2 a3) := by
 intro a0 a1 a2 a3 k;have ih0 := spec_l2Good.mono_l k;unfold spec_l2Good.f
 repeat' with_reducible first
   | exact ih0 _ _ _ _ _
   | exact spec_l2Particle.mono _ _
   | exact spec_l2Word.mono _ _
   | exact LeO.refl _
   | exact LeO.none _
   | refine LeO.ite ?_ ?_
   | refine LeO.bind ?_ (fun _ => ?_)
theorem spec_l2Good.calls (k : Nat) (A0_0 : Option Addr) (c0_0 : Nat) (l0_0 : List ByteArray) (a0_1 : ByteArray) (a0_2 : ByteArray) (a0_3 : ByteArray) (r : Bool) (w : World) (hr0_0 : Kd.C Kd.string w A0_0 l0_0.length l0_0) (hc0_0 : l0_0.length ≤ c0_0) (h : spec_l2Good.f k l0_0 a0_1 a0_2 a0_3 = some r) :
  Calls Tryz.prog 48 #[.agg #[.slice A0_0 l0_0.length c0_0, .string a0_1, .string a0_2, .string a0_3]] w fun e w' => e = .returned (.bool r) ∧ Below w.heap.size w w' := by
 have hu61 := Tryz.underlying61;have HR0_0 := AM hr0_0;have HC0_0 := AM hc0_0;clear hr0_0 hc0_0;have HB := AM (Below.refl w.heap.size w);have H := h;unfold spec_l2Good.f at H;clear h;have H' := AM H;clear H;(go_enter Tryz.func48, Tryz.ntmps48)
 go_wp2_with (first | ((with_reducible refine gate_dst (N := 1) rfl ?_); refine box_event ?hg (N := 1) ?hd (cs := #[.slice A0_0 l0_0.length c0_0, .string a0_1, .string a0_2, .string a0_3]) (t := 61) ?hr ?_; (case hd => rfl); (case hg => rfl); (case hr => first | (go_simp; done) | (go_simp; rfl)); intro gb137 hg w2 hbox hb; have BK137 := AM (hbox); have GW137 := AM ((by rw [hg]; exact (below_size (by with_reducible repeat first | exact HB.out | apply pA | apply pN | apply p1)) : w.heap.size ≤ gb137)); have GE137 := AM ((by rw [hg]; exact (below_size (by with_reducible repeat first | exact HB.out | apply pA | apply pN | apply p1)) : w.heap.size ≤ gb137)); replace HB := AM (bS (by with_reducible repeat first | exact HB.out | apply pA | apply pN | apply p1) hb); clear hb hbox hg))
 go_loopg [3] k (fun kq v3 w' => ∃ (x3_1 : Int), v3 = .int .i64 x3_1 ∧ Aside0 (spec_l2Good.l0 kq x3_1 l0_0 a0_1 a0_2 a0_3 = some r) ∧ Aside0 (kq ≤ k) ∧ Aside0 (w'.heap[gb137]? = some (.cells #[(.slice A0_0 l0_0.length c0_0), .string a0_1, .string a0_2, .string a0_3] 61 (0, 0))) ∧ Aside0 (Below w.heap.size w w'))
 case atStart => exact ⟨(0), (by first | rfl | (simp; done) | (simp [*]; done)), H', ⟨Nat.le_refl _⟩, ⟨by (with_reducible repeat (first | refine bN ?_ _ | refine bW ?_ | refine bL ?_ _)); exact BK137.out⟩, ⟨by with_reducible repeat first | exact HB.out | apply pA | apply pN | apply p1 | refine pS ?_ GE137.out⟩⟩
 case round =>
  clear H';(try clear p2);obtain ⟨x3_1, rfl, HA, HK1, BK137, HB⟩ := hrel
  cases gk with
  | zero => exact absurd HA.out (by simp [spec_l2Good.l0])
  | succ k1 =>
   have H := HA.out;clear HA;simp only [spec_l2Good.l0] at H;by_cases c3 : x3_1 < (l0_0.length : Int)
   ·rw [if_pos c3] at H
    have c3b0 : decide (x3_1 < (l0_0.length : Int)) = true := dT c3;clear c3;by_cases c4 : 0 ≤ x3_1
    ·rw [if_pos c4] at H
     have c4b0 : decide (0 ≤ x3_1) = true := dT c4;clear c4;replace H := oB.mp H;obtain ⟨t139, A50, H⟩ := H;(try dsimp only at H);have A5 := AM A50;clear A50;by_cases c6 : t139 = true
     ·subst c6
      rw [if_pos rfl] at H;by_cases c7 : 0 < ((rdOf ByteArray.empty l0_0 x3_1).size : Int)
      ·rw [if_pos c7] at H
       have c7b0 : decide (0 < ((rdOf ByteArray.empty l0_0 x3_1).size : Int)) = true := dT c7;have c7b1 : decide (0 < (rdOf ByteArray.empty l0_0 x3_1).size) = true := dT (by omega);clear c7;replace H := oB.mp H;obtain ⟨t141, A90, H⟩ := H;(try dsimp only at H);have A9 := AM A90;clear A90;have HC10 := AM H;clear H;obtain ⟨z11_0, z11_1, z11_2, z11_3⟩ := cells4 BK137.out;have p138 : 0 ≤ (x3_1 : Int) := oD (by assumption);have q138 : x3_1 < (l0_0.length : Int) := oD (by assumption);obtain ⟨ad138, e138, hx138_0⟩ := Kd.at_string HR0_0.out x3_1 p138 q138;cases e138;replace hx138_0 := (HB.out.cell (World.block_lt_of_cell? w _ hx138_0)).trans hx138_0;replace p138 := eq_true p138;replace q138 := eq_true q138
       go_upto_if 27 with (first | ((with_reducible refine gate_callee (f := 71) rfl ?_); refine goesL_ (some 16) rfl rfl Tryz.func71 (by kernel_rfl) rfl #[.string (rdOf ByteArray.empty l0_0 x3_1)] rfl (by (try simp only [mT, mC, mN]); try rfl) ?_; (with_reducible refine (spec_l2Word.calls k1 (rdOf ByteArray.empty l0_0 x3_1) true _ A5.out).mono ?_); rintro e w' ⟨rfl, ⟨nd, rfl⟩⟩; refine ⟨_, rfl, ?_⟩; have p140 : 0 ≤ (x3_1 : Int) := oD (by assumption); have q140 : x3_1 < (l0_0.length : Int) := oD (by assumption); obtain ⟨ad140, e140, hx140_0⟩ := Kd.at_string HR0_0.out x3_1 p140 q140; obtain rfl : ad138 = ad140 := (by injection e140); replace hx140_0 := (HB.out.cell (World.block_lt_of_cell? w _ hx140_0)).trans hx140_0; replace p140 := eq_true p140; replace q140 := eq_true q140; have p8 : 0 ≤ (0 : Int) := (by omega); have q8 : 0 < (rdOf ByteArray.empty l0_0 x3_1).size := (by have : (0 : Int) < ((rdOf ByteArray.empty l0_0 x3_1).size : Int) := oD (by assumption); omega); have hx8 : ∀ h : 0 < (rdOf ByteArray.empty l0_0 x3_1).size, (((rdOf ByteArray.empty l0_0 x3_1)[0]'h).toNat : Int) = bt (rdOf ByteArray.empty l0_0 x3_1) 0 := bt_at (rdOf ByteArray.empty l0_0 x3_1) 0; clear p8; have qi8 : (0 < ((rdOf ByteArray.empty l0_0 x3_1).size : Int)) = True := eq_true (oD (by assumption)); replace q8 := eq_true q8) | (go_at_call 72; (with_reducible refine (spec_l2Upper.calls (bt (rdOf ByteArray.empty l0_0 x3_1) 0) t141 _ A9.out).mono ?_); rintro e w' ⟨rfl, ⟨nd, rfl⟩⟩))
       (try (rw [drewN_self wr]; generalize hq_ : World.drewN wr _ = wr; have n0_ : Aside0 (wr.heap[gb137]? = some (.cells #[.slice (some ad138) l0_0.length c0_0, .string a0_1, .string a0_2, .string a0_3] 61 (0, 0))) := ⟨by rw [← hq_]; exact (by (with_reducible repeat first | apply bN | apply bW | apply bL); exact BK137.out)⟩; have n1_ : Aside0 (Below w.heap.size w wr) := ⟨by rw [← hq_]; exact (by with_reducible repeat first | exact HB.out | apply pA | apply pN | apply p1 | refine pS ?_ GE137.out)⟩; clear BK137 HB hq_; have BK137 := n0_; have HB := n1_; clear n0_ n1_));have H := HC10.out;clear HC10;by_cases c12 : t141 = true
       ·subst c12
        rw [if_pos rfl] at H;have H' := AM H;clear H;(go_wp2);(go_roundg k1)
        case measure => have := HK1.out; omega
        case rel => exact ⟨(wrap64 (x3_1 + 1)), (by first | rfl | (simp; done) | (simp [*]; done)), H', ⟨by have := HK1.out; omega⟩, ⟨by (with_reducible repeat (first | refine bN ?_ _ | refine bW ?_ | refine bL ?_ _)); exact BK137.out⟩, ⟨by with_reducible repeat first | exact HB.out | apply pA | apply pN | apply p1 | refine pS ?_ GE137.out⟩⟩
       ·replace c12 := bE.mpr c12
        subst c12;rw [if_neg (show ¬ (false = true) by decide)] at H;obtain rfl := oI H;(go_wp2);(go_ret);exact ⟨rfl, by with_reducible repeat first | exact HB.out | apply pA | apply pN | apply p1 | refine pS ?_ GE137.out⟩
      ·rw [if_neg c7] at H
       exact absurd H (by simp)
     ·replace c6 := bE.mpr c6
      subst c6;rw [if_neg (show ¬ (false = true) by decide)] at H;obtain rfl := oI H;obtain ⟨z13_0, z13_1, z13_2, z13_3⟩ := cells4 BK137.out;have p138 : 0 ≤ (x3_1 : Int) := oD (by assumption);have q138 : x3_1 < (l0_0.length : Int) := oD (by assumption);obtain ⟨ad138, e138, hx138_0⟩ := Kd.at_string HR0_0.out x3_1 p138 q138;cases e138;replace hx138_0 := (HB.out.cell (World.block_lt_of_cell? w _ hx138_0)).trans hx138_0;replace p138 := eq_true p138;replace q138 := eq_true q138
      go_wp2_with (first | ((with_reducible refine gate_callee (f := 71) rfl ?_); refine goesL_ (some 16) rfl rfl Tryz.func71 (by kernel_rfl) rfl #[.string (rdOf ByteArray.empty l0_0 x3_1)] rfl (by (try simp only [mT, mC, mN]); try rfl) ?_; (with_reducible refine (spec_l2Word.calls k1 (rdOf ByteArray.empty l0_0 x3_1) false _ A5.out).mono ?_); rintro e w' ⟨rfl, ⟨nd, rfl⟩⟩; refine ⟨_, rfl, ?_⟩))
      (go_ret);exact ⟨rfl, by with_reducible repeat first | exact HB.out | apply pA | apply pN | apply p1 | refine pS ?_ GE137.out⟩
    ·rw [if_neg c4] at H
     exact absurd H (by simp)
   ·rw [if_neg c3] at H
    have c3b0 : decide (x3_1 < (l0_0.length : Int)) = false := dF c3;clear c3;by_cases c14 : (l0_0.length : Int) ≤ 3
    ·rw [if_pos c14] at H
     have c14b0 : decide ((l0_0.length : Int) ≤ 3) = true := dT c14;have c14b1 : decide (l0_0.length ≤ 3) = true := dT (by omega);clear c14;replace H := oB.mp H;obtain ⟨t142, A150, H⟩ := H;(try dsimp only at H);have A15 := AM A150;clear A150;by_cases c16 : t142 = true
     ·subst c16
      rw [if_pos rfl] at H;replace H := oB.mp H;obtain ⟨t143, A170, H⟩ := H;(try dsimp only at H);have A17 := AM A170;clear A170;by_cases c18 : t143 = true
      ·subst c18
       rw [if_pos rfl] at H;by_cases c19 : 0 < (a0_2.size : Int)
       ·rw [if_pos c19] at H
        have c19b0 : decide (0 < (a0_2.size : Int)) = true := dT c19;have c19b1 : decide (0 < a0_2.size) = true := dT (by omega);clear c19;replace H := oB.mp H;obtain ⟨t144, A210, H⟩ := H;(try dsimp only at H);have A21 := AM A210;clear A210;by_cases c22 : t144 = true
        ·subst c22
         rw [if_pos rfl] at H;by_cases c23 : a0_3.toList = ([] : List UInt8)
         ·rw [if_pos c23] at H
          have c23b0 : (a0_3.toList == ([] : List UInt8)) = true := beq_iff_eq.mpr c23;have c23b1 : (a0_3.toList != ([] : List UInt8)) = false := bne_eq_false_iff_eq.mpr c23;clear c23;obtain rfl := oI H;obtain ⟨z24_0, z24_1, z24_2, z24_3⟩ := cells4 BK137.out
          go_wp2_with (first | (go_at_call 73; (with_reducible refine (spec_l2Particle.calls k1 a0_1 true _ A15.out).mono ?_); rintro e w25 ⟨rfl, hb⟩; replace BK137 := AM (bB (by (with_reducible repeat first | apply bN | apply bW | apply bL); exact BK137.out) hb); replace HB := AM (bS (by with_reducible repeat first | exact HB.out | apply pA | apply pN | apply p1 | refine pS ?_ GE137.out) hb); (try clear hb); obtain ⟨z26_0, z26_1, z26_2, z26_3⟩ := cells4 BK137.out) | (go_at_call 71; (with_reducible refine (spec_l2Word.calls k1 a0_2 true _ A17.out).mono ?_); rintro e w' ⟨rfl, ⟨nd, rfl⟩⟩; have p20 : 0 ≤ (0 : Int) := (by omega); have q20 : 0 < a0_2.size := (by have : (0 : Int) < (a0_2.size : Int) := oD (by assumption); omega); have hx20 : ∀ h : 0 < a0_2.size, ((a0_2[0]'h).toNat : Int) = bt a0_2 0 := bt_at a0_2 0; clear p20; have qi20 : (0 < (a0_2.size : Int)) = True := eq_true (oD (by assumption)); replace q20 := eq_true q20) | (go_at_call 72; (with_reducible refine (spec_l2Upper.calls (bt a0_2 0) true _ A21.out).mono ?_); rintro e w' ⟨rfl, ⟨nd, rfl⟩⟩))
          (go_ret);exact ⟨rfl, by with_reducible repeat first | exact HB.out | apply pA | apply pN | apply p1 | refine pS ?_ GE137.out⟩
         ·rw [if_neg c23] at H
          have c23b0 : (a0_3.toList == ([] : List UInt8)) = false := beq_eq_false_iff_ne.mpr c23;have c23b1 : (a0_3.toList != ([] : List UInt8)) = true := bne_iff_ne.mpr c23;replace H := oB.mp H;obtain ⟨t145, A270, H⟩ := H;(try dsimp only at H);have A27 := AM A270;clear A270;obtain rfl := oI H;obtain ⟨z28_0, z28_1, z28_2, z28_3⟩ := cells4 BK137.out
          go_wp2_with (first | (go_at_call 73; (with_reducible refine (spec_l2Particle.calls k1 a0_1 true _ A15.out).mono ?_); rintro e w29 ⟨rfl, hb⟩; replace BK137 := AM (bB (by (with_reducible repeat first | apply bN | apply bW | apply bL); exact BK137.out) hb); replace HB := AM (bS (by with_reducible repeat first | exact HB.out | apply pA | apply pN | apply p1 | refine pS ?_ GE137.out) hb); (try clear hb); obtain ⟨z30_0, z30_1, z30_2, z30_3⟩ := cells4 BK137.out) | (go_at_call 71; (with_reducible refine (spec_l2Word.calls k1 a0_2 true _ A17.out).mono ?_); rintro e w' ⟨rfl, ⟨nd, rfl⟩⟩; have p20 : 0 ≤ (0 : Int) := (by omega); have q20 : 0 < a0_2.size := (by have : (0 : Int) < (a0_2.size : Int) := oD (by assumption); omega); have hx20 : ∀ h : 0 < a0_2.size, ((a0_2[0]'h).toNat : Int) = bt a0_2 0 := bt_at a0_2 0; clear p20; have qi20 : (0 < (a0_2.size : Int)) = True := eq_true (oD (by assumption)); replace q20 := eq_true q20) | (go_at_call 72; (with_reducible refine (spec_l2Upper.calls (bt a0_2 0) true _ A21.out).mono ?_); rintro e w' ⟨rfl, ⟨nd, rfl⟩⟩) | (go_at_call 71; (with_reducible refine (spec_l2Word.calls k1 a0_3 t145 _ A27.out).mono ?_); rintro e w' ⟨rfl, ⟨nd, rfl⟩⟩))
          (go_ret);exact ⟨rfl, by with_reducible repeat first | exact HB.out | apply pA | apply pN | apply p1 | refine pS ?_ GE137.out⟩
        ·replace c22 := bE.mpr c22
         subst c22;rw [if_neg (show ¬ (false = true) by decide)] at H;obtain rfl := oI H;obtain ⟨z31_0, z31_1, z31_2, z31_3⟩ := cells4 BK137.out
         go_wp2_with (first | (go_at_call 73; (with_reducible refine (spec_l2Particle.calls k1 a0_1 true _ A15.out).mono ?_); rintro e w32 ⟨rfl, hb⟩; replace BK137 := AM (bB (by (with_reducible repeat first | apply bN | apply bW | apply bL); exact BK137.out) hb); replace HB := AM (bS (by with_reducible repeat first | exact HB.out | apply pA | apply pN | apply p1 | refine pS ?_ GE137.out) hb); (try clear hb); obtain ⟨z33_0, z33_1, z33_2, z33_3⟩ := cells4 BK137.out) | (go_at_call 71; (with_reducible refine (spec_l2Word.calls k1 a0_2 true _ A17.out).mono ?_); rintro e w' ⟨rfl, ⟨nd, rfl⟩⟩; have p20 : 0 ≤ (0 : Int) := (by omega); have q20 : 0 < a0_2.size := (by have : (0 : Int) < (a0_2.size : Int) := oD (by assumption); omega); have hx20 : ∀ h : 0 < a0_2.size, ((a0_2[0]'h).toNat : Int) = bt a0_2 0 := bt_at a0_2 0; clear p20; have qi20 : (0 < (a0_2.size : Int)) = True := eq_true (oD (by assumption)); replace q20 := eq_true q20) | (go_at_call 72; (with_reducible refine (spec_l2Upper.calls (bt a0_2 0) false _ A21.out).mono ?_); rintro e w' ⟨rfl, ⟨nd, rfl⟩⟩))
         (go_ret);exact ⟨rfl, by with_reducible repeat first | exact HB.out | apply pA | apply pN | apply p1 | refine pS ?_ GE137.out⟩
       ·rw [if_neg c19] at H
        exact absurd H (by simp)
      ·replace c18 := bE.mpr c18
       subst c18;rw [if_neg (show ¬ (false = true) by decide)] at H;obtain rfl := oI H;obtain ⟨z34_0, z34_1, z34_2, z34_3⟩ := cells4 BK137.out
       go_wp2_with (first | (go_at_call 73; (with_reducible refine (spec_l2Particle.calls k1 a0_1 true _ A15.out).mono ?_); rintro e w35 ⟨rfl, hb⟩; replace BK137 := AM (bB (by (with_reducible repeat first | apply bN | apply bW | apply bL); exact BK137.out) hb); replace HB := AM (bS (by with_reducible repeat first | exact HB.out | apply pA | apply pN | apply p1 | refine pS ?_ GE137.out) hb); (try clear hb); obtain ⟨z36_0, z36_1, z36_2, z36_3⟩ := cells4 BK137.out) | (go_at_call 71; (with_reducible refine (spec_l2Word.calls k1 a0_2 false _ A17.out).mono ?_); rintro e w' ⟨rfl, ⟨nd, rfl⟩⟩))
       (go_ret);exact ⟨rfl, by with_reducible repeat first | exact HB.out | apply pA | apply pN | apply p1 | refine pS ?_ GE137.out⟩
     ·replace c16 := bE.mpr c16
      subst c16;rw [if_neg (show ¬ (false = true) by decide)] at H;obtain rfl := oI H;obtain ⟨z37_0, z37_1, z37_2, z37_3⟩ := cells4 BK137.out
      go_wp2_with (first | (go_at_call 73; (with_reducible refine (spec_l2Particle.calls k1 a0_1 false _ A15.out).mono ?_); rintro e w38 ⟨rfl, hb⟩; replace BK137 := AM (bB (by (with_reducible repeat first | apply bN | apply bW | apply bL); exact BK137.out) hb); replace HB := AM (bS (by with_reducible repeat first | exact HB.out | apply pA | apply pN | apply p1 | refine pS ?_ GE137.out) hb); (try clear hb)))
      (go_ret);exact ⟨rfl, by with_reducible repeat first | exact HB.out | apply pA | apply pN | apply p1 | refine pS ?_ GE137.out⟩
    ·rw [if_neg c14] at H
     have c14b0 : decide ((l0_0.length : Int) ≤ 3) = false := dF c14;have c14b1 : decide (l0_0.length ≤ 3) = false := dF (by omega);clear c14;obtain rfl := oI H;obtain ⟨z39_0, z39_1, z39_2, z39_3⟩ := cells4 BK137.out;(go_wp2);(go_ret);exact ⟨rfl, by with_reducible repeat first | exact HB.out | apply pA | apply pN | apply p1 | refine pS ?_ GE137.out⟩
/-! ### spec_l2List: function 24 -/
mutual
def spec_l2List.l0 : Nat → List (S61) → Int → Option (Bool)
 | 0, _, _ => none
 | k + 1, x0, x3 => if x3 < (x0.length : Int) then (spec_l2List.j1 k x0 x3 (decide (x3 ≤ 4))) else (spec_l2List.j1 k x0 x3 false)
def spec_l2List.j1 : Nat → List (S61) → Int → Bool → Option (Bool)
 | 0, _, _, _ => none
 | k + 1, x0, x3, x11 => if x11 = true then (if 0 ≤ x3 then (if x3 < (x0.length : Int) then ((spec_l2Good.f k ((rd_T61 x0 x3).f0) ((rd_T61 x0 x3).f1) ((rd_T61 x0 x3).f2) ((rd_T61 x0 x3).f3)).bind fun t147 => (if t147 = true then (spec_l2List.l0 k x0 (wrap64 (x3 + 1))) else (some false))) else (none)) else (none)) else (some (decide ((x0.length : Int) ≤ 4)))
end
def spec_l2List.f (k : Nat) (l0 : List (S61)) : Option (Bool) := spec_l2List.l0 k l0 0
theorem spec_l2List.mono_l : ∀ k, (∀ y0 y1, LeO (spec_l2List.l0 k y0 y1) (spec_l2List.l0 (k + 1) y0 y1)) ∧ (∀ y0 y1 y2, LeO (spec_l2List.j1 k y0 y1 y2) (spec_l2List.j1 (k + 1) y0 y1 y2))
 | 0 => ⟨fun _ _ r h => by simp [spec_l2List.l0] at h, fun _ _ _ r h => by simp [spec_l2List.j1] at h⟩
 | k + 1 => by
  obtain ⟨ih0, ih1⟩ := spec_l2List.mono_l k;refine ⟨?_, ?_⟩
  ·intro y0 y1
   unfold spec_l2List.l0
   repeat' with_reducible first
   | exact ih0 _ _
   | exact ih1 _ _ _
   | exact spec_l2Good.mono _ _ _ _ _
   | exact LeO.refl _
   | exact LeO.none _
   | refine LeO.ite ?_ ?_
   | refine LeO.bind ?_ (fun _ => ?_)
  ·intro y0 y1 y2
   unfold spec_l2List.j1
   repeat' with_reducible first
   | exact ih0 _ _
   | exact ih1 _ _ _
   | exact spec_l2Good.mono _ _ _ _ _
   | exact LeO.refl _
   | exact LeO.none _
   | refine LeO.ite ?_ ?_
   | refine LeO.bind ?_ (fun _ => ?_)
theorem spec_l2List.mono : ∀ a0 k, LeO (spec_l2List.f k a0) (spec_l2List.f (k + 1) a0) := by
 intro a0 k;obtain ⟨ih0, ih1⟩ := spec_l2List.mono_l k;unfold spec_l2List.f
 repeat' with_reducible first
   | exact ih0 _ _
   | exact ih1 _ _ _
   | exact spec_l2Good.mono _ _ _ _ _
   | exact LeO.refl _
   | exact LeO.none _
   | refine LeO.ite ?_ ?_
   | refine LeO.bind ?_ (fun _ => ?_)
theorem spec_l2List.calls (k : Nat) (A0 : Option Addr) (c0 : Nat) (l0 : List (S61)) (r : Bool) (w : World) (hr0 : Kd.C k61 w A0 l0.length l0) (hc0 : l0.length ≤ c0) (h : spec_l2List.f k l0 = some r) :
  Calls Tryz.prog 24 #[.slice A0 l0.length c0] w fun e w' => e = .returned (.bool r) ∧ Below w.heap.size w w' := by
 have hu61 := Tryz.underlying61;have HR0 := AM hr0;have HC0 := AM hc0;clear hr0 hc0;have HB := AM (Below.refl w.heap.size w);have H := h;unfold spec_l2List.f at H;clear h;have H' := AM H;clear H;(go_enter Tryz.func24, Tryz.ntmps24);(go_wp2);(go_loopg [3] k (fun kq v3 w' => ∃ (x3_1 : Int), v3 = .int .i64 x3_1 ∧ Aside0 (spec_l2List.l0 kq l0 x3_1 = some r) ∧ Aside0 (kq ≤ k) ∧ Aside0 (Below w.heap.size w w')))
 case atStart => exact ⟨(0), (by first | rfl | (simp; done) | (simp [*]; done)), H', ⟨Nat.le_refl _⟩, ⟨by with_reducible repeat first | exact HB.out | apply pA | apply pN | apply p1⟩⟩
 case round =>
  clear H';obtain ⟨x3_1, rfl, HA, HK1, HB⟩ := hrel
  cases gk with
  | zero => exact absurd HA.out (by simp [spec_l2List.l0])
  | succ k1 =>
   have H := HA.out;clear HA;simp only [spec_l2List.l0] at H;have HC2 := AM H;clear H
   go_upto_region 2 with (fail)
   go_cut [11] (fun v11 wc => ∃ (kq : Nat) (x11_1 : Bool), v11 = .bool x11_1 ∧ Aside0 (spec_l2List.j1 kq l0 x3_1 x11_1 = some r) ∧ Aside0 (kq ≤ k1) ∧ Aside0 (Below w.heap.size w wc))
   case first =>
    have H := HC2.out;clear HC2;by_cases c3 : x3_1 < (l0.length : Int)
    ·rw [if_pos c3] at H
     have c3b0 : decide (x3_1 < (l0.length : Int)) = true := dT c3;clear c3;(first | rw [c3b0] | rw [c3b1] | rw [c3b2] | (simp only [i64_w, i32_w]; rw [c3b0]) | skip);have H' := AM H;clear H;(go_wp2);(go_meet)
     case rel => exact ⟨_, (decide (x3_1 ≤ 4)), (by first | rfl | (simp; done) | (simp [*]; done)), H', ⟨by have := HK1.out; first | omega | exact Nat.le_refl _⟩, ⟨by with_reducible repeat first | exact HB.out | apply pA | apply pN | apply p1⟩⟩
    ·rw [if_neg c3] at H
     have c3b0 : decide (x3_1 < (l0.length : Int)) = false := dF c3;clear c3;(first | rw [c3b0] | rw [c3b1] | rw [c3b2] | (simp only [i64_w, i32_w]; rw [c3b0]) | skip);have H' := AM H;clear H;(go_wp2);(go_meet)
     case rel => exact ⟨_, (false), (by first | rfl | (simp; done) | (simp [*]; done)), H', ⟨by have := HK1.out; first | omega | exact Nat.le_refl _⟩, ⟨by with_reducible repeat first | exact HB.out | apply pA | apply pN | apply p1⟩⟩
   case rest =>
    clear HC2;(try clear c2);(try clear p2);(try clear c3);(try clear c3b0);(try clear c3b1);(try clear c3b2);obtain ⟨kq, x11_1, rfl, HA, HJ1, HB⟩ := hcut
    cases kq with
    | zero => exact absurd HA.out (by simp [spec_l2List.j1])
    | succ kj1 =>
     have H := HA.out;clear HA;simp only [spec_l2List.j1] at H;by_cases c4 : x11_1 = true
     ·subst c4
      rw [if_pos rfl] at H;by_cases c5 : 0 ≤ x3_1
      ·rw [if_pos c5] at H
       have c5b0 : decide (0 ≤ x3_1) = true := dT c5;clear c5;by_cases c6 : x3_1 < (l0.length : Int)
       ·rw [if_pos c6] at H
        have c6b0 : decide (x3_1 < (l0.length : Int)) = true := dT c6;clear c6;replace H := Option.bind_eq_some_iff.mp H;obtain ⟨t147, A70, H⟩ := H;(try dsimp only at H);have A7 := AM A70;clear A70;by_cases c8 : t147 = true
        ·subst c8
         rw [if_pos rfl] at H;have H' := AM H;clear H;have p146 : 0 ≤ (x3_1 : Int) := oD (by assumption);have q146 : x3_1 < (l0.length : Int) := oD (by assumption);obtain ⟨ad146, A146_0, c146_0, e146, hx146_0, hx146_1, hx146_2, hx146_3, hl146_0, hi146_0⟩ := at_T61 HR0.out x3_1 p146 q146;cases e146;replace hx146_0 := (HB.out.cell (World.block_lt_of_cell? w _ hx146_0)).trans hx146_0;replace hx146_1 := (HB.out.cell (World.block_lt_of_cell? w _ hx146_1)).trans hx146_1;replace hx146_2 := (HB.out.cell (World.block_lt_of_cell? w _ hx146_2)).trans hx146_2;replace hx146_3 := (HB.out.cell (World.block_lt_of_cell? w _ hx146_3)).trans hx146_3;have HR146_0 := AM hi146_0;have HC146_0 := AM hl146_0;clear hi146_0 hl146_0;replace p146 := eq_true p146;replace q146 := eq_true q146
         go_wp2_with (first | ((with_reducible refine gate_callee (f := 48) rfl ?_); refine goesL_ (some 18) rfl rfl Tryz.func48 (by kernel_rfl) rfl #[.agg #[.slice A146_0 ((rd_T61 l0 x3_1).f0).length c146_0, .string ((rd_T61 l0 x3_1).f1), .string ((rd_T61 l0 x3_1).f2), .string ((rd_T61 l0 x3_1).f3)]] rfl (by (try simp only [mT, mC, mN]); try rfl) ?_; (with_reducible refine (spec_l2Good.calls kj1 _ _ ((rd_T61 l0 x3_1).f0) ((rd_T61 l0 x3_1).f1) ((rd_T61 l0 x3_1).f2) ((rd_T61 l0 x3_1).f3) true _ ?side1 ?side2 A7.out).mono ?_); (case side1 => repeat first | exact (cB HR146_0.out HB.out) | with_reducible first | apply cA | apply cN | apply cD); (case side2 => exact HC146_0.out); rintro e w9 ⟨rfl, hb⟩; refine ⟨_, rfl, ?_⟩; replace HB := AM (below_step (by with_reducible repeat first | exact HB.out | apply pA | apply pN | apply p1) hb); (try clear hb)))
         go_roundg kj1
         case measure => have := HK1.out; have := HJ1.out; omega
         case rel => exact ⟨(wrap64 (x3_1 + 1)), (by first | rfl | (simp; done) | (simp [*]; done)), H', ⟨by have := HK1.out; have := HJ1.out; omega⟩, ⟨by with_reducible repeat first | exact HB.out | apply pA | apply pN | apply p1⟩⟩
        ·replace c8 := bE.mpr c8
         subst c8;rw [if_neg (show ¬ (false = true) by decide)] at H;obtain rfl := oI H;have p146 : 0 ≤ (x3_1 : Int) := oD (by assumption);have q146 : x3_1 < (l0.length : Int) := oD (by assumption);obtain ⟨ad146, A146_0, c146_0, e146, hx146_0, hx146_1, hx146_2, hx146_3, hl146_0, hi146_0⟩ := at_T61 HR0.out x3_1 p146 q146;cases e146;replace hx146_0 := (HB.out.cell (World.block_lt_of_cell? w _ hx146_0)).trans hx146_0;replace hx146_1 := (HB.out.cell (World.block_lt_of_cell? w _ hx146_1)).trans hx146_1;replace hx146_2 := (HB.out.cell (World.block_lt_of_cell? w _ hx146_2)).trans hx146_2;replace hx146_3 := (HB.out.cell (World.block_lt_of_cell? w _ hx146_3)).trans hx146_3;have HR146_0 := AM hi146_0;have HC146_0 := AM hl146_0;clear hi146_0 hl146_0;replace p146 := eq_true p146;replace q146 := eq_true q146
         go_wp2_with (first | ((with_reducible refine gate_callee (f := 48) rfl ?_); refine goesL_ (some 18) rfl rfl Tryz.func48 (by kernel_rfl) rfl #[.agg #[.slice A146_0 ((rd_T61 l0 x3_1).f0).length c146_0, .string ((rd_T61 l0 x3_1).f1), .string ((rd_T61 l0 x3_1).f2), .string ((rd_T61 l0 x3_1).f3)]] rfl (by (try simp only [mT, mC, mN]); try rfl) ?_; (with_reducible refine (spec_l2Good.calls kj1 _ _ ((rd_T61 l0 x3_1).f0) ((rd_T61 l0 x3_1).f1) ((rd_T61 l0 x3_1).f2) ((rd_T61 l0 x3_1).f3) false _ ?side1 ?side2 A7.out).mono ?_); (case side1 => repeat first | exact (cB HR146_0.out HB.out) | with_reducible first | apply cA | apply cN | apply cD); (case side2 => exact HC146_0.out); rintro e w10 ⟨rfl, hb⟩; refine ⟨_, rfl, ?_⟩; replace HB := AM (below_step (by with_reducible repeat first | exact HB.out | apply pA | apply pN | apply p1) hb); (try clear hb)))
         (go_ret);exact ⟨rfl, by with_reducible repeat first | exact HB.out | apply pA | apply pN | apply p1⟩
       ·rw [if_neg c6] at H
        exact absurd H (by simp)
      ·rw [if_neg c5] at H
       exact absurd H (by simp)
     ·replace c4 := bE.mpr c4
      subst c4;rw [if_neg (show ¬ (false = true) by decide)] at H;obtain rfl := oI H;(go_wp2);(go_ret);exact ⟨rfl, by with_reducible repeat first | exact HB.out | apply pA | apply pN | apply p1⟩
/-! ### spec_l4Text: function 25 -/
def spec_l4Text.l0 : Nat → ByteArray → Int → Option (Bool)
 | 0, _, _ => none
 | k + 1, x0, x3 => if x3 < (x0.size : Int) then (if 0 ≤ x3 then (if (bt x0 x3) < 32 then (some false) else (if (bt x0 x3) > 126 then (some false) else (spec_l4Text.l0 k x0 (wrap64 (x3 + 1))))) else (none)) else (if x0.toList = ([] : List UInt8) then (some true) else (if 0 < (x0.size : Int) then (if (bt x0 0) = 32 then (some false) else (if 0 ≤ (wrap64 ((x0.size : Int) - 1)) then (if (wrap64 ((x0.size : Int) - 1)) < (x0.size : Int) then (some ((bt x0 (wrap64 ((x0.size : Int) - 1))) != 32)) else (none)) else (none))) else (none)))
def spec_l4Text.f (k : Nat) (a0 : ByteArray) : Option (Bool) := if (a0.size : Int) > 40 then (some false) else (spec_l4Text.l0 k a0 0)
theorem spec_l4Text.mono_l : ∀ k, (∀ y0 y1, LeO (spec_l4Text.l0 k y0 y1) (spec_l4Text.l0 (k + 1) y0 y1))
 | 0 => fun _ _ r h => by simp [spec_l4Text.l0] at h
 | k + 1 => by
  have ih0 := spec_l4Text.mono_l k
  ·intro y0 y1
   unfold spec_l4Text.l0
   repeat' with_reducible first
   | exact ih0 _ _
   | exact LeO.refl _
   | exact LeO.none _
   | refine LeO.ite ?_ ?_
   | refine LeO.bind ?_ (fun _ => ?_)
theorem spec_l4Text.mono : ∀ a0 k, LeO (spec_l4Text.f k a0) (spec_l4Text.f (k + 1) a0) := by
 intro a0 k;have ih0 := spec_l4Text.mono_l k;unfold spec_l4Text.f
 repeat' with_reducible first
   | exact ih0 _ _
   | exact LeO.refl _
   | exact LeO.none _
   | refine LeO.ite ?_ ?_
   | refine LeO.bind ?_ (fun _ => ?_)
theorem spec_l4Text.calls (k : Nat) (a0 : ByteArray) (r : Bool) (w : World) (h : spec_l4Text.f k a0 = some r) :
  Calls Tryz.prog 25 #[.string a0] w fun e w' => e = .returned (.bool r) ∧ Drawn0 w w' := by
 have H := h;unfold spec_l4Text.f at H;clear h;by_cases c2 : (a0.size : Int) > 40;(·rw [if_pos c2] at H;have c2b0 : decide (40 < (a0.size : Int)) = true := dT c2;have c2b1 : decide (40 < a0.size) = true := dT (by omega);clear c2;obtain rfl := oI H;(go_enter Tryz.func25, Tryz.ntmps25);(go_wp2);(go_ret);exact ⟨by first | rfl | (simp; done) | (simp [*]; done), by repeat (first | exact Drawn0.refl _ | apply Drawn0.step)⟩)
 ·rw [if_neg c2] at H
  have c2b0 : decide (40 < (a0.size : Int)) = false := dF c2;have c2b1 : decide (40 < a0.size) = false := dF (by omega);clear c2;have H' := AM H;clear H;(go_enter Tryz.func25, Tryz.ntmps25);(go_wp2);(go_loopg [3] k (fun kq v3 w' => ∃ (x3_1 : Int), v3 = .int .i64 x3_1 ∧ Aside0 (spec_l4Text.l0 kq a0 x3_1 = some r) ∧ Aside0 (kq ≤ k) ∧ Drawn0 w w'))
  case atStart => exact ⟨(0), (by first | rfl | (simp; done) | (simp [*]; done)), H', ⟨Nat.le_refl _⟩, by repeat (first | exact Drawn0.refl _ | apply Drawn0.step)⟩
  case round =>
   clear H';(try clear c2);(try clear c2b0);(try clear c2b1);(try clear p2);obtain ⟨x3_1, rfl, HA, HK1, ⟨m1, rfl⟩⟩ := hrel
   cases gk with
   | zero => exact absurd HA.out (by simp [spec_l4Text.l0])
   | succ k1 =>
    have H := HA.out;clear HA;simp only [spec_l4Text.l0] at H;by_cases c3 : x3_1 < (a0.size : Int)
    ·rw [if_pos c3] at H
     have c3b0 : decide (x3_1 < (a0.size : Int)) = true := dT c3;clear c3;by_cases c4 : 0 ≤ x3_1
     ·rw [if_pos c4] at H
      have c4b0 : decide (0 ≤ x3_1) = true := dT c4;clear c4;by_cases c6 : (bt a0 x3_1) < 32;(·rw [if_pos c6] at H;have c6b0 : decide ((bt a0 x3_1) < 32) = true := dT c6;clear c6;obtain rfl := oI H;have p5 : 0 ≤ (x3_1 : Int) := oD (by assumption);have q5 : x3_1 < (a0.size : Int) := oD (by assumption);have hx5 := bt_at a0 x3_1;replace p5 := eq_true p5;replace q5 := eq_true q5;(go_wp2);(go_ret);exact ⟨by first | rfl | (simp; done) | (simp [*]; done), by repeat (first | exact Drawn0.refl _ | apply Drawn0.step)⟩)
      ·rw [if_neg c6] at H
       have c6b0 : decide ((bt a0 x3_1) < 32) = false := dF c6;clear c6;by_cases c8 : (bt a0 x3_1) > 126;(·rw [if_pos c8] at H;have c8b0 : decide (126 < (bt a0 x3_1)) = true := dT c8;clear c8;obtain rfl := oI H;have p5 : 0 ≤ (x3_1 : Int) := oD (by assumption);have q5 : x3_1 < (a0.size : Int) := oD (by assumption);have hx5 := bt_at a0 x3_1;replace p5 := eq_true p5;replace q5 := eq_true q5;have p7 : 0 ≤ (x3_1 : Int) := oD (by assumption);have q7 : x3_1 < (a0.size : Int) := oD (by assumption);have hx7 := bt_at a0 x3_1;replace p7 := eq_true p7;replace q7 := eq_true q7;(go_wp2);(go_ret);exact ⟨by first | rfl | (simp; done) | (simp [*]; done), by repeat (first | exact Drawn0.refl _ | apply Drawn0.step)⟩)
       ·rw [if_neg c8] at H
        have c8b0 : decide (126 < (bt a0 x3_1)) = false := dF c8;clear c8;have H' := AM H;clear H;have p5 : 0 ≤ (x3_1 : Int) := oD (by assumption);have q5 : x3_1 < (a0.size : Int) := oD (by assumption);have hx5 := bt_at a0 x3_1;replace p5 := eq_true p5;replace q5 := eq_true q5;have p7 : 0 ≤ (x3_1 : Int) := oD (by assumption);have q7 : x3_1 < (a0.size : Int) := oD (by assumption);have hx7 := bt_at a0 x3_1;replace p7 := eq_true p7;replace q7 := eq_true q7;(go_wp2);(go_roundg k1)
        case measure => have := HK1.out; omega
        case rel => exact ⟨(wrap64 (x3_1 + 1)), (by first | rfl | (simp; done) | (simp [*]; done)), H', ⟨by have := HK1.out; omega⟩, by repeat (first | exact Drawn0.refl _ | apply Drawn0.step)⟩
     ·rw [if_neg c4] at H
      exact absurd H (by simp)
    ·rw [if_neg c3] at H
     have c3b0 : decide (x3_1 < (a0.size : Int)) = false := dF c3;clear c3;by_cases c9 : a0.toList = ([] : List UInt8);(·rw [if_pos c9] at H;have c9b0 : (a0.toList == ([] : List UInt8)) = true := beq_iff_eq.mpr c9;have c9b1 : (a0.toList != ([] : List UInt8)) = false := bne_eq_false_iff_eq.mpr c9;clear c9;obtain rfl := oI H;(go_wp2);(go_ret);exact ⟨by first | rfl | (simp; done) | (simp [*]; done), by repeat (first | exact Drawn0.refl _ | apply Drawn0.step)⟩)
     ·rw [if_neg c9] at H
      have c9b0 : (a0.toList == ([] : List UInt8)) = false := beq_eq_false_iff_ne.mpr c9;have c9b1 : (a0.toList != ([] : List UInt8)) = true := bne_iff_ne.mpr c9;by_cases c10 : 0 < (a0.size : Int)
      ·rw [if_pos c10] at H
       have c10b0 : decide (0 < (a0.size : Int)) = true := dT c10;have c10b1 : decide (0 < a0.size) = true := dT (by omega);clear c10;by_cases c12 : (bt a0 0) = 32
       ·rw [if_pos c12] at H
        have c12b0 : ((bt a0 0) == 32) = true := beq_iff_eq.mpr c12;have c12b1 : ((bt a0 0) != 32) = false := bne_eq_false_iff_eq.mpr c12;clear c12;obtain rfl := oI H
        have p11 : 0 ≤ (0 : Int) := (by omega)
        have q11 : 0 < a0.size := (by have : (0 : Int) < (a0.size : Int) := oD (by assumption); omega)
        have hx11 : ∀ h : 0 < a0.size, ((a0[0]'h).toNat : Int) = bt a0 0 := bt_at a0 0;clear p11;have qi11 : (0 < (a0.size : Int)) = True := eq_true (oD (by assumption));replace q11 := eq_true q11;(go_wp2);(go_ret);exact ⟨by first | rfl | (simp; done) | (simp [*]; done), by repeat (first | exact Drawn0.refl _ | apply Drawn0.step)⟩
       ·rw [if_neg c12] at H
        have c12b0 : ((bt a0 0) == 32) = false := beq_eq_false_iff_ne.mpr c12;have c12b1 : ((bt a0 0) != 32) = true := bne_iff_ne.mpr c12
        obtain ⟨ji13, hji13⟩ : ∃ j_ : Int, (wrap64 ((a0.size : Int) - 1)) = j_ := ⟨_, rfl⟩
        replace H : (if 0 ≤ (ji13) then (if (ji13) < (a0.size : Int) then (some ((bt a0 (ji13)) != 32)) else (none)) else (none)) = some r := by first | (rw [hji13] at H; exact H) | (simp only [hji13] at H ⊢; exact H)
        have hji13w : (IntKind.i64.wrap ((a0.size : Int) - 1)) = ji13 := (i64_w _).trans hji13;by_cases c14 : 0 ≤ (ji13)
        ·rw [if_pos c14] at H
         have c14b0 : decide (0 ≤ (ji13)) = true := dT c14;clear c14;by_cases c15 : (ji13) < (a0.size : Int)
         ·rw [if_pos c15] at H
          have c15b0 : decide ((ji13) < (a0.size : Int)) = true := dT c15;clear c15;obtain rfl := oI H
          have p11 : 0 ≤ (0 : Int) := (by omega)
          have q11 : 0 < a0.size := (by have : (0 : Int) < (a0.size : Int) := oD (by assumption); omega)
          have hx11 : ∀ h : 0 < a0.size, ((a0[0]'h).toNat : Int) = bt a0 0 := bt_at a0 0;clear p11;have qi11 : (0 < (a0.size : Int)) = True := eq_true (oD (by assumption));replace q11 := eq_true q11;have p16 : 0 ≤ ((ji13) : Int) := oD (by assumption);have q16 : (ji13) < (a0.size : Int) := oD (by assumption);have hx16 := bt_at a0 (ji13);replace p16 := eq_true p16;replace q16 := eq_true q16;(go_wp2);(go_ret);exact ⟨by first | rfl | (simp; done) | (simp only [← hji13] <;> (first | rfl | simp)) | (simp [*]; done), by repeat (first | exact Drawn0.refl _ | apply Drawn0.step)⟩
         ·rw [if_neg c15] at H
          exact absurd H (by simp)
        ·rw [if_neg c14] at H
         exact absurd H (by simp)
      ·rw [if_neg c10] at H
       exact absurd H (by simp)
/-! ### spec_l3Days: function 49 -/
def spec_l3Days.j0 : Nat → Bool → Option (Int)
 | 0, _ => none
 | k + 1, x19 => if x19 = true then (some 29) else (some 28)
def spec_l3Days.f (k : Nat) (a0 : Int) (a1 : Int) : Option (Int) := if a1 = 2 then (if (Int.tmod a0 4) = 0 then (if (Int.tmod a0 100) = 0 then (spec_l3Days.j0 k ((Int.tmod a0 400) == 0)) else (spec_l3Days.j0 k true)) else (spec_l3Days.j0 k ((Int.tmod a0 400) == 0))) else (if a1 = 4 then (some 30) else (if a1 = 6 then (some 30) else (if a1 = 9 then (some 30) else (if a1 = 11 then (some 30) else (some 31)))))
theorem spec_l3Days.mono_l : ∀ k, (∀ y0, LeO (spec_l3Days.j0 k y0) (spec_l3Days.j0 (k + 1) y0))
 | 0 => fun _ r h => by simp [spec_l3Days.j0] at h
 | k + 1 => by
  have ih0 := spec_l3Days.mono_l k
  ·intro y0
   unfold spec_l3Days.j0
   repeat' with_reducible first
   | exact ih0 _
   | exact LeO.refl _
   | exact LeO.none _
   | refine LeO.ite ?_ ?_
   | refine LeO.bind ?_ (fun _ => ?_)
theorem spec_l3Days.mono : ∀ a0 a1 k, LeO (spec_l3Days.f k a0 a1) (spec_l3Days.f (k + 1) a0 a1) := by
 intro a0 a1 k;have ih0 := spec_l3Days.mono_l k;unfold spec_l3Days.f
 repeat' with_reducible first
   | exact ih0 _
   | exact LeO.refl _
   | exact LeO.none _
   | refine LeO.ite ?_ ?_
   | refine LeO.bind ?_ (fun _ => ?_)
theorem spec_l3Days.calls (k : Nat) (a0 : Int) (a1 : Int) (r : Int) (w : World) (h : spec_l3Days.f k a0 a1 = some r) :
  Calls Tryz.prog 49 #[.int .i64 a0, .int .i64 a1] w fun e w' => e = .returned (.int .i64 r) ∧ Drawn0 w w' := by
 have H := h;unfold spec_l3Days.f at H;clear h;by_cases c3 : a1 = 2
 ·rw [if_pos c3] at H
  have c3b0 : (a1 == 2) = true := beq_iff_eq.mpr c3;have c3b1 : (a1 != 2) = false := bne_eq_false_iff_eq.mpr c3;clear c3;have HC4 := AM H;clear H;(go_enter Tryz.func49, Tryz.ntmps49)
  go_upto_region 2 with (fail)
  go_cut [19] (fun v19 wc => ∃ (kq : Nat) (x19_3 : Bool), v19 = .bool x19_3 ∧ Aside0 (spec_l3Days.j0 kq x19_3 = some r) ∧ Aside0 (kq ≤ k) ∧ Drawn0 w wc)
  case first =>
   have H := HC4.out;clear HC4;by_cases c5 : (Int.tmod a0 4) = 0
   ·rw [if_pos c5] at H
    have c5b0 : ((Int.tmod a0 4) == 0) = true := beq_iff_eq.mpr c5;have c5b1 : ((Int.tmod a0 4) != 0) = false := bne_eq_false_iff_eq.mpr c5;clear c5;(first | rw [c5b0] | rw [c5b1] | rw [c5b2] | (simp only [i64_w, i32_w]; rw [c5b0]) | skip);by_cases c6 : (Int.tmod a0 100) = 0
    ·rw [if_pos c6] at H
     have c6b0 : ((Int.tmod a0 100) == 0) = true := beq_iff_eq.mpr c6;have c6b1 : ((Int.tmod a0 100) != 0) = false := bne_eq_false_iff_eq.mpr c6;clear c6;have H' := AM H;clear H;(go_wp2);(go_meet)
     case rel => exact ⟨_, (((Int.tmod a0 400) == 0)), (by first | rfl | (simp; done) | (simp [*]; done)), H', ⟨by first | omega | exact Nat.le_refl _⟩, by repeat (first | exact Drawn0.refl _ | apply Drawn0.step)⟩
    ·rw [if_neg c6] at H
     have c6b0 : ((Int.tmod a0 100) == 0) = false := beq_eq_false_iff_ne.mpr c6;have c6b1 : ((Int.tmod a0 100) != 0) = true := bne_iff_ne.mpr c6;have H' := AM H;clear H;(go_wp2);(go_meet)
     case rel => exact ⟨_, (true), (by first | rfl | (simp; done) | (simp [*]; done)), H', ⟨by first | omega | exact Nat.le_refl _⟩, by repeat (first | exact Drawn0.refl _ | apply Drawn0.step)⟩
   ·rw [if_neg c5] at H
    have c5b0 : ((Int.tmod a0 4) == 0) = false := beq_eq_false_iff_ne.mpr c5;have c5b1 : ((Int.tmod a0 4) != 0) = true := bne_iff_ne.mpr c5;(first | rw [c5b0] | rw [c5b1] | rw [c5b2] | (simp only [i64_w, i32_w]; rw [c5b0]) | skip);have H' := AM H;clear H;(go_wp2);(go_meet)
    case rel => exact ⟨_, (((Int.tmod a0 400) == 0)), (by first | rfl | (simp; done) | (simp [*]; done)), H', ⟨by first | omega | exact Nat.le_refl _⟩, by repeat (first | exact Drawn0.refl _ | apply Drawn0.step)⟩
  case rest =>
   clear HC4;(try clear p2);(try clear c3);(try clear c3b0);(try clear c3b1);(try clear c4);(try clear c5);(try clear c5b0);(try clear c5b1);(try clear c5b2);(try clear c6);(try clear c6b0);(try clear c6b1);obtain ⟨kq, x19_3, rfl, HA, HJ3, ⟨mc3, rfl⟩⟩ := hcut
   cases kq with
   | zero => exact absurd HA.out (by simp [spec_l3Days.j0])
   | succ kj3 =>
    have H := HA.out;clear HA;simp only [spec_l3Days.j0] at H;by_cases c7 : x19_3 = true;(·subst c7;rw [if_pos rfl] at H;obtain rfl := oI H;(go_wp2);(go_ret);exact ⟨by first | rfl | (simp; done) | (simp [*]; done), by repeat (first | exact Drawn0.refl _ | apply Drawn0.step)⟩);(·replace c7 := Bool.eq_false_iff.mpr c7;subst c7;rw [if_neg (show ¬ (false = true) by decide)] at H;obtain rfl := oI H;(go_wp2);(go_ret);exact ⟨by first | rfl | (simp; done) | (simp [*]; done), by repeat (first | exact Drawn0.refl _ | apply Drawn0.step)⟩)
 ·rw [if_neg c3] at H
  have c3b0 : (a1 == 2) = false := beq_eq_false_iff_ne.mpr c3;have c3b1 : (a1 != 2) = true := bne_iff_ne.mpr c3;by_cases c8 : a1 = 4;(·rw [if_pos c8] at H;have c8b0 : (a1 == 4) = true := beq_iff_eq.mpr c8;have c8b1 : (a1 != 4) = false := bne_eq_false_iff_eq.mpr c8;clear c8;obtain rfl := oI H;(go_enter Tryz.func49, Tryz.ntmps49);(go_wp2);(go_ret);exact ⟨by first | rfl | (simp; done) | (simp [*]; done), by repeat (first | exact Drawn0.refl _ | apply Drawn0.step)⟩);(·rw [if_neg c8] at H;have c8b0 : (a1 == 4) = false := beq_eq_false_iff_ne.mpr c8;have c8b1 : (a1 != 4) = true := bne_iff_ne.mpr c8;by_cases c9 : a1 = 6;(·rw [if_pos c9] at H;have c9b0 : (a1 == 6) = true := beq_iff_eq.mpr c9;have c9b1 : (a1 != 6) = false := bne_eq_false_iff_eq.mpr c9;clear c9;obtain rfl := oI H;(go_enter Tryz.func49, Tryz.ntmps49);(go_wp2);(go_ret);exact ⟨by first | rfl | (simp; done) | (simp [*]; done), by repeat (first | exact Drawn0.refl _ | apply Drawn0.step)⟩);(·rw [if_neg c9] at H;have c9b0 : (a1 == 6) = false := beq_eq_false_iff_ne.mpr c9;have c9b1 : (a1 != 6) = true := bne_iff_ne.mpr c9;by_cases c10 : a1 = 9;(·rw [if_pos c10] at H;have c10b0 : (a1 == 9) = true := beq_iff_eq.mpr c10;have c10b1 : (a1 != 9) = false := bne_eq_false_iff_eq.mpr c10;clear c10;obtain rfl := oI H;(go_enter Tryz.func49, Tryz.ntmps49);(go_wp2);(go_ret);exact ⟨by first | rfl | (simp; done) | (simp [*]; done), by repeat (first | exact Drawn0.refl _ | apply Drawn0.step)⟩);(·rw [if_neg c10] at H;have c10b0 : (a1 == 9) = false := beq_eq_false_iff_ne.mpr c10;have c10b1 : (a1 != 9) = true := bne_iff_ne.mpr c10;by_cases c11 : a1 = 11;(·rw [if_pos c11] at H;have c11b0 : (a1 == 11) = true := beq_iff_eq.mpr c11;have c11b1 : (a1 != 11) = false := bne_eq_false_iff_eq.mpr c11;clear c11;obtain rfl := oI H;(go_enter Tryz.func49, Tryz.ntmps49);(go_wp2);(go_ret);exact ⟨by first | rfl | (simp; done) | (simp [*]; done), by repeat (first | exact Drawn0.refl _ | apply Drawn0.step)⟩);(·rw [if_neg c11] at H;have c11b0 : (a1 == 11) = false := beq_eq_false_iff_ne.mpr c11;have c11b1 : (a1 != 11) = true := bne_iff_ne.mpr c11;obtain rfl := oI H;(go_enter Tryz.func49, Tryz.ntmps49);(go_wp2);(go_ret);exact ⟨by first | rfl | (simp; done) | (simp [*]; done), by repeat (first | exact Drawn0.refl _ | apply Drawn0.step)⟩))))
attribute [local go_sem high] eqA31
/-! ### spec_l3Good: function 26 -/
def spec_l3Good.j0 : Nat → Bool → Int → Int → Int → Bool → Option (Bool)
 | 0, _, _, _, _, _ => none
 | k + 1, x7, x149000, x149001, x149002, x149003 => if x7 = true then (some false) else (if x149003 = true then (if x149001 = 0 then (some (x149002 == 0)) else (some false)) else (if x149001 = 0 then (some (x149002 == 0)) else ((spec_l3Days.f k x149000 x149001).bind fun t151 => ((spec_l1In.f x149002 0 t151).bind fun t152 => (some t152)))))
def spec_l3Good.f (k : Nat) (a0_0 : Int) (a0_1 : Int) (a0_2 : Int) (a0_3 : Bool) : Option (Bool) := if (a0_0 == 0 && (a0_1 == 0 && (a0_2 == 0 && (!a0_3)))) = true then (some true) else ((spec_l1In.f a0_0 1 2999).bind fun t149 => (if t149 = true then ((spec_l1In.f a0_1 0 12).bind fun t150 => (spec_l3Good.j0 k (!t150) a0_0 a0_1 a0_2 a0_3)) else (spec_l3Good.j0 k true a0_0 a0_1 a0_2 a0_3)))
theorem spec_l3Good.mono_l : ∀ k, (∀ y0 y1 y2 y3 y4, LeO (spec_l3Good.j0 k y0 y1 y2 y3 y4) (spec_l3Good.j0 (k + 1) y0 y1 y2 y3 y4))
 | 0 => fun _ _ _ _ _ r h => by simp [spec_l3Good.j0] at h
 | k + 1 => by
  have ih0 := spec_l3Good.mono_l k
  ·intro y0 y1 y2 y3 y4
   unfold spec_l3Good.j0
   repeat' with_reducible first
   | exact ih0 _ _ _ _ _
   | exact spec_l3Days.mono _ _ _
   | exact LeO.refl _
   | exact LeO.none _
   | refine LeO.ite ?_ ?_
   | refine LeO.bind ?_ (fun _ => ?_)
theorem spec_l3Good.mono : ∀ a0 a1 a2 a3 k, LeO (spec_l3Good.f k a0 a1 a2 a3) (spec_l3Good.f (k + 1) a0 a1 a2 a3) := by
 intro a0 a1 a2 a3 k;have ih0 := spec_l3Good.mono_l k;unfold spec_l3Good.f
 repeat' with_reducible first
   | exact ih0 _ _ _ _ _
   | exact spec_l3Days.mono _ _ _
   | exact LeO.refl _
   | exact LeO.none _
   | refine LeO.ite ?_ ?_
   | refine LeO.bind ?_ (fun _ => ?_)
theorem spec_l3Good.calls (k : Nat) (a0_0 : Int) (a0_1 : Int) (a0_2 : Int) (a0_3 : Bool) (r : Bool) (w : World) (h : spec_l3Good.f k a0_0 a0_1 a0_2 a0_3 = some r) :
  Calls Tryz.prog 26 #[.agg #[.int .i64 a0_0, .int .i64 a0_1, .int .i64 a0_2, .bool a0_3]] w fun e w' => e = .returned (.bool r) ∧ Below w.heap.size w w' := by
 have hu31 := Tryz.underlying31;have HB := AM (Below.refl w.heap.size w);have H := h;unfold spec_l3Good.f at H;clear h;have HC2 := AM H;clear H;(go_enter Tryz.func26, Tryz.ntmps26)
 go_upto_if 3 with (first | ((with_reducible refine gD (N := 1) rfl ?_); refine gB ?hg (N := 1) ?hd (cs := #[.int .i64 a0_0, .int .i64 a0_1, .int .i64 a0_2, .bool a0_3]) (t := 31) ?hr ?_; (case hd => rfl); (case hg => rfl); (case hr => first | (go_simp; done) | (go_simp; rfl)); intro gb148 hg w3 hbox hb; have BK148 := AM (hbox); have GW148 := AM ((by rw [hg]; exact (bZ (by with_reducible repeat first | exact HB.out | apply pA | apply pN | apply p1)) : w.heap.size ≤ gb148)); have GE148 := AM ((by rw [hg]; exact (bZ (by with_reducible repeat first | exact HB.out | apply pA | apply pN | apply p1)) : w.heap.size ≤ gb148)); replace HB := AM (bS (by with_reducible repeat first | exact HB.out | apply pA | apply pN | apply p1) hb); clear hb hbox hg; obtain ⟨z4_0, z4_1, z4_2, z4_3⟩ := cells4 BK148.out))
 (repeat (go_quiet (first | ((with_reducible refine gD (N := 1) rfl ?_); refine gB ?hg (N := 1) ?hd (cs := #[.int .i64 a0_0, .int .i64 a0_1, .int .i64 a0_2, .bool a0_3]) (t := 31) ?hr ?_; (case hd => rfl); (case hg => rfl); (case hr => first | (go_simp; done) | (go_simp; rfl)); intro gb148 hg w3 hbox hb; have BK148 := AM (hbox); have GW148 := AM ((by rw [hg]; exact (bZ (by with_reducible repeat first | exact HB.out | apply pA | apply pN | apply p1)) : w.heap.size ≤ gb148)); have GE148 := AM ((by rw [hg]; exact (bZ (by with_reducible repeat first | exact HB.out | apply pA | apply pN | apply p1)) : w.heap.size ≤ gb148)); replace HB := AM (bS (by with_reducible repeat first | exact HB.out | apply pA | apply pN | apply p1) hb); clear hb hbox hg; obtain ⟨z4_0, z4_1, z4_2, z4_3⟩ := cells4 BK148.out)); go_upto_if 3 with (first | ((with_reducible refine gD (N := 1) rfl ?_); refine gB ?hg (N := 1) ?hd (cs := #[.int .i64 a0_0, .int .i64 a0_1, .int .i64 a0_2, .bool a0_3]) (t := 31) ?hr ?_; (case hd => rfl); (case hg => rfl); (case hr => first | (go_simp; done) | (go_simp; rfl)); intro gb148 hg w3 hbox hb; have BK148 := AM (hbox); have GW148 := AM ((by rw [hg]; exact (bZ (by with_reducible repeat first | exact HB.out | apply pA | apply pN | apply p1)) : w.heap.size ≤ gb148)); have GE148 := AM ((by rw [hg]; exact (bZ (by with_reducible repeat first | exact HB.out | apply pA | apply pN | apply p1)) : w.heap.size ≤ gb148)); replace HB := AM (bS (by with_reducible repeat first | exact HB.out | apply pA | apply pN | apply p1) hb); clear hb hbox hg; obtain ⟨z4_0, z4_1, z4_2, z4_3⟩ := cells4 BK148.out))));have H := HC2.out;clear HC2;by_cases c5 : (a0_0 == 0 && (a0_1 == 0 && (a0_2 == 0 && (!a0_3)))) = true;(·rw [if_pos c5] at H;have c5b0 : (a0_0 == 0 && (a0_1 == 0 && (a0_2 == 0 && (!a0_3)))) = true := c5;(try (have c5b1 : decide (a0_0 = 0 && (a0_1 == 0 && (a0_2 == 0 && (!a0_3)))) = true := by simpa using c5));(try (have c5b2 : (a0_0 == 0 && (a0_1 == 0 && (a0_2 == 0 && (!a0_3)))) = true := by simpa using c5));clear c5;(first | rw [c5b0] | rw [c5b1] | rw [c5b2] | (simp only [i64_w, i32_w]; rw [c5b0]) | skip);obtain rfl := oI H;(go_wp2);(repeat (go_quiet (fail); try go_wp2));(go_ret);exact ⟨rfl, by with_reducible repeat first | exact HB.out | apply pA | apply pN | apply p1 | refine pS ?_ GE148.out⟩)
 ·rw [if_neg c5] at H
  (have c5b0 : (a0_0 == 0 && (a0_1 == 0 && (a0_2 == 0 && (!a0_3)))) = false := by simpa using c5);(try (have c5b1 : decide (a0_0 = 0 && (a0_1 == 0 && (a0_2 == 0 && (!a0_3)))) = false := by simpa using c5));(try (have c5b2 : (a0_0 == 0 && (a0_1 == 0 && (a0_2 == 0 && (!a0_3)))) = false := by simpa using c5));(try (have c5b3 : ¬ (a0_0 = 0 && (a0_1 == 0 && (a0_2 == 0 && (!a0_3)))) := by simpa using c5));clear c5;(first | rw [c5b0] | rw [c5b1] | rw [c5b2] | (simp only [i64_w, i32_w]; rw [c5b0]) | skip);have HC6 := AM H;clear H
  go_upto_region 3 with (fail)
  (repeat (go_quiet (fail); go_upto_region 3 with (fail)));(go_cut [7] (fun v7 wc => ∃ (kq : Nat) (x7_5 : Bool), v7 = .bool x7_5 ∧ Aside0 (spec_l3Good.j0 kq x7_5 a0_0 a0_1 a0_2 a0_3 = some r) ∧ Aside0 (kq ≤ k) ∧ Aside0 (wc.heap[gb148]? = some (.cells #[.int .i64 a0_0, .int .i64 a0_1, .int .i64 a0_2, .bool a0_3] 31 (0, 0))) ∧ Aside0 (Below w.heap.size w wc)))
  case first =>
   have H := HC6.out;clear HC6;replace H := oB.mp H;obtain ⟨t149, A70, H⟩ := H;(try dsimp only at H);have A7 := AM A70;clear A70;by_cases c8 : t149 = true
   ·subst c8
    rw [if_pos rfl] at H;replace H := oB.mp H;obtain ⟨t150, A90, H⟩ := H;(try dsimp only at H);have A9 := AM A90;clear A90;have H' := AM H;clear H;obtain ⟨z10_0, z10_1, z10_2, z10_3⟩ := cells4 BK148.out
    go_wp2_with (first | (go_at_call 11; (with_reducible refine (spec_l1In.calls a0_0 1 2999 true _ A7.out).mono ?_); rintro e w' ⟨rfl, ⟨nd, rfl⟩⟩; (try first | exact ⟨rfl, _, wD _ _ _⟩ | exact ⟨rfl, _, Eq.trans (wD _ _ _) (congrArg (World.drewN _) (Nat.add_assoc _ _ _))⟩)) | (go_at_call 11; (with_reducible refine (spec_l1In.calls a0_1 0 12 t150 _ A9.out).mono ?_); rintro e w' ⟨rfl, ⟨nd, rfl⟩⟩; (try first | exact ⟨rfl, _, wD _ _ _⟩ | exact ⟨rfl, _, Eq.trans (wD _ _ _) (congrArg (World.drewN _) (Nat.add_assoc _ _ _))⟩)))
    (repeat (go_quiet (first | (go_at_call 11; (with_reducible refine (spec_l1In.calls a0_0 1 2999 true _ A7.out).mono ?_); rintro e w' ⟨rfl, ⟨nd, rfl⟩⟩; (try first | exact ⟨rfl, _, wD _ _ _⟩ | exact ⟨rfl, _, Eq.trans (wD _ _ _) (congrArg (World.drewN _) (Nat.add_assoc _ _ _))⟩)) | (go_at_call 11; (with_reducible refine (spec_l1In.calls a0_1 0 12 t150 _ A9.out).mono ?_); rintro e w' ⟨rfl, ⟨nd, rfl⟩⟩; (try first | exact ⟨rfl, _, wD _ _ _⟩ | exact ⟨rfl, _, Eq.trans (wD _ _ _) (congrArg (World.drewN _) (Nat.add_assoc _ _ _))⟩))); try go_wp2_with (first | (go_at_call 11; (with_reducible refine (spec_l1In.calls a0_0 1 2999 true _ A7.out).mono ?_); rintro e w' ⟨rfl, ⟨nd, rfl⟩⟩; (try first | exact ⟨rfl, _, wD _ _ _⟩ | exact ⟨rfl, _, Eq.trans (wD _ _ _) (congrArg (World.drewN _) (Nat.add_assoc _ _ _))⟩)) | (go_at_call 11; (with_reducible refine (spec_l1In.calls a0_1 0 12 t150 _ A9.out).mono ?_); rintro e w' ⟨rfl, ⟨nd, rfl⟩⟩; (try first | exact ⟨rfl, _, wD _ _ _⟩ | exact ⟨rfl, _, Eq.trans (wD _ _ _) (congrArg (World.drewN _) (Nat.add_assoc _ _ _))⟩)))));(go_meet)
    case rel => exact ⟨_, (!t150), (by first | rfl | (simp; done) | (simp [*]; done)), H', ⟨by first | omega | exact Nat.le_refl _⟩, ⟨by (with_reducible repeat (first | refine blk_drewN ?_ _ | refine blk_drew ?_ | refine blk_alloc ?_ _)); exact BK148.out⟩, ⟨by with_reducible repeat first | exact HB.out | apply pA | apply pN | apply p1 | refine pS ?_ GE148.out⟩⟩
   ·replace c8 := bE.mpr c8
    subst c8;rw [if_neg (show ¬ (false = true) by decide)] at H;have H' := AM H;clear H;obtain ⟨z11_0, z11_1, z11_2, z11_3⟩ := cells4 BK148.out
    go_wp2_with (first | (go_at_call 11; (with_reducible refine (spec_l1In.calls a0_0 1 2999 false _ A7.out).mono ?_); rintro e w' ⟨rfl, ⟨nd, rfl⟩⟩; (try first | exact ⟨rfl, _, wD _ _ _⟩ | exact ⟨rfl, _, Eq.trans (wD _ _ _) (congrArg (World.drewN _) (Nat.add_assoc _ _ _))⟩)))
    (repeat (go_quiet (first | (go_at_call 11; (with_reducible refine (spec_l1In.calls a0_0 1 2999 false _ A7.out).mono ?_); rintro e w' ⟨rfl, ⟨nd, rfl⟩⟩; (try first | exact ⟨rfl, _, wD _ _ _⟩ | exact ⟨rfl, _, Eq.trans (wD _ _ _) (congrArg (World.drewN _) (Nat.add_assoc _ _ _))⟩))); try go_wp2_with (first | (go_at_call 11; (with_reducible refine (spec_l1In.calls a0_0 1 2999 false _ A7.out).mono ?_); rintro e w' ⟨rfl, ⟨nd, rfl⟩⟩; (try first | exact ⟨rfl, _, wD _ _ _⟩ | exact ⟨rfl, _, Eq.trans (wD _ _ _) (congrArg (World.drewN _) (Nat.add_assoc _ _ _))⟩)))));(go_meet)
    case rel => exact ⟨_, (true), (by first | rfl | (simp; done) | (simp [*]; done)), H', ⟨by first | omega | exact Nat.le_refl _⟩, ⟨by (with_reducible repeat (first | refine blk_drewN ?_ _ | refine blk_drew ?_ | refine blk_alloc ?_ _)); exact BK148.out⟩, ⟨by with_reducible repeat first | exact HB.out | apply pA | apply pN | apply p1 | refine pS ?_ GE148.out⟩⟩
  case rest =>
   clear HC6;(try clear c2);(try clear p2);(try clear c5);(try clear c5b0);(try clear c5b1);(try clear c5b2);(try clear c8);(try clear z10_0);(try clear z10_1);(try clear z10_2);(try clear z10_3);(try clear z11_0);(try clear z11_1);(try clear z11_2);(try clear z11_3);(try clear z4_0);(try clear z4_1);(try clear z4_2);(try clear z4_3);obtain ⟨kq, x7_5, rfl, HA, HJ5, BK148, HB⟩ := hcut
   cases kq with
   | zero => exact absurd HA.out (by simp [spec_l3Good.j0])
   | succ kj5 =>
    have H := HA.out;clear HA;simp only [spec_l3Good.j0] at H;by_cases c12 : x7_5 = true;(·subst c12;rw [if_pos rfl] at H;obtain rfl := oI H;(go_wp2);(repeat (go_quiet (fail); try go_wp2));(go_ret);exact ⟨rfl, by with_reducible repeat first | exact HB.out | apply pA | apply pN | apply p1 | refine pS ?_ GE148.out⟩)
    ·replace c12 := bE.mpr c12
     subst c12;rw [if_neg (show ¬ (false = true) by decide)] at H;by_cases c13 : a0_3 = true;(·subst c13;rw [if_pos rfl] at H;by_cases c14 : a0_1 = 0;(·rw [if_pos c14] at H;have c14b0 : (a0_1 == 0) = true := beq_iff_eq.mpr c14;have c14b1 : (a0_1 != 0) = false := bne_eq_false_iff_eq.mpr c14;clear c14;obtain rfl := oI H;obtain ⟨z15_0, z15_1, z15_2, z15_3⟩ := cells4 BK148.out;(go_wp2);(repeat (go_quiet (fail); try go_wp2));(go_ret);exact ⟨rfl, by with_reducible repeat first | exact HB.out | apply pA | apply pN | apply p1 | refine pS ?_ GE148.out⟩);(·rw [if_neg c14] at H;have c14b0 : (a0_1 == 0) = false := beq_eq_false_iff_ne.mpr c14;have c14b1 : (a0_1 != 0) = true := bne_iff_ne.mpr c14;obtain rfl := oI H;obtain ⟨z16_0, z16_1, z16_2, z16_3⟩ := cells4 BK148.out;(go_wp2);(repeat (go_quiet (fail); try go_wp2));(go_ret);exact ⟨rfl, by with_reducible repeat first | exact HB.out | apply pA | apply pN | apply p1 | refine pS ?_ GE148.out⟩))
     ·replace c13 := bE.mpr c13
      subst c13;rw [if_neg (show ¬ (false = true) by decide)] at H;by_cases c17 : a0_1 = 0;(·rw [if_pos c17] at H;have c17b0 : (a0_1 == 0) = true := beq_iff_eq.mpr c17;have c17b1 : (a0_1 != 0) = false := bne_eq_false_iff_eq.mpr c17;clear c17;obtain rfl := oI H;obtain ⟨z18_0, z18_1, z18_2, z18_3⟩ := cells4 BK148.out;(go_wp2);(repeat (go_quiet (fail); try go_wp2));(go_ret);exact ⟨rfl, by with_reducible repeat first | exact HB.out | apply pA | apply pN | apply p1 | refine pS ?_ GE148.out⟩)
      ·rw [if_neg c17] at H
       have c17b0 : (a0_1 == 0) = false := beq_eq_false_iff_ne.mpr c17;have c17b1 : (a0_1 != 0) = true := bne_iff_ne.mpr c17;replace H := oB.mp H;obtain ⟨t151, A190, H⟩ := H;(try dsimp only at H);have A19 := AM A190;clear A190;replace H := oB.mp H;obtain ⟨t152, A200, H⟩ := H;(try dsimp only at H);have A20 := AM A200;clear A200;obtain rfl := oI H;obtain ⟨z21_0, z21_1, z21_2, z21_3⟩ := cells4 BK148.out
       go_wp2_with (first | (go_at_call 49; (with_reducible refine (spec_l3Days.calls kj5 a0_0 a0_1 t151 _ A19.out).mono ?_); rintro e w' ⟨rfl, ⟨nd, rfl⟩⟩; (try first | exact ⟨rfl, _, wD _ _ _⟩ | exact ⟨rfl, _, Eq.trans (wD _ _ _) (congrArg (World.drewN _) (Nat.add_assoc _ _ _))⟩)) | (go_at_call 11; (with_reducible refine (spec_l1In.calls a0_2 0 t151 t152 _ A20.out).mono ?_); rintro e w' ⟨rfl, ⟨nd, rfl⟩⟩; (try first | exact ⟨rfl, _, wD _ _ _⟩ | exact ⟨rfl, _, Eq.trans (wD _ _ _) (congrArg (World.drewN _) (Nat.add_assoc _ _ _))⟩)))
       (repeat (go_quiet (first | (go_at_call 49; (with_reducible refine (spec_l3Days.calls kj5 a0_0 a0_1 t151 _ A19.out).mono ?_); rintro e w' ⟨rfl, ⟨nd, rfl⟩⟩; (try first | exact ⟨rfl, _, wD _ _ _⟩ | exact ⟨rfl, _, Eq.trans (wD _ _ _) (congrArg (World.drewN _) (Nat.add_assoc _ _ _))⟩)) | (go_at_call 11; (with_reducible refine (spec_l1In.calls a0_2 0 t151 t152 _ A20.out).mono ?_); rintro e w' ⟨rfl, ⟨nd, rfl⟩⟩; (try first | exact ⟨rfl, _, wD _ _ _⟩ | exact ⟨rfl, _, Eq.trans (wD _ _ _) (congrArg (World.drewN _) (Nat.add_assoc _ _ _))⟩))); try go_wp2_with (first | (go_at_call 49; (with_reducible refine (spec_l3Days.calls kj5 a0_0 a0_1 t151 _ A19.out).mono ?_); rintro e w' ⟨rfl, ⟨nd, rfl⟩⟩; (try first | exact ⟨rfl, _, wD _ _ _⟩ | exact ⟨rfl, _, Eq.trans (wD _ _ _) (congrArg (World.drewN _) (Nat.add_assoc _ _ _))⟩)) | (go_at_call 11; (with_reducible refine (spec_l1In.calls a0_2 0 t151 t152 _ A20.out).mono ?_); rintro e w' ⟨rfl, ⟨nd, rfl⟩⟩; (try first | exact ⟨rfl, _, wD _ _ _⟩ | exact ⟨rfl, _, Eq.trans (wD _ _ _) (congrArg (World.drewN _) (Nat.add_assoc _ _ _))⟩)))));(go_ret);exact ⟨rfl, by with_reducible repeat first | exact HB.out | apply pA | apply pN | apply p1 | refine pS ?_ GE148.out⟩
end Go.Proofs.YthcccgnhokncdaaGreatDoor.Px
