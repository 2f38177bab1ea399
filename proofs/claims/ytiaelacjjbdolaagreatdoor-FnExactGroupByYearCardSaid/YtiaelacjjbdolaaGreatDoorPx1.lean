/- Calls of Go functions come to what the Lean functions beside them say; written by a program of this session (wip/xprint); no conditions. -/
import Derived.Test.YtiaelacjjbdolaaGreatDoorPx0
namespace Go.Proofs.YtiaelacjjbdolaaGreatDoor.Px
open Go.RowKit Go.Proofs.YtiaelacjjbdolaaGreatDoorW.PrintWords Go.Proofs.YtiaelacjjbdolaaGreatDoorW.PrintLast Go.Proofs.YtiaelacjjbdolaaGreatDoorW.PrintMore
open Go.IntKind renaming i64 -> iK
open Go.Ending renaming returned -> eR
open Go.Value renaming string -> vS, slice -> vL, int -> vI, bool -> vB
open Go.Proofs.YtiaelacjjbdolaaGreatDoorW.PrintWords renaming pw_below_drewN -> pN, below_drew1 -> p1, below_alloc -> pA, below_set -> pS, below_step -> bS, gate_callee -> gC, blk_drewN -> bN, blk_alloc -> bL, blk_drew -> bW, blk_below -> bB, below_size -> bZ, gate_dst -> gD, box_event -> gB, blk_cell -> bC
open Go.Proofs.YtiaelacjjbdolaaGreatDoorW.PrintWords.Aside0 renaming mk -> AM
open Go.Proofs.YtiaelacjjbdolaaGreatDoorW.PrintWords.Kd renaming C_alloc -> cA, C_drewN -> cN, C_drew -> cD, C_below -> cB, R_reads' -> rR, R_slice -> rS
open Option renaming bind_eq_some_iff -> oB
open Option.some renaming inj -> oI
open List renaming map_toArray -> mT, map_cons -> mC, map_nil -> mN, setIfInBounds_toArray -> lT, set_cons_zero -> lZ, set_cons_succ -> lS
open Go.Proofs.YtiaelacjjbdolaaGreatDoorW.PrintLast renaming goesL_ -> gL
open Bool renaming eq_false_iff -> bE
open Go.World renaming drewN_drewN -> wD
attribute [local go_sem] fm fj fO fF eV fa fg fh
set_option maxHeartbeats 8000000
set_option maxRecDepth 100000
set_option linter.unusedVariables false
set_option linter.unusedSimpArgs false
theorem eqA48 (d : Nat) (w : World) (x0 y0 : Int) (x1 y1 : Int) (x2 y2 : Int) (x3 y3 : Bool) :
    (Op.equalIn (d + 2) 48 (.agg #[.int .i64 x0, .int .i64 x1, .int .i64 x2, .bool x3]) (.agg #[.int .i64 y0, .int .i64 y1, .int .i64 y2, .bool y3])).run Tryz.prog w = .ok (x0 == y0 && (x1 == y1 && (x2 == y2 && (x3 == y3)))) w := by
  refine eqA_of Tryz.underlying48 (by kernel_rfl) ?_;refine iW (by rfl) (by go_simp; rfl) (by go_simp; rfl) (by go_simp) ?_;refine iW (by rfl) (by go_simp; rfl) (by go_simp; rfl) (by go_simp) ?_;refine iW (by rfl) (by go_simp; rfl) (by go_simp; rfl) (by go_simp) ?_;exact nc (by rfl) (by go_simp; rfl) (by go_simp; rfl) (by go_simp)
def cw.l0 : Nat -> List ByteArray -> Int -> Int -> Option (Int)
 | 0, _, _, _ => none
 | k + 1, x0, x1, x5 => if x5 < (x0.length : Int) then (if 0 <= x5 then (if (wrap64 (x1 - ((aC ByteArray.empty x0 x5).size : Int))) < 0 then (some (-1)) else (cw.l0 k x0 (wrap64 (x1 - ((aC ByteArray.empty x0 x5).size : Int))) (wrap64 (x5 + 1)))) else (none)) else (some x1)
def cw.f (k : Nat) (l0 : List ByteArray) (a1 : Int) : Option (Int) := if (wrap64 (a1 - (l0.length : Int))) < 0 then (some (-1)) else (cw.l0 k l0 (wrap64 (a1 - (l0.length : Int))) 0)
theorem cw.calls (k : Nat) (A0 : Option Addr) (c0 : Nat) (l0 : List ByteArray) (a1 r : Int) (w : World) (hr0 : Kd.C Kd.string w A0 l0.length l0) (hc0 : l0.length <= c0) (h : cw.f k l0 a1 = some r) :
  Calls Tryz.prog 129 #[vL A0 l0.length c0, vI iK a1] w fun e w' => e = eR (vI iK r) /\ aT w w' := by
 have HR0 := AM hr0;have HC0 := AM hc0;clear hr0 hc0;have H := h;unfold cw.f at H;clear h;by_cases c3 : (wrap64 (a1 - (l0.length : Int))) < 0;(·rw [if_pos c3] at H;have c3b0 := dT c3;clear c3;obtain rfl := oI H;(go_enter Tryz.func129, Tryz.ntmps129);(go_wp2);(go_ret);exact ⟨rf, dR⟩)
 ·rw [if_neg c3] at H
  have c3b0 := dF c3;clear c3;have H' := AM H;clear H;(go_enter Tryz.func129, Tryz.ntmps129);(go_wp2);(go_loopg [1, 5] k (fun kq v1 v5 w' => ∃ (x1_1 x5_1 : Int), v1 = vI iK x1_1 /\ v5 = vI iK x5_1 /\ Aside0 (cw.l0 kq l0 x1_1 x5_1 = some r) /\ Aside0 (kq <= k) /\ aT w w'))
  case atStart => exact ⟨(wrap64 (a1 - (l0.length : Int))), (0), rf, rf, H', ⟨Nat.le_refl _⟩, dR⟩
  case round =>
   clear H';obtain ⟨x1_1, x5_1, rfl, rfl, HA, HK1, ⟨m1, rfl⟩⟩ := hrel
   cases gk with
   | zero => exact absurd HA.out (by simp [cw.l0])
   | succ k1 =>
    have H := HA.out;clear HA;simp only [cw.l0] at H;by_cases c4 : x5_1 < (l0.length : Int)
    ·rw [if_pos c4] at H
     have c4b0 := dT c4;clear c4;obtain ⟨c5, H⟩ := nI H;have c5b0 := dT c5;clear c5;by_cases c6 : (wrap64 (x1_1 - ((aC ByteArray.empty l0 x5_1).size : Int))) < 0;(·rw [if_pos c6] at H;have c6b0 := dT c6;clear c6;obtain rfl := oI H;have p101 := pz x5_1;have q101 := qz x5_1 (l0.length : Int);obtain ⟨ad101, e101, hx101_0⟩ := Kd.at_string HR0.out x5_1 p101 q101;cases e101;replace p101 := eq_true p101;replace q101 := eq_true q101;(go_wp2);(go_ret);exact ⟨rf, dR⟩)
     ·rw [if_neg c6] at H
      have c6b0 := dF c6;clear c6;have H' := AM H;clear H;have p101 := pz x5_1;have q101 := qz x5_1 (l0.length : Int);obtain ⟨ad101, e101, hx101_0⟩ := Kd.at_string HR0.out x5_1 p101 q101;cases e101;replace p101 := eq_true p101;replace q101 := eq_true q101;(go_wp2);(go_roundg k1)
      case measure => have := HK1.out; omega
      case rel => exact ⟨(wrap64 (x1_1 - ((aC ByteArray.empty l0 x5_1).size : Int))), (wrap64 (x5_1 + 1)), rf, rf, H', ⟨by have := HK1.out; omega⟩, dR⟩
    ·rw [if_neg c4] at H
     have c4b0 := dF c4;clear c4;obtain rfl := oI H;(go_wp2);(go_ret);exact ⟨rf, dR⟩
def ev.f (k : Nat) (l0_0 : List ByteArray) (a0_1 a0_2 a0_3 : ByteArray) (a1 : Int) : Option (Int) := (cw.f k l0_0 a1).bind fun t103 => (if t103 < 0 then (some (-1)) else (if (wrap64 (t103 - (a0_1.size : Int))) < 0 then (some (-1)) else (if (wrap64 ((wrap64 (t103 - (a0_1.size : Int))) - (a0_2.size : Int))) < 0 then (some (-1)) else (if (wrap64 ((wrap64 ((wrap64 (t103 - (a0_1.size : Int))) - (a0_2.size : Int))) - (a0_3.size : Int))) < 0 then (some (-1)) else (some (wrap64 ((wrap64 ((wrap64 (t103 - (a0_1.size : Int))) - (a0_2.size : Int))) - (a0_3.size : Int))))))))
theorem ev.calls (k : Nat) (A0_0 : Option Addr) (c0_0 : Nat) (l0_0 : List ByteArray) (a0_1 a0_2 a0_3 : ByteArray) (a1 r : Int) (w : World) (hr0_0 : Kd.C Kd.string w A0_0 l0_0.length l0_0) (hc0_0 : l0_0.length <= c0_0) (h : ev.f k l0_0 a0_1 a0_2 a0_3 a1 = some r) :
  Calls Tryz.prog 92 #[.agg #[vL A0_0 l0_0.length c0_0, vS a0_1, vS a0_2, vS a0_3], vI iK a1] w fun e w' => e = eR (vI iK r) /\ Below w.heap.size w w' := by
 have hu113 := Tryz.underlying113;have HR0_0 := AM hr0_0;have HC0_0 := AM hc0_0;clear hr0_0 hc0_0;have HB := AM (Below.refl w.heap.size w);have H := h;unfold ev.f at H;clear h;obtain ⟨t103, A3, H⟩ := oA H;have HC4 := AM H;clear H;(go_enter Tryz.func92, Tryz.ntmps92)
 go_upto_if 10 with (first | ((with_reducible refine gate_dst (N := 2) rfl ?_); refine bY w 2 (#[vL A0_0 l0_0.length c0_0, vS a0_1, vS a0_2, vS a0_3]) 113 ?_; clear HB; intro gb102 w5 BK102 GW102 HB; obtain ⟨_,_,_,_⟩ := ar BK102.out) | (refine gN (some 8) Tryz.func129 #[vL A0_0 l0_0.length c0_0, vI iK a1] (cw.calls k _ _ l0_0 a1 t103 _ (cX HR0_0) HC0_0.out A3.out) ?_; intro nd))
 (try (rw [eL w5]; generalize hq_ : World.drewN w5 _ = w5; have n0_ : Aside0 (w5.heap[gb102]? = some (.cells #[vL A0_0 l0_0.length c0_0, vS a0_1, vS a0_2, vS a0_3] 113 (0, 0))) := ⟨by rw [<- hq_]; exact (by (with_reducible repeat first | apply blk_drewN | apply blk_drew | apply blk_alloc); exact BK102.out)⟩; have n1_ : Aside0 (Below w.heap.size w w5) := ⟨by rw [<- hq_]; exact bb⟩; clear BK102 HB hq_; have BK102 := n0_; have HB := n1_; clear n0_ n1_));have H := HC4.out;clear HC4;by_cases c7 : t103 < 0;(·rw [if_pos c7] at H;have c7b0 := dT c7;clear c7;(first | rw [c7b0] | (simp only [aq, aA]; rw [c7b0]) | skip);obtain rfl := oI H;(go_wp2);(go_ret);exact ⟨rfl, bb⟩);(·rw [if_neg c7] at H;have c7b0 := dF c7;clear c7;(first | rw [c7b0] | (simp only [aq, aA]; rw [c7b0]) | skip);by_cases c8 : (wrap64 (t103 - (a0_1.size : Int))) < 0;(·rw [if_pos c8] at H;have c8b0 := dT c8;clear c8;obtain rfl := oI H;obtain ⟨_,_,_,_⟩ := ar BK102.out;(go_wp2);(go_ret);exact ⟨rfl, bb⟩);(·rw [if_neg c8] at H;have c8b0 := dF c8;clear c8;by_cases c10 : (wrap64 ((wrap64 (t103 - (a0_1.size : Int))) - (a0_2.size : Int))) < 0;(·rw [if_pos c10] at H;have c10b0 := dT c10;clear c10;obtain rfl := oI H;obtain ⟨_,_,_,_⟩ := ar BK102.out;(go_wp2);(go_ret);exact ⟨rfl, bb⟩);(·rw [if_neg c10] at H;have c10b0 := dF c10;clear c10;by_cases c12 : (wrap64 ((wrap64 ((wrap64 (t103 - (a0_1.size : Int))) - (a0_2.size : Int))) - (a0_3.size : Int))) < 0;(·rw [if_pos c12] at H;have c12b0 := dT c12;clear c12;obtain rfl := oI H;obtain ⟨_,_,_,_⟩ := ar BK102.out;(go_wp2);(go_ret);exact ⟨rfl, bb⟩);(·rw [if_neg c12] at H;have c12b0 := dF c12;clear c12;obtain rfl := oI H;obtain ⟨_,_,_,_⟩ := ar BK102.out;(go_wp2);(go_ret);exact ⟨rfl, bb⟩))))
def cy.l0 : Nat -> List (eM) -> Int -> Int -> Option (Int)
 | 0, _, _, _ => none
 | k + 1, x0, x1, x5 => if x5 < (x0.length : Int) then (if 0 <= x5 then ((ev.f k ((cx x0 x5).f0) ((cx x0 x5).f1) ((cx x0 x5).f2) ((cx x0 x5).f3) x1).bind fun t105 => (if t105 < 0 then (some (-1)) else (cy.l0 k x0 t105 (wrap64 (x5 + 1))))) else (none)) else (some x1)
def cy.f (k : Nat) (l0 : List (eM)) (a1 : Int) : Option (Int) := if (wrap64 (a1 - (l0.length : Int))) < 0 then (some (-1)) else (cy.l0 k l0 (wrap64 (a1 - (l0.length : Int))) 0)
theorem cy.calls (k : Nat) (A0 : Option Addr) (c0 : Nat) (l0 : List (eM)) (a1 r : Int) (w : World) (hr0 : Kd.C fu w A0 l0.length l0) (hc0 : l0.length <= c0) (h : cy.f k l0 a1 = some r) :
  Calls Tryz.prog 47 #[vL A0 l0.length c0, vI iK a1] w fun e w' => e = eR (vI iK r) /\ Below w.heap.size w w' := by
 have hu113 := Tryz.underlying113;have HR0 := AM hr0;have HC0 := AM hc0;clear hr0 hc0;have HB := AM (Below.refl w.heap.size w);have H := h;unfold cy.f at H;clear h;by_cases c3 : (wrap64 (a1 - (l0.length : Int))) < 0;(·rw [if_pos c3] at H;have c3b0 := dT c3;clear c3;obtain rfl := oI H;(go_enter Tryz.func47, Tryz.ntmps47);(go_wp2);(go_ret);exact ⟨rfl, bb⟩)
 ·rw [if_neg c3] at H
  have c3b0 := dF c3;clear c3;have H' := AM H;clear H;(go_enter Tryz.func47, Tryz.ntmps47);(go_wp2);(go_loopg [1, 5] k (fun kq v1 v5 w' => ∃ (x1_1 x5_1 : Int), v1 = vI iK x1_1 /\ v5 = vI iK x5_1 /\ Aside0 (cy.l0 kq l0 x1_1 x5_1 = some r) /\ Aside0 (kq <= k) /\ Aside0 (Below w.heap.size w w')))
  case atStart => exact ⟨(wrap64 (a1 - (l0.length : Int))), (0), rf, rf, H', ⟨Nat.le_refl _⟩, ⟨bb⟩⟩
  case round =>
   clear H';obtain ⟨x1_1, x5_1, rfl, rfl, HA, HK1, HB⟩ := hrel
   cases gk with
   | zero => exact absurd HA.out (by simp [cy.l0])
   | succ k1 =>
    have H := HA.out;clear HA;simp only [cy.l0] at H;by_cases c4 : x5_1 < (l0.length : Int)
    ·rw [if_pos c4] at H
     have c4b0 := dT c4;clear c4;obtain ⟨c5, H⟩ := nI H;have c5b0 := dT c5;clear c5;obtain ⟨t105, A6, H⟩ := oA H;by_cases c7 : t105 < 0
     ·rw [if_pos c7] at H
      have c7b0 := dT c7;clear c7;obtain rfl := oI H;have p104 := pz x5_1;have q104 := qz x5_1 (l0.length : Int);obtain ⟨ad104, A104_0, c104_0, e104, hx104_0, hx104_1, hx104_2, hx104_3, hl104_0, hi104_0⟩ := jG HR0.out x5_1 p104 q104;cases e104;replace hx104_0 := cU hx104_0;replace hx104_1 := cU hx104_1;replace hx104_2 := cU hx104_2;replace hx104_3 := cU hx104_3;have HR104_0 := AM hi104_0;have HC104_0 := AM hl104_0;clear hi104_0 hl104_0;replace p104 := eq_true p104;replace q104 := eq_true q104
      go_wp2_with (first | (refine gZ (some 23) Tryz.func92 #[.agg #[vL A104_0 ((cx l0 x5_1).f0).length c104_0, vS ((cx l0 x5_1).f1), vS ((cx l0 x5_1).f2), vS ((cx l0 x5_1).f3)], vI iK x1_1] (ev.calls k1 _ _ ((cx l0 x5_1).f0) ((cx l0 x5_1).f1) ((cx l0 x5_1).f2) ((cx l0 x5_1).f3) x1_1 t105 _ (cX HR104_0) HC104_0.out A6.out) ?_; intro w8 hb; replace HB := bH hb; (try clear hb)))
      (go_ret);exact ⟨rfl, bb⟩
     ·rw [if_neg c7] at H
      have c7b0 := dF c7;clear c7;have H' := AM H;clear H;have p104 := pz x5_1;have q104 := qz x5_1 (l0.length : Int);obtain ⟨ad104, A104_0, c104_0, e104, hx104_0, hx104_1, hx104_2, hx104_3, hl104_0, hi104_0⟩ := jG HR0.out x5_1 p104 q104;cases e104;replace hx104_0 := cU hx104_0;replace hx104_1 := cU hx104_1;replace hx104_2 := cU hx104_2;replace hx104_3 := cU hx104_3;have HR104_0 := AM hi104_0;have HC104_0 := AM hl104_0;clear hi104_0 hl104_0;replace p104 := eq_true p104;replace q104 := eq_true q104
      go_wp2_with (first | (refine gZ (some 23) Tryz.func92 #[.agg #[vL A104_0 ((cx l0 x5_1).f0).length c104_0, vS ((cx l0 x5_1).f1), vS ((cx l0 x5_1).f2), vS ((cx l0 x5_1).f3)], vI iK x1_1] (ev.calls k1 _ _ ((cx l0 x5_1).f0) ((cx l0 x5_1).f1) ((cx l0 x5_1).f2) ((cx l0 x5_1).f3) x1_1 t105 _ (cX HR104_0) HC104_0.out A6.out) ?_; intro w9 hb; replace HB := bH hb; (try clear hb)))
      go_roundg k1
      case measure => have := HK1.out; omega
      case rel => exact ⟨(t105), (wrap64 (x5_1 + 1)), rf, rf, H', ⟨by have := HK1.out; omega⟩, ⟨bb⟩⟩
    ·rw [if_neg c4] at H
     have c4b0 := dF c4;clear c4;obtain rfl := oI H;(go_wp2);(go_ret);exact ⟨rfl, bb⟩
def eh.f (k : Nat) (a0_0 : ByteArray) (a0_1 : Int) (l0_2 : List (eM)) (l0_3 : List (eM)) (a0_4 a0_5 a0_6 : ByteArray) (a0_7 a0_8 a0_9 : Int) (a0_10 : Bool) (a0_11 : Int) (a0_12 a0_13 : ByteArray) (a1 : Int) : Option (Int) := if (wrap64 (a1 - (a0_0.size : Int))) < 0 then (some (-1)) else ((cy.f k l0_2 (wrap64 (a1 - (a0_0.size : Int)))).bind fun t107 => (if t107 < 0 then (some (-1)) else ((cy.f k l0_3 t107).bind fun t108 => (if t108 < 0 then (some (-1)) else (if (wrap64 (t108 - (a0_4.size : Int))) < 0 then (some (-1)) else (if (wrap64 ((wrap64 (t108 - (a0_4.size : Int))) - (a0_5.size : Int))) < 0 then (some (-1)) else (if (wrap64 ((wrap64 ((wrap64 (t108 - (a0_4.size : Int))) - (a0_5.size : Int))) - (a0_6.size : Int))) < 0 then (some (-1)) else (if (wrap64 ((wrap64 ((wrap64 ((wrap64 (t108 - (a0_4.size : Int))) - (a0_5.size : Int))) - (a0_6.size : Int))) - (a0_12.size : Int))) < 0 then (some (-1)) else (if (wrap64 ((wrap64 ((wrap64 ((wrap64 ((wrap64 (t108 - (a0_4.size : Int))) - (a0_5.size : Int))) - (a0_6.size : Int))) - (a0_12.size : Int))) - (a0_13.size : Int))) < 0 then (some (-1)) else (some (wrap64 ((wrap64 ((wrap64 ((wrap64 ((wrap64 (t108 - (a0_4.size : Int))) - (a0_5.size : Int))) - (a0_6.size : Int))) - (a0_12.size : Int))) - (a0_13.size : Int)))))))))))))
theorem eh.calls (k : Nat) (a0_0 : ByteArray) (a0_1 : Int) (A0_2 : Option Addr) (c0_2 : Nat) (l0_2 : List (eM)) (A0_3 : Option Addr) (c0_3 : Nat) (l0_3 : List (eM)) (a0_4 a0_5 a0_6 : ByteArray) (a0_7 a0_8 a0_9 : Int) (a0_10 : Bool) (a0_11 : Int) (a0_12 a0_13 : ByteArray) (a1 r : Int) (w : World) (hr0_2 : Kd.C fu w A0_2 l0_2.length l0_2) (hc0_2 : l0_2.length <= c0_2) (hr0_3 : Kd.C fu w A0_3 l0_3.length l0_3) (hc0_3 : l0_3.length <= c0_3) (h : eh.f k a0_0 a0_1 l0_2 l0_3 a0_4 a0_5 a0_6 a0_7 a0_8 a0_9 a0_10 a0_11 a0_12 a0_13 a1 = some r) :
  Calls Tryz.prog 33 #[.agg #[vS a0_0, vI iK a0_1, vL A0_2 l0_2.length c0_2, vL A0_3 l0_3.length c0_3, vS a0_4, vS a0_5, vS a0_6, vI iK a0_7, vI iK a0_8, vI iK a0_9, .bool a0_10, vI iK a0_11, vS a0_12, vS a0_13], vI iK a1] w fun e w' => e = eR (vI iK r) /\ Below w.heap.size w w' := by
 have hu64 := Tryz.underlying64;have HR0_2 := AM hr0_2;have HC0_2 := AM hc0_2;clear hr0_2 hc0_2;have HR0_3 := AM hr0_3;have HC0_3 := AM hc0_3;clear hr0_3 hc0_3;have HB := AM (Below.refl w.heap.size w);have H := h;unfold eh.f at H;clear h;have HC3 := AM H;clear H;(go_enter Tryz.func33, Tryz.ntmps33)
 go_upto_if 11 with (first | ((with_reducible refine gate_dst (N := 2) rfl ?_); refine bY w 2 (#[vS a0_0, vI iK a0_1, vL A0_2 l0_2.length c0_2, vL A0_3 l0_3.length c0_3, vS a0_4, vS a0_5, vS a0_6, vI iK a0_7, vI iK a0_8, vI iK a0_9, .bool a0_10, vI iK a0_11, vS a0_12, vS a0_13]) 64 ?_; clear HB; intro gb106 w4 BK106 GW106 HB; obtain ⟨_,_,_,_,_,_,_,_,_,_,_,_,_,_⟩ := ao BK106.out))
 have H := HC3.out;clear HC3;by_cases c6 : (wrap64 (a1 - (a0_0.size : Int))) < 0;(·rw [if_pos c6] at H;have c6b0 := dT c6;clear c6;(first | rw [c6b0] | (simp only [aq, aA]; rw [c6b0]) | skip);obtain rfl := oI H;(go_wp2);(go_ret);exact ⟨rfl, bb⟩)
 ·rw [if_neg c6] at H
  have c6b0 := dF c6;clear c6;(first | rw [c6b0] | (simp only [aq, aA]; rw [c6b0]) | skip);obtain ⟨t107, A7, H⟩ := oA H;by_cases c8 : t107 < 0
  ·rw [if_pos c8] at H
   have c8b0 := dT c8;clear c8;obtain rfl := oI H;obtain ⟨_,_,_,_,_,_,_,_,_,_,_,_,_,_⟩ := ao BK106.out
   go_wp2_with (first | (refine gZ (some 15) Tryz.func47 #[vL A0_2 l0_2.length c0_2, vI iK (wrap64 (a1 - (a0_0.size : Int)))] (cy.calls k _ _ l0_2 (wrap64 (a1 - (a0_0.size : Int))) t107 _ (cX HR0_2) HC0_2.out A7.out) ?_; intro w10 hb; replace BK106 := bK BK106 hb; replace HB := bH hb; (try clear hb)))
   (go_ret);exact ⟨rfl, bb⟩
  ·rw [if_neg c8] at H
   have c8b0 := dF c8;clear c8;obtain ⟨t108, A11, H⟩ := oA H;have HC12 := AM H;clear H;obtain ⟨_,_,_,_,_,_,_,_,_,_,_,_,_,_⟩ := ao BK106.out
   go_upto_if 23 with (first | (refine gZ (some 15) Tryz.func47 #[vL A0_2 l0_2.length c0_2, vI iK (wrap64 (a1 - (a0_0.size : Int)))] (cy.calls k _ _ l0_2 (wrap64 (a1 - (a0_0.size : Int))) t107 _ (cX HR0_2) HC0_2.out A7.out) ?_; intro w14 hb; replace BK106 := bK BK106 hb; replace HB := bH hb; (try clear hb); obtain ⟨_,_,_,_,_,_,_,_,_,_,_,_,_,_⟩ := ao BK106.out) | (refine gZ (some 21) Tryz.func47 #[vL A0_3 l0_3.length c0_3, vI iK t107] (cy.calls k _ _ l0_3 t107 t108 _ (cX HR0_3) HC0_3.out A11.out) ?_; intro w16 hb; replace BK106 := bK BK106 hb; replace HB := bH hb; (try clear hb)))
   have H := HC12.out;clear HC12;by_cases c17 : t108 < 0;(·rw [if_pos c17] at H;have c17b0 := dT c17;clear c17;(first | rw [c17b0] | (simp only [aq, aA]; rw [c17b0]) | skip);obtain rfl := oI H;(go_wp2);(go_ret);exact ⟨rfl, bb⟩);(·rw [if_neg c17] at H;have c17b0 := dF c17;clear c17;(first | rw [c17b0] | (simp only [aq, aA]; rw [c17b0]) | skip);by_cases c18 : (wrap64 (t108 - (a0_4.size : Int))) < 0;(·rw [if_pos c18] at H;have c18b0 := dT c18;clear c18;obtain rfl := oI H;obtain ⟨_,_,_,_,_,_,_,_,_,_,_,_,_,_⟩ := ao BK106.out;(go_wp2);(go_ret);exact ⟨rfl, bb⟩);(·rw [if_neg c18] at H;have c18b0 := dF c18;clear c18;by_cases c20 : (wrap64 ((wrap64 (t108 - (a0_4.size : Int))) - (a0_5.size : Int))) < 0;(·rw [if_pos c20] at H;have c20b0 := dT c20;clear c20;obtain rfl := oI H;obtain ⟨_,_,_,_,_,_,_,_,_,_,_,_,_,_⟩ := ao BK106.out;(go_wp2);(go_ret);exact ⟨rfl, bb⟩);(·rw [if_neg c20] at H;have c20b0 := dF c20;clear c20;by_cases c22 : (wrap64 ((wrap64 ((wrap64 (t108 - (a0_4.size : Int))) - (a0_5.size : Int))) - (a0_6.size : Int))) < 0;(·rw [if_pos c22] at H;have c22b0 := dT c22;clear c22;obtain rfl := oI H;obtain ⟨_,_,_,_,_,_,_,_,_,_,_,_,_,_⟩ := ao BK106.out;(go_wp2);(go_ret);exact ⟨rfl, bb⟩);(·rw [if_neg c22] at H;have c22b0 := dF c22;clear c22;by_cases c24 : (wrap64 ((wrap64 ((wrap64 ((wrap64 (t108 - (a0_4.size : Int))) - (a0_5.size : Int))) - (a0_6.size : Int))) - (a0_12.size : Int))) < 0;(·rw [if_pos c24] at H;have c24b0 := dT c24;clear c24;obtain rfl := oI H;obtain ⟨_,_,_,_,_,_,_,_,_,_,_,_,_,_⟩ := ao BK106.out;(go_wp2);(go_ret);exact ⟨rfl, bb⟩);(·rw [if_neg c24] at H;have c24b0 := dF c24;clear c24;by_cases c26 : (wrap64 ((wrap64 ((wrap64 ((wrap64 ((wrap64 (t108 - (a0_4.size : Int))) - (a0_5.size : Int))) - (a0_6.size : Int))) - (a0_12.size : Int))) - (a0_13.size : Int))) < 0;(·rw [if_pos c26] at H;have c26b0 := dT c26;clear c26;obtain rfl := oI H;obtain ⟨_,_,_,_,_,_,_,_,_,_,_,_,_,_⟩ := ao BK106.out;(go_wp2);(go_ret);exact ⟨rfl, bb⟩);(·rw [if_neg c26] at H;have c26b0 := dF c26;clear c26;obtain rfl := oI H;obtain ⟨_,_,_,_,_,_,_,_,_,_,_,_,_,_⟩ := ao BK106.out;(go_wp2);(go_ret);exact ⟨rfl, bb⟩))))))
def cK.l0 : Nat -> List (S64) -> Int -> Int -> Option (Int)
 | 0, _, _, _ => none
 | k + 1, x0, x1, x5 => if x5 < (x0.length : Int) then (if 0 <= x5 then ((eh.f k ((al x0 x5).f0) ((al x0 x5).f1) ((al x0 x5).f2) ((al x0 x5).f3) ((al x0 x5).f4) ((al x0 x5).f5) ((al x0 x5).f6) ((al x0 x5).f7.f0) ((al x0 x5).f7.f1) ((al x0 x5).f7.f2) ((al x0 x5).f7.f3) ((al x0 x5).f8) ((al x0 x5).f9) ((al x0 x5).f10) x1).bind fun t110 => (if t110 < 0 then (some (-1)) else (cK.l0 k x0 t110 (wrap64 (x5 + 1))))) else (none)) else (some x1)
def cK.f (k : Nat) (l0 : List (S64)) (a1 : Int) : Option (Int) := if (wrap64 (a1 - (l0.length : Int))) < 0 then (some (-1)) else (cK.l0 k l0 (wrap64 (a1 - (l0.length : Int))) 0)
theorem cK.calls (k : Nat) (A0 : Option Addr) (c0 : Nat) (l0 : List (S64)) (a1 r : Int) (w : World) (hr0 : Kd.C k64 w A0 l0.length l0) (hc0 : l0.length <= c0) (h : cK.f k l0 a1 = some r) :
  Calls Tryz.prog 16 #[vL A0 l0.length c0, vI iK a1] w fun e w' => e = eR (vI iK r) /\ Below w.heap.size w w' := by
 have hu64 := Tryz.underlying64;have HR0 := AM hr0;have HC0 := AM hc0;clear hr0 hc0;have HB := AM (Below.refl w.heap.size w);have H := h;unfold cK.f at H;clear h;by_cases c3 : (wrap64 (a1 - (l0.length : Int))) < 0;(·rw [if_pos c3] at H;have c3b0 := dT c3;clear c3;obtain rfl := oI H;(go_enter Tryz.func16, Tryz.ntmps16);(go_wp2);(go_ret);exact ⟨rfl, bb⟩)
 ·rw [if_neg c3] at H
  have c3b0 := dF c3;clear c3;have H' := AM H;clear H;(go_enter Tryz.func16, Tryz.ntmps16);(go_wp2);(go_loopg [1, 5] k (fun kq v1 v5 w' => ∃ (x1_1 x5_1 : Int), v1 = vI iK x1_1 /\ v5 = vI iK x5_1 /\ Aside0 (cK.l0 kq l0 x1_1 x5_1 = some r) /\ Aside0 (kq <= k) /\ Aside0 (Below w.heap.size w w')))
  case atStart => exact ⟨(wrap64 (a1 - (l0.length : Int))), (0), rf, rf, H', ⟨Nat.le_refl _⟩, ⟨bb⟩⟩
  case round =>
   clear H';obtain ⟨x1_1, x5_1, rfl, rfl, HA, HK1, HB⟩ := hrel
   cases gk with
   | zero => exact absurd HA.out (by simp [cK.l0])
   | succ k1 =>
    have H := HA.out;clear HA;simp only [cK.l0] at H;by_cases c4 : x5_1 < (l0.length : Int)
    ·rw [if_pos c4] at H
     have c4b0 := dT c4;clear c4;obtain ⟨c5, H⟩ := nI H;have c5b0 := dT c5;clear c5;obtain ⟨t110, A6, H⟩ := oA H;by_cases c7 : t110 < 0
     ·rw [if_pos c7] at H
      have c7b0 := dT c7;clear c7;obtain rfl := oI H;have p109 := pz x5_1;have q109 := qz x5_1 (l0.length : Int);obtain ⟨ad109, A109_2, c109_2, A109_3, c109_3, e109, hx109_0, hx109_1, hx109_2, hx109_3, hx109_4, hx109_5, hx109_6, hx109_7, hx109_8, hx109_9, hx109_10, hx109_11, hx109_12, hx109_13, hl109_2, hi109_2, hl109_3, hi109_3⟩ := kw HR0.out x5_1 p109 q109;cases e109;replace hx109_0 := cU hx109_0;replace hx109_1 := cU hx109_1;replace hx109_2 := cU hx109_2;replace hx109_3 := cU hx109_3;replace hx109_4 := cU hx109_4;replace hx109_5 := cU hx109_5;replace hx109_6 := cU hx109_6;replace hx109_7 := cU hx109_7;replace hx109_8 := cU hx109_8;replace hx109_9 := cU hx109_9;replace hx109_10 := cU hx109_10;replace hx109_11 := cU hx109_11;replace hx109_12 := cU hx109_12;replace hx109_13 := cU hx109_13;have HR109_2 := AM hi109_2;have HC109_2 := AM hl109_2;clear hi109_2 hl109_2;have HR109_3 := AM hi109_3;have HC109_3 := AM hl109_3;clear hi109_3 hl109_3;replace p109 := eq_true p109;replace q109 := eq_true q109
      go_wp2_with (first | (refine gZ (some 23) Tryz.func33 #[.agg #[vS ((al l0 x5_1).f0), vI iK ((al l0 x5_1).f1), vL A109_2 ((al l0 x5_1).f2).length c109_2, vL A109_3 ((al l0 x5_1).f3).length c109_3, vS ((al l0 x5_1).f4), vS ((al l0 x5_1).f5), vS ((al l0 x5_1).f6), vI iK ((al l0 x5_1).f7.f0), vI iK ((al l0 x5_1).f7.f1), vI iK ((al l0 x5_1).f7.f2), .bool ((al l0 x5_1).f7.f3), vI iK ((al l0 x5_1).f8), vS ((al l0 x5_1).f9), vS ((al l0 x5_1).f10)], vI iK x1_1] (eh.calls k1 ((al l0 x5_1).f0) ((al l0 x5_1).f1) _ _ ((al l0 x5_1).f2) _ _ ((al l0 x5_1).f3) ((al l0 x5_1).f4) ((al l0 x5_1).f5) ((al l0 x5_1).f6) ((al l0 x5_1).f7.f0) ((al l0 x5_1).f7.f1) ((al l0 x5_1).f7.f2) ((al l0 x5_1).f7.f3) ((al l0 x5_1).f8) ((al l0 x5_1).f9) ((al l0 x5_1).f10) x1_1 t110 _ (cX HR109_2) HC109_2.out (cX HR109_3) HC109_3.out A6.out) ?_; intro w8 hb; replace HB := bH hb; (try clear hb)))
      (go_ret);exact ⟨rfl, bb⟩
     ·rw [if_neg c7] at H
      have c7b0 := dF c7;clear c7;have H' := AM H;clear H;have p109 := pz x5_1;have q109 := qz x5_1 (l0.length : Int);obtain ⟨ad109, A109_2, c109_2, A109_3, c109_3, e109, hx109_0, hx109_1, hx109_2, hx109_3, hx109_4, hx109_5, hx109_6, hx109_7, hx109_8, hx109_9, hx109_10, hx109_11, hx109_12, hx109_13, hl109_2, hi109_2, hl109_3, hi109_3⟩ := kw HR0.out x5_1 p109 q109;cases e109;replace hx109_0 := cU hx109_0;replace hx109_1 := cU hx109_1;replace hx109_2 := cU hx109_2;replace hx109_3 := cU hx109_3;replace hx109_4 := cU hx109_4;replace hx109_5 := cU hx109_5;replace hx109_6 := cU hx109_6;replace hx109_7 := cU hx109_7;replace hx109_8 := cU hx109_8;replace hx109_9 := cU hx109_9;replace hx109_10 := cU hx109_10;replace hx109_11 := cU hx109_11;replace hx109_12 := cU hx109_12;replace hx109_13 := cU hx109_13;have HR109_2 := AM hi109_2;have HC109_2 := AM hl109_2;clear hi109_2 hl109_2;have HR109_3 := AM hi109_3;have HC109_3 := AM hl109_3;clear hi109_3 hl109_3;replace p109 := eq_true p109;replace q109 := eq_true q109
      go_wp2_with (first | (refine gZ (some 23) Tryz.func33 #[.agg #[vS ((al l0 x5_1).f0), vI iK ((al l0 x5_1).f1), vL A109_2 ((al l0 x5_1).f2).length c109_2, vL A109_3 ((al l0 x5_1).f3).length c109_3, vS ((al l0 x5_1).f4), vS ((al l0 x5_1).f5), vS ((al l0 x5_1).f6), vI iK ((al l0 x5_1).f7.f0), vI iK ((al l0 x5_1).f7.f1), vI iK ((al l0 x5_1).f7.f2), .bool ((al l0 x5_1).f7.f3), vI iK ((al l0 x5_1).f8), vS ((al l0 x5_1).f9), vS ((al l0 x5_1).f10)], vI iK x1_1] (eh.calls k1 ((al l0 x5_1).f0) ((al l0 x5_1).f1) _ _ ((al l0 x5_1).f2) _ _ ((al l0 x5_1).f3) ((al l0 x5_1).f4) ((al l0 x5_1).f5) ((al l0 x5_1).f6) ((al l0 x5_1).f7.f0) ((al l0 x5_1).f7.f1) ((al l0 x5_1).f7.f2) ((al l0 x5_1).f7.f3) ((al l0 x5_1).f8) ((al l0 x5_1).f9) ((al l0 x5_1).f10) x1_1 t110 _ (cX HR109_2) HC109_2.out (cX HR109_3) HC109_3.out A6.out) ?_; intro w9 hb; replace HB := bH hb; (try clear hb)))
      go_roundg k1
      case measure => have := HK1.out; omega
      case rel => exact ⟨(t110), (wrap64 (x5_1 + 1)), rf, rf, H', ⟨by have := HK1.out; omega⟩, ⟨bb⟩⟩
    ·rw [if_neg c4] at H
     have c4b0 := dF c4;clear c4;obtain rfl := oI H;(go_wp2);(go_ret);exact ⟨rfl, bb⟩
def et.f (k : Nat) (l0_0 : List (S64)) (a1 : Int) : Option (Int) := (cK.f k l0_0 a1).bind fun t112 => (if t112 < 0 then (some (-1)) else (some t112))
theorem et.calls (k : Nat) (A0_0 : Option Addr) (c0_0 : Nat) (l0_0 : List (S64)) (a1 r : Int) (w : World) (hr0_0 : Kd.C k64 w A0_0 l0_0.length l0_0) (hc0_0 : l0_0.length <= c0_0) (h : et.f k l0_0 a1 = some r) :
  Calls Tryz.prog 4 #[.agg #[vL A0_0 l0_0.length c0_0], vI iK a1] w fun e w' => e = eR (vI iK r) /\ Below w.heap.size w w' := by
 have hu24 := Tryz.underlying24;have HR0_0 := AM hr0_0;have HC0_0 := AM hc0_0;clear hr0_0 hc0_0;have HB := AM (Below.refl w.heap.size w);have H := h;unfold et.f at H;clear h;obtain ⟨t112, A3, H⟩ := oA H;have HC4 := AM H;clear H;(go_enter Tryz.func4, Tryz.ntmps4)
 go_upto_if 10 with (first | ((with_reducible refine gate_dst (N := 2) rfl ?_); refine bY w 2 (#[vL A0_0 l0_0.length c0_0]) 24 ?_; clear HB; intro gb111 w5 BK111 GW111 HB; have z6_0 : w5.cell? ⟨gb111, 0, none⟩ = some (vL A0_0 l0_0.length c0_0) := (blk_cell BK111.out 0).trans rfl) | (refine gZ (some 8) Tryz.func16 #[vL A0_0 l0_0.length c0_0, vI iK a1] (cK.calls k _ _ l0_0 a1 t112 _ (cX HR0_0) HC0_0.out A3.out) ?_; intro w7 hb; replace BK111 := bK BK111 hb; replace HB := bH hb; (try clear hb)))
 have H := HC4.out;clear HC4;by_cases c8 : t112 < 0;(·rw [if_pos c8] at H;have c8b0 := dT c8;clear c8;(first | rw [c8b0] | (simp only [aq, aA]; rw [c8b0]) | skip);obtain rfl := oI H;(go_wp2);(go_ret);exact ⟨rfl, bb⟩);(·rw [if_neg c8] at H;have c8b0 := dF c8;clear c8;(first | rw [c8b0] | (simp only [aq, aA]; rw [c8b0]) | skip);obtain rfl := oI H;(go_wp2);(go_ret);exact ⟨rfl, bb⟩)
def bm.f (a0 a1 a2 : Int) : Option (Bool) := if a0 >= a1 then (some (decide (a0 <= a2))) else (some false)
theorem bm.calls (a0 a1 a2 : Int) (r : Bool) (w : World) (h : bm.f a0 a1 a2 = some r) :
  Calls Tryz.prog 49 #[vI iK a0, vI iK a1, vI iK a2] w fun e w' => e = eR (vB r) /\ aT w w' := by
 have H := h;unfold bm.f at H;clear h;by_cases c4 : a0 >= a1;(·rw [if_pos c4] at H;have c4b0 : decide (a1 <= a0) = true := dT c4;clear c4;obtain rfl := oI H;(go_enter Tryz.func49, Tryz.ntmps49);(go_wp2);(go_ret);exact ⟨rf, dR⟩);(·rw [if_neg c4] at H;have c4b0 : decide (a1 <= a0) = false := dF c4;clear c4;obtain rfl := oI H;(go_enter Tryz.func49, Tryz.ntmps49);(go_wp2);(go_ret);exact ⟨rf, dR⟩)
def cp.f (a0 : Int) : Option (Bool) := if a0 >= 97 then (some (decide (a0 <= 122))) else (some false)
theorem cp.calls (a0 : Int) (r : Bool) (w : World) (h : cp.f a0 = some r) :
  Calls Tryz.prog 93 #[vI .u8 a0] w fun e w' => e = eR (vB r) /\ aT w w' := by
 have H := h;unfold cp.f at H;clear h;by_cases c2 : a0 >= 97;(·rw [if_pos c2] at H;have c2b0 : decide (97 <= a0) = true := dT c2;clear c2;obtain rfl := oI H;(go_enter Tryz.func93, Tryz.ntmps93);(go_wp2);(go_ret);exact ⟨rf, dR⟩);(·rw [if_neg c2] at H;have c2b0 : decide (97 <= a0) = false := dF c2;clear c2;obtain rfl := oI H;(go_enter Tryz.func93, Tryz.ntmps93);(go_wp2);(go_ret);exact ⟨rf, dR⟩)
mutual
def bq.j0 : Nat -> ByteArray -> Bool -> Option (Bool)
 | 0, _, _ => none
 | k + 1, x0, x13 => if x13 = true then (some false) else (bq.l0 k x0 0)
def bq.l0 : Nat -> ByteArray -> Int -> Option (Bool)
 | 0, _, _ => none
 | k + 1, x0, x3 => if x3 < (x0.size : Int) then (if 0 <= x3 then ((cp.f (bt x0 x3)).bind fun t115 => (if t115 = true then (bq.l0 k x0 (wrap64 (x3 + 1))) else (if (bt x0 x3) < 48 then (some false) else (if (bt x0 x3) > 57 then (some false) else (bq.l0 k x0 (wrap64 (x3 + 1))))))) else (none)) else (some true)
end
def bq.f (k : Nat) (a0 : ByteArray) : Option (Bool) := (bm.f (a0.size : Int) 1 10).bind fun t113 => (if t113 = true then (if 0 < (a0.size : Int) then ((cp.f (bt a0 0)).bind fun t114 => (bq.j0 k a0 (!t114))) else (none)) else (bq.j0 k a0 true))
theorem bq.calls (k : Nat) (a0 : ByteArray) (r : Bool) (w : World) (h : bq.f k a0 = some r) :
  Calls Tryz.prog 48 #[.string a0] w fun e w' => e = eR (vB r) /\ aT w w' := by
 have H := h;unfold bq.f at H;clear h;have HC2 := AM H;clear H;(go_enter Tryz.func48, Tryz.ntmps48)
 go_upto_region 1 with (fail)
 go_cut [13] (fun v13 wc => ∃ (kq : Nat) (x13_1 : Bool), v13 = vB x13_1 /\ Aside0 (bq.j0 kq a0 x13_1 = some r) /\ Aside0 (kq <= k) /\ aT w wc)
 case first =>
  have H := HC2.out;clear HC2;obtain ⟨t113, A3, H⟩ := oA H;by_cases c4 : t113 = true
  ·subst c4
   rw [if_pos rfl] at H;obtain ⟨c5, H⟩ := nI H;have c5b0 := dT c5;have c5b1 : decide (0 < a0.size) = true := dT (by omega);clear c5;(first | rw [c5b0] | rw [c5b1] | (simp only [aq, aA]; rw [c5b0]) | skip);obtain ⟨t114, A7, H⟩ := oA H;have H' := AM H;clear H
   go_wp2_with (first | (refine gN (some 6) Tryz.func49 #[vI iK (a0.size : Int), vI iK 1, vI iK 10] (bm.calls (a0.size : Int) 1 10 true _ A3.out) ?_; intro nd; have p6 : 0 <= (0 : Int) := (by omega); have q6 : 0 < a0.size := (by have : (0 : Int) < (a0.size : Int) := oD (by assumption); omega); have hx6 : ∀ h : 0 < a0.size, ((a0[0]'h).toNat : Int) = bt a0 0 := cq a0 0; clear p6; have qi6 : (0 < (a0.size : Int)) = True := eq_true (oD (by assumption)); replace q6 := eq_true q6) | (go_at_call 93; (with_reducible refine (cp.calls (bt a0 0) t114 _ A7.out).mono ?_); rintro e w' ⟨rfl, ⟨nd, rfl⟩⟩))
   go_meet
   case rel => exact ⟨_, (!t114), rf, H', ⟨lE⟩, dR⟩
  ·replace c4 := bE.mpr c4
   subst c4;replace H := nF H;have H' := AM H;clear H
   go_wp2_with (first | (refine gN (some 6) Tryz.func49 #[vI iK (a0.size : Int), vI iK 1, vI iK 10] (bm.calls (a0.size : Int) 1 10 false _ A3.out) ?_; intro nd))
   go_meet
   case rel => exact ⟨_, (true), rf, H', ⟨lE⟩, dR⟩
 case rest =>
  clear HC2;(try clear q6);(try clear hx6);(try clear qi6);(try clear q6);obtain ⟨kq, x13_1, rfl, HA, HJ1, ⟨mc1, rfl⟩⟩ := hcut
  cases kq with
  | zero => exact absurd HA.out (by simp [bq.j0])
  | succ kj1 =>
   have H := HA.out;clear HA;simp only [bq.j0] at H;by_cases c8 : x13_1 = true;(·subst c8;rw [if_pos rfl] at H;obtain rfl := oI H;(go_wp2);(go_ret);exact ⟨rf, dR⟩)
   ·replace c8 := bE.mpr c8
    subst c8;replace H := nF H;have H' := AM H;clear H;(go_wp2);(go_loopg [3] kj1 (fun kq v3 w' => ∃ (x3_2 : Int), v3 = vI iK x3_2 /\ Aside0 (bq.l0 kq a0 x3_2 = some r) /\ Aside0 (kq <= kj1) /\ aT w w'))
    case atStart => exact ⟨(0), rf, H', ⟨Nat.le_refl _⟩, dR⟩
    case round =>
     clear H';(try clear q6);(try clear hx6);(try clear qi6);(try clear q6);obtain ⟨x3_2, rfl, HA, HK2, ⟨m2, rfl⟩⟩ := hrel
     cases gk with
     | zero => exact absurd HA.out (by simp [bq.l0])
     | succ k2 =>
      have H := HA.out;clear HA;simp only [bq.l0] at H;by_cases c9 : x3_2 < (a0.size : Int)
      ·rw [if_pos c9] at H
       have c9b0 := dT c9;clear c9;obtain ⟨c10, H⟩ := nI H;have c10b0 := dT c10;clear c10;obtain ⟨t115, A12, H⟩ := oA H;by_cases c13 : t115 = true
       ·subst c13
        rw [if_pos rfl] at H;have H' := AM H;clear H;have p11 := pz x3_2;have q11 := qz x3_2 (a0.size : Int);have hx11 := cq a0 x3_2;replace p11 := eq_true p11;replace q11 := eq_true q11
        go_wp2_with (first | (refine gN (some 23) Tryz.func93 #[vI .u8 (bt a0 x3_2)] (cp.calls (bt a0 x3_2) true _ A12.out) ?_; intro nd))
        go_roundg k2
        case measure => have := HJ1.out; have := HK2.out; omega
        case rel => exact ⟨(wrap64 (x3_2 + 1)), rf, H', ⟨by have := HJ1.out; have := HK2.out; omega⟩, dR⟩
       ·replace c13 := bE.mpr c13
        subst c13;replace H := nF H;by_cases c15 : (bt a0 x3_2) < 48
        ·rw [if_pos c15] at H
         have c15b0 := dT c15;clear c15;obtain rfl := oI H;have p11 := pz x3_2;have q11 := qz x3_2 (a0.size : Int);have hx11 := cq a0 x3_2;replace p11 := eq_true p11;replace q11 := eq_true q11
         go_wp2_with (first | (refine gN (some 23) Tryz.func93 #[vI .u8 (bt a0 x3_2)] (cp.calls (bt a0 x3_2) false _ A12.out) ?_; intro nd; have p14 := pz x3_2; have q14 := qz x3_2 (a0.size : Int); have hx14 := cq a0 x3_2; replace p14 := eq_true p14; replace q14 := eq_true q14))
         (go_ret);exact ⟨rf, dR⟩
        ·rw [if_neg c15] at H
         have c15b0 := dF c15;clear c15;by_cases c17 : (bt a0 x3_2) > 57
         ·rw [if_pos c17] at H
          have c17b0 : decide (57 < (bt a0 x3_2)) = true := dT c17;clear c17;obtain rfl := oI H;have p11 := pz x3_2;have q11 := qz x3_2 (a0.size : Int);have hx11 := cq a0 x3_2;replace p11 := eq_true p11;replace q11 := eq_true q11
          go_wp2_with (first | (refine gN (some 23) Tryz.func93 #[vI .u8 (bt a0 x3_2)] (cp.calls (bt a0 x3_2) false _ A12.out) ?_; intro nd; have p14 := pz x3_2; have q14 := qz x3_2 (a0.size : Int); have hx14 := cq a0 x3_2; replace p14 := eq_true p14; replace q14 := eq_true q14; have p16 := pz x3_2; have q16 := qz x3_2 (a0.size : Int); have hx16 := cq a0 x3_2; replace p16 := eq_true p16; replace q16 := eq_true q16))
          (go_ret);exact ⟨rf, dR⟩
         ·rw [if_neg c17] at H
          have c17b0 : decide (57 < (bt a0 x3_2)) = false := dF c17;clear c17;have H' := AM H;clear H;have p11 := pz x3_2;have q11 := qz x3_2 (a0.size : Int);have hx11 := cq a0 x3_2;replace p11 := eq_true p11;replace q11 := eq_true q11
          go_wp2_with (first | (refine gN (some 23) Tryz.func93 #[vI .u8 (bt a0 x3_2)] (cp.calls (bt a0 x3_2) false _ A12.out) ?_; intro nd; have p14 := pz x3_2; have q14 := qz x3_2 (a0.size : Int); have hx14 := cq a0 x3_2; replace p14 := eq_true p14; replace q14 := eq_true q14; have p16 := pz x3_2; have q16 := qz x3_2 (a0.size : Int); have hx16 := cq a0 x3_2; replace p16 := eq_true p16; replace q16 := eq_true q16))
          go_roundg k2
          case measure => have := HJ1.out; have := HK2.out; omega
          case rel => exact ⟨(wrap64 (x3_2 + 1)), rf, H', ⟨by have := HJ1.out; have := HK2.out; omega⟩, dR⟩
      ·rw [if_neg c9] at H
       have c9b0 := dF c9;clear c9;obtain rfl := oI H;(go_wp2);(go_ret);exact ⟨rf, dR⟩
def cH.f (a0 : Int) : Option (Bool) := if a0 >= 65 then (some (decide (a0 <= 90))) else (some false)
theorem cH.calls (a0 : Int) (r : Bool) (w : World) (h : cH.f a0 = some r) :
  Calls Tryz.prog 131 #[vI .u8 a0] w fun e w' => e = eR (vB r) /\ aT w w' := by
 have H := h;unfold cH.f at H;clear h;by_cases c2 : a0 >= 65;(·rw [if_pos c2] at H;have c2b0 : decide (65 <= a0) = true := dT c2;clear c2;obtain rfl := oI H;(go_enter Tryz.func131, Tryz.ntmps131);(go_wp2);(go_ret);exact ⟨rf, dR⟩);(·rw [if_neg c2] at H;have c2b0 : decide (65 <= a0) = false := dF c2;clear c2;obtain rfl := oI H;(go_enter Tryz.func131, Tryz.ntmps131);(go_wp2);(go_ret);exact ⟨rf, dR⟩)
def bJ.f (a0 : Int) : Option (Bool) := (cH.f a0).bind fun t116 => (if t116 = true then (some true) else ((cp.f a0).bind fun t117 => (some t117)))
theorem bJ.calls (a0 : Int) (r : Bool) (w : World) (h : bJ.f a0 = some r) :
  Calls Tryz.prog 153 #[vI .u8 a0] w fun e w' => e = eR (vB r) /\ aT w w' := by
 have H := h;unfold bJ.f at H;clear h;obtain ⟨t116, A2, H⟩ := oA H;by_cases c3 : t116 = true
 ·subst c3
  rw [if_pos rfl] at H;obtain rfl := oI H;(go_enter Tryz.func153, Tryz.ntmps153)
  go_wp2_with (first | (refine gN (some 4) Tryz.func131 #[vI .u8 a0] (cH.calls a0 true _ A2.out) ?_; intro nd))
  (go_ret);exact ⟨rf, dR⟩
 ·replace c3 := bE.mpr c3
  subst c3;replace H := nF H;obtain ⟨t117, A4, H⟩ := oA H;obtain rfl := oI H;(go_enter Tryz.func153, Tryz.ntmps153)
  go_wp2_with (first | (refine gN (some 4) Tryz.func131 #[vI .u8 a0] (cH.calls a0 false _ A2.out) ?_; intro nd) | (go_at_call 93; (with_reducible refine (cp.calls a0 t117 _ A4.out).mono ?_); rintro e w' ⟨rfl, ⟨nd, rfl⟩⟩))
  (go_ret);exact ⟨rf, dR⟩
mutual
def aw.j0 : Nat -> ByteArray -> Bool -> Option (Bool)
 | 0, _, _ => none
 | k + 1, x0, x22 => if x22 = true then (some false) else (aw.l0 k x0 1)
def aw.l0 : Nat -> ByteArray -> Int -> Option (Bool)
 | 0, _, _ => none
 | k + 1, x0, x3 => if x3 < (x0.size : Int) then (if 0 <= x3 then ((bJ.f (bt x0 x3)).bind fun t121 => (if t121 = true then (aw.l0 k x0 (wrap64 (x3 + 1))) else (if (bt x0 x3) = 45 then (if 0 <= (wrap64 (x3 - 1)) then (if (wrap64 (x3 - 1)) < (x0.size : Int) then ((bJ.f (bt x0 (wrap64 (x3 - 1)))).bind fun t122 => (if t122 = true then (aw.l0 k x0 (wrap64 (x3 + 1))) else (some false))) else (none)) else (none)) else (if (bt x0 x3) = 39 then (if 0 <= (wrap64 (x3 - 1)) then (if (wrap64 (x3 - 1)) < (x0.size : Int) then ((bJ.f (bt x0 (wrap64 (x3 - 1)))).bind fun t123 => (if t123 = true then (aw.l0 k x0 (wrap64 (x3 + 1))) else (some false))) else (none)) else (none)) else (some false))))) else (none)) else (some true)
end
def aw.f (k : Nat) (a0 : ByteArray) : Option (Bool) := (bm.f (a0.size : Int) 1 12).bind fun t118 => (if t118 = true then (if 0 < (a0.size : Int) then ((bJ.f (bt a0 0)).bind fun t119 => (if t119 = true then (if 0 <= (wrap64 ((a0.size : Int) - 1)) then (if (wrap64 ((a0.size : Int) - 1)) < (a0.size : Int) then ((bJ.f (bt a0 (wrap64 ((a0.size : Int) - 1)))).bind fun t120 => (aw.j0 k a0 (!t120))) else (none)) else (none)) else (aw.j0 k a0 true))) else (none)) else (aw.j0 k a0 true))
theorem aw.calls (k : Nat) (a0 : ByteArray) (r : Bool) (w : World) (h : aw.f k a0 = some r) :
  Calls Tryz.prog 130 #[.string a0] w fun e w' => e = .returned (.bool r) /\ aT w w' := by
 have H := h;unfold aw.f at H;clear h;have HC2 := AM H;clear H;(go_enter Tryz.func130, Tryz.ntmps130)
 go_upto_region 1 with (fail)
 go_cut [22] (fun v22 wc => ∃ (kq : Nat) (x22_1 : Bool), v22 = .bool x22_1 /\ Aside0 (aw.j0 kq a0 x22_1 = some r) /\ Aside0 (kq <= k) /\ aT w wc)
 case first =>
  have H := HC2.out;clear HC2;obtain ⟨t118, A3, H⟩ := oA H;by_cases c4 : t118 = true
  ·subst c4
   rw [if_pos rfl] at H;obtain ⟨c5, H⟩ := nI H;have c5b0 := dT c5;have c5b1 : decide (0 < a0.size) = true := dT (by omega);clear c5;(first | rw [c5b0] | rw [c5b1] | (simp only [aq, aA]; rw [c5b0]) | skip);obtain ⟨t119, A7, H⟩ := oA H;by_cases c8 : t119 = true
   ·subst c8
    rw [if_pos rfl] at H
    obtain ⟨ji9, hji9⟩ : ∃ j_ : Int, (wrap64 ((a0.size : Int) - 1)) = j_ := ⟨_, rfl⟩
    replace H : (if 0 <= (ji9) then (if (ji9) < (a0.size : Int) then ((bJ.f (bt a0 (ji9))).bind fun t120 => (aw.j0 k a0 (!t120))) else (none)) else (none)) = some r := by first | (rw [hji9] at H; exact H) | (simp only [hji9] at H ⊢; exact H)
    (try rw [hji9] at A3);(try rw [hji9] at A7);have hji9w : (IntKind.i64.wrap ((a0.size : Int) - 1)) = ji9 := (aq _).trans hji9;obtain ⟨c10, H⟩ := nI H;have c10b0 := dT c10;clear c10;obtain ⟨c11, H⟩ := nI H;have c11b0 := dT c11;clear c11;obtain ⟨t120, A13, H⟩ := oA H;have H' := AM H;clear H
    go_wp2_with (first | (refine gN (some 6) Tryz.func49 #[vI iK (a0.size : Int), vI iK 1, vI iK 12] (bm.calls (a0.size : Int) 1 12 true _ A3.out) ?_; intro nd; have p6 : 0 <= (0 : Int) := (by omega); have q6 : 0 < a0.size := (by have : (0 : Int) < (a0.size : Int) := oD (by assumption); omega); have hx6 : ∀ h : 0 < a0.size, ((a0[0]'h).toNat : Int) = bt a0 0 := cq a0 0; clear p6; have qi6 : (0 < (a0.size : Int)) = True := eq_true (oD (by assumption)); replace q6 := eq_true q6) | (go_at_call 153; (with_reducible refine (bJ.calls (bt a0 0) true _ A7.out).mono ?_); rintro e w' ⟨rfl, ⟨nd, rfl⟩⟩; have p12 : 0 <= ((ji9) : Int) := oD (by assumption); have q12 : (ji9) < (a0.size : Int) := oD (by assumption); have hx12 := cq a0 (ji9); replace p12 := eq_true p12; replace q12 := eq_true q12) | (go_at_call 153; (with_reducible refine (bJ.calls (bt a0 (ji9)) t120 _ A13.out).mono ?_); rintro e w' ⟨rfl, ⟨nd, rfl⟩⟩))
    go_meet
    case rel => exact ⟨_, (!t120), rf, H', ⟨lE⟩, dR⟩
   ·replace c8 := bE.mpr c8
    subst c8;replace H := nF H;have H' := AM H;clear H
    go_wp2_with (first | (refine gN (some 6) Tryz.func49 #[vI iK (a0.size : Int), vI iK 1, vI iK 12] (bm.calls (a0.size : Int) 1 12 true _ A3.out) ?_; intro nd; have p6 : 0 <= (0 : Int) := (by omega); have q6 : 0 < a0.size := (by have : (0 : Int) < (a0.size : Int) := oD (by assumption); omega); have hx6 : ∀ h : 0 < a0.size, ((a0[0]'h).toNat : Int) = bt a0 0 := cq a0 0; clear p6; have qi6 : (0 < (a0.size : Int)) = True := eq_true (oD (by assumption)); replace q6 := eq_true q6) | (go_at_call 153; (with_reducible refine (bJ.calls (bt a0 0) false _ A7.out).mono ?_); rintro e w' ⟨rfl, ⟨nd, rfl⟩⟩))
    go_meet
    case rel => exact ⟨_, (true), rf, H', ⟨lE⟩, dR⟩
  ·replace c4 := bE.mpr c4
   subst c4;replace H := nF H;have H' := AM H;clear H
   go_wp2_with (first | (refine gN (some 6) Tryz.func49 #[vI iK (a0.size : Int), vI iK 1, vI iK 12] (bm.calls (a0.size : Int) 1 12 false _ A3.out) ?_; intro nd))
   go_meet
   case rel => exact ⟨_, (true), rf, H', ⟨lE⟩, dR⟩
 case rest =>
  clear HC2;(try clear q1);(try clear hx1);(try clear q6);(try clear hx6);(try clear qi6);(try clear q12);(try clear hx12);(try clear q12);(try clear q6);obtain ⟨kq, x22_1, rfl, HA, HJ1, ⟨mc1, rfl⟩⟩ := hcut
  cases kq with
  | zero => exact absurd HA.out (by simp [aw.j0])
  | succ kj1 =>
   have H := HA.out;clear HA;simp only [aw.j0] at H;by_cases c14 : x22_1 = true;(·subst c14;rw [if_pos rfl] at H;obtain rfl := oI H;(go_wp2);(go_ret);exact ⟨rf, dR⟩)
   ·replace c14 := bE.mpr c14
    subst c14;replace H := nF H;have H' := AM H;clear H;(go_wp2);(go_loopg [3] kj1 (fun kq v3 w' => ∃ (x3_2 : Int), v3 = vI iK x3_2 /\ Aside0 (aw.l0 kq a0 x3_2 = some r) /\ Aside0 (kq <= kj1) /\ aT w w'))
    case atStart => exact ⟨(1), rf, H', ⟨Nat.le_refl _⟩, dR⟩
    case round =>
     clear H';(try clear q1);(try clear hx1);(try clear q6);(try clear hx6);(try clear qi6);(try clear q12);(try clear hx12);(try clear q1);(try clear q12);(try clear q6);obtain ⟨x3_2, rfl, HA, HK2, ⟨m2, rfl⟩⟩ := hrel
     cases gk with
     | zero => exact absurd HA.out (by simp [aw.l0])
     | succ k2 =>
      have H := HA.out;clear HA;simp only [aw.l0] at H;by_cases c15 : x3_2 < (a0.size : Int)
      ·rw [if_pos c15] at H
       have c15b0 := dT c15;clear c15;obtain ⟨c16, H⟩ := nI H;have c16b0 := dT c16;clear c16;obtain ⟨t121, A18, H⟩ := oA H;by_cases c19 : t121 = true
       ·subst c19
        rw [if_pos rfl] at H;have H' := AM H;clear H;have p17 := pz x3_2;have q17 := qz x3_2 (a0.size : Int);have hx17 := cq a0 x3_2;replace p17 := eq_true p17;replace q17 := eq_true q17
        go_wp2_with (first | (refine gN (some 32) Tryz.func153 #[vI .u8 (bt a0 x3_2)] (bJ.calls (bt a0 x3_2) true _ A18.out) ?_; intro nd))
        go_roundg k2
        case measure => have := HJ1.out; have := HK2.out; omega
        case rel => exact ⟨(wrap64 (x3_2 + 1)), rf, H', ⟨by have := HJ1.out; have := HK2.out; omega⟩, dR⟩
       ·replace c19 := bE.mpr c19
        subst c19;replace H := nF H;by_cases c21 : (bt a0 x3_2) = 45
        ·rw [if_pos c21] at H
         have c21b0 : ((bt a0 x3_2) == 45) = true := beq_iff_eq.mpr c21;have c21b1 : ((bt a0 x3_2) != 45) = false := bne_eq_false_iff_eq.mpr c21;clear c21
         obtain ⟨ji22, hji22⟩ : ∃ j_ : Int, (wrap64 (x3_2 - 1)) = j_ := ⟨_, rfl⟩
         replace H : (if 0 <= (ji22) then (if (ji22) < (a0.size : Int) then ((bJ.f (bt a0 (ji22))).bind fun t122 => (if t122 = true then (aw.l0 k2 a0 (wrap64 (x3_2 + 1))) else (some false))) else (none)) else (none)) = some r := by first | (rw [hji22] at H; exact H) | (simp only [hji22] at H ⊢; exact H)
         (try rw [hji22] at A18);have hji22w : (IntKind.i64.wrap (x3_2 - 1)) = ji22 := (aq _).trans hji22;obtain ⟨c23, H⟩ := nI H;have c23b0 := dT c23;clear c23;obtain ⟨c24, H⟩ := nI H;have c24b0 := dT c24;clear c24;obtain ⟨t122, A26, H⟩ := oA H;have HC27 := AM H;clear H;have p17 := pz x3_2;have q17 := qz x3_2 (a0.size : Int);have hx17 := cq a0 x3_2;replace p17 := eq_true p17;replace q17 := eq_true q17
         go_upto_if 53 with (first | (refine gN (some 32) Tryz.func153 #[vI .u8 (bt a0 x3_2)] (bJ.calls (bt a0 x3_2) false _ A18.out) ?_; intro nd; have p20 := pz x3_2; have q20 := qz x3_2 (a0.size : Int); have hx20 := cq a0 x3_2; replace p20 := eq_true p20; replace q20 := eq_true q20; have p25 : 0 <= ((ji22) : Int) := oD (by assumption); have q25 : (ji22) < (a0.size : Int) := oD (by assumption); have hx25 := cq a0 (ji22); replace p25 := eq_true p25; replace q25 := eq_true q25) | (go_at_call 153; (with_reducible refine (bJ.calls (bt a0 (ji22)) t122 _ A26.out).mono ?_); rintro e w' ⟨rfl, ⟨nd, rfl⟩⟩))
         (skip);have H := HC27.out;clear HC27;by_cases c28 : t122 = true
         ·subst c28
          rw [if_pos rfl] at H;have H' := AM H;clear H;(go_wp2);(go_roundg k2)
          case measure => have := HJ1.out; have := HK2.out; omega
          case rel => exact ⟨(wrap64 (x3_2 + 1)), rf, H', ⟨by have := HJ1.out; have := HK2.out; omega⟩, dR⟩
         ·replace c28 := bE.mpr c28
          subst c28;replace H := nF H;obtain rfl := oI H;(go_wp2);(go_ret);exact ⟨by first | rfl | (simp; done) | (simp only [<- hji22] <;> (first | rfl | simp)) | (simp [*]; done), dR⟩
        ·rw [if_neg c21] at H
         have c21b0 : ((bt a0 x3_2) == 45) = false := beq_eq_false_iff_ne.mpr c21;have c21b1 : ((bt a0 x3_2) != 45) = true := bne_iff_ne.mpr c21;by_cases c30 : (bt a0 x3_2) = 39
         ·rw [if_pos c30] at H
          have c30b0 : ((bt a0 x3_2) == 39) = true := beq_iff_eq.mpr c30;have c30b1 : ((bt a0 x3_2) != 39) = false := bne_eq_false_iff_eq.mpr c30;clear c30
          obtain ⟨ji31, hji31⟩ : ∃ j_ : Int, (wrap64 (x3_2 - 1)) = j_ := ⟨_, rfl⟩
          replace H : (if 0 <= (ji31) then (if (ji31) < (a0.size : Int) then ((bJ.f (bt a0 (ji31))).bind fun t123 => (if t123 = true then (aw.l0 k2 a0 (wrap64 (x3_2 + 1))) else (some false))) else (none)) else (none)) = some r := by first | (rw [hji31] at H; exact H) | (simp only [hji31] at H ⊢; exact H)
          (try rw [hji31] at A18);have hji31w : (IntKind.i64.wrap (x3_2 - 1)) = ji31 := (aq _).trans hji31;obtain ⟨c32, H⟩ := nI H;have c32b0 := dT c32;clear c32;obtain ⟨c33, H⟩ := nI H;have c33b0 := dT c33;clear c33;obtain ⟨t123, A35, H⟩ := oA H;have HC36 := AM H;clear H;have p17 := pz x3_2;have q17 := qz x3_2 (a0.size : Int);have hx17 := cq a0 x3_2;replace p17 := eq_true p17;replace q17 := eq_true q17
          go_upto_if 53 with (first | (refine gN (some 32) Tryz.func153 #[vI .u8 (bt a0 x3_2)] (bJ.calls (bt a0 x3_2) false _ A18.out) ?_; intro nd; have p20 := pz x3_2; have q20 := qz x3_2 (a0.size : Int); have hx20 := cq a0 x3_2; replace p20 := eq_true p20; replace q20 := eq_true q20; have p29 := pz x3_2; have q29 := qz x3_2 (a0.size : Int); have hx29 := cq a0 x3_2; replace p29 := eq_true p29; replace q29 := eq_true q29; have p34 : 0 <= ((ji31) : Int) := oD (by assumption); have q34 : (ji31) < (a0.size : Int) := oD (by assumption); have hx34 := cq a0 (ji31); replace p34 := eq_true p34; replace q34 := eq_true q34) | (go_at_call 153; (with_reducible refine (bJ.calls (bt a0 (ji31)) t123 _ A35.out).mono ?_); rintro e w' ⟨rfl, ⟨nd, rfl⟩⟩))
          (skip);have H := HC36.out;clear HC36;by_cases c37 : t123 = true
          ·subst c37
           rw [if_pos rfl] at H;have H' := AM H;clear H;(go_wp2);(go_roundg k2)
           case measure => have := HJ1.out; have := HK2.out; omega
           case rel => exact ⟨(wrap64 (x3_2 + 1)), rf, H', ⟨by have := HJ1.out; have := HK2.out; omega⟩, dR⟩
          ·replace c37 := bE.mpr c37
           subst c37;replace H := nF H;obtain rfl := oI H;(go_wp2);(go_ret);exact ⟨by first | rfl | (simp; done) | (simp only [<- hji31] <;> (first | rfl | simp)) | (simp [*]; done), dR⟩
         ·rw [if_neg c30] at H
          have c30b0 : ((bt a0 x3_2) == 39) = false := beq_eq_false_iff_ne.mpr c30;have c30b1 : ((bt a0 x3_2) != 39) = true := bne_iff_ne.mpr c30;obtain rfl := oI H;have p17 := pz x3_2;have q17 := qz x3_2 (a0.size : Int);have hx17 := cq a0 x3_2;replace p17 := eq_true p17;replace q17 := eq_true q17
          go_wp2_with (first | (refine gN (some 32) Tryz.func153 #[vI .u8 (bt a0 x3_2)] (bJ.calls (bt a0 x3_2) false _ A18.out) ?_; intro nd; have p20 := pz x3_2; have q20 := qz x3_2 (a0.size : Int); have hx20 := cq a0 x3_2; replace p20 := eq_true p20; replace q20 := eq_true q20; have p29 := pz x3_2; have q29 := qz x3_2 (a0.size : Int); have hx29 := cq a0 x3_2; replace p29 := eq_true p29; replace q29 := eq_true q29))
          (go_ret);exact ⟨rf, dR⟩
      ·rw [if_neg c15] at H
       have c15b0 := dF c15;clear c15;obtain rfl := oI H;(go_wp2);(go_ret);exact ⟨rf, dR⟩
def dc.l0 : Nat -> ByteArray -> Int -> List ByteArray -> Int -> Int -> Option (List ByteArray)
 | 0, _, _, _, _, _ => none
 | k + 1, x0, x1, x5, x6, x7 => if x7 < (x0.size : Int) then (if 0 <= x7 then (if (bt x0 x7) = x1 then (if 0 <= x6 then (if x6 <= x7 then (if x7 <= (x0.size : Int) then (if x5.length < 8796093022208 then (dc.l0 k x0 x1 (x5 ++ [x0.extract (x6 : Int).toNat (x7 : Int).toNat]) (wrap64 (x7 + 1)) (wrap64 (x7 + 1))) else (none)) else (none)) else (none)) else (none)) else (dc.l0 k x0 x1 x5 x6 (wrap64 (x7 + 1)))) else (none)) else (if 0 <= x6 then (if x6 <= (x0.size : Int) then (if x5.length < 8796093022208 then (some (x5 ++ [x0.extract (x6 : Int).toNat x0.size])) else (none)) else (none)) else (none))
def dc.f (k : Nat) (a0 : ByteArray) (a1 : Int) : Option (List ByteArray) := dc.l0 k a0 a1 (([] : List ByteArray)) 0 0
theorem dc.calls (k : Nat) (a0 : ByteArray) (a1 : Int) (r : List ByteArray) (w : World) (h : dc.f k a0 a1 = some r) :
  Calls Tryz.prog 154 #[vS a0, .int .u8 a1] w fun e w' => ∃ v0_ : Value, e = .returned (v0_) /\ Kd.R Kd.string 9 w' w.heap.size (fun _ => True) v0_ r /\ Below w.heap.size w w' := by
 have HB := AM (Below.refl w.heap.size w);have H := h;unfold dc.f at H;clear h;generalize hy124 : (([] : List ByteArray)) = y124 at H;have Ny124 := AM hy124.symm;clear hy124;have H' := AM H;clear H;(go_enter Tryz.func154, Tryz.ntmps154)
 go_wp2_with (first | ((with_reducible refine gate_dst (N := 8) rfl ?_); refine rK Kd.string 9 8 ([] : List ByteArray) [] (aZ.none _ _) ?_; intro v125 w3 ho4 hb hg_ hnew_; clear hg_ hnew_; (first | rw [<- Ny124.out] at ho4 | (simp only [Int.reduceToNat] at ho4; rw [<- Ny124.out] at ho4)); have HO126 := AM (Kd.R_lower ho4 (bZ bb)); replace HB := bH hb; clear hb ho4))
 go_loopg [5, 6, 7] k (fun kq v5 v6 v7 w' => ∃ (x5_1 : List ByteArray) (x6_1 x7_1 : Int), v6 = .int .i64 x6_1 /\ v7 = .int .i64 x7_1 /\ Aside0 (dc.l0 kq a0 a1 x5_1 x6_1 x7_1 = some r) /\ Aside0 (kq <= k) /\ Aside0 (Kd.R Kd.string 9 w' w.heap.size (fun _ => True) v5 x5_1) /\ Aside0 (Below w.heap.size w w'))
 case atStart => exact ⟨(y124), (0), (0), rf, rf, H', ⟨Nat.le_refl _⟩, ⟨qR HO126⟩, ⟨bb⟩⟩
 case round =>
  clear H';obtain ⟨x5_1, x6_1, x7_1, rfl, rfl, HA, HK1, HO_5, HB⟩ := hrel
  cases gk with
  | zero => exact absurd HA.out (by simp [dc.l0])
  | succ k1 =>
   have H := HA.out;clear HA;simp only [dc.l0] at H;by_cases c5 : x7_1 < (a0.size : Int)
   ·rw [if_pos c5] at H
    have c5b0 := dT c5;clear c5;obtain ⟨c6, H⟩ := nI H;have c6b0 := dT c6;clear c6;by_cases c8 : (bt a0 x7_1) = a1
    ·rw [if_pos c8] at H
     have c8b0 : ((bt a0 x7_1) == a1) = true := beq_iff_eq.mpr c8;have c8b1 : ((bt a0 x7_1) != a1) = false := bne_eq_false_iff_eq.mpr c8;clear c8;obtain ⟨c9, H⟩ := nI H;have c9b0 := eq_true c9;have c9b1 := dT c9;clear c9;obtain ⟨c10, H⟩ := nI H;have c10b0 := eq_true c10;have c10b1 := dT c10;clear c10;obtain ⟨c11, H⟩ := nI H;have c11b0 := eq_true c11;have c11b1 := dT c11;clear c11;obtain ⟨c12, H⟩ := nI H;have LMc12 := AM c12;clear c12;generalize hy127 : (x5_1 ++ [a0.extract (x6_1 : Int).toNat (x7_1 : Int).toNat]) = y127 at H;have Ny127 := AM hy127.symm;clear hy127;have H' := AM H;clear H;have p7 := pz x7_1;have q7 := qz x7_1 (a0.size : Int);have hx7 := cq a0 x7_1;replace p7 := eq_true p7;replace q7 := eq_true q7
     go_wp2_with (first | ((with_reducible refine ch (b := .append) (xs := #[.tmp 20, .tmp 25]) rfl ?_); at_builtin; refine Kd.R_append Kd.string (w0 := w) w.heap.size rfl (.tmp 20) (.tmp 25) 43 9 (vS ⟨#[]⟩) 16 rfl Tryz.underlying43 fM rfl (by decide) (by omega) u5 x5_1 (a0.extract (x6_1 : Int).toNat (x7_1 : Int).toNat) [vS (a0.extract (x6_1 : Int).toNat (x7_1 : Int).toNat)] (fun _ => True) (fun _ => False) rfl rfl ?aP (fun _ hk => hk.elim) ?aF ?aO ?aB ?aS ?aL ?_; (case aP => exact rfl); (case aB => exact bb); (case aF => exact (fun _ _ => trivial)); (case aO => exact (qR HO_5)); (case aS => exact (bZ bb)); (case aL => have := LMc12.out; omega); intro v128 w13 ho hb hg hat; rw [<- Ny127.out] at ho; replace HB := AM (hb); have HO129 := AM (ho); clear HO_5; clear ho hb hg hat))
     go_roundg k1
     case measure => have := HK1.out; omega
     case rel => exact ⟨(y127), (wrap64 (x7_1 + 1)), (wrap64 (x7_1 + 1)), rf, rf, H', ⟨by have := HK1.out; omega⟩, ⟨qR HO129⟩, ⟨bb⟩⟩
    ·rw [if_neg c8] at H
     have c8b0 : ((bt a0 x7_1) == a1) = false := beq_eq_false_iff_ne.mpr c8;have c8b1 : ((bt a0 x7_1) != a1) = true := bne_iff_ne.mpr c8;have H' := AM H;clear H;have p7 := pz x7_1;have q7 := qz x7_1 (a0.size : Int);have hx7 := cq a0 x7_1;replace p7 := eq_true p7;replace q7 := eq_true q7;(go_wp2);(go_roundg k1)
     case measure => have := HK1.out; omega
     case rel => exact ⟨(x5_1), (x6_1), (wrap64 (x7_1 + 1)), rf, rf, H', ⟨by have := HK1.out; omega⟩, ⟨qR HO_5⟩, ⟨bb⟩⟩
   ·rw [if_neg c5] at H
    have c5b0 := dF c5;clear c5;obtain ⟨c14, H⟩ := nI H;have c14b0 := eq_true c14;have c14b1 := dT c14;clear c14;obtain ⟨c15, H⟩ := nI H;have c15b0 := eq_true c15;have c15b1 := dT c15;clear c15;obtain ⟨c16, H⟩ := nI H;have LMc16 := AM c16;clear c16;generalize hy130 : (x5_1 ++ [a0.extract (x6_1 : Int).toNat a0.size]) = y130 at H;have Ny130 := AM hy130.symm;clear hy130;obtain rfl := oI H
    go_wp2_with (first | ((with_reducible refine ch (b := .append) (xs := #[.tmp 29, .tmp 33]) rfl ?_); at_builtin; refine Kd.R_append Kd.string (w0 := w) w.heap.size rfl (.tmp 29) (.tmp 33) 43 9 (vS ⟨#[]⟩) 16 rfl Tryz.underlying43 fM rfl (by decide) (by omega) u5 x5_1 (a0.extract (x6_1 : Int).toNat a0.size) [vS (a0.extract (x6_1 : Int).toNat a0.size)] (fun _ => True) (fun _ => False) rfl rfl ?aP (fun _ hk => hk.elim) ?aF ?aO ?aB ?aS ?aL ?_; (case aP => exact rfl); (case aB => exact bb); (case aF => exact (fun _ _ => trivial)); (case aO => exact (qR HO_5)); (case aS => exact (bZ bb)); (case aL => have := LMc16.out; omega); intro v131 w17 ho hb hg hat; rw [<- Ny130.out] at ho; replace HB := AM (hb); have HO132 := AM (ho); clear HO_5; clear ho hb hg hat))
    (go_ret);exact ⟨_, rfl, by (with_reducible repeat (first | apply Kd.R_alloc | apply Kd.R_drewN | apply Kd.R_drew)); exact HO132.out, bb⟩
mutual
def ay.l0 : Nat -> List ByteArray -> Int -> Option (Bool)
 | 0, _, _ => none
 | k + 1, x3, x4 => if x4 < (x3.length : Int) then (if 0 <= x4 then ((aw.f k (aC ByteArray.empty x3 x4)).bind fun t137 => (if t137 = true then (ay.l1 k x3 x4 0) else (some false))) else (none)) else (some (decide ((x3.length : Int) <= 2)))
def ay.l1 : Nat -> List ByteArray -> Int -> Int -> Option (Bool)
 | 0, _, _, _ => none
 | k + 1, x3, x4, x5 => if 0 <= x4 then (if x4 < (x3.length : Int) then (if x5 < ((aC ByteArray.empty x3 x4).size : Int) then (if 0 <= x5 then ((cp.f (bt (aC ByteArray.empty x3 x4) x5)).bind fun t140 => (if t140 = true then (ay.l1 k x3 x4 (wrap64 (x5 + 1))) else (some false))) else (none)) else (ay.l0 k x3 (wrap64 (x4 + 1)))) else (none)) else (none)
end
def ay.f (k : Nat) (a0 : ByteArray) : Option (Bool) := if a0.toList = ([] : List UInt8) then (some true) else ((dc.f k a0 32).bind fun t133 => (ay.l0 k t133 0))
theorem ay.calls (k : Nat) (a0 : ByteArray) (r : Bool) (w : World) (h : ay.f k a0 = some r) :
  Calls Tryz.prog 132 #[vS a0] w fun e w' => e = .returned (.bool r) /\ Below w.heap.size w w' := by
 have HB := AM (Below.refl w.heap.size w);have H := h;unfold ay.f at H;clear h;by_cases c2 : a0.toList = ([] : List UInt8);(·rw [if_pos c2] at H;have c2b0 : (a0.toList == ([] : List UInt8)) = true := beq_iff_eq.mpr c2;have c2b1 : (a0.toList != ([] : List UInt8)) = false := bne_eq_false_iff_eq.mpr c2;clear c2;obtain rfl := oI H;(go_enter Tryz.func132, Tryz.ntmps132);(go_wp2);(go_ret);exact ⟨rfl, bb⟩)
 ·rw [if_neg c2] at H
  have c2b0 : (a0.toList == ([] : List UInt8)) = false := beq_eq_false_iff_ne.mpr c2;have c2b1 : (a0.toList != ([] : List UInt8)) = true := bne_iff_ne.mpr c2;obtain ⟨t133, A3, H⟩ := oA H;have H' := AM H;clear H;(go_enter Tryz.func132, Tryz.ntmps132)
  go_wp2_with (first | (refine gX (some 9) Tryz.func154 #[vS a0, .int .u8 32] ?_; (with_reducible refine (dc.calls k a0 32 t133 _ A3.out).mono ?_); rintro e w4 ⟨v134, rfl, ho0, hb⟩; refine ⟨_, rfl, ?_⟩; have HO135 := AM (Kd.R_lower ho0 (below_size bb)); replace HB := bH hb; (try clear hb);(try clear ho0)))
  go_loopg [4] k (fun kq v4 w' => ∃ (x4_1 : Int), v4 = .int .i64 x4_1 /\ Aside0 (ay.l0 kq t133 x4_1 = some r) /\ Aside0 (kq <= k) /\ Aside0 (Kd.R Kd.string 9 w' w.heap.size (fun _ => True) v134 t133) /\ Aside0 (Below w.heap.size w w'))
  case atStart => exact ⟨(0), rf, H', ⟨Nat.le_refl _⟩, ⟨qR HO135⟩, ⟨bb⟩⟩
  case round =>
   clear H';obtain ⟨x4_1, rfl, HA, HK1, HO_3, HB⟩ := hrel
   cases gk with
   | zero => exact absurd HA.out (by simp [ay.l0])
   | succ k1 =>
    have H := HA.out;clear HA;simp only [ay.l0] at H;by_cases c5 : x4_1 < (t133.length : Int)
    ·rw [if_pos c5] at H
     have c5b0 := dT c5;clear c5;obtain ⟨c6, H⟩ := nI H;have c6b0 := dT c6;clear c6;obtain ⟨t137, A7, H⟩ := oA H;by_cases c8 : t137 = true
     ·subst c8
      rw [if_pos rfl] at H;have H' := AM H;clear H;obtain ⟨Ao9, co9, eo9⟩ := rS HO_3.out;subst eo9;have p136 := pz x4_1;have q136 := qz x4_1 (t133.length : Int);obtain ⟨ad136, e136, hx136_0⟩ := Kd.at_string (rR HO_3.out).2.2 x4_1 p136 q136;cases e136;replace p136 := eq_true p136;replace q136 := eq_true q136
      go_wp2_with (first | (refine gN (some 20) Tryz.func130 #[vS (aC ByteArray.empty t133 x4_1)] (aw.calls k1 (aC ByteArray.empty t133 x4_1) true _ A7.out) ?_; intro nd))
      go_loopg [5] k1 (fun kq v5 w' => ∃ (x5_2 : Int), v5 = .int .i64 x5_2 /\ Aside0 (ay.l1 kq t133 x4_1 x5_2 = some r) /\ Aside0 (kq <= k1) /\ Aside0 (Kd.R Kd.string 9 w' w.heap.size (fun _ => True) (.slice (some ad136) t133.length co9) t133) /\ Aside0 (Below w.heap.size w w'))
      case atStart => exact ⟨(0), rf, H', ⟨Nat.le_refl _⟩, ⟨qR HO_3⟩, ⟨bb⟩⟩
      case round =>
       clear H';(try clear q1);(try clear hx1);(try clear hx136_0);(try clear q136);obtain ⟨x5_2, rfl, HA, HK2, HO_3, HB⟩ := hrel
       cases gk with
       | zero => exact absurd HA.out (by simp [ay.l1])
       | succ k2 =>
        have H := HA.out;clear HA;simp only [ay.l1] at H;obtain ⟨c10, H⟩ := nI H;have c10b0 := dT c10;clear c10;obtain ⟨c11, H⟩ := nI H;have c11b0 := dT c11;clear c11;by_cases c12 : x5_2 < ((aC ByteArray.empty t133 x4_1).size : Int)
        ·rw [if_pos c12] at H
         have c12b0 := dT c12;clear c12;obtain ⟨c13, H⟩ := nI H;have c13b0 := dT c13;clear c13;obtain ⟨t140, A15, H⟩ := oA H;by_cases c16 : t140 = true
         ·subst c16
          rw [if_pos rfl] at H;have H' := AM H;clear H;have p138 := pz x4_1;have q138 := qz x4_1 (t133.length : Int);obtain ⟨ad138, e138, hx138_0⟩ := Kd.at_string (rR HO_3.out).2.2 x4_1 p138 q138
          obtain rfl : ad136 = ad138 := (by injection e138)
          replace p138 := eq_true p138;replace q138 := eq_true q138;have p139 := pz x4_1;have q139 := qz x4_1 (t133.length : Int);obtain ⟨ad139, e139, hx139_0⟩ := Kd.at_string (rR HO_3.out).2.2 x4_1 p139 q139
          obtain rfl : ad136 = ad139 := (by injection e139)
          replace p139 := eq_true p139;replace q139 := eq_true q139;have p14 := pz x5_2;have q14 : x5_2 < ((aC ByteArray.empty t133 x4_1).size : Int) := oD (by assumption);have hx14 := cq (aC ByteArray.empty t133 x4_1) x5_2;replace p14 := eq_true p14;replace q14 := eq_true q14
          go_wp2_with (first | (refine gN (some 37) Tryz.func93 #[.int .u8 (bt (aC ByteArray.empty t133 x4_1) x5_2)] (cp.calls (bt (aC ByteArray.empty t133 x4_1) x5_2) true _ A15.out) ?_; intro nd))
          go_roundg k2
          case measure => have := HK1.out; have := HK2.out; omega
          case rel => exact ⟨(wrap64 (x5_2 + 1)), rf, H', ⟨by have := HK1.out; have := HK2.out; omega⟩, ⟨qR HO_3⟩, ⟨bb⟩⟩
         ·replace c16 := bE.mpr c16
          subst c16;replace H := nF H;obtain rfl := oI H;have p138 := pz x4_1;have q138 := qz x4_1 (t133.length : Int);obtain ⟨ad138, e138, hx138_0⟩ := Kd.at_string (rR HO_3.out).2.2 x4_1 p138 q138
          obtain rfl : ad136 = ad138 := (by injection e138)
          replace p138 := eq_true p138;replace q138 := eq_true q138;have p139 := pz x4_1;have q139 := qz x4_1 (t133.length : Int);obtain ⟨ad139, e139, hx139_0⟩ := Kd.at_string (rR HO_3.out).2.2 x4_1 p139 q139
          obtain rfl : ad136 = ad139 := (by injection e139)
          replace p139 := eq_true p139;replace q139 := eq_true q139;have p14 := pz x5_2;have q14 : x5_2 < ((aC ByteArray.empty t133 x4_1).size : Int) := oD (by assumption);have hx14 := cq (aC ByteArray.empty t133 x4_1) x5_2;replace p14 := eq_true p14;replace q14 := eq_true q14
          go_wp2_with (first | (refine gN (some 37) Tryz.func93 #[.int .u8 (bt (aC ByteArray.empty t133 x4_1) x5_2)] (cp.calls (bt (aC ByteArray.empty t133 x4_1) x5_2) false _ A15.out) ?_; intro nd))
          (go_ret);exact ⟨rfl, bb⟩
        ·rw [if_neg c12] at H
         have c12b0 := dF c12;clear c12;have H' := AM H;clear H;have p138 := pz x4_1;have q138 := qz x4_1 (t133.length : Int);obtain ⟨ad138, e138, hx138_0⟩ := Kd.at_string (rR HO_3.out).2.2 x4_1 p138 q138
         obtain rfl : ad136 = ad138 := (by injection e138)
         replace p138 := eq_true p138;replace q138 := eq_true q138;(go_wp2);(go_roundg k2)
         case measure => have := HK1.out; have := HK2.out; omega
         case rel => exact ⟨(wrap64 (x4_1 + 1)), rf, H', ⟨by have := HK1.out; have := HK2.out; omega⟩, ⟨qR HO_3⟩, ⟨bb⟩⟩
     ·replace c8 := bE.mpr c8
      subst c8;replace H := nF H;obtain rfl := oI H;obtain ⟨Ao17, co17, eo17⟩ := rS HO_3.out;subst eo17;have p136 := pz x4_1;have q136 := qz x4_1 (t133.length : Int);obtain ⟨ad136, e136, hx136_0⟩ := Kd.at_string (rR HO_3.out).2.2 x4_1 p136 q136;cases e136;replace p136 := eq_true p136;replace q136 := eq_true q136
      go_wp2_with (first | (refine gN (some 20) Tryz.func130 #[vS (aC ByteArray.empty t133 x4_1)] (aw.calls k1 (aC ByteArray.empty t133 x4_1) false _ A7.out) ?_; intro nd))
      (go_ret);exact ⟨rfl, bb⟩
    ·rw [if_neg c5] at H
     have c5b0 := dF c5;clear c5;obtain rfl := oI H;obtain ⟨Ao18, co18, eo18⟩ := rS HO_3.out;subst eo18;(go_wp2);(go_ret);exact ⟨rfl, bb⟩
def cS.l0 : Nat -> Int -> List ByteArray -> ByteArray -> ByteArray -> ByteArray -> Option (Bool)
 | 0, _, _, _, _, _ => none
 | k + 1, x3, x142000, x142001, x142002, x142003 => if x3 < (x142000.length : Int) then (if 0 <= x3 then ((aw.f k (aC ByteArray.empty x142000 x3)).bind fun t143 => (if t143 = true then (if 0 < ((aC ByteArray.empty x142000 x3).size : Int) then ((cH.f (bt (aC ByteArray.empty x142000 x3) 0)).bind fun t145 => (if t145 = true then (cS.l0 k (wrap64 (x3 + 1)) x142000 x142001 x142002 x142003) else (some false))) else (none)) else (some false))) else (none)) else (if (x142000.length : Int) <= 3 then ((ay.f k x142001).bind fun t146 => (if t146 = true then ((aw.f k x142002).bind fun t147 => (if t147 = true then (if 0 < (x142002.size : Int) then ((cH.f (bt x142002 0)).bind fun t148 => (if t148 = true then (if x142003.toList = ([] : List UInt8) then (some true) else ((aw.f k x142003).bind fun t149 => (some t149))) else (some false))) else (none)) else (some false))) else (some false))) else (some false))
def cS.f (k : Nat) (l0_0 : List ByteArray) (a0_1 a0_2 a0_3 : ByteArray) : Option (Bool) := cS.l0 k 0 l0_0 a0_1 a0_2 a0_3
theorem cS.calls (k : Nat) (A0_0 : Option Addr) (c0_0 : Nat) (l0_0 : List ByteArray) (a0_1 a0_2 a0_3 : ByteArray) (r : Bool) (w : World) (hr0_0 : Kd.C Kd.string w A0_0 l0_0.length l0_0) (hc0_0 : l0_0.length <= c0_0) (h : cS.f k l0_0 a0_1 a0_2 a0_3 = some r) :
  Calls Tryz.prog 94 #[.agg #[.slice A0_0 l0_0.length c0_0, vS a0_1, vS a0_2, vS a0_3]] w fun e w' => e = .returned (.bool r) /\ Below w.heap.size w w' := by
 have hu105 := Tryz.underlying105;have HR0_0 := AM hr0_0;have HC0_0 := AM hc0_0;clear hr0_0 hc0_0;have HB := AM (Below.refl w.heap.size w);have H := h;unfold cS.f at H;clear h;have H' := AM H;clear H;(go_enter Tryz.func94, Tryz.ntmps94)
 go_wp2_with (first | ((with_reducible refine gate_dst (N := 1) rfl ?_); refine bY w 1 (#[.slice A0_0 l0_0.length c0_0, vS a0_1, vS a0_2, vS a0_3]) 105 ?_; clear HB; intro gb141 w2 BK141 GW141 HB))
 go_loopg [3] k (fun kq v3 w' => ∃ (x3_1 : Int), v3 = .int .i64 x3_1 /\ Aside0 (cS.l0 kq x3_1 l0_0 a0_1 a0_2 a0_3 = some r) /\ Aside0 (kq <= k) /\ Aside0 (w'.heap[gb141]? = some (.cells #[(.slice A0_0 l0_0.length c0_0), vS a0_1, vS a0_2, vS a0_3] 105 (0, 0))) /\ Aside0 (Below w.heap.size w w'))
 case atStart => exact ⟨(0), rf, H', ⟨Nat.le_refl _⟩, ⟨kk BK141⟩, ⟨bb⟩⟩
 case round =>
  clear H';obtain ⟨x3_1, rfl, HA, HK1, BK141, HB⟩ := hrel
  cases gk with
  | zero => exact absurd HA.out (by simp [cS.l0])
  | succ k1 =>
   have H := HA.out;clear HA;simp only [cS.l0] at H;by_cases c3 : x3_1 < (l0_0.length : Int)
   ·rw [if_pos c3] at H
    have c3b0 := dT c3;clear c3;obtain ⟨c4, H⟩ := nI H;have c4b0 := dT c4;clear c4;obtain ⟨t143, A5, H⟩ := oA H;by_cases c6 : t143 = true
    ·subst c6
     rw [if_pos rfl] at H;obtain ⟨c7, H⟩ := nI H;have c7b0 := dT c7;have c7b1 : decide (0 < (aC ByteArray.empty l0_0 x3_1).size) = true := dT (by omega);clear c7;obtain ⟨t145, A9, H⟩ := oA H;have HC10 := AM H;clear H;obtain ⟨_,_,_,_⟩ := ar BK141.out;have p142 := pz x3_1;have q142 := qz x3_1 (l0_0.length : Int);obtain ⟨ad142, e142, hx142_0⟩ := Kd.at_string HR0_0.out x3_1 p142 q142;cases e142;replace hx142_0 := cU hx142_0;replace p142 := eq_true p142;replace q142 := eq_true q142
     go_upto_if 27 with (first | ((with_reducible refine gate_callee (f := 130) rfl ?_); refine gN (some 16) Tryz.func130 #[vS (aC ByteArray.empty l0_0 x3_1)] (aw.calls k1 (aC ByteArray.empty l0_0 x3_1) true _ A5.out) ?_; intro nd; have p144 := pz x3_1; have q144 := qz x3_1 (l0_0.length : Int); obtain ⟨ad144, e144, hx144_0⟩ := Kd.at_string HR0_0.out x3_1 p144 q144; obtain rfl : ad142 = ad144 := (by injection e144); replace hx144_0 := cU hx144_0; replace p144 := eq_true p144; replace q144 := eq_true q144; have p8 : 0 <= (0 : Int) := (by omega); have q8 : 0 < (aC ByteArray.empty l0_0 x3_1).size := (by have : (0 : Int) < ((aC ByteArray.empty l0_0 x3_1).size : Int) := oD (by assumption); omega); have hx8 : ∀ h : 0 < (aC ByteArray.empty l0_0 x3_1).size, (((aC ByteArray.empty l0_0 x3_1)[0]'h).toNat : Int) = bt (aC ByteArray.empty l0_0 x3_1) 0 := cq (aC ByteArray.empty l0_0 x3_1) 0; clear p8; have qi8 : (0 < ((aC ByteArray.empty l0_0 x3_1).size : Int)) = True := eq_true (oD (by assumption)); replace q8 := eq_true q8) | (go_at_call 131; (with_reducible refine (cH.calls (bt (aC ByteArray.empty l0_0 x3_1) 0) t145 _ A9.out).mono ?_); rintro e w' ⟨rfl, ⟨nd, rfl⟩⟩))
     (try (rw [eL wr]; generalize hq_ : World.drewN wr _ = wr; have n0_ : Aside0 (wr.heap[gb141]? = some (.cells #[.slice (some ad142) l0_0.length c0_0, vS a0_1, vS a0_2, vS a0_3] 105 (0, 0))) := ⟨by rw [<- hq_]; exact (kk BK141)⟩; have n1_ : Aside0 (Below w.heap.size w wr) := ⟨by rw [<- hq_]; exact bb⟩; clear BK141 HB hq_; have BK141 := n0_; have HB := n1_; clear n0_ n1_));have H := HC10.out;clear HC10;by_cases c12 : t145 = true
     ·subst c12
      rw [if_pos rfl] at H;have H' := AM H;clear H;(go_wp2);(go_roundg k1)
      case measure => have := HK1.out; omega
      case rel => exact ⟨(wrap64 (x3_1 + 1)), rf, H', ⟨by have := HK1.out; omega⟩, ⟨kk BK141⟩, ⟨bb⟩⟩
     ·replace c12 := bE.mpr c12
      subst c12;replace H := nF H;obtain rfl := oI H;(go_wp2);(go_ret);exact ⟨rfl, bb⟩
    ·replace c6 := bE.mpr c6
     subst c6;replace H := nF H;obtain rfl := oI H;obtain ⟨_,_,_,_⟩ := ar BK141.out;have p142 := pz x3_1;have q142 := qz x3_1 (l0_0.length : Int);obtain ⟨ad142, e142, hx142_0⟩ := Kd.at_string HR0_0.out x3_1 p142 q142;cases e142;replace hx142_0 := cU hx142_0;replace p142 := eq_true p142;replace q142 := eq_true q142
     go_wp2_with (first | ((with_reducible refine gate_callee (f := 130) rfl ?_); refine gN (some 16) Tryz.func130 #[vS (aC ByteArray.empty l0_0 x3_1)] (aw.calls k1 (aC ByteArray.empty l0_0 x3_1) false _ A5.out) ?_; intro nd))
     (go_ret);exact ⟨rfl, bb⟩
   ·rw [if_neg c3] at H
    have c3b0 := dF c3;clear c3;by_cases c14 : (l0_0.length : Int) <= 3
    ·rw [if_pos c14] at H
     have c14b0 := dT c14;have c14b1 : decide (l0_0.length <= 3) = true := dT (by omega);clear c14;obtain ⟨t146, A15, H⟩ := oA H;by_cases c16 : t146 = true
     ·subst c16
      rw [if_pos rfl] at H;obtain ⟨t147, A17, H⟩ := oA H;by_cases c18 : t147 = true
      ·subst c18
       rw [if_pos rfl] at H;obtain ⟨c19, H⟩ := nI H;have c19b0 := dT c19;have c19b1 : decide (0 < a0_2.size) = true := dT (by omega);clear c19;obtain ⟨t148, A21, H⟩ := oA H;by_cases c22 : t148 = true
       ·subst c22
        rw [if_pos rfl] at H;by_cases c23 : a0_3.toList = ([] : List UInt8)
        ·rw [if_pos c23] at H
         have c23b0 : (a0_3.toList == ([] : List UInt8)) = true := beq_iff_eq.mpr c23;have c23b1 : (a0_3.toList != ([] : List UInt8)) = false := bne_eq_false_iff_eq.mpr c23;clear c23;obtain rfl := oI H;obtain ⟨_,_,_,_⟩ := ar BK141.out
         go_wp2_with (first | (go_at_call 132; (with_reducible refine (ay.calls k1 a0_1 true _ A15.out).mono ?_); rintro e w25 ⟨rfl, hb⟩; replace BK141 := bK BK141 hb; replace HB := bH hb; (try clear hb); obtain ⟨_,_,_,_⟩ := ar BK141.out) | (go_at_call 130; (with_reducible refine (aw.calls k1 a0_2 true _ A17.out).mono ?_); rintro e w' ⟨rfl, ⟨nd, rfl⟩⟩; have p20 : 0 <= (0 : Int) := (by omega); have q20 : 0 < a0_2.size := (by have : (0 : Int) < (a0_2.size : Int) := oD (by assumption); omega); have hx20 : ∀ h : 0 < a0_2.size, ((a0_2[0]'h).toNat : Int) = bt a0_2 0 := cq a0_2 0; clear p20; have qi20 : (0 < (a0_2.size : Int)) = True := eq_true (oD (by assumption)); replace q20 := eq_true q20) | (go_at_call 131; (with_reducible refine (cH.calls (bt a0_2 0) true _ A21.out).mono ?_); rintro e w' ⟨rfl, ⟨nd, rfl⟩⟩))
         (go_ret);exact ⟨rfl, bb⟩
        ·rw [if_neg c23] at H
         have c23b0 : (a0_3.toList == ([] : List UInt8)) = false := beq_eq_false_iff_ne.mpr c23;have c23b1 : (a0_3.toList != ([] : List UInt8)) = true := bne_iff_ne.mpr c23;obtain ⟨t149, A27, H⟩ := oA H;obtain rfl := oI H;obtain ⟨_,_,_,_⟩ := ar BK141.out
         go_wp2_with (first | (go_at_call 132; (with_reducible refine (ay.calls k1 a0_1 true _ A15.out).mono ?_); rintro e w29 ⟨rfl, hb⟩; replace BK141 := bK BK141 hb; replace HB := bH hb; (try clear hb); obtain ⟨_,_,_,_⟩ := ar BK141.out) | (go_at_call 130; (with_reducible refine (aw.calls k1 a0_2 true _ A17.out).mono ?_); rintro e w' ⟨rfl, ⟨nd, rfl⟩⟩; have p20 : 0 <= (0 : Int) := (by omega); have q20 : 0 < a0_2.size := (by have : (0 : Int) < (a0_2.size : Int) := oD (by assumption); omega); have hx20 : ∀ h : 0 < a0_2.size, ((a0_2[0]'h).toNat : Int) = bt a0_2 0 := cq a0_2 0; clear p20; have qi20 : (0 < (a0_2.size : Int)) = True := eq_true (oD (by assumption)); replace q20 := eq_true q20) | (go_at_call 131; (with_reducible refine (cH.calls (bt a0_2 0) true _ A21.out).mono ?_); rintro e w' ⟨rfl, ⟨nd, rfl⟩⟩) | (go_at_call 130; (with_reducible refine (aw.calls k1 a0_3 t149 _ A27.out).mono ?_); rintro e w' ⟨rfl, ⟨nd, rfl⟩⟩))
         (go_ret);exact ⟨rfl, bb⟩
       ·replace c22 := bE.mpr c22
        subst c22;replace H := nF H;obtain rfl := oI H;obtain ⟨_,_,_,_⟩ := ar BK141.out
        go_wp2_with (first | (go_at_call 132; (with_reducible refine (ay.calls k1 a0_1 true _ A15.out).mono ?_); rintro e w32 ⟨rfl, hb⟩; replace BK141 := bK BK141 hb; replace HB := bH hb; (try clear hb); obtain ⟨_,_,_,_⟩ := ar BK141.out) | (go_at_call 130; (with_reducible refine (aw.calls k1 a0_2 true _ A17.out).mono ?_); rintro e w' ⟨rfl, ⟨nd, rfl⟩⟩; have p20 : 0 <= (0 : Int) := (by omega); have q20 : 0 < a0_2.size := (by have : (0 : Int) < (a0_2.size : Int) := oD (by assumption); omega); have hx20 : ∀ h : 0 < a0_2.size, ((a0_2[0]'h).toNat : Int) = bt a0_2 0 := cq a0_2 0; clear p20; have qi20 : (0 < (a0_2.size : Int)) = True := eq_true (oD (by assumption)); replace q20 := eq_true q20) | (go_at_call 131; (with_reducible refine (cH.calls (bt a0_2 0) false _ A21.out).mono ?_); rintro e w' ⟨rfl, ⟨nd, rfl⟩⟩))
        (go_ret);exact ⟨rfl, bb⟩
      ·replace c18 := bE.mpr c18
       subst c18;replace H := nF H;obtain rfl := oI H;obtain ⟨_,_,_,_⟩ := ar BK141.out
       go_wp2_with (first | (go_at_call 132; (with_reducible refine (ay.calls k1 a0_1 true _ A15.out).mono ?_); rintro e w35 ⟨rfl, hb⟩; replace BK141 := bK BK141 hb; replace HB := bH hb; (try clear hb); obtain ⟨_,_,_,_⟩ := ar BK141.out) | (go_at_call 130; (with_reducible refine (aw.calls k1 a0_2 false _ A17.out).mono ?_); rintro e w' ⟨rfl, ⟨nd, rfl⟩⟩))
       (go_ret);exact ⟨rfl, bb⟩
     ·replace c16 := bE.mpr c16
      subst c16;replace H := nF H;obtain rfl := oI H;obtain ⟨_,_,_,_⟩ := ar BK141.out
      go_wp2_with (first | (go_at_call 132; (with_reducible refine (ay.calls k1 a0_1 false _ A15.out).mono ?_); rintro e w38 ⟨rfl, hb⟩; replace BK141 := bK BK141 hb; replace HB := bH hb; (try clear hb)))
      (go_ret);exact ⟨rfl, bb⟩
    ·rw [if_neg c14] at H
     have c14b0 := dF c14;have c14b1 : decide (l0_0.length <= 3) = false := dF (by omega);clear c14;obtain rfl := oI H;obtain ⟨_,_,_,_⟩ := ar BK141.out;(go_wp2);(go_ret);exact ⟨rfl, bb⟩
mutual
def bf.l0 : Nat -> List (cg) -> Int -> Option (Bool)
 | 0, _, _ => none
 | k + 1, x0, x3 => if x3 < (x0.length : Int) then (bf.j1 k x0 x3 (decide (x3 <= 4))) else (bf.j1 k x0 x3 false)
def bf.j1 : Nat -> List (cg) -> Int -> Bool -> Option (Bool)
 | 0, _, _, _ => none
 | k + 1, x0, x3, x11 => if x11 = true then (if 0 <= x3 then (if x3 < (x0.length : Int) then ((cS.f k ((ah x0 x3).f0) ((ah x0 x3).f1) ((ah x0 x3).f2) ((ah x0 x3).f3)).bind fun t151 => (if t151 = true then (bf.l0 k x0 (wrap64 (x3 + 1))) else (some false))) else (none)) else (none)) else (some (decide ((x0.length : Int) <= 4)))
end
def bf.f (k : Nat) (l0 : List (cg)) : Option (Bool) := bf.l0 k l0 0
theorem bf.calls (k : Nat) (A0 : Option Addr) (c0 : Nat) (l0 : List (cg)) (r : Bool) (w : World) (hr0 : Kd.C dl w A0 l0.length l0) (hc0 : l0.length <= c0) (h : bf.f k l0 = some r) :
  Calls Tryz.prog 50 #[.slice A0 l0.length c0] w fun e w' => e = .returned (.bool r) /\ Below w.heap.size w w' := by
 have hu105 := Tryz.underlying105;have HR0 := AM hr0;have HC0 := AM hc0;clear hr0 hc0;have HB := AM (Below.refl w.heap.size w);have H := h;unfold bf.f at H;clear h;have H' := AM H;clear H;(go_enter Tryz.func50, Tryz.ntmps50);(go_wp2);(go_loopg [3] k (fun kq v3 w' => ∃ (x3_1 : Int), v3 = .int .i64 x3_1 /\ Aside0 (bf.l0 kq l0 x3_1 = some r) /\ Aside0 (kq <= k) /\ Aside0 (Below w.heap.size w w')))
 case atStart => exact ⟨(0), rf, H', ⟨Nat.le_refl _⟩, ⟨bb⟩⟩
 case round =>
  clear H';obtain ⟨x3_1, rfl, HA, HK1, HB⟩ := hrel
  cases gk with
  | zero => exact absurd HA.out (by simp [bf.l0])
  | succ k1 =>
   have H := HA.out;clear HA;simp only [bf.l0] at H;have HC2 := AM H;clear H
   go_upto_region 2 with (fail)
   go_cut [11] (fun v11 wc => ∃ (kq : Nat) (x11_1 : Bool), v11 = .bool x11_1 /\ Aside0 (bf.j1 kq l0 x3_1 x11_1 = some r) /\ Aside0 (kq <= k1) /\ Aside0 (Below w.heap.size w wc))
   case first =>
    have H := HC2.out;clear HC2;by_cases c3 : x3_1 < (l0.length : Int)
    ·rw [if_pos c3] at H
     have c3b0 := dT c3;clear c3;(first | rw [c3b0] | (simp only [aq, aA]; rw [c3b0]) | skip);have H' := AM H;clear H;(go_wp2);(go_meet)
     case rel => exact ⟨_, (decide (x3_1 <= 4)), rf, H', ⟨by have := HK1.out; first | omega | exact Nat.le_refl _⟩, ⟨bb⟩⟩
    ·rw [if_neg c3] at H
     have c3b0 := dF c3;clear c3;(first | rw [c3b0] | (simp only [aq, aA]; rw [c3b0]) | skip);have H' := AM H;clear H;(go_wp2);(go_meet)
     case rel => exact ⟨_, (false), rf, H', ⟨by have := HK1.out; first | omega | exact Nat.le_refl _⟩, ⟨bb⟩⟩
   case rest =>
    clear HC2;obtain ⟨kq, x11_1, rfl, HA, HJ1, HB⟩ := hcut
    cases kq with
    | zero => exact absurd HA.out (by simp [bf.j1])
    | succ kj1 =>
     have H := HA.out;clear HA;simp only [bf.j1] at H;by_cases c4 : x11_1 = true
     ·subst c4
      rw [if_pos rfl] at H;obtain ⟨c5, H⟩ := nI H;have c5b0 := dT c5;clear c5;obtain ⟨c6, H⟩ := nI H;have c6b0 := dT c6;clear c6;obtain ⟨t151, A7, H⟩ := oA H;by_cases c8 : t151 = true
      ·subst c8
       rw [if_pos rfl] at H;have H' := AM H;clear H;have p150 := pz x3_1;have q150 := qz x3_1 (l0.length : Int);obtain ⟨ad150, A150_0, c150_0, e150, hx150_0, hx150_1, hx150_2, hx150_3, hl150_0, hi150_0⟩ := fe HR0.out x3_1 p150 q150;cases e150;replace hx150_0 := cU hx150_0;replace hx150_1 := cU hx150_1;replace hx150_2 := cU hx150_2;replace hx150_3 := cU hx150_3;have HR150_0 := AM hi150_0;have HC150_0 := AM hl150_0;clear hi150_0 hl150_0;replace p150 := eq_true p150;replace q150 := eq_true q150
       go_wp2_with (first | ((with_reducible refine gate_callee (f := 94) rfl ?_); refine gZ (some 18) Tryz.func94 #[.agg #[.slice A150_0 ((ah l0 x3_1).f0).length c150_0, vS ((ah l0 x3_1).f1), vS ((ah l0 x3_1).f2), vS ((ah l0 x3_1).f3)]] (cS.calls kj1 _ _ ((ah l0 x3_1).f0) ((ah l0 x3_1).f1) ((ah l0 x3_1).f2) ((ah l0 x3_1).f3) true _ (cX HR150_0) HC150_0.out A7.out) ?_; intro w9 hb; replace HB := bH hb; (try clear hb)))
       go_roundg kj1
       case measure => have := HK1.out; have := HJ1.out; omega
       case rel => exact ⟨(wrap64 (x3_1 + 1)), rf, H', ⟨by have := HK1.out; have := HJ1.out; omega⟩, ⟨bb⟩⟩
      ·replace c8 := bE.mpr c8
       subst c8;replace H := nF H;obtain rfl := oI H;have p150 := pz x3_1;have q150 := qz x3_1 (l0.length : Int);obtain ⟨ad150, A150_0, c150_0, e150, hx150_0, hx150_1, hx150_2, hx150_3, hl150_0, hi150_0⟩ := fe HR0.out x3_1 p150 q150;cases e150;replace hx150_0 := cU hx150_0;replace hx150_1 := cU hx150_1;replace hx150_2 := cU hx150_2;replace hx150_3 := cU hx150_3;have HR150_0 := AM hi150_0;have HC150_0 := AM hl150_0;clear hi150_0 hl150_0;replace p150 := eq_true p150;replace q150 := eq_true q150
       go_wp2_with (first | ((with_reducible refine gate_callee (f := 94) rfl ?_); refine gZ (some 18) Tryz.func94 #[.agg #[.slice A150_0 ((ah l0 x3_1).f0).length c150_0, vS ((ah l0 x3_1).f1), vS ((ah l0 x3_1).f2), vS ((ah l0 x3_1).f3)]] (cS.calls kj1 _ _ ((ah l0 x3_1).f0) ((ah l0 x3_1).f1) ((ah l0 x3_1).f2) ((ah l0 x3_1).f3) false _ (cX HR150_0) HC150_0.out A7.out) ?_; intro w10 hb; replace HB := bH hb; (try clear hb)))
       (go_ret);exact ⟨rfl, bb⟩
     ·replace c4 := bE.mpr c4
      subst c4;replace H := nF H;obtain rfl := oI H;(go_wp2);(go_ret);exact ⟨rfl, bb⟩
def bz.l0 : Nat -> ByteArray -> Int -> Option (Bool)
 | 0, _, _ => none
 | k + 1, x0, x3 => if x3 < (x0.size : Int) then (if 0 <= x3 then (if (bt x0 x3) < 32 then (some false) else (if (bt x0 x3) > 126 then (some false) else (bz.l0 k x0 (wrap64 (x3 + 1))))) else (none)) else (if x0.toList = ([] : List UInt8) then (some true) else (if 0 < (x0.size : Int) then (if (bt x0 0) = 32 then (some false) else (if 0 <= (wrap64 ((x0.size : Int) - 1)) then (if (wrap64 ((x0.size : Int) - 1)) < (x0.size : Int) then (some ((bt x0 (wrap64 ((x0.size : Int) - 1))) != 32)) else (none)) else (none))) else (none)))
def bz.f (k : Nat) (a0 : ByteArray) : Option (Bool) := if (a0.size : Int) > 40 then (some false) else (bz.l0 k a0 0)
theorem bz.calls (k : Nat) (a0 : ByteArray) (r : Bool) (w : World) (h : bz.f k a0 = some r) :
  Calls Tryz.prog 51 #[.string a0] w fun e w' => e = .returned (.bool r) /\ aT w w' := by
 have H := h;unfold bz.f at H;clear h;by_cases c2 : (a0.size : Int) > 40;(·rw [if_pos c2] at H;have c2b0 : decide (40 < (a0.size : Int)) = true := dT c2;have c2b1 : decide (40 < a0.size) = true := dT (by omega);clear c2;obtain rfl := oI H;(go_enter Tryz.func51, Tryz.ntmps51);(go_wp2);(go_ret);exact ⟨rf, dR⟩)
 ·rw [if_neg c2] at H
  have c2b0 : decide (40 < (a0.size : Int)) = false := dF c2;have c2b1 : decide (40 < a0.size) = false := dF (by omega);clear c2;have H' := AM H;clear H;(go_enter Tryz.func51, Tryz.ntmps51);(go_wp2);(go_loopg [3] k (fun kq v3 w' => ∃ (x3_1 : Int), v3 = .int .i64 x3_1 /\ Aside0 (bz.l0 kq a0 x3_1 = some r) /\ Aside0 (kq <= k) /\ aT w w'))
  case atStart => exact ⟨(0), rf, H', ⟨Nat.le_refl _⟩, dR⟩
  case round =>
   clear H';obtain ⟨x3_1, rfl, HA, HK1, ⟨m1, rfl⟩⟩ := hrel
   cases gk with
   | zero => exact absurd HA.out (by simp [bz.l0])
   | succ k1 =>
    have H := HA.out;clear HA;simp only [bz.l0] at H;by_cases c3 : x3_1 < (a0.size : Int)
    ·rw [if_pos c3] at H
     have c3b0 := dT c3;clear c3;obtain ⟨c4, H⟩ := nI H;have c4b0 := dT c4;clear c4;by_cases c6 : (bt a0 x3_1) < 32;(·rw [if_pos c6] at H;have c6b0 := dT c6;clear c6;obtain rfl := oI H;have p5 := pz x3_1;have q5 := qz x3_1 (a0.size : Int);have hx5 := cq a0 x3_1;replace p5 := eq_true p5;replace q5 := eq_true q5;(go_wp2);(go_ret);exact ⟨rf, dR⟩)
     ·rw [if_neg c6] at H
      have c6b0 := dF c6;clear c6;by_cases c8 : (bt a0 x3_1) > 126;(·rw [if_pos c8] at H;have c8b0 : decide (126 < (bt a0 x3_1)) = true := dT c8;clear c8;obtain rfl := oI H;have p5 := pz x3_1;have q5 := qz x3_1 (a0.size : Int);have hx5 := cq a0 x3_1;replace p5 := eq_true p5;replace q5 := eq_true q5;have p7 := pz x3_1;have q7 := qz x3_1 (a0.size : Int);have hx7 := cq a0 x3_1;replace p7 := eq_true p7;replace q7 := eq_true q7;(go_wp2);(go_ret);exact ⟨rf, dR⟩)
      ·rw [if_neg c8] at H
       have c8b0 : decide (126 < (bt a0 x3_1)) = false := dF c8;clear c8;have H' := AM H;clear H;have p5 := pz x3_1;have q5 := qz x3_1 (a0.size : Int);have hx5 := cq a0 x3_1;replace p5 := eq_true p5;replace q5 := eq_true q5;have p7 := pz x3_1;have q7 := qz x3_1 (a0.size : Int);have hx7 := cq a0 x3_1;replace p7 := eq_true p7;replace q7 := eq_true q7;(go_wp2);(go_roundg k1)
       case measure => have := HK1.out; omega
       case rel => exact ⟨(wrap64 (x3_1 + 1)), rf, H', ⟨by have := HK1.out; omega⟩, dR⟩
    ·rw [if_neg c3] at H
     have c3b0 := dF c3;clear c3;by_cases c9 : a0.toList = ([] : List UInt8);(·rw [if_pos c9] at H;have c9b0 : (a0.toList == ([] : List UInt8)) = true := beq_iff_eq.mpr c9;have c9b1 : (a0.toList != ([] : List UInt8)) = false := bne_eq_false_iff_eq.mpr c9;clear c9;obtain rfl := oI H;(go_wp2);(go_ret);exact ⟨rf, dR⟩)
     ·rw [if_neg c9] at H
      have c9b0 : (a0.toList == ([] : List UInt8)) = false := beq_eq_false_iff_ne.mpr c9;have c9b1 : (a0.toList != ([] : List UInt8)) = true := bne_iff_ne.mpr c9;obtain ⟨c10, H⟩ := nI H;have c10b0 := dT c10;have c10b1 : decide (0 < a0.size) = true := dT (by omega);clear c10;by_cases c12 : (bt a0 0) = 32
      ·rw [if_pos c12] at H
       have c12b0 : ((bt a0 0) == 32) = true := beq_iff_eq.mpr c12;have c12b1 : ((bt a0 0) != 32) = false := bne_eq_false_iff_eq.mpr c12;clear c12;obtain rfl := oI H
       have p11 : 0 <= (0 : Int) := (by omega)
       have q11 : 0 < a0.size := (by have : (0 : Int) < (a0.size : Int) := oD (by assumption); omega)
       have hx11 : ∀ h : 0 < a0.size, ((a0[0]'h).toNat : Int) = bt a0 0 := cq a0 0;clear p11;have qi11 : (0 < (a0.size : Int)) = True := eq_true (oD (by assumption));replace q11 := eq_true q11;(go_wp2);(go_ret);exact ⟨rf, dR⟩
      ·rw [if_neg c12] at H
       have c12b0 : ((bt a0 0) == 32) = false := beq_eq_false_iff_ne.mpr c12;have c12b1 : ((bt a0 0) != 32) = true := bne_iff_ne.mpr c12
       obtain ⟨ji13, hji13⟩ : ∃ j_ : Int, (wrap64 ((a0.size : Int) - 1)) = j_ := ⟨_, rfl⟩
       replace H : (if 0 <= (ji13) then (if (ji13) < (a0.size : Int) then (some ((bt a0 (ji13)) != 32)) else (none)) else (none)) = some r := by first | (rw [hji13] at H; exact H) | (simp only [hji13] at H ⊢; exact H)
       have hji13w : (IntKind.i64.wrap ((a0.size : Int) - 1)) = ji13 := (aq _).trans hji13;obtain ⟨c14, H⟩ := nI H;have c14b0 := dT c14;clear c14;obtain ⟨c15, H⟩ := nI H;have c15b0 := dT c15;clear c15;obtain rfl := oI H
       have p11 : 0 <= (0 : Int) := (by omega)
       have q11 : 0 < a0.size := (by have : (0 : Int) < (a0.size : Int) := oD (by assumption); omega)
       have hx11 : ∀ h : 0 < a0.size, ((a0[0]'h).toNat : Int) = bt a0 0 := cq a0 0;clear p11;have qi11 : (0 < (a0.size : Int)) = True := eq_true (oD (by assumption));replace q11 := eq_true q11;have p16 : 0 <= ((ji13) : Int) := oD (by assumption);have q16 : (ji13) < (a0.size : Int) := oD (by assumption);have hx16 := cq a0 (ji13);replace p16 := eq_true p16;replace q16 := eq_true q16;(go_wp2);(go_ret);exact ⟨by first | rfl | (simp; done) | (simp only [<- hji13] <;> (first | rfl | simp)) | (simp [*]; done), dR⟩
def cZ.j0 : Nat -> Bool -> Option (Int)
 | 0, _ => none
 | k + 1, x19 => if x19 = true then (some 29) else (some 28)
def cZ.f (k : Nat) (a0 a1 : Int) : Option (Int) := if a1 = 2 then (if (Int.tmod a0 4) = 0 then (if (Int.tmod a0 100) = 0 then (cZ.j0 k ((Int.tmod a0 400) == 0)) else (cZ.j0 k true)) else (cZ.j0 k ((Int.tmod a0 400) == 0))) else (if a1 = 4 then (some 30) else (if a1 = 6 then (some 30) else (if a1 = 9 then (some 30) else (if a1 = 11 then (some 30) else (some 31)))))
theorem cZ.calls (k : Nat) (a0 a1 r : Int) (w : World) (h : cZ.f k a0 a1 = some r) :
  Calls Tryz.prog 95 #[.int .i64 a0, .int .i64 a1] w fun e w' => e = .returned (.int .i64 r) /\ aT w w' := by
 have H := h;unfold cZ.f at H;clear h;by_cases c3 : a1 = 2
 ·rw [if_pos c3] at H
  have c3b0 : (a1 == 2) = true := beq_iff_eq.mpr c3;have c3b1 : (a1 != 2) = false := bne_eq_false_iff_eq.mpr c3;clear c3;have HC4 := AM H;clear H;(go_enter Tryz.func95, Tryz.ntmps95)
  go_upto_region 2 with (fail)
  go_cut [19] (fun v19 wc => ∃ (kq : Nat) (x19_3 : Bool), v19 = .bool x19_3 /\ Aside0 (cZ.j0 kq x19_3 = some r) /\ Aside0 (kq <= k) /\ aT w wc)
  case first =>
   have H := HC4.out;clear HC4;by_cases c5 : (Int.tmod a0 4) = 0
   ·rw [if_pos c5] at H
    have c5b0 : ((Int.tmod a0 4) == 0) = true := beq_iff_eq.mpr c5;have c5b1 : ((Int.tmod a0 4) != 0) = false := bne_eq_false_iff_eq.mpr c5;clear c5;(first | rw [c5b0] | rw [c5b1] | (simp only [aq, aA]; rw [c5b0]) | skip);by_cases c6 : (Int.tmod a0 100) = 0
    ·rw [if_pos c6] at H
     have c6b0 : ((Int.tmod a0 100) == 0) = true := beq_iff_eq.mpr c6;have c6b1 : ((Int.tmod a0 100) != 0) = false := bne_eq_false_iff_eq.mpr c6;clear c6;have H' := AM H;clear H;(go_wp2);(go_meet)
     case rel => exact ⟨_, (((Int.tmod a0 400) == 0)), rf, H', ⟨lE⟩, dR⟩
    ·rw [if_neg c6] at H
     have c6b0 : ((Int.tmod a0 100) == 0) = false := beq_eq_false_iff_ne.mpr c6;have c6b1 : ((Int.tmod a0 100) != 0) = true := bne_iff_ne.mpr c6;have H' := AM H;clear H;(go_wp2);(go_meet)
     case rel => exact ⟨_, (true), rf, H', ⟨lE⟩, dR⟩
   ·rw [if_neg c5] at H
    have c5b0 : ((Int.tmod a0 4) == 0) = false := beq_eq_false_iff_ne.mpr c5;have c5b1 : ((Int.tmod a0 4) != 0) = true := bne_iff_ne.mpr c5;(first | rw [c5b0] | rw [c5b1] | (simp only [aq, aA]; rw [c5b0]) | skip);have H' := AM H;clear H;(go_wp2);(go_meet)
    case rel => exact ⟨_, (((Int.tmod a0 400) == 0)), rf, H', ⟨lE⟩, dR⟩
  case rest =>
   clear HC4;obtain ⟨kq, x19_3, rfl, HA, HJ3, ⟨mc3, rfl⟩⟩ := hcut
   cases kq with
   | zero => exact absurd HA.out (by simp [cZ.j0])
   | succ kj3 =>
    have H := HA.out;clear HA;simp only [cZ.j0] at H;by_cases c7 : x19_3 = true;(·subst c7;rw [if_pos rfl] at H;obtain rfl := oI H;(go_wp2);(go_ret);exact ⟨rf, dR⟩);(·replace c7 := Bool.eq_false_iff.mpr c7;subst c7;replace H := nF H;obtain rfl := oI H;(go_wp2);(go_ret);exact ⟨rf, dR⟩)
 ·rw [if_neg c3] at H
  have c3b0 : (a1 == 2) = false := beq_eq_false_iff_ne.mpr c3;have c3b1 : (a1 != 2) = true := bne_iff_ne.mpr c3;by_cases c8 : a1 = 4;(·rw [if_pos c8] at H;have c8b0 : (a1 == 4) = true := beq_iff_eq.mpr c8;have c8b1 : (a1 != 4) = false := bne_eq_false_iff_eq.mpr c8;clear c8;obtain rfl := oI H;(go_enter Tryz.func95, Tryz.ntmps95);(go_wp2);(go_ret);exact ⟨rf, dR⟩);(·rw [if_neg c8] at H;have c8b0 : (a1 == 4) = false := beq_eq_false_iff_ne.mpr c8;have c8b1 : (a1 != 4) = true := bne_iff_ne.mpr c8;by_cases c9 : a1 = 6;(·rw [if_pos c9] at H;have c9b0 : (a1 == 6) = true := beq_iff_eq.mpr c9;have c9b1 : (a1 != 6) = false := bne_eq_false_iff_eq.mpr c9;clear c9;obtain rfl := oI H;(go_enter Tryz.func95, Tryz.ntmps95);(go_wp2);(go_ret);exact ⟨rf, dR⟩);(·rw [if_neg c9] at H;have c9b0 : (a1 == 6) = false := beq_eq_false_iff_ne.mpr c9;have c9b1 : (a1 != 6) = true := bne_iff_ne.mpr c9;by_cases c10 : a1 = 9;(·rw [if_pos c10] at H;have c10b0 : (a1 == 9) = true := beq_iff_eq.mpr c10;have c10b1 : (a1 != 9) = false := bne_eq_false_iff_eq.mpr c10;clear c10;obtain rfl := oI H;(go_enter Tryz.func95, Tryz.ntmps95);(go_wp2);(go_ret);exact ⟨rf, dR⟩);(·rw [if_neg c10] at H;have c10b0 : (a1 == 9) = false := beq_eq_false_iff_ne.mpr c10;have c10b1 : (a1 != 9) = true := bne_iff_ne.mpr c10;by_cases c11 : a1 = 11;(·rw [if_pos c11] at H;have c11b0 : (a1 == 11) = true := beq_iff_eq.mpr c11;have c11b1 : (a1 != 11) = false := bne_eq_false_iff_eq.mpr c11;clear c11;obtain rfl := oI H;(go_enter Tryz.func95, Tryz.ntmps95);(go_wp2);(go_ret);exact ⟨rf, dR⟩);(·rw [if_neg c11] at H;have c11b0 : (a1 == 11) = false := beq_eq_false_iff_ne.mpr c11;have c11b1 : (a1 != 11) = true := bne_iff_ne.mpr c11;obtain rfl := oI H;(go_enter Tryz.func95, Tryz.ntmps95);(go_wp2);(go_ret);exact ⟨rf, dR⟩))))
attribute [local go_sem high] eqA48
def cP.j0 : Nat -> Bool -> Int -> Int -> Int -> Bool -> Option (Bool)
 | 0, _, _, _, _, _ => none
 | k + 1, x7, x153000, x153001, x153002, x153003 => if x7 = true then (some false) else (if x153003 = true then (if x153001 = 0 then (some (x153002 == 0)) else (some false)) else (if x153001 = 0 then (some (x153002 == 0)) else ((cZ.f k x153000 x153001).bind fun t155 => ((bm.f x153002 0 t155).bind fun t156 => (some t156)))))
def cP.f (k : Nat) (a0_0 a0_1 a0_2 : Int) (a0_3 : Bool) : Option (Bool) := if (a0_0 == 0 && (a0_1 == 0 && (a0_2 == 0 && (!a0_3)))) = true then (some true) else ((bm.f a0_0 1 2999).bind fun t153 => (if t153 = true then ((bm.f a0_1 0 12).bind fun t154 => (cP.j0 k (!t154) a0_0 a0_1 a0_2 a0_3)) else (cP.j0 k true a0_0 a0_1 a0_2 a0_3)))
theorem cP.calls (k : Nat) (a0_0 a0_1 a0_2 : Int) (a0_3 r : Bool) (w : World) (h : cP.f k a0_0 a0_1 a0_2 a0_3 = some r) :
  Calls Tryz.prog 52 #[.agg #[vI iK a0_0, vI iK a0_1, vI iK a0_2, vB a0_3]] w fun e w' => e = .returned (vB r) /\ Below w.heap.size w w' := by
 have hu48 := Tryz.underlying48;have HB := AM (Below.refl w.heap.size w);have H := h;unfold cP.f at H;clear h;have HC2 := AM H;clear H;(go_enter Tryz.func52, Tryz.ntmps52)
 go_upto_if 3 with (first | ((with_reducible refine gD (N := 1) rfl ?_); refine bY w 1 (#[vI iK a0_0, vI iK a0_1, vI iK a0_2, vB a0_3]) 48 ?_; clear HB; intro gb152 w3 BK152 GW152 HB; obtain ⟨z4_0, z4_1, z4_2, z4_3⟩ := ar BK152.out))
 (repeat (go_quiet (first | ((with_reducible refine gD (N := 1) rfl ?_); refine bY w 1 (#[vI iK a0_0, vI iK a0_1, vI iK a0_2, vB a0_3]) 48 ?_; clear HB; intro gb152 w3 BK152 GW152 HB; obtain ⟨z4_0, z4_1, z4_2, z4_3⟩ := ar BK152.out)); go_upto_if 3 with (first | ((with_reducible refine gD (N := 1) rfl ?_); refine bY w 1 (#[vI iK a0_0, vI iK a0_1, vI iK a0_2, vB a0_3]) 48 ?_; clear HB; intro gb152 w3 BK152 GW152 HB; obtain ⟨z4_0, z4_1, z4_2, z4_3⟩ := ar BK152.out))));have H := HC2.out;clear HC2;by_cases c5 : (a0_0 == 0 && (a0_1 == 0 && (a0_2 == 0 && (!a0_3)))) = true;(·rw [if_pos c5] at H;have c5b0 : (a0_0 == 0 && (a0_1 == 0 && (a0_2 == 0 && (!a0_3)))) = true := c5;(try (have c5b1 : decide (a0_0 = 0 && (a0_1 == 0 && (a0_2 == 0 && (!a0_3)))) = true := by simpa using c5));(try (have c5b2 : (a0_0 == 0 && (a0_1 == 0 && (a0_2 == 0 && (!a0_3)))) = true := by simpa using c5));clear c5;(first | rw [c5b0] | rw [c5b1] | rw [c5b2] | (simp only [aq, aA]; rw [c5b0]) | skip);obtain rfl := oI H;(go_wp2);(repeat (go_quiet (fail); try go_wp2));(go_ret);exact ⟨rfl, bb⟩)
 ·rw [if_neg c5] at H
  (have c5b0 : (a0_0 == 0 && (a0_1 == 0 && (a0_2 == 0 && (!a0_3)))) = false := by simpa using c5);(try (have c5b1 : decide (a0_0 = 0 && (a0_1 == 0 && (a0_2 == 0 && (!a0_3)))) = false := by simpa using c5));(try (have c5b2 : (a0_0 == 0 && (a0_1 == 0 && (a0_2 == 0 && (!a0_3)))) = false := by simpa using c5));(try (have c5b3 : ¬ (a0_0 = 0 && (a0_1 == 0 && (a0_2 == 0 && (!a0_3)))) := by simpa using c5));clear c5;(first | rw [c5b0] | rw [c5b1] | rw [c5b2] | (simp only [aq, aA]; rw [c5b0]) | skip);have HC6 := AM H;clear H
  go_upto_region 3 with (fail)
  (repeat (go_quiet (fail); go_upto_region 3 with (fail)));(go_cut [7] (fun v7 wc => ∃ (kq : Nat) (x7_5 : Bool), v7 = vB x7_5 /\ Aside0 (cP.j0 kq x7_5 a0_0 a0_1 a0_2 a0_3 = some r) /\ Aside0 (kq <= k) /\ Aside0 (wc.heap[gb152]? = some (.cells #[vI iK a0_0, vI iK a0_1, vI iK a0_2, vB a0_3] 48 (0, 0))) /\ Aside0 (Below w.heap.size w wc)))
  case first =>
   have H := HC6.out;clear HC6;obtain ⟨t153, A7, H⟩ := oA H;by_cases c8 : t153 = true
   ·subst c8
    rw [if_pos rfl] at H;obtain ⟨t154, A9, H⟩ := oA H;have H' := AM H;clear H;obtain ⟨z10_0, z10_1, z10_2, z10_3⟩ := ar BK152.out
    go_wp2_with (first | (go_at_call 49; (with_reducible refine (bm.calls a0_0 1 2999 true _ A7.out).mono ?_); rintro e w' ⟨rfl, ⟨nd, rfl⟩⟩; (try exact dd)) | (go_at_call 49; (with_reducible refine (bm.calls a0_1 0 12 t154 _ A9.out).mono ?_); rintro e w' ⟨rfl, ⟨nd, rfl⟩⟩; (try exact dd)))
    (repeat (go_quiet (first | (go_at_call 49; (with_reducible refine (bm.calls a0_0 1 2999 true _ A7.out).mono ?_); rintro e w' ⟨rfl, ⟨nd, rfl⟩⟩; (try exact dd)) | (go_at_call 49; (with_reducible refine (bm.calls a0_1 0 12 t154 _ A9.out).mono ?_); rintro e w' ⟨rfl, ⟨nd, rfl⟩⟩; (try exact dd))); try go_wp2_with (first | (go_at_call 49; (with_reducible refine (bm.calls a0_0 1 2999 true _ A7.out).mono ?_); rintro e w' ⟨rfl, ⟨nd, rfl⟩⟩; (try exact dd)) | (go_at_call 49; (with_reducible refine (bm.calls a0_1 0 12 t154 _ A9.out).mono ?_); rintro e w' ⟨rfl, ⟨nd, rfl⟩⟩; (try exact dd)))));(go_meet)
    case rel => exact ⟨_, (!t154), rf, H', ⟨lE⟩, ⟨by (with_reducible repeat (first | refine blk_drewN ?_ _ | refine blk_drew ?_ | refine blk_alloc ?_ _)); exact BK152.out⟩, ⟨bb⟩⟩
   ·replace c8 := bE.mpr c8
    subst c8;replace H := nF H;have H' := AM H;clear H;obtain ⟨z11_0, z11_1, z11_2, z11_3⟩ := ar BK152.out
    go_wp2_with (first | (go_at_call 49; (with_reducible refine (bm.calls a0_0 1 2999 false _ A7.out).mono ?_); rintro e w' ⟨rfl, ⟨nd, rfl⟩⟩; (try exact dd)))
    (repeat (go_quiet (first | (go_at_call 49; (with_reducible refine (bm.calls a0_0 1 2999 false _ A7.out).mono ?_); rintro e w' ⟨rfl, ⟨nd, rfl⟩⟩; (try exact dd))); try go_wp2_with (first | (go_at_call 49; (with_reducible refine (bm.calls a0_0 1 2999 false _ A7.out).mono ?_); rintro e w' ⟨rfl, ⟨nd, rfl⟩⟩; (try exact dd)))));(go_meet)
    case rel => exact ⟨_, (true), rf, H', ⟨lE⟩, ⟨by (with_reducible repeat (first | refine blk_drewN ?_ _ | refine blk_drew ?_ | refine blk_alloc ?_ _)); exact BK152.out⟩, ⟨bb⟩⟩
  case rest =>
   clear HC6;(try clear z10_0 z10_1 z10_2 z10_3);(try clear z11_0 z11_1 z11_2 z11_3);(try clear z4_0 z4_1 z4_2 z4_3);obtain ⟨kq, x7_5, rfl, HA, HJ5, BK152, HB⟩ := hcut
   cases kq with
   | zero => exact absurd HA.out (by simp [cP.j0])
   | succ kj5 =>
    have H := HA.out;clear HA;simp only [cP.j0] at H;by_cases c12 : x7_5 = true;(·subst c12;rw [if_pos rfl] at H;obtain rfl := oI H;(go_wp2);(repeat (go_quiet (fail); try go_wp2));(go_ret);exact ⟨rfl, bb⟩)
    ·replace c12 := bE.mpr c12
     subst c12;replace H := nF H;by_cases c13 : a0_3 = true;(·subst c13;rw [if_pos rfl] at H;by_cases c14 : a0_1 = 0;(·rw [if_pos c14] at H;have c14b0 : (a0_1 == 0) = true := beq_iff_eq.mpr c14;have c14b1 : (a0_1 != 0) = false := bne_eq_false_iff_eq.mpr c14;clear c14;obtain rfl := oI H;obtain ⟨_,_,_,_⟩ := ar BK152.out;(go_wp2);(repeat (go_quiet (fail); try go_wp2));(go_ret);exact ⟨rfl, bb⟩);(·rw [if_neg c14] at H;have c14b0 : (a0_1 == 0) = false := beq_eq_false_iff_ne.mpr c14;have c14b1 : (a0_1 != 0) = true := bne_iff_ne.mpr c14;obtain rfl := oI H;obtain ⟨_,_,_,_⟩ := ar BK152.out;(go_wp2);(repeat (go_quiet (fail); try go_wp2));(go_ret);exact ⟨rfl, bb⟩))
     ·replace c13 := bE.mpr c13
      subst c13;replace H := nF H;by_cases c17 : a0_1 = 0;(·rw [if_pos c17] at H;have c17b0 : (a0_1 == 0) = true := beq_iff_eq.mpr c17;have c17b1 : (a0_1 != 0) = false := bne_eq_false_iff_eq.mpr c17;clear c17;obtain rfl := oI H;obtain ⟨_,_,_,_⟩ := ar BK152.out;(go_wp2);(repeat (go_quiet (fail); try go_wp2));(go_ret);exact ⟨rfl, bb⟩)
      ·rw [if_neg c17] at H
       have c17b0 : (a0_1 == 0) = false := beq_eq_false_iff_ne.mpr c17;have c17b1 : (a0_1 != 0) = true := bne_iff_ne.mpr c17;obtain ⟨t155, A19, H⟩ := oA H;obtain ⟨t156, A20, H⟩ := oA H;obtain rfl := oI H;obtain ⟨_,_,_,_⟩ := ar BK152.out
       go_wp2_with (first | (go_at_call 95; (with_reducible refine (cZ.calls kj5 a0_0 a0_1 t155 _ A19.out).mono ?_); rintro e w' ⟨rfl, ⟨nd, rfl⟩⟩; (try exact dd)) | (go_at_call 49; (with_reducible refine (bm.calls a0_2 0 t155 t156 _ A20.out).mono ?_); rintro e w' ⟨rfl, ⟨nd, rfl⟩⟩; (try exact dd)))
       (repeat (go_quiet (first | (go_at_call 95; (with_reducible refine (cZ.calls kj5 a0_0 a0_1 t155 _ A19.out).mono ?_); rintro e w' ⟨rfl, ⟨nd, rfl⟩⟩; (try exact dd)) | (go_at_call 49; (with_reducible refine (bm.calls a0_2 0 t155 t156 _ A20.out).mono ?_); rintro e w' ⟨rfl, ⟨nd, rfl⟩⟩; (try exact dd))); try go_wp2_with (first | (go_at_call 95; (with_reducible refine (cZ.calls kj5 a0_0 a0_1 t155 _ A19.out).mono ?_); rintro e w' ⟨rfl, ⟨nd, rfl⟩⟩; (try exact dd)) | (go_at_call 49; (with_reducible refine (bm.calls a0_2 0 t155 t156 _ A20.out).mono ?_); rintro e w' ⟨rfl, ⟨nd, rfl⟩⟩; (try exact dd)))));(go_ret);exact ⟨rfl, bb⟩
mutual
def aK.j0 : Nat -> Bool -> ByteArray -> Int -> List (cg) -> List (cg) -> ByteArray -> ByteArray -> ByteArray -> Int -> Int -> Int -> Bool -> Int -> ByteArray -> ByteArray -> Option (Bool)
 | 0, _, _, _, _, _, _, _, _, _, _, _, _, _, _, _ => none
 | k + 1, x24, x158000, x158001, x158002, x158003, x158004, x158005, x158006, x158007, x158008, x158009, x158010, x158011, x158012, x158013 => if x24 = true then (some false) else ((bz.f k x158004).bind fun t162 => (if t162 = true then ((bz.f k x158005).bind fun t163 => (if t163 = true then ((bz.f k x158006).bind fun t164 => (if t164 = true then ((bz.f k x158012).bind fun t165 => (aK.j1 k (!t165) x158000 x158001 x158002 x158003 x158004 x158005 x158006 x158007 x158008 x158009 x158010 x158011 x158012 x158013)) else (aK.j1 k true x158000 x158001 x158002 x158003 x158004 x158005 x158006 x158007 x158008 x158009 x158010 x158011 x158012 x158013))) else (aK.j1 k true x158000 x158001 x158002 x158003 x158004 x158005 x158006 x158007 x158008 x158009 x158010 x158011 x158012 x158013))) else (aK.j1 k true x158000 x158001 x158002 x158003 x158004 x158005 x158006 x158007 x158008 x158009 x158010 x158011 x158012 x158013)))
def aK.j1 : Nat -> Bool -> ByteArray -> Int -> List (cg) -> List (cg) -> ByteArray -> ByteArray -> ByteArray -> Int -> Int -> Int -> Bool -> Int -> ByteArray -> ByteArray -> Option (Bool)
 | 0, _, _, _, _, _, _, _, _, _, _, _, _, _, _, _ => none
 | k + 1, x46, x158000, x158001, x158002, x158003, x158004, x158005, x158006, x158007, x158008, x158009, x158010, x158011, x158012, x158013 => if x46 = true then (some false) else ((cP.f k x158007 x158008 x158009 x158010).bind fun t166 => (if t166 = true then ((bm.f x158011 0 9999).bind fun t167 => (if t167 = true then (if x158013.toList = ([] : List UInt8) then (some true) else ((bq.f k x158013).bind fun t168 => (if t168 = true then (some (x158013.toList != x158000.toList)) else (some false)))) else (some false))) else (some false)))
end
def aK.f (k : Nat) (a0_0 : ByteArray) (a0_1 : Int) (l0_2 : List (cg)) (l0_3 : List (cg)) (a0_4 a0_5 a0_6 : ByteArray) (a0_7 a0_8 a0_9 : Int) (a0_10 : Bool) (a0_11 : Int) (a0_12 a0_13 : ByteArray) : Option (Bool) := (bq.f k a0_0).bind fun t158 => (if t158 = true then ((bm.f a0_1 1 4).bind fun t159 => (if t159 = true then ((bf.f k l0_2).bind fun t160 => (if t160 = true then ((bf.f k l0_3).bind fun t161 => (aK.j0 k (!t161) a0_0 a0_1 l0_2 l0_3 a0_4 a0_5 a0_6 a0_7 a0_8 a0_9 a0_10 a0_11 a0_12 a0_13)) else (aK.j0 k true a0_0 a0_1 l0_2 l0_3 a0_4 a0_5 a0_6 a0_7 a0_8 a0_9 a0_10 a0_11 a0_12 a0_13))) else (aK.j0 k true a0_0 a0_1 l0_2 l0_3 a0_4 a0_5 a0_6 a0_7 a0_8 a0_9 a0_10 a0_11 a0_12 a0_13))) else (aK.j0 k true a0_0 a0_1 l0_2 l0_3 a0_4 a0_5 a0_6 a0_7 a0_8 a0_9 a0_10 a0_11 a0_12 a0_13))
theorem aK.calls (k : Nat) (a0_0 : ByteArray) (a0_1 : Int) (A0_2 : Option Addr) (c0_2 : Nat) (l0_2 : List (cg)) (A0_3 : Option Addr) (c0_3 : Nat) (l0_3 : List (cg)) (a0_4 a0_5 a0_6 : ByteArray) (a0_7 a0_8 a0_9 : Int) (a0_10 : Bool) (a0_11 : Int) (a0_12 a0_13 : ByteArray) (r : Bool) (w : World) (hr0_2 : Kd.C dl w A0_2 l0_2.length l0_2) (hc0_2 : l0_2.length <= c0_2) (hr0_3 : Kd.C dl w A0_3 l0_3.length l0_3) (hc0_3 : l0_3.length <= c0_3) (h : aK.f k a0_0 a0_1 l0_2 l0_3 a0_4 a0_5 a0_6 a0_7 a0_8 a0_9 a0_10 a0_11 a0_12 a0_13 = some r) :
  Calls Tryz.prog 34 #[.agg #[vS a0_0, vI iK a0_1, vL A0_2 l0_2.length c0_2, vL A0_3 l0_3.length c0_3, vS a0_4, vS a0_5, vS a0_6, vI iK a0_7, vI iK a0_8, vI iK a0_9, vB a0_10, vI iK a0_11, vS a0_12, vS a0_13]] w fun e w' => e = .returned (vB r) /\ Below w.heap.size w w' := by
 have hu51 := Tryz.underlying51;have hu48 := Tryz.underlying48;have HR0_2 := AM hr0_2;have HC0_2 := AM hc0_2;clear hr0_2 hc0_2;have HR0_3 := AM hr0_3;have HC0_3 := AM hc0_3;clear hr0_3 hc0_3;have HB := AM (Below.refl w.heap.size w);have H := h;unfold aK.f at H;clear h;have HC2 := AM H;clear H;(go_enter Tryz.func34, Tryz.ntmps34)
 go_upto_region 1 with (first | ((with_reducible refine gate_dst (N := 1) rfl ?_); refine bY w 1 (#[vS a0_0, vI iK a0_1, vL A0_2 l0_2.length c0_2, vL A0_3 l0_3.length c0_3, vS a0_4, vS a0_5, vS a0_6, vI iK a0_7, vI iK a0_8, vI iK a0_9, vB a0_10, vI iK a0_11, vS a0_12, vS a0_13]) 51 ?_; clear HB; intro gb157 w3 BK157 GW157 HB))
 (try simp only [Act.put, List.setIfInBounds_toArray, List.set_cons_zero, List.set_cons_succ]);(go_cut [24] (fun v24 wc => ∃ (kq : Nat) (x24_1 : Bool), v24 = vB x24_1 /\ Aside0 (aK.j0 kq x24_1 a0_0 a0_1 l0_2 l0_3 a0_4 a0_5 a0_6 a0_7 a0_8 a0_9 a0_10 a0_11 a0_12 a0_13 = some r) /\ Aside0 (kq <= k) /\ Aside0 (wc.heap[gb157]? = some (.cells #[vS a0_0, vI iK a0_1, (vL A0_2 l0_2.length c0_2), (vL A0_3 l0_3.length c0_3), vS a0_4, vS a0_5, vS a0_6, vI iK a0_7, vI iK a0_8, vI iK a0_9, vB a0_10, vI iK a0_11, vS a0_12, vS a0_13] 51 (0, 0))) /\ Aside0 (Below w.heap.size w wc)))
 case first =>
  have H := HC2.out;clear HC2;obtain ⟨t158, A4, H⟩ := oA H;by_cases c5 : t158 = true
  ·subst c5
   rw [if_pos rfl] at H;obtain ⟨t159, A6, H⟩ := oA H;by_cases c7 : t159 = true
   ·subst c7
    rw [if_pos rfl] at H;obtain ⟨t160, A8, H⟩ := oA H;by_cases c9 : t160 = true
    ·subst c9
     rw [if_pos rfl] at H;obtain ⟨t161, A10, H⟩ := oA H;have H' := AM H;clear H;obtain ⟨z11_0, z11_1, z11_2, z11_3, z11_4, z11_5, z11_6, z11_7, z11_8, z11_9, z11_10, z11_11, z11_12, z11_13⟩ := ao BK157.out
     go_wp2_with (first | ((with_reducible refine gC (f := 48) rfl ?_); refine gN (some 5) Tryz.func48 #[vS a0_0] (bq.calls k a0_0 true _ A4.out) ?_; intro nd) | (go_at_call 49; (with_reducible refine (bm.calls a0_1 1 4 true _ A6.out).mono ?_); rintro e w' ⟨rfl, ⟨nd, rfl⟩⟩) | (go_at_call 50; (with_reducible refine (bf.calls k _ _ l0_2 true _ ?side1 HC0_2.out A8.out).mono ?_); (case side1 => exact (cB HR0_2.out bb)); rintro e w12 ⟨rfl, hb⟩; replace BK157 := bK BK157 hb; replace HB := bH hb; (try clear hb); obtain ⟨z13_0, z13_1, z13_2, z13_3, z13_4, z13_5, z13_6, z13_7, z13_8, z13_9, z13_10, z13_11, z13_12, z13_13⟩ := ao BK157.out) | (go_at_call 50; (with_reducible refine (bf.calls k _ _ l0_3 t161 _ (cX HR0_3) HC0_3.out A10.out).mono ?_); rintro e w14 ⟨rfl, hb⟩; replace BK157 := bK BK157 hb; replace HB := bH hb; (try clear hb)))
     go_meet
     case rel => exact ⟨_, (!t161), rf, H', ⟨lE⟩, ⟨kk BK157⟩, ⟨bb⟩⟩
    ·replace c9 := bE.mpr c9
     subst c9;replace H := nF H;have H' := AM H;clear H;obtain ⟨z15_0, z15_1, z15_2, z15_3, z15_4, z15_5, z15_6, z15_7, z15_8, z15_9, z15_10, z15_11, z15_12, z15_13⟩ := ao BK157.out
     go_wp2_with (first | ((with_reducible refine gC (f := 48) rfl ?_); refine gN (some 5) Tryz.func48 #[vS a0_0] (bq.calls k a0_0 true _ A4.out) ?_; intro nd) | (go_at_call 49; (with_reducible refine (bm.calls a0_1 1 4 true _ A6.out).mono ?_); rintro e w' ⟨rfl, ⟨nd, rfl⟩⟩) | (go_at_call 50; (with_reducible refine (bf.calls k _ _ l0_2 false _ ?side1 HC0_2.out A8.out).mono ?_); (case side1 => exact (cB HR0_2.out bb)); rintro e w16 ⟨rfl, hb⟩; replace BK157 := bK BK157 hb; replace HB := bH hb; (try clear hb)))
     go_meet
     case rel => exact ⟨_, (true), rf, H', ⟨lE⟩, ⟨kk BK157⟩, ⟨bb⟩⟩
   ·replace c7 := bE.mpr c7
    subst c7;replace H := nF H;have H' := AM H;clear H;obtain ⟨z17_0, z17_1, z17_2, z17_3, z17_4, z17_5, z17_6, z17_7, z17_8, z17_9, z17_10, z17_11, z17_12, z17_13⟩ := ao BK157.out
    go_wp2_with (first | ((with_reducible refine gC (f := 48) rfl ?_); refine gN (some 5) Tryz.func48 #[vS a0_0] (bq.calls k a0_0 true _ A4.out) ?_; intro nd) | (go_at_call 49; (with_reducible refine (bm.calls a0_1 1 4 false _ A6.out).mono ?_); rintro e w' ⟨rfl, ⟨nd, rfl⟩⟩))
    go_meet
    case rel => exact ⟨_, (true), rf, H', ⟨lE⟩, ⟨kk BK157⟩, ⟨bb⟩⟩
  ·replace c5 := bE.mpr c5
   subst c5;replace H := nF H;have H' := AM H;clear H;obtain ⟨z18_0, z18_1, z18_2, z18_3, z18_4, z18_5, z18_6, z18_7, z18_8, z18_9, z18_10, z18_11, z18_12, z18_13⟩ := ao BK157.out
   go_wp2_with (first | ((with_reducible refine gC (f := 48) rfl ?_); refine gN (some 5) Tryz.func48 #[vS a0_0] (bq.calls k a0_0 false _ A4.out) ?_; intro nd))
   go_meet
   case rel => exact ⟨_, (true), rf, H', ⟨lE⟩, ⟨kk BK157⟩, ⟨bb⟩⟩
 case rest =>
  clear HC2;(try clear z11_0 z11_1 z11_10 z11_11 z11_12 z11_13 z11_2 z11_3 z11_4 z11_5 z11_6 z11_7 z11_8 z11_9);(try clear z13_0 z13_1 z13_10 z13_11 z13_12 z13_13 z13_2 z13_3 z13_4 z13_5 z13_6 z13_7 z13_8 z13_9);(try clear z15_0 z15_1 z15_10 z15_11 z15_12 z15_13 z15_2 z15_3 z15_4 z15_5 z15_6 z15_7 z15_8 z15_9);(try clear z17_0 z17_1 z17_10 z17_11 z17_12 z17_13 z17_2 z17_3 z17_4 z17_5 z17_6 z17_7 z17_8 z17_9);(try clear z18_0 z18_1 z18_10 z18_11 z18_12 z18_13 z18_2 z18_3 z18_4 z18_5 z18_6 z18_7 z18_8 z18_9);obtain ⟨kq, x24_1, rfl, HA, HJ1, BK157, HB⟩ := hcut
  cases kq with
  | zero => exact absurd HA.out (by simp [aK.j0])
  | succ kj1 =>
   have H := HA.out;clear HA;simp only [aK.j0] at H;by_cases c19 : x24_1 = true;(·subst c19;rw [if_pos rfl] at H;obtain rfl := oI H;(go_wp2);(go_ret);exact ⟨rfl, bb⟩)
   ·replace c19 := bE.mpr c19
    subst c19;replace H := nF H;have HC20 := AM H;clear H
    go_upto_region 3 with (fail)
    go_cut [46] (fun v46 wc => ∃ (kq : Nat) (x46_19 : Bool), v46 = vB x46_19 /\ Aside0 (aK.j1 kq x46_19 a0_0 a0_1 l0_2 l0_3 a0_4 a0_5 a0_6 a0_7 a0_8 a0_9 a0_10 a0_11 a0_12 a0_13 = some r) /\ Aside0 (kq <= kj1) /\ Aside0 (wc.heap[gb157]? = some (.cells #[vS a0_0, vI iK a0_1, (vL A0_2 l0_2.length c0_2), (vL A0_3 l0_3.length c0_3), vS a0_4, vS a0_5, vS a0_6, vI iK a0_7, vI iK a0_8, vI iK a0_9, vB a0_10, vI iK a0_11, vS a0_12, vS a0_13] 51 (0, 0))) /\ Aside0 (Below w.heap.size w wc))
    case first =>
     have H := HC20.out;clear HC20;obtain ⟨t162, A21, H⟩ := oA H;by_cases c22 : t162 = true
     ·subst c22
      rw [if_pos rfl] at H;obtain ⟨t163, A23, H⟩ := oA H;by_cases c24 : t163 = true
      ·subst c24
       rw [if_pos rfl] at H;obtain ⟨t164, A25, H⟩ := oA H;by_cases c26 : t164 = true
       ·subst c26
        rw [if_pos rfl] at H;obtain ⟨t165, A27, H⟩ := oA H;have H' := AM H;clear H;obtain ⟨z28_0, z28_1, z28_2, z28_3, z28_4, z28_5, z28_6, z28_7, z28_8, z28_9, z28_10, z28_11, z28_12, z28_13⟩ := ao BK157.out
        go_wp2_with (first | ((with_reducible refine gC (f := 51) rfl ?_); refine gN (some 27) Tryz.func51 #[vS a0_4] (bz.calls kj1 a0_4 true _ A21.out) ?_; intro nd) | (go_at_call 51; (with_reducible refine (bz.calls kj1 a0_5 true _ A23.out).mono ?_); rintro e w' ⟨rfl, ⟨nd, rfl⟩⟩) | (go_at_call 51; (with_reducible refine (bz.calls kj1 a0_6 true _ A25.out).mono ?_); rintro e w' ⟨rfl, ⟨nd, rfl⟩⟩) | (go_at_call 51; (with_reducible refine (bz.calls kj1 a0_12 t165 _ A27.out).mono ?_); rintro e w' ⟨rfl, ⟨nd, rfl⟩⟩))
        go_meet
        case rel => exact ⟨_, (!t165), rf, H', ⟨by have := HJ1.out; first | omega | exact Nat.le_refl _⟩, ⟨kk BK157⟩, ⟨bb⟩⟩
       ·replace c26 := bE.mpr c26
        subst c26;replace H := nF H;have H' := AM H;clear H;obtain ⟨z29_0, z29_1, z29_2, z29_3, z29_4, z29_5, z29_6, z29_7, z29_8, z29_9, z29_10, z29_11, z29_12, z29_13⟩ := ao BK157.out
        go_wp2_with (first | ((with_reducible refine gC (f := 51) rfl ?_); refine gN (some 27) Tryz.func51 #[vS a0_4] (bz.calls kj1 a0_4 true _ A21.out) ?_; intro nd) | (go_at_call 51; (with_reducible refine (bz.calls kj1 a0_5 true _ A23.out).mono ?_); rintro e w' ⟨rfl, ⟨nd, rfl⟩⟩) | (go_at_call 51; (with_reducible refine (bz.calls kj1 a0_6 false _ A25.out).mono ?_); rintro e w' ⟨rfl, ⟨nd, rfl⟩⟩))
        go_meet
        case rel => exact ⟨_, (true), rf, H', ⟨by have := HJ1.out; first | omega | exact Nat.le_refl _⟩, ⟨kk BK157⟩, ⟨bb⟩⟩
      ·replace c24 := bE.mpr c24
       subst c24;replace H := nF H;have H' := AM H;clear H;obtain ⟨z30_0, z30_1, z30_2, z30_3, z30_4, z30_5, z30_6, z30_7, z30_8, z30_9, z30_10, z30_11, z30_12, z30_13⟩ := ao BK157.out
       go_wp2_with (first | ((with_reducible refine gC (f := 51) rfl ?_); refine gN (some 27) Tryz.func51 #[vS a0_4] (bz.calls kj1 a0_4 true _ A21.out) ?_; intro nd) | (go_at_call 51; (with_reducible refine (bz.calls kj1 a0_5 false _ A23.out).mono ?_); rintro e w' ⟨rfl, ⟨nd, rfl⟩⟩))
       go_meet
       case rel => exact ⟨_, (true), rf, H', ⟨by have := HJ1.out; first | omega | exact Nat.le_refl _⟩, ⟨kk BK157⟩, ⟨bb⟩⟩
     ·replace c22 := bE.mpr c22
      subst c22;replace H := nF H;have H' := AM H;clear H;obtain ⟨z31_0, z31_1, z31_2, z31_3, z31_4, z31_5, z31_6, z31_7, z31_8, z31_9, z31_10, z31_11, z31_12, z31_13⟩ := ao BK157.out
      go_wp2_with (first | ((with_reducible refine gC (f := 51) rfl ?_); refine gN (some 27) Tryz.func51 #[vS a0_4] (bz.calls kj1 a0_4 false _ A21.out) ?_; intro nd))
      go_meet
      case rel => exact ⟨_, (true), rf, H', ⟨by have := HJ1.out; first | omega | exact Nat.le_refl _⟩, ⟨kk BK157⟩, ⟨bb⟩⟩
    case rest =>
     clear HC20;(try clear z11_0 z11_1 z11_10 z11_11 z11_12 z11_13 z11_2 z11_3 z11_4 z11_5 z11_6 z11_7 z11_8 z11_9);(try clear z13_0 z13_1 z13_10 z13_11 z13_12 z13_13 z13_2 z13_3 z13_4 z13_5 z13_6 z13_7 z13_8 z13_9);(try clear z15_0 z15_1 z15_10 z15_11 z15_12 z15_13 z15_2 z15_3 z15_4 z15_5 z15_6 z15_7 z15_8 z15_9);(try clear z17_0 z17_1 z17_10 z17_11 z17_12 z17_13 z17_2 z17_3 z17_4 z17_5 z17_6 z17_7 z17_8 z17_9);(try clear z18_0 z18_1 z18_10 z18_11 z18_12 z18_13 z18_2 z18_3 z18_4 z18_5 z18_6 z18_7 z18_8 z18_9);(try clear z28_0 z28_1 z28_10 z28_11 z28_12 z28_13 z28_2 z28_3 z28_4 z28_5 z28_6 z28_7 z28_8 z28_9);(try clear z29_0 z29_1 z29_10 z29_11 z29_12 z29_13 z29_2 z29_3 z29_4 z29_5 z29_6 z29_7 z29_8 z29_9);(try clear z30_0 z30_1 z30_10 z30_11 z30_12 z30_13 z30_2 z30_3 z30_4 z30_5 z30_6 z30_7 z30_8 z30_9);(try clear z31_0 z31_1 z31_10 z31_11 z31_12 z31_13 z31_2 z31_3 z31_4 z31_5 z31_6 z31_7 z31_8 z31_9);obtain ⟨kq, x46_19, rfl, HA, HJ19, BK157, HB⟩ := hcut
     cases kq with
     | zero => exact absurd HA.out (by simp [aK.j1])
     | succ kj19 =>
      have H := HA.out;clear HA;simp only [aK.j1] at H;by_cases c32 : x46_19 = true;(·subst c32;rw [if_pos rfl] at H;obtain rfl := oI H;(go_wp2);(go_ret);exact ⟨rfl, bb⟩)
      ·replace c32 := bE.mpr c32
       subst c32;replace H := nF H;obtain ⟨t166, A33, H⟩ := oA H;by_cases c34 : t166 = true
       ·subst c34
        rw [if_pos rfl] at H;obtain ⟨t167, A35, H⟩ := oA H;by_cases c36 : t167 = true
        ·subst c36
         rw [if_pos rfl] at H;by_cases c37 : a0_13.toList = ([] : List UInt8)
         ·rw [if_pos c37] at H
          have c37b0 : (a0_13.toList == ([] : List UInt8)) = true := beq_iff_eq.mpr c37;have c37b1 : (a0_13.toList != ([] : List UInt8)) = false := bne_eq_false_iff_eq.mpr c37;clear c37;obtain rfl := oI H;obtain ⟨_,_,_,_,_,_,_,_,_,_,_,_,_,_⟩ := ao BK157.out
          go_wp2_with (first | ((with_reducible refine gC (f := 52) rfl ?_); refine gZ (some 49) Tryz.func52 #[.agg #[vI iK a0_7, vI iK a0_8, vI iK a0_9, vB a0_10]] (cP.calls kj19 a0_7 a0_8 a0_9 a0_10 true _ A33.out) ?_; intro w39 hb; replace BK157 := bK BK157 hb; replace HB := bH hb; (try clear hb); obtain ⟨_,_,_,_,_,_,_,_,_,_,_,_,_,_⟩ := ao BK157.out) | (go_at_call 49; (with_reducible refine (bm.calls a0_11 0 9999 true _ A35.out).mono ?_); rintro e w' ⟨rfl, ⟨nd, rfl⟩⟩))
          (go_ret);exact ⟨rfl, bb⟩
         ·rw [if_neg c37] at H
          have c37b0 : (a0_13.toList == ([] : List UInt8)) = false := beq_eq_false_iff_ne.mpr c37;have c37b1 : (a0_13.toList != ([] : List UInt8)) = true := bne_iff_ne.mpr c37;obtain ⟨t168, A41, H⟩ := oA H;by_cases c42 : t168 = true
          ·subst c42
           rw [if_pos rfl] at H;obtain rfl := oI H;obtain ⟨_,_,_,_,_,_,_,_,_,_,_,_,_,_⟩ := ao BK157.out
           go_wp2_with (first | ((with_reducible refine gC (f := 52) rfl ?_); refine gZ (some 49) Tryz.func52 #[.agg #[vI iK a0_7, vI iK a0_8, vI iK a0_9, vB a0_10]] (cP.calls kj19 a0_7 a0_8 a0_9 a0_10 true _ A33.out) ?_; intro w44 hb; replace BK157 := bK BK157 hb; replace HB := bH hb; (try clear hb); obtain ⟨_,_,_,_,_,_,_,_,_,_,_,_,_,_⟩ := ao BK157.out) | (go_at_call 49; (with_reducible refine (bm.calls a0_11 0 9999 true _ A35.out).mono ?_); rintro e w' ⟨rfl, ⟨nd, rfl⟩⟩) | (go_at_call 48; (with_reducible refine (bq.calls kj19 a0_13 true _ A41.out).mono ?_); rintro e w' ⟨rfl, ⟨nd, rfl⟩⟩))
           (go_ret);exact ⟨rfl, bb⟩
          ·replace c42 := bE.mpr c42
           subst c42;replace H := nF H;obtain rfl := oI H;obtain ⟨_,_,_,_,_,_,_,_,_,_,_,_,_,_⟩ := ao BK157.out
           go_wp2_with (first | ((with_reducible refine gC (f := 52) rfl ?_); refine gZ (some 49) Tryz.func52 #[.agg #[vI iK a0_7, vI iK a0_8, vI iK a0_9, vB a0_10]] (cP.calls kj19 a0_7 a0_8 a0_9 a0_10 true _ A33.out) ?_; intro w47 hb; replace BK157 := bK BK157 hb; replace HB := bH hb; (try clear hb); obtain ⟨_,_,_,_,_,_,_,_,_,_,_,_,_,_⟩ := ao BK157.out) | (go_at_call 49; (with_reducible refine (bm.calls a0_11 0 9999 true _ A35.out).mono ?_); rintro e w' ⟨rfl, ⟨nd, rfl⟩⟩) | (go_at_call 48; (with_reducible refine (bq.calls kj19 a0_13 false _ A41.out).mono ?_); rintro e w' ⟨rfl, ⟨nd, rfl⟩⟩))
           (go_ret);exact ⟨rfl, bb⟩
        ·replace c36 := bE.mpr c36
         subst c36;replace H := nF H;obtain rfl := oI H;obtain ⟨_,_,_,_,_,_,_,_,_,_,_,_,_,_⟩ := ao BK157.out
         go_wp2_with (first | ((with_reducible refine gC (f := 52) rfl ?_); refine gZ (some 49) Tryz.func52 #[.agg #[vI iK a0_7, vI iK a0_8, vI iK a0_9, vB a0_10]] (cP.calls kj19 a0_7 a0_8 a0_9 a0_10 true _ A33.out) ?_; intro w50 hb; replace BK157 := bK BK157 hb; replace HB := bH hb; (try clear hb); obtain ⟨_,_,_,_,_,_,_,_,_,_,_,_,_,_⟩ := ao BK157.out) | (go_at_call 49; (with_reducible refine (bm.calls a0_11 0 9999 false _ A35.out).mono ?_); rintro e w' ⟨rfl, ⟨nd, rfl⟩⟩))
         (go_ret);exact ⟨rfl, bb⟩
       ·replace c34 := bE.mpr c34
        subst c34;replace H := nF H;obtain rfl := oI H;obtain ⟨_,_,_,_,_,_,_,_,_,_,_,_,_,_⟩ := ao BK157.out
        go_wp2_with (first | ((with_reducible refine gC (f := 52) rfl ?_); refine gZ (some 49) Tryz.func52 #[.agg #[vI iK a0_7, vI iK a0_8, vI iK a0_9, vB a0_10]] (cP.calls kj19 a0_7 a0_8 a0_9 a0_10 false _ A33.out) ?_; intro w53 hb; replace BK157 := bK BK157 hb; replace HB := bH hb; (try clear hb)))
        (go_ret);exact ⟨rfl, bb⟩
def bh.l0 : Nat -> Int -> List (S51) -> Option (Bool)
 | 0, _, _ => none
 | k + 1, x3, x170000 => if x3 < (x170000.length : Int) then (if 0 <= x3 then ((aK.f k ((aa x170000 x3).f0) ((aa x170000 x3).f1) ((aa x170000 x3).f2) ((aa x170000 x3).f3) ((aa x170000 x3).f4) ((aa x170000 x3).f5) ((aa x170000 x3).f6) ((aa x170000 x3).f7.f0) ((aa x170000 x3).f7.f1) ((aa x170000 x3).f7.f2) ((aa x170000 x3).f7.f3) ((aa x170000 x3).f8) ((aa x170000 x3).f9) ((aa x170000 x3).f10)).bind fun t171 => (if t171 = true then (if x3 > 0 then (if 0 <= (wrap64 (x3 - 1)) then (if (wrap64 (x3 - 1)) < (x170000.length : Int) then (if ((Op.bytesLess (((aa x170000 (wrap64 (x3 - 1))).f0).toList) (((aa x170000 x3).f0).toList)) = true) then (bh.l0 k (wrap64 (x3 + 1)) x170000) else (some false)) else (none)) else (none)) else (bh.l0 k (wrap64 (x3 + 1)) x170000)) else (some false))) else (none)) else (some true)
def bh.f (k : Nat) (l0_0 : List (S51)) : Option (Bool) := if (l0_0.length : Int) > 8 then (some false) else (bh.l0 k 0 l0_0)
def bh.T6 : Bool × List (List Nat × List Nat) := (true, [([], []), ([0], [0]), ([], []), ([1, 2], [1, 2]), ([3], [3]), ([4], [4]), ([5], [5]), ([6, 5], [6]), ([7], [7]), ([8, 7], [7, 8]), ([9, 7, 7], [7, 9]), ([10], [10]), ([11, 10], [10, 11]), ([10], [10]), ([13, 10], [10, 13]), ([12, 14, 10], [10, 12, 14]), ([15, 10], [10, 15]), ([16, 10], [10, 16]), ([10], [10]), ([18, 10], [10, 18]), ([10], [10]), ([19, 20, 10], [10, 19, 20]), ([21, 10], [10, 21]), ([22, 10], [10, 22]), ([17, 23, 10], [10, 17, 23]), ([10, 24, 7], [7, 10, 24]), ([7, 25], [7, 25])])
def bh.B6 : List Nat := [0, 1, 0, 7, 15, 31, 63, 127, 255, 511, 1023, 2047, 4095, 2047, 10239, 32767, 65535, 131071, 2047, 264191, 2047, 1837055, 3934207, 8128511, 16777215, 33554431, 67108863]
theorem bh.tab6 : d8 .any (eU Tryz.f17 6) = bh.T6 := by kernel_rfl
theorem bh.bits6 : dz bh.T6.2 bh.B6 = true := by kernel_rfl
theorem bh.calls (k : Nat) (A0_0 : Option Addr) (c0_0 : Nat) (l0_0 : List (S51)) (r : Bool) (w : World) (hr0_0 : Kd.C k51 w A0_0 l0_0.length l0_0) (hc0_0 : l0_0.length <= c0_0) (h : bh.f k l0_0 = some r) :
  Calls Tryz.prog 17 #[.agg #[vL A0_0 l0_0.length c0_0]] w fun e w' => e = .returned (.bool r) /\ Below w.heap.size w w' := by
 have hu32 := Tryz.underlying32;have hu51 := Tryz.underlying51;have HR0_0 := AM hr0_0;have HC0_0 := AM hc0_0;clear hr0_0 hc0_0;have HB := AM (Below.refl w.heap.size w);have H := h;unfold bh.f at H;clear h;have HC2 := AM H;clear H;(go_enter Tryz.func17, Tryz.ntmps17)
 go_upto_if 7 with (first | ((with_reducible refine gate_dst (N := 1) rfl ?_); refine bY w 1 (#[vL A0_0 l0_0.length c0_0]) 32 ?_; clear HB; intro gb169 w3 BK169 GW169 HB; have z4_0 : w3.cell? ⟨gb169, 0, none⟩ = some (vL A0_0 l0_0.length c0_0) := (bC BK169.out 0).trans rfl))
 have H := HC2.out;clear HC2;by_cases c5 : (l0_0.length : Int) > 8;(·rw [if_pos c5] at H;have c5b0 : decide (8 < (l0_0.length : Int)) = true := dT c5;have c5b1 : decide (8 < l0_0.length) = true := dT (by omega);clear c5;(first | rw [c5b0] | rw [c5b1] | (simp only [aq, aA]; rw [c5b0]) | skip);obtain rfl := oI H;(go_wp2);(go_ret);exact ⟨rfl, bb⟩)
 ·rw [if_neg c5] at H
  have c5b0 : decide (8 < (l0_0.length : Int)) = false := dF c5;have c5b1 : decide (8 < l0_0.length) = false := dF (by omega);clear c5;(first | rw [c5b0] | rw [c5b1] | (simp only [aq, aA]; rw [c5b0]) | skip);have H' := AM H;clear H;(go_wp2);(go_loopg [3] k (fun kq v3 w' => ∃ (x3_1 : Int), v3 = vI iK x3_1 /\ Aside0 (bh.l0 kq x3_1 l0_0 = some r) /\ Aside0 (kq <= k) /\ Aside0 (w'.heap[gb169]? = some (.cells #[(vL A0_0 l0_0.length c0_0)] 32 (0, 0))) /\ Aside0 (Below w.heap.size w w')))
  case atStart => exact ⟨(0), rf, H', ⟨Nat.le_refl _⟩, ⟨kk BK169⟩, ⟨bb⟩⟩
  case round =>
   clear H';(try clear z4_0);obtain ⟨x3_1, rfl, HA, HK1, BK169, HB⟩ := hrel
   cases gk with
   | zero => exact absurd HA.out (by simp [bh.l0])
   | succ k1 =>
    have H := HA.out;clear HA;simp only [bh.l0] at H;by_cases c6 : x3_1 < (l0_0.length : Int)
    ·rw [if_pos c6] at H
     have c6b0 := dT c6;clear c6;obtain ⟨c7, H⟩ := nI H;have c7b0 := dT c7;clear c7;obtain ⟨t171, A8, H⟩ := oA H;by_cases c9 : t171 = true
     ·subst c9
      rw [if_pos rfl] at H;by_cases c10 : x3_1 > 0
      ·rw [if_pos c10] at H
       have c10b0 : decide (0 < x3_1) = true := dT c10;clear c10
       obtain ⟨ji11, hji11⟩ : ∃ j_ : Int, (wrap64 (x3_1 - 1)) = j_ := ⟨_, rfl⟩
       replace H : (if 0 <= (ji11) then (if (ji11) < (l0_0.length : Int) then (if ((Op.bytesLess (((aa l0_0 (ji11)).f0).toList) (((aa l0_0 x3_1).f0).toList)) = true) then (bh.l0 k1 (wrap64 (x3_1 + 1)) l0_0) else (some false)) else (none)) else (none)) = some r := by first | (rw [hji11] at H; exact H) | (simp only [hji11] at H ⊢; exact H)
       (try rw [hji11] at A8);have hji11w : (IntKind.i64.wrap (x3_1 - 1)) = ji11 := (aq _).trans hji11;obtain ⟨c12, H⟩ := nI H;have c12b0 := dT c12;clear c12;obtain ⟨c13, H⟩ := nI H;have c13b0 := dT c13;clear c13;have HC14 := AM H;clear H;have z15_0 : wr.cell? ⟨gb169, 0, none⟩ = some (vL A0_0 l0_0.length c0_0) := (bC BK169.out 0).trans rfl;(try go_wp2);replace BK169 := AM (bW BK169.out);replace HB := AM (p1 HB.out);have p170 := pz x3_1;have q170 := qz x3_1 (l0_0.length : Int);obtain ⟨ad170, A170_2, c170_2, A170_3, c170_3, e170, hx170_0, hx170_1, hx170_2, hx170_3, hx170_4, hx170_5, hx170_6, hx170_7, hx170_8, hx170_9, hx170_10, hx170_11, hx170_12, hx170_13, hl170_2, hi170_2, hl170_3, hi170_3⟩ := ej HR0_0.out x3_1 p170 q170;have hw170_13 := hx170_13;have hw170_12 := hx170_12;have hw170_11 := hx170_11;have hw170_10 := hx170_10;have hw170_9 := hx170_9;have hw170_8 := hx170_8;have hw170_7 := hx170_7;have hw170_6 := hx170_6;have hw170_5 := hx170_5;have hw170_4 := hx170_4;have hw170_3 := hx170_3;have hw170_2 := hx170_2;have hw170_1 := hx170_1;have hw170_0 := hx170_0;cases e170;replace hx170_0 := cU hx170_0;replace hx170_1 := cU hx170_1;replace hx170_2 := cU hx170_2;replace hx170_3 := cU hx170_3;replace hx170_4 := cU hx170_4;replace hx170_5 := cU hx170_5;replace hx170_6 := cU hx170_6;replace hx170_7 := cU hx170_7;replace hx170_8 := cU hx170_8;replace hx170_9 := cU hx170_9;replace hx170_10 := cU hx170_10;replace hx170_11 := cU hx170_11;replace hx170_12 := cU hx170_12;replace hx170_13 := cU hx170_13;have HR170_2 := AM hi170_2;have HC170_2 := AM hl170_2;clear hi170_2 hl170_2;have HR170_3 := AM hi170_3;have HC170_3 := AM hl170_3;clear hi170_3 hl170_3;replace p170 := eq_true p170;replace q170 := eq_true q170;have p172 : 0 <= ((ji11) : Int) := oD (by assumption);have q172 : (ji11) < (l0_0.length : Int) := oD (by assumption);obtain ⟨ad172, A172_2, c172_2, A172_3, c172_3, e172, hx172_0, hx172_1, hx172_2, hx172_3, hx172_4, hx172_5, hx172_6, hx172_7, hx172_8, hx172_9, hx172_10, hx172_11, hx172_12, hx172_13, hl172_2, hi172_2, hl172_3, hi172_3⟩ := ej HR0_0.out (ji11) p172 q172;have hw172_0 := hx172_0
       obtain rfl : ad170 = ad172 := (by injection e172)
       replace hx172_0 := cU hx172_0;have HR172_2 := AM hi172_2;have HC172_2 := AM hl172_2;clear hi172_2 hl172_2;have HR172_3 := AM hi172_3;have HC172_3 := AM hl172_3;clear hi172_3 hl172_3;replace p172 := eq_true p172;replace q172 := eq_true q172;have p173 := pz x3_1;have q173 := qz x3_1 (l0_0.length : Int);obtain ⟨ad173, A173_2, c173_2, A173_3, c173_3, e173, hx173_0, hx173_1, hx173_2, hx173_3, hx173_4, hx173_5, hx173_6, hx173_7, hx173_8, hx173_9, hx173_10, hx173_11, hx173_12, hx173_13, hl173_2, hi173_2, hl173_3, hi173_3⟩ := ej HR0_0.out x3_1 p173 q173;have hw173_0 := hx173_0
       obtain rfl : ad170 = ad173 := (by injection e173)
       replace hx173_0 := cU hx173_0;have HR173_2 := AM hi173_2;have HC173_2 := AM hl173_2;clear hi173_2 hl173_2;have HR173_3 := AM hi173_3;have HC173_3 := AM hl173_3;clear hi173_3 hl173_3;replace p173 := eq_true p173;replace q173 := eq_true q173;(refine dv (n := 27) (S := fun w' => w'.cell? ⟨gb169, 0, none⟩ = some (vL (some ad170) l0_0.length c0_0) /\ E51 w' (ad170.add ((x3_1).toNat * 14)) (aa l0_0 x3_1) A170_2 c170_2 A170_3 c170_3 (w'.cell? (ad170.add (((ji11)).toNat * 14)) = some (vS ((aa l0_0 (ji11)).f0)) /\ w'.cell? (ad170.add ((x3_1).toNat * 14)) = some (vS ((aa l0_0 x3_1).f0)))) (ds := []) (bA 27 0) (by kernel_rfl) rfl rfl ⟨(bC BK169.out 0).trans rfl, (cU hw170_0), (cU hw170_1), (cU hw170_2), (cU hw170_3), (cU hw170_4), (cU hw170_5), (cU hw170_6), (cU hw170_7), (cU hw170_8), (cU hw170_9), (cU hw170_10), (cU hw170_11), (cU hw170_12), (cU hw170_13), (cU hw172_0), (cU hw173_0)⟩ (fun hHeld => ?_); refine cL bh.tab6 bh.bits6 (fun HT_ HW_ => ?_));generalize wr.drew = w16 at BK169 HB HR170_2 HR170_3 HR172_2 HR172_3 HR173_2 HR173_3 hx170_0 hx170_1 hx170_10 hx170_11 hx170_12 hx170_13 hx170_2 hx170_3 hx170_4 hx170_5 hx170_6 hx170_7 hx170_8 hx170_9 hx172_0 hx172_1 hx172_10 hx172_11 hx172_12 hx172_13 hx172_2 hx172_3 hx172_4 hx172_5 hx172_6 hx172_7 hx172_8 hx172_9 hx173_0 hx173_1 hx173_10 hx173_11 hx173_12 hx173_13 hx173_2 hx173_3 hx173_4 hx173_5 hx173_6 hx173_7 hx173_8 hx173_9 hHeld ⊢;refine pP 0 (some 15) (bA 27 1) ?_;refine pP 2 (some 17) (bA 27 5) ?_;refine tP 1 (some 16) (bA 27 7) ?_;refine pP 3 (some 18) (bA 27 15) ?_;refine tP 4 (some 19) (bA 27 31) ?_;refine oP 5 (some 20) (bA 27 63) (fun K hK => ?_);refine gV Tryz.func34 #[.agg #[vS ((aa l0_0 x3_1).f0), vI iK ((aa l0_0 x3_1).f1), vL A170_2 ((aa l0_0 x3_1).f2).length c170_2, vL A170_3 ((aa l0_0 x3_1).f3).length c170_3, vS ((aa l0_0 x3_1).f4), vS ((aa l0_0 x3_1).f5), vS ((aa l0_0 x3_1).f6), vI iK ((aa l0_0 x3_1).f7.f0), vI iK ((aa l0_0 x3_1).f7.f1), vI iK ((aa l0_0 x3_1).f7.f2), .bool ((aa l0_0 x3_1).f7.f3), vI iK ((aa l0_0 x3_1).f8), vS ((aa l0_0 x3_1).f9), vS ((aa l0_0 x3_1).f10)]] ?_;(with_reducible refine (aK.calls k1 ((aa l0_0 x3_1).f0) ((aa l0_0 x3_1).f1) _ _ ((aa l0_0 x3_1).f2) _ _ ((aa l0_0 x3_1).f3) ((aa l0_0 x3_1).f4) ((aa l0_0 x3_1).f5) ((aa l0_0 x3_1).f6) ((aa l0_0 x3_1).f7.f0) ((aa l0_0 x3_1).f7.f1) ((aa l0_0 x3_1).f7.f2) ((aa l0_0 x3_1).f7.f3) ((aa l0_0 x3_1).f8) ((aa l0_0 x3_1).f9) ((aa l0_0 x3_1).f10) true _ ?side1 ?side2 ?side3 ?side4 A8.out).mono ?_);(case side1 => exact cX HR170_2);(case side2 => exact HC170_2.out);(case side3 => exact cX HR170_3);(case side4 => exact HC170_3.out);rintro e w17 ⟨rfl, hb⟩;refine ⟨_, rfl, ?_⟩;replace BK169 := bK BK169 hb;replace HB := bH hb;(try clear hb);refine hK.out _ _ ⟨(bC BK169.out 0).trans rfl, (cU hw170_0), (cU hw170_1), (cU hw170_2), (cU hw170_3), (cU hw170_4), (cU hw170_5), (cU hw170_6), (cU hw170_7), (cU hw170_8), (cU hw170_9), (cU hw170_10), (cU hw170_11), (cU hw170_12), (cU hw170_13), (cU hw172_0), (cU hw173_0)⟩ (fun hHeld => ?_);clear hK K;refine nP ?_;refine pP 6 (some 21) (bA 27 127) ?_;refine pP 7 (some 22) (bA 27 255) ?_;refine pP 8 (some 23) (bA 27 511) ?_;refine pP 9 (some 24) (bA 27 1023) ?_;refine pP 10 (some 25) (bA 27 2047) ?_;refine pP 11 (some 26) (bA 27 4095) ?_;refine pP 13 (some 28) (bA 27 12287) ?_;refine pP 14 (some 29) (bA 27 28671) ?_;refine pP 18 (some 33) (bA 27 290815) ?_;refine pP 20 (some 35) (bA 27 1339391) ?_;refine tP 12 (some 27) (bA 27 1343487) ?_;refine pP 15 (some 30) (bA 27 1376255) ?_;refine pP 16 (some 31) (bA 27 1441791) ?_;refine tP 17 (some 32) (bA 27 1572863) ?_;refine tP 19 (some 34) (bA 27 2097151) ?_;refine pP 21 (some 36) (bA 27 4194303) ?_;refine pP 22 (some 37) (bA 27 8388607) ?_;refine tP 23 (some 38) (bA 27 16777215) ?_;refine pP 24 (some 39) (bA 27 33554431) ?_;refine pP 25 (some 40) (bA 27 67108863) ?_;refine pP 26 (some 41) (bA 27 134217727) ?_;refine dV (du HT_.out (by kernel_rfl)) ?_
       go_upto_if 41 with (fail)
       have H := HC14.out;clear HC14;by_cases c18 : ((Op.bytesLess (((aa l0_0 (ji11)).f0).toList) (((aa l0_0 x3_1).f0).toList)) = true)
       ·rw [if_pos c18] at H
        have c18b0 : (Op.bytesLess (((aa l0_0 (ji11)).f0).toList) (((aa l0_0 x3_1).f0).toList)) = true := c18;clear c18;(first | rw [c18b0] | (simp only [aq, aA]; rw [c18b0]) | skip);have H' := AM H;clear H;(go_wp2);(go_roundg k1)
        case measure => have := HK1.out; omega
        case rel => exact ⟨(wrap64 (x3_1 + 1)), rf, H', ⟨by have := HK1.out; omega⟩, ⟨kk BK169⟩, ⟨bb⟩⟩
       ·rw [if_neg c18] at H
        (have c18b0 : (Op.bytesLess (((aa l0_0 (ji11)).f0).toList) (((aa l0_0 x3_1).f0).toList)) = false := by simpa using c18);clear c18;(first | rw [c18b0] | (simp only [aq, aA]; rw [c18b0]) | skip);obtain rfl := oI H;(go_wp2);(go_ret);exact ⟨by first | rfl | (simp [ec, d9] <;> rfl) | (simp only [<- hji11]; first | rfl | (simp [ec, d9] <;> rfl)) | (simp [*, ec, d9] <;> rfl) | (simp [ec, d9] <;> (apply Bool.eq_iff_iff.2; simp [List.isEmpty_iff])), bb⟩
      ·rw [if_neg c10] at H
       have c10b0 : decide (0 < x3_1) = false := dF c10;clear c10;have HC19 := AM H;clear H;have z20_0 : wr.cell? ⟨gb169, 0, none⟩ = some (vL A0_0 l0_0.length c0_0) := (bC BK169.out 0).trans rfl;(try go_wp2);replace BK169 := AM (bW BK169.out);replace HB := AM (p1 HB.out);have p170 := pz x3_1;have q170 := qz x3_1 (l0_0.length : Int);obtain ⟨ad170, A170_2, c170_2, A170_3, c170_3, e170, hx170_0, hx170_1, hx170_2, hx170_3, hx170_4, hx170_5, hx170_6, hx170_7, hx170_8, hx170_9, hx170_10, hx170_11, hx170_12, hx170_13, hl170_2, hi170_2, hl170_3, hi170_3⟩ := ej HR0_0.out x3_1 p170 q170;have hw170_13 := hx170_13;have hw170_12 := hx170_12;have hw170_11 := hx170_11;have hw170_10 := hx170_10;have hw170_9 := hx170_9;have hw170_8 := hx170_8;have hw170_7 := hx170_7;have hw170_6 := hx170_6;have hw170_5 := hx170_5;have hw170_4 := hx170_4;have hw170_3 := hx170_3;have hw170_2 := hx170_2;have hw170_1 := hx170_1;have hw170_0 := hx170_0;cases e170;replace hx170_0 := cU hx170_0;replace hx170_1 := cU hx170_1;replace hx170_2 := cU hx170_2;replace hx170_3 := cU hx170_3;replace hx170_4 := cU hx170_4;replace hx170_5 := cU hx170_5;replace hx170_6 := cU hx170_6;replace hx170_7 := cU hx170_7;replace hx170_8 := cU hx170_8;replace hx170_9 := cU hx170_9;replace hx170_10 := cU hx170_10;replace hx170_11 := cU hx170_11;replace hx170_12 := cU hx170_12;replace hx170_13 := cU hx170_13;have HR170_2 := AM hi170_2;have HC170_2 := AM hl170_2;clear hi170_2 hl170_2;have HR170_3 := AM hi170_3;have HC170_3 := AM hl170_3;clear hi170_3 hl170_3;replace p170 := eq_true p170;replace q170 := eq_true q170;(refine dv (n := 27) (S := fun w' => w'.cell? ⟨gb169, 0, none⟩ = some (vL (some ad170) l0_0.length c0_0) /\ e51 w' (ad170.add ((x3_1).toNat * 14)) (aa l0_0 x3_1) A170_2 c170_2 A170_3 c170_3) (ds := []) (bA 27 0) (by kernel_rfl) rfl rfl ⟨(bC BK169.out 0).trans rfl, (cU hw170_0), (cU hw170_1), (cU hw170_2), (cU hw170_3), (cU hw170_4), (cU hw170_5), (cU hw170_6), (cU hw170_7), (cU hw170_8), (cU hw170_9), (cU hw170_10), (cU hw170_11), (cU hw170_12), (cU hw170_13)⟩ (fun hHeld => ?_); refine cL bh.tab6 bh.bits6 (fun HT_ HW_ => ?_));generalize wr.drew = w21 at BK169 HB HR170_2 HR170_3 hx170_0 hx170_1 hx170_10 hx170_11 hx170_12 hx170_13 hx170_2 hx170_3 hx170_4 hx170_5 hx170_6 hx170_7 hx170_8 hx170_9 hHeld ⊢;refine pP 0 (some 15) (bA 27 1) ?_;refine pP 2 (some 17) (bA 27 5) ?_;refine tP 1 (some 16) (bA 27 7) ?_;refine pP 3 (some 18) (bA 27 15) ?_;refine tP 4 (some 19) (bA 27 31) ?_;refine oP 5 (some 20) (bA 27 63) (fun K hK => ?_);refine gV Tryz.func34 #[.agg #[vS ((aa l0_0 x3_1).f0), vI iK ((aa l0_0 x3_1).f1), vL A170_2 ((aa l0_0 x3_1).f2).length c170_2, vL A170_3 ((aa l0_0 x3_1).f3).length c170_3, vS ((aa l0_0 x3_1).f4), vS ((aa l0_0 x3_1).f5), vS ((aa l0_0 x3_1).f6), vI iK ((aa l0_0 x3_1).f7.f0), vI iK ((aa l0_0 x3_1).f7.f1), vI iK ((aa l0_0 x3_1).f7.f2), .bool ((aa l0_0 x3_1).f7.f3), vI iK ((aa l0_0 x3_1).f8), vS ((aa l0_0 x3_1).f9), vS ((aa l0_0 x3_1).f10)]] ?_;(with_reducible refine (aK.calls k1 ((aa l0_0 x3_1).f0) ((aa l0_0 x3_1).f1) _ _ ((aa l0_0 x3_1).f2) _ _ ((aa l0_0 x3_1).f3) ((aa l0_0 x3_1).f4) ((aa l0_0 x3_1).f5) ((aa l0_0 x3_1).f6) ((aa l0_0 x3_1).f7.f0) ((aa l0_0 x3_1).f7.f1) ((aa l0_0 x3_1).f7.f2) ((aa l0_0 x3_1).f7.f3) ((aa l0_0 x3_1).f8) ((aa l0_0 x3_1).f9) ((aa l0_0 x3_1).f10) true _ ?side1 ?side2 ?side3 ?side4 A8.out).mono ?_);(case side1 => exact cX HR170_2);(case side2 => exact HC170_2.out);(case side3 => exact cX HR170_3);(case side4 => exact HC170_3.out);rintro e w22 ⟨rfl, hb⟩;refine ⟨_, rfl, ?_⟩;replace BK169 := bK BK169 hb;replace HB := bH hb;(try clear hb);refine hK.out _ _ ⟨(bC BK169.out 0).trans rfl, (cU hw170_0), (cU hw170_1), (cU hw170_2), (cU hw170_3), (cU hw170_4), (cU hw170_5), (cU hw170_6), (cU hw170_7), (cU hw170_8), (cU hw170_9), (cU hw170_10), (cU hw170_11), (cU hw170_12), (cU hw170_13)⟩ (fun hHeld => ?_);clear hK K;refine nP ?_;refine pP 6 (some 21) (bA 27 127) ?_;refine pP 7 (some 22) (bA 27 255) ?_;refine pP 8 (some 23) (bA 27 511) ?_;refine pP 9 (some 24) (bA 27 1023) ?_;refine pP 10 (some 25) (bA 27 2047) ?_;refine pU 11 (some 26) (bA 27 4095) ?_;refine pU 12 (some 27) (bA 27 8191) ?_;refine pU 13 (some 28) (bA 27 16383) ?_;refine pU 14 (some 29) (bA 27 32767) ?_;refine pU 15 (some 30) (bA 27 65535) ?_;refine pU 16 (some 31) (bA 27 131071) ?_;refine pU 17 (some 32) (bA 27 262143) ?_;refine pU 18 (some 33) (bA 27 524287) ?_;refine pU 19 (some 34) (bA 27 1048575) ?_;refine pU 20 (some 35) (bA 27 2097151) ?_;refine pU 21 (some 36) (bA 27 4194303) ?_;refine pU 22 (some 37) (bA 27 8388607) ?_;refine pU 23 (some 38) (bA 27 16777215) ?_;refine pU 24 (some 39) (bA 27 33554431) ?_;refine pP 25 (some 40) (bA 27 67108863) ?_;refine pP 26 (some 41) (bA 27 134217727) ?_;refine dV (du HT_.out (by kernel_rfl)) ?_
       go_upto_if 41 with (fail)
       have H := HC19.out;clear HC19;have H' := AM H;clear H;(go_wp2);(go_roundg k1)
       case measure => have := HK1.out; omega
       case rel => exact ⟨(wrap64 (x3_1 + 1)), rf, H', ⟨by have := HK1.out; omega⟩, ⟨kk BK169⟩, ⟨bb⟩⟩
     ·replace c9 := Bool.eq_false_iff.mpr c9
      subst c9;replace H := nF H;have HC23 := AM H;clear H;have z24_0 : wr.cell? ⟨gb169, 0, none⟩ = some (vL A0_0 l0_0.length c0_0) := (bC BK169.out 0).trans rfl;(try go_wp2);replace BK169 := AM (bW BK169.out);replace HB := AM (p1 HB.out);have p170 := pz x3_1;have q170 := qz x3_1 (l0_0.length : Int);obtain ⟨ad170, A170_2, c170_2, A170_3, c170_3, e170, hx170_0, hx170_1, hx170_2, hx170_3, hx170_4, hx170_5, hx170_6, hx170_7, hx170_8, hx170_9, hx170_10, hx170_11, hx170_12, hx170_13, hl170_2, hi170_2, hl170_3, hi170_3⟩ := ej HR0_0.out x3_1 p170 q170;have hw170_13 := hx170_13;have hw170_12 := hx170_12;have hw170_11 := hx170_11;have hw170_10 := hx170_10;have hw170_9 := hx170_9;have hw170_8 := hx170_8;have hw170_7 := hx170_7;have hw170_6 := hx170_6;have hw170_5 := hx170_5;have hw170_4 := hx170_4;have hw170_3 := hx170_3;have hw170_2 := hx170_2;have hw170_1 := hx170_1;have hw170_0 := hx170_0;cases e170;replace hx170_0 := cU hx170_0;replace hx170_1 := cU hx170_1;replace hx170_2 := cU hx170_2;replace hx170_3 := cU hx170_3;replace hx170_4 := cU hx170_4;replace hx170_5 := cU hx170_5;replace hx170_6 := cU hx170_6;replace hx170_7 := cU hx170_7;replace hx170_8 := cU hx170_8;replace hx170_9 := cU hx170_9;replace hx170_10 := cU hx170_10;replace hx170_11 := cU hx170_11;replace hx170_12 := cU hx170_12;replace hx170_13 := cU hx170_13;have HR170_2 := AM hi170_2;have HC170_2 := AM hl170_2;clear hi170_2 hl170_2;have HR170_3 := AM hi170_3;have HC170_3 := AM hl170_3;clear hi170_3 hl170_3;replace p170 := eq_true p170;replace q170 := eq_true q170;(refine dv (n := 27) (S := fun w' => w'.cell? ⟨gb169, 0, none⟩ = some (vL (some ad170) l0_0.length c0_0) /\ e51 w' (ad170.add ((x3_1).toNat * 14)) (aa l0_0 x3_1) A170_2 c170_2 A170_3 c170_3) (ds := []) (bA 27 0) (by kernel_rfl) rfl rfl ⟨(bC BK169.out 0).trans rfl, (cU hw170_0), (cU hw170_1), (cU hw170_2), (cU hw170_3), (cU hw170_4), (cU hw170_5), (cU hw170_6), (cU hw170_7), (cU hw170_8), (cU hw170_9), (cU hw170_10), (cU hw170_11), (cU hw170_12), (cU hw170_13)⟩ (fun hHeld => ?_); refine cL bh.tab6 bh.bits6 (fun HT_ HW_ => ?_));generalize wr.drew = w25 at BK169 HB HR170_2 HR170_3 hx170_0 hx170_1 hx170_10 hx170_11 hx170_12 hx170_13 hx170_2 hx170_3 hx170_4 hx170_5 hx170_6 hx170_7 hx170_8 hx170_9 hHeld ⊢;refine pP 0 (some 15) (bA 27 1) ?_;refine pP 2 (some 17) (bA 27 5) ?_;refine tP 1 (some 16) (bA 27 7) ?_;refine pP 3 (some 18) (bA 27 15) ?_;refine tP 4 (some 19) (bA 27 31) ?_;refine oP 5 (some 20) (bA 27 63) (fun K hK => ?_);refine gV Tryz.func34 #[.agg #[vS ((aa l0_0 x3_1).f0), vI iK ((aa l0_0 x3_1).f1), vL A170_2 ((aa l0_0 x3_1).f2).length c170_2, vL A170_3 ((aa l0_0 x3_1).f3).length c170_3, vS ((aa l0_0 x3_1).f4), vS ((aa l0_0 x3_1).f5), vS ((aa l0_0 x3_1).f6), vI iK ((aa l0_0 x3_1).f7.f0), vI iK ((aa l0_0 x3_1).f7.f1), vI iK ((aa l0_0 x3_1).f7.f2), .bool ((aa l0_0 x3_1).f7.f3), vI iK ((aa l0_0 x3_1).f8), vS ((aa l0_0 x3_1).f9), vS ((aa l0_0 x3_1).f10)]] ?_;(with_reducible refine (aK.calls k1 ((aa l0_0 x3_1).f0) ((aa l0_0 x3_1).f1) _ _ ((aa l0_0 x3_1).f2) _ _ ((aa l0_0 x3_1).f3) ((aa l0_0 x3_1).f4) ((aa l0_0 x3_1).f5) ((aa l0_0 x3_1).f6) ((aa l0_0 x3_1).f7.f0) ((aa l0_0 x3_1).f7.f1) ((aa l0_0 x3_1).f7.f2) ((aa l0_0 x3_1).f7.f3) ((aa l0_0 x3_1).f8) ((aa l0_0 x3_1).f9) ((aa l0_0 x3_1).f10) false _ ?side1 ?side2 ?side3 ?side4 A8.out).mono ?_);(case side1 => exact cX HR170_2);(case side2 => exact HC170_2.out);(case side3 => exact cX HR170_3);(case side4 => exact HC170_3.out);rintro e w26 ⟨rfl, hb⟩;refine ⟨_, rfl, ?_⟩;replace BK169 := bK BK169 hb;replace HB := bH hb;(try clear hb);refine hK.out _ _ ⟨(bC BK169.out 0).trans rfl, (cU hw170_0), (cU hw170_1), (cU hw170_2), (cU hw170_3), (cU hw170_4), (cU hw170_5), (cU hw170_6), (cU hw170_7), (cU hw170_8), (cU hw170_9), (cU hw170_10), (cU hw170_11), (cU hw170_12), (cU hw170_13)⟩ (fun hHeld => ?_);clear hK K;refine nP ?_;refine pP 6 (some 21) (bA 27 127) ?_;refine pP 7 (some 22) (bA 27 255) ?_;refine pU 8 (some 23) (bA 27 511) ?_;refine pU 9 (some 24) (bA 27 1023) ?_;refine pU 10 (some 25) (bA 27 2047) ?_;refine pU 11 (some 26) (bA 27 4095) ?_;refine pU 12 (some 27) (bA 27 8191) ?_;refine pU 13 (some 28) (bA 27 16383) ?_;refine pU 14 (some 29) (bA 27 32767) ?_;refine pU 15 (some 30) (bA 27 65535) ?_;refine pU 16 (some 31) (bA 27 131071) ?_;refine pU 17 (some 32) (bA 27 262143) ?_;refine pU 18 (some 33) (bA 27 524287) ?_;refine pU 19 (some 34) (bA 27 1048575) ?_;refine pU 20 (some 35) (bA 27 2097151) ?_;refine pU 21 (some 36) (bA 27 4194303) ?_;refine pU 22 (some 37) (bA 27 8388607) ?_;refine pU 23 (some 38) (bA 27 16777215) ?_;refine pU 24 (some 39) (bA 27 33554431) ?_;refine pU 25 (some 40) (bA 27 67108863) ?_;refine pP 26 (some 41) (bA 27 134217727) ?_;refine dV (du HT_.out (by kernel_rfl)) ?_
      go_upto_if 41 with (fail)
      have H := HC23.out;clear HC23;obtain rfl := oI H;(go_wp2);(go_ret);exact ⟨rfl, bb⟩
    ·rw [if_neg c6] at H
     have c6b0 := dF c6;clear c6;obtain rfl := oI H;have z27_0 : wr.cell? ⟨gb169, 0, none⟩ = some (vL A0_0 l0_0.length c0_0) := (bC BK169.out 0).trans rfl;(go_wp2);(go_ret);exact ⟨rfl, bb⟩
def ck.l0 : Nat -> ByteArray -> Int -> List (S51) -> Option (Int)
 | 0, _, _, _ => none
 | k + 1, x1, x5, x175000 => if x5 < (x175000.length : Int) then (if 0 <= x5 then (if ((aa x175000 x5).f0).toList = x1.toList then (some x5) else (ck.l0 k x1 (wrap64 (x5 + 1)) x175000)) else (none)) else (some (-1))
def ck.f (k : Nat) (l0_0 : List (S51)) (a1 : ByteArray) : Option (Int) := ck.l0 k a1 0 l0_0
set_option maxHeartbeats 8000000 in
set_option maxRecDepth 100000 in
theorem ck.calls (k : Nat) (A0_0 : Option Addr) (c0_0 : Nat) (l0_0 : List (S51)) (a1 : ByteArray) (r : Int) (w : World) (hr0_0 : Kd.C k51 w A0_0 l0_0.length l0_0) (hc0_0 : l0_0.length <= c0_0) (h : ck.f k l0_0 a1 = some r) :
  Calls Tryz.prog 21 #[.agg #[vL A0_0 l0_0.length c0_0], vS a1] w fun e w' => e = eR (.int .i64 r) /\ Below w.heap.size w w' := by
 have hu32 := Tryz.underlying32;have HR0_0 := AM hr0_0;have HC0_0 := AM hc0_0;clear hr0_0 hc0_0;have HB := AM (Below.refl w.heap.size w);have H := h;unfold ck.f at H;clear h;have H' := AM H;clear H;(go_enter Tryz.func21, Tryz.ntmps21)
 go_wp2_with (first | ((with_reducible refine gate_dst (N := 2) rfl ?_); refine bY w 2 (#[vL A0_0 l0_0.length c0_0]) 32 ?_; clear HB; intro gb174 w3 BK174 GW174 HB))
 go_loopg [5] k (fun kq v5 w' => ∃ (x5_1 : Int), v5 = .int .i64 x5_1 /\ Aside0 (ck.l0 kq a1 x5_1 l0_0 = some r) /\ Aside0 (kq <= k) /\ Aside0 (w'.heap[gb174]? = some (.cells #[(vL A0_0 l0_0.length c0_0)] 32 (0, 0))) /\ Aside0 (Below w.heap.size w w'))
 case atStart => exact ⟨(0), rf, H', ⟨Nat.le_refl _⟩, ⟨by (with_reducible repeat (first | refine blk_drewN ?_ _ | refine blk_drew ?_ | refine blk_alloc ?_ _)); exact BK174.out⟩, ⟨bb⟩⟩
 case round =>
  clear H';obtain ⟨x5_1, rfl, HA, HK1, BK174, HB⟩ := hrel
  cases gk with
  | zero => exact absurd HA.out (by simp [ck.l0])
  | succ k1 =>
   have H := HA.out;clear HA;simp only [ck.l0] at H;by_cases c4 : x5_1 < (l0_0.length : Int)
   ·rw [if_pos c4] at H
    have c4b0 := dT c4;clear c4;obtain ⟨c5, H⟩ := nI H;have c5b0 := dT c5;clear c5;by_cases c6 : ((aa l0_0 x5_1).f0).toList = a1.toList;(·rw [if_pos c6] at H;have c6b0 : (((aa l0_0 x5_1).f0).toList == a1.toList) = true := beq_iff_eq.mpr c6;have c6b1 : (((aa l0_0 x5_1).f0).toList != a1.toList) = false := bne_eq_false_iff_eq.mpr c6;clear c6;obtain rfl := oI H;have z7_0 : wr.cell? ⟨gb174, 0, none⟩ = some (vL A0_0 l0_0.length c0_0) := (bC BK174.out 0).trans rfl;have p175 := pz x5_1;have q175 := qz x5_1 (l0_0.length : Int);obtain ⟨ad175, A175_2, c175_2, A175_3, c175_3, e175, hx175_0, hx175_1, hx175_2, hx175_3, hx175_4, hx175_5, hx175_6, hx175_7, hx175_8, hx175_9, hx175_10, hx175_11, hx175_12, hx175_13, hl175_2, hi175_2, hl175_3, hi175_3⟩ := ej HR0_0.out x5_1 p175 q175;cases e175;replace hx175_0 := cU hx175_0;have HR175_2 := AM hi175_2;have HC175_2 := AM hl175_2;clear hi175_2 hl175_2;have HR175_3 := AM hi175_3;have HC175_3 := AM hl175_3;clear hi175_3 hl175_3;replace p175 := eq_true p175;replace q175 := eq_true q175;(go_wp2);(go_ret);exact ⟨rfl, bb⟩)
    ·rw [if_neg c6] at H
     have c6b0 : (((aa l0_0 x5_1).f0).toList == a1.toList) = false := beq_eq_false_iff_ne.mpr c6;have c6b1 : (((aa l0_0 x5_1).f0).toList != a1.toList) = true := bne_iff_ne.mpr c6;have H' := AM H;clear H;have z8_0 : wr.cell? ⟨gb174, 0, none⟩ = some (vL A0_0 l0_0.length c0_0) := (bC BK174.out 0).trans rfl;have p175 := pz x5_1;have q175 := qz x5_1 (l0_0.length : Int);obtain ⟨ad175, A175_2, c175_2, A175_3, c175_3, e175, hx175_0, hx175_1, hx175_2, hx175_3, hx175_4, hx175_5, hx175_6, hx175_7, hx175_8, hx175_9, hx175_10, hx175_11, hx175_12, hx175_13, hl175_2, hi175_2, hl175_3, hi175_3⟩ := ej HR0_0.out x5_1 p175 q175;cases e175;replace hx175_0 := cU hx175_0;have HR175_2 := AM hi175_2;have HC175_2 := AM hl175_2;clear hi175_2 hl175_2;have HR175_3 := AM hi175_3;have HC175_3 := AM hl175_3;clear hi175_3 hl175_3;replace p175 := eq_true p175;replace q175 := eq_true q175;(go_wp2);(go_roundg k1)
     case measure => have := HK1.out; omega
     case rel => exact ⟨(wrap64 (x5_1 + 1)), rf, H', ⟨by have := HK1.out; omega⟩, ⟨by (with_reducible repeat (first | refine blk_drewN ?_ _ | refine blk_drew ?_ | refine blk_alloc ?_ _)); exact BK174.out⟩, ⟨bb⟩⟩
   ·rw [if_neg c4] at H
    have c4b0 := dF c4;clear c4;obtain rfl := oI H;have z9_0 : wr.cell? ⟨gb174, 0, none⟩ = some (vL A0_0 l0_0.length c0_0) := (bC BK174.out 0).trans rfl;(go_wp2);(go_ret);exact ⟨rfl, bb⟩
theorem cO.cmp (a b : List UInt8) : Lib.compareBytes a b = if Op.bytesLess a b = true then -1 else if (!(Op.bytesLess a b || a == b)) = true then 1 else 0 := by
  induction a generalizing b with
  | nil => cases b <;> simp [Lib.compareBytes, Op.bytesLess]
  | cons x a ih =>
    cases b with
    | nil => simp [Lib.compareBytes, Op.bytesLess]
    | cons y b =>
      unfold Lib.compareBytes Op.bytesLess;by_cases h1 : x < y;(·simp [h1])
      · by_cases h2 : y < x
        · have hne : ¬ x = y := by rintro rfl; exact h1 h2
          simp [h1, h2, hne]
        · have he : x = y := by
            apply UInt8.toNat_inj.1;rw [UInt8.lt_iff_toNat_lt] at h1 h2;omega
          subst he;rw [if_neg h1, if_neg h2, ih b];simp [h1]
def cO.f (a0 a1 : ByteArray) : Option (Int) := some (Lib.compareBytes a0.data.toList a1.data.toList)
set_option maxHeartbeats 1000000 in
set_option maxRecDepth 100000 in
theorem cO.calls (a0 a1 : ByteArray) (r : Int) (w : World) (h : cO.f a0 a1 = some r) :
    Calls Tryz.prog 58 #[vS a0, vS a1] w fun e w' => e = eR (.int .i64 r) /\ aT w w' := by
  have h' : r = _ := (oI h).symm;clear h;rw [cO.cmp] at h';simp only [<- Lib.toList_data] at h';(have hgt : ∀ t : TypeId, binOp .gtr t (vS a0) (vS a1) = pure (.bool !(Op.bytesLess a0.toList a1.toList || a0.toList == a1.toList)) := fun t => by simp [binOp, Op.stringOp]);by_cases c1 : Op.bytesLess a0.toList a1.toList = true;(·rw [if_pos c1] at h';subst h';(go_enter Tryz.func58, Tryz.ntmps58);(go_wp2);(go_ret);exact ⟨rfl, aT.refl _⟩);(·rw [if_neg c1] at h';replace c1 := bE.mpr c1;by_cases c2 : (a0.toList == a1.toList) = true;(·rw [c1, c2, if_neg (by decide)] at h';subst h';(go_enter Tryz.func58, Tryz.ntmps58);(go_wp2);(go_ret);exact ⟨rfl, aT.refl _⟩);(·replace c2 := bE.mpr c2;rw [c1, c2, if_pos (by decide)] at h';subst h';(go_enter Tryz.func58, Tryz.ntmps58);(go_wp2);(go_ret);exact ⟨rfl, aT.refl _⟩))
/-- A letter in lower case. -/
def aj.isU (b : Int) : Bool := decide (b >= 65) && decide (b <= 90)
def aj.low (b : Int) : Int := if aj.isU b = true then b + 32 else b
def aj.f (a0 : ByteArray) : Option (ByteArray) := if a0.size <= 140737488351232 then some (strOfNums ((aQ a0).map aj.low)) else none
theorem aj.isU_eq (b : Int) : cH.f b = some (aj.isU b) := by
  unfold cH.f aj.isU;by_cases h : b >= 65;(·(rw [if_pos h, dT h]; rfl));(·(rw [if_neg h, dF h]; rfl))
/-- The row half way. -/
def aj.half (l : List Int) (j : Nat) : List Int := (l.take j).map aj.low ++ l.drop j
theorem aj.half_len (l : List Int) (j : Nat) : (aj.half l j).length = l.length := by simp [aj.half]; omega
theorem aj.half_at (l : List Int) (j : Nat) (hj : j < l.length) : (aj.half l j).getD j 0 = l.getD j 0 := by
  unfold aj.half;rw [List.getD_eq_getElem?_getD, List.getElem?_append_right (by simp; omega)];simp [List.getD, Nat.min_eq_left (Nat.le_of_lt hj)]
theorem aj.half_next (l : List Int) (j : Nat) (hj : j < l.length) (v : Int) (hv : v = aj.low (l.getD j 0)) : (aj.half l j).set j v = aj.half l (j + 1) := by
  subst hv;unfold aj.half;rw [List.set_append_right _ _ (by simp; omega), List.take_succ_eq_append_getElem hj, List.map_append];(have e : j - (List.map aj.low (List.take j l)).length = 0 := by simp; omega);(have hg : l.getD j 0 = l[j] := by simp [List.getD, List.getElem?_eq_getElem hj]);rw [e, List.drop_eq_getElem_cons hj, List.set_cons_zero, hg];simp only [List.map_cons, List.map_nil, List.append_assoc, List.singleton_append]
theorem aj.half_all (l : List Int) (n : Nat) (hn : l.length = n) : aj.half l n = l.map aj.low := by
  unfold aj.half;rw [List.take_of_length_le (by omega), List.drop_of_length_le (by omega), List.append_nil]
theorem aj.half_same (l : List Int) (j : Nat) (hj : j < l.length) (hv : aj.low (l.getD j 0) = l.getD j 0) : aj.half l (j + 1) = aj.half l j := by
  have h := aj.half_next l j hj _ hv.symm;rw [<- h];apply List.ext_getElem?;intro i;by_cases e : j = i;(·subst e;rw [List.getElem?_set_self (by rw [aj.half_len]; exact hj)];have := aj.half_at l j hj;rw [List.getD_eq_getElem?_getD, List.getElem?_eq_getElem (by rw [aj.half_len]; exact hj)] at this;rw [List.getElem?_eq_getElem (by rw [aj.half_len]; exact hj)];exact congrArg some this.symm);(·rw [List.getElem?_set_ne e])
theorem aj.bytes_lt (s : ByteArray) (j : Nat) : 0 <= (aQ s).getD j 0 /\ (aQ s).getD j 0 <= 255 := by
  have h := ga s (j : Int);unfold rd at h;rw [Int.toNat_natCast] at h;rw [h];exact iU s _
set_option maxHeartbeats 4000000 in
set_option maxRecDepth 100000 in
theorem aj.calls (a0 r : ByteArray) (w : World) (h : aj.f a0 = some r) :
    Calls Tryz.prog 98 #[vS a0] w fun e w' => e = eR (vS r) /\ Below w.heap.size w w' := by
  unfold aj.f at h;by_cases hs : a0.size <= 140737488351232
  · rw [if_pos hs] at h
    obtain rfl := oI h;clear h;obtain ⟨cap, W1, hconv, hB1, hbel1⟩ := Go.Proofs.YtiaelacjjbdolaaGreatDoorW.Buf.conv_buf (P := Tryz.prog) w 9 111 5 a0 Tryz.underlying9 Tryz.underlying111 Tryz.underlying5;have hlen := dG a0;have HB1 := AM hB1;have HBEL1 := AM hbel1;have HLEN := AM hlen;clear hB1 hbel1 hlen;(go_enter Tryz.func98, Tryz.ntmps98);(go_wp2);clear hconv;(go_loopw [4] (fun v wr => ∃ j : Nat, j <= a0.size /\ v = .int .i64 j /\ Aside0 (Go.Proofs.YtiaelacjjbdolaaGreatDoorW.Buf.Bf wr w.heap.size 5 (aj.half (aQ a0) j)) /\ Aside0 (Below w.heap.size w wr)) (fun v _ => a0.size - (intOf v).toNat))
    case atStart => exact ⟨0, Nat.zero_le _, rfl, ⟨by simpa [aj.half] using HB1.out⟩, HBEL1⟩
    case round =>
      obtain ⟨j, hj, rfl, HB, HBEL⟩ := hrel;by_cases hlt : j < a0.size
      · have hjl : j < (aQ a0).length := by rw [HLEN.out]; exact hlt
        (have hjh : j < (aj.half (aQ a0) j).length := by rw [aj.half_len]; exact hjl);have hcell := HB.out.cell j hjh;rw [aj.half_at _ _ hjl] at hcell;have hfroz := HB.out.frozen j hjh;have hrng := aj.bytes_lt a0 j;have HN := AM (aj.half_next (aQ a0) j hjl);have HS := AM (aj.half_same (aQ a0) j hjl)
        obtain ⟨b, hbdef⟩ : ∃ b, b = (aQ a0).getD j 0 := ⟨_, rfl⟩
        rw [<- hbdef] at hcell hrng;have HBD := AM hbdef;clear hbdef hjl;have hb0 := hrng.1;have hb1 := hrng.2;clear hrng;by_cases hu : aj.isU b = true
        · go_wp2_with (go_at_call 131; (with_reducible refine (cH.calls b true _ ((aj.isU_eq b).trans (by rw [hu]))).mono ?_); rintro e w' ⟨rfl, ⟨nq, rfl⟩⟩)
          have hv : (b + 32) % 256 = aj.low ((aQ a0).getD j 0) := by
            rw [<- HBD.out];unfold aj.low;rw [if_pos hu];unfold aj.isU at hu;have := oD (Bool.and_eq_true_iff.1 hu).1;have := oD (Bool.and_eq_true_iff.1 hu).2;omega
          refine ⟨⟨j + 1, by omega, by go_num, ⟨?_⟩, ⟨(pN HBEL.out nq).setCell (Nat.le_refl _) _⟩⟩, by simp [intOf]; omega⟩;rw [<- HN.out _ hv];exact (HB.out.drewN nq).set j hjh _
        · go_wp2_with (go_at_call 131; (with_reducible refine (cH.calls b false _ ((aj.isU_eq b).trans (by rw [bE.mpr hu]))).mono ?_); rintro e w' ⟨rfl, ⟨nq, rfl⟩⟩)
          refine ⟨⟨j + 1, by omega, by go_num, ⟨?_⟩, ⟨pN HBEL.out nq⟩⟩, by simp [intOf]; omega⟩;rw [HS.out (by rw [<- HBD.out]; unfold aj.low; rw [if_neg hu])];exact HB.out.drewN nq
      · obtain rfl : j = a0.size := by omega
        have hback := Go.Proofs.YtiaelacjjbdolaaGreatDoorW.Buf.conv_back (P := Tryz.prog) HB.out 111 9 a0.size cap ((aj.half_len _ _).trans HLEN.out) Tryz.underlying111 Tryz.underlying9 Tryz.underlying5;rw [aj.half_all _ _ HLEN.out] at hback;(go_wp2);(go_ret);exact ⟨rfl, HBEL.out⟩
  · rw [if_neg hs] at h
    cases h
def ct.l0 : Nat -> List ByteArray -> ByteArray -> Int -> Option (ByteArray)
 | 0, _, _, _ => none
 | k + 1, x0, x3, x4 => if x4 < (x0.length : Int) then (if x3.toList = ([] : List UInt8) then (if 0 <= x4 then (if x3.size + (aC ByteArray.empty x0 x4).size <= 9223372036854775807 then (ct.l0 k x0 (x3 ++ (aC ByteArray.empty x0 x4)) (wrap64 (x4 + 1))) else (none)) else (none)) else (if 0 <= x4 then (if (aC ByteArray.empty x0 x4).toList = ([] : List UInt8) then (if x3.size + (aC ByteArray.empty x0 x4).size <= 9223372036854775807 then (ct.l0 k x0 (x3 ++ (aC ByteArray.empty x0 x4)) (wrap64 (x4 + 1))) else (none)) else (if x3.size + 1 <= 9223372036854775807 then (if (x3 ++ (⟨#[32]⟩ : ByteArray)).size + (aC ByteArray.empty x0 x4).size <= 9223372036854775807 then (ct.l0 k x0 ((x3 ++ (⟨#[32]⟩ : ByteArray)) ++ (aC ByteArray.empty x0 x4)) (wrap64 (x4 + 1))) else (none)) else (none))) else (none))) else (some x3)
def ct.f (k : Nat) (l0 : List ByteArray) : Option (ByteArray) := ct.l0 k l0 (⟨#[]⟩ : ByteArray) 0
theorem ct.calls (k : Nat) (A0 : Option Addr) (c0 : Nat) (l0 : List ByteArray) (r : ByteArray) (w : World) (hr0 : Kd.C Kd.string w A0 l0.length l0) (hc0 : l0.length <= c0) (h : ct.f k l0 = some r) :
  Calls Tryz.prog 155 #[.slice A0 l0.length c0] w fun e w' => e = .returned (vS r) /\ aT w w' := by
 have HR0 := AM hr0;have HC0 := AM hc0;clear hr0 hc0;have H := h;unfold ct.f at H;clear h;have H' := AM H;clear H;(go_enter Tryz.func155, Tryz.ntmps155);(go_wp2);(go_loopg [3, 4] k (fun kq v3 v4 w' => ∃ (x3_1 : ByteArray) (x4_1 : Int), v3 = vS x3_1 /\ v4 = .int .i64 x4_1 /\ Aside0 (ct.l0 kq l0 x3_1 x4_1 = some r) /\ Aside0 (kq <= k) /\ aT w w'))
 case atStart => exact ⟨((⟨#[]⟩ : ByteArray)), (0), rf, rf, H', ⟨Nat.le_refl _⟩, dR⟩
 case round =>
  clear H';obtain ⟨x3_1, x4_1, rfl, rfl, HA, HK1, ⟨m1, rfl⟩⟩ := hrel
  cases gk with
  | zero => exact absurd HA.out (by simp [ct.l0])
  | succ k1 =>
   have H := HA.out;clear HA;simp only [ct.l0] at H;by_cases c2 : x4_1 < (l0.length : Int)
   ·rw [if_pos c2] at H
    have c2b0 := dT c2;clear c2;by_cases c3 : x3_1.toList = ([] : List UInt8)
    ·rw [if_pos c3] at H
     have c3b0 : (x3_1.toList == ([] : List UInt8)) = true := beq_iff_eq.mpr c3;have c3b1 : (x3_1.toList != ([] : List UInt8)) = false := bne_eq_false_iff_eq.mpr c3;clear c3;obtain ⟨c4, H⟩ := nI H;have c4b0 := dT c4;clear c4;obtain ⟨c5, H⟩ := nI H;have c5b0 := eq_true c5;have c5b1 := dT c5;(try have c5b2 : (9223372036854775807 < x3_1.size + (aC ByteArray.empty l0 x4_1).size) = False := eq_false (Nat.not_lt.2 c5));have H' := AM H;clear H;have p176 := pz x4_1;have q176 := qz x4_1 (l0.length : Int);obtain ⟨ad176, e176, hx176_0⟩ := Kd.at_string HR0.out x4_1 p176 q176;cases e176;replace p176 := eq_true p176;replace q176 := eq_true q176;(go_wp2);(go_roundg k1)
     case measure => have := HK1.out; omega
     case rel => exact ⟨(x3_1 ++ (aC ByteArray.empty l0 x4_1)), (wrap64 (x4_1 + 1)), rf, rf, H', ⟨by have := HK1.out; omega⟩, dR⟩
    ·rw [if_neg c3] at H
     have c3b0 : (x3_1.toList == ([] : List UInt8)) = false := beq_eq_false_iff_ne.mpr c3;have c3b1 : (x3_1.toList != ([] : List UInt8)) = true := bne_iff_ne.mpr c3;obtain ⟨c6, H⟩ := nI H;have c6b0 := dT c6;clear c6;by_cases c7 : (aC ByteArray.empty l0 x4_1).toList = ([] : List UInt8)
     ·rw [if_pos c7] at H
      have c7b0 : ((aC ByteArray.empty l0 x4_1).toList == ([] : List UInt8)) = true := beq_iff_eq.mpr c7;have c7b1 : ((aC ByteArray.empty l0 x4_1).toList != ([] : List UInt8)) = false := bne_eq_false_iff_eq.mpr c7;clear c7;obtain ⟨c8, H⟩ := nI H;have c8b0 := eq_true c8;have c8b1 := dT c8;(try have c8b2 : (9223372036854775807 < x3_1.size + (aC ByteArray.empty l0 x4_1).size) = False := eq_false (Nat.not_lt.2 c8));have H' := AM H;clear H;have p177 := pz x4_1;have q177 := qz x4_1 (l0.length : Int);obtain ⟨ad177, e177, hx177_0⟩ := Kd.at_string HR0.out x4_1 p177 q177;cases e177;replace p177 := eq_true p177;replace q177 := eq_true q177;have p178 := pz x4_1;have q178 := qz x4_1 (l0.length : Int);obtain ⟨ad178, e178, hx178_0⟩ := Kd.at_string HR0.out x4_1 p178 q178
      obtain rfl : ad177 = ad178 := (by injection e178)
      replace p178 := eq_true p178;replace q178 := eq_true q178;(go_wp2);(go_roundg k1)
      case measure => have := HK1.out; omega
      case rel => exact ⟨(x3_1 ++ (aC ByteArray.empty l0 x4_1)), (wrap64 (x4_1 + 1)), rf, rf, H', ⟨by have := HK1.out; omega⟩, dR⟩
     ·rw [if_neg c7] at H
      have c7b0 : ((aC ByteArray.empty l0 x4_1).toList == ([] : List UInt8)) = false := beq_eq_false_iff_ne.mpr c7;have c7b1 : ((aC ByteArray.empty l0 x4_1).toList != ([] : List UInt8)) = true := bne_iff_ne.mpr c7;obtain ⟨c9, H⟩ := nI H;have c9b0 := eq_true c9;have c9b1 := dT c9;(try have c9b2 : (9223372036854775807 < x3_1.size + 1) = False := eq_false (Nat.not_lt.2 c9));obtain ⟨c10, H⟩ := nI H;have c10b0 := eq_true c10;have c10b1 := dT c10;(try have c10b2 : (9223372036854775807 < (x3_1 ++ (⟨#[32]⟩ : ByteArray)).size + (aC ByteArray.empty l0 x4_1).size) = False := eq_false (Nat.not_lt.2 c10));(try have c10b3 : (9223372036854775807 < x3_1.size + 1 + ((aC ByteArray.empty l0 x4_1).size)) = False := eq_false (by have h_ := c10; simp only [ByteArray.size_append, ByteArray.size_extract] at h_; (try simp only [show (⟨#[32]⟩ : ByteArray).size = 1 from rfl] at h_); (try have q0_ := of_eq_true c2b0); (try have q1_ := of_eq_true c3b0); (try have q3_ := of_eq_true c6b0); (try have q4_ := of_eq_true c7b0); (try have q6_ := of_eq_true c9b0); omega));have H' := AM H;clear H;have p177 := pz x4_1;have q177 := qz x4_1 (l0.length : Int);obtain ⟨ad177, e177, hx177_0⟩ := Kd.at_string HR0.out x4_1 p177 q177;cases e177;replace p177 := eq_true p177;replace q177 := eq_true q177;have p179 := pz x4_1;have q179 := qz x4_1 (l0.length : Int);obtain ⟨ad179, e179, hx179_0⟩ := Kd.at_string HR0.out x4_1 p179 q179
      obtain rfl : ad177 = ad179 := (by injection e179)
      replace p179 := eq_true p179;replace q179 := eq_true q179;(go_wp2);(go_roundg k1)
      case measure => have := HK1.out; omega
      case rel => exact ⟨((x3_1 ++ (⟨#[32]⟩ : ByteArray)) ++ (aC ByteArray.empty l0 x4_1)), (wrap64 (x4_1 + 1)), rf, rf, H', ⟨by have := HK1.out; omega⟩, dR⟩
   ·rw [if_neg c2] at H
    have c2b0 := dF c2;clear c2;obtain rfl := oI H;(go_wp2);(go_ret);exact ⟨rf, dR⟩
def dC.f (k : Nat) (l0_0 : List ByteArray) (a0_1 a0_2 a0_3 : ByteArray) : Option (ByteArray) := (ct.f k l0_0).bind fun t181 => (some t181)
theorem dC.calls (k : Nat) (A0_0 : Option Addr) (c0_0 : Nat) (l0_0 : List ByteArray) (a0_1 a0_2 a0_3 r : ByteArray) (w : World) (hr0_0 : Kd.C Kd.string w A0_0 l0_0.length l0_0) (hc0_0 : l0_0.length <= c0_0) (h : dC.f k l0_0 a0_1 a0_2 a0_3 = some r) :
  Calls Tryz.prog 156 #[.agg #[.slice A0_0 l0_0.length c0_0, vS a0_1, vS a0_2, vS a0_3]] w fun e w' => e = .returned (vS r) /\ Below w.heap.size w w' := by
 have hu105 := Tryz.underlying105;have HR0_0 := AM hr0_0;have HC0_0 := AM hc0_0;clear hr0_0 hc0_0;have HB := AM (Below.refl w.heap.size w);have H := h;unfold dC.f at H;clear h;obtain ⟨t181, A2, H⟩ := oA H;obtain rfl := oI H;(go_enter Tryz.func156, Tryz.ntmps156)
 go_wp2_with (first | ((with_reducible refine gate_dst (N := 1) rfl ?_); refine bY w 1 (#[.slice A0_0 l0_0.length c0_0, vS a0_1, vS a0_2, vS a0_3]) 105 ?_; clear HB; intro gb180 w3 BK180 GW180 HB; obtain ⟨_,_,_,_⟩ := ar BK180.out) | ((with_reducible refine gate_callee (f := 155) rfl ?_); refine goesL_ (some 5) rfl rfl Tryz.func155 (by kernel_rfl) rfl #[.slice A0_0 l0_0.length c0_0] rfl (by (try simp only [List.map_toArray, List.map_cons, List.map_nil]); try rfl) ?_; (with_reducible refine (ct.calls k _ _ l0_0 t181 _ (cX HR0_0) HC0_0.out A2.out).mono ?_); rintro e w' ⟨rfl, ⟨nd, rfl⟩⟩; refine ⟨_, rfl, ?_⟩))
 (go_ret);exact ⟨rfl, by with_reducible repeat first | exact HB.out | apply pA | apply pN | apply p1 | refine below_set ?_ GW180.out⟩
def df.f (k : Nat) (l0_0 : List ByteArray) (a0_1 a0_2 a0_3 : ByteArray) : Option (ByteArray) := (dC.f k l0_0 a0_1 a0_2 a0_3).bind fun t183 => ((ct.f k (([t183, a0_1, a0_2, a0_3] : List ByteArray))).bind fun t187 => (some t187))
def df.T1 : Bool × List (List Nat × List Nat) := (true, [([], []), ([0], [0]), ([], []), ([2], [2]), ([], []), ([4], [4]), ([], []), ([6], [6]), ([1, 3, 5, 7], [1, 3, 5, 7]), ([8, 1], [8]), ([9, 9, 0, 1, 2, 3, 4, 5, 6, 7, 8, 9], [9])])
def df.B1 : List Nat := [0, 1, 0, 4, 0, 16, 0, 64, 255, 511, 1023]
theorem df.tab1 : d8 .any (eU Tryz.f133 1) = df.T1 := by kernel_rfl
theorem df.bits1 : dz df.T1.2 df.B1 = true := by kernel_rfl
theorem df.calls (k : Nat) (A0_0 : Option Addr) (c0_0 : Nat) (l0_0 : List ByteArray) (a0_1 a0_2 a0_3 r : ByteArray) (w : World) (hr0_0 : Kd.C Kd.string w A0_0 l0_0.length l0_0) (hc0_0 : l0_0.length <= c0_0) (h : df.f k l0_0 a0_1 a0_2 a0_3 = some r) :
  Calls Tryz.prog 133 #[.agg #[vL A0_0 l0_0.length c0_0, vS a0_1, vS a0_2, vS a0_3]] w fun e w' => e = .returned (vS r) /\ Below w.heap.size w w' := by
 have hu105 := Tryz.underlying105;have HR0_0 := AM hr0_0;have HC0_0 := AM hc0_0;clear hr0_0 hc0_0;have HB := AM (Below.refl w.heap.size w);have H := h;unfold df.f at H;clear h;obtain ⟨t183, A2, H⟩ := oA H;generalize hy184 : (([t183, a0_1, a0_2, a0_3] : List ByteArray)) = y184 at H;have Ny184 := AM hy184.symm;clear hy184;obtain ⟨t187, A3, H⟩ := oA H;obtain rfl := oI H;(go_enter Tryz.func133, Tryz.ntmps133)
 try go_wp2_with (first | ((with_reducible refine gate_dst (N := 1) rfl ?_); refine bY w 1 (#[vL A0_0 l0_0.length c0_0, vS a0_1, vS a0_2, vS a0_3]) 105 ?_; clear HB; intro gb182 w4 BK182 GW182 HB))
 replace BK182 := AM (bW BK182.out);replace HB := AM (p1 HB.out);(refine dv (n := 11) (S := fun w' => b4 w' gb182 (vL A0_0 l0_0.length c0_0) (vS a0_1) (vS a0_2) (vS a0_3)) (ds := []) (bA 11 0) (by kernel_rfl) rfl rfl ⟨(bC BK182.out 0).trans rfl, (bC BK182.out 1).trans rfl, (bC BK182.out 2).trans rfl, (bC BK182.out 3).trans rfl⟩ (fun hHeld => ?_); refine cL df.tab1 df.bits1 (fun HT_ HW_ => ?_));generalize w4.drew = w5 at BK182 HB hHeld ⊢;refine pP 2 (some 5) (bA 11 4) ?_;refine pP 4 (some 7) (bA 11 20) ?_;refine pP 6 (some 9) (bA 11 84) ?_;refine tP 0 (some 3) (bA 11 85) ?_;refine tP 3 (some 6) (bA 11 93) ?_;refine tP 5 (some 8) (bA 11 125) ?_;refine tP 7 (some 10) (bA 11 253) ?_;refine oP 1 (some 4) (bA 11 255) (fun K hK => ?_);refine gV Tryz.func156 #[.agg #[vL A0_0 l0_0.length c0_0, vS a0_1, vS a0_2, vS a0_3]] ?_;(with_reducible refine (dC.calls k _ _ l0_0 a0_1 a0_2 a0_3 t183 _ ?side1 ?side2 A2.out).mono ?_);(case side1 => exact cX HR0_0);(case side2 => exact HC0_0.out);rintro e w6 ⟨rfl, hb⟩;refine ⟨_, rfl, ?_⟩;replace BK182 := AM (blk_below (by (with_reducible repeat first | apply blk_drewN | apply bW | apply blk_alloc); exact BK182.out) hb);replace HB := bH hb;(try clear hb);refine hK.out _ _ (by and_intros <;> exact (bC BK182.out _).trans rfl) (fun hHeld => ?_);clear hK K;refine nP ?_;refine oP 8 (some 11) (bA 11 511) (fun K hK => ?_);refine rL Kd.string 9 11 ([t183, a0_1, a0_2, a0_3] : List ByteArray) [vS t183, vS a0_1, vS a0_2, vS a0_3] (aZ.one (show Kd.M Kd.string _ _ _ t183 [vS t183] from rfl) (aZ.one (show Kd.M Kd.string _ _ _ a0_1 [vS a0_1] from rfl) (aZ.one (show Kd.M Kd.string _ _ _ a0_2 [vS a0_2] from rfl) (aZ.one (show Kd.M Kd.string _ _ _ a0_3 [vS a0_3] from rfl) (aZ.none _ _))))) ?_;intro v185 w7 ho8 hb hg_ hnew_;clear hg_ hnew_;(first | rw [<- Ny184.out] at ho8 | (simp only [Int.reduceToNat] at ho8; rw [<- Ny184.out] at ho8));have HO186 := AM (Kd.R_lower ho8 (bZ bb));replace BK182 := AM (blk_below (by (with_reducible repeat first | apply blk_drewN | apply bW | apply blk_alloc); exact BK182.out) hb);replace HB := bH hb;clear hb ho8;obtain ⟨Ao9, co9, eo9⟩ := Kd.R_slice HO186.out;(first | subst eo9 | (injection eo9 with f1_ f2_ f3_; have f4_ := f1_.symm; have f5_ := f3_.symm; clear f1_ f2_ f3_; subst f4_; subst f5_));refine hK.out _ _ (by and_intros <;> exact (bC BK182.out _).trans rfl) (fun hHeld => ?_);clear hK K;refine nP ?_;refine oP 9 (some 12) (bA 11 1023) (fun K hK => ?_);refine gV Tryz.func155 #[vL Ao9 y184.length co9] ?_;(with_reducible refine (ct.calls k _ _ y184 t187 _ ?side1 ?side2 A3.out).mono ?_);(case side1 => repeat first | exact (rR HO186.out).2.2 | with_reducible first | apply cA | apply cN | apply cD);(case side2 => exact (rR HO186.out).2.1);rintro e w' ⟨rfl, ⟨nd, rfl⟩⟩;refine ⟨_, rfl, ?_⟩;refine hK.out _ _ (by and_intros <;> exact (bC BK182.out _).trans rfl) (fun hHeld => ?_);clear hK K;refine nP ?_;refine pP 10 (some 2) (bA 11 2047) ?_;refine dV (du HT_.out (by kernel_rfl)) ?_;(try go_wp2);(go_ret);exact ⟨rfl, bb⟩
end Go.Proofs.YtiaelacjjbdolaaGreatDoor.Px
