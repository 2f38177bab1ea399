/- Calls of Go functions come to what the Lean functions beside them say; written by a program of this session (wip/xprint); no conditions. -/
import Derived.Test.YtbnagolaacejoaaGreatDoorPx1
namespace Go.Proofs.YtbnagolaacejoaaGreatDoor.Px
open Go.RowKit Go.Proofs.YtbnagolaacejoaaGreatDoorW.PrintWords Go.Proofs.YtbnagolaacejoaaGreatDoorW.PrintLast Go.Proofs.YtbnagolaacejoaaGreatDoorW.PrintMore
open Go.Proofs.YtbnagolaacejoaaGreatDoorW.PrintWords renaming pw_below_drewN → pN, below_drew1 → p1, below_alloc → pA, below_set → pS, blk_cell → bC, blk_drewN → bN, blk_alloc → bL, blk_drew → bW, below_step → bS, below_size → bZ, blk_below → bB, gate_callee → gC, gate_dst → gD, box_event → gB
open Go.Proofs.YtbnagolaacejoaaGreatDoorW.PrintWords.Aside0 renaming mk → AM
open Option.some renaming inj → oI
open Go.Proofs.YtbnagolaacejoaaGreatDoorW.PrintWords.Kd renaming C_alloc → cA, C_drewN → cN, C_drew → cD, C_below → cB, R_reads' → rR, V_alloc → vA, V_drewN → vN, V_drew → vD, V_below → vB, R_slice → rS, V_reads' → vR, V_slice → vS
open Option renaming bind_eq_some_iff → oB
open List renaming setIfInBounds_toArray → lT, set_cons_zero → lZ, set_cons_succ → lS, map_toArray → mT, map_cons → mC, map_nil → mN
open Bool renaming eq_false_iff → bE
open Go.Proofs.YtbnagolaacejoaaGreatDoorW.PrintLast renaming goes_ → gO, goesL_ → gL
attribute [local go_sem] max2_int min2_int max_two min_two max_three min_three max_four min_four
set_option maxHeartbeats 8000000
set_option maxRecDepth 100000
set_option linter.unusedVariables false
set_option linter.unusedSimpArgs false
def spec_l4Find.l0 : Nat → ByteArray → Int → List (S56) → Option (Int)
 | 0, _, _, _ => none
 | k + 1, x1, x5, x175000 => if x5 < (x175000.length : Int) then (if 0 ≤ x5 then (if ((rd_T56 x175000 x5).f0).toList = x1.toList then (some x5) else (spec_l4Find.l0 k x1 (wrap64 (x5 + 1)) x175000)) else (none)) else (some (-1))
def spec_l4Find.f (k : Nat) (l0_0 : List (S56)) (a1 : ByteArray) : Option (Int) := spec_l4Find.l0 k a1 0 l0_0
theorem spec_l4Find.mono_l : ∀ k, (∀ y0 y1 y2, LeO (spec_l4Find.l0 k y0 y1 y2) (spec_l4Find.l0 (k + 1) y0 y1 y2))
 | 0 => fun _ _ _ r h => by simp [spec_l4Find.l0] at h
 | k + 1 => by
  have ih0 := spec_l4Find.mono_l k
  ·intro y0 y1 y2
   unfold spec_l4Find.l0
   repeat' with_reducible first
   | exact ih0 _ _ _
   | exact LeO.refl _
   | exact LeO.none _
   | refine LeO.ite ?_ ?_
   | refine LeO.bind ?_ (fun _ => ?_)
theorem spec_l4Find.mono : ∀ a0 a1 k, LeO (spec_l4Find.f k a0 a1) (spec_l4Find.f (k + 1) a0 a1) := by
 intro a0 a1 k;have ih0 := spec_l4Find.mono_l k;unfold spec_l4Find.f
 repeat' with_reducible first
   | exact ih0 _ _ _
   | exact LeO.refl _
   | exact LeO.none _
   | refine LeO.ite ?_ ?_
   | refine LeO.bind ?_ (fun _ => ?_)
theorem spec_l4Find.calls (k : Nat) (A0_0 : Option Addr) (c0_0 : Nat) (l0_0 : List (S56)) (a1 : ByteArray) (r : Int) (w : World) (hr0_0 : Kd.C k56 w A0_0 l0_0.length l0_0) (hc0_0 : l0_0.length ≤ c0_0) (h : spec_l4Find.f k l0_0 a1 = some r) :
  Calls Tryz.prog 22 #[.agg #[.slice A0_0 l0_0.length c0_0], .string a1] w fun e w' => e = .returned (.int .i64 r) ∧ Below w.heap.size w w' := by
 have hu32 := Tryz.underlying32;have HR0_0 := AM hr0_0;have HC0_0 := AM hc0_0;clear hr0_0 hc0_0;have HB := AM (Below.refl w.heap.size w);have H := h;unfold spec_l4Find.f at H;clear h;have H' := AM H;clear H;(go_enter Tryz.func22, Tryz.ntmps22)
 go_wp2_with (first | ((with_reducible refine gate_dst (N := 2) rfl ?_); refine bX (N := 2) (cs := #[.slice A0_0 l0_0.length c0_0]) (t := 32) ?_; intro gb174 hg w3 hbox hb; have BK174 := AM (hbox); have GW174 := bG (w := w) hg; replace HB := bH hb; clear hb hbox hg))
 go_loopg [5] k (fun kq v5 w' => ∃ (x5_1 : Int), v5 = .int .i64 x5_1 ∧ Aside0 (spec_l4Find.l0 kq a1 x5_1 l0_0 = some r) ∧ Aside0 (kq ≤ k) ∧ Aside0 (w'.heap[gb174]? = some (.cells #[(.slice A0_0 l0_0.length c0_0)] 32 (0, 0))) ∧ Aside0 (Below w.heap.size w w'))
 case atStart => exact ⟨(0), rf, H', ⟨Nat.le_refl _⟩, ⟨by (with_reducible repeat (first | refine blk_drewN ?_ _ | refine blk_drew ?_ | refine blk_alloc ?_ _)); exact BK174.out⟩, ⟨bb⟩⟩
 case round =>
  clear H';(try clear c2);(try clear p2);obtain ⟨x5_1, rfl, HA, HK1, BK174, HB⟩ := hrel
  cases gk with
  | zero => exact absurd HA.out (by simp [spec_l4Find.l0])
  | succ k1 =>
   have H := HA.out;clear HA;simp only [spec_l4Find.l0] at H;by_cases c4 : x5_1 < (l0_0.length : Int)
   ·rw [if_pos c4] at H
    have c4b0 := dT c4;clear c4;by_cases c5 : 0 ≤ x5_1
    ·rw [if_pos c5] at H
     have c5b0 := dT c5;clear c5;by_cases c6 : ((rd_T56 l0_0 x5_1).f0).toList = a1.toList;(·rw [if_pos c6] at H;have c6b0 : (((rd_T56 l0_0 x5_1).f0).toList == a1.toList) = true := beq_iff_eq.mpr c6;have c6b1 : (((rd_T56 l0_0 x5_1).f0).toList != a1.toList) = false := bne_eq_false_iff_eq.mpr c6;clear c6;obtain rfl := oI H;have z7_0 : wr.cell? ⟨gb174, 0, none⟩ = some (.slice A0_0 l0_0.length c0_0) := (bC BK174.out 0).trans rfl;have p175 := pz x5_1;have q175 := qz x5_1 (l0_0.length : Int);obtain ⟨ad175, A175_2, c175_2, A175_3, c175_3, e175, hx175_0, hx175_1, hx175_2, hx175_3, hx175_4, hx175_5, hx175_6, hx175_7, hx175_8, hx175_9, hx175_10, hx175_11, hx175_12, hx175_13, hl175_2, hi175_2, hl175_3, hi175_3⟩ := at_T56 HR0_0.out x5_1 p175 q175;cases e175;replace hx175_0 := cU hx175_0;have HR175_2 := AM hi175_2;have HC175_2 := AM hl175_2;clear hi175_2 hl175_2;have HR175_3 := AM hi175_3;have HC175_3 := AM hl175_3;clear hi175_3 hl175_3;replace p175 := eq_true p175;replace q175 := eq_true q175;(go_wp2);(go_ret);exact ⟨rfl, bb⟩)
     ·rw [if_neg c6] at H
      have c6b0 : (((rd_T56 l0_0 x5_1).f0).toList == a1.toList) = false := beq_eq_false_iff_ne.mpr c6;have c6b1 : (((rd_T56 l0_0 x5_1).f0).toList != a1.toList) = true := bne_iff_ne.mpr c6;have H' := AM H;clear H;have z8_0 : wr.cell? ⟨gb174, 0, none⟩ = some (.slice A0_0 l0_0.length c0_0) := (bC BK174.out 0).trans rfl;have p175 := pz x5_1;have q175 := qz x5_1 (l0_0.length : Int);obtain ⟨ad175, A175_2, c175_2, A175_3, c175_3, e175, hx175_0, hx175_1, hx175_2, hx175_3, hx175_4, hx175_5, hx175_6, hx175_7, hx175_8, hx175_9, hx175_10, hx175_11, hx175_12, hx175_13, hl175_2, hi175_2, hl175_3, hi175_3⟩ := at_T56 HR0_0.out x5_1 p175 q175;cases e175;replace hx175_0 := cU hx175_0;have HR175_2 := AM hi175_2;have HC175_2 := AM hl175_2;clear hi175_2 hl175_2;have HR175_3 := AM hi175_3;have HC175_3 := AM hl175_3;clear hi175_3 hl175_3;replace p175 := eq_true p175;replace q175 := eq_true q175;(go_wp2);(go_roundg k1)
      case measure => have := HK1.out; omega
      case rel => exact ⟨(wrap64 (x5_1 + 1)), rf, H', ⟨by have := HK1.out; omega⟩, ⟨by (with_reducible repeat (first | refine blk_drewN ?_ _ | refine blk_drew ?_ | refine blk_alloc ?_ _)); exact BK174.out⟩, ⟨bb⟩⟩
    ·exact nO c5 H
   ·rw [if_neg c4] at H
    have c4b0 := dF c4;clear c4;obtain rfl := oI H;have z9_0 : wr.cell? ⟨gb174, 0, none⟩ = some (.slice A0_0 l0_0.length c0_0) := (bC BK174.out 0).trans rfl;(go_wp2);(go_ret);exact ⟨rfl, bb⟩
mutual
def spec_l8Keys.l0 : Nat → List ByteArray → Int → List (S56) → Option (Bool)
 | 0, _, _, _ => none
 | k + 1, x1, x5, x177000 => if x5 < (x1.length : Int) then (if 0 ≤ x5 then ((spec_l4Find.f k x177000 (rdOf ByteArray.empty x1 x5)).bind fun t179 => (if t179 < 0 then (some false) else (spec_l8Keys.l1 k x1 x5 0 x177000))) else (none)) else (some true)
def spec_l8Keys.l1 : Nat → List ByteArray → Int → Int → List (S56) → Option (Bool)
 | 0, _, _, _, _ => none
 | k + 1, x1, x5, x6, x177000 => if x6 < x5 then (if 0 ≤ x6 then (if x6 < (x1.length : Int) then (if 0 ≤ x5 then (if x5 < (x1.length : Int) then (if (rdOf ByteArray.empty x1 x6).toList = (rdOf ByteArray.empty x1 x5).toList then (some false) else (spec_l8Keys.l1 k x1 x5 (wrap64 (x6 + 1)) x177000)) else (none)) else (none)) else (none)) else (none)) else (spec_l8Keys.l0 k x1 (wrap64 (x5 + 1)) x177000)
end
def spec_l8Keys.f (k : Nat) (l0_0 : List (S56)) (l1 : List ByteArray) : Option (Bool) := (spec_l4Good.f k l0_0).bind fun t177 => (if t177 = true then (spec_l8Keys.l0 k l1 0 l0_0) else (some false))
theorem spec_l8Keys.mono_l : ∀ k, (∀ y0 y1 y2, LeO (spec_l8Keys.l0 k y0 y1 y2) (spec_l8Keys.l0 (k + 1) y0 y1 y2)) ∧ (∀ y0 y1 y2 y3, LeO (spec_l8Keys.l1 k y0 y1 y2 y3) (spec_l8Keys.l1 (k + 1) y0 y1 y2 y3))
 | 0 => ⟨fun _ _ _ r h => by simp [spec_l8Keys.l0] at h, fun _ _ _ _ r h => by simp [spec_l8Keys.l1] at h⟩
 | k + 1 => by
  obtain ⟨ih0, ih1⟩ := spec_l8Keys.mono_l k;refine ⟨?_, ?_⟩
  ·intro y0 y1 y2
   unfold spec_l8Keys.l0
   repeat' with_reducible first
   | exact ih0 _ _ _
   | exact ih1 _ _ _ _
   | exact spec_l4Find.mono _ _ _
   | exact spec_l4Good.mono _ _
   | exact LeO.refl _
   | exact LeO.none _
   | refine LeO.ite ?_ ?_
   | refine LeO.bind ?_ (fun _ => ?_)
  ·intro y0 y1 y2 y3
   unfold spec_l8Keys.l1
   repeat' with_reducible first
   | exact ih0 _ _ _
   | exact ih1 _ _ _ _
   | exact spec_l4Find.mono _ _ _
   | exact spec_l4Good.mono _ _
   | exact LeO.refl _
   | exact LeO.none _
   | refine LeO.ite ?_ ?_
   | refine LeO.bind ?_ (fun _ => ?_)
theorem spec_l8Keys.mono : ∀ a0 a1 k, LeO (spec_l8Keys.f k a0 a1) (spec_l8Keys.f (k + 1) a0 a1) := by
 intro a0 a1 k;obtain ⟨ih0, ih1⟩ := spec_l8Keys.mono_l k;unfold spec_l8Keys.f
 repeat' with_reducible first
   | exact ih0 _ _ _
   | exact ih1 _ _ _ _
   | exact spec_l4Find.mono _ _ _
   | exact spec_l4Good.mono _ _
   | exact LeO.refl _
   | exact LeO.none _
   | refine LeO.ite ?_ ?_
   | refine LeO.bind ?_ (fun _ => ?_)
def spec_l8Keys.T11 : Bool × List (List Nat × List Nat) := (true, [([], []), ([], []), ([0, 1], [0, 1]), ([2], [2]), ([], []), ([], []), ([4, 5], [4, 5]), ([6], [6]), ([3, 7], [3, 7])])
def spec_l8Keys.B11 : List Nat := [0, 0, 3, 7, 0, 0, 48, 112, 255]
theorem spec_l8Keys.tab11 : rtab .any (opsOf Tryz.f13 11) = spec_l8Keys.T11 := by kernel_rfl
theorem spec_l8Keys.bits11 : waitsOk spec_l8Keys.T11.2 spec_l8Keys.B11 = true := by kernel_rfl
theorem spec_l8Keys.calls (k : Nat) (A0_0 : Option Addr) (c0_0 : Nat) (l0_0 : List (S56)) (A1 : Option Addr) (c1 : Nat) (l1 : List ByteArray) (r : Bool) (w : World) (hr0_0 : Kd.C k56 w A0_0 l0_0.length l0_0) (hc0_0 : l0_0.length ≤ c0_0) (hr1 : Kd.C Kd.string w A1 l1.length l1) (hc1 : l1.length ≤ c1) (h : spec_l8Keys.f k l0_0 l1 = some r) :
  Calls Tryz.prog 13 #[.agg #[.slice A0_0 l0_0.length c0_0], .slice A1 l1.length c1] w fun e w' => e = .returned (.bool r) ∧ Below w.heap.size w w' := by
 have hu32 := Tryz.underlying32;have HR0_0 := AM hr0_0;have HC0_0 := AM hc0_0;clear hr0_0 hc0_0;have HR1 := AM hr1;have HC1 := AM hc1;clear hr1 hc1;have HB := AM (Below.refl w.heap.size w);have H := h;unfold spec_l8Keys.f at H;clear h;obtain ⟨t177, A3, H⟩ := oA H;(try dsimp only at H);have HC4 := AM H;clear H;(go_enter Tryz.func13, Tryz.ntmps13)
 go_upto_if 9 with (first | ((with_reducible refine gate_dst (N := 2) rfl ?_); refine bX (N := 2) (cs := #[.slice A0_0 l0_0.length c0_0]) (t := 32) ?_; intro gb176 hg w5 hbox hb; have BK176 := AM (hbox); have GW176 := bG (w := w) hg; replace HB := bH hb; clear hb hbox hg; have z6_0 : w5.cell? ⟨gb176, 0, none⟩ = some (.slice A0_0 l0_0.length c0_0) := (bC BK176.out 0).trans rfl) | ((with_reducible refine gate_callee (f := 21) rfl ?_); refine gX (some 8) Tryz.func21 #[.agg #[.slice A0_0 l0_0.length c0_0]] ?_; (with_reducible refine (spec_l4Good.calls k _ _ l0_0 t177 _ ?side1 ?side2 A3.out).mono ?_); (case side1 => exact cX HR0_0); (case side2 => exact HC0_0.out); rintro e w7 ⟨rfl, hb⟩; refine ⟨_, rfl, ?_⟩; replace BK176 := bK BK176 hb; replace HB := bH hb; (try clear hb)))
 have H := HC4.out;clear HC4;by_cases c8 : t177 = true
 ·subst c8
  rw [if_pos rfl] at H;have H' := AM H;clear H;(go_wp2);(go_loopg [5] k (fun kq v5 w' => ∃ (x5_1 : Int), v5 = .int .i64 x5_1 ∧ Aside0 (spec_l8Keys.l0 kq l1 x5_1 l0_0 = some r) ∧ Aside0 (kq ≤ k) ∧ Aside0 (w'.heap[gb176]? = some (.cells #[(.slice A0_0 l0_0.length c0_0)] 32 (0, 0))) ∧ Aside0 (Below w.heap.size w w')))
  case atStart => exact ⟨(0), rf, H', ⟨Nat.le_refl _⟩, ⟨kk BK176⟩, ⟨bb⟩⟩
  case round =>
   clear H';(try clear c1);(try clear c2);(try clear p2);(try clear c8);(try clear z6_0);obtain ⟨x5_1, rfl, HA, HK1, BK176, HB⟩ := hrel
   cases gk with
   | zero => exact absurd HA.out (by simp [spec_l8Keys.l0])
   | succ k1 =>
    have H := HA.out;clear HA;simp only [spec_l8Keys.l0] at H;by_cases c9 : x5_1 < (l1.length : Int)
    ·rw [if_pos c9] at H
     have c9b0 := dT c9;clear c9;(first | rw [c9b0] | rw [c9b1] | rw [c9b2] | (simp only [i64_w, i32_w]; rw [c9b0]) | skip);by_cases c10 : 0 ≤ x5_1
     ·rw [if_pos c10] at H
      have c10b0 := dT c10;clear c10;obtain ⟨t179, A11, H⟩ := oA H;(try dsimp only at H);have HC12 := AM H;clear H;(try go_wp2);replace BK176 := AM (bW BK176.out);replace HB := AM (p1 HB.out);have p178 := pz x5_1;have q178 := qz x5_1 (l1.length : Int);obtain ⟨ad178, e178, hx178_0⟩ := Kd.at_string HR1.out x5_1 p178 q178;have hw178_0 := hx178_0;cases e178;replace hx178_0 := cU hx178_0;replace p178 := eq_true p178;replace q178 := eq_true q178;refine start_ (n := 7) (S := fun w' => w'.cell? ⟨gb176, 0, none⟩ = some (.slice A0_0 l0_0.length c0_0) ∧ w'.cell? (ad178.add (x5_1).toNat) = some (.string (rdOf ByteArray.empty l1 x5_1))) (ds := []) (bA 7 0) (by kernel_rfl) rfl rfl ⟨(bC BK176.out 0).trans rfl, (cU hw178_0)⟩ (fun hHeld => ?_);generalize wr.drew = w13 at BK176 HB hx178_0 hHeld ⊢;refine pure_ (i := 1) (N := some 17) (v := ?_) (a' := ?_) (bA 7 2) rfl rfl (by kernel_rfl) (fun _ _ _ h => h) (Or.inl ⟨by rfl, ?_⟩) ?_ ?_;rotate_left;(·intro w';go_simp;(with_reducible rfl));rotate_left;(·simp only [Act.put, lT, lZ, lS, i64_w, i32_w];rfl);refine pure_ (i := 2) (N := some 18) (v := ?_) (a' := ?_) (bA 7 6) rfl rfl (by kernel_rfl) (fun _ _ _ h => h) (Or.inl ⟨by rfl, ?_⟩) ?_ ?_;rotate_left;(·intro w';go_simp;(with_reducible rfl));rotate_left;(·simp only [Act.put, lT, lZ, lS, i64_w, i32_w];rfl);refine pure_ (i := 3) (N := some 19) (v := ?_) (a' := ?_) (bA 7 14) rfl rfl (by kernel_rfl) (fun _ _ _ h => h) (Or.inl ⟨by rfl, ?_⟩) ?_ ?_;rotate_left;(·intro w';go_simp;(with_reducible rfl));rotate_left;(·simp only [Act.put, lT, lZ, lS, i64_w, i32_w];rfl);refine take_ (i := 0) (N := some 16) (v := ?_) (a' := ?_) (bA 7 15) rfl rfl (by kernel_rfl) (fun _ _ _ h => h) (Or.inl ⟨by rfl, ?_⟩) hHeld ?_ ?_;rotate_left;(·rintro w' ⟨s0, s1⟩;go_simp;(with_reducible rfl));rotate_left;(·simp only [Act.put, lT, lZ, lS, i64_w, i32_w];rfl);refine take_ (i := 4) (N := some 20) (v := ?_) (a' := ?_) (bA 7 31) rfl rfl (by kernel_rfl) (fun _ _ _ h => h) (Or.inl ⟨by rfl, ?_⟩) hHeld ?_ ?_;rotate_left;(·rintro w' ⟨s0, s1⟩;go_simp;(with_reducible rfl));rotate_left;(·simp only [Act.put, lT, lZ, lS, i64_w, i32_w];rfl);refine one_ (i := 5) (N := some 21) (bA 7 63) rfl rfl (by kernel_rfl) (by decide) (fun K hK => ?_);refine gV Tryz.func22 #[.agg #[.slice A0_0 l0_0.length c0_0], .string (rdOf ByteArray.empty l1 x5_1)] ?_;(with_reducible refine (spec_l4Find.calls k1 _ _ l0_0 (rdOf ByteArray.empty l1 x5_1) t179 _ ?side1 ?side2 A11.out).mono ?_);(case side1 => exact cX HR0_0);(case side2 => exact HC0_0.out);rintro e w14 ⟨rfl, hb⟩;refine ⟨_, rfl, ?_⟩;replace BK176 := bK BK176 hb;replace HB := bH hb;(try clear hb);refine hK.out _ _ ⟨(bC BK176.out 0).trans rfl, (cU hw178_0)⟩ (fun hHeld => ?_);clear hK K;refine nP ?_;refine pure_ (i := 6) (N := some 22) (v := ?_) (a' := ?_) (bA 7 127) rfl rfl (by kernel_rfl) (fun _ _ _ h => h) (Or.inl ⟨by rfl, ?_⟩) ?_ ?_;rotate_left;(·intro w';go_simp;(with_reducible rfl));rotate_left;(·simp only [Act.put, lT, lZ, lS, i64_w, i32_w];rfl);refine done_ (by kernel_rfl) ?_
      go_upto_if 22 with (fail)
      have H := HC12.out;clear HC12;by_cases c15 : t179 < 0;(·rw [if_pos c15] at H;have c15b0 := dT c15;clear c15;(first | rw [c15b0] | rw [c15b1] | rw [c15b2] | (simp only [i64_w, i32_w]; rw [c15b0]) | skip);obtain rfl := oI H;(go_wp2);(go_ret);exact ⟨rfl, bb⟩)
      ·rw [if_neg c15] at H
       have c15b0 := dF c15;clear c15;(first | rw [c15b0] | rw [c15b1] | rw [c15b2] | (simp only [i64_w, i32_w]; rw [c15b0]) | skip);have H' := AM H;clear H;(go_wp2);(go_loopg [6] k1 (fun kq v6 w' => ∃ (x6_2 : Int), v6 = .int .i64 x6_2 ∧ Aside0 (spec_l8Keys.l1 kq l1 x5_1 x6_2 l0_0 = some r) ∧ Aside0 (kq ≤ k1) ∧ Aside0 (w'.heap[gb176]? = some (.cells #[(.slice A0_0 l0_0.length c0_0)] 32 (0, 0))) ∧ Aside0 (Below w.heap.size w w')))
       case atStart => exact ⟨(0), rf, H', ⟨Nat.le_refl _⟩, ⟨kk BK176⟩, ⟨bb⟩⟩
       case round =>
        clear H';(try clear c1);(try clear p1);(try clear q1);(try clear hx1);(try clear c2);(try clear p2);(try clear c8);(try clear c9);(try clear c9b0);(try clear c9b1);(try clear c9b2);(try clear c10);(try clear c10b0);(try clear c13);(try clear c15);(try clear c15b0);(try clear c15b1);(try clear c15b2);(try clear z6_0);(try clear hx178_0);(try clear p178);(try clear p2);(try clear q178);obtain ⟨x6_2, rfl, HA, HK2, BK176, HB⟩ := hrel
        cases gk with
        | zero => exact absurd HA.out (by simp [spec_l8Keys.l1])
        | succ k2 =>
         have H := HA.out;clear HA;simp only [spec_l8Keys.l1] at H;by_cases c16 : x6_2 < x5_1
         ·rw [if_pos c16] at H
          have c16b0 := dT c16;clear c16;by_cases c17 : 0 ≤ x6_2
          ·rw [if_pos c17] at H
           have c17b0 := dT c17;clear c17;by_cases c18 : x6_2 < (l1.length : Int)
           ·rw [if_pos c18] at H
            have c18b0 := dT c18;clear c18;by_cases c19 : 0 ≤ x5_1
            ·rw [if_pos c19] at H
             have c19b0 := dT c19;clear c19;by_cases c20 : x5_1 < (l1.length : Int)
             ·rw [if_pos c20] at H
              have c20b0 := dT c20;clear c20;have HC21 := AM H;clear H;(try go_wp2);replace BK176 := AM (bW BK176.out);replace HB := AM (p1 HB.out);have p180 := pz x6_2;have q180 := qz x6_2 (l1.length : Int);obtain ⟨ad180, e180, hx180_0⟩ := Kd.at_string HR1.out x6_2 p180 q180;have hw180_0 := hx180_0
              obtain rfl : ad178 = ad180 := (by injection e180)
              replace hx180_0 := cU hx180_0;replace p180 := eq_true p180;replace q180 := eq_true q180;have p181 := pz x5_1;have q181 := qz x5_1 (l1.length : Int);obtain ⟨ad181, e181, hx181_0⟩ := Kd.at_string HR1.out x5_1 p181 q181;have hw181_0 := hx181_0
              obtain rfl : ad178 = ad181 := (by injection e181)
              replace hx181_0 := cU hx181_0;replace p181 := eq_true p181;replace q181 := eq_true q181;(refine start_ (n := 9) (S := fun w' => w'.cell? (ad178.add (x6_2).toNat) = some (.string (rdOf ByteArray.empty l1 x6_2)) ∧ w'.cell? (ad178.add (x5_1).toNat) = some (.string (rdOf ByteArray.empty l1 x5_1))) (ds := []) (bA 9 0) (by kernel_rfl) rfl rfl ⟨(cU hw180_0), (cU hw181_0)⟩ (fun hHeld => ?_); refine with_tabW spec_l8Keys.tab11 spec_l8Keys.bits11 (fun HT_ HW_ => ?_));generalize wr.drew = w22 at BK176 HB hx180_0 hx181_0 hHeld ⊢;refine pP 0 (some 28) (bA 9 1) HT_ ?_;refine pP 1 (some 29) (bA 9 3) HT_ ?_;refine pP 2 (some 30) (bA 9 7) HT_ ?_;refine pP 4 (some 32) (bA 9 23) HT_ ?_;refine pP 5 (some 33) (bA 9 55) HT_ ?_;refine pP 6 (some 34) (bA 9 119) HT_ ?_;refine tP 3 (some 31) (bA 9 127) HT_ HW_ hHeld ?_;refine tP 7 (some 35) (bA 9 255) HT_ HW_ hHeld ?_;refine pP 8 (some 36) (bA 9 511) HT_ ?_;refine done_ (done_of HT_.out (by kernel_rfl)) ?_
              go_upto_if 36 with (fail)
              have H := HC21.out;clear HC21;by_cases c23 : (rdOf ByteArray.empty l1 x6_2).toList = (rdOf ByteArray.empty l1 x5_1).toList;(·rw [if_pos c23] at H;have c23b0 : ((rdOf ByteArray.empty l1 x6_2).toList == (rdOf ByteArray.empty l1 x5_1).toList) = true := beq_iff_eq.mpr c23;have c23b1 : ((rdOf ByteArray.empty l1 x6_2).toList != (rdOf ByteArray.empty l1 x5_1).toList) = false := bne_eq_false_iff_eq.mpr c23;clear c23;(first | rw [c23b0] | rw [c23b1] | rw [c23b2] | (simp only [i64_w, i32_w]; rw [c23b0]) | skip);obtain rfl := oI H;(go_wp2);(go_ret);exact ⟨rfl, bb⟩)
              ·rw [if_neg c23] at H
               have c23b0 : ((rdOf ByteArray.empty l1 x6_2).toList == (rdOf ByteArray.empty l1 x5_1).toList) = false := beq_eq_false_iff_ne.mpr c23;have c23b1 : ((rdOf ByteArray.empty l1 x6_2).toList != (rdOf ByteArray.empty l1 x5_1).toList) = true := bne_iff_ne.mpr c23;(first | rw [c23b0] | rw [c23b1] | rw [c23b2] | (simp only [i64_w, i32_w]; rw [c23b0]) | skip);have H' := AM H;clear H;(go_wp2);(go_roundg k2)
               case measure => have := HK1.out; have := HK2.out; omega
               case rel => exact ⟨(wrap64 (x6_2 + 1)), rf, H', ⟨by have := HK1.out; have := HK2.out; omega⟩, ⟨kk BK176⟩, ⟨bb⟩⟩
             ·exact nO c20 H
            ·exact nO c19 H
           ·exact nO c18 H
          ·exact nO c17 H
         ·rw [if_neg c16] at H
          have c16b0 := dF c16;clear c16;have H' := AM H;clear H;(go_wp2);(go_roundg k2)
          case measure => have := HK1.out; have := HK2.out; omega
          case rel => exact ⟨(wrap64 (x5_1 + 1)), rf, H', ⟨by have := HK1.out; have := HK2.out; omega⟩, ⟨kk BK176⟩, ⟨bb⟩⟩
     ·exact nO c10 H
    ·rw [if_neg c9] at H
     have c9b0 := dF c9;clear c9;(first | rw [c9b0] | rw [c9b1] | rw [c9b2] | (simp only [i64_w, i32_w]; rw [c9b0]) | skip);obtain rfl := oI H;(go_wp2);(go_ret);exact ⟨rfl, bb⟩
 ·replace c8 := Bool.eq_false_iff.mpr c8
  subst c8;replace H := nF H;obtain rfl := oI H;(go_wp2);(go_ret);exact ⟨rfl, bb⟩
theorem spec_l2Text.cmp (a b : List UInt8) : Lib.compareBytes a b = if Op.bytesLess a b = true then -1 else if (!(Op.bytesLess a b || a == b)) = true then 1 else 0 := by
  induction a generalizing b with
  | nil => cases b <;> simp [Lib.compareBytes, Op.bytesLess]
  | cons x a ih =>
    cases b with
    | nil => simp [Lib.compareBytes, Op.bytesLess]
    | cons y b =>
      unfold Lib.compareBytes Op.bytesLess;by_cases h1 : x < y;(·simp [h1])
      · by_cases h2 : y < x
        · have hne : ¬ x = y := by rintro rfl; exact h1 h2
          simp [h1, h2, hne]
        · have he : x = y := by
            apply UInt8.toNat_inj.1;rw [UInt8.lt_iff_toNat_lt] at h1 h2;omega
          subst he;rw [if_neg h1, if_neg h2, ih b];simp [h1]
def spec_l2Text.f (a0 : ByteArray) (a1 : ByteArray) : Option (Int) := some (Lib.compareBytes a0.data.toList a1.data.toList)
set_option maxHeartbeats 1000000 in
set_option maxRecDepth 100000 in
theorem spec_l2Text.calls (a0 : ByteArray) (a1 : ByteArray) (r : Int) (w : World) (h : spec_l2Text.f a0 a1 = some r) :
    Calls Tryz.prog 39 #[.string a0, .string a1] w fun e w' => e = .returned (.int .i64 r) ∧ Drawn0 w w' := by
  have h' : r = _ := (oI h).symm;clear h;rw [spec_l2Text.cmp] at h';simp only [← Lib.toList_data] at h';(have hgt : ∀ t : TypeId, binOp .gtr t (.string a0) (.string a1) = pure (.bool !(Op.bytesLess a0.toList a1.toList || a0.toList == a1.toList)) := fun t => by simp [binOp, Op.stringOp]);by_cases c1 : Op.bytesLess a0.toList a1.toList = true;(·rw [if_pos c1] at h';subst h';(go_enter Tryz.func39, Tryz.ntmps39);(go_wp2);(go_ret);exact ⟨rfl, Drawn0.refl _⟩);(·rw [if_neg c1] at h';replace c1 := bE.mpr c1;by_cases c2 : (a0.toList == a1.toList) = true;(·rw [c1, c2, if_neg (by decide)] at h';subst h';(go_enter Tryz.func39, Tryz.ntmps39);(go_wp2);(go_ret);exact ⟨rfl, Drawn0.refl _⟩);(·replace c2 := bE.mpr c2;rw [c1, c2, if_pos (by decide)] at h';subst h';(go_enter Tryz.func39, Tryz.ntmps39);(go_wp2);(go_ret);exact ⟨rfl, Drawn0.refl _⟩))
/-- A letter in lower case. -/
def spec_l2Low.isU (b : Int) : Bool := decide (b ≥ 65) && decide (b ≤ 90)
def spec_l2Low.low (b : Int) : Int := if spec_l2Low.isU b = true then b + 32 else b
def spec_l2Low.f (a0 : ByteArray) : Option (ByteArray) := if a0.size ≤ 140737488351232 then some (strOfNums ((bytesOf a0).map spec_l2Low.low)) else none
theorem spec_l2Low.isU_eq (b : Int) : spec_l2Upper.f b = some (spec_l2Low.isU b) := by
  unfold spec_l2Upper.f spec_l2Low.isU;by_cases h : b ≥ 65;(·(rw [if_pos h, dT h]; rfl));(·(rw [if_neg h, dF h]; rfl))
/-- The row half way. -/
def spec_l2Low.half (l : List Int) (j : Nat) : List Int := (l.take j).map spec_l2Low.low ++ l.drop j
theorem spec_l2Low.half_len (l : List Int) (j : Nat) : (spec_l2Low.half l j).length = l.length := by simp [spec_l2Low.half]; omega
theorem spec_l2Low.half_at (l : List Int) (j : Nat) (hj : j < l.length) : (spec_l2Low.half l j).getD j 0 = l.getD j 0 := by
  unfold spec_l2Low.half;rw [List.getD_eq_getElem?_getD, List.getElem?_append_right (by simp; omega)];simp [List.getD, Nat.min_eq_left (Nat.le_of_lt hj)]
theorem spec_l2Low.half_next (l : List Int) (j : Nat) (hj : j < l.length) (v : Int) (hv : v = spec_l2Low.low (l.getD j 0)) : (spec_l2Low.half l j).set j v = spec_l2Low.half l (j + 1) := by
  subst hv;unfold spec_l2Low.half;rw [List.set_append_right _ _ (by simp; omega), List.take_succ_eq_append_getElem hj, List.map_append];(have e : j - (List.map spec_l2Low.low (List.take j l)).length = 0 := by simp; omega);(have hg : l.getD j 0 = l[j] := by simp [List.getD, List.getElem?_eq_getElem hj]);rw [e, List.drop_eq_getElem_cons hj, List.set_cons_zero, hg];simp only [mC, mN, List.append_assoc, List.singleton_append]
theorem spec_l2Low.half_all (l : List Int) (n : Nat) (hn : l.length = n) : spec_l2Low.half l n = l.map spec_l2Low.low := by
  unfold spec_l2Low.half;rw [List.take_of_length_le (by omega), List.drop_of_length_le (by omega), List.append_nil]
theorem spec_l2Low.half_same (l : List Int) (j : Nat) (hj : j < l.length) (hv : spec_l2Low.low (l.getD j 0) = l.getD j 0) : spec_l2Low.half l (j + 1) = spec_l2Low.half l j := by
  have h := spec_l2Low.half_next l j hj _ hv.symm;rw [← h];apply List.ext_getElem?;intro i;by_cases e : j = i;(·subst e;rw [List.getElem?_set_self (by rw [spec_l2Low.half_len]; exact hj)];have := spec_l2Low.half_at l j hj;rw [List.getD_eq_getElem?_getD, List.getElem?_eq_getElem (by rw [spec_l2Low.half_len]; exact hj)] at this;rw [List.getElem?_eq_getElem (by rw [spec_l2Low.half_len]; exact hj)];exact congrArg some this.symm);(·rw [List.getElem?_set_ne e])
theorem spec_l2Low.bytes_lt (s : ByteArray) (j : Nat) : 0 ≤ (bytesOf s).getD j 0 ∧ (bytesOf s).getD j 0 ≤ 255 := by
  have h := rd_bytesOf s (j : Int);unfold rd at h;rw [Int.toNat_natCast] at h;rw [h];exact bt_range s _
set_option maxHeartbeats 4000000 in
set_option maxRecDepth 100000 in
theorem spec_l2Low.calls (a0 : ByteArray) (r : ByteArray) (w : World) (h : spec_l2Low.f a0 = some r) :
    Calls Tryz.prog 66 #[.string a0] w fun e w' => e = .returned (.string r) ∧ Below w.heap.size w w' := by
  unfold spec_l2Low.f at h;by_cases hs : a0.size ≤ 140737488351232
  · rw [if_pos hs] at h
    obtain rfl := oI h;clear h;obtain ⟨cap, W1, hconv, hB1, hbel1⟩ := Go.Proofs.YtbnagolaacejoaaGreatDoorW.Buf.conv_buf (P := Tryz.prog) w 9 108 5 a0 Tryz.underlying9 Tryz.underlying108 Tryz.underlying5;have hlen := bytesOf_length a0;have HB1 := AM hB1;have HBEL1 := AM hbel1;have HLEN := AM hlen;clear hB1 hbel1 hlen;(go_enter Tryz.func66, Tryz.ntmps66);(go_wp2);clear hconv;(go_loopw [4] (fun v wr => ∃ j : Nat, j ≤ a0.size ∧ v = .int .i64 j ∧ Aside0 (Go.Proofs.YtbnagolaacejoaaGreatDoorW.Buf.Bf wr w.heap.size 5 (spec_l2Low.half (bytesOf a0) j)) ∧ Aside0 (Below w.heap.size w wr)) (fun v _ => a0.size - (intOf v).toNat))
    case atStart => exact ⟨0, Nat.zero_le _, rfl, ⟨by simpa [spec_l2Low.half] using HB1.out⟩, HBEL1⟩
    case round =>
      obtain ⟨j, hj, rfl, HB, HBEL⟩ := hrel;by_cases hlt : j < a0.size
      · have hjl : j < (bytesOf a0).length := by rw [HLEN.out]; exact hlt
        (have hjh : j < (spec_l2Low.half (bytesOf a0) j).length := by rw [spec_l2Low.half_len]; exact hjl);have hcell := HB.out.cell j hjh;rw [spec_l2Low.half_at _ _ hjl] at hcell;have hfroz := HB.out.frozen j hjh;have hrng := spec_l2Low.bytes_lt a0 j;have HN := AM (spec_l2Low.half_next (bytesOf a0) j hjl);have HS := AM (spec_l2Low.half_same (bytesOf a0) j hjl)
        obtain ⟨b, hbdef⟩ : ∃ b, b = (bytesOf a0).getD j 0 := ⟨_, rfl⟩
        rw [← hbdef] at hcell hrng;have HBD := AM hbdef;clear hbdef hjl;have hb0 := hrng.1;have hb1 := hrng.2;clear hrng;by_cases hu : spec_l2Low.isU b = true
        · go_wp2_with (go_at_call 99; (with_reducible refine (spec_l2Upper.calls b true _ ((spec_l2Low.isU_eq b).trans (by rw [hu]))).mono ?_); rintro e w' ⟨rfl, ⟨nq, rfl⟩⟩)
          have hv : (b + 32) % 256 = spec_l2Low.low ((bytesOf a0).getD j 0) := by
            rw [← HBD.out];unfold spec_l2Low.low;rw [if_pos hu];unfold spec_l2Low.isU at hu;have := oD (Bool.and_eq_true_iff.1 hu).1;have := oD (Bool.and_eq_true_iff.1 hu).2;omega
          refine ⟨⟨j + 1, by omega, by go_num, ⟨?_⟩, ⟨(pN HBEL.out nq).setCell (Nat.le_refl _) _⟩⟩, by simp [intOf]; omega⟩;rw [← HN.out _ hv];exact (HB.out.drewN nq).set j hjh _
        · go_wp2_with (go_at_call 99; (with_reducible refine (spec_l2Upper.calls b false _ ((spec_l2Low.isU_eq b).trans (by rw [bE.mpr hu]))).mono ?_); rintro e w' ⟨rfl, ⟨nq, rfl⟩⟩)
          refine ⟨⟨j + 1, by omega, by go_num, ⟨?_⟩, ⟨pN HBEL.out nq⟩⟩, by simp [intOf]; omega⟩;rw [HS.out (by rw [← HBD.out]; unfold spec_l2Low.low; rw [if_neg hu])];exact HB.out.drewN nq
      · obtain rfl : j = a0.size := by omega
        have hback := Go.Proofs.YtbnagolaacejoaaGreatDoorW.Buf.conv_back (P := Tryz.prog) HB.out 108 9 a0.size cap ((spec_l2Low.half_len _ _).trans HLEN.out) Tryz.underlying108 Tryz.underlying9 Tryz.underlying5;rw [spec_l2Low.half_all _ _ HLEN.out] at hback;(go_wp2);(go_ret);exact ⟨rfl, HBEL.out⟩
  · rw [if_neg hs] at h
    cases h
def spec_l2Join.l0 : Nat → List ByteArray → ByteArray → Int → Option (ByteArray)
 | 0, _, _, _ => none
 | k + 1, x0, x3, x4 => if x4 < (x0.length : Int) then (if x3.toList = ([] : List UInt8) then (if 0 ≤ x4 then (if x3.size + (rdOf ByteArray.empty x0 x4).size ≤ 9223372036854775807 then (spec_l2Join.l0 k x0 (x3 ++ (rdOf ByteArray.empty x0 x4)) (wrap64 (x4 + 1))) else (none)) else (none)) else (if 0 ≤ x4 then (if (rdOf ByteArray.empty x0 x4).toList = ([] : List UInt8) then (if x3.size + (rdOf ByteArray.empty x0 x4).size ≤ 9223372036854775807 then (spec_l2Join.l0 k x0 (x3 ++ (rdOf ByteArray.empty x0 x4)) (wrap64 (x4 + 1))) else (none)) else (if x3.size + 1 ≤ 9223372036854775807 then (if (x3 ++ (⟨#[32]⟩ : ByteArray)).size + (rdOf ByteArray.empty x0 x4).size ≤ 9223372036854775807 then (spec_l2Join.l0 k x0 ((x3 ++ (⟨#[32]⟩ : ByteArray)) ++ (rdOf ByteArray.empty x0 x4)) (wrap64 (x4 + 1))) else (none)) else (none))) else (none))) else (some x3)
def spec_l2Join.f (k : Nat) (l0 : List ByteArray) : Option (ByteArray) := spec_l2Join.l0 k l0 (⟨#[]⟩ : ByteArray) 0
theorem spec_l2Join.mono_l : ∀ k, (∀ y0 y1 y2, LeO (spec_l2Join.l0 k y0 y1 y2) (spec_l2Join.l0 (k + 1) y0 y1 y2))
 | 0 => fun _ _ _ r h => by simp [spec_l2Join.l0] at h
 | k + 1 => by
  have ih0 := spec_l2Join.mono_l k
  ·intro y0 y1 y2
   unfold spec_l2Join.l0
   repeat' with_reducible first
   | exact ih0 _ _ _
   | exact LeO.refl _
   | exact LeO.none _
   | refine LeO.ite ?_ ?_
   | refine LeO.bind ?_ (fun _ => ?_)
theorem spec_l2Join.mono : ∀ a0 k, LeO (spec_l2Join.f k a0) (spec_l2Join.f (k + 1) a0) := by
 intro a0 k;have ih0 := spec_l2Join.mono_l k;unfold spec_l2Join.f
 repeat' with_reducible first
   | exact ih0 _ _ _
   | exact LeO.refl _
   | exact LeO.none _
   | refine LeO.ite ?_ ?_
   | refine LeO.bind ?_ (fun _ => ?_)
set_option maxHeartbeats 8000000 in
set_option maxRecDepth 100000 in
theorem spec_l2Join.calls (k : Nat) (A0 : Option Addr) (c0 : Nat) (l0 : List ByteArray) (r : ByteArray) (w : World) (hr0 : Kd.C Kd.string w A0 l0.length l0) (hc0 : l0.length ≤ c0) (h : spec_l2Join.f k l0 = some r) :
  Calls Tryz.prog 119 #[.slice A0 l0.length c0] w fun e w' => e = .returned (.string r) ∧ Drawn0 w w' := by
 have HR0 := AM hr0;have HC0 := AM hc0;clear hr0 hc0;have H := h;unfold spec_l2Join.f at H;clear h;have H' := AM H;clear H;(go_enter Tryz.func119, Tryz.ntmps119);(go_wp2);(go_loopg [3, 4] k (fun kq v3 v4 w' => ∃ (x3_1 : ByteArray) (x4_1 : Int), v3 = .string x3_1 ∧ v4 = .int .i64 x4_1 ∧ Aside0 (spec_l2Join.l0 kq l0 x3_1 x4_1 = some r) ∧ Aside0 (kq ≤ k) ∧ Drawn0 w w'))
 case atStart => exact ⟨((⟨#[]⟩ : ByteArray)), (0), rf, rf, H', ⟨Nat.le_refl _⟩, dR⟩
 case round =>
  clear H';(try clear c1);obtain ⟨x3_1, x4_1, rfl, rfl, HA, HK1, ⟨m1, rfl⟩⟩ := hrel
  cases gk with
  | zero => exact absurd HA.out (by simp [spec_l2Join.l0])
  | succ k1 =>
   have H := HA.out;clear HA;simp only [spec_l2Join.l0] at H;by_cases c2 : x4_1 < (l0.length : Int)
   ·rw [if_pos c2] at H
    have c2b0 := dT c2;clear c2;by_cases c3 : x3_1.toList = ([] : List UInt8)
    ·rw [if_pos c3] at H
     have c3b0 : (x3_1.toList == ([] : List UInt8)) = true := beq_iff_eq.mpr c3;have c3b1 : (x3_1.toList != ([] : List UInt8)) = false := bne_eq_false_iff_eq.mpr c3;clear c3;by_cases c4 : 0 ≤ x4_1
     ·rw [if_pos c4] at H
      have c4b0 := dT c4;clear c4;by_cases c5 : x3_1.size + (rdOf ByteArray.empty l0 x4_1).size ≤ 9223372036854775807
      ·rw [if_pos c5] at H
       have c5b0 := eq_true c5;have c5b1 := dT c5;(try have c5b2 : (9223372036854775807 < x3_1.size + (rdOf ByteArray.empty l0 x4_1).size) = False := eq_false (Nat.not_lt.2 c5));have H' := AM H;clear H;have p182 := pz x4_1;have q182 := qz x4_1 (l0.length : Int);obtain ⟨ad182, e182, hx182_0⟩ := Kd.at_string HR0.out x4_1 p182 q182;cases e182;replace p182 := eq_true p182;replace q182 := eq_true q182;(go_wp2);(go_roundg k1)
       case measure => have := HK1.out; omega
       case rel => exact ⟨(x3_1 ++ (rdOf ByteArray.empty l0 x4_1)), (wrap64 (x4_1 + 1)), rf, rf, H', ⟨by have := HK1.out; omega⟩, dR⟩
      ·exact nO c5 H
     ·exact nO c4 H
    ·rw [if_neg c3] at H
     have c3b0 : (x3_1.toList == ([] : List UInt8)) = false := beq_eq_false_iff_ne.mpr c3;have c3b1 : (x3_1.toList != ([] : List UInt8)) = true := bne_iff_ne.mpr c3;by_cases c6 : 0 ≤ x4_1
     ·rw [if_pos c6] at H
      have c6b0 := dT c6;clear c6;by_cases c7 : (rdOf ByteArray.empty l0 x4_1).toList = ([] : List UInt8)
      ·rw [if_pos c7] at H
       have c7b0 : ((rdOf ByteArray.empty l0 x4_1).toList == ([] : List UInt8)) = true := beq_iff_eq.mpr c7;have c7b1 : ((rdOf ByteArray.empty l0 x4_1).toList != ([] : List UInt8)) = false := bne_eq_false_iff_eq.mpr c7;clear c7;by_cases c8 : x3_1.size + (rdOf ByteArray.empty l0 x4_1).size ≤ 9223372036854775807
       ·rw [if_pos c8] at H
        have c8b0 := eq_true c8;have c8b1 := dT c8;(try have c8b2 : (9223372036854775807 < x3_1.size + (rdOf ByteArray.empty l0 x4_1).size) = False := eq_false (Nat.not_lt.2 c8));have H' := AM H;clear H;have p183 := pz x4_1;have q183 := qz x4_1 (l0.length : Int);obtain ⟨ad183, e183, hx183_0⟩ := Kd.at_string HR0.out x4_1 p183 q183;cases e183;replace p183 := eq_true p183;replace q183 := eq_true q183;have p184 := pz x4_1;have q184 := qz x4_1 (l0.length : Int);obtain ⟨ad184, e184, hx184_0⟩ := Kd.at_string HR0.out x4_1 p184 q184
        obtain rfl : ad183 = ad184 := (by injection e184)
        replace p184 := eq_true p184;replace q184 := eq_true q184;(go_wp2);(go_roundg k1)
        case measure => have := HK1.out; omega
        case rel => exact ⟨(x3_1 ++ (rdOf ByteArray.empty l0 x4_1)), (wrap64 (x4_1 + 1)), rf, rf, H', ⟨by have := HK1.out; omega⟩, dR⟩
       ·exact nO c8 H
      ·rw [if_neg c7] at H
       have c7b0 : ((rdOf ByteArray.empty l0 x4_1).toList == ([] : List UInt8)) = false := beq_eq_false_iff_ne.mpr c7;have c7b1 : ((rdOf ByteArray.empty l0 x4_1).toList != ([] : List UInt8)) = true := bne_iff_ne.mpr c7;by_cases c9 : x3_1.size + 1 ≤ 9223372036854775807
       ·rw [if_pos c9] at H
        have c9b0 := eq_true c9;have c9b1 := dT c9;(try have c9b2 : (9223372036854775807 < x3_1.size + 1) = False := eq_false (Nat.not_lt.2 c9));by_cases c10 : (x3_1 ++ (⟨#[32]⟩ : ByteArray)).size + (rdOf ByteArray.empty l0 x4_1).size ≤ 9223372036854775807
        ·rw [if_pos c10] at H
         have c10b0 := eq_true c10;have c10b1 := dT c10;(try have c10b2 : (9223372036854775807 < (x3_1 ++ (⟨#[32]⟩ : ByteArray)).size + (rdOf ByteArray.empty l0 x4_1).size) = False := eq_false (Nat.not_lt.2 c10));(try have c10b3 : (9223372036854775807 < x3_1.size + 1 + ((rdOf ByteArray.empty l0 x4_1).size)) = False := eq_false (by have h_ := c10; simp only [ByteArray.size_append, ByteArray.size_extract] at h_; (try simp only [show (⟨#[32]⟩ : ByteArray).size = 1 from rfl] at h_); (try have q0_ := of_eq_true c2b0); (try have q1_ := of_eq_true c3b0); (try have q3_ := of_eq_true c6b0); (try have q4_ := of_eq_true c7b0); (try have q6_ := of_eq_true c9b0); omega));have H' := AM H;clear H;have p183 := pz x4_1;have q183 := qz x4_1 (l0.length : Int);obtain ⟨ad183, e183, hx183_0⟩ := Kd.at_string HR0.out x4_1 p183 q183;cases e183;replace p183 := eq_true p183;replace q183 := eq_true q183;have p185 := pz x4_1;have q185 := qz x4_1 (l0.length : Int);obtain ⟨ad185, e185, hx185_0⟩ := Kd.at_string HR0.out x4_1 p185 q185
         obtain rfl : ad183 = ad185 := (by injection e185)
         replace p185 := eq_true p185;replace q185 := eq_true q185;(go_wp2);(go_roundg k1)
         case measure => have := HK1.out; omega
         case rel => exact ⟨((x3_1 ++ (⟨#[32]⟩ : ByteArray)) ++ (rdOf ByteArray.empty l0 x4_1)), (wrap64 (x4_1 + 1)), rf, rf, H', ⟨by have := HK1.out; omega⟩, dR⟩
        ·exact nO c10 H
       ·exact nO c9 H
     ·exact nO c6 H
   ·rw [if_neg c2] at H
    have c2b0 := dF c2;clear c2;obtain rfl := oI H;(go_wp2);(go_ret);exact ⟨rf, dR⟩
def spec_l2Given.f (k : Nat) (l0_0 : List ByteArray) (a0_1 : ByteArray) (a0_2 : ByteArray) (a0_3 : ByteArray) : Option (ByteArray) := (spec_l2Join.f k l0_0).bind fun t187 => (some t187)
theorem spec_l2Given.mono : ∀ a0 a1 a2 a3 k, LeO (spec_l2Given.f k a0 a1 a2 a3) (spec_l2Given.f (k + 1) a0 a1 a2 a3) := by
 intro a0 a1 a2 a3 k;unfold spec_l2Given.f
 repeat' with_reducible first
   | exact spec_l2Join.mono _ _
   | exact LeO.refl _
   | exact LeO.none _
   | refine LeO.ite ?_ ?_
   | refine LeO.bind ?_ (fun _ => ?_)
set_option maxHeartbeats 8000000 in
set_option maxRecDepth 100000 in
theorem spec_l2Given.calls (k : Nat) (A0_0 : Option Addr) (c0_0 : Nat) (l0_0 : List ByteArray) (a0_1 : ByteArray) (a0_2 : ByteArray) (a0_3 : ByteArray) (r : ByteArray) (w : World) (hr0_0 : Kd.C Kd.string w A0_0 l0_0.length l0_0) (hc0_0 : l0_0.length ≤ c0_0) (h : spec_l2Given.f k l0_0 a0_1 a0_2 a0_3 = some r) :
  Calls Tryz.prog 120 #[.agg #[.slice A0_0 l0_0.length c0_0, .string a0_1, .string a0_2, .string a0_3]] w fun e w' => e = .returned (.string r) ∧ Below w.heap.size w w' := by
 have hu77 := Tryz.underlying77;have HR0_0 := AM hr0_0;have HC0_0 := AM hc0_0;clear hr0_0 hc0_0;have HB := AM (Below.refl w.heap.size w);have H := h;unfold spec_l2Given.f at H;clear h;obtain ⟨t187, A2, H⟩ := oA H;(try dsimp only at H);obtain rfl := oI H;(go_enter Tryz.func120, Tryz.ntmps120)
 go_wp2_with (first | ((with_reducible refine gate_dst (N := 1) rfl ?_); refine bX (N := 1) (cs := #[.slice A0_0 l0_0.length c0_0, .string a0_1, .string a0_2, .string a0_3]) (t := 77) ?_; intro gb186 hg w3 hbox hb; have BK186 := AM (hbox); have GW186 := bG (w := w) hg; replace HB := bH hb; clear hb hbox hg; obtain ⟨_,_,_,_⟩ := cells4 BK186.out) | ((with_reducible refine gate_callee (f := 119) rfl ?_); refine goesL_ (some 5) rfl rfl Tryz.func119 (by kernel_rfl) rfl #[.slice A0_0 l0_0.length c0_0] rfl (by (try simp only [List.map_toArray, mC, mN]); try rfl) ?_; (with_reducible refine (spec_l2Join.calls k _ _ l0_0 t187 _ ?side1 ?side2 A2.out).mono ?_); (case side1 => exact cX HR0_0); (case side2 => exact HC0_0.out); rintro e w' ⟨rfl, ⟨nd, rfl⟩⟩; refine ⟨_, rfl, ?_⟩))
 (go_ret);exact ⟨rfl, by with_reducible repeat first | exact HB.out | apply pA | apply pN | apply p1 | refine below_set ?_ GW186.out⟩
def spec_l2Full.f (k : Nat) (l0_0 : List ByteArray) (a0_1 : ByteArray) (a0_2 : ByteArray) (a0_3 : ByteArray) : Option (ByteArray) := (spec_l2Given.f k l0_0 a0_1 a0_2 a0_3).bind fun t189 => ((spec_l2Join.f k (([t189, a0_1, a0_2, a0_3] : List ByteArray))).bind fun t193 => (some t193))
theorem spec_l2Full.mono : ∀ a0 a1 a2 a3 k, LeO (spec_l2Full.f k a0 a1 a2 a3) (spec_l2Full.f (k + 1) a0 a1 a2 a3) := by
 intro a0 a1 a2 a3 k;unfold spec_l2Full.f
 repeat' with_reducible first
   | exact spec_l2Given.mono _ _ _ _ _
   | exact spec_l2Join.mono _ _
   | exact LeO.refl _
   | exact LeO.none _
   | refine LeO.ite ?_ ?_
   | refine LeO.bind ?_ (fun _ => ?_)
def spec_l2Full.T1 : Bool × List (List Nat × List Nat) := (true, [([], []), ([0], [0]), ([], []), ([2], [2]), ([], []), ([4], [4]), ([], []), ([6], [6]), ([1, 3, 5, 7], [1, 3, 5, 7]), ([8, 1], [8]), ([9, 9, 0, 1, 2, 3, 4, 5, 6, 7, 8, 9], [9])])
def spec_l2Full.B1 : List Nat := [0, 1, 0, 4, 0, 16, 0, 64, 255, 511, 1023]
theorem spec_l2Full.tab1 : rtab .any (opsOf Tryz.f96 1) = spec_l2Full.T1 := by kernel_rfl
theorem spec_l2Full.bits1 : waitsOk spec_l2Full.T1.2 spec_l2Full.B1 = true := by kernel_rfl
theorem spec_l2Full.calls (k : Nat) (A0_0 : Option Addr) (c0_0 : Nat) (l0_0 : List ByteArray) (a0_1 : ByteArray) (a0_2 : ByteArray) (a0_3 : ByteArray) (r : ByteArray) (w : World) (hr0_0 : Kd.C Kd.string w A0_0 l0_0.length l0_0) (hc0_0 : l0_0.length ≤ c0_0) (h : spec_l2Full.f k l0_0 a0_1 a0_2 a0_3 = some r) :
  Calls Tryz.prog 96 #[.agg #[.slice A0_0 l0_0.length c0_0, .string a0_1, .string a0_2, .string a0_3]] w fun e w' => e = .returned (.string r) ∧ Below w.heap.size w w' := by
 have hu77 := Tryz.underlying77;have HR0_0 := AM hr0_0;have HC0_0 := AM hc0_0;clear hr0_0 hc0_0;have HB := AM (Below.refl w.heap.size w);have H := h;unfold spec_l2Full.f at H;clear h;obtain ⟨t189, A2, H⟩ := oA H;(try dsimp only at H)
 obtain ⟨y190, hy190⟩ : ∃ y_ : List ByteArray, y_ = (([t189, a0_1, a0_2, a0_3] : List ByteArray)) := ⟨_, rfl⟩
 (replace H : ((spec_l2Join.f k y190).bind fun t193 => (some t193)) = some r := by first | (rw [hy190]; with_reducible exact H) | (have H2_ := (Option.bind_some _ _).symm.trans H; rw [hy190]; with_reducible exact H2_) | (have H2_ := (Option.bind_some _ _).symm.trans H; with_reducible exact H2_) | with_reducible exact H | (rw [hy190]; exact H) | exact H);have Ny190 := AM hy190;clear hy190;obtain ⟨t193, A3, H⟩ := oA H;(try dsimp only at H);obtain rfl := oI H;(go_enter Tryz.func96, Tryz.ntmps96)
 try go_wp2_with (first | ((with_reducible refine gate_dst (N := 1) rfl ?_); refine bX (N := 1) (cs := #[.slice A0_0 l0_0.length c0_0, .string a0_1, .string a0_2, .string a0_3]) (t := 77) ?_; intro gb188 hg w4 hbox hb; have BK188 := AM (hbox); have GW188 := bG (w := w) hg; replace HB := bH hb; clear hb hbox hg))
 replace BK188 := AM (bW BK188.out);replace HB := AM (p1 HB.out);(refine start_ (n := 11) (S := fun w' => b4 w' gb188 (.slice A0_0 l0_0.length c0_0) (.string a0_1) (.string a0_2) (.string a0_3)) (ds := []) (bA 11 0) (by kernel_rfl) rfl rfl ⟨(bC BK188.out 0).trans rfl, (bC BK188.out 1).trans rfl, (bC BK188.out 2).trans rfl, (bC BK188.out 3).trans rfl⟩ (fun hHeld => ?_); refine with_tabW spec_l2Full.tab1 spec_l2Full.bits1 (fun HT_ HW_ => ?_));generalize w4.drew = w5 at BK188 HB hHeld ⊢;refine pP 2 (some 5) (bA 11 4) HT_ ?_;refine pP 4 (some 7) (bA 11 20) HT_ ?_;refine pP 6 (some 9) (bA 11 84) HT_ ?_;refine tP 0 (some 3) (bA 11 85) HT_ HW_ hHeld ?_;refine tP 3 (some 6) (bA 11 93) HT_ HW_ hHeld ?_;refine tP 5 (some 8) (bA 11 125) HT_ HW_ hHeld ?_;refine tP 7 (some 10) (bA 11 253) HT_ HW_ hHeld ?_;refine oP 1 (some 4) (bA 11 255) HT_ (fun K hK => ?_);refine gV Tryz.func120 #[.agg #[.slice A0_0 l0_0.length c0_0, .string a0_1, .string a0_2, .string a0_3]] ?_;(with_reducible refine (spec_l2Given.calls k _ _ l0_0 a0_1 a0_2 a0_3 t189 _ ?side1 ?side2 A2.out).mono ?_);(case side1 => exact cX HR0_0);(case side2 => exact HC0_0.out);rintro e w6 ⟨rfl, hb⟩;refine ⟨_, rfl, ?_⟩;replace BK188 := AM (blk_below (by (with_reducible repeat first | apply blk_drewN | apply bW | apply blk_alloc); exact BK188.out) hb);replace HB := bH hb;(try clear hb);refine hK.out _ _ (by and_intros <;> exact (bC BK188.out _).trans rfl) (fun hHeld => ?_);clear hK K;refine nP ?_;refine oP 8 (some 11) (bA 11 511) HT_ (fun K hK => ?_);(refine Kd.R_lit_step Kd.string _ 9 ?hg (N := 11) ?hd (xs := ([t189, a0_1, a0_2, a0_3] : List ByteArray)) (inner := [.string t189, .string a0_1, .string a0_2, .string a0_3]) (ok := fun _ => True) (okp := fun _ => True) ?hr ?hp (fun _ hk => hk) trivial (Below.refl _ _) (Nat.le_refl _) (by simp) ?_; (case hd => rfl); (case hg => rfl); (case hr => first | (go_simp; done) | (go_simp; rfl)); (case hp => exact (Reps.one (show Kd.M Kd.string _ _ _ t189 [.string t189] from rfl) (Reps.one (show Kd.M Kd.string _ _ _ a0_1 [.string a0_1] from rfl) (Reps.one (show Kd.M Kd.string _ _ _ a0_2 [.string a0_2] from rfl) (Reps.one (show Kd.M Kd.string _ _ _ a0_3 [.string a0_3] from rfl) (Reps.none _ _)))))));intro v191 w7 ho8 hb hg_ hnew_;clear hg_ hnew_;(first | rw [← Ny190.out] at ho8 | (simp only [Int.reduceToNat] at ho8; rw [← Ny190.out] at ho8));have HO192 := AM (Kd.R_lower ho8 (bZ bb));replace BK188 := AM (blk_below (by (with_reducible repeat first | apply blk_drewN | apply bW | apply blk_alloc); exact BK188.out) hb);replace HB := bH hb;clear hb ho8;obtain ⟨Ao9, co9, eo9⟩ := Kd.R_slice HO192.out;(first | subst eo9 | (injection eo9 with f1_ f2_ f3_; have f4_ := f1_.symm; have f5_ := f3_.symm; clear f1_ f2_ f3_; subst f4_; subst f5_));refine hK.out _ _ (by and_intros <;> exact (bC BK188.out _).trans rfl) (fun hHeld => ?_);clear hK K;refine nP ?_;refine oP 9 (some 12) (bA 11 1023) HT_ (fun K hK => ?_);refine gV Tryz.func119 #[.slice Ao9 y190.length co9] ?_;(with_reducible refine (spec_l2Join.calls k _ _ y190 t193 _ ?side1 ?side2 A3.out).mono ?_);(case side1 => repeat first | exact (rR HO192.out).2.2 | with_reducible first | apply cA | apply cN | apply cD);(case side2 => exact (rR HO192.out).2.1);rintro e w' ⟨rfl, ⟨nd, rfl⟩⟩;refine ⟨_, rfl, ?_⟩;refine hK.out _ _ (by and_intros <;> exact (bC BK188.out _).trans rfl) (fun hHeld => ?_);clear hK K;refine nP ?_;refine pP 10 (some 2) (bA 11 2047) HT_ ?_;refine done_ (done_of HT_.out (by kernel_rfl)) ?_;(try go_wp2);(go_ret);exact ⟨rfl, bb⟩
def spec_l2Inverse.j0 : Nat → ByteArray → Bool → List ByteArray → ByteArray → ByteArray → ByteArray → Option (ByteArray)
 | 0, _, _, _, _, _, _ => none
 | k + 1, x3, x18, x195000, x195001, x195002, x195003 => if x18 = true then (if x3.size + 2 ≤ 9223372036854775807 then ((spec_l2Given.f k x195000 x195001 x195002 x195003).bind fun t199 => (if (x3 ++ (⟨#[44, 32]⟩ : ByteArray)).size + t199.size ≤ 9223372036854775807 then (if x195003.toList = ([] : List UInt8) then (some ((x3 ++ (⟨#[44, 32]⟩ : ByteArray)) ++ t199)) else (if ((x3 ++ (⟨#[44, 32]⟩ : ByteArray)) ++ t199).size + 2 ≤ 9223372036854775807 then (if (((x3 ++ (⟨#[44, 32]⟩ : ByteArray)) ++ t199) ++ (⟨#[44, 32]⟩ : ByteArray)).size + x195003.size ≤ 9223372036854775807 then (some ((((x3 ++ (⟨#[44, 32]⟩ : ByteArray)) ++ t199) ++ (⟨#[44, 32]⟩ : ByteArray)) ++ x195003)) else (none)) else (none))) else (none))) else (none)) else (if x195003.toList = ([] : List UInt8) then (some x3) else (if x3.size + 2 ≤ 9223372036854775807 then (if (x3 ++ (⟨#[44, 32]⟩ : ByteArray)).size + x195003.size ≤ 9223372036854775807 then (some ((x3 ++ (⟨#[44, 32]⟩ : ByteArray)) ++ x195003)) else (none)) else (none)))
def spec_l2Inverse.f (k : Nat) (l0_0 : List ByteArray) (a0_1 : ByteArray) (a0_2 : ByteArray) (a0_3 : ByteArray) : Option (ByteArray) := (spec_l2Join.f k (([a0_1, a0_2] : List ByteArray))).bind fun t198 => (if (l0_0.length : Int) > 0 then (spec_l2Inverse.j0 k t198 true l0_0 a0_1 a0_2 a0_3) else (spec_l2Inverse.j0 k t198 (a0_3.toList != ([] : List UInt8)) l0_0 a0_1 a0_2 a0_3))
theorem spec_l2Inverse.mono_l : ∀ k, (∀ y0 y1 y2 y3 y4 y5, LeO (spec_l2Inverse.j0 k y0 y1 y2 y3 y4 y5) (spec_l2Inverse.j0 (k + 1) y0 y1 y2 y3 y4 y5))
 | 0 => fun _ _ _ _ _ _ r h => by simp [spec_l2Inverse.j0] at h
 | k + 1 => by
  have ih0 := spec_l2Inverse.mono_l k
  ·intro y0 y1 y2 y3 y4 y5
   unfold spec_l2Inverse.j0
   repeat' with_reducible first
   | exact ih0 _ _ _ _ _ _
   | exact spec_l2Given.mono _ _ _ _ _
   | exact spec_l2Join.mono _ _
   | exact LeO.refl _
   | exact LeO.none _
   | refine LeO.ite ?_ ?_
   | refine LeO.bind ?_ (fun _ => ?_)
theorem spec_l2Inverse.mono : ∀ a0 a1 a2 a3 k, LeO (spec_l2Inverse.f k a0 a1 a2 a3) (spec_l2Inverse.f (k + 1) a0 a1 a2 a3) := by
 intro a0 a1 a2 a3 k;have ih0 := spec_l2Inverse.mono_l k;unfold spec_l2Inverse.f
 repeat' with_reducible first
   | exact ih0 _ _ _ _ _ _
   | exact spec_l2Given.mono _ _ _ _ _
   | exact spec_l2Join.mono _ _
   | exact LeO.refl _
   | exact LeO.none _
   | refine LeO.ite ?_ ?_
   | refine LeO.bind ?_ (fun _ => ?_)
theorem spec_l2Inverse.calls (k : Nat) (A0_0 : Option Addr) (c0_0 : Nat) (l0_0 : List ByteArray) (a0_1 : ByteArray) (a0_2 : ByteArray) (a0_3 : ByteArray) (r : ByteArray) (w : World) (hr0_0 : Kd.C Kd.string w A0_0 l0_0.length l0_0) (hc0_0 : l0_0.length ≤ c0_0) (h : spec_l2Inverse.f k l0_0 a0_1 a0_2 a0_3 = some r) :
  Calls Tryz.prog 97 #[.agg #[.slice A0_0 l0_0.length c0_0, .string a0_1, .string a0_2, .string a0_3]] w fun e w' => e = .returned (.string r) ∧ Below w.heap.size w w' := by
 have hu77 := Tryz.underlying77;have HR0_0 := AM hr0_0;have HC0_0 := AM hc0_0;clear hr0_0 hc0_0;have HB := AM (Below.refl w.heap.size w);have H := h;unfold spec_l2Inverse.f at H;clear h
 obtain ⟨y195, hy195⟩ : ∃ y_ : List ByteArray, y_ = (([a0_1, a0_2] : List ByteArray)) := ⟨_, rfl⟩
 (replace H : ((spec_l2Join.f k y195).bind fun t198 => (if (l0_0.length : Int) > 0 then (spec_l2Inverse.j0 k t198 true l0_0 a0_1 a0_2 a0_3) else (spec_l2Inverse.j0 k t198 (a0_3.toList != ([] : List UInt8)) l0_0 a0_1 a0_2 a0_3))) = some r := by first | (rw [hy195]; with_reducible exact H) | (have H2_ := (Option.bind_some _ _).symm.trans H; rw [hy195]; with_reducible exact H2_) | (have H2_ := (Option.bind_some _ _).symm.trans H; with_reducible exact H2_) | with_reducible exact H | (rw [hy195]; exact H) | exact H);have Ny195 := AM hy195;clear hy195;obtain ⟨t198, A2, H⟩ := oA H;(try dsimp only at H);have HC3 := AM H;clear H;(go_enter Tryz.func97, Tryz.ntmps97)
 go_upto_region 2 with (first | ((with_reducible refine gate_dst (N := 1) rfl ?_); refine bX (N := 1) (cs := #[.slice A0_0 l0_0.length c0_0, .string a0_1, .string a0_2, .string a0_3]) (t := 77) ?_; intro gb194 hg w4 hbox hb; have BK194 := AM (hbox); have GW194 := bG (w := w) hg; replace HB := bH hb; clear hb hbox hg; obtain ⟨z5_0, z5_1, z5_2, z5_3⟩ := cells4 BK194.out) | ((with_reducible refine gate_dst (N := 8) rfl ?_); refine Kd.R_lit Kd.string _ 9 ?hg (N := 8) ?hd (xs := ([a0_1, a0_2] : List ByteArray)) (inner := [.string a0_1, .string a0_2]) (ok := fun _ => True) (okp := fun _ => True) ?hr ?hp (fun _ hk => hk) trivial (Below.refl _ _) (Nat.le_refl _) (by simp) ?_; (case hd => rfl); (case hg => rfl); (case hr => first | (go_simp; done) | (go_simp; rfl)); (case hp => exact (Reps.one (show Kd.M Kd.string _ _ _ a0_1 [.string a0_1] from rfl) (Reps.one (show Kd.M Kd.string _ _ _ a0_2 [.string a0_2] from rfl) (Reps.none _ _)))); intro v196 w6 ho7 hb hg_ hnew_; clear hg_ hnew_; (first | rw [← Ny195.out] at ho7 | (simp only [Int.reduceToNat] at ho7; rw [← Ny195.out] at ho7)); have HO197 := AM (Kd.R_lower ho7 (bZ bb)); replace BK194 := bK BK194 hb; replace HB := bH hb; clear hb ho7; obtain ⟨Ao8, co8, eo8⟩ := Kd.R_slice HO197.out; subst eo8) | ((with_reducible refine gC (f := 119) rfl ?_); refine gX (some 9) Tryz.func119 #[.slice Ao8 y195.length co8] ?_; (with_reducible refine (spec_l2Join.calls k _ _ y195 t198 _ ?side1 ?side2 A2.out).mono ?_); (case side1 => repeat first | exact (rR HO197.out).2.2 | with_reducible first | apply cA | apply cN | apply cD); (case side2 => exact (rR HO197.out).2.1); rintro e w' ⟨rfl, ⟨nd, rfl⟩⟩; refine ⟨_, rfl, ?_⟩))
 (try simp only [Act.put, List.setIfInBounds_toArray, List.set_cons_zero, List.set_cons_succ]);(go_cut [18] (fun v18 wc => ∃ (kq : Nat) (x18_2 : Bool), v18 = .bool x18_2 ∧ Aside0 (spec_l2Inverse.j0 kq t198 x18_2 l0_0 a0_1 a0_2 a0_3 = some r) ∧ Aside0 (kq ≤ k) ∧ Aside0 (wc.heap[gb194]? = some (.cells #[(.slice A0_0 l0_0.length c0_0), .string a0_1, .string a0_2, .string a0_3] 77 (0, 0))) ∧ Aside0 (Below w.heap.size w wc)))
 case first =>
  have H := HC3.out;clear HC3;by_cases c9 : (l0_0.length : Int) > 0
  ·rw [if_pos c9] at H
   have c9b0 : decide (0 < (l0_0.length : Int)) = true := dT c9;have c9b1 : decide (0 < l0_0.length) = true := dT (by omega);clear c9;(first | rw [c9b0] | rw [c9b1] | rw [c9b2] | (simp only [i64_w, i32_w]; rw [c9b0]) | skip);have H' := AM H;clear H;obtain ⟨z10_0, z10_1, z10_2, z10_3⟩ := cells4 BK194.out;(go_wp2);(go_meet)
   case rel => exact ⟨_, (true), rf, H', ⟨lE⟩, ⟨kk BK194⟩, ⟨bb⟩⟩
  ·rw [if_neg c9] at H
   have c9b0 : decide (0 < (l0_0.length : Int)) = false := dF c9;have c9b1 : decide (0 < l0_0.length) = false := dF (by omega);clear c9;(first | rw [c9b0] | rw [c9b1] | rw [c9b2] | (simp only [i64_w, i32_w]; rw [c9b0]) | skip);have H' := AM H;clear H;obtain ⟨z11_0, z11_1, z11_2, z11_3⟩ := cells4 BK194.out;(go_wp2);(go_meet)
   case rel => exact ⟨_, ((a0_3.toList != ([] : List UInt8))), rB, H', ⟨lE⟩, ⟨kk BK194⟩, ⟨bb⟩⟩
 case rest =>
  clear HC3;(try clear c1);(try clear p2);(try clear c9);(try clear c9b0);(try clear c9b1);(try clear c9b2);(try clear c11);(try clear z10_0 z10_1 z10_2 z10_3);(try clear z11_0 z11_1 z11_2 z11_3);(try clear z5_0 z5_1 z5_2 z5_3);obtain ⟨kq, x18_2, rfl, HA, HJ2, BK194, HB⟩ := hcut
  cases kq with
  | zero => exact absurd HA.out (by simp [spec_l2Inverse.j0])
  | succ kj2 =>
   have H := HA.out;clear HA;simp only [spec_l2Inverse.j0] at H;by_cases c12 : x18_2 = true
   ·subst c12
    rw [if_pos rfl] at H;by_cases c13 : t198.size + 2 ≤ 9223372036854775807
    ·rw [if_pos c13] at H
     have c13b0 := eq_true c13;have c13b1 := dT c13;(try have c13b2 : (9223372036854775807 < t198.size + 2) = False := eq_false (Nat.not_lt.2 c13));obtain ⟨t199, A14, H⟩ := oA H;(try dsimp only at H);by_cases c15 : (t198 ++ (⟨#[44, 32]⟩ : ByteArray)).size + t199.size ≤ 9223372036854775807
     ·rw [if_pos c15] at H
      have c15b0 := eq_true c15;have c15b1 := dT c15;(try have c15b2 : (9223372036854775807 < (t198 ++ (⟨#[44, 32]⟩ : ByteArray)).size + t199.size) = False := eq_false (Nat.not_lt.2 c15));(try have c15b3 : (9223372036854775807 < t198.size + 2 + t199.size) = False := eq_false (by have h_ := c15; simp only [ByteArray.size_append, ByteArray.size_extract] at h_; (try simp only [show (⟨#[44, 32]⟩ : ByteArray).size = 2 from rfl] at h_); (try have q0_ := of_eq_true c13b0); omega));by_cases c16 : a0_3.toList = ([] : List UInt8)
      ·rw [if_pos c16] at H
       have c16b0 : (a0_3.toList == ([] : List UInt8)) = true := beq_iff_eq.mpr c16;have c16b1 : (a0_3.toList != ([] : List UInt8)) = false := bne_eq_false_iff_eq.mpr c16;clear c16;obtain rfl := oI H;obtain ⟨_,_,_,_⟩ := cells4 BK194.out
       go_wp2_with (first | ((with_reducible refine gC (f := 120) rfl ?_); refine gX (some 22) Tryz.func120 #[.agg #[.slice A0_0 l0_0.length c0_0, .string a0_1, .string a0_2, .string a0_3]] ?_; (with_reducible refine (spec_l2Given.calls kj2 _ _ l0_0 a0_1 a0_2 a0_3 t199 _ ?side1 ?side2 A14.out).mono ?_); (case side1 => exact cX HR0_0); (case side2 => exact HC0_0.out); rintro e w18 ⟨rfl, hb⟩; refine ⟨_, rfl, ?_⟩; replace BK194 := bK BK194 hb; replace HB := bH hb; (try clear hb); obtain ⟨_,_,_,_⟩ := cells4 BK194.out))
       (go_ret);exact ⟨rfl, bb⟩
      ·rw [if_neg c16] at H
       have c16b0 : (a0_3.toList == ([] : List UInt8)) = false := beq_eq_false_iff_ne.mpr c16;have c16b1 : (a0_3.toList != ([] : List UInt8)) = true := bne_iff_ne.mpr c16;by_cases c20 : ((t198 ++ (⟨#[44, 32]⟩ : ByteArray)) ++ t199).size + 2 ≤ 9223372036854775807
       ·rw [if_pos c20] at H
        have c20b0 := eq_true c20;have c20b1 := dT c20;(try have c20b2 : (9223372036854775807 < ((t198 ++ (⟨#[44, 32]⟩ : ByteArray)) ++ t199).size + 2) = False := eq_false (Nat.not_lt.2 c20));(try have c20b3 : (9223372036854775807 < t198.size + 2 + t199.size + 2) = False := eq_false (by have h_ := c20; simp only [ByteArray.size_append, ByteArray.size_extract] at h_; (try simp only [show (⟨#[44, 32]⟩ : ByteArray).size = 2 from rfl] at h_); (try have q0_ := of_eq_true c13b0); (try have q3_ := of_eq_true c15b0); (try have q6_ := of_eq_true c16b0); omega));by_cases c21 : (((t198 ++ (⟨#[44, 32]⟩ : ByteArray)) ++ t199) ++ (⟨#[44, 32]⟩ : ByteArray)).size + a0_3.size ≤ 9223372036854775807
        ·rw [if_pos c21] at H
         have c21b0 := eq_true c21;have c21b1 := dT c21;(try have c21b2 : (9223372036854775807 < (((t198 ++ (⟨#[44, 32]⟩ : ByteArray)) ++ t199) ++ (⟨#[44, 32]⟩ : ByteArray)).size + a0_3.size) = False := eq_false (Nat.not_lt.2 c21));(try have c21b3 : (9223372036854775807 < t198.size + 2 + t199.size + 2 + a0_3.size) = False := eq_false (by have h_ := c21; simp only [ByteArray.size_append, ByteArray.size_extract] at h_; (try simp only [show (⟨#[44, 32]⟩ : ByteArray).size = 2 from rfl] at h_); (try have q0_ := of_eq_true c13b0); (try have q3_ := of_eq_true c15b0); (try have q6_ := of_eq_true c16b0); (try have q8_ := of_eq_true c20b0); omega));obtain rfl := oI H;obtain ⟨_,_,_,_⟩ := cells4 BK194.out
         go_wp2_with (first | ((with_reducible refine gC (f := 120) rfl ?_); refine gX (some 22) Tryz.func120 #[.agg #[.slice A0_0 l0_0.length c0_0, .string a0_1, .string a0_2, .string a0_3]] ?_; (with_reducible refine (spec_l2Given.calls kj2 _ _ l0_0 a0_1 a0_2 a0_3 t199 _ ?side1 ?side2 A14.out).mono ?_); (case side1 => exact cX HR0_0); (case side2 => exact HC0_0.out); rintro e w23 ⟨rfl, hb⟩; refine ⟨_, rfl, ?_⟩; replace BK194 := bK BK194 hb; replace HB := bH hb; (try clear hb); obtain ⟨_,_,_,_⟩ := cells4 BK194.out))
         (go_ret);exact ⟨rfl, bb⟩
        ·exact nO c21 H
       ·exact nO c20 H
     ·exact nO c15 H
    ·exact nO c13 H
   ·replace c12 := Bool.eq_false_iff.mpr c12
    subst c12;replace H := nF H;by_cases c25 : a0_3.toList = ([] : List UInt8);(·rw [if_pos c25] at H;have c25b0 : (a0_3.toList == ([] : List UInt8)) = true := beq_iff_eq.mpr c25;have c25b1 : (a0_3.toList != ([] : List UInt8)) = false := bne_eq_false_iff_eq.mpr c25;clear c25;obtain rfl := oI H;obtain ⟨_,_,_,_⟩ := cells4 BK194.out;(go_wp2);(go_ret);exact ⟨rfl, bb⟩);(·rw [if_neg c25] at H;have c25b0 : (a0_3.toList == ([] : List UInt8)) = false := beq_eq_false_iff_ne.mpr c25;have c25b1 : (a0_3.toList != ([] : List UInt8)) = true := bne_iff_ne.mpr c25;by_cases c27 : t198.size + 2 ≤ 9223372036854775807;(·rw [if_pos c27] at H;have c27b0 := eq_true c27;have c27b1 := dT c27;(try have c27b2 : (9223372036854775807 < t198.size + 2) = False := eq_false (Nat.not_lt.2 c27));by_cases c28 : (t198 ++ (⟨#[44, 32]⟩ : ByteArray)).size + a0_3.size ≤ 9223372036854775807;(·rw [if_pos c28] at H;have c28b0 := eq_true c28;have c28b1 := dT c28;(try have c28b2 : (9223372036854775807 < (t198 ++ (⟨#[44, 32]⟩ : ByteArray)).size + a0_3.size) = False := eq_false (Nat.not_lt.2 c28));(try have c28b3 : (9223372036854775807 < t198.size + 2 + a0_3.size) = False := eq_false (by have h_ := c28; simp only [ByteArray.size_append, ByteArray.size_extract] at h_; (try simp only [show (⟨#[44, 32]⟩ : ByteArray).size = 2 from rfl] at h_); (try have q0_ := of_eq_true c25b0); (try have q2_ := of_eq_true c27b0); omega));obtain rfl := oI H;obtain ⟨_,_,_,_⟩ := cells4 BK194.out;(go_wp2);(go_ret);exact ⟨rfl, bb⟩);(·exact nO c28 H));(·exact nO c27 H))
def spec_l2Compare.f (k : Nat) (l0_0 : List ByteArray) (a0_1 : ByteArray) (a0_2 : ByteArray) (a0_3 : ByteArray) (l1_0 : List ByteArray) (a1_1 : ByteArray) (a1_2 : ByteArray) (a1_3 : ByteArray) : Option (Int) := (spec_l2Low.f a0_2).bind fun t202 => ((spec_l2Low.f a1_2).bind fun t203 => ((spec_l2Text.f t202 t203).bind fun t204 => (if t204 = 0 then ((spec_l2Text.f a0_1 a1_1).bind fun t205 => (if t205 = 0 then ((spec_l2Full.f k l0_0 a0_1 a0_2 a0_3).bind fun t206 => ((spec_l2Low.f t206).bind fun t207 => ((spec_l2Full.f k l1_0 a1_1 a1_2 a1_3).bind fun t208 => ((spec_l2Low.f t208).bind fun t209 => ((spec_l2Text.f t207 t209).bind fun t210 => (if t210 = 0 then ((spec_l2Inverse.f k l0_0 a0_1 a0_2 a0_3).bind fun t211 => ((spec_l2Inverse.f k l1_0 a1_1 a1_2 a1_3).bind fun t212 => ((spec_l2Text.f t211 t212).bind fun t213 => (some t213)))) else (some t210))))))) else (some t205))) else (some t204))))
theorem spec_l2Compare.mono : ∀ a0 a1 a2 a3 a4 a5 a6 a7 k, LeO (spec_l2Compare.f k a0 a1 a2 a3 a4 a5 a6 a7) (spec_l2Compare.f (k + 1) a0 a1 a2 a3 a4 a5 a6 a7) := by
 intro a0 a1 a2 a3 a4 a5 a6 a7 k;unfold spec_l2Compare.f
 repeat' with_reducible first
   | exact spec_l2Full.mono _ _ _ _ _
   | exact spec_l2Inverse.mono _ _ _ _ _
   | exact LeO.refl _
   | exact LeO.none _
   | refine LeO.ite ?_ ?_
   | refine LeO.bind ?_ (fun _ => ?_)
def spec_l2Compare.T1 : Bool × List (List Nat × List Nat) := (true, [([], []), ([0], [0]), ([1], [1]), ([], []), ([3], [3]), ([4, 2], [4]), ([2, 5, 5], [2, 5]), ([6, 6, 0, 1, 2, 3, 4, 5, 6], [6])])
def spec_l2Compare.B1 : List Nat := [0, 1, 3, 0, 8, 31, 63, 127]
theorem spec_l2Compare.tab1 : rtab .any (opsOf Tryz.f64 1) = spec_l2Compare.T1 := by kernel_rfl
theorem spec_l2Compare.bits1 : waitsOk spec_l2Compare.T1.2 spec_l2Compare.B1 = true := by kernel_rfl
def spec_l2Compare.T7 : Bool × List (List Nat × List Nat) := (true, [([], []), ([0], [0]), ([1, 1], [1]), ([], []), ([3, 2], [3]), ([4, 4], [4]), ([2, 5, 5], [2, 5]), ([6, 6, 0, 1, 2, 3, 4, 5, 6], [6])])
def spec_l2Compare.B7 : List Nat := [0, 1, 3, 0, 15, 31, 63, 127]
theorem spec_l2Compare.tab7 : rtab .any (opsOf Tryz.f64 7) = spec_l2Compare.T7 := by kernel_rfl
theorem spec_l2Compare.bits7 : waitsOk spec_l2Compare.T7.2 spec_l2Compare.B7 = true := by kernel_rfl
theorem spec_l2Compare.calls (k : Nat) (A0_0 : Option Addr) (c0_0 : Nat) (l0_0 : List ByteArray) (a0_1 : ByteArray) (a0_2 : ByteArray) (a0_3 : ByteArray) (A1_0 : Option Addr) (c1_0 : Nat) (l1_0 : List ByteArray) (a1_1 : ByteArray) (a1_2 : ByteArray) (a1_3 : ByteArray) (r : Int) (w : World) (hr0_0 : Kd.C Kd.string w A0_0 l0_0.length l0_0) (hc0_0 : l0_0.length ≤ c0_0) (hr1_0 : Kd.C Kd.string w A1_0 l1_0.length l1_0) (hc1_0 : l1_0.length ≤ c1_0) (h : spec_l2Compare.f k l0_0 a0_1 a0_2 a0_3 l1_0 a1_1 a1_2 a1_3 = some r) :
  Calls Tryz.prog 64 #[.agg #[.slice A0_0 l0_0.length c0_0, .string a0_1, .string a0_2, .string a0_3], .agg #[.slice A1_0 l1_0.length c1_0, .string a1_1, .string a1_2, .string a1_3]] w fun e w' => e = .returned (.int .i64 r) ∧ Below w.heap.size w w' := by
 have hu77 := Tryz.underlying77;have HR0_0 := AM hr0_0;have HC0_0 := AM hc0_0;clear hr0_0 hc0_0;have HR1_0 := AM hr1_0;have HC1_0 := AM hc1_0;clear hr1_0 hc1_0;have HB := AM (Below.refl w.heap.size w);have H := h;unfold spec_l2Compare.f at H;clear h;obtain ⟨t202, A3, H⟩ := oA H;(try dsimp only at H);obtain ⟨t203, A4, H⟩ := oA H;(try dsimp only at H);obtain ⟨t204, A5, H⟩ := oA H;(try dsimp only at H);have HC6 := AM H;clear H;(go_enter Tryz.func64, Tryz.ntmps64)
 try go_wp2_with (first | ((with_reducible refine gate_dst (N := 2) rfl ?_); refine bX (N := 2) (cs := #[.slice A0_0 l0_0.length c0_0, .string a0_1, .string a0_2, .string a0_3]) (t := 77) ?_; intro gb200 hg w7 hbox hb; have BK200 := AM (hbox); have GW200 := bG (w := w) hg; replace HB := bH hb; clear hb hbox hg) | ((with_reducible refine gate_dst (N := 3) rfl ?_); refine bX (N := 3) (cs := #[.slice A1_0 l1_0.length c1_0, .string a1_1, .string a1_2, .string a1_3]) (t := 77) ?_; intro gb201 hg w8 hbox hb; have BK201 := AM (hbox); have GW201 := bG (w := w) hg; replace HB := bH hb; have NB200_201 := AM ((by rw [hg]; exact Nat.ne_of_lt (blk_lt (g := gb200) (kk BK200)) : gb200 ≠ gb201)); have NB201_200 := AM ((by rw [hg]; exact Nat.ne_of_gt (blk_lt (g := gb200) (kk BK200)) : gb201 ≠ gb200)); replace BK200 := bK BK200 hb; clear hb hbox hg))
 replace BK200 := AM (bW BK200.out);replace BK201 := AM (bW BK201.out);replace HB := AM (p1 HB.out);(refine start_ (n := 8) (S := fun w' => B4 w' gb200 (.slice A0_0 l0_0.length c0_0) (.string a0_1) (.string a0_2) (.string a0_3) (b4 w' gb201 (.slice A1_0 l1_0.length c1_0) (.string a1_1) (.string a1_2) (.string a1_3))) (ds := []) (bA 8 0) (by kernel_rfl) rfl rfl ⟨(bC BK200.out 0).trans rfl, (bC BK200.out 1).trans rfl, (bC BK200.out 2).trans rfl, (bC BK200.out 3).trans rfl, (bC BK201.out 0).trans rfl, (bC BK201.out 1).trans rfl, (bC BK201.out 2).trans rfl, (bC BK201.out 3).trans rfl⟩ (fun hHeld => ?_); refine with_tabW spec_l2Compare.tab1 spec_l2Compare.bits1 (fun HT_ HW_ => ?_));generalize w8.drew = w9 at BK200 BK201 HB hHeld ⊢;refine pP 0 (some 8) (bA 8 1) HT_ ?_;refine pP 3 (some 11) (bA 8 9) HT_ ?_;refine tP 1 (some 9) (bA 8 11) HT_ HW_ hHeld ?_;refine tP 4 (some 12) (bA 8 27) HT_ HW_ hHeld ?_;refine oP 2 (some 10) (bA 8 31) HT_ (fun K hK => ?_);refine gV Tryz.func66 #[.string a0_2] ?_;(with_reducible refine (spec_l2Low.calls a0_2 t202 _ A3.out).mono ?_);rintro e w10 ⟨rfl, hb⟩;refine ⟨_, rfl, ?_⟩;replace BK200 := bK BK200 hb;replace BK201 := bK BK201 hb;replace HB := bH hb;(try clear hb);refine hK.out _ _ (by and_intros <;> first | exact (bC BK200.out _).trans rfl | exact (bC BK201.out _).trans rfl) (fun hHeld => ?_);clear hK K;refine nP ?_;refine oP 5 (some 13) (bA 8 63) HT_ (fun K hK => ?_);refine gV Tryz.func66 #[.string a1_2] ?_;(with_reducible refine (spec_l2Low.calls a1_2 t203 _ A4.out).mono ?_);rintro e w11 ⟨rfl, hb⟩;refine ⟨_, rfl, ?_⟩;replace BK200 := bK BK200 hb;replace BK201 := bK BK201 hb;replace HB := bH hb;(try clear hb);refine hK.out _ _ (by and_intros <;> first | exact (bC BK200.out _).trans rfl | exact (bC BK201.out _).trans rfl) (fun hHeld => ?_);clear hK K;refine nP ?_;refine oP 6 (some 14) (bA 8 127) HT_ (fun K hK => ?_);refine gV Tryz.func39 #[.string t202, .string t203] ?_;(with_reducible refine (spec_l2Text.calls t202 t203 t204 _ A5.out).mono ?_);rintro e w' ⟨rfl, ⟨nd, rfl⟩⟩;refine ⟨_, rfl, ?_⟩;refine hK.out _ _ (by and_intros <;> first | exact (bC BK200.out _).trans rfl | exact (bC BK201.out _).trans rfl) (fun hHeld => ?_);clear hK K;refine nP ?_;refine pP 7 (some 5) (bA 8 255) HT_ ?_;refine done_ (done_of HT_.out (by kernel_rfl)) ?_;(try (rw [drewN_self w11]; generalize hq_ : World.drewN w11 _ = w11; have n0_ : Aside0 (w11.heap[gb200]? = some (.cells #[.slice A0_0 l0_0.length c0_0, .string a0_1, .string a0_2, .string a0_3] 77 (0, 0))) := ⟨by rw [← hq_]; exact (kk BK200)⟩; have n1_ : Aside0 (w11.heap[gb201]? = some (.cells #[.slice A1_0 l1_0.length c1_0, .string a1_1, .string a1_2, .string a1_3] 77 (0, 0))) := ⟨by rw [← hq_]; exact (kk BK201)⟩; have n2_ : Aside0 (Below w.heap.size w w11) := ⟨by rw [← hq_]; exact bb⟩; clear BK200 BK201 HB hq_; have BK200 := n0_; have BK201 := n1_; have HB := n2_; clear n0_ n1_ n2_))
 go_upto_if 16 with (fail)
 have H := HC6.out;clear HC6;by_cases c12 : t204 = 0
 ·rw [if_pos c12] at H
  have c12b0 : (t204 == 0) = true := beq_iff_eq.mpr c12;have c12b1 : (t204 != 0) = false := bne_eq_false_iff_eq.mpr c12;clear c12;(first | rw [c12b0] | rw [c12b1] | rw [c12b2] | (simp only [i64_w, i32_w]; rw [c12b0]) | skip);obtain ⟨t205, A13, H⟩ := oA H;(try dsimp only at H);by_cases c14 : t205 = 0
  ·rw [if_pos c14] at H
   have c14b0 : (t205 == 0) = true := beq_iff_eq.mpr c14;have c14b1 : (t205 != 0) = false := bne_eq_false_iff_eq.mpr c14;clear c14;obtain ⟨t206, A15, H⟩ := oA H;(try dsimp only at H);obtain ⟨t207, A16, H⟩ := oA H;(try dsimp only at H);obtain ⟨t208, A17, H⟩ := oA H;(try dsimp only at H);obtain ⟨t209, A18, H⟩ := oA H;(try dsimp only at H);obtain ⟨t210, A19, H⟩ := oA H;(try dsimp only at H);have HC20 := AM H;clear H;have hnb21 := NB200_201.out;have hnc21 := NB201_200.out;obtain ⟨_,_,_,_⟩ := cells4 BK200.out;obtain ⟨_,_,_,_⟩ := cells4 BK201.out
   try go_wp2_with (first | ((with_reducible refine gate_callee (f := 39) rfl ?_); refine gX (some 22) Tryz.func39 #[.string a0_1, .string a1_1] ?_; (with_reducible refine (spec_l2Text.calls a0_1 a1_1 t205 _ A13.out).mono ?_); rintro e w' ⟨rfl, ⟨nd, rfl⟩⟩; refine ⟨_, rfl, ?_⟩))
   (try (rw [drewN_self w11]; generalize hq_ : World.drewN w11 _ = w11; have n0_ : Aside0 (w11.heap[gb200]? = some (.cells #[.slice A0_0 l0_0.length c0_0, .string a0_1, .string a0_2, .string a0_3] 77 (0, 0))) := ⟨by rw [← hq_]; exact (kk BK200)⟩; have n1_ : Aside0 (w11.heap[gb201]? = some (.cells #[.slice A1_0 l1_0.length c1_0, .string a1_1, .string a1_2, .string a1_3] 77 (0, 0))) := ⟨by rw [← hq_]; exact (kk BK201)⟩; have n2_ : Aside0 (Below w.heap.size w w11) := ⟨by rw [← hq_]; exact bb⟩; clear BK200 BK201 HB hq_; have BK200 := n0_; have BK201 := n1_; have HB := n2_; clear n0_ n1_ n2_));replace BK200 := AM (bW BK200.out);replace BK201 := AM (bW BK201.out);replace HB := AM (p1 HB.out);(refine start_ (n := 8) (S := fun w' => B4 w' gb200 (.slice A0_0 l0_0.length c0_0) (.string a0_1) (.string a0_2) (.string a0_3) (b4 w' gb201 (.slice A1_0 l1_0.length c1_0) (.string a1_1) (.string a1_2) (.string a1_3))) (ds := []) (bA 8 0) (by kernel_rfl) rfl rfl ⟨(bC BK200.out 0).trans rfl, (bC BK200.out 1).trans rfl, (bC BK200.out 2).trans rfl, (bC BK200.out 3).trans rfl, (bC BK201.out 0).trans rfl, (bC BK201.out 1).trans rfl, (bC BK201.out 2).trans rfl, (bC BK201.out 3).trans rfl⟩ (fun hHeld => ?_); refine with_tabW spec_l2Compare.tab7 spec_l2Compare.bits7 (fun HT_ HW_ => ?_));generalize w11.drew = w24 at BK200 BK201 HB hHeld ⊢;refine tP 0 (some 26) (bA 8 1) HT_ HW_ hHeld ?_;refine tP 3 (some 29) (bA 8 9) HT_ HW_ hHeld ?_;refine oP 1 (some 27) (bA 8 11) HT_ (fun K hK => ?_);refine gV Tryz.func96 #[.agg #[.slice A0_0 l0_0.length c0_0, .string a0_1, .string a0_2, .string a0_3]] ?_;(with_reducible refine (spec_l2Full.calls k _ _ l0_0 a0_1 a0_2 a0_3 t206 _ ?side1 ?side2 A15.out).mono ?_);(case side1 => exact cX HR0_0);(case side2 => exact HC0_0.out);rintro e w25 ⟨rfl, hb⟩;refine ⟨_, rfl, ?_⟩;replace BK200 := bK BK200 hb;replace BK201 := bK BK201 hb;replace HB := bH hb;(try clear hb);refine hK.out _ _ (by and_intros <;> first | exact (bC BK200.out _).trans rfl | exact (bC BK201.out _).trans rfl) (fun hHeld => ?_);clear hK K;refine nP ?_;refine oP 2 (some 28) (bA 8 15) HT_ (fun K hK => ?_);refine gV Tryz.func66 #[.string t206] ?_;(with_reducible refine (spec_l2Low.calls t206 t207 _ A16.out).mono ?_);rintro e w26 ⟨rfl, hb⟩;refine ⟨_, rfl, ?_⟩;replace BK200 := bK BK200 hb;replace BK201 := bK BK201 hb;replace HB := bH hb;(try clear hb);refine hK.out _ _ (by and_intros <;> first | exact (bC BK200.out _).trans rfl | exact (bC BK201.out _).trans rfl) (fun hHeld => ?_);clear hK K;refine nP ?_;refine oP 4 (some 30) (bA 8 31) HT_ (fun K hK => ?_);refine gV Tryz.func96 #[.agg #[.slice A1_0 l1_0.length c1_0, .string a1_1, .string a1_2, .string a1_3]] ?_;(with_reducible refine (spec_l2Full.calls k _ _ l1_0 a1_1 a1_2 a1_3 t208 _ ?side1 ?side2 A17.out).mono ?_);(case side1 => exact cX HR1_0);(case side2 => exact HC1_0.out);rintro e w27 ⟨rfl, hb⟩;refine ⟨_, rfl, ?_⟩;replace BK200 := bK BK200 hb;replace BK201 := bK BK201 hb;replace HB := bH hb;(try clear hb);refine hK.out _ _ (by and_intros <;> first | exact (bC BK200.out _).trans rfl | exact (bC BK201.out _).trans rfl) (fun hHeld => ?_);clear hK K;refine nP ?_;refine oP 5 (some 31) (bA 8 63) HT_ (fun K hK => ?_);refine gV Tryz.func66 #[.string t208] ?_;(with_reducible refine (spec_l2Low.calls t208 t209 _ A18.out).mono ?_);rintro e w28 ⟨rfl, hb⟩;refine ⟨_, rfl, ?_⟩;replace BK200 := bK BK200 hb;replace BK201 := bK BK201 hb;replace HB := bH hb;(try clear hb);refine hK.out _ _ (by and_intros <;> first | exact (bC BK200.out _).trans rfl | exact (bC BK201.out _).trans rfl) (fun hHeld => ?_);clear hK K;refine nP ?_;refine oP 6 (some 32) (bA 8 127) HT_ (fun K hK => ?_);refine gV Tryz.func39 #[.string t207, .string t209] ?_;(with_reducible refine (spec_l2Text.calls t207 t209 t210 _ A19.out).mono ?_);rintro e w' ⟨rfl, ⟨nd, rfl⟩⟩;refine ⟨_, rfl, ?_⟩;refine hK.out _ _ (by and_intros <;> first | exact (bC BK200.out _).trans rfl | exact (bC BK201.out _).trans rfl) (fun hHeld => ?_);clear hK K;refine nP ?_;refine pP 7 (some 7) (bA 8 255) HT_ ?_;refine done_ (done_of HT_.out (by kernel_rfl)) ?_;(try (rw [drewN_self w28]; generalize hq_ : World.drewN w28 _ = w28; have n0_ : Aside0 (w28.heap[gb200]? = some (.cells #[.slice A0_0 l0_0.length c0_0, .string a0_1, .string a0_2, .string a0_3] 77 (0, 0))) := ⟨by rw [← hq_]; exact (kk BK200)⟩; have n1_ : Aside0 (w28.heap[gb201]? = some (.cells #[.slice A1_0 l1_0.length c1_0, .string a1_1, .string a1_2, .string a1_3] 77 (0, 0))) := ⟨by rw [← hq_]; exact (kk BK201)⟩; have n2_ : Aside0 (Below w.heap.size w w28) := ⟨by rw [← hq_]; exact bb⟩; clear BK200 BK201 HB hq_; have BK200 := n0_; have BK201 := n1_; have HB := n2_; clear n0_ n1_ n2_))
   go_upto_if 34 with (fail)
   have H := HC20.out;clear HC20;by_cases c29 : t210 = 0;(·rw [if_pos c29] at H;have c29b0 : (t210 == 0) = true := beq_iff_eq.mpr c29;have c29b1 : (t210 != 0) = false := bne_eq_false_iff_eq.mpr c29;clear c29;(first | rw [c29b0] | rw [c29b1] | rw [c29b2] | (simp only [i64_w, i32_w]; rw [c29b0]) | skip);obtain ⟨t211, A30, H⟩ := oA H;(try dsimp only at H);obtain ⟨t212, A31, H⟩ := oA H;(try dsimp only at H);obtain ⟨t213, A32, H⟩ := oA H;(try dsimp only at H);obtain rfl := oI H;(try go_wp2);replace BK200 := AM (bW BK200.out);replace BK201 := AM (bW BK201.out);replace HB := AM (p1 HB.out);refine start_ (n := 6) (S := fun w' => B4 w' gb200 (.slice A0_0 l0_0.length c0_0) (.string a0_1) (.string a0_2) (.string a0_3) (b4 w' gb201 (.slice A1_0 l1_0.length c1_0) (.string a1_1) (.string a1_2) (.string a1_3))) (ds := []) #[false, false, false, false, false, false] (by kernel_rfl) rfl rfl ⟨(bC BK200.out 0).trans rfl, (bC BK200.out 1).trans rfl, (bC BK200.out 2).trans rfl, (bC BK200.out 3).trans rfl, (bC BK201.out 0).trans rfl, (bC BK201.out 1).trans rfl, (bC BK201.out 2).trans rfl, (bC BK201.out 3).trans rfl⟩ (fun hHeld => ?_);generalize w28.drew = w33 at BK200 BK201 HB hHeld ⊢;refine take_ (i := 0) (N := some 36) (v := ?_) (a' := ?_) #[true, false, false, false, false, false] rfl rfl (by kernel_rfl) (fun _ _ _ h => h) (Or.inl ⟨by rfl, ?_⟩) hHeld ?_ ?_;rotate_left;(·rintro w' ⟨s0, s1, s2, s3, s4, s5, s6, s7⟩;go_simp;(with_reducible rfl));rotate_left;(·simp only [Act.put, lT, lZ, lS, i64_w, i32_w];rfl);refine take_ (i := 2) (N := some 38) (v := ?_) (a' := ?_) #[true, false, true, false, false, false] rfl rfl (by kernel_rfl) (fun _ _ _ h => h) (Or.inl ⟨by rfl, ?_⟩) hHeld ?_ ?_;rotate_left;(·rintro w' ⟨s0, s1, s2, s3, s4, s5, s6, s7⟩;go_simp;(with_reducible rfl));rotate_left;(·simp only [Act.put, lT, lZ, lS, i64_w, i32_w];rfl);refine one_ (i := 1) (N := some 37) #[true, true, true, false, false, false] rfl rfl (by kernel_rfl) (by decide) (fun K hK => ?_);refine gV Tryz.func97 #[.agg #[.slice A0_0 l0_0.length c0_0, .string a0_1, .string a0_2, .string a0_3]] ?_;(with_reducible refine (spec_l2Inverse.calls k _ _ l0_0 a0_1 a0_2 a0_3 t211 _ ?side1 ?side2 A30.out).mono ?_);(case side1 => exact cX HR0_0);(case side2 => exact HC0_0.out);rintro e w34 ⟨rfl, hb⟩;refine ⟨_, rfl, ?_⟩;replace BK200 := bK BK200 hb;replace BK201 := bK BK201 hb;replace HB := bH hb;(try clear hb);refine hK.out _ _ (by and_intros <;> first | exact (bC BK200.out _).trans rfl | exact (bC BK201.out _).trans rfl) (fun hHeld => ?_);clear hK K;refine nP ?_;refine one_ (i := 3) (N := some 39) #[true, true, true, true, false, false] rfl rfl (by kernel_rfl) (by decide) (fun K hK => ?_);refine gV Tryz.func97 #[.agg #[.slice A1_0 l1_0.length c1_0, .string a1_1, .string a1_2, .string a1_3]] ?_;(with_reducible refine (spec_l2Inverse.calls k _ _ l1_0 a1_1 a1_2 a1_3 t212 _ ?side1 ?side2 A31.out).mono ?_);(case side1 => exact cX HR1_0);(case side2 => exact HC1_0.out);rintro e w35 ⟨rfl, hb⟩;refine ⟨_, rfl, ?_⟩;replace BK200 := bK BK200 hb;replace BK201 := bK BK201 hb;replace HB := bH hb;(try clear hb);refine hK.out _ _ (by and_intros <;> first | exact (bC BK200.out _).trans rfl | exact (bC BK201.out _).trans rfl) (fun hHeld => ?_);clear hK K;refine nP ?_;refine one_ (i := 4) (N := some 40) #[true, true, true, true, true, false] rfl rfl (by kernel_rfl) (by decide) (fun K hK => ?_);refine gV Tryz.func39 #[.string t211, .string t212] ?_;(with_reducible refine (spec_l2Text.calls t211 t212 t213 _ A32.out).mono ?_);rintro e w' ⟨rfl, ⟨nd, rfl⟩⟩;refine ⟨_, rfl, ?_⟩;refine hK.out _ _ (by and_intros <;> first | exact (bC BK200.out _).trans rfl | exact (bC BK201.out _).trans rfl) (fun hHeld => ?_);clear hK K;refine nP ?_;refine pure_ (i := 5) (N := some 4) (v := ?_) (a' := ?_) #[true, true, true, true, true, true] rfl rfl (by kernel_rfl) (fun _ _ _ h => h) (Or.inl ⟨by rfl, ?_⟩) ?_ ?_;rotate_left;(·intro w';go_simp;(with_reducible rfl));rotate_left;(·simp only [Act.put, lT, lZ, lS, i64_w, i32_w];rfl);refine done_ (by kernel_rfl) ?_;(try go_wp2);(go_ret);exact ⟨rfl, bb⟩);(·rw [if_neg c29] at H;have c29b0 : (t210 == 0) = false := beq_eq_false_iff_ne.mpr c29;have c29b1 : (t210 != 0) = true := bne_iff_ne.mpr c29;(first | rw [c29b0] | rw [c29b1] | rw [c29b2] | (simp only [i64_w, i32_w]; rw [c29b0]) | skip);obtain rfl := oI H;(go_wp2);(go_ret);exact ⟨rfl, bb⟩)
  ·rw [if_neg c14] at H
   have c14b0 : (t205 == 0) = false := beq_eq_false_iff_ne.mpr c14;have c14b1 : (t205 != 0) = true := bne_iff_ne.mpr c14;obtain rfl := oI H;have hnb36 := NB200_201.out;have hnc36 := NB201_200.out;obtain ⟨_,_,_,_⟩ := cells4 BK200.out;obtain ⟨_,_,_,_⟩ := cells4 BK201.out
   go_wp2_with (first | ((with_reducible refine gate_callee (f := 39) rfl ?_); refine gX (some 22) Tryz.func39 #[.string a0_1, .string a1_1] ?_; (with_reducible refine (spec_l2Text.calls a0_1 a1_1 t205 _ A13.out).mono ?_); rintro e w' ⟨rfl, ⟨nd, rfl⟩⟩; refine ⟨_, rfl, ?_⟩))
   (go_ret);exact ⟨rfl, bb⟩
 ·rw [if_neg c12] at H
  have c12b0 : (t204 == 0) = false := beq_eq_false_iff_ne.mpr c12;have c12b1 : (t204 != 0) = true := bne_iff_ne.mpr c12;(first | rw [c12b0] | rw [c12b1] | rw [c12b2] | (simp only [i64_w, i32_w]; rw [c12b0]) | skip);obtain rfl := oI H;(go_wp2);(go_ret);exact ⟨rfl, bb⟩
mutual
def spec_l8Names.l0 : Nat → List (S77) → List (S77) → Int → Option (Int)
 | 0, _, _, _ => none
 | k + 1, x0, x1, x5 => if x5 < (x0.length : Int) then (spec_l8Names.j1 k x0 x1 x5 (decide (x5 < (x1.length : Int)))) else (spec_l8Names.j1 k x0 x1 x5 false)
def spec_l8Names.j1 : Nat → List (S77) → List (S77) → Int → Bool → Option (Int)
 | 0, _, _, _, _ => none
 | k + 1, x0, x1, x5, x16 => if x16 = true then (if 0 ≤ x5 then (if x5 < (x0.length : Int) then (if x5 < (x1.length : Int) then ((spec_l2Compare.f k ((rd_T77 x0 x5).f0) ((rd_T77 x0 x5).f1) ((rd_T77 x0 x5).f2) ((rd_T77 x0 x5).f3) ((rd_T77 x1 x5).f0) ((rd_T77 x1 x5).f1) ((rd_T77 x1 x5).f2) ((rd_T77 x1 x5).f3)).bind fun t216 => (if t216 = 0 then (spec_l8Names.l0 k x0 x1 (wrap64 (x5 + 1))) else (some t216))) else (none)) else (none)) else (none)) else (if (x0.length : Int) < (x1.length : Int) then (some (-1)) else (if (x0.length : Int) > (x1.length : Int) then (some 1) else (some 0)))
end
def spec_l8Names.f (k : Nat) (l0 : List (S77)) (l1 : List (S77)) : Option (Int) := spec_l8Names.l0 k l0 l1 0
theorem spec_l8Names.mono_l : ∀ k, (∀ y0 y1 y2, LeO (spec_l8Names.l0 k y0 y1 y2) (spec_l8Names.l0 (k + 1) y0 y1 y2)) ∧ (∀ y0 y1 y2 y3, LeO (spec_l8Names.j1 k y0 y1 y2 y3) (spec_l8Names.j1 (k + 1) y0 y1 y2 y3))
 | 0 => ⟨fun _ _ _ r h => by simp [spec_l8Names.l0] at h, fun _ _ _ _ r h => by simp [spec_l8Names.j1] at h⟩
 | k + 1 => by
  obtain ⟨ih0, ih1⟩ := spec_l8Names.mono_l k;refine ⟨?_, ?_⟩
  ·intro y0 y1 y2
   unfold spec_l8Names.l0
   repeat' with_reducible first
   | exact ih0 _ _ _
   | exact ih1 _ _ _ _
   | exact spec_l2Compare.mono _ _ _ _ _ _ _ _ _
   | exact LeO.refl _
   | exact LeO.none _
   | refine LeO.ite ?_ ?_
   | refine LeO.bind ?_ (fun _ => ?_)
  ·intro y0 y1 y2 y3
   unfold spec_l8Names.j1
   repeat' with_reducible first
   | exact ih0 _ _ _
   | exact ih1 _ _ _ _
   | exact spec_l2Compare.mono _ _ _ _ _ _ _ _ _
   | exact LeO.refl _
   | exact LeO.none _
   | refine LeO.ite ?_ ?_
   | refine LeO.bind ?_ (fun _ => ?_)
theorem spec_l8Names.mono : ∀ a0 a1 k, LeO (spec_l8Names.f k a0 a1) (spec_l8Names.f (k + 1) a0 a1) := by
 intro a0 a1 k;obtain ⟨ih0, ih1⟩ := spec_l8Names.mono_l k;unfold spec_l8Names.f
 repeat' with_reducible first
   | exact ih0 _ _ _
   | exact ih1 _ _ _ _
   | exact spec_l2Compare.mono _ _ _ _ _ _ _ _ _
   | exact LeO.refl _
   | exact LeO.none _
   | refine LeO.ite ?_ ?_
   | refine LeO.bind ?_ (fun _ => ?_)
def spec_l8Names.T4 : Bool × List (List Nat × List Nat) := (true, [([], []), ([], []), ([0, 1], [0, 1]), ([2], [2]), ([], []), ([], []), ([4, 5], [4, 5]), ([6], [6]), ([3, 7], [3, 7]), ([8, 8, 0, 1, 2, 3, 4, 5, 6, 7, 8], [8])])
def spec_l8Names.B4 : List Nat := [0, 0, 3, 7, 0, 0, 48, 112, 255, 511]
theorem spec_l8Names.tab4 : rtab .any (opsOf Tryz.f34 4) = spec_l8Names.T4 := by kernel_rfl
theorem spec_l8Names.bits4 : waitsOk spec_l8Names.T4.2 spec_l8Names.B4 = true := by kernel_rfl
theorem spec_l8Names.calls (k : Nat) (A0 : Option Addr) (c0 : Nat) (l0 : List (S77)) (A1 : Option Addr) (c1 : Nat) (l1 : List (S77)) (r : Int) (w : World) (hr0 : Kd.C k77 w A0 l0.length l0) (hc0 : l0.length ≤ c0) (hr1 : Kd.C k77 w A1 l1.length l1) (hc1 : l1.length ≤ c1) (h : spec_l8Names.f k l0 l1 = some r) :
  Calls Tryz.prog 34 #[.slice A0 l0.length c0, .slice A1 l1.length c1] w fun e w' => e = .returned (.int .i64 r) ∧ Below w.heap.size w w' := by
 have hu77 := Tryz.underlying77;have HR0 := AM hr0;have HC0 := AM hc0;clear hr0 hc0;have HR1 := AM hr1;have HC1 := AM hc1;clear hr1 hc1;have HB := AM (Below.refl w.heap.size w);have H := h;unfold spec_l8Names.f at H;clear h;have H' := AM H;clear H;(go_enter Tryz.func34, Tryz.ntmps34);(go_wp2);(go_loopg [5] k (fun kq v5 w' => ∃ (x5_1 : Int), v5 = .int .i64 x5_1 ∧ Aside0 (spec_l8Names.l0 kq l0 l1 x5_1 = some r) ∧ Aside0 (kq ≤ k) ∧ Aside0 (Below w.heap.size w w')))
 case atStart => exact ⟨(0), rf, H', ⟨Nat.le_refl _⟩, ⟨bb⟩⟩
 case round =>
  clear H';(try clear c1);(try clear p2);obtain ⟨x5_1, rfl, HA, HK1, HB⟩ := hrel
  cases gk with
  | zero => exact absurd HA.out (by simp [spec_l8Names.l0])
  | succ k1 =>
   have H := HA.out;clear HA;simp only [spec_l8Names.l0] at H;have HC3 := AM H;clear H
   go_upto_region 2 with (fail)
   go_cut [16] (fun v16 wc => ∃ (kq : Nat) (x16_2 : Bool), v16 = .bool x16_2 ∧ Aside0 (spec_l8Names.j1 kq l0 l1 x5_1 x16_2 = some r) ∧ Aside0 (kq ≤ k1) ∧ Aside0 (Below w.heap.size w wc))
   case first =>
    have H := HC3.out;clear HC3;by_cases c4 : x5_1 < (l0.length : Int)
    ·rw [if_pos c4] at H
     have c4b0 := dT c4;clear c4;(first | rw [c4b0] | rw [c4b1] | rw [c4b2] | (simp only [i64_w, i32_w]; rw [c4b0]) | skip);have H' := AM H;clear H;(go_wp2);(go_meet)
     case rel => exact ⟨_, (decide (x5_1 < (l1.length : Int))), rf, H', ⟨by have := HK1.out; first | omega | exact Nat.le_refl _⟩, ⟨bb⟩⟩
    ·rw [if_neg c4] at H
     have c4b0 := dF c4;clear c4;(first | rw [c4b0] | rw [c4b1] | rw [c4b2] | (simp only [i64_w, i32_w]; rw [c4b0]) | skip);have H' := AM H;clear H;(go_wp2);(go_meet)
     case rel => exact ⟨_, (false), rf, H', ⟨by have := HK1.out; first | omega | exact Nat.le_refl _⟩, ⟨bb⟩⟩
   case rest =>
    clear HC3;(try clear c1);(try clear p2);(try clear c3);(try clear c4);(try clear c4b0);(try clear c4b1);(try clear c4b2);(try clear p2);obtain ⟨kq, x16_2, rfl, HA, HJ2, HB⟩ := hcut
    cases kq with
    | zero => exact absurd HA.out (by simp [spec_l8Names.j1])
    | succ kj2 =>
     have H := HA.out;clear HA;simp only [spec_l8Names.j1] at H;by_cases c5 : x16_2 = true
     ·subst c5
      rw [if_pos rfl] at H;by_cases c6 : 0 ≤ x5_1
      ·rw [if_pos c6] at H
       have c6b0 := dT c6;clear c6;by_cases c7 : x5_1 < (l0.length : Int)
       ·rw [if_pos c7] at H
        have c7b0 := dT c7;clear c7;by_cases c8 : x5_1 < (l1.length : Int)
        ·rw [if_pos c8] at H
         have c8b0 := dT c8;clear c8;obtain ⟨t216, A9, H⟩ := oA H;(try dsimp only at H);have HC10 := AM H;clear H;(try go_wp2);replace HB := AM (p1 HB.out);have p214 := pz x5_1;have q214 := qz x5_1 (l0.length : Int);obtain ⟨ad214, A214_0, c214_0, e214, hx214_0, hx214_1, hx214_2, hx214_3, hl214_0, hi214_0⟩ := at_T77 HR0.out x5_1 p214 q214;have hw214_3 := hx214_3;have hw214_2 := hx214_2;have hw214_1 := hx214_1;have hw214_0 := hx214_0;cases e214;replace hx214_0 := cU hx214_0;replace hx214_1 := cU hx214_1;replace hx214_2 := cU hx214_2;replace hx214_3 := cU hx214_3;have HR214_0 := AM hi214_0;have HC214_0 := AM hl214_0;clear hi214_0 hl214_0;replace p214 := eq_true p214;replace q214 := eq_true q214;have p215 := pz x5_1;have q215 := qz x5_1 (l1.length : Int);obtain ⟨ad215, A215_0, c215_0, e215, hx215_0, hx215_1, hx215_2, hx215_3, hl215_0, hi215_0⟩ := at_T77 HR1.out x5_1 p215 q215;have hw215_3 := hx215_3;have hw215_2 := hx215_2;have hw215_1 := hx215_1;have hw215_0 := hx215_0;cases e215;replace hx215_0 := cU hx215_0;replace hx215_1 := cU hx215_1;replace hx215_2 := cU hx215_2;replace hx215_3 := cU hx215_3;have HR215_0 := AM hi215_0;have HC215_0 := AM hl215_0;clear hi215_0 hl215_0;replace p215 := eq_true p215;replace q215 := eq_true q215;(refine start_ (n := 10) (S := fun w' => E77 w' (ad214.add ((x5_1).toNat * 4)) (rd_T77 l0 x5_1) A214_0 c214_0 (e77 w' (ad215.add ((x5_1).toNat * 4)) (rd_T77 l1 x5_1) A215_0 c215_0)) (ds := []) (bA 10 0) (by kernel_rfl) rfl rfl ⟨(cU hw214_0), (cU hw214_1), (cU hw214_2), (cU hw214_3), (cU hw215_0), (cU hw215_1), (cU hw215_2), (cU hw215_3)⟩ (fun hHeld => ?_); refine with_tabW spec_l8Names.tab4 spec_l8Names.bits4 (fun HT_ HW_ => ?_));generalize wc.drew = w11 at HB HR214_0 HR215_0 hx214_0 hx214_1 hx214_2 hx214_3 hx215_0 hx215_1 hx215_2 hx215_3 hHeld ⊢;refine pP 0 (some 19) (bA 10 1) HT_ ?_;refine pP 1 (some 20) (bA 10 3) HT_ ?_;refine pP 2 (some 21) (bA 10 7) HT_ ?_;refine pP 4 (some 23) (bA 10 23) HT_ ?_;refine pP 5 (some 24) (bA 10 55) HT_ ?_;refine pP 6 (some 25) (bA 10 119) HT_ ?_;refine tP 3 (some 22) (bA 10 127) HT_ HW_ hHeld ?_;refine tP 7 (some 26) (bA 10 255) HT_ HW_ hHeld ?_;refine oP 8 (some 27) (bA 10 511) HT_ (fun K hK => ?_);refine goes_ Tryz.func64 (by kernel_rfl) rfl #[.agg #[.slice A214_0 ((rd_T77 l0 x5_1).f0).length c214_0, .string ((rd_T77 l0 x5_1).f1), .string ((rd_T77 l0 x5_1).f2), .string ((rd_T77 l0 x5_1).f3)], .agg #[.slice A215_0 ((rd_T77 l1 x5_1).f0).length c215_0, .string ((rd_T77 l1 x5_1).f1), .string ((rd_T77 l1 x5_1).f2), .string ((rd_T77 l1 x5_1).f3)]] (by rfl) rfl rfl (by (try simp only [List.map_toArray, List.map_cons, List.map_nil]); try rfl) ?_;(with_reducible refine (spec_l2Compare.calls kj2 _ _ ((rd_T77 l0 x5_1).f0) ((rd_T77 l0 x5_1).f1) ((rd_T77 l0 x5_1).f2) ((rd_T77 l0 x5_1).f3) _ _ ((rd_T77 l1 x5_1).f0) ((rd_T77 l1 x5_1).f1) ((rd_T77 l1 x5_1).f2) ((rd_T77 l1 x5_1).f3) t216 _ ?side1 ?side2 ?side3 ?side4 A9.out).mono ?_);(case side1 => exact cX HR214_0);(case side2 => exact HC214_0.out);(case side3 => exact cX HR215_0);(case side4 => exact HC215_0.out);rintro e w12 ⟨rfl, hb⟩;refine ⟨_, rfl, ?_⟩;replace HB := bH hb;(try clear hb);refine hK.out _ _ ⟨(cU hw214_0), (cU hw214_1), (cU hw214_2), (cU hw214_3), (cU hw215_0), (cU hw215_1), (cU hw215_2), (cU hw215_3)⟩ (fun hHeld => ?_);clear hK K;refine nP ?_;refine pP 9 (some 6) (bA 10 1023) HT_ ?_;refine done_ (done_of HT_.out (by kernel_rfl)) ?_
         go_upto_if 29 with (fail)
         have H := HC10.out;clear HC10;by_cases c13 : t216 = 0
         ·rw [if_pos c13] at H
          have c13b0 : (t216 == 0) = true := beq_iff_eq.mpr c13;have c13b1 : (t216 != 0) = false := bne_eq_false_iff_eq.mpr c13;clear c13;(first | rw [c13b0] | rw [c13b1] | rw [c13b2] | (simp only [i64_w, i32_w]; rw [c13b0]) | skip);have H' := AM H;clear H;(go_wp2);(go_roundg kj2)
          case measure => have := HK1.out; have := HJ2.out; omega
          case rel => exact ⟨(wrap64 (x5_1 + 1)), rf, H', ⟨by have := HK1.out; have := HJ2.out; omega⟩, ⟨bb⟩⟩
         ·rw [if_neg c13] at H
          have c13b0 : (t216 == 0) = false := beq_eq_false_iff_ne.mpr c13;have c13b1 : (t216 != 0) = true := bne_iff_ne.mpr c13;(first | rw [c13b0] | rw [c13b1] | rw [c13b2] | (simp only [i64_w, i32_w]; rw [c13b0]) | skip);obtain rfl := oI H;(go_wp2);(go_ret);exact ⟨rfl, bb⟩
        ·exact nO c8 H
       ·exact nO c7 H
      ·exact nO c6 H
     ·replace c5 := Bool.eq_false_iff.mpr c5
      subst c5;replace H := nF H;by_cases c14 : (l0.length : Int) < (l1.length : Int);(·rw [if_pos c14] at H;have c14b0 := dT c14;have c14b1 : decide (l0.length < l1.length) = true := dT (Int.ofNat_lt.mp c14);clear c14;obtain rfl := oI H;(go_wp2);(go_ret);exact ⟨rfl, bb⟩);(·rw [if_neg c14] at H;have c14b0 := dF c14;have c14b1 : decide (l0.length < l1.length) = false := dF (fun h => c14 (Int.ofNat_lt.mpr h));clear c14;by_cases c15 : (l0.length : Int) > (l1.length : Int);(·rw [if_pos c15] at H;have c15b0 : decide ((l1.length : Int) < (l0.length : Int)) = true := dT c15;have c15b1 : decide (l1.length < l0.length) = true := dT (Int.ofNat_lt.mp c15);clear c15;obtain rfl := oI H;(go_wp2);(go_ret);exact ⟨rfl, bb⟩);(·rw [if_neg c15] at H;have c15b0 : decide ((l1.length : Int) < (l0.length : Int)) = false := dF c15;have c15b1 : decide (l1.length < l0.length) = false := dF (fun h => c15 (Int.ofNat_lt.mpr h));clear c15;obtain rfl := oI H;(go_wp2);(go_ret);exact ⟨rfl, bb⟩))
def spec_l8Main.f (a0_0 : ByteArray) (a0_1 : Int) (l0_2 : List (S77)) (l0_3 : List (S77)) (a0_4 : ByteArray) (a0_5 : ByteArray) (a0_6 : ByteArray) (a0_7 : Int) (a0_8 : Int) (a0_9 : Int) (a0_10 : Bool) (a0_11 : Int) (a0_12 : ByteArray) (a0_13 : ByteArray) : Option ((List (S77))) := if (l0_2.length : Int) > 0 then (some l0_2) else (some l0_3)
theorem spec_l8Main.calls (a0_0 : ByteArray) (a0_1 : Int) (P0_2_ : Nat → Prop) (A0_2 : Option Addr) (c0_2 : Nat) (l0_2 : List (S77)) (P0_3_ : Nat → Prop) (A0_3 : Option Addr) (c0_3 : Nat) (l0_3 : List (S77)) (a0_4 : ByteArray) (a0_5 : ByteArray) (a0_6 : ByteArray) (a0_7 : Int) (a0_8 : Int) (a0_9 : Int) (a0_10 : Bool) (a0_11 : Int) (a0_12 : ByteArray) (a0_13 : ByteArray) (r : List (S77)) (w : World) (hs0_2 : Kd.V k77 77 w w.heap.size (fun k_ => P0_2_ k_) (.slice A0_2 l0_2.length c0_2) l0_2) (hs0_3 : Kd.V k77 77 w w.heap.size (fun k_ => P0_3_ k_) (.slice A0_3 l0_3.length c0_3) l0_3) (h : spec_l8Main.f a0_0 a0_1 l0_2 l0_3 a0_4 a0_5 a0_6 a0_7 a0_8 a0_9 a0_10 a0_11 a0_12 a0_13 = some r) :
  Calls Tryz.prog 35 #[.agg #[.string a0_0, .int .i64 a0_1, .slice A0_2 l0_2.length c0_2, .slice A0_3 l0_3.length c0_3, .string a0_4, .string a0_5, .string a0_6, .int .i64 a0_7, .int .i64 a0_8, .int .i64 a0_9, .bool a0_10, .int .i64 a0_11, .string a0_12, .string a0_13]] w fun e w' => ∃ v0_ : Value, e = .returned (v0_) ∧ Kd.V k77 77 w' w.heap.size (fun k_ => ((P0_2_ k_ ∨ P0_3_ k_) ∨ w.heap.size ≤ k_)) v0_ r ∧ Below w.heap.size w w' := by
 have hu56 := Tryz.underlying56;have HO0_2 := AM (show Kd.V k77 77 w w.heap.size (fun k_ => ((P0_2_ k_ ∨ P0_3_ k_) ∨ w.heap.size ≤ k_)) (.slice A0_2 l0_2.length c0_2) l0_2 from Kd.V_mono hs0_2 (fun k_ hk => .inl (.inl hk)));have HO0_3 := AM (show Kd.V k77 77 w w.heap.size (fun k_ => ((P0_2_ k_ ∨ P0_3_ k_) ∨ w.heap.size ≤ k_)) (.slice A0_3 l0_3.length c0_3) l0_3 from Kd.V_mono hs0_3 (fun k_ hk => .inl (.inr hk)));have HB := AM (Below.refl w.heap.size w);have H := h;unfold spec_l8Main.f at H;clear h;have HC2 := AM H;clear H;(go_enter Tryz.func35, Tryz.ntmps35)
 go_upto_if 6 with (first | ((with_reducible refine gD (N := 1) rfl ?_); refine bX (N := 1) (cs := #[.string a0_0, .int .i64 a0_1, .slice A0_2 l0_2.length c0_2, .slice A0_3 l0_3.length c0_3, .string a0_4, .string a0_5, .string a0_6, .int .i64 a0_7, .int .i64 a0_8, .int .i64 a0_9, .bool a0_10, .int .i64 a0_11, .string a0_12, .string a0_13]) (t := 56) ?_; intro gb217 hg w3 hbox hb; replace HO0_2 := AM (vB (Kd.V_elderB (qV HO0_2) gb217 (Nat.le_of_eq hg.symm)) hb); replace HO0_3 := AM (vB (Kd.V_elderB (qV HO0_3) gb217 (Nat.le_of_eq hg.symm)) hb); have BK217 := AM (hbox); have GW217 := bG (w := w) hg; replace HB := bH hb; clear hb hbox hg; obtain ⟨_,_,_,_,_,_,_,_,_,_,_,_,_,_⟩ := cells14 BK217.out))
 have H := HC2.out;clear HC2;by_cases c5 : (l0_2.length : Int) > 0;(·rw [if_pos c5] at H;have c5b0 : decide (0 < (l0_2.length : Int)) = true := dT c5;have c5b1 : decide (0 < l0_2.length) = true := dT (by omega);clear c5;(first | rw [c5b0] | rw [c5b1] | rw [c5b2] | (simp only [i64_w, i32_w]; rw [c5b0]) | skip);obtain rfl := oI H;obtain ⟨_,_,_,_,_,_,_,_,_,_,_,_,_,_⟩ := cells14 BK217.out;(go_wp2);(go_ret);exact ⟨_, rfl, by (with_reducible repeat (first | apply vA | apply vN | apply vD)); exact Kd.V_mono HO0_2.out (fun _ hk => hk.1), bb⟩);(·rw [if_neg c5] at H;have c5b0 : decide (0 < (l0_2.length : Int)) = false := dF c5;have c5b1 : decide (0 < l0_2.length) = false := dF (by omega);clear c5;(first | rw [c5b0] | rw [c5b1] | rw [c5b2] | (simp only [i64_w, i32_w]; rw [c5b0]) | skip);obtain rfl := oI H;obtain ⟨_,_,_,_,_,_,_,_,_,_,_,_,_,_⟩ := cells14 BK217.out;(go_wp2);(go_ret);exact ⟨_, rfl, by (with_reducible repeat (first | apply vA | apply vN | apply vD)); exact Kd.V_mono HO0_3.out (fun _ hk => hk.1), bb⟩)
def spec_l3Compare.j0 : Nat → Int → Bool → Int → Int → Int → Bool → Int → Int → Int → Bool → Option (Int)
 | 0, _, _, _, _, _, _, _, _, _, _ => none
 | k + 1, x5, x27, x219000, x219001, x219002, x219003, x220000, x220001, x220002, x220003 => if x27 = true then (some (-1)) else (if x5 > 0 then (some 1) else (if x219003 = true then (if x220003 = true then (some 0) else (some 1)) else (some 0)))
def spec_l3Compare.f (k : Nat) (a0_0 : Int) (a0_1 : Int) (a0_2 : Int) (a0_3 : Bool) (a1_0 : Int) (a1_1 : Int) (a1_2 : Int) (a1_3 : Bool) : Option (Int) := if (wrap64 ((wrap64 ((wrap64 ((wrap64 ((wrap64 ((wrap64 (a0_0 * 13)) + a0_1)) * 32)) + a0_2)) - (wrap64 ((wrap64 ((wrap64 (a1_0 * 13)) + a1_1)) * 32)))) - a1_2)) < 0 then (spec_l3Compare.j0 k (wrap64 ((wrap64 ((wrap64 ((wrap64 ((wrap64 ((wrap64 (a0_0 * 13)) + a0_1)) * 32)) + a0_2)) - (wrap64 ((wrap64 ((wrap64 (a1_0 * 13)) + a1_1)) * 32)))) - a1_2)) true a0_0 a0_1 a0_2 a0_3 a1_0 a1_1 a1_2 a1_3) else (if (wrap64 ((wrap64 ((wrap64 ((wrap64 ((wrap64 ((wrap64 (a0_0 * 13)) + a0_1)) * 32)) + a0_2)) - (wrap64 ((wrap64 ((wrap64 (a1_0 * 13)) + a1_1)) * 32)))) - a1_2)) = 0 then (if a0_3 = true then (spec_l3Compare.j0 k (wrap64 ((wrap64 ((wrap64 ((wrap64 ((wrap64 ((wrap64 (a0_0 * 13)) + a0_1)) * 32)) + a0_2)) - (wrap64 ((wrap64 ((wrap64 (a1_0 * 13)) + a1_1)) * 32)))) - a1_2)) false a0_0 a0_1 a0_2 a0_3 a1_0 a1_1 a1_2 a1_3) else (spec_l3Compare.j0 k (wrap64 ((wrap64 ((wrap64 ((wrap64 ((wrap64 ((wrap64 (a0_0 * 13)) + a0_1)) * 32)) + a0_2)) - (wrap64 ((wrap64 ((wrap64 (a1_0 * 13)) + a1_1)) * 32)))) - a1_2)) a1_3 a0_0 a0_1 a0_2 a0_3 a1_0 a1_1 a1_2 a1_3)) else (spec_l3Compare.j0 k (wrap64 ((wrap64 ((wrap64 ((wrap64 ((wrap64 ((wrap64 (a0_0 * 13)) + a0_1)) * 32)) + a0_2)) - (wrap64 ((wrap64 ((wrap64 (a1_0 * 13)) + a1_1)) * 32)))) - a1_2)) false a0_0 a0_1 a0_2 a0_3 a1_0 a1_1 a1_2 a1_3))
theorem spec_l3Compare.mono_l : ∀ k, (∀ y0 y1 y2 y3 y4 y5 y6 y7 y8 y9, LeO (spec_l3Compare.j0 k y0 y1 y2 y3 y4 y5 y6 y7 y8 y9) (spec_l3Compare.j0 (k + 1) y0 y1 y2 y3 y4 y5 y6 y7 y8 y9))
 | 0 => fun _ _ _ _ _ _ _ _ _ _ r h => by simp [spec_l3Compare.j0] at h
 | k + 1 => by
  have ih0 := spec_l3Compare.mono_l k
  ·intro y0 y1 y2 y3 y4 y5 y6 y7 y8 y9
   unfold spec_l3Compare.j0
   repeat' with_reducible first
   | exact ih0 _ _ _ _ _ _ _ _ _ _
   | exact LeO.refl _
   | exact LeO.none _
   | refine LeO.ite ?_ ?_
   | refine LeO.bind ?_ (fun _ => ?_)
theorem spec_l3Compare.mono : ∀ a0 a1 a2 a3 a4 a5 a6 a7 k, LeO (spec_l3Compare.f k a0 a1 a2 a3 a4 a5 a6 a7) (spec_l3Compare.f (k + 1) a0 a1 a2 a3 a4 a5 a6 a7) := by
 intro a0 a1 a2 a3 a4 a5 a6 a7 k;have ih0 := spec_l3Compare.mono_l k;unfold spec_l3Compare.f
 repeat' with_reducible first
   | exact ih0 _ _ _ _ _ _ _ _ _ _
   | exact LeO.refl _
   | exact LeO.none _
   | refine LeO.ite ?_ ?_
   | refine LeO.bind ?_ (fun _ => ?_)
theorem spec_l3Compare.calls (k : Nat) (a0_0 : Int) (a0_1 : Int) (a0_2 : Int) (a0_3 : Bool) (a1_0 : Int) (a1_1 : Int) (a1_2 : Int) (a1_3 : Bool) (r : Int) (w : World) (h : spec_l3Compare.f k a0_0 a0_1 a0_2 a0_3 a1_0 a1_1 a1_2 a1_3 = some r) :
  Calls Tryz.prog 36 #[.agg #[.int .i64 a0_0, .int .i64 a0_1, .int .i64 a0_2, .bool a0_3], .agg #[.int .i64 a1_0, .int .i64 a1_1, .int .i64 a1_2, .bool a1_3]] w fun e w' => e = .returned (.int .i64 r) ∧ Below w.heap.size w w' := by
 have hu54 := Tryz.underlying54;have HB := AM (Below.refl w.heap.size w);have H := h;unfold spec_l3Compare.f at H;clear h;have HC3 := AM H;clear H;(go_enter Tryz.func36, Tryz.ntmps36)
 go_upto_region 2 with (first | ((with_reducible refine gD (N := 2) rfl ?_); refine bX (N := 2) (cs := #[.int .i64 a0_0, .int .i64 a0_1, .int .i64 a0_2, .bool a0_3]) (t := 54) ?_; intro gb218 hg w4 hbox hb; have BK218 := AM (hbox); have GW218 := bG (w := w) hg; replace HB := bH hb; clear hb hbox hg) | ((with_reducible refine gD (N := 3) rfl ?_); refine bX (N := 3) (cs := #[.int .i64 a1_0, .int .i64 a1_1, .int .i64 a1_2, .bool a1_3]) (t := 54) ?_; intro gb219 hg w5 hbox hb; have BK219 := AM (hbox); have GW219 := bG (w := w) hg; replace HB := bH hb; have NB218_219 := AM ((by rw [hg]; exact Nat.ne_of_lt (blk_lt (g := gb218) (kk BK218)) : gb218 ≠ gb219)); have NB219_218 := AM ((by rw [hg]; exact Nat.ne_of_gt (blk_lt (g := gb218) (kk BK218)) : gb219 ≠ gb218)); replace BK218 := bK BK218 hb; clear hb hbox hg; have hnb6 := NB218_219.out; have hnc6 := NB219_218.out; obtain ⟨z7_0, z7_1, z7_2, z7_3⟩ := cells4 BK218.out; obtain ⟨z8_0, z8_1, z8_2, z8_3⟩ := cells4 BK219.out))
 (try simp only [Act.put, List.setIfInBounds_toArray, List.set_cons_zero, List.set_cons_succ]);(go_cut [27] (fun v27 wc => ∃ (kq : Nat) (x27_2 : Bool), v27 = .bool x27_2 ∧ Aside0 (spec_l3Compare.j0 kq (wrap64 ((wrap64 ((wrap64 ((wrap64 ((wrap64 ((wrap64 (a0_0 * 13)) + a0_1)) * 32)) + a0_2)) - (wrap64 ((wrap64 ((wrap64 (a1_0 * 13)) + a1_1)) * 32)))) - a1_2)) x27_2 a0_0 a0_1 a0_2 a0_3 a1_0 a1_1 a1_2 a1_3 = some r) ∧ Aside0 (kq ≤ k) ∧ Aside0 (wc.heap[gb218]? = some (.cells #[.int .i64 a0_0, .int .i64 a0_1, .int .i64 a0_2, .bool a0_3] 54 (0, 0))) ∧ Aside0 (wc.heap[gb219]? = some (.cells #[.int .i64 a1_0, .int .i64 a1_1, .int .i64 a1_2, .bool a1_3] 54 (0, 0))) ∧ Aside0 (Below w.heap.size w wc)))
 case first =>
  have H := HC3.out;clear HC3;by_cases c9 : (wrap64 ((wrap64 ((wrap64 ((wrap64 ((wrap64 ((wrap64 (a0_0 * 13)) + a0_1)) * 32)) + a0_2)) - (wrap64 ((wrap64 ((wrap64 (a1_0 * 13)) + a1_1)) * 32)))) - a1_2)) < 0
  ·rw [if_pos c9] at H
   have c9b0 := dT c9;clear c9;(first | rw [c9b0] | rw [c9b1] | rw [c9b2] | (simp only [i64_w, i32_w]; rw [c9b0]) | skip);have H' := AM H;clear H;(go_wp2);(go_meet)
   case rel => exact ⟨_, (true), rf, H', ⟨lE⟩, ⟨kk BK218⟩, ⟨kk BK219⟩, ⟨bb⟩⟩
  ·rw [if_neg c9] at H
   have c9b0 := dF c9;clear c9;(first | rw [c9b0] | rw [c9b1] | rw [c9b2] | (simp only [i64_w, i32_w]; rw [c9b0]) | skip);by_cases c10 : (wrap64 ((wrap64 ((wrap64 ((wrap64 ((wrap64 ((wrap64 (a0_0 * 13)) + a0_1)) * 32)) + a0_2)) - (wrap64 ((wrap64 ((wrap64 (a1_0 * 13)) + a1_1)) * 32)))) - a1_2)) = 0
   ·rw [if_pos c10] at H
    have c10b0 : ((wrap64 ((wrap64 ((wrap64 ((wrap64 ((wrap64 ((wrap64 (a0_0 * 13)) + a0_1)) * 32)) + a0_2)) - (wrap64 ((wrap64 ((wrap64 (a1_0 * 13)) + a1_1)) * 32)))) - a1_2)) == 0) = true := beq_iff_eq.mpr c10;have c10b1 : ((wrap64 ((wrap64 ((wrap64 ((wrap64 ((wrap64 ((wrap64 (a0_0 * 13)) + a0_1)) * 32)) + a0_2)) - (wrap64 ((wrap64 ((wrap64 (a1_0 * 13)) + a1_1)) * 32)))) - a1_2)) != 0) = false := bne_eq_false_iff_eq.mpr c10;clear c10;by_cases c11 : a0_3 = true
    ·subst c11
     rw [if_pos rfl] at H;have H' := AM H;clear H;have hnb12 := NB218_219.out;have hnc12 := NB219_218.out;obtain ⟨z13_0, z13_1, z13_2, z13_3⟩ := cells4 BK218.out;(go_wp2);(go_meet)
     case rel => exact ⟨_, (false), rf, H', ⟨lE⟩, ⟨kk BK218⟩, ⟨kk BK219⟩, ⟨bb⟩⟩
    ·replace c11 := bE.mpr c11
     subst c11;replace H := nF H;have H' := AM H;clear H;have hnb14 := NB218_219.out;have hnc14 := NB219_218.out;obtain ⟨z15_0, z15_1, z15_2, z15_3⟩ := cells4 BK218.out;obtain ⟨z16_0, z16_1, z16_2, z16_3⟩ := cells4 BK219.out;(go_wp2);(go_meet)
     case rel => exact ⟨_, (a1_3), rf, H', ⟨lE⟩, ⟨kk BK218⟩, ⟨kk BK219⟩, ⟨bb⟩⟩
   ·rw [if_neg c10] at H
    have c10b0 : ((wrap64 ((wrap64 ((wrap64 ((wrap64 ((wrap64 ((wrap64 (a0_0 * 13)) + a0_1)) * 32)) + a0_2)) - (wrap64 ((wrap64 ((wrap64 (a1_0 * 13)) + a1_1)) * 32)))) - a1_2)) == 0) = false := beq_eq_false_iff_ne.mpr c10;have c10b1 : ((wrap64 ((wrap64 ((wrap64 ((wrap64 ((wrap64 ((wrap64 (a0_0 * 13)) + a0_1)) * 32)) + a0_2)) - (wrap64 ((wrap64 ((wrap64 (a1_0 * 13)) + a1_1)) * 32)))) - a1_2)) != 0) = true := bne_iff_ne.mpr c10;have H' := AM H;clear H;(go_wp2);(go_meet)
    case rel => exact ⟨_, (false), rf, H', ⟨lE⟩, ⟨kk BK218⟩, ⟨kk BK219⟩, ⟨bb⟩⟩
 case rest =>
  clear HC3;(try clear c1);(try clear p2);(try clear c3);(try clear c6);(try clear p6);(try clear c9);(try clear c9b0);(try clear c9b1);(try clear c9b2);(try clear c10);(try clear c10b0);(try clear c10b1);(try clear c11);(try clear c12);(try clear c14);(try clear z13_0 z13_1 z13_2 z13_3);(try clear z15_0 z15_1 z15_2 z15_3);(try clear z16_0 z16_1 z16_2 z16_3);(try clear z7_0 z7_1 z7_2 z7_3);(try clear z8_0 z8_1 z8_2 z8_3);obtain ⟨kq, x27_2, rfl, HA, HJ2, BK218, BK219, HB⟩ := hcut
  cases kq with
  | zero => exact absurd HA.out (by simp [spec_l3Compare.j0])
  | succ kj2 =>
   have H := HA.out;clear HA;simp only [spec_l3Compare.j0] at H;by_cases c17 : x27_2 = true;(·subst c17;rw [if_pos rfl] at H;obtain rfl := oI H;(go_wp2);(go_ret);exact ⟨rfl, bb⟩);(·replace c17 := bE.mpr c17;subst c17;replace H := nF H;by_cases c18 : (wrap64 ((wrap64 ((wrap64 ((wrap64 ((wrap64 ((wrap64 (a0_0 * 13)) + a0_1)) * 32)) + a0_2)) - (wrap64 ((wrap64 ((wrap64 (a1_0 * 13)) + a1_1)) * 32)))) - a1_2)) > 0;(·rw [if_pos c18] at H;have c18b0 : decide (0 < (wrap64 ((wrap64 ((wrap64 ((wrap64 ((wrap64 ((wrap64 (a0_0 * 13)) + a0_1)) * 32)) + a0_2)) - (wrap64 ((wrap64 ((wrap64 (a1_0 * 13)) + a1_1)) * 32)))) - a1_2))) = true := dT c18;clear c18;obtain rfl := oI H;(go_wp2);(go_ret);exact ⟨rfl, bb⟩);(·rw [if_neg c18] at H;have c18b0 : decide (0 < (wrap64 ((wrap64 ((wrap64 ((wrap64 ((wrap64 ((wrap64 (a0_0 * 13)) + a0_1)) * 32)) + a0_2)) - (wrap64 ((wrap64 ((wrap64 (a1_0 * 13)) + a1_1)) * 32)))) - a1_2))) = false := dF c18;clear c18;by_cases c19 : a0_3 = true;(·subst c19;rw [if_pos rfl] at H;by_cases c20 : a1_3 = true;(·subst c20;rw [if_pos rfl] at H;obtain rfl := oI H;have hnb21 := NB218_219.out;have hnc21 := NB219_218.out;obtain ⟨_,_,_,_⟩ := cells4 BK218.out;obtain ⟨_,_,_,_⟩ := cells4 BK219.out;(go_wp2);(go_ret);exact ⟨rfl, bb⟩);(·replace c20 := bE.mpr c20;subst c20;replace H := nF H;obtain rfl := oI H;have hnb24 := NB218_219.out;have hnc24 := NB219_218.out;obtain ⟨_,_,_,_⟩ := cells4 BK218.out;obtain ⟨_,_,_,_⟩ := cells4 BK219.out;(go_wp2);(go_ret);exact ⟨rfl, bb⟩));(·replace c19 := bE.mpr c19;subst c19;replace H := nF H;obtain rfl := oI H;have hnb27 := NB218_219.out;have hnc27 := NB219_218.out;obtain ⟨_,_,_,_⟩ := cells4 BK218.out;(go_wp2);(go_ret);exact ⟨rfl, bb⟩)))
def spec_l8Digit.f (a0 : Int) : Option (Bool) := if a0 ≥ 48 then (some (decide (a0 ≤ 57))) else (some false)
theorem spec_l8Digit.calls (a0 : Int) (r : Bool) (w : World) (h : spec_l8Digit.f a0 = some r) :
  Calls Tryz.prog 98 #[.int .u8 a0] w fun e w' => e = .returned (.bool r) ∧ Drawn0 w w' := by
 have H := h;unfold spec_l8Digit.f at H;clear h;by_cases c2 : a0 ≥ 48;(·rw [if_pos c2] at H;have c2b0 : decide (48 ≤ a0) = true := dT c2;clear c2;obtain rfl := oI H;(go_enter Tryz.func98, Tryz.ntmps98);(go_wp2);(go_ret);exact ⟨rf, dR⟩);(·rw [if_neg c2] at H;have c2b0 : decide (48 ≤ a0) = false := dF c2;clear c2;obtain rfl := oI H;(go_enter Tryz.func98, Tryz.ntmps98);(go_wp2);(go_ret);exact ⟨rf, dR⟩)
mutual
def spec_l8Fold.l0 : Nat → List Int → Bool → ByteArray → Int → Option (ByteArray)
 | 0, _, _, _, _ => none
 | k + 1, x3, x4, x5, x6 => if x6 < (x5.size : Int) then (if 0 ≤ x6 then ((spec_l2Lower.f (bt x5 x6)).bind fun t224 => (if t224 = true then (spec_l8Fold.j1 k x3 x4 x5 x6 (bt x5 x6) false) else ((spec_l8Digit.f (bt x5 x6)).bind fun t225 => (spec_l8Fold.j1 k x3 x4 x5 x6 (bt x5 x6) (!t225))))) else (none)) else (some (strOfNums x3))
def spec_l8Fold.j1 : Nat → List Int → Bool → ByteArray → Int → Int → Bool → Option (ByteArray)
 | 0, _, _, _, _, _, _ => none
 | k + 1, x3, x4, x5, x6, x7, x27 => if x27 = true then (if x4 = true then (spec_l8Fold.l0 k x3 true x5 (wrap64 (x6 + 1))) else (spec_l8Fold.l0 k x3 (x7 == 32) x5 (wrap64 (x6 + 1)))) else (if x4 = true then (if (x3.length : Int) > 0 then (if x3.length < 140737488355328 then ((some (x3 ++ [32] : List Int)).bind fun y226 => (if y226.length < 140737488355328 then (spec_l8Fold.l0 k (y226 ++ [x7]) false x5 (wrap64 (x6 + 1))) else (none))) else (none)) else (if x3.length < 140737488355328 then (spec_l8Fold.l0 k (x3 ++ [x7]) false x5 (wrap64 (x6 + 1))) else (none))) else (if x3.length < 140737488355328 then (spec_l8Fold.l0 k (x3 ++ [x7]) false x5 (wrap64 (x6 + 1))) else (none)))
end
def spec_l8Fold.f (k : Nat) (a0 : ByteArray) : Option (ByteArray) := (spec_l2Low.f a0).bind fun t223 => (spec_l8Fold.l0 k (([] : List Int)) false t223 0)
theorem spec_l8Fold.mono_l : ∀ k, (∀ y0 y1 y2 y3, LeO (spec_l8Fold.l0 k y0 y1 y2 y3) (spec_l8Fold.l0 (k + 1) y0 y1 y2 y3)) ∧ (∀ y0 y1 y2 y3 y4 y5, LeO (spec_l8Fold.j1 k y0 y1 y2 y3 y4 y5) (spec_l8Fold.j1 (k + 1) y0 y1 y2 y3 y4 y5))
 | 0 => ⟨fun _ _ _ _ r h => by simp [spec_l8Fold.l0] at h, fun _ _ _ _ _ _ r h => by simp [spec_l8Fold.j1] at h⟩
 | k + 1 => by
  obtain ⟨ih0, ih1⟩ := spec_l8Fold.mono_l k;refine ⟨?_, ?_⟩
  ·intro y0 y1 y2 y3
   unfold spec_l8Fold.l0
   repeat' with_reducible first
   | exact ih0 _ _ _ _
   | exact ih1 _ _ _ _ _ _
   | exact LeO.refl _
   | exact LeO.none _
   | refine LeO.ite ?_ ?_
   | refine LeO.bind ?_ (fun _ => ?_)
  ·intro y0 y1 y2 y3 y4 y5
   unfold spec_l8Fold.j1
   repeat' with_reducible first
   | exact ih0 _ _ _ _
   | exact ih1 _ _ _ _ _ _
   | exact LeO.refl _
   | exact LeO.none _
   | refine LeO.ite ?_ ?_
   | refine LeO.bind ?_ (fun _ => ?_)
theorem spec_l8Fold.mono : ∀ a0 k, LeO (spec_l8Fold.f k a0) (spec_l8Fold.f (k + 1) a0) := by
 intro a0 k;obtain ⟨ih0, ih1⟩ := spec_l8Fold.mono_l k;unfold spec_l8Fold.f
 repeat' with_reducible first
   | exact ih0 _ _ _ _
   | exact ih1 _ _ _ _ _ _
   | exact LeO.refl _
   | exact LeO.none _
   | refine LeO.ite ?_ ?_
   | refine LeO.bind ?_ (fun _ => ?_)
theorem spec_l8Fold.calls (k : Nat) (a0 : ByteArray) (r : ByteArray) (w : World) (h : spec_l8Fold.f k a0 = some r) :
  Calls Tryz.prog 65 #[.string a0] w fun e w' => e = .returned (.string r) ∧ Below w.heap.size w w' := by
 have HB := AM (Below.refl w.heap.size w);have H := h;unfold spec_l8Fold.f at H;clear h
 obtain ⟨y220, hy220⟩ : ∃ y_ : List Int, y_ = (([] : List Int)) := ⟨_, rfl⟩
 (replace H : ((spec_l2Low.f a0).bind fun t223 => (spec_l8Fold.l0 k y220 false t223 0)) = some r := by first | (rw [hy220]; with_reducible exact H) | (have H2_ := (Option.bind_some _ _).symm.trans H; rw [hy220]; with_reducible exact H2_) | (have H2_ := (Option.bind_some _ _).symm.trans H; with_reducible exact H2_) | with_reducible exact H | (rw [hy220]; exact H) | exact H);have Ny220 := AM hy220;clear hy220;obtain ⟨t223, A2, H⟩ := oA H;(try dsimp only at H);have H' := AM H;clear H;(go_enter Tryz.func65, Tryz.ntmps65)
 go_wp2_with (first | ((with_reducible refine gate_dst (N := 8) rfl ?_); (try (refine gate_guard (by rfl) ?_; dsimp only)); refine Kd.R_lit (Kd.int .u8) _ 5 ?hg (N := 8) ?hd (xs := ([] : List Int)) (inner := []) (ok := fun _ => True) (okp := fun _ => True) ?hr ?hp (fun _ hk => hk) trivial (Below.refl _ _) (Nat.le_refl _) (by simp) ?_; (case hd => rfl); (case hg => rfl); (case hr => first | (go_simp; done) | (go_simp; rfl)); (case hp => exact (Reps.none _ _)); intro v221 w3 ho4 hb hg_ hnew_; clear hg_ hnew_; (first | rw [← Ny220.out] at ho4 | (simp only [Int.reduceToNat] at ho4; rw [← Ny220.out] at ho4)); have HO222 := AM (Kd.R_lower ho4 (bZ bb)); replace HB := bH hb; clear hb ho4) | ((with_reducible refine gC (f := 66) rfl ?_); refine gX (some 10) Tryz.func66 #[.string a0] ?_; (with_reducible refine (spec_l2Low.calls a0 t223 _ A2.out).mono ?_); rintro e w5 ⟨rfl, hb⟩; refine ⟨_, rfl, ?_⟩; replace HO222 := AM (Kd.R_below (qR HO222) hb); replace HB := bH hb; (try clear hb)))
 go_loopg [3, 4, 6] k (fun kq v3 v4 v6 w' => ∃ (x3_1 : List Int) (x4_1 : Bool) (x6_1 : Int), v4 = .bool x4_1 ∧ v6 = .int .i64 x6_1 ∧ Aside0 (spec_l8Fold.l0 kq x3_1 x4_1 t223 x6_1 = some r) ∧ Aside0 (kq ≤ k) ∧ Aside0 (Kd.R (Kd.int .u8) 5 w' w.heap.size (fun _ => True) v3 x3_1) ∧ Aside0 (Below w.heap.size w w'))
 case atStart => exact ⟨(y220), (false), (0), rf, rf, H', ⟨Nat.le_refl _⟩, ⟨qR HO222⟩, ⟨bb⟩⟩
 case round =>
  clear H';(try clear p2);obtain ⟨x3_1, x4_1, x6_1, rfl, rfl, HA, HK1, HO_3, HB⟩ := hrel
  cases gk with
  | zero => exact absurd HA.out (by simp [spec_l8Fold.l0])
  | succ k1 =>
   have H := HA.out;clear HA;simp only [spec_l8Fold.l0] at H;by_cases c6 : x6_1 < (t223.size : Int)
   ·rw [if_pos c6] at H
    have c6b0 := dT c6;clear c6;by_cases c7 : 0 ≤ x6_1
    ·rw [if_pos c7] at H
     have c7b0 := dT c7;clear c7;have HC9 := AM H;clear H;have p8 := pz x6_1;have q8 := qz x6_1 (t223.size : Int);have hx8 := bt_at t223 x6_1;replace p8 := eq_true p8;replace q8 := eq_true q8
     go_upto_region 8 with (fail)
     go_cut [27] (fun v27 wc => ∃ (kq : Nat) (x27_8 : Bool), v27 = .bool x27_8 ∧ Aside0 (spec_l8Fold.j1 kq x3_1 x4_1 t223 x6_1 (bt t223 x6_1) x27_8 = some r) ∧ Aside0 (kq ≤ k1) ∧ Aside0 (Kd.R (Kd.int .u8) 5 wc w.heap.size (fun _ => True) u3 x3_1) ∧ Aside0 (Below w.heap.size w wc))
     case first =>
      have H := HC9.out;clear HC9;obtain ⟨t224, A10, H⟩ := oA H;(try dsimp only at H);by_cases c11 : t224 = true
      ·subst c11
       rw [if_pos rfl] at H;have H' := AM H;clear H
       go_wp2_with (first | ((with_reducible refine gC (f := 93) rfl ?_); refine gX (some 21) Tryz.func93 #[.int .u8 (bt t223 x6_1)] ?_; (with_reducible refine (spec_l2Lower.calls (bt t223 x6_1) true _ A10.out).mono ?_); rintro e w' ⟨rfl, ⟨nd, rfl⟩⟩; refine ⟨_, rfl, ?_⟩))
       go_meet
       case rel => exact ⟨_, (false), rf, H', ⟨by have := HK1.out; first | omega | exact Nat.le_refl _⟩, ⟨qR HO_3⟩, ⟨bb⟩⟩
      ·replace c11 := bE.mpr c11
       subst c11;replace H := nF H;obtain ⟨t225, A12, H⟩ := oA H;(try dsimp only at H);have H' := AM H;clear H
       go_wp2_with (first | ((with_reducible refine gC (f := 93) rfl ?_); refine gX (some 21) Tryz.func93 #[.int .u8 (bt t223 x6_1)] ?_; (with_reducible refine (spec_l2Lower.calls (bt t223 x6_1) false _ A10.out).mono ?_); rintro e w' ⟨rfl, ⟨nd, rfl⟩⟩; refine ⟨_, rfl, ?_⟩) | (go_at_call 98; (with_reducible refine (spec_l8Digit.calls (bt t223 x6_1) t225 _ A12.out).mono ?_); rintro e w' ⟨rfl, ⟨nd, rfl⟩⟩))
       go_meet
       case rel => exact ⟨_, (!t225), rf, H', ⟨by have := HK1.out; first | omega | exact Nat.le_refl _⟩, ⟨qR HO_3⟩, ⟨bb⟩⟩
     case rest =>
      clear HC9;(try clear c1);(try clear p2);(try clear c6);(try clear c6b0);(try clear c7);(try clear c7b0);(try clear p8);(try clear q8);(try clear hx8);(try clear c9);(try clear c11);(try clear p2);(try clear p8);(try clear q8);obtain ⟨kq, x27_8, rfl, HA, HJ8, HO_3, HB⟩ := hcut
      cases kq with
      | zero => exact absurd HA.out (by simp [spec_l8Fold.j1])
      | succ kj8 =>
       have H := HA.out;clear HA;simp only [spec_l8Fold.j1] at H;by_cases c13 : x27_8 = true
       ·subst c13
        rw [if_pos rfl] at H;by_cases c14 : x4_1 = true
        ·subst c14
         rw [if_pos rfl] at H;have H' := AM H;clear H;(go_wp2);(go_roundg kj8)
         case measure => have := HK1.out; have := HJ8.out; omega
         case rel => exact ⟨(x3_1), (true), (wrap64 (x6_1 + 1)), rf, rf, H', ⟨by have := HK1.out; have := HJ8.out; omega⟩, ⟨qR HO_3⟩, ⟨bb⟩⟩
        ·replace c14 := bE.mpr c14
         subst c14;replace H := nF H;have H' := AM H;clear H;(go_wp2);(go_roundg kj8)
         case measure => have := HK1.out; have := HJ8.out; omega
         case rel => exact ⟨(x3_1), (((bt t223 x6_1) == 32)), (wrap64 (x6_1 + 1)), rf, rf, H', ⟨by have := HK1.out; have := HJ8.out; omega⟩, ⟨qR HO_3⟩, ⟨bb⟩⟩
       ·replace c13 := bE.mpr c13
        subst c13;replace H := nF H;by_cases c15 : x4_1 = true
        ·subst c15
         rw [if_pos rfl] at H;by_cases c16 : (x3_1.length : Int) > 0
         ·rw [if_pos c16] at H
          have c16b0 : decide (0 < (x3_1.length : Int)) = true := dT c16;have c16b1 : decide (0 < x3_1.length) = true := dT (by omega);clear c16;by_cases c17 : x3_1.length < 140737488355328
          ·rw [if_pos c17] at H
           have LMc17 := AM c17;clear c17
           obtain ⟨y226, hy226⟩ : ∃ y_ : List Int, y_ = (x3_1 ++ [32]) := ⟨_, rfl⟩
           (replace H : (if y226.length < 140737488355328 then (spec_l8Fold.l0 kj8 (y226 ++ [(bt t223 x6_1)]) false t223 (wrap64 (x6_1 + 1))) else (none)) = some r := by first | (rw [hy226]; with_reducible exact H) | (have H2_ := (Option.bind_some _ _).symm.trans H; rw [hy226]; with_reducible exact H2_) | (have H2_ := (Option.bind_some _ _).symm.trans H; with_reducible exact H2_) | with_reducible exact H | (rw [hy226]; exact H) | exact H);have Ny226 := AM hy226;clear hy226;by_cases c18 : y226.length < 140737488355328
           ·rw [if_pos c18] at H
            have LMc18 := AM c18;clear c18
            obtain ⟨y229, hy229⟩ : ∃ y_ : List Int, y_ = (y226 ++ [(bt t223 x6_1)]) := ⟨_, rfl⟩
            (replace H : (spec_l8Fold.l0 kj8 y229 false t223 (wrap64 (x6_1 + 1))) = some r := by first | (rw [hy229]; with_reducible exact H) | (have H2_ := (Option.bind_some _ _).symm.trans H; rw [hy229]; with_reducible exact H2_) | (have H2_ := (Option.bind_some _ _).symm.trans H; with_reducible exact H2_) | with_reducible exact H | (rw [hy229]; exact H) | exact H);have Ny229 := AM hy229;clear hy229;have H' := AM H;clear H;obtain ⟨Ao19, co19, eo19⟩ := rS HO_3.out;subst eo19
            go_wp2_with (first | ((with_reducible refine gate_builtin (b := .append) (xs := #[.tmp 39, .tmp 40]) rfl ?_); (try (refine gate_guard (by rfl) ?_; dsimp only)); at_builtin; refine Kd.R_append (Kd.int .u8) (w0 := w) w.heap.size rfl (.tmp 39) (.tmp 40) 108 5 (.int .u8 0) 1 rfl Tryz.underlying108 info5 rfl (by decide) (by omega) (.slice Ao19 x3_1.length co19) x3_1 32 [.int .u8 32] (fun _ => True) (fun _ => False) rfl rfl ?aP (fun _ hk => hk.elim) ?aF ?aO ?aB ?aS ?aL ?_; (case aP => exact rfl); (case aB => exact bb); (case aF => exact (fun _ _ => trivial)); (case aO => exact (qR HO_3)); (case aS => exact (bZ bb)); (case aL => have := LMc17.out; omega); intro v227 w20 ho hb hg hat; rw [← Ny226.out] at ho; replace HB := AM (hb); have HO228 := AM (ho); clear HO_3; clear ho hb hg hat) | ((with_reducible refine gate_builtin (b := .append) (xs := #[.tmp 42, .tmp 44]) rfl ?_); (try (refine gate_guard (by rfl) ?_; dsimp only)); at_builtin; refine Kd.R_append (Kd.int .u8) (w0 := w) w.heap.size rfl (.tmp 42) (.tmp 44) 108 5 (.int .u8 0) 1 rfl Tryz.underlying108 info5 rfl (by decide) (by omega) v227 y226 (bt t223 x6_1) [.int .u8 (bt t223 x6_1)] (fun _ => True) (fun _ => False) rfl rfl ?aP (fun _ hk => hk.elim) ?aF ?aO ?aB ?aS ?aL ?_; (case aP => exact rfl); (case aB => exact bb); (case aF => exact (fun _ _ => trivial)); (case aO => exact (qR HO228)); (case aS => exact (bZ bb)); (case aL => have := LMc18.out; omega); intro v230 w21 ho hb hg hat; rw [← Ny229.out] at ho; replace HB := AM (hb); have HO231 := AM (ho); clear HO228; clear ho hb hg hat))
            go_roundg kj8
            case measure => have := HK1.out; have := HJ8.out; omega
            case rel => exact ⟨(y229), (false), (wrap64 (x6_1 + 1)), rf, rf, H', ⟨by have := HK1.out; have := HJ8.out; omega⟩, ⟨qR HO231⟩, ⟨bb⟩⟩
           ·exact nO c18 H
          ·exact nO c17 H
         ·rw [if_neg c16] at H
          have c16b0 : decide (0 < (x3_1.length : Int)) = false := dF c16;have c16b1 : decide (0 < x3_1.length) = false := dF (by omega);clear c16;by_cases c22 : x3_1.length < 140737488355328
          ·rw [if_pos c22] at H
           have LMc22 := AM c22;clear c22
           obtain ⟨y232, hy232⟩ : ∃ y_ : List Int, y_ = (x3_1 ++ [(bt t223 x6_1)]) := ⟨_, rfl⟩
           (replace H : (spec_l8Fold.l0 kj8 y232 false t223 (wrap64 (x6_1 + 1))) = some r := by first | (rw [hy232]; with_reducible exact H) | (have H2_ := (Option.bind_some _ _).symm.trans H; rw [hy232]; with_reducible exact H2_) | (have H2_ := (Option.bind_some _ _).symm.trans H; with_reducible exact H2_) | with_reducible exact H | (rw [hy232]; exact H) | exact H);have Ny232 := AM hy232;clear hy232;have H' := AM H;clear H;obtain ⟨Ao23, co23, eo23⟩ := rS HO_3.out;subst eo23
           go_wp2_with (first | ((with_reducible refine gate_builtin (b := .append) (xs := #[.tmp 42, .tmp 44]) rfl ?_); (try (refine gate_guard (by rfl) ?_; dsimp only)); at_builtin; refine Kd.R_append (Kd.int .u8) (w0 := w) w.heap.size rfl (.tmp 42) (.tmp 44) 108 5 (.int .u8 0) 1 rfl Tryz.underlying108 info5 rfl (by decide) (by omega) (.slice Ao23 x3_1.length co23) x3_1 (bt t223 x6_1) [.int .u8 (bt t223 x6_1)] (fun _ => True) (fun _ => False) rfl rfl ?aP (fun _ hk => hk.elim) ?aF ?aO ?aB ?aS ?aL ?_; (case aP => exact rfl); (case aB => exact bb); (case aF => exact (fun _ _ => trivial)); (case aO => exact (qR HO_3)); (case aS => exact (bZ bb)); (case aL => have := LMc22.out; omega); intro v233 w24 ho hb hg hat; rw [← Ny232.out] at ho; replace HB := AM (hb); have HO234 := AM (ho); clear HO_3; clear ho hb hg hat))
           go_roundg kj8
           case measure => have := HK1.out; have := HJ8.out; omega
           case rel => exact ⟨(y232), (false), (wrap64 (x6_1 + 1)), rf, rf, H', ⟨by have := HK1.out; have := HJ8.out; omega⟩, ⟨qR HO234⟩, ⟨bb⟩⟩
          ·exact nO c22 H
        ·replace c15 := bE.mpr c15
         subst c15;replace H := nF H;by_cases c25 : x3_1.length < 140737488355328
         ·rw [if_pos c25] at H
          have LMc25 := AM c25;clear c25
          obtain ⟨y235, hy235⟩ : ∃ y_ : List Int, y_ = (x3_1 ++ [(bt t223 x6_1)]) := ⟨_, rfl⟩
          (replace H : (spec_l8Fold.l0 kj8 y235 false t223 (wrap64 (x6_1 + 1))) = some r := by first | (rw [hy235]; with_reducible exact H) | (have H2_ := (Option.bind_some _ _).symm.trans H; rw [hy235]; with_reducible exact H2_) | (have H2_ := (Option.bind_some _ _).symm.trans H; with_reducible exact H2_) | with_reducible exact H | (rw [hy235]; exact H) | exact H);have Ny235 := AM hy235;clear hy235;have H' := AM H;clear H
          go_wp2_with (first | ((with_reducible refine gate_builtin (b := .append) (xs := #[.tmp 42, .tmp 44]) rfl ?_); (try (refine gate_guard (by rfl) ?_; dsimp only)); at_builtin; refine Kd.R_append (Kd.int .u8) (w0 := w) w.heap.size rfl (.tmp 42) (.tmp 44) 108 5 (.int .u8 0) 1 rfl Tryz.underlying108 info5 rfl (by decide) (by omega) u3 x3_1 (bt t223 x6_1) [.int .u8 (bt t223 x6_1)] (fun _ => True) (fun _ => False) rfl rfl ?aP (fun _ hk => hk.elim) ?aF ?aO ?aB ?aS ?aL ?_; (case aP => exact rfl); (case aB => exact bb); (case aF => exact (fun _ _ => trivial)); (case aO => exact (qR HO_3)); (case aS => exact (bZ bb)); (case aL => have := LMc25.out; omega); intro v236 w26 ho hb hg hat; rw [← Ny235.out] at ho; replace HB := AM (hb); have HO237 := AM (ho); clear HO_3; clear ho hb hg hat))
          go_roundg kj8
          case measure => have := HK1.out; have := HJ8.out; omega
          case rel => exact ⟨(y235), (false), (wrap64 (x6_1 + 1)), rf, rf, H', ⟨by have := HK1.out; have := HJ8.out; omega⟩, ⟨qR HO237⟩, ⟨bb⟩⟩
         ·exact nO c25 H
    ·exact nO c7 H
   ·rw [if_neg c6] at H
    have c6b0 := dF c6;clear c6;obtain rfl := oI H;have hcv27 := own_string (P := Tryz.prog) Tryz.underlying108 Tryz.underlying5 Tryz.underlying9 (Kd.own_of_R HO_3.out);(go_wp2);(go_ret);exact ⟨rfl, bb⟩
def spec_l8Collate.f (k : Nat) (a0 : ByteArray) (a1 : ByteArray) : Option (Int) := (spec_l8Fold.f k a0).bind fun t238 => ((spec_l8Fold.f k a1).bind fun t239 => ((spec_l2Text.f t238 t239).bind fun t240 => (if t240 = 0 then ((spec_l2Text.f a0 a1).bind fun t241 => (some t241)) else (some t240))))
theorem spec_l8Collate.mono : ∀ a0 a1 k, LeO (spec_l8Collate.f k a0 a1) (spec_l8Collate.f (k + 1) a0 a1) := by
 intro a0 a1 k;unfold spec_l8Collate.f
 repeat' with_reducible first
   | exact spec_l8Fold.mono _ _
   | exact LeO.refl _
   | exact LeO.none _
   | refine LeO.ite ?_ ?_
   | refine LeO.bind ?_ (fun _ => ?_)
theorem spec_l8Collate.calls (k : Nat) (a0 : ByteArray) (a1 : ByteArray) (r : Int) (w : World) (h : spec_l8Collate.f k a0 a1 = some r) :
  Calls Tryz.prog 37 #[.string a0, .string a1] w fun e w' => e = .returned (.int .i64 r) ∧ Below w.heap.size w w' := by
 have HB := AM (Below.refl w.heap.size w);have H := h;unfold spec_l8Collate.f at H;clear h;obtain ⟨t238, A3, H⟩ := oA H;(try dsimp only at H);obtain ⟨t239, A4, H⟩ := oA H;(try dsimp only at H);obtain ⟨t240, A5, H⟩ := oA H;(try dsimp only at H);have HC6 := AM H;clear H;(go_enter Tryz.func37, Tryz.ntmps37)
 go_upto_if 12 with (first | ((with_reducible refine gC (f := 65) rfl ?_); refine gX (some 7) Tryz.func65 #[.string a0] ?_; (with_reducible refine (spec_l8Fold.calls k a0 t238 _ A3.out).mono ?_); rintro e w7 ⟨rfl, hb⟩; refine ⟨_, rfl, ?_⟩; replace HB := bH hb; (try clear hb)) | ((with_reducible refine gC (f := 65) rfl ?_); refine gX (some 9) Tryz.func65 #[.string a1] ?_; (with_reducible refine (spec_l8Fold.calls k a1 t239 _ A4.out).mono ?_); rintro e w8 ⟨rfl, hb⟩; refine ⟨_, rfl, ?_⟩; replace HB := bH hb; (try clear hb)) | ((with_reducible refine gC (f := 39) rfl ?_); refine gX (some 10) Tryz.func39 #[.string t238, .string t239] ?_; (with_reducible refine (spec_l2Text.calls t238 t239 t240 _ A5.out).mono ?_); rintro e w' ⟨rfl, ⟨nd, rfl⟩⟩; refine ⟨_, rfl, ?_⟩))
 (try (rw [drewN_self w8]; generalize hq_ : World.drewN w8 _ = w8; have n0_ : Aside0 (Below w.heap.size w w8) := ⟨by rw [← hq_]; exact bb⟩; clear HB hq_; have HB := n0_; clear n0_));have H := HC6.out;clear HC6;by_cases c9 : t240 = 0
 ·rw [if_pos c9] at H
  have c9b0 : (t240 == 0) = true := beq_iff_eq.mpr c9;have c9b1 : (t240 != 0) = false := bne_eq_false_iff_eq.mpr c9;clear c9;(first | rw [c9b0] | rw [c9b1] | rw [c9b2] | (simp only [i64_w, i32_w]; rw [c9b0]) | skip);obtain ⟨t241, A10, H⟩ := oA H;(try dsimp only at H);obtain rfl := oI H
  go_wp2_with (first | ((with_reducible refine gC (f := 39) rfl ?_); refine gX (some 16) Tryz.func39 #[.string a0, .string a1] ?_; (with_reducible refine (spec_l2Text.calls a0 a1 t241 _ A10.out).mono ?_); rintro e w' ⟨rfl, ⟨nd, rfl⟩⟩; refine ⟨_, rfl, ?_⟩))
  (go_ret);exact ⟨rfl, bb⟩
 ·rw [if_neg c9] at H
  have c9b0 : (t240 == 0) = false := beq_eq_false_iff_ne.mpr c9;have c9b1 : (t240 != 0) = true := bne_iff_ne.mpr c9;(first | rw [c9b0] | rw [c9b1] | rw [c9b2] | (simp only [i64_w, i32_w]; rw [c9b0]) | skip);obtain rfl := oI H;(go_wp2);(go_ret);exact ⟨rfl, bb⟩
def spec_l8Drop.l0 : Nat → ByteArray → List ByteArray → Int → Option (ByteArray)
 | 0, _, _, _ => none
 | k + 1, x0, x3, x4 => if x4 < (x3.length : Int) then (if 0 ≤ x4 then (if (x0.size : Int) ≥ ((rdOf ByteArray.empty x3 x4).size : Int) then (if 0 ≤ ((rdOf ByteArray.empty x3 x4).size : Int) then (if ((rdOf ByteArray.empty x3 x4).size : Int) ≤ (x0.size : Int) then ((spec_l2Low.f (x0.extract 0 (((rdOf ByteArray.empty x3 x4).size : Int) : Int).toNat)).bind fun t246 => (if t246.toList = (rdOf ByteArray.empty x3 x4).toList then (some (x0.extract (((rdOf ByteArray.empty x3 x4).size : Int) : Int).toNat x0.size)) else (spec_l8Drop.l0 k x0 x3 (wrap64 (x4 + 1))))) else (none)) else (none)) else (spec_l8Drop.l0 k x0 x3 (wrap64 (x4 + 1)))) else (none)) else (some x0)
def spec_l8Drop.f (k : Nat) (a0 : ByteArray) : Option (ByteArray) := spec_l8Drop.l0 k a0 (([(⟨#[97, 32]⟩ : ByteArray), (⟨#[97, 110, 32]⟩ : ByteArray), (⟨#[116, 104, 101, 32]⟩ : ByteArray)] : List ByteArray)) 0
theorem spec_l8Drop.mono_l : ∀ k, (∀ y0 y1 y2, LeO (spec_l8Drop.l0 k y0 y1 y2) (spec_l8Drop.l0 (k + 1) y0 y1 y2))
 | 0 => fun _ _ _ r h => by simp [spec_l8Drop.l0] at h
 | k + 1 => by
  have ih0 := spec_l8Drop.mono_l k
  ·intro y0 y1 y2
   unfold spec_l8Drop.l0
   repeat' with_reducible first
   | exact ih0 _ _ _
   | exact LeO.refl _
   | exact LeO.none _
   | refine LeO.ite ?_ ?_
   | refine LeO.bind ?_ (fun _ => ?_)
theorem spec_l8Drop.mono : ∀ a0 k, LeO (spec_l8Drop.f k a0) (spec_l8Drop.f (k + 1) a0) := by
 intro a0 k;have ih0 := spec_l8Drop.mono_l k;unfold spec_l8Drop.f
 repeat' with_reducible first
   | exact ih0 _ _ _
   | exact LeO.refl _
   | exact LeO.none _
   | refine LeO.ite ?_ ?_
   | refine LeO.bind ?_ (fun _ => ?_)
def spec_l8Drop.T6 : Bool × List (List Nat × List Nat) := (true, [([], []), ([0], [0]), ([], []), ([1, 2], [1, 2]), ([3], [3]), ([4], [4]), ([4], [4]), ([5, 6, 4], [4, 5, 6]), ([7, 4, 4], [4, 7]), ([4], [4]), ([4], [4]), ([9, 10, 4], [4, 9, 10]), ([11, 4], [4, 11]), ([8, 12, 4], [4, 8, 12]), ([4, 13], [4, 13])])
def spec_l8Drop.B6 : List Nat := [0, 1, 0, 7, 15, 31, 31, 127, 255, 31, 31, 1567, 3615, 8191, 16383]
theorem spec_l8Drop.tab6 : rtab .any (opsOf Tryz.f38 6) = spec_l8Drop.T6 := by kernel_rfl
theorem spec_l8Drop.bits6 : waitsOk spec_l8Drop.T6.2 spec_l8Drop.B6 = true := by kernel_rfl
theorem spec_l8Drop.calls (k : Nat) (a0 : ByteArray) (r : ByteArray) (w : World) (h : spec_l8Drop.f k a0 = some r) :
  Calls Tryz.prog 38 #[.string a0] w fun e w' => e = .returned (.string r) ∧ Below w.heap.size w w' := by
 have HB := AM (Below.refl w.heap.size w);have H := h;unfold spec_l8Drop.f at H;clear h
 obtain ⟨y242, hy242⟩ : ∃ y_ : List ByteArray, y_ = (([(⟨#[97, 32]⟩ : ByteArray), (⟨#[97, 110, 32]⟩ : ByteArray), (⟨#[116, 104, 101, 32]⟩ : ByteArray)] : List ByteArray)) := ⟨_, rfl⟩
 (replace H : (spec_l8Drop.l0 k a0 y242 0) = some r := by first | (rw [hy242]; with_reducible exact H) | (have H2_ := (Option.bind_some _ _).symm.trans H; rw [hy242]; with_reducible exact H2_) | (have H2_ := (Option.bind_some _ _).symm.trans H; with_reducible exact H2_) | with_reducible exact H | (rw [hy242]; exact H) | exact H);have Ny242 := AM hy242;clear hy242;have H' := AM H;clear H;(go_enter Tryz.func38, Tryz.ntmps38)
 go_wp2_with (first | ((with_reducible refine gate_dst (N := 6) rfl ?_); refine Kd.R_lit Kd.string _ 9 ?hg (N := 6) ?hd (xs := ([(⟨#[97, 32]⟩ : ByteArray), (⟨#[97, 110, 32]⟩ : ByteArray), (⟨#[116, 104, 101, 32]⟩ : ByteArray)] : List ByteArray)) (inner := [.string (⟨#[97, 32]⟩ : ByteArray), .string (⟨#[97, 110, 32]⟩ : ByteArray), .string (⟨#[116, 104, 101, 32]⟩ : ByteArray)]) (ok := fun _ => True) (okp := fun _ => True) ?hr ?hp (fun _ hk => hk) trivial (Below.refl _ _) (Nat.le_refl _) (by simp) ?_; (case hd => rfl); (case hg => rfl); (case hr => first | (go_simp; done) | (go_simp; rfl)); (case hp => exact (Reps.one (show Kd.M Kd.string _ _ _ (⟨#[97, 32]⟩ : ByteArray) [.string (⟨#[97, 32]⟩ : ByteArray)] from rfl) (Reps.one (show Kd.M Kd.string _ _ _ (⟨#[97, 110, 32]⟩ : ByteArray) [.string (⟨#[97, 110, 32]⟩ : ByteArray)] from rfl) (Reps.one (show Kd.M Kd.string _ _ _ (⟨#[116, 104, 101, 32]⟩ : ByteArray) [.string (⟨#[116, 104, 101, 32]⟩ : ByteArray)] from rfl) (Reps.none _ _))))); intro v243 w2 ho3 hb hg_ hnew_; clear hg_ hnew_; (first | rw [← Ny242.out] at ho3 | (simp only [Int.reduceToNat] at ho3; rw [← Ny242.out] at ho3)); have HO244 := AM (Kd.R_lower ho3 (below_size bb)); replace HB := bH hb; clear hb ho3))
 go_loopg [4] k (fun kq v4 w' => ∃ (x4_1 : Int), v4 = .int .i64 x4_1 ∧ Aside0 (spec_l8Drop.l0 kq a0 y242 x4_1 = some r) ∧ Aside0 (kq ≤ k) ∧ Aside0 (Kd.R Kd.string 9 w' w.heap.size (fun _ => True) v243 y242) ∧ Aside0 (Below w.heap.size w w'))
 case atStart => exact ⟨(0), rf, H', ⟨Nat.le_refl _⟩, ⟨qR HO244⟩, ⟨bb⟩⟩
 case round =>
  clear H';(try clear p2);(try clear c3);obtain ⟨x4_1, rfl, HA, HK1, HO_3, HB⟩ := hrel
  cases gk with
  | zero => exact absurd HA.out (by simp [spec_l8Drop.l0])
  | succ k1 =>
   have H := HA.out;clear HA;simp only [spec_l8Drop.l0] at H;by_cases c4 : x4_1 < (y242.length : Int)
   ·rw [if_pos c4] at H
    have c4b0 := dT c4;clear c4;by_cases c5 : 0 ≤ x4_1
    ·rw [if_pos c5] at H
     have c5b0 := dT c5;clear c5;by_cases c6 : (a0.size : Int) ≥ ((rdOf ByteArray.empty y242 x4_1).size : Int)
     ·rw [if_pos c6] at H
      have c6b0 : decide (((rdOf ByteArray.empty y242 x4_1).size : Int) ≤ (a0.size : Int)) = true := dT c6;have c6b1 : decide ((rdOf ByteArray.empty y242 x4_1).size ≤ a0.size) = true := dT (Int.ofNat_le.mp c6);clear c6;by_cases c7 : 0 ≤ ((rdOf ByteArray.empty y242 x4_1).size : Int)
      ·rw [if_pos c7] at H
       have c7b0 := eq_true c7;have c7b1 := dT c7;clear c7;by_cases c8 : ((rdOf ByteArray.empty y242 x4_1).size : Int) ≤ (a0.size : Int)
       ·rw [if_pos c8] at H
        have c8b0 := eq_true c8;have c8b1 := dT c8;clear c8;obtain ⟨t246, A9, H⟩ := oA H;(try dsimp only at H);have HC10 := AM H;clear H;obtain ⟨Ao11, co11, eo11⟩ := rS HO_3.out;subst eo11;have p245 := pz x4_1;have q245 := qz x4_1 (y242.length : Int);obtain ⟨ad245, e245, hx245_0⟩ := Kd.at_string (rR HO_3.out).2.2 x4_1 p245 q245;cases e245;replace p245 := eq_true p245;replace q245 := eq_true q245;(try go_wp2);replace HO_3 := AM (Kd.R_drew HO_3.out);replace HB := AM (p1 HB.out);have p247 := pz x4_1;have q247 := qz x4_1 (y242.length : Int);obtain ⟨ad247, e247, hx247_0⟩ := Kd.at_string (rR HO_3.out).2.2 x4_1 p247 q247
        obtain rfl : ad245 = ad247 := (by injection e247)
        replace p247 := eq_true p247;replace q247 := eq_true q247;(refine start_ (n := 15) (S := fun w' => w'.cell? (ad245.add (x4_1).toNat) = some (.string (rdOf ByteArray.empty y242 x4_1))) (ds := []) (bA 15 0) (by kernel_rfl) rfl rfl (hx247_0) (fun hHeld => ?_); refine with_tabW spec_l8Drop.tab6 spec_l8Drop.bits6 (fun HT_ HW_ => ?_));generalize wr.drew = w12 at HO_3 HB hx247_0 hHeld ⊢;refine pP 0 (some 18) (bA 15 1) HT_ ?_;refine pP 1 (some 19) (bA 15 3) HT_ ?_;refine pP 2 (some 20) (bA 15 7) HT_ ?_;refine pP 3 (some 21) (bA 15 15) HT_ ?_;refine pP 4 (some 22) (bA 15 31) HT_ ?_;refine pP 5 (some 23) (bA 15 63) HT_ ?_;refine pP 6 (some 24) (bA 15 127) HT_ ?_;refine pP 7 (some 25) (bA 15 255) HT_ ?_;refine pP 9 (some 27) (bA 15 767) HT_ ?_;refine pP 10 (some 28) (bA 15 1791) HT_ ?_;refine pP 11 (some 29) (bA 15 3839) HT_ ?_;refine take_ (i := 12) (N := some 30) (v := ?_) (a' := ?_) (bA 15 7935) rfl rfl (take_ofW HT_.out HW_.out (by kernel_rfl)) (fun _ _ _ h => h) (Or.inl ⟨by rfl, ?_⟩) hHeld ?_ ?_;rotate_left;(·intro w' s0;go_simp;(with_reducible rfl));rotate_left;(·simp only [Act.put, lT, lZ, lS, i64_w, i32_w];rfl);refine oP 8 (some 26) (bA 15 8191) HT_ (fun K hK => ?_);refine goes_ Tryz.func66 (by kernel_rfl) rfl #[.string (a0.extract 0 (((rdOf ByteArray.empty y242 x4_1).size : Int) : Int).toNat)] (by rfl) rfl rfl (by (try simp only [List.map_toArray, List.map_cons, List.map_nil]); try rfl) ?_;(with_reducible refine (spec_l2Low.calls (a0.extract 0 (((rdOf ByteArray.empty y242 x4_1).size : Int) : Int).toNat) t246 _ A9.out).mono ?_);rintro e w13 ⟨rfl, hb⟩;have HS0_ := (hb.cell (World.block_lt_of_cell? _ _ (hHeld))).trans (hHeld);refine ⟨_, rfl, ?_⟩;replace HO_3 := AM (Kd.R_below (qR HO_3) hb);replace HB := bH hb;(try clear hb);refine hK.out _ _ (HS0_) (fun hHeld => ?_);clear hK K;refine nP ?_;refine pP 13 (some 31) (bA 15 16383) HT_ ?_;refine pP 14 (some 32) (bA 15 32767) HT_ ?_;refine done_ (done_of HT_.out (by kernel_rfl)) ?_
        go_upto_if 32 with (fail)
        have H := HC10.out;clear HC10;by_cases c14 : t246.toList = (rdOf ByteArray.empty y242 x4_1).toList;(·rw [if_pos c14] at H;have c14b0 : (t246.toList == (rdOf ByteArray.empty y242 x4_1).toList) = true := beq_iff_eq.mpr c14;have c14b1 : (t246.toList != (rdOf ByteArray.empty y242 x4_1).toList) = false := bne_eq_false_iff_eq.mpr c14;clear c14;(first | rw [c14b0] | rw [c14b1] | rw [c14b2] | (simp only [i64_w, i32_w]; rw [c14b0]) | skip);have c15b0 := eq_true (oD (by assumption) : 0 ≤ ((rdOf ByteArray.empty y242 x4_1).size : Int));have c16b0 := eq_true (oD (by assumption) : ((rdOf ByteArray.empty y242 x4_1).size : Int) ≤ (a0.size : Int));obtain rfl := oI H;(go_wp2);(go_ret);exact ⟨rfl, bb⟩)
        ·rw [if_neg c14] at H
         have c14b0 : (t246.toList == (rdOf ByteArray.empty y242 x4_1).toList) = false := beq_eq_false_iff_ne.mpr c14;have c14b1 : (t246.toList != (rdOf ByteArray.empty y242 x4_1).toList) = true := bne_iff_ne.mpr c14;(first | rw [c14b0] | rw [c14b1] | rw [c14b2] | (simp only [i64_w, i32_w]; rw [c14b0]) | skip);have H' := AM H;clear H;(go_wp2);(go_roundg k1)
         case measure => have := HK1.out; omega
         case rel => exact ⟨(wrap64 (x4_1 + 1)), rf, H', ⟨by have := HK1.out; omega⟩, ⟨qR HO_3⟩, ⟨bb⟩⟩
       ·exact nO c8 H
      ·exact nO c7 H
     ·rw [if_neg c6] at H
      have c6b0 : decide (((rdOf ByteArray.empty y242 x4_1).size : Int) ≤ (a0.size : Int)) = false := dF c6;have c6b1 : decide ((rdOf ByteArray.empty y242 x4_1).size ≤ a0.size) = false := dF (fun h => c6 (Int.ofNat_le.mpr h));clear c6;have HC17 := AM H;clear H;obtain ⟨Ao18, co18, eo18⟩ := rS HO_3.out;subst eo18;have p245 := pz x4_1;have q245 := qz x4_1 (y242.length : Int);obtain ⟨ad245, e245, hx245_0⟩ := Kd.at_string (rR HO_3.out).2.2 x4_1 p245 q245;cases e245;replace p245 := eq_true p245;replace q245 := eq_true q245;(try go_wp2);replace HO_3 := AM (Kd.R_drew HO_3.out);replace HB := AM (p1 HB.out);(refine start_ (n := 15) (S := fun w' => True) (ds := []) (bA 15 0) (by kernel_rfl) rfl rfl trivial (fun hHeld => ?_); refine with_tabW spec_l8Drop.tab6 spec_l8Drop.bits6 (fun HT_ HW_ => ?_));generalize wr.drew = w19 at HO_3 HB hHeld ⊢;refine pP 0 (some 18) (bA 15 1) HT_ ?_;refine pP 1 (some 19) (bA 15 3) HT_ ?_;refine pP 2 (some 20) (bA 15 7) HT_ ?_;refine pP 3 (some 21) (bA 15 15) HT_ ?_;refine pP 4 (some 22) (bA 15 31) HT_ ?_;refine pU 5 (some 23) (bA 15 63) HT_ ?_;refine pU 6 (some 24) (bA 15 127) HT_ ?_;refine pU 7 (some 25) (bA 15 255) HT_ ?_;refine pU 8 (some 26) (bA 15 511) HT_ ?_;refine pU 9 (some 27) (bA 15 1023) HT_ ?_;refine pU 10 (some 28) (bA 15 2047) HT_ ?_;refine pU 11 (some 29) (bA 15 4095) HT_ ?_;refine pU 12 (some 30) (bA 15 8191) HT_ ?_;refine pU 13 (some 31) (bA 15 16383) HT_ ?_;refine pP 14 (some 32) (bA 15 32767) HT_ ?_;refine done_ (done_of HT_.out (by kernel_rfl)) ?_
      go_upto_if 32 with (fail)
      have H := HC17.out;clear HC17;have H' := AM H;clear H;(go_wp2);(go_roundg k1)
      case measure => have := HK1.out; omega
      case rel => exact ⟨(wrap64 (x4_1 + 1)), rf, H', ⟨by have := HK1.out; omega⟩, ⟨qR HO_3⟩, ⟨bb⟩⟩
    ·exact nO c5 H
   ·rw [if_neg c4] at H
    have c4b0 := dF c4;clear c4;obtain rfl := oI H;obtain ⟨Ao20, co20, eo20⟩ := rS HO_3.out;subst eo20;(go_wp2);(go_ret);exact ⟨rfl, bb⟩
def spec_l8Compare.f (k : Nat) (a0_0 : ByteArray) (a0_1 : Int) (l0_2 : List (S77)) (l0_3 : List (S77)) (a0_4 : ByteArray) (a0_5 : ByteArray) (a0_6 : ByteArray) (a0_7 : Int) (a0_8 : Int) (a0_9 : Int) (a0_10 : Bool) (a0_11 : Int) (a0_12 : ByteArray) (a0_13 : ByteArray) (a1_0 : ByteArray) (a1_1 : Int) (l1_2 : List (S77)) (l1_3 : List (S77)) (a1_4 : ByteArray) (a1_5 : ByteArray) (a1_6 : ByteArray) (a1_7 : Int) (a1_8 : Int) (a1_9 : Int) (a1_10 : Bool) (a1_11 : Int) (a1_12 : ByteArray) (a1_13 : ByteArray) : Option (Int) := (spec_l8Main.f a0_0 a0_1 l0_2 l0_3 a0_4 a0_5 a0_6 a0_7 a0_8 a0_9 a0_10 a0_11 a0_12 a0_13).bind fun t250 => ((spec_l8Main.f a1_0 a1_1 l1_2 l1_3 a1_4 a1_5 a1_6 a1_7 a1_8 a1_9 a1_10 a1_11 a1_12 a1_13).bind fun t253 => ((spec_l8Names.f k t250 t253).bind fun t256 => (if t256 = 0 then ((spec_l3Compare.f k a0_7 a0_8 a0_9 a0_10 a1_7 a1_8 a1_9 a1_10).bind fun t257 => (if t257 = 0 then ((spec_l8Drop.f k a0_4).bind fun t258 => ((spec_l8Drop.f k a1_4).bind fun t259 => ((spec_l8Collate.f k t258 t259).bind fun t260 => (if t260 = 0 then (if a0_11 < a1_11 then (some (-1)) else (if a0_11 > a1_11 then (some 1) else ((spec_l2Text.f a0_0 a1_0).bind fun t261 => (some t261)))) else (some t260))))) else (some t257))) else (some t256))))
theorem spec_l8Compare.mono : ∀ a0 a1 a2 a3 a4 a5 a6 a7 a8 a9 a10 a11 a12 a13 a14 a15 a16 a17 a18 a19 a20 a21 a22 a23 a24 a25 a26 a27 k, LeO (spec_l8Compare.f k a0 a1 a2 a3 a4 a5 a6 a7 a8 a9 a10 a11 a12 a13 a14 a15 a16 a17 a18 a19 a20 a21 a22 a23 a24 a25 a26 a27) (spec_l8Compare.f (k + 1) a0 a1 a2 a3 a4 a5 a6 a7 a8 a9 a10 a11 a12 a13 a14 a15 a16 a17 a18 a19 a20 a21 a22 a23 a24 a25 a26 a27) := by
 intro a0 a1 a2 a3 a4 a5 a6 a7 a8 a9 a10 a11 a12 a13 a14 a15 a16 a17 a18 a19 a20 a21 a22 a23 a24 a25 a26 a27 k;unfold spec_l8Compare.f
 repeat' with_reducible first
   | exact spec_l3Compare.mono _ _ _ _ _ _ _ _ _
   | exact spec_l8Collate.mono _ _ _
   | exact spec_l8Drop.mono _ _
   | exact spec_l8Names.mono _ _ _
   | exact LeO.refl _
   | exact LeO.none _
   | refine LeO.ite ?_ ?_
   | refine LeO.bind ?_ (fun _ => ?_)
def spec_l8Compare.T7 : Bool × List (List Nat × List Nat) := (true, [([], []), ([0], [0]), ([1], [1]), ([], []), ([3], [3]), ([4, 2], [4]), ([2, 5, 5], [2, 5]), ([6, 6, 0, 1, 2, 3, 4, 5, 6], [6])])
def spec_l8Compare.B7 : List Nat := [0, 1, 3, 0, 8, 31, 63, 127]
theorem spec_l8Compare.tab7 : rtab .any (opsOf Tryz.f23 7) = spec_l8Compare.T7 := by kernel_rfl
theorem spec_l8Compare.bits7 : waitsOk spec_l8Compare.T7.2 spec_l8Compare.B7 = true := by kernel_rfl
theorem spec_l8Compare.calls (k : Nat) (a0_0 : ByteArray) (a0_1 : Int) (A0_2 : Option Addr) (c0_2 : Nat) (l0_2 : List (S77)) (A0_3 : Option Addr) (c0_3 : Nat) (l0_3 : List (S77)) (a0_4 : ByteArray) (a0_5 : ByteArray) (a0_6 : ByteArray) (a0_7 : Int) (a0_8 : Int) (a0_9 : Int) (a0_10 : Bool) (a0_11 : Int) (a0_12 : ByteArray) (a0_13 : ByteArray) (a1_0 : ByteArray) (a1_1 : Int) (A1_2 : Option Addr) (c1_2 : Nat) (l1_2 : List (S77)) (A1_3 : Option Addr) (c1_3 : Nat) (l1_3 : List (S77)) (a1_4 : ByteArray) (a1_5 : ByteArray) (a1_6 : ByteArray) (a1_7 : Int) (a1_8 : Int) (a1_9 : Int) (a1_10 : Bool) (a1_11 : Int) (a1_12 : ByteArray) (a1_13 : ByteArray) (r : Int) (w : World) (hr0_2 : Kd.C k77 w A0_2 l0_2.length l0_2) (hc0_2 : l0_2.length ≤ c0_2) (hr0_3 : Kd.C k77 w A0_3 l0_3.length l0_3) (hc0_3 : l0_3.length ≤ c0_3) (hr1_2 : Kd.C k77 w A1_2 l1_2.length l1_2) (hc1_2 : l1_2.length ≤ c1_2) (hr1_3 : Kd.C k77 w A1_3 l1_3.length l1_3) (hc1_3 : l1_3.length ≤ c1_3) (h : spec_l8Compare.f k a0_0 a0_1 l0_2 l0_3 a0_4 a0_5 a0_6 a0_7 a0_8 a0_9 a0_10 a0_11 a0_12 a0_13 a1_0 a1_1 l1_2 l1_3 a1_4 a1_5 a1_6 a1_7 a1_8 a1_9 a1_10 a1_11 a1_12 a1_13 = some r) :
  Calls Tryz.prog 23 #[.agg #[.string a0_0, .int .i64 a0_1, .slice A0_2 l0_2.length c0_2, .slice A0_3 l0_3.length c0_3, .string a0_4, .string a0_5, .string a0_6, .int .i64 a0_7, .int .i64 a0_8, .int .i64 a0_9, .bool a0_10, .int .i64 a0_11, .string a0_12, .string a0_13], .agg #[.string a1_0, .int .i64 a1_1, .slice A1_2 l1_2.length c1_2, .slice A1_3 l1_3.length c1_3, .string a1_4, .string a1_5, .string a1_6, .int .i64 a1_7, .int .i64 a1_8, .int .i64 a1_9, .bool a1_10, .int .i64 a1_11, .string a1_12, .string a1_13]] w fun e w' => e = .returned (.int .i64 r) ∧ Below w.heap.size w w' := by
 have hu56 := Tryz.underlying56;have hu54 := Tryz.underlying54;have HR0_2 := AM hr0_2;have HC0_2 := AM hc0_2;clear hr0_2 hc0_2;have HR0_3 := AM hr0_3;have HC0_3 := AM hc0_3;clear hr0_3 hc0_3;have HR1_2 := AM hr1_2;have HC1_2 := AM hc1_2;clear hr1_2 hc1_2;have HR1_3 := AM hr1_3;have HC1_3 := AM hc1_3;clear hr1_3 hc1_3;have HB := AM (Below.refl w.heap.size w);have H := h;unfold spec_l8Compare.f at H;clear h;obtain ⟨t250, A3, H⟩ := oA H;(try dsimp only at H);obtain ⟨t253, A4, H⟩ := oA H;(try dsimp only at H);obtain ⟨t256, A5, H⟩ := oA H;(try dsimp only at H);have HC6 := AM H;clear H;(go_enter Tryz.func23, Tryz.ntmps23)
 try go_wp2_with (first | ((with_reducible refine gate_dst (N := 2) rfl ?_); refine bX (N := 2) (cs := #[.string a0_0, .int .i64 a0_1, .slice A0_2 l0_2.length c0_2, .slice A0_3 l0_3.length c0_3, .string a0_4, .string a0_5, .string a0_6, .int .i64 a0_7, .int .i64 a0_8, .int .i64 a0_9, .bool a0_10, .int .i64 a0_11, .string a0_12, .string a0_13]) (t := 56) ?_; intro gb248 hg w7 hbox hb; have BK248 := AM (hbox); have GW248 := bG (w := w) hg; replace HB := bH hb; clear hb hbox hg) | ((with_reducible refine gate_dst (N := 3) rfl ?_); refine bX (N := 3) (cs := #[.string a1_0, .int .i64 a1_1, .slice A1_2 l1_2.length c1_2, .slice A1_3 l1_3.length c1_3, .string a1_4, .string a1_5, .string a1_6, .int .i64 a1_7, .int .i64 a1_8, .int .i64 a1_9, .bool a1_10, .int .i64 a1_11, .string a1_12, .string a1_13]) (t := 56) ?_; intro gb249 hg w8 hbox hb; have BK249 := AM (hbox); have GW249 := bG (w := w) hg; replace HB := bH hb; have NB248_249 := AM ((by rw [hg]; exact Nat.ne_of_lt (blk_lt (g := gb248) (kk BK248)) : gb248 ≠ gb249)); have NB249_248 := AM ((by rw [hg]; exact Nat.ne_of_gt (blk_lt (g := gb248) (kk BK248)) : gb249 ≠ gb248)); replace BK248 := bK BK248 hb; clear hb hbox hg))
 replace BK248 := AM (bW BK248.out);replace BK249 := AM (bW BK249.out);replace HB := AM (p1 HB.out);refine start_ (n := 6) (S := fun w' => B14 w' gb248 (.string a0_0) (.int .i64 a0_1) (.slice A0_2 l0_2.length c0_2) (.slice A0_3 l0_3.length c0_3) (.string a0_4) (.string a0_5) (.string a0_6) (.int .i64 a0_7) (.int .i64 a0_8) (.int .i64 a0_9) (.bool a0_10) (.int .i64 a0_11) (.string a0_12) (.string a0_13) (b14 w' gb249 (.string a1_0) (.int .i64 a1_1) (.slice A1_2 l1_2.length c1_2) (.slice A1_3 l1_3.length c1_3) (.string a1_4) (.string a1_5) (.string a1_6) (.int .i64 a1_7) (.int .i64 a1_8) (.int .i64 a1_9) (.bool a1_10) (.int .i64 a1_11) (.string a1_12) (.string a1_13))) (ds := []) #[false, false, false, false, false, false] (by kernel_rfl) rfl rfl ⟨(bC BK248.out 0).trans rfl, (bC BK248.out 1).trans rfl, (bC BK248.out 2).trans rfl, (bC BK248.out 3).trans rfl, (bC BK248.out 4).trans rfl, (bC BK248.out 5).trans rfl, (bC BK248.out 6).trans rfl, (bC BK248.out 7).trans rfl, (bC BK248.out 8).trans rfl, (bC BK248.out 9).trans rfl, (bC BK248.out 10).trans rfl, (bC BK248.out 11).trans rfl, (bC BK248.out 12).trans rfl, (bC BK248.out 13).trans rfl, (bC BK249.out 0).trans rfl, (bC BK249.out 1).trans rfl, (bC BK249.out 2).trans rfl, (bC BK249.out 3).trans rfl, (bC BK249.out 4).trans rfl, (bC BK249.out 5).trans rfl, (bC BK249.out 6).trans rfl, (bC BK249.out 7).trans rfl, (bC BK249.out 8).trans rfl, (bC BK249.out 9).trans rfl, (bC BK249.out 10).trans rfl, (bC BK249.out 11).trans rfl, (bC BK249.out 12).trans rfl, (bC BK249.out 13).trans rfl⟩ (fun hHeld => ?_);generalize w8.drew = w9 at BK248 BK249 HB hHeld ⊢;refine take_ (i := 0) (N := some 8) (v := ?_) (a' := ?_) #[true, false, false, false, false, false] rfl rfl (by kernel_rfl) (fun _ _ _ h => h) (Or.inl ⟨by rfl, ?_⟩) hHeld ?_ ?_;rotate_left;(·rintro w' ⟨s0, s1, s2, s3, s4, s5, s6, s7, s8, s9, s10, s11, s12, s13, s14, s15, s16, s17, s18, s19, s20, s21, s22, s23, s24, s25, s26, s27⟩;go_simp;(with_reducible rfl));rotate_left;(·simp only [Act.put, lT, lZ, lS, i64_w, i32_w];rfl);refine take_ (i := 2) (N := some 10) (v := ?_) (a' := ?_) #[true, false, true, false, false, false] rfl rfl (by kernel_rfl) (fun _ _ _ h => h) (Or.inl ⟨by rfl, ?_⟩) hHeld ?_ ?_;rotate_left;(·rintro w' ⟨s0, s1, s2, s3, s4, s5, s6, s7, s8, s9, s10, s11, s12, s13, s14, s15, s16, s17, s18, s19, s20, s21, s22, s23, s24, s25, s26, s27⟩;go_simp;(with_reducible rfl));rotate_left;(·simp only [Act.put, lT, lZ, lS, i64_w, i32_w];rfl);refine one_ (i := 1) (N := some 9) #[true, true, true, false, false, false] rfl rfl (by kernel_rfl) (by decide) (fun K hK => ?_);refine gV Tryz.func35 #[.agg #[.string a0_0, .int .i64 a0_1, .slice A0_2 l0_2.length c0_2, .slice A0_3 l0_3.length c0_3, .string a0_4, .string a0_5, .string a0_6, .int .i64 a0_7, .int .i64 a0_8, .int .i64 a0_9, .bool a0_10, .int .i64 a0_11, .string a0_12, .string a0_13]] ?_;(with_reducible refine (spec_l8Main.calls a0_0 a0_1 (fun k_ => k_ < w.heap.size) _ _ l0_2 (fun k_ => k_ < w.heap.size) _ _ l0_3 a0_4 a0_5 a0_6 a0_7 a0_8 a0_9 a0_10 a0_11 a0_12 a0_13 t250 _ ?side1 ?side2 A3.out).mono ?_);(case side1 => exact Kd.V_mk HC0_2.out (Kd.F_below (Kd.C_F k77_heap HR0_2.out) bb));(case side2 => exact Kd.V_mk HC0_3.out (Kd.F_below (Kd.C_F k77_heap HR0_3.out) bb));rintro e w10 ⟨v251, rfl, ho0, hb⟩;refine ⟨_, rfl, ?_⟩;have HO252 := AM (Kd.V_lower (Kd.V_mono (ok' := fun k_ => k_ ≠ gb248 ∧ k_ ≠ gb249) ho0 (fun k_ hk_ => ⟨Or.elim hk_ (fun hs_ => Or.elim hs_ (fun hs_ => fun e_ => Nat.not_le.2 hs_ (by rw [e_]; exact GW248.out)) (fun hs_ => fun e_ => Nat.not_le.2 hs_ (by rw [e_]; exact GW248.out))) (fun hn_ => (Kd.freshB (g := gb248) (o := .cells #[.string a0_0, .int .i64 a0_1, .slice A0_2 l0_2.length c0_2, .slice A0_3 l0_3.length c0_3, .string a0_4, .string a0_5, .string a0_6, .int .i64 a0_7, .int .i64 a0_8, .int .i64 a0_9, .bool a0_10, .int .i64 a0_11, .string a0_12, .string a0_13] 56 (0, 0)) (kk BK248) k_ hn_)), Or.elim hk_ (fun hs_ => Or.elim hs_ (fun hs_ => fun e_ => Nat.not_le.2 hs_ (by rw [e_]; exact GW249.out)) (fun hs_ => fun e_ => Nat.not_le.2 hs_ (by rw [e_]; exact GW249.out))) (fun hn_ => (Kd.freshB (g := gb249) (o := .cells #[.string a1_0, .int .i64 a1_1, .slice A1_2 l1_2.length c1_2, .slice A1_3 l1_3.length c1_3, .string a1_4, .string a1_5, .string a1_6, .int .i64 a1_7, .int .i64 a1_8, .int .i64 a1_9, .bool a1_10, .int .i64 a1_11, .string a1_12, .string a1_13] 56 (0, 0)) (kk BK249) k_ hn_))⟩)) (bZ bb));replace BK248 := bK BK248 hb;replace BK249 := bK BK249 hb;replace HB := bH hb;(try clear hb);(try clear ho0);refine hK.out _ _ (by and_intros <;> first | exact (bC BK248.out _).trans rfl | exact (bC BK249.out _).trans rfl) (fun hHeld => ?_);clear hK K;refine nP ?_;refine one_ (i := 3) (N := some 11) #[true, true, true, true, false, false] rfl rfl (by kernel_rfl) (by decide) (fun K hK => ?_);refine gV Tryz.func35 #[.agg #[.string a1_0, .int .i64 a1_1, .slice A1_2 l1_2.length c1_2, .slice A1_3 l1_3.length c1_3, .string a1_4, .string a1_5, .string a1_6, .int .i64 a1_7, .int .i64 a1_8, .int .i64 a1_9, .bool a1_10, .int .i64 a1_11, .string a1_12, .string a1_13]] ?_;(with_reducible refine (spec_l8Main.calls a1_0 a1_1 (fun k_ => k_ < w.heap.size) _ _ l1_2 (fun k_ => k_ < w.heap.size) _ _ l1_3 a1_4 a1_5 a1_6 a1_7 a1_8 a1_9 a1_10 a1_11 a1_12 a1_13 t253 _ ?side1 ?side2 A4.out).mono ?_);(case side1 => exact Kd.V_mk HC1_2.out (Kd.F_below (Kd.C_F k77_heap HR1_2.out) bb));(case side2 => exact Kd.V_mk HC1_3.out (Kd.F_below (Kd.C_F k77_heap HR1_3.out) bb));rintro e w11 ⟨v254, rfl, ho0, hb⟩;refine ⟨_, rfl, ?_⟩;replace HO252 := AM (vB (qV HO252) hb);have HO255 := AM (Kd.V_lower (Kd.V_mono (ok' := fun k_ => k_ ≠ gb248 ∧ k_ ≠ gb249) ho0 (fun k_ hk_ => ⟨Or.elim hk_ (fun hs_ => Or.elim hs_ (fun hs_ => fun e_ => Nat.not_le.2 hs_ (by rw [e_]; exact GW248.out)) (fun hs_ => fun e_ => Nat.not_le.2 hs_ (by rw [e_]; exact GW248.out))) (fun hn_ => (Kd.freshB (g := gb248) (o := .cells #[.string a0_0, .int .i64 a0_1, .slice A0_2 l0_2.length c0_2, .slice A0_3 l0_3.length c0_3, .string a0_4, .string a0_5, .string a0_6, .int .i64 a0_7, .int .i64 a0_8, .int .i64 a0_9, .bool a0_10, .int .i64 a0_11, .string a0_12, .string a0_13] 56 (0, 0)) (kk BK248) k_ hn_)), Or.elim hk_ (fun hs_ => Or.elim hs_ (fun hs_ => fun e_ => Nat.not_le.2 hs_ (by rw [e_]; exact GW249.out)) (fun hs_ => fun e_ => Nat.not_le.2 hs_ (by rw [e_]; exact GW249.out))) (fun hn_ => (Kd.freshB (g := gb249) (o := .cells #[.string a1_0, .int .i64 a1_1, .slice A1_2 l1_2.length c1_2, .slice A1_3 l1_3.length c1_3, .string a1_4, .string a1_5, .string a1_6, .int .i64 a1_7, .int .i64 a1_8, .int .i64 a1_9, .bool a1_10, .int .i64 a1_11, .string a1_12, .string a1_13] 56 (0, 0)) (kk BK249) k_ hn_))⟩)) (bZ bb))
 replace BK248 := bK BK248 hb;replace BK249 := bK BK249 hb;replace HB := bH hb;(try clear hb);(try clear ho0);obtain ⟨Ao12, co12, eo12⟩ := vS HO252.out;(first | subst eo12 | (injection eo12 with f1_ f2_ f3_; have f4_ := f1_.symm; have f5_ := f3_.symm; clear f1_ f2_ f3_; subst f4_; subst f5_));obtain ⟨Ao13, co13, eo13⟩ := vS HO255.out;(first | subst eo13 | (injection eo13 with f1_ f2_ f3_; have f4_ := f1_.symm; have f5_ := f3_.symm; clear f1_ f2_ f3_; subst f4_; subst f5_));refine hK.out _ _ (by and_intros <;> first | exact (bC BK248.out _).trans rfl | exact (bC BK249.out _).trans rfl) (fun hHeld => ?_);clear hK K;refine nP ?_;refine one_ (i := 4) (N := some 12) #[true, true, true, true, true, false] rfl rfl (by kernel_rfl) (by decide) (fun K hK => ?_);refine gV Tryz.func34 #[.slice Ao12 t250.length co12, .slice Ao13 t253.length co13] ?_;(with_reducible refine (spec_l8Names.calls k _ _ t250 _ _ t253 t256 _ ?side1 ?side2 ?side3 ?side4 A5.out).mono ?_);(case side1 => repeat first | exact (vR HO252.out).2.2 | with_reducible first | apply cA | apply cN | apply cD);(case side2 => exact (vR HO252.out).2.1);(case side3 => repeat first | exact (vR HO255.out).2.2 | with_reducible first | apply cA | apply cN | apply cD);(case side4 => exact (vR HO255.out).2.1);rintro e w14 ⟨rfl, hb⟩;refine ⟨_, rfl, ?_⟩;replace HO252 := AM (vB (qV HO252) hb);replace HO255 := AM (vB (qV HO255) hb);replace BK248 := bK BK248 hb;replace BK249 := bK BK249 hb;replace HB := bH hb;(try clear hb);refine hK.out _ _ (by and_intros <;> first | exact (bC BK248.out _).trans rfl | exact (bC BK249.out _).trans rfl) (fun hHeld => ?_);clear hK K;refine nP ?_;refine pure_ (i := 5) (N := some 5) (v := ?_) (a' := ?_) #[true, true, true, true, true, true] rfl rfl (by kernel_rfl) (fun _ _ _ h => h) (Or.inl ⟨by rfl, ?_⟩) ?_ ?_;rotate_left;(·intro w';go_simp;(with_reducible rfl));rotate_left;(·simp only [Act.put, lT, lZ, lS, i64_w, i32_w];rfl);refine done_ (by kernel_rfl) ?_
 go_upto_if 14 with (fail)
 have H := HC6.out;clear HC6;by_cases c15 : t256 = 0
 ·rw [if_pos c15] at H
  have c15b0 : (t256 == 0) = true := beq_iff_eq.mpr c15;have c15b1 : (t256 != 0) = false := bne_eq_false_iff_eq.mpr c15;clear c15;(first | rw [c15b0] | rw [c15b1] | rw [c15b2] | (simp only [i64_w, i32_w]; rw [c15b0]) | skip);obtain ⟨t257, A16, H⟩ := oA H;(try dsimp only at H);by_cases c17 : t257 = 0
  ·rw [if_pos c17] at H
   have c17b0 : (t257 == 0) = true := beq_iff_eq.mpr c17;have c17b1 : (t257 != 0) = false := bne_eq_false_iff_eq.mpr c17;clear c17;obtain ⟨t258, A18, H⟩ := oA H;(try dsimp only at H);obtain ⟨t259, A19, H⟩ := oA H;(try dsimp only at H);obtain ⟨t260, A20, H⟩ := oA H;(try dsimp only at H);have HC21 := AM H;clear H;have hnb22 := NB248_249.out;have hnc22 := NB249_248.out;obtain ⟨_,_,_,_,_,_,_,_,_,_,_,_,_,_⟩ := cells14 BK248.out;obtain ⟨_,_,_,_,_,_,_,_,_,_,_,_,_,_⟩ := cells14 BK249.out
   try go_wp2_with (first | ((with_reducible refine gC (f := 36) rfl ?_); refine gX (some 20) Tryz.func36 #[.agg #[.int .i64 a0_7, .int .i64 a0_8, .int .i64 a0_9, .bool a0_10], .agg #[.int .i64 a1_7, .int .i64 a1_8, .int .i64 a1_9, .bool a1_10]] ?_; (with_reducible refine (spec_l3Compare.calls k a0_7 a0_8 a0_9 a0_10 a1_7 a1_8 a1_9 a1_10 t257 _ A16.out).mono ?_); rintro e w25 ⟨rfl, hb⟩; refine ⟨_, rfl, ?_⟩; replace HO252 := AM (vB (qV HO252) hb); replace HO255 := AM (vB (qV HO255) hb); replace BK248 := bK BK248 hb; replace BK249 := bK BK249 hb; replace HB := bH hb; (try clear hb)))
   replace HO252 := AM (vD HO252.out);replace HO255 := AM (vD HO255.out);replace BK248 := AM (bW BK248.out);replace BK249 := AM (bW BK249.out);replace HB := AM (p1 HB.out);(refine start_ (n := 8) (S := fun w' => B14 w' gb248 (.string a0_0) (.int .i64 a0_1) (.slice A0_2 l0_2.length c0_2) (.slice A0_3 l0_3.length c0_3) (.string a0_4) (.string a0_5) (.string a0_6) (.int .i64 a0_7) (.int .i64 a0_8) (.int .i64 a0_9) (.bool a0_10) (.int .i64 a0_11) (.string a0_12) (.string a0_13) (b14 w' gb249 (.string a1_0) (.int .i64 a1_1) (.slice A1_2 l1_2.length c1_2) (.slice A1_3 l1_3.length c1_3) (.string a1_4) (.string a1_5) (.string a1_6) (.int .i64 a1_7) (.int .i64 a1_8) (.int .i64 a1_9) (.bool a1_10) (.int .i64 a1_11) (.string a1_12) (.string a1_13))) (ds := []) (bA 8 0) (by kernel_rfl) rfl rfl ⟨(bC BK248.out 0).trans rfl, (bC BK248.out 1).trans rfl, (bC BK248.out 2).trans rfl, (bC BK248.out 3).trans rfl, (bC BK248.out 4).trans rfl, (bC BK248.out 5).trans rfl, (bC BK248.out 6).trans rfl, (bC BK248.out 7).trans rfl, (bC BK248.out 8).trans rfl, (bC BK248.out 9).trans rfl, (bC BK248.out 10).trans rfl, (bC BK248.out 11).trans rfl, (bC BK248.out 12).trans rfl, (bC BK248.out 13).trans rfl, (bC BK249.out 0).trans rfl, (bC BK249.out 1).trans rfl, (bC BK249.out 2).trans rfl, (bC BK249.out 3).trans rfl, (bC BK249.out 4).trans rfl, (bC BK249.out 5).trans rfl, (bC BK249.out 6).trans rfl, (bC BK249.out 7).trans rfl, (bC BK249.out 8).trans rfl, (bC BK249.out 9).trans rfl, (bC BK249.out 10).trans rfl, (bC BK249.out 11).trans rfl, (bC BK249.out 12).trans rfl, (bC BK249.out 13).trans rfl⟩ (fun hHeld => ?_); refine with_tabW spec_l8Compare.tab7 spec_l8Compare.bits7 (fun HT_ HW_ => ?_));generalize w25.drew = w26 at HO252 HO255 BK248 BK249 HB hHeld ⊢;refine pP 0 (some 24) (bA 8 1) HT_ ?_;refine pP 3 (some 27) (bA 8 9) HT_ ?_;refine tP 1 (some 25) (bA 8 11) HT_ HW_ hHeld ?_;refine tP 4 (some 28) (bA 8 27) HT_ HW_ hHeld ?_;refine oP 2 (some 26) (bA 8 31) HT_ (fun K hK => ?_);refine gV Tryz.func38 #[.string a0_4] ?_;(with_reducible refine (spec_l8Drop.calls k a0_4 t258 _ A18.out).mono ?_);rintro e w27 ⟨rfl, hb⟩;refine ⟨_, rfl, ?_⟩;replace HO252 := AM (vB (qV HO252) hb);replace HO255 := AM (vB (qV HO255) hb);replace BK248 := bK BK248 hb;replace BK249 := bK BK249 hb;replace HB := bH hb;(try clear hb);refine hK.out _ _ (by and_intros <;> first | exact (bC BK248.out _).trans rfl | exact (bC BK249.out _).trans rfl) (fun hHeld => ?_);clear hK K;refine nP ?_;refine oP 5 (some 29) (bA 8 63) HT_ (fun K hK => ?_);refine gV Tryz.func38 #[.string a1_4] ?_;(with_reducible refine (spec_l8Drop.calls k a1_4 t259 _ A19.out).mono ?_);rintro e w28 ⟨rfl, hb⟩;refine ⟨_, rfl, ?_⟩;replace HO252 := AM (vB (qV HO252) hb);replace HO255 := AM (vB (qV HO255) hb);replace BK248 := bK BK248 hb;replace BK249 := bK BK249 hb;replace HB := bH hb;(try clear hb);refine hK.out _ _ (by and_intros <;> first | exact (bC BK248.out _).trans rfl | exact (bC BK249.out _).trans rfl) (fun hHeld => ?_);clear hK K;refine nP ?_;refine oP 6 (some 30) (bA 8 127) HT_ (fun K hK => ?_);refine gV Tryz.func37 #[.string t258, .string t259] ?_;(with_reducible refine (spec_l8Collate.calls k t258 t259 t260 _ A20.out).mono ?_);rintro e w29 ⟨rfl, hb⟩;refine ⟨_, rfl, ?_⟩;replace HO252 := AM (vB (qV HO252) hb);replace HO255 := AM (vB (qV HO255) hb);replace BK248 := bK BK248 hb;replace BK249 := bK BK249 hb;replace HB := bH hb;(try clear hb);refine hK.out _ _ (by and_intros <;> first | exact (bC BK248.out _).trans rfl | exact (bC BK249.out _).trans rfl) (fun hHeld => ?_);clear hK K;refine nP ?_;refine pP 7 (some 7) (bA 8 255) HT_ ?_;refine done_ (done_of HT_.out (by kernel_rfl)) ?_
   go_upto_if 32 with (fail)
   have H := HC21.out;clear HC21;by_cases c30 : t260 = 0
   ·rw [if_pos c30] at H
    have c30b0 : (t260 == 0) = true := beq_iff_eq.mpr c30;have c30b1 : (t260 != 0) = false := bne_eq_false_iff_eq.mpr c30;clear c30;(first | rw [c30b0] | rw [c30b1] | rw [c30b2] | (simp only [i64_w, i32_w]; rw [c30b0]) | skip);by_cases c31 : a0_11 < a1_11;(·rw [if_pos c31] at H;have c31b0 := dT c31;clear c31;obtain rfl := oI H;have hnb32 := NB248_249.out;have hnc32 := NB249_248.out;obtain ⟨_,_,_,_,_,_,_,_,_,_,_,_,_,_⟩ := cells14 BK248.out;obtain ⟨_,_,_,_,_,_,_,_,_,_,_,_,_,_⟩ := cells14 BK249.out;(go_wp2);(go_ret);exact ⟨rfl, bb⟩)
    ·rw [if_neg c31] at H
     have c31b0 := dF c31;clear c31;by_cases c35 : a0_11 > a1_11;(·rw [if_pos c35] at H;have c35b0 : decide (a1_11 < a0_11) = true := dT c35;clear c35;obtain rfl := oI H;have hnb36 := NB248_249.out;have hnc36 := NB249_248.out;obtain ⟨_,_,_,_,_,_,_,_,_,_,_,_,_,_⟩ := cells14 BK248.out;obtain ⟨_,_,_,_,_,_,_,_,_,_,_,_,_,_⟩ := cells14 BK249.out;(go_wp2);(go_ret);exact ⟨rfl, bb⟩)
     ·rw [if_neg c35] at H
      have c35b0 : decide (a1_11 < a0_11) = false := dF c35;clear c35;obtain ⟨t261, A39, H⟩ := oA H;(try dsimp only at H);obtain rfl := oI H;have hnb40 := NB248_249.out;have hnc40 := NB249_248.out;obtain ⟨_,_,_,_,_,_,_,_,_,_,_,_,_,_⟩ := cells14 BK248.out;obtain ⟨_,_,_,_,_,_,_,_,_,_,_,_,_,_⟩ := cells14 BK249.out
      go_wp2_with (first | ((with_reducible refine gC (f := 39) rfl ?_); refine gX (some 50) Tryz.func39 #[.string a0_0, .string a1_0] ?_; (with_reducible refine (spec_l2Text.calls a0_0 a1_0 t261 _ A39.out).mono ?_); rintro e w' ⟨rfl, ⟨nd, rfl⟩⟩; refine ⟨_, rfl, ?_⟩))
      (go_ret);exact ⟨rfl, bb⟩
   ·rw [if_neg c30] at H
    have c30b0 : (t260 == 0) = false := beq_eq_false_iff_ne.mpr c30;have c30b1 : (t260 != 0) = true := bne_iff_ne.mpr c30;(first | rw [c30b0] | rw [c30b1] | rw [c30b2] | (simp only [i64_w, i32_w]; rw [c30b0]) | skip);obtain rfl := oI H;(go_wp2);(go_ret);exact ⟨rfl, bb⟩
  ·rw [if_neg c17] at H
   have c17b0 : (t257 == 0) = false := beq_eq_false_iff_ne.mpr c17;have c17b1 : (t257 != 0) = true := bne_iff_ne.mpr c17;obtain rfl := oI H;have hnb43 := NB248_249.out;have hnc43 := NB249_248.out;obtain ⟨_,_,_,_,_,_,_,_,_,_,_,_,_,_⟩ := cells14 BK248.out;obtain ⟨_,_,_,_,_,_,_,_,_,_,_,_,_,_⟩ := cells14 BK249.out
   go_wp2_with (first | ((with_reducible refine gC (f := 36) rfl ?_); refine gX (some 20) Tryz.func36 #[.agg #[.int .i64 a0_7, .int .i64 a0_8, .int .i64 a0_9, .bool a0_10], .agg #[.int .i64 a1_7, .int .i64 a1_8, .int .i64 a1_9, .bool a1_10]] ?_; (with_reducible refine (spec_l3Compare.calls k a0_7 a0_8 a0_9 a0_10 a1_7 a1_8 a1_9 a1_10 t257 _ A16.out).mono ?_); rintro e w46 ⟨rfl, hb⟩; refine ⟨_, rfl, ?_⟩; replace HO252 := AM (vB (qV HO252) hb); replace HO255 := AM (vB (qV HO255) hb); replace BK248 := bK BK248 hb; replace BK249 := bK BK249 hb; replace HB := bH hb; (try clear hb)))
   (go_ret);exact ⟨rfl, bb⟩
 ·rw [if_neg c15] at H
  have c15b0 : (t256 == 0) = false := beq_eq_false_iff_ne.mpr c15;have c15b1 : (t256 != 0) = true := bne_iff_ne.mpr c15;(first | rw [c15b0] | rw [c15b1] | rw [c15b2] | (simp only [i64_w, i32_w]; rw [c15b0]) | skip);obtain rfl := oI H;(go_wp2);(go_ret);exact ⟨rfl, bb⟩
end Go.Proofs.YtbnagolaacejoaaGreatDoor.Px
