/- Calls of Go functions come to what the Lean functions beside them say; written by a program of this session (wip/xprint); no conditions. -/
import Derived.Test.YthcccgnhokncdaaGreatDoorPx6
namespace Go.Proofs.YthcccgnhokncdaaGreatDoor.Px
open Go.RowKit Go.Proofs.YthcccgnhokncdaaGreatDoorW.PrintWords Go.Proofs.YthcccgnhokncdaaGreatDoorW.PrintLast Go.Proofs.YthcccgnhokncdaaGreatDoorW.PrintMore
open Go.Proofs.YthcccgnhokncdaaGreatDoorW.PrintWords renaming pw_below_drewN → pN, below_drew1 → p1, below_alloc → pA, below_step → bS, gate_callee → gC, below_set → pS, blk_drewN → bN, blk_alloc → bL, blk_drew → bW, below_size → bZ, blk_cell → bC, blk_frozen → bF
open Go.Proofs.YthcccgnhokncdaaGreatDoorW.PrintWords.Aside0 renaming mk → AM
open Go.Proofs.YthcccgnhokncdaaGreatDoorW.PrintLast renaming goesL_ → gL
open Option renaming bind_eq_some_iff → oB
open Option.some renaming inj → oI
open List renaming map_toArray → mT, map_cons → mC, map_nil → mN, setIfInBounds_toArray → lT, set_cons_zero → lZ, set_cons_succ → lS
open Go.Proofs.YthcccgnhokncdaaGreatDoorW.PrintWords.Kd renaming R_reads' → rR, C_alloc → cA, C_drewN → cN, C_drew → cD, C_below → cB, R_slice → rS
attribute [local go_sem] max2_int min2_int max_two min_two max_three min_three max_four min_four
set_option maxHeartbeats 8000000
set_option maxRecDepth 100000
set_option linter.unusedVariables false
set_option linter.unusedSimpArgs false
/-! ### impl_isLimit: function 17 -/
def impl_isLimit.f (a0 : Int) : Option (Bool) := (impl_inside.f a0 1 4).bind fun t344 => (some t344)
set_option maxHeartbeats 8000000 in
set_option maxRecDepth 100000 in
theorem impl_isLimit.calls (a0 : Int) (r : Bool) (w : World) (h : impl_isLimit.f a0 = some r) :
  Calls Tryz.prog 17 #[.int .i64 a0] w fun e w' => e = .returned (.bool r) ∧ Drawn0 w w' := by
 have H := h;unfold impl_isLimit.f at H;clear h;replace H := oB.mp H;obtain ⟨t344, A20, H⟩ := H;(try dsimp only at H);have A2 := AM A20;clear A20;obtain rfl := oI H;(go_enter Tryz.func17, Tryz.ntmps17)
 go_wp2_with (first | ((with_reducible refine gC (f := 38) rfl ?_); refine gL (some 4) rfl rfl Tryz.func38 (by kernel_rfl) rfl #[.int .i64 a0, .int .i64 1, .int .i64 4] rfl (by (try simp only [mT, mC, mN]); try rfl) ?_; (with_reducible refine (impl_inside.calls a0 1 4 t344 _ A2.out).mono ?_); rintro e w' ⟨rfl, ⟨nd, rfl⟩⟩; refine ⟨_, rfl, ?_⟩))
 (go_ret);exact ⟨by first | rfl | (simp; done) | (simp [*]; done), by repeat (first | exact Drawn0.refl _ | apply Drawn0.step)⟩
/-! ### slices_Index_string_string: function 85 -/
def slices_Index_string_string.l0 : Nat → List ByteArray → ByteArray → Int → Int → Option (Int)
 | 0, _, _, _, _ => none
 | k + 1, x0, x1, x7, x8 => if x8 < x7 then (if 0 ≤ x8 then (if x8 < (x0.length : Int) then (if x1.toList = (rdOf ByteArray.empty x0 x8).toList then (some x8) else (slices_Index_string_string.l0 k x0 x1 x7 (wrap64 (x8 + 1)))) else (none)) else (none)) else (some (-1))
def slices_Index_string_string.f (k : Nat) (l0 : List ByteArray) (a1 : ByteArray) : Option (Int) := slices_Index_string_string.l0 k l0 a1 (l0.length : Int) 0
theorem slices_Index_string_string.mono_l : ∀ k, (∀ y0 y1 y2 y3, LeO (slices_Index_string_string.l0 k y0 y1 y2 y3) (slices_Index_string_string.l0 (k + 1) y0 y1 y2 y3))
 | 0 => fun _ _ _ _ r h => by simp [slices_Index_string_string.l0] at h
 | k + 1 => by
  have ih0 := slices_Index_string_string.mono_l k
  ·intro y0 y1 y2 y3
   unfold slices_Index_string_string.l0
   repeat' with_reducible first
   | exact ih0 _ _ _ _
   | exact LeO.refl _
   | exact LeO.none _
   | refine LeO.ite ?_ ?_
   | refine LeO.bind ?_ (fun _ => ?_)
theorem slices_Index_string_string.mono : ∀ a0 a1 k, LeO (slices_Index_string_string.f k a0 a1) (slices_Index_string_string.f (k + 1) a0 a1) := by
 intro a0 a1 k;have ih0 := slices_Index_string_string.mono_l k;unfold slices_Index_string_string.f
 repeat' with_reducible first
   | exact ih0 _ _ _ _
   | exact LeO.refl _
   | exact LeO.none _
   | refine LeO.ite ?_ ?_
   | refine LeO.bind ?_ (fun _ => ?_)
set_option maxHeartbeats 8000000 in
set_option maxRecDepth 100000 in
theorem slices_Index_string_string.calls (k : Nat) (A0 : Option Addr) (c0 : Nat) (l0 : List ByteArray) (a1 : ByteArray) (r : Int) (w : World) (hr0 : Kd.C Kd.string w A0 l0.length l0) (hc0 : l0.length ≤ c0) (h : slices_Index_string_string.f k l0 a1 = some r) :
  Calls Tryz.prog 85 #[.slice A0 l0.length c0, .string a1] w fun e w' => e = .returned (.int .i64 r) ∧ Drawn0 w w' := by
 have HR0 := AM hr0;have HC0 := AM hc0;clear hr0 hc0;have H := h;unfold slices_Index_string_string.f at H;clear h;have H' := AM H;clear H;(go_enter Tryz.func85, Tryz.ntmps85);(go_wp2);(go_loopg [8] k (fun kq v8 w' => ∃ (x8_1 : Int), v8 = .int .i64 x8_1 ∧ Aside0 (slices_Index_string_string.l0 kq l0 a1 (l0.length : Int) x8_1 = some r) ∧ Aside0 (kq ≤ k) ∧ Drawn0 w w'))
 case atStart => exact ⟨(0), (by first | rfl | (simp; done) | (simp [*]; done)), H', ⟨Nat.le_refl _⟩, by repeat (first | exact Drawn0.refl _ | apply Drawn0.step)⟩
 case round =>
  clear H';(try clear p2);obtain ⟨x8_1, rfl, HA, HK1, ⟨m1, rfl⟩⟩ := hrel
  cases gk with
  | zero => exact absurd HA.out (by simp [slices_Index_string_string.l0])
  | succ k1 =>
   have H := HA.out;clear HA;simp only [slices_Index_string_string.l0] at H;by_cases c3 : x8_1 < (l0.length : Int)
   ·rw [if_pos c3] at H
    have c3b0 : decide (x8_1 < (l0.length : Int)) = true := dT c3;clear c3;by_cases c4 : 0 ≤ x8_1
    ·rw [if_pos c4] at H
     have c4b0 : decide (0 ≤ x8_1) = true := dT c4;clear c4;by_cases c5 : x8_1 < (l0.length : Int)
     ·rw [if_pos c5] at H
      have c5b0 : decide (x8_1 < (l0.length : Int)) = true := dT c5;clear c5;by_cases c6 : a1.toList = (rdOf ByteArray.empty l0 x8_1).toList;(·rw [if_pos c6] at H;have c6b0 : (a1.toList == (rdOf ByteArray.empty l0 x8_1).toList) = true := beq_iff_eq.mpr c6;have c6b1 : (a1.toList != (rdOf ByteArray.empty l0 x8_1).toList) = false := bne_eq_false_iff_eq.mpr c6;clear c6;obtain rfl := oI H;have p345 : 0 ≤ (x8_1 : Int) := oD (by assumption);have q345 : x8_1 < (l0.length : Int) := oD (by assumption);obtain ⟨ad345, e345, hx345_0⟩ := Kd.at_string HR0.out x8_1 p345 q345;cases e345;replace p345 := eq_true p345;replace q345 := eq_true q345;(go_wp2);(go_ret);exact ⟨by first | rfl | (simp; done) | (simp [*]; done), by repeat (first | exact Drawn0.refl _ | apply Drawn0.step)⟩)
      ·rw [if_neg c6] at H
       have c6b0 : (a1.toList == (rdOf ByteArray.empty l0 x8_1).toList) = false := beq_eq_false_iff_ne.mpr c6;have c6b1 : (a1.toList != (rdOf ByteArray.empty l0 x8_1).toList) = true := bne_iff_ne.mpr c6;have H' := AM H;clear H;have p345 : 0 ≤ (x8_1 : Int) := oD (by assumption);have q345 : x8_1 < (l0.length : Int) := oD (by assumption);obtain ⟨ad345, e345, hx345_0⟩ := Kd.at_string HR0.out x8_1 p345 q345;cases e345;replace p345 := eq_true p345;replace q345 := eq_true q345;(go_wp2);(go_roundg k1)
       case measure => have := HK1.out; omega
       case rel => exact ⟨(wrap64 (x8_1 + 1)), (by first | rfl | (simp; done) | (simp [*]; done)), H', ⟨by have := HK1.out; omega⟩, by repeat (first | exact Drawn0.refl _ | apply Drawn0.step)⟩
     ·rw [if_neg c5] at H
      exact absurd H (by simp)
    ·rw [if_neg c4] at H
     exact absurd H (by simp)
   ·rw [if_neg c3] at H
    have c3b0 : decide (x8_1 < (l0.length : Int)) = false := dF c3;clear c3;obtain rfl := oI H;(go_wp2);(go_ret);exact ⟨by first | rfl | (simp; done) | (simp [*]; done), by repeat (first | exact Drawn0.refl _ | apply Drawn0.step)⟩
/-! ### slices_Contains_string_string: function 63 -/
def slices_Contains_string_string.f (k : Nat) (l0 : List ByteArray) (a1 : ByteArray) : Option (Bool) := (slices_Index_string_string.f k l0 a1).bind fun t346 => (some (decide (t346 ≥ 0)))
theorem slices_Contains_string_string.mono : ∀ a0 a1 k, LeO (slices_Contains_string_string.f k a0 a1) (slices_Contains_string_string.f (k + 1) a0 a1) := by
 intro a0 a1 k;unfold slices_Contains_string_string.f
 repeat' with_reducible first
   | exact slices_Index_string_string.mono _ _ _
   | exact LeO.refl _
   | exact LeO.none _
   | refine LeO.ite ?_ ?_
   | refine LeO.bind ?_ (fun _ => ?_)
set_option maxHeartbeats 8000000 in
set_option maxRecDepth 100000 in
theorem slices_Contains_string_string.calls (k : Nat) (A0 : Option Addr) (c0 : Nat) (l0 : List ByteArray) (a1 : ByteArray) (r : Bool) (w : World) (hr0 : Kd.C Kd.string w A0 l0.length l0) (hc0 : l0.length ≤ c0) (h : slices_Contains_string_string.f k l0 a1 = some r) :
  Calls Tryz.prog 63 #[.slice A0 l0.length c0, .string a1] w fun e w' => e = .returned (.bool r) ∧ Drawn0 w w' := by
 have HR0 := AM hr0;have HC0 := AM hc0;clear hr0 hc0;have H := h;unfold slices_Contains_string_string.f at H;clear h;replace H := oB.mp H;obtain ⟨t346, A30, H⟩ := H;(try dsimp only at H);have A3 := AM A30;clear A30;obtain rfl := oI H;(go_enter Tryz.func63, Tryz.ntmps63)
 go_wp2_with (first | ((with_reducible refine gC (f := 85) rfl ?_); refine gL (some 7) rfl rfl Tryz.func85 (by kernel_rfl) rfl #[.slice A0 l0.length c0, .string a1] rfl (by (try simp only [mT, mC, mN]); try rfl) ?_; (with_reducible refine (slices_Index_string_string.calls k _ _ l0 a1 t346 _ ?side1 ?side2 A3.out).mono ?_); (case side1 => repeat first | exact HR0.out | with_reducible first | apply Kd.C_alloc | apply Kd.C_drewN | apply Kd.C_drew); (case side2 => exact HC0.out); rintro e w' ⟨rfl, ⟨nd, rfl⟩⟩; refine ⟨_, rfl, ?_⟩))
 (go_ret);exact ⟨by first | rfl | (simp; done) | (simp [*]; done), by repeat (first | exact Drawn0.refl _ | apply Drawn0.step)⟩
/-! ### impl_isField: function 40 -/
def impl_isField.f (k : Nat) (a0 : ByteArray) : Option Bool := slices_Contains_string_string.f k Go.Proofs.YthcccgnhokncdaaGreatDoorW.Envs.strs0 a0
theorem impl_isField.mono : ∀ a0 k, LeO (impl_isField.f k a0) (impl_isField.f (k + 1) a0) := fun a0 k => slices_Contains_string_string.mono _ a0 k
set_option maxHeartbeats 8000000 in
set_option maxRecDepth 100000 in
theorem impl_isField.calls (k : Nat) (a0 : ByteArray) (r : Bool) (w : World) (henv : Go.Proofs.YthcccgnhokncdaaGreatDoorW.Envs.Env [10] w) (h : impl_isField.f k a0 = some r) :
    Calls Tryz.prog 40 #[.string a0] w fun e w' => e = .returned (.bool r) ∧ Below w.heap.size w w' := by
  have HC := AM (Go.Proofs.YthcccgnhokncdaaGreatDoorW.Envs.Env.rows0 henv (by decide));unfold impl_isField.f at h;have con := slices_Contains_string_string.calls k (some ⟨0, 0, none⟩) 8 _ a0 r w HC.out (by decide) h;have CON := AM con;clear con h henv;(go_enter Tryz.func40, Tryz.ntmps40)
  go_wp2_with (go_at_call 63; refine CON.out.mono ?_; rintro e w5 ⟨rfl, ⟨m5, rfl⟩⟩)
  (go_ret);exact ⟨rfl, pN (Below.refl _ _) _⟩
/-! ### impl_isStyleField: function 18 -/
def impl_isStyleField.f (k : Nat) (a0 : ByteArray) : Option (Bool) := (impl_isField.f k a0).bind fun t347 => (if t347 = true then (some true) else (if a0.toList = ([121, 101, 97, 114] : List UInt8) then (some true) else (some (a0.toList == ([107, 101, 121] : List UInt8)))))
theorem impl_isStyleField.mono : ∀ a0 k, LeO (impl_isStyleField.f k a0) (impl_isStyleField.f (k + 1) a0) := by
 intro a0 k;unfold impl_isStyleField.f
 repeat' with_reducible first
   | exact impl_isField.mono _ _
   | exact LeO.refl _
   | exact LeO.none _
   | refine LeO.ite ?_ ?_
   | refine LeO.bind ?_ (fun _ => ?_)
set_option maxHeartbeats 8000000 in
set_option maxRecDepth 100000 in
theorem impl_isStyleField.calls (k : Nat) (a0 : ByteArray) (r : Bool) (w : World) (henv : Go.Proofs.YthcccgnhokncdaaGreatDoorW.Envs.Env [10] w) (h : impl_isStyleField.f k a0 = some r) :
  Calls Tryz.prog 18 #[.string a0] w fun e w' => e = .returned (.bool r) ∧ Below w.heap.size w w' := by
 have HB := AM (Below.refl w.heap.size w);have HENV := AM henv;clear henv;have H := h;unfold impl_isStyleField.f at H;clear h;replace H := oB.mp H;obtain ⟨t347, A20, H⟩ := H;(try dsimp only at H);have A2 := AM A20;clear A20;by_cases c3 : t347 = true
 ·subst c3
  rw [if_pos rfl] at H;obtain rfl := oI H;(go_enter Tryz.func18, Tryz.ntmps18)
  go_wp2_with (first | ((with_reducible refine gC (f := 40) rfl ?_); refine gL (some 4) rfl rfl Tryz.func40 (by kernel_rfl) rfl #[.string a0] rfl (by (try simp only [mT, mC, mN]); try rfl) ?_; (with_reducible refine (impl_isField.calls k a0 true _ ?side1 A2.out).mono ?_); (case side1 => exact Go.Proofs.YthcccgnhokncdaaGreatDoorW.Envs.Env.below HENV.out (by with_reducible repeat first | exact HB.out | apply pA | apply pN | apply p1)); rintro e w4 ⟨rfl, hb⟩; refine ⟨_, rfl, ?_⟩; replace HB := AM (bS (by with_reducible repeat first | exact HB.out | apply pA | apply pN | apply p1) hb); (try clear hb)))
  (go_ret);exact ⟨rfl, by with_reducible repeat first | exact HB.out | apply pA | apply pN | apply p1⟩
 ·replace c3 := Bool.eq_false_iff.mpr c3
  subst c3;rw [if_neg (show ¬ (false = true) by decide)] at H;by_cases c5 : a0.toList = ([121, 101, 97, 114] : List UInt8)
  ·rw [if_pos c5] at H
   have c5b0 : (a0.toList == ([121, 101, 97, 114] : List UInt8)) = true := beq_iff_eq.mpr c5;have c5b1 : (a0.toList != ([121, 101, 97, 114] : List UInt8)) = false := bne_eq_false_iff_eq.mpr c5;clear c5;obtain rfl := oI H;(go_enter Tryz.func18, Tryz.ntmps18)
   go_wp2_with (first | ((with_reducible refine gC (f := 40) rfl ?_); refine gL (some 4) rfl rfl Tryz.func40 (by kernel_rfl) rfl #[.string a0] rfl (by (try simp only [mT, mC, mN]); try rfl) ?_; (with_reducible refine (impl_isField.calls k a0 false _ ?side1 A2.out).mono ?_); (case side1 => exact Go.Proofs.YthcccgnhokncdaaGreatDoorW.Envs.Env.below HENV.out (by with_reducible repeat first | exact HB.out | apply pA | apply pN | apply p1)); rintro e w6 ⟨rfl, hb⟩; refine ⟨_, rfl, ?_⟩; replace HB := AM (bS (by with_reducible repeat first | exact HB.out | apply pA | apply pN | apply p1) hb); (try clear hb)))
   (go_ret);exact ⟨rfl, by with_reducible repeat first | exact HB.out | apply pA | apply pN | apply p1⟩
  ·rw [if_neg c5] at H
   have c5b0 : (a0.toList == ([121, 101, 97, 114] : List UInt8)) = false := beq_eq_false_iff_ne.mpr c5;have c5b1 : (a0.toList != ([121, 101, 97, 114] : List UInt8)) = true := bne_iff_ne.mpr c5;obtain rfl := oI H;(go_enter Tryz.func18, Tryz.ntmps18)
   go_wp2_with (first | ((with_reducible refine gC (f := 40) rfl ?_); refine gL (some 4) rfl rfl Tryz.func40 (by kernel_rfl) rfl #[.string a0] rfl (by (try simp only [mT, mC, mN]); try rfl) ?_; (with_reducible refine (impl_isField.calls k a0 false _ ?side1 A2.out).mono ?_); (case side1 => exact Go.Proofs.YthcccgnhokncdaaGreatDoorW.Envs.Env.below HENV.out (by with_reducible repeat first | exact HB.out | apply pA | apply pN | apply p1)); rintro e w7 ⟨rfl, hb⟩; refine ⟨_, rfl, ?_⟩; replace HB := AM (bS (by with_reducible repeat first | exact HB.out | apply pA | apply pN | apply p1) hb); (try clear hb)))
   (go_ret);exact ⟨rfl, by with_reducible repeat first | exact HB.out | apply pA | apply pN | apply p1⟩
/-! ### strings_Join: function 65 -/
theorem strings_Join.extra : Builder.Extra Tryz.prog strings_Join.lays156_ren := { sizeBuilder := by kernel_rfl, liesBuilder := by kernel_rfl, t5 := by kernel_rfl, a5 := fun w => by kernel_rfl, z5 := fun w => by kernel_rfl, v5 := fun w => by kernel_rfl, infoByte := by kernel_rfl, cellsByte := by kernel_rfl, sizeByte := by kernel_rfl, neB5 := by decide }
def strings_Join.f (l0 : List ByteArray) (a1 : ByteArray) : Option (ByteArray) := if (Lib.join (l0.map (·.data.toList)) a1.data.toList).length ≤ 140737488355328 ∧ l0.length ≤ 140737488355328 then some ⟨(Lib.join (l0.map (·.data.toList)) a1.data.toList).toArray⟩ else none
set_option maxHeartbeats 2000000 in
set_option maxRecDepth 100000 in
theorem strings_Join.calls (A0 : Option Addr) (c0 : Nat) (l0 : List ByteArray) (a1 : ByteArray) (r : ByteArray) (w : World) (hr0 : Kd.C Kd.string w A0 l0.length l0) (hc0 : l0.length ≤ c0) (h : strings_Join.f l0 a1 = some r) :
    Calls Tryz.prog 65 #[.slice A0 l0.length c0, .string a1] w fun e w' => e = .returned (.string r) ∧ Below w.heap.size w w' := by
  unfold strings_Join.f at h;by_cases hb : (Lib.join (l0.map (·.data.toList)) a1.data.toList).length ≤ 140737488355328 ∧ l0.length ≤ 140737488355328
  · rw [if_pos hb] at h
    obtain rfl := oI h
    cases l0 with
    | nil =>
      exact (Any.strings_Join_none strings_Join.lays156 strings_Join.extra A0 c0 a1 w).mono fun e w' ⟨he, hw⟩ => ⟨he, hw ▸ Below.refl _ _⟩
    | cons x0 xs0 =>
      obtain ⟨ad, e0, hx0⟩ := Kd.at_string hr0 0 (by omega) (by simp);subst e0
      have hcell : ∀ (j : Nat) x, (x0 :: xs0)[j]? = some x → w.cell? (ad.add j) = some (.string x) := fun j x hj => by
        have hlt : j < (x0 :: xs0).length := (List.getElem?_eq_some_iff.1 hj).1;obtain ⟨ad2, e2, hx2⟩ := Kd.at_string hr0 (j : Int) (by omega) (by exact_mod_cast hlt);cases e2;rw [Int.toNat_natCast] at hx2;rw [hx2]
        have : rdOf ByteArray.empty (x0 :: xs0) (j : Int) = x := by
          unfold rdOf;rw [Int.toNat_natCast];simp [List.getD, hj]
        rw [this]
      obtain ⟨bk, o, el⟩ := ad;have hblk := World.block_lt_of_cell? w _ hx0
      cases el with
      | none =>
        exact Any.strings_Join strings_Join.lays156 strings_Join.extra bk o c0 (x0 :: xs0) a1 w (fun j x hj => by have h := hcell j x hj; have ea : (⟨bk, o, none⟩ : Addr).add j = ⟨bk, o + j, none⟩ := (by unfold Addr.add; by_cases c : j = 0; (subst c; rfl); rw [if_neg c]); rw [ea] at h; exact h) hblk hb.2 hc0 hb.1
      | some z => exact absurd (World.cell?_spot hx0) (by simp [Addr.add])
  · rw [if_neg hb] at h
    exact absurd h (by simp)
/-! ### impl_spaced_1: function 92 -/
def impl_spaced_1.f (a0 : ByteArray) : Option (Bool) := some (a0.toList == ([] : List UInt8))
set_option maxHeartbeats 8000000 in
set_option maxRecDepth 100000 in
theorem impl_spaced_1.calls (a0 : ByteArray) (r : Bool) (w : World) (h : impl_spaced_1.f a0 = some r) :
    Calls Tryz.prog 92 #[.string a0] w fun e w' => e = .returned (.bool r) ∧ Drawn0 w w' := by
  have H : (some (a0.toList == ([] : List UInt8))) = some r := h;clear h;obtain rfl := oI H;(go_enter Tryz.func92, Tryz.ntmps92);(go_wp2);(go_ret);exact ⟨by first | rfl | (simp; done) | (simp [*]; done), by repeat (first | exact Drawn0.refl _ | apply Drawn0.step)⟩
/-! ### impl_spaced: function 67 -/
def impl_spaced.emp (x : ByteArray) : Bool := x.toList == ([] : List UInt8)
/-- The list without its empty texts, in place. -/
theorem impl_spaced.del (l : List ByteArray) (hne : l ≠ []) (hl : l.length ≤ 9223372036854775807) (v : Value) (base : Nat) (ok : Nat → Prop) (W : World) (h : Kd.R Kd.string 9 W base ok v l) :
    Calls Tryz.prog 91 #[v, .func (.func 92) #[] #[]] W fun e w' => ∃ A c, e = .returned (.slice A (l.filter fun x => !impl_spaced.emp x).length c) ∧ (l.filter fun x => !impl_spaced.emp x).length ≤ c ∧ Kd.C Kd.string w' A (l.filter fun x => !impl_spaced.emp x).length (l.filter fun x => !impl_spaced.emp x) ∧ (∀ w0 : World, base = w0.heap.size → Below w0.heap.size w0 W → Below w0.heap.size w0 w') ∧ Kept W w' ok := by
  have ho := Kd.own_of_R h;obtain ⟨A, c, rfl⟩ := Kd.R_slice h;have hpos : 0 < l.length := List.length_pos_iff.2 hne
  rcases ho.2 with ⟨_, hn⟩ | ⟨g, cap, cur, he, hg, hb, hcap, hmax, _, _⟩
  (·omega);(injection he with e1 e2 e3);subst e1 e3
  have hH : Go.Sort.Holds Value.string W g 0 l.toArray := fun j hj => by
    (have hj' : j < l.length := by simpa using hj);have h2 := Kd.R_cell ByteArray.empty h (j : Int) (by omega) (by omega);rw [Int.toNat_natCast] at h2;rw [Nat.zero_add];refine ⟨?_, h2.2⟩;rw [h2.1];(congr 2);unfold rdOf;rw [Int.toNat_natCast, List.getD_eq_getElem?_getD, List.getElem?_eq_getElem hj', getElem!_pos l.toArray j hj];simp
  have gives : ∀ (x : ByteArray) (W' : World), FnGives Tryz.prog 92 #[] #[.string x] (.bool (impl_spaced.emp x)) W' := fun x W' => by
    show Calls Tryz.prog 92 #[.string x] W' _
    exact (impl_spaced_1.calls x (impl_spaced.emp x) W' rfl).mono fun e w' ⟨he, hd⟩ => ⟨he, by obtain ⟨n, hn⟩ := hd; exact ⟨n, hn⟩⟩
  have eg : ∀ args w, (callFunc 92 args).run Tryz.prog w = .ok (.enter 92 args) w := enters_of Tryz.func92 (by kernel_rfl) rfl
  have con := AnyE.slices_DeleteFunc impl_spaced.layD Value.string (fun _ => rfl) impl_spaced.emp 92 #[] eg ByteArray.empty Tryz.zeroValue9 g 0 c l.toArray W
    (fun W' x _ => gives x W') (fun n os dk x _ => gives x _) hH (by simpa using hl) (by simpa using hcap)
  have hfl : (l.filter fun x => !impl_spaced.emp x).length ≤ l.length := List.length_filter_le _ _;(have el : l.toArray.toList = l := by simp);(have es : l.toArray.size = l.length := by simp);rw [el, es] at con
  obtain ⟨fl, hfd⟩ : ∃ fl, fl = (l.filter fun x => !impl_spaced.emp x) := ⟨_, rfl⟩
  rw [← hfd] at con hfl ⊢;clear hfd;have hok : ok g := h.1 g rfl
  refine con.mono fun e w' ⟨he, q, hw⟩ => ⟨_, _, he, by omega, ?_, ?_, ?_⟩
  · subst hw
    refine Kd.C_of_reads (d := ByteArray.empty) (h1 := fun _ => rfl) ⟨rfl, by omega, fun _ => ⟨_, rfl, fun j hj => ?_⟩⟩;have hc := Go.Sort.cell?_putRow Value.string (Go.Sort.ahead W q) g 0 l.toArray (fl ++ List.replicate (l.length - fl.length) ByteArray.empty).toArray (Go.Sort.holds_ahead Value.string W q g 0 l.toArray hH) (by simp; omega) j (by simp; omega);rw [Nat.zero_add] at hc
    have ea : (⟨g, 0, none⟩ : Addr).add j = ⟨g, j, none⟩ := by
      unfold Addr.add;by_cases c0 : j = 0;(·(subst c0; rfl));(·rw [if_neg c0];simp)
    rw [ea, hc];(congr 2);rw [getElem!_pos _ j (by simp; omega), List.getD_eq_getElem?_getD, List.getElem?_eq_getElem hj];simp [List.getElem_append_left hj]
  (·subst hw;rintro w0 rfl hB;exact Lib.below_putRow hB hg);(·subst hw;refine ⟨by simp [Go.Sort.putRow, Go.Sort.mapBlock, Go.Sort.ahead], fun i hi hn => ?_⟩;(have hne : g ≠ i := fun e => hn (e ▸ hok));simp [Go.Sort.putRow, Go.Sort.mapBlock, Go.Sort.ahead, Array.getElem?_modify, hne])
def impl_spaced.f (l0 : List ByteArray) : Option (ByteArray) := if l0 ≠ [] ∧ l0.length ≤ 8796093022208 then strings_Join.f (l0.filter fun x => !impl_spaced.emp x) ⟨#[32]⟩ else none
set_option maxHeartbeats 8000000 in
set_option maxRecDepth 100000 in
theorem impl_spaced.calls (P0_ : Nat → Prop) (u9000_ : Value) (l0 : List ByteArray) (r : ByteArray) (w0 w : World) (hB : Below w0.heap.size w0 w) (ho0 : Kd.R Kd.string 9 w w0.heap.size P0_ u9000_ l0) (h : impl_spaced.f l0 = some r) :
    Calls Tryz.prog 67 #[u9000_] w fun e w' => e = .returned (.string r) ∧ Below w0.heap.size w0 w' ∧ Kept w w' (fun k_ => P0_ k_) := by
  unfold impl_spaced.f at h;by_cases hc : l0 ≠ [] ∧ l0.length ≤ 8796093022208
  · rw [if_pos hc] at h
    have hfl : (l0.filter fun x => !impl_spaced.emp x).length ≤ l0.length := List.length_filter_le _ _;have con := impl_spaced.del l0 hc.1 (by omega) u9000_ w0.heap.size P0_ w ho0
    obtain ⟨F, hF⟩ : ∃ F, F = (l0.filter fun x => !impl_spaced.emp x) := ⟨_, rfl⟩
    rw [← hF] at con h hfl;clear hF;have CON := AM con;have HH := AM h;have HB := AM hB;clear con h hB ho0;(go_enter Tryz.func67, Tryz.ntmps67)
    go_wp2_with (first | (go_at_call 91; refine CON.out.mono ?_; rintro e w5 ⟨A5, c5, rfl, hc5, hk5, hb5, hp5⟩; have HC5 := AM hc5; have HK5 := AM hk5; have HB5 := AM hb5; have HP5 := AM hp5; clear hc5 hk5 hb5 hp5) | (go_at_call 65; (with_reducible refine (strings_Join.calls A5 c5 F _ r _ HK5.out HC5.out HH.out).mono ?_); rintro e w6 ⟨rfl, hb6⟩; have HB6 := AM hb6; clear hb6))
    (go_ret);exact ⟨rfl, below_then (HB5.out w0 rfl HB.out) (HB5.out w0 rfl HB.out).size HB6.out, Kept.below HP5.out HB6.out⟩
  · rw [if_neg hc] at h
    exact absurd h (by simp)
/-! ### impl_upperByte: function 109 -/
def impl_upperByte.f (a0 : Int) : Option (Int) := (impl_isLower.f a0).bind fun t348 => (if t348 = true then (some ((a0 - 32) % 256)) else (some a0))
theorem impl_upperByte.calls (a0 : Int) (r : Int) (w : World) (h : impl_upperByte.f a0 = some r) :
  Calls Tryz.prog 109 #[.int .u8 a0] w fun e w' => e = .returned (.int .u8 r) ∧ Drawn0 w w' := by
 have H := h;unfold impl_upperByte.f at H;clear h;replace H := oB.mp H;obtain ⟨t348, A20, H⟩ := H;(try dsimp only at H);have A2 := AM A20;clear A20;by_cases c3 : t348 = true
 ·subst c3
  rw [if_pos rfl] at H;obtain rfl := oI H;(go_enter Tryz.func109, Tryz.ntmps109)
  go_wp2_with (first | ((with_reducible refine gC (f := 56) rfl ?_); refine gL (some 4) rfl rfl Tryz.func56 (by kernel_rfl) rfl #[.int .u8 a0] rfl (by (try simp only [mT, mC, mN]); try rfl) ?_; (with_reducible refine (impl_isLower.calls a0 true _ A2.out).mono ?_); rintro e w' ⟨rfl, ⟨nd, rfl⟩⟩; refine ⟨_, rfl, ?_⟩))
  (go_ret);exact ⟨by first | rfl | (simp; done) | (simp [*]; done), by repeat (first | exact Drawn0.refl _ | apply Drawn0.step)⟩
 ·replace c3 := Bool.eq_false_iff.mpr c3
  subst c3;rw [if_neg (show ¬ (false = true) by decide)] at H;obtain rfl := oI H;(go_enter Tryz.func109, Tryz.ntmps109)
  go_wp2_with (first | ((with_reducible refine gC (f := 56) rfl ?_); refine gL (some 4) rfl rfl Tryz.func56 (by kernel_rfl) rfl #[.int .u8 a0] rfl (by (try simp only [mT, mC, mN]); try rfl) ?_; (with_reducible refine (impl_isLower.calls a0 false _ A2.out).mono ?_); rintro e w' ⟨rfl, ⟨nd, rfl⟩⟩; refine ⟨_, rfl, ?_⟩))
  (go_ret);exact ⟨by first | rfl | (simp; done) | (simp [*]; done), by repeat (first | exact Drawn0.refl _ | apply Drawn0.step)⟩
/-! ### impl_initialsOf: function 86 -/
mutual
def impl_initialsOf.l0 : Nat → List ByteArray → List ByteArray → Int → Int → Option (ByteArray)
 | 0, _, _, _, _ => none
 | k + 1, x3, x10, x11, x12 => if x12 < x11 then (if 0 ≤ x12 then (if x12 < (x10.length : Int) then (if 0 ≤ 1 then (if 1 ≤ ((rdOf ByteArray.empty x10 x12).size : Int) then (if ((rdOf ByteArray.empty x10 x12).extract 0 1).size + 1 ≤ 9223372036854775807 then (impl_initialsOf.l1 k x3 (rdOf ByteArray.empty x10 x12) (((rdOf ByteArray.empty x10 x12).extract 0 1) ++ (⟨#[46]⟩ : ByteArray)) 1 x10 x11 x12) else (none)) else (none)) else (none)) else (none)) else (none)) else ((strings_Join.f x3 (⟨#[32]⟩ : ByteArray)).bind fun t353 => (some t353))
def impl_initialsOf.l1 : Nat → List ByteArray → ByteArray → ByteArray → Int → List ByteArray → Int → Int → Option (ByteArray)
 | 0, _, _, _, _, _, _, _ => none
 | k + 1, x3, x5, x6, x7, x10, x11, x12 => if x7 < (x5.size : Int) then (if 0 ≤ x7 then (if (bt x5 x7) = 45 then (if 0 ≤ (wrap64 (x7 + 1)) then (if (wrap64 (x7 + 1)) < (x5.size : Int) then ((impl_upperByte.f (bt x5 (wrap64 (x7 + 1)))).bind fun t355 => (if 1 + (Utf8.encode (wrap32 (t355))).size ≤ 9223372036854775807 then (if ((⟨#[45]⟩ : ByteArray) ++ (Utf8.encode (wrap32 (t355)))).size + 1 ≤ 9223372036854775807 then (if x6.size + (((⟨#[45]⟩ : ByteArray) ++ (Utf8.encode (wrap32 (t355)))) ++ (⟨#[46]⟩ : ByteArray)).size ≤ 9223372036854775807 then (impl_initialsOf.l1 k x3 x5 (x6 ++ (((⟨#[45]⟩ : ByteArray) ++ (Utf8.encode (wrap32 (t355)))) ++ (⟨#[46]⟩ : ByteArray))) (wrap64 (x7 + 1)) x10 x11 x12) else (none)) else (none)) else (none))) else (none)) else (none)) else (impl_initialsOf.l1 k x3 x5 x6 (wrap64 (x7 + 1)) x10 x11 x12)) else (none)) else (if x3.length < 8796093022208 then (impl_initialsOf.l0 k (x3 ++ [x6]) x10 x11 (wrap64 (x12 + 1))) else (none))
end
def impl_initialsOf.f (k : Nat) (l0_0 : List ByteArray) (a0_1 : ByteArray) (a0_2 : ByteArray) (a0_3 : ByteArray) : Option (ByteArray) := impl_initialsOf.l0 k (([] : List ByteArray)) l0_0 (l0_0.length : Int) 0
theorem impl_initialsOf.mono_l : ∀ k, (∀ y0 y1 y2 y3, LeO (impl_initialsOf.l0 k y0 y1 y2 y3) (impl_initialsOf.l0 (k + 1) y0 y1 y2 y3)) ∧ (∀ y0 y1 y2 y3 y4 y5 y6, LeO (impl_initialsOf.l1 k y0 y1 y2 y3 y4 y5 y6) (impl_initialsOf.l1 (k + 1) y0 y1 y2 y3 y4 y5 y6))
 | 0 => ⟨fun _ _ _ _ r h => by simp [impl_initialsOf.l0] at h, fun _ _ _ _ _ _ _ r h => by simp [impl_initialsOf.l1] at h⟩
 | k + 1 => by
  obtain ⟨ih0, ih1⟩ := impl_initialsOf.mono_l k;refine ⟨?_, ?_⟩
  ·intro y0 y1 y2 y3
   unfold impl_initialsOf.l0
   repeat' with_reducible first
   | exact ih0 _ _ _ _
   | exact ih1 _ _ _ _ _ _ _
   | exact LeO.refl _
   | exact LeO.none _
   | refine LeO.ite ?_ ?_
   | refine LeO.bind ?_ (fun _ => ?_)
  ·intro y0 y1 y2 y3 y4 y5 y6
   unfold impl_initialsOf.l1
   repeat' with_reducible first
   | exact ih0 _ _ _ _
   | exact ih1 _ _ _ _ _ _ _
   | exact LeO.refl _
   | exact LeO.none _
   | refine LeO.ite ?_ ?_
   | refine LeO.bind ?_ (fun _ => ?_)
theorem impl_initialsOf.mono : ∀ a0 a1 a2 a3 k, LeO (impl_initialsOf.f k a0 a1 a2 a3) (impl_initialsOf.f (k + 1) a0 a1 a2 a3) := by
 intro a0 a1 a2 a3 k;obtain ⟨ih0, ih1⟩ := impl_initialsOf.mono_l k;unfold impl_initialsOf.f
 repeat' with_reducible first
   | exact ih0 _ _ _ _
   | exact ih1 _ _ _ _ _ _ _
   | exact LeO.refl _
   | exact LeO.none _
   | refine LeO.ite ?_ ?_
   | refine LeO.bind ?_ (fun _ => ?_)
theorem impl_initialsOf.calls (k : Nat) (A0_0 : Option Addr) (c0_0 : Nat) (l0_0 : List ByteArray) (a0_1 : ByteArray) (a0_2 : ByteArray) (a0_3 : ByteArray) (r : ByteArray) (w : World) (hr0_0 : Kd.C Kd.string w A0_0 l0_0.length l0_0) (hc0_0 : l0_0.length ≤ c0_0) (h : impl_initialsOf.f k l0_0 a0_1 a0_2 a0_3 = some r) :
  Calls Tryz.prog 86 #[.agg #[.slice A0_0 l0_0.length c0_0, .string a0_1, .string a0_2, .string a0_3]] w fun e w' => e = .returned (.string r) ∧ Below w.heap.size w w' := by
 have hu61 := Tryz.underlying61;have HR0_0 := AM hr0_0;have HC0_0 := AM hc0_0;clear hr0_0 hc0_0;have HB := AM (Below.refl w.heap.size w);have H := h;unfold impl_initialsOf.f at H;clear h
 obtain ⟨y350, hy350⟩ : ∃ y_ : List ByteArray, y_ = (([] : List ByteArray)) := ⟨_, rfl⟩
 (replace H : (impl_initialsOf.l0 k y350 l0_0 (l0_0.length : Int) 0) = some r := by first | (rw [hy350]; with_reducible exact H) | (have H2_ := (Option.bind_some _ _).symm.trans H; rw [hy350]; with_reducible exact H2_) | (have H2_ := (Option.bind_some _ _).symm.trans H; with_reducible exact H2_) | with_reducible exact H | (rw [hy350]; exact H) | exact H);have Ny350 := AM hy350;clear hy350;have H' := AM H;clear H;(go_enter Tryz.func86, Tryz.ntmps86)
 go_wp2_with (first | ((with_reducible refine gate_dst (N := 1) rfl ?_); refine box_event ?hg (N := 1) ?hd (cs := #[.slice A0_0 l0_0.length c0_0, .string a0_1, .string a0_2, .string a0_3]) (t := 61) ?hr ?_; (case hd => rfl); (case hg => rfl); (case hr => first | (go_simp; done) | (go_simp; rfl)); intro gb349 hg w2 hbox hb; have BK349 := AM (hbox); have GW349 := AM ((by rw [hg]; exact (bZ (by with_reducible repeat first | exact HB.out | apply pA | apply pN | apply p1)) : w.heap.size ≤ gb349)); have GE349 := AM ((by rw [hg]; exact (bZ (by with_reducible repeat first | exact HB.out | apply pA | apply pN | apply p1)) : w.heap.size ≤ gb349)); replace HB := AM (bS (by with_reducible repeat first | exact HB.out | apply pA | apply pN | apply p1) hb); clear hb hbox hg) | ((with_reducible refine gate_dst (N := 8) rfl ?_); refine Kd.R_lit Kd.string _ 9 ?hg (N := 8) ?hd (xs := ([] : List ByteArray)) (inner := []) (ok := fun _ => True) (okp := fun _ => True) ?hr ?hp (fun _ hk => hk) trivial (Below.refl _ _) (Nat.le_refl _) (by simp) ?_; (case hd => rfl); (case hg => rfl); (case hr => first | (go_simp; done) | (go_simp; rfl)); (case hp => exact (Reps.none _ _)); intro v351 w3 ho4 hb hg_ hnew_; clear hg_ hnew_; (first | rw [← Ny350.out] at ho4 | (simp only [Int.reduceToNat] at ho4; rw [← Ny350.out] at ho4)); have HO352 := AM (Kd.R_lower ho4 (bZ (by with_reducible repeat first | exact HB.out | apply pA | apply pN | apply p1 | refine pS ?_ GE349.out))); replace BK349 := AM (blk_below (by (with_reducible repeat first | apply bN | apply bW | apply bL); exact BK349.out) hb); replace HB := AM (bS (by with_reducible repeat first | exact HB.out | apply pA | apply pN | apply p1 | refine pS ?_ GE349.out) hb); clear hb ho4; obtain ⟨z5_0, z5_1, z5_2, z5_3⟩ := cells4 BK349.out))
 go_loopg [3, 12] k (fun kq v3 v12 w' => ∃ (x3_1 : List ByteArray) (x12_1 : Int), v12 = .int .i64 x12_1 ∧ Aside0 (impl_initialsOf.l0 kq x3_1 l0_0 (l0_0.length : Int) x12_1 = some r) ∧ Aside0 (kq ≤ k) ∧ Aside0 (Kd.R Kd.string 9 w' w.heap.size (fun _ => True) v3 x3_1) ∧ Aside0 (w'.heap[gb349]? = some (.cells #[(.slice A0_0 l0_0.length c0_0), .string a0_1, .string a0_2, .string a0_3] 61 (0, 0))) ∧ Aside0 (Below w.heap.size w w'))
 case atStart => exact ⟨(y350), (0), (by first | rfl | (simp; done) | (simp [*]; done)), H', ⟨Nat.le_refl _⟩, ⟨by (with_reducible repeat (first | apply Kd.R_alloc | apply Kd.R_drewN | apply Kd.R_drew)); exact HO352.out⟩, ⟨by (with_reducible repeat (first | refine bN ?_ _ | refine bW ?_ | refine bL ?_ _)); exact BK349.out⟩, ⟨by with_reducible repeat first | exact HB.out | apply pA | apply pN | apply p1 | refine pS ?_ GE349.out⟩⟩
 case round =>
  clear H';(try clear p2);(try clear z5_0);(try clear z5_1);(try clear z5_2);(try clear z5_3);obtain ⟨x3_1, x12_1, rfl, HA, HK1, HO_3, BK349, HB⟩ := hrel
  cases gk with
  | zero => exact absurd HA.out (by simp [impl_initialsOf.l0])
  | succ k1 =>
   have H := HA.out;clear HA;simp only [impl_initialsOf.l0] at H;by_cases c6 : x12_1 < (l0_0.length : Int)
   ·rw [if_pos c6] at H
    have c6b0 : decide (x12_1 < (l0_0.length : Int)) = true := dT c6;clear c6;by_cases c7 : 0 ≤ x12_1
    ·rw [if_pos c7] at H
     have c7b0 : decide (0 ≤ x12_1) = true := dT c7;clear c7;by_cases c8 : x12_1 < (l0_0.length : Int)
     ·rw [if_pos c8] at H
      have c8b0 : decide (x12_1 < (l0_0.length : Int)) = true := dT c8;clear c8;by_cases c9 : 0 ≤ 1
      ·rw [if_pos c9] at H
       have c9b0 := eq_true c9;have c9b1 : decide (0 ≤ 1) = true := dT c9;clear c9;by_cases c10 : 1 ≤ ((rdOf ByteArray.empty l0_0 x12_1).size : Int)
       ·rw [if_pos c10] at H
        have c10b0 := eq_true c10;have c10b1 : decide (1 ≤ ((rdOf ByteArray.empty l0_0 x12_1).size : Int)) = true := dT c10;clear c10;by_cases c11 : ((rdOf ByteArray.empty l0_0 x12_1).extract 0 1).size + 1 ≤ 9223372036854775807
        ·rw [if_pos c11] at H
         have c11b0 := eq_true c11;have c11b1 : decide (((rdOf ByteArray.empty l0_0 x12_1).extract 0 1).size + 1 ≤ 9223372036854775807) = true := dT c11;(try have c11b2 : (9223372036854775807 < ((rdOf ByteArray.empty l0_0 x12_1).extract 0 1).size + 1) = False := eq_false (Nat.not_lt.2 c11));(try have c11b3 : (9223372036854775807 < 1 + 1) = False := eq_false (by have h_ := c11; simp only [ByteArray.size_append, ByteArray.size_extract] at h_; (try have q0_ := of_eq_true c6b0); (try have q1_ := of_eq_true c7b0); (try have q2_ := of_eq_true c8b0); (try have q3_ := of_eq_true c9b0); (try have q5_ := of_eq_true c10b0); omega));have H' := AM H;clear H;have p354 : 0 ≤ (x12_1 : Int) := oD (by assumption);have q354 : x12_1 < (l0_0.length : Int) := oD (by assumption);obtain ⟨ad354, e354, hx354_0⟩ := Kd.at_string HR0_0.out x12_1 p354 q354;cases e354;replace hx354_0 := (HB.out.cell (World.block_lt_of_cell? w _ hx354_0)).trans hx354_0;replace p354 := eq_true p354;replace q354 := eq_true q354;(go_wp2);(go_loopg [6, 7] k1 (fun kq v6 v7 w' => ∃ (x6_2 : ByteArray) (x7_2 : Int), v6 = .string x6_2 ∧ v7 = .int .i64 x7_2 ∧ Aside0 (impl_initialsOf.l1 kq x3_1 (rdOf ByteArray.empty l0_0 x12_1) x6_2 x7_2 l0_0 (l0_0.length : Int) x12_1 = some r) ∧ Aside0 (kq ≤ k1) ∧ Aside0 (Kd.R Kd.string 9 w' w.heap.size (fun _ => True) u3 x3_1) ∧ Aside0 (w'.heap[gb349]? = some (.cells #[(.slice (some ad354) l0_0.length c0_0), .string a0_1, .string a0_2, .string a0_3] 61 (0, 0))) ∧ Aside0 (Below w.heap.size w w')))
         case atStart => exact ⟨(((rdOf ByteArray.empty l0_0 x12_1).extract 0 1) ++ (⟨#[46]⟩ : ByteArray)), (1), (by first | rfl | (simp; done) | (simp [*]; done)), (by first | rfl | (simp; done) | (simp [*]; done)), H', ⟨Nat.le_refl _⟩, ⟨by (with_reducible repeat (first | apply Kd.R_alloc | apply Kd.R_drewN | apply Kd.R_drew)); exact HO_3.out⟩, ⟨by (with_reducible repeat (first | refine bN ?_ _ | refine bW ?_ | refine bL ?_ _)); exact BK349.out⟩, ⟨by with_reducible repeat first | exact HB.out | apply pA | apply pN | apply p1 | refine pS ?_ GE349.out⟩⟩
         case round =>
          clear H';(try clear c1);(try clear q1);(try clear p2);(try clear q2);(try clear p3);(try clear q3);(try clear hx3);(try clear q5);(try clear c6);(try clear c6b0);(try clear c7);(try clear c7b0);(try clear c8);(try clear c8b0);(try clear c9);(try clear c9b0);(try clear c9b1);(try clear c10);(try clear c10b0);(try clear c10b1);(try clear c11);(try clear c11b0);(try clear c11b1);(try clear c11b2);(try clear z5_0);(try clear z5_1);(try clear z5_2);(try clear z5_3);(try clear hx354_0);(try clear p2);(try clear p354);(try clear q354);obtain ⟨x6_2, x7_2, rfl, rfl, HA, HK2, HO_3, BK349, HB⟩ := hrel
          cases gk with
          | zero => exact absurd HA.out (by simp [impl_initialsOf.l1])
          | succ k2 =>
           have H := HA.out;clear HA;simp only [impl_initialsOf.l1] at H;by_cases c12 : x7_2 < ((rdOf ByteArray.empty l0_0 x12_1).size : Int)
           ·rw [if_pos c12] at H
            have c12b0 : decide (x7_2 < ((rdOf ByteArray.empty l0_0 x12_1).size : Int)) = true := dT c12;clear c12;by_cases c13 : 0 ≤ x7_2
            ·rw [if_pos c13] at H
             have c13b0 : decide (0 ≤ x7_2) = true := dT c13;clear c13;by_cases c15 : (bt (rdOf ByteArray.empty l0_0 x12_1) x7_2) = 45
             ·rw [if_pos c15] at H
              have c15b0 : ((bt (rdOf ByteArray.empty l0_0 x12_1) x7_2) == 45) = true := beq_iff_eq.mpr c15;have c15b1 : ((bt (rdOf ByteArray.empty l0_0 x12_1) x7_2) != 45) = false := bne_eq_false_iff_eq.mpr c15;clear c15
              obtain ⟨ji16, hji16⟩ : ∃ j_ : Int, (wrap64 (x7_2 + 1)) = j_ := ⟨_, rfl⟩
              replace H : (if 0 ≤ (ji16) then (if (ji16) < ((rdOf ByteArray.empty l0_0 x12_1).size : Int) then ((impl_upperByte.f (bt (rdOf ByteArray.empty l0_0 x12_1) (ji16))).bind fun t355 => (if 1 + (Utf8.encode (wrap32 (t355))).size ≤ 9223372036854775807 then (if ((⟨#[45]⟩ : ByteArray) ++ (Utf8.encode (wrap32 (t355)))).size + 1 ≤ 9223372036854775807 then (if x6_2.size + (((⟨#[45]⟩ : ByteArray) ++ (Utf8.encode (wrap32 (t355)))) ++ (⟨#[46]⟩ : ByteArray)).size ≤ 9223372036854775807 then (impl_initialsOf.l1 k2 x3_1 (rdOf ByteArray.empty l0_0 x12_1) (x6_2 ++ (((⟨#[45]⟩ : ByteArray) ++ (Utf8.encode (wrap32 (t355)))) ++ (⟨#[46]⟩ : ByteArray))) ji16 l0_0 (l0_0.length : Int) x12_1) else (none)) else (none)) else (none))) else (none)) else (none)) = some r := by first | (rw [hji16] at H; exact H) | (simp only [hji16] at H ⊢; exact H)
              have hji16w : (IntKind.i64.wrap (x7_2 + 1)) = ji16 := (i64_w _).trans hji16;by_cases c17 : 0 ≤ (ji16)
              ·rw [if_pos c17] at H
               have c17b0 : decide (0 ≤ (ji16)) = true := dT c17;clear c17;by_cases c18 : (ji16) < ((rdOf ByteArray.empty l0_0 x12_1).size : Int)
               ·rw [if_pos c18] at H
                have c18b0 : decide ((ji16) < ((rdOf ByteArray.empty l0_0 x12_1).size : Int)) = true := dT c18;clear c18;replace H := oB.mp H;obtain ⟨t355, A200, H⟩ := H;(try dsimp only at H);have A20 := AM A200;clear A200;by_cases c21 : 1 + (Utf8.encode (wrap32 (t355))).size ≤ 9223372036854775807
                ·rw [if_pos c21] at H
                 have c21b0 := eq_true c21;have c21b1 : decide (1 + (Utf8.encode (wrap32 (t355))).size ≤ 9223372036854775807) = true := dT c21;(try have c21b2 : (9223372036854775807 < 1 + (Utf8.encode (wrap32 (t355))).size) = False := eq_false (Nat.not_lt.2 c21));by_cases c22 : ((⟨#[45]⟩ : ByteArray) ++ (Utf8.encode (wrap32 (t355)))).size + 1 ≤ 9223372036854775807
                 ·rw [if_pos c22] at H
                  have c22b0 := eq_true c22;have c22b1 : decide (((⟨#[45]⟩ : ByteArray) ++ (Utf8.encode (wrap32 (t355)))).size + 1 ≤ 9223372036854775807) = true := dT c22;(try have c22b2 : (9223372036854775807 < ((⟨#[45]⟩ : ByteArray) ++ (Utf8.encode (wrap32 (t355)))).size + 1) = False := eq_false (Nat.not_lt.2 c22));(try have c22b3 : (9223372036854775807 < 1 + ((Utf8.encode (wrap32 (t355))).size) + 1) = False := eq_false (by have h_ := c22; simp only [ByteArray.size_append, ByteArray.size_extract] at h_; (try simp only [show (⟨#[45]⟩ : ByteArray).size = 1 from rfl] at h_); (try have q0_ := of_eq_true c6b0); (try have q1_ := of_eq_true c7b0); (try have q2_ := of_eq_true c8b0); (try have q3_ := of_eq_true c9b0); (try have q5_ := of_eq_true c10b0); (try have q7_ := of_eq_true c11b0); (try have q10_ := of_eq_true c12b0); (try have q11_ := of_eq_true c13b0); (try have q12_ := of_eq_true c15b0); (try have q14_ := of_eq_true c17b0); (try have q15_ := of_eq_true c18b0); (try have q16_ := of_eq_true c21b0); omega));by_cases c23 : x6_2.size + (((⟨#[45]⟩ : ByteArray) ++ (Utf8.encode (wrap32 (t355)))) ++ (⟨#[46]⟩ : ByteArray)).size ≤ 9223372036854775807
                  ·rw [if_pos c23] at H
                   have c23b0 := eq_true c23;have c23b1 : decide (x6_2.size + (((⟨#[45]⟩ : ByteArray) ++ (Utf8.encode (wrap32 (t355)))) ++ (⟨#[46]⟩ : ByteArray)).size ≤ 9223372036854775807) = true := dT c23;(try have c23b2 : (9223372036854775807 < x6_2.size + (((⟨#[45]⟩ : ByteArray) ++ (Utf8.encode (wrap32 (t355)))) ++ (⟨#[46]⟩ : ByteArray)).size) = False := eq_false (Nat.not_lt.2 c23));(try have c23b3 : (9223372036854775807 < x6_2.size + (1 + ((Utf8.encode (wrap32 (t355))).size) + 1)) = False := eq_false (by have h_ := c23; simp only [ByteArray.size_append, ByteArray.size_extract] at h_; (try simp only [show (⟨#[45]⟩ : ByteArray).size = 1 from rfl] at h_); (try simp only [show (⟨#[46]⟩ : ByteArray).size = 1 from rfl] at h_); (try have q0_ := of_eq_true c6b0); (try have q1_ := of_eq_true c7b0); (try have q2_ := of_eq_true c8b0); (try have q3_ := of_eq_true c9b0); (try have q5_ := of_eq_true c10b0); (try have q7_ := of_eq_true c11b0); (try have q10_ := of_eq_true c12b0); (try have q11_ := of_eq_true c13b0); (try have q12_ := of_eq_true c15b0); (try have q14_ := of_eq_true c17b0); (try have q15_ := of_eq_true c18b0); (try have q16_ := of_eq_true c21b0); (try have q19_ := of_eq_true c22b0); omega));have H' := AM H;clear H;have p14 : 0 ≤ (x7_2 : Int) := oD (by assumption);have q14 : x7_2 < ((rdOf ByteArray.empty l0_0 x12_1).size : Int) := oD (by assumption);have hx14 := bt_at (rdOf ByteArray.empty l0_0 x12_1) x7_2;replace p14 := eq_true p14;replace q14 := eq_true q14;have p19 : 0 ≤ ((ji16) : Int) := oD (by assumption);have q19 : (ji16) < ((rdOf ByteArray.empty l0_0 x12_1).size : Int) := oD (by assumption);have hx19 := bt_at (rdOf ByteArray.empty l0_0 x12_1) (ji16);replace p19 := eq_true p19;replace q19 := eq_true q19
                   go_wp2_with (first | ((with_reducible refine gC (f := 109) rfl ?_); refine gL (some 34) rfl rfl Tryz.func109 (by kernel_rfl) rfl #[.int .u8 (bt (rdOf ByteArray.empty l0_0 x12_1) (ji16))] rfl (by (try simp only [mT, mC, mN]); first | done | (simp only [hji16]; rfl) | rfl | (simp only [List.length_drop, List.length_take]; rfl)) ?_; (with_reducible refine (impl_upperByte.calls (bt (rdOf ByteArray.empty l0_0 x12_1) (ji16)) t355 _ A20.out).mono ?_); rintro e w' ⟨rfl, ⟨nd, rfl⟩⟩; refine ⟨_, rfl, ?_⟩))
                   go_roundg k2
                   case measure => have := HK1.out; have := HK2.out; omega
                   case rel => exact ⟨(x6_2 ++ (((⟨#[45]⟩ : ByteArray) ++ (Utf8.encode (wrap32 (t355)))) ++ (⟨#[46]⟩ : ByteArray))), (ji16), (by first | rfl | (simp; done) | (simp [*]; done)), (by first | rfl | (simp; done) | (simp only [← hji16] <;> (first | rfl | simp)) | (simp [*]; done)), H', ⟨by have := HK1.out; have := HK2.out; omega⟩, ⟨by (with_reducible repeat (first | apply Kd.R_alloc | apply Kd.R_drewN | apply Kd.R_drew)); exact HO_3.out⟩, ⟨by (with_reducible repeat (first | refine bN ?_ _ | refine bW ?_ | refine bL ?_ _)); exact BK349.out⟩, ⟨by with_reducible repeat first | exact HB.out | apply pA | apply pN | apply p1 | refine pS ?_ GE349.out⟩⟩
                  ·rw [if_neg c23] at H
                   exact absurd H (by simp)
                 ·rw [if_neg c22] at H
                  exact absurd H (by simp)
                ·rw [if_neg c21] at H
                 exact absurd H (by simp)
               ·rw [if_neg c18] at H
                exact absurd H (by simp)
              ·rw [if_neg c17] at H
               exact absurd H (by simp)
             ·rw [if_neg c15] at H
              have c15b0 : ((bt (rdOf ByteArray.empty l0_0 x12_1) x7_2) == 45) = false := beq_eq_false_iff_ne.mpr c15;have c15b1 : ((bt (rdOf ByteArray.empty l0_0 x12_1) x7_2) != 45) = true := bne_iff_ne.mpr c15;have H' := AM H;clear H;have p14 : 0 ≤ (x7_2 : Int) := oD (by assumption);have q14 : x7_2 < ((rdOf ByteArray.empty l0_0 x12_1).size : Int) := oD (by assumption);have hx14 := bt_at (rdOf ByteArray.empty l0_0 x12_1) x7_2;replace p14 := eq_true p14;replace q14 := eq_true q14;(go_wp2);(go_roundg k2)
              case measure => have := HK1.out; have := HK2.out; omega
              case rel => exact ⟨(x6_2), (wrap64 (x7_2 + 1)), (by first | rfl | (simp; done) | (simp [*]; done)), (by first | rfl | (simp; done) | (simp [*]; done)), H', ⟨by have := HK1.out; have := HK2.out; omega⟩, ⟨by (with_reducible repeat (first | apply Kd.R_alloc | apply Kd.R_drewN | apply Kd.R_drew)); exact HO_3.out⟩, ⟨by (with_reducible repeat (first | refine bN ?_ _ | refine bW ?_ | refine bL ?_ _)); exact BK349.out⟩, ⟨by with_reducible repeat first | exact HB.out | apply pA | apply pN | apply p1 | refine pS ?_ GE349.out⟩⟩
            ·rw [if_neg c13] at H
             exact absurd H (by simp)
           ·rw [if_neg c12] at H
            have c12b0 : decide (x7_2 < ((rdOf ByteArray.empty l0_0 x12_1).size : Int)) = false := dF c12;clear c12;by_cases c24 : x3_1.length < 8796093022208
            ·rw [if_pos c24] at H
             have LMc24 := AM c24;clear c24
             obtain ⟨y356, hy356⟩ : ∃ y_ : List ByteArray, y_ = (x3_1 ++ [x6_2]) := ⟨_, rfl⟩
             (replace H : (impl_initialsOf.l0 k2 y356 l0_0 (l0_0.length : Int) (wrap64 (x12_1 + 1))) = some r := by first | (rw [hy356]; with_reducible exact H) | (have H2_ := (Option.bind_some _ _).symm.trans H; rw [hy356]; with_reducible exact H2_) | (have H2_ := (Option.bind_some _ _).symm.trans H; with_reducible exact H2_) | with_reducible exact H | (rw [hy356]; exact H) | exact H);have Ny356 := AM hy356;clear hy356;have H' := AM H;clear H
             go_wp2_with (first | ((with_reducible refine gate_builtin (b := .append) (xs := #[.tmp 40, .tmp 42]) rfl ?_); at_builtin; refine Kd.R_append Kd.string (w0 := w) w.heap.size rfl (.tmp 40) (.tmp 42) 51 9 (.string ⟨#[]⟩) 16 rfl Tryz.underlying51 info9 rfl (by decide) (by omega) u3 x3_1 x6_2 [.string x6_2] (fun _ => True) (fun _ => False) rfl rfl ?aP (fun _ hk => hk.elim) ?aF ?aO ?aB ?aS ?aL ?_; (case aP => exact rfl); (case aB => exact (by with_reducible repeat first | exact HB.out | apply pA | apply pN | apply p1 | refine pS ?_ GE349.out)); (case aF => exact (fun _ _ => trivial)); (case aO => exact (by (with_reducible repeat (first | apply Kd.R_alloc | apply Kd.R_drewN | apply Kd.R_drew)); exact HO_3.out)); (case aS => exact (bZ (by with_reducible repeat first | exact HB.out | apply pA | apply pN | apply p1 | refine pS ?_ GE349.out))); (case aL => have := LMc24.out; omega); intro v357 w25 ho hb hg hat; rw [← Ny356.out] at ho; replace BK349 := AM (blk_grown (g := gb349) (o := .cells #[.slice (some ad354) l0_0.length c0_0, .string a0_1, .string a0_2, .string a0_3] 61 (0, 0)) (by (with_reducible repeat first | apply bN | apply bW | apply bL); exact BK349.out) hg (Kd.R_ne HO_3.out BK349.out (by decide))); replace HB := AM (hb); have HO358 := AM (ho); clear HO_3; clear ho hb hg hat))
             go_roundg k2
             case measure => have := HK1.out; have := HK2.out; omega
             case rel => exact ⟨(y356), (wrap64 (x12_1 + 1)), (by first | rfl | (simp; done) | (simp [*]; done)), H', ⟨by have := HK1.out; have := HK2.out; omega⟩, ⟨by (with_reducible repeat (first | apply Kd.R_alloc | apply Kd.R_drewN | apply Kd.R_drew)); exact HO358.out⟩, ⟨by (with_reducible repeat (first | refine bN ?_ _ | refine bW ?_ | refine bL ?_ _)); exact BK349.out⟩, ⟨by with_reducible repeat first | exact HB.out | apply pA | apply pN | apply p1 | refine pS ?_ GE349.out⟩⟩
            ·rw [if_neg c24] at H
             exact absurd H (by simp)
        ·rw [if_neg c11] at H
         exact absurd H (by simp)
       ·rw [if_neg c10] at H
        exact absurd H (by simp)
      ·rw [if_neg c9] at H
       exact absurd H (by simp)
     ·rw [if_neg c8] at H
      exact absurd H (by simp)
    ·rw [if_neg c7] at H
     exact absurd H (by simp)
   ·rw [if_neg c6] at H
    have c6b0 : decide (x12_1 < (l0_0.length : Int)) = false := dF c6;clear c6;replace H := oB.mp H;obtain ⟨t353, A260, H⟩ := H;(try dsimp only at H);have A26 := AM A260;clear A260;obtain rfl := oI H;obtain ⟨Ao27, co27, eo27⟩ := Kd.R_slice HO_3.out;subst eo27
    go_wp2_with (first | ((with_reducible refine gC (f := 65) rfl ?_); refine gL (some 46) rfl rfl Tryz.func65 (by kernel_rfl) rfl #[.slice Ao27 x3_1.length co27, .string (⟨#[32]⟩ : ByteArray)] rfl (by (try simp only [mT, mC, mN]); try rfl) ?_; (with_reducible refine (strings_Join.calls _ _ x3_1 (⟨#[32]⟩ : ByteArray) t353 _ ?side1 ?side2 A26.out).mono ?_); (case side1 => repeat first | exact (rR HO_3.out).2.2 | with_reducible first | apply Kd.C_alloc | apply Kd.C_drewN | apply Kd.C_drew); (case side2 => exact (rR HO_3.out).2.1); rintro e w28 ⟨rfl, hb⟩; refine ⟨_, rfl, ?_⟩; replace HO_3 := AM (Kd.R_below (by (with_reducible repeat (first | apply Kd.R_alloc | apply Kd.R_drewN | apply Kd.R_drew)); exact HO_3.out) hb); replace BK349 := AM (blk_below (by (with_reducible repeat first | apply bN | apply bW | apply bL); exact BK349.out) hb); replace HB := AM (bS (by with_reducible repeat first | exact HB.out | apply pA | apply pN | apply p1 | refine pS ?_ GE349.out) hb); (try clear hb)))
    (go_ret);exact ⟨rfl, by with_reducible repeat first | exact HB.out | apply pA | apply pN | apply p1 | refine pS ?_ GE349.out⟩
/-! ### impl_shortForm: function 64 -/
def impl_shortForm.f (k : Nat) (l0_0 : List ByteArray) (a0_1 : ByteArray) (a0_2 : ByteArray) (a0_3 : ByteArray) : Option (ByteArray) := (impl_initialsOf.f k l0_0 a0_1 a0_2 a0_3).bind fun t360 => ((impl_spaced.f (([t360, a0_1, a0_2] : List ByteArray))).bind fun t364 => (some t364))
theorem impl_shortForm.mono : ∀ a0 a1 a2 a3 k, LeO (impl_shortForm.f k a0 a1 a2 a3) (impl_shortForm.f (k + 1) a0 a1 a2 a3) := by
 intro a0 a1 a2 a3 k;unfold impl_shortForm.f
 repeat' with_reducible first
   | exact impl_initialsOf.mono _ _ _ _ _
   | exact LeO.refl _
   | exact LeO.none _
   | refine LeO.ite ?_ ?_
   | refine LeO.bind ?_ (fun _ => ?_)
def impl_shortForm.T1 : Bool × List (List Nat × List Nat) := (true, [([], []), ([0], [0]), ([], []), ([2], [2]), ([], []), ([4], [4]), ([1, 3, 5], [1, 3, 5]), ([6, 1], [6]), ([7, 7, 0, 1, 2, 3, 4, 5, 6, 7], [7])])
def impl_shortForm.B1 : List Nat := [0, 1, 0, 4, 0, 16, 63, 127, 255]
theorem impl_shortForm.tab1 : rtab .any (opsOf Tryz.f64 1) = impl_shortForm.T1 := by kernel_rfl
theorem impl_shortForm.bits1 : waitsOk impl_shortForm.T1.2 impl_shortForm.B1 = true := by kernel_rfl
theorem impl_shortForm.calls (k : Nat) (A0_0 : Option Addr) (c0_0 : Nat) (l0_0 : List ByteArray) (a0_1 : ByteArray) (a0_2 : ByteArray) (a0_3 : ByteArray) (r : ByteArray) (w : World) (hr0_0 : Kd.C Kd.string w A0_0 l0_0.length l0_0) (hc0_0 : l0_0.length ≤ c0_0) (h : impl_shortForm.f k l0_0 a0_1 a0_2 a0_3 = some r) :
  Calls Tryz.prog 64 #[.agg #[.slice A0_0 l0_0.length c0_0, .string a0_1, .string a0_2, .string a0_3]] w fun e w' => e = .returned (.string r) ∧ Below w.heap.size w w' := by
 have hu61 := Tryz.underlying61;have HR0_0 := AM hr0_0;have HC0_0 := AM hc0_0;clear hr0_0 hc0_0;have HB := AM (Below.refl w.heap.size w);have H := h;unfold impl_shortForm.f at H;clear h;replace H := oB.mp H;obtain ⟨t360, A20, H⟩ := H;(try dsimp only at H);have A2 := AM A20;clear A20
 obtain ⟨y361, hy361⟩ : ∃ y_ : List ByteArray, y_ = (([t360, a0_1, a0_2] : List ByteArray)) := ⟨_, rfl⟩
 (replace H : ((impl_spaced.f y361).bind fun t364 => (some t364)) = some r := by first | (rw [hy361]; with_reducible exact H) | (have H2_ := (Option.bind_some _ _).symm.trans H; rw [hy361]; with_reducible exact H2_) | (have H2_ := (Option.bind_some _ _).symm.trans H; with_reducible exact H2_) | with_reducible exact H | (rw [hy361]; exact H) | exact H);have Ny361 := AM hy361;clear hy361;replace H := oB.mp H;obtain ⟨t364, A30, H⟩ := H;(try dsimp only at H);have A3 := AM A30;clear A30;obtain rfl := oI H;(go_enter Tryz.func64, Tryz.ntmps64)
 try go_wp2_with (first | ((with_reducible refine gate_dst (N := 1) rfl ?_); refine box_event ?hg (N := 1) ?hd (cs := #[.slice A0_0 l0_0.length c0_0, .string a0_1, .string a0_2, .string a0_3]) (t := 61) ?hr ?_; (case hd => rfl); (case hg => rfl); (case hr => first | (go_simp; done) | (go_simp; rfl)); intro gb359 hg w4 hbox hb; have BK359 := AM (hbox); have GW359 := AM ((by rw [hg]; exact (bZ (by with_reducible repeat first | exact HB.out | apply pA | apply pN | apply p1)) : w.heap.size ≤ gb359)); have GE359 := AM ((by rw [hg]; exact (bZ (by with_reducible repeat first | exact HB.out | apply pA | apply pN | apply p1)) : w.heap.size ≤ gb359)); replace HB := AM (bS (by with_reducible repeat first | exact HB.out | apply pA | apply pN | apply p1) hb); clear hb hbox hg))
 replace BK359 := AM (bW BK359.out);replace HB := AM (p1 HB.out);(refine start_ (n := 9) (S := fun w' => w'.cell? ⟨gb359, 0, none⟩ = some (.slice A0_0 l0_0.length c0_0) ∧ w'.cell? ⟨gb359, 1, none⟩ = some (.string a0_1) ∧ w'.cell? ⟨gb359, 2, none⟩ = some (.string a0_2) ∧ w'.cell? ⟨gb359, 3, none⟩ = some (.string a0_3)) (ds := []) (bA 9 0) (by kernel_rfl) rfl rfl ⟨(bC BK359.out 0).trans rfl, (bC BK359.out 1).trans rfl, (bC BK359.out 2).trans rfl, (bC BK359.out 3).trans rfl⟩ (fun hHeld => ?_); refine with_tabW impl_shortForm.tab1 impl_shortForm.bits1 (fun HT_ HW_ => ?_));generalize w4.drew = w5 at BK359 HB hHeld ⊢;refine pure_ (i := 2) (N := some 5) (v := ?_) (a' := ?_) (bA 9 4) rfl rfl (any_of HT_.out (by kernel_rfl)) (fun _ _ _ h => h) (Or.inl ⟨by rfl, ?_⟩) ?_ ?_;rotate_left;(·intro w';go_simp;(with_reducible rfl));rotate_left;(·simp only [Act.put, lT, lZ, lS, i64_w, i32_w];rfl);refine pure_ (i := 4) (N := some 7) (v := ?_) (a' := ?_) (bA 9 20) rfl rfl (any_of HT_.out (by kernel_rfl)) (fun _ _ _ h => h) (Or.inl ⟨by rfl, ?_⟩) ?_ ?_;rotate_left;(·intro w';go_simp;(with_reducible rfl));rotate_left;(·simp only [Act.put, lT, lZ, lS, i64_w, i32_w];rfl);refine take_ (i := 0) (N := some 3) (v := ?_) (a' := ?_) (bA 9 21) rfl rfl (take_ofW HT_.out HW_.out (by kernel_rfl)) (fun _ _ _ h => h) (Or.inl ⟨by rfl, ?_⟩) hHeld ?_ ?_;rotate_left;(·rintro w' ⟨s0, s1, s2, s3⟩;go_simp;(with_reducible rfl));rotate_left;(·simp only [Act.put, lT, lZ, lS, i64_w, i32_w];rfl);refine take_ (i := 3) (N := some 6) (v := ?_) (a' := ?_) (bA 9 29) rfl rfl (take_ofW HT_.out HW_.out (by kernel_rfl)) (fun _ _ _ h => h) (Or.inl ⟨by rfl, ?_⟩) hHeld ?_ ?_;rotate_left;(·rintro w' ⟨s0, s1, s2, s3⟩;go_simp;(with_reducible rfl));rotate_left;(·simp only [Act.put, lT, lZ, lS, i64_w, i32_w];rfl);refine take_ (i := 5) (N := some 8) (v := ?_) (a' := ?_) (bA 9 61) rfl rfl (take_ofW HT_.out HW_.out (by kernel_rfl)) (fun _ _ _ h => h) (Or.inl ⟨by rfl, ?_⟩) hHeld ?_ ?_;rotate_left;(·rintro w' ⟨s0, s1, s2, s3⟩;go_simp;(with_reducible rfl));rotate_left;(·simp only [Act.put, lT, lZ, lS, i64_w, i32_w];rfl);refine one_ (i := 1) (N := some 4) (bA 9 63) rfl rfl (one_of HT_.out (by kernel_rfl)) (by decide) (fun K hK => ?_);refine goes_ Tryz.func86 (by kernel_rfl) rfl #[.agg #[.slice A0_0 l0_0.length c0_0, .string a0_1, .string a0_2, .string a0_3]] (by rfl) rfl rfl (by (try simp only [mT, mC, mN]); try rfl) ?_;(with_reducible refine (impl_initialsOf.calls k _ _ l0_0 a0_1 a0_2 a0_3 t360 _ ?side1 ?side2 A2.out).mono ?_);(case side1 => repeat first | exact (Kd.C_below HR0_0.out HB.out) | with_reducible first | apply Kd.C_alloc | apply Kd.C_drewN | apply Kd.C_drew);(case side2 => exact HC0_0.out);rintro e w6 ⟨rfl, hb⟩;refine ⟨_, rfl, ?_⟩;replace BK359 := AM (blk_below (by (with_reducible repeat first | apply bN | apply bW | apply bL); exact BK359.out) hb);replace HB := AM (bS (by with_reducible repeat first | exact HB.out | apply pA | apply pN | apply p1 | refine pS ?_ GE359.out) hb);(try clear hb);refine hK.out _ _ (by and_intros <;> exact (bC BK359.out _).trans rfl) (fun hHeld => ?_);clear hK K;refine norm_ (a' := ?_) ?_ ?_;rotate_left
 ·show Act.put _ (some 4) _ = _
  simp only [Act.put, lT, lZ, lS, i64_w, i32_w];rfl
 refine one_ (i := 6) (N := some 9) (bA 9 127) rfl rfl (one_of HT_.out (by kernel_rfl)) (by decide) (fun K hK => ?_);(refine Kd.R_lit_step Kd.string _ 9 ?hg (N := 9) ?hd (xs := ([t360, a0_1, a0_2] : List ByteArray)) (inner := [.string t360, .string a0_1, .string a0_2]) (ok := fun _ => True) (okp := fun _ => True) ?hr ?hp (fun _ hk => hk) trivial (Below.refl _ _) (Nat.le_refl _) (by simp) ?_; (case hd => rfl); (case hg => rfl); (case hr => first | (go_simp; done) | (go_simp; rfl)); (case hp => exact (Reps.one (show Kd.M Kd.string _ _ _ t360 [.string t360] from rfl) (Reps.one (show Kd.M Kd.string _ _ _ a0_1 [.string a0_1] from rfl) (Reps.one (show Kd.M Kd.string _ _ _ a0_2 [.string a0_2] from rfl) (Reps.none _ _))))));intro v362 w7 ho8 hb hg_ hnew_;clear hg_ hnew_;(first | rw [← Ny361.out] at ho8 | (simp only [Int.reduceToNat] at ho8; rw [← Ny361.out] at ho8));have HO363 := AM (Kd.R_lower ho8 (bZ (by with_reducible repeat first | exact HB.out | apply pA | apply pN | apply p1 | refine pS ?_ GE359.out)));replace BK359 := AM (blk_below (by (with_reducible repeat first | apply bN | apply bW | apply bL); exact BK359.out) hb);replace HB := AM (bS (by with_reducible repeat first | exact HB.out | apply pA | apply pN | apply p1 | refine pS ?_ GE359.out) hb);clear hb ho8;obtain ⟨Ao9, co9, eo9⟩ := Kd.R_slice HO363.out;(first | subst eo9 | (injection eo9 with f1_ f2_ f3_; have f4_ := f1_.symm; have f5_ := f3_.symm; clear f1_ f2_ f3_; subst f4_; subst f5_));refine hK.out _ _ (by and_intros <;> exact (bC BK359.out _).trans rfl) (fun hHeld => ?_);clear hK K;refine norm_ (a' := ?_) ?_ ?_;rotate_left
 ·show Act.put _ (some 9) _ = _
  simp only [Act.put, lT, lZ, lS, i64_w, i32_w];rfl
 refine one_ (i := 7) (N := some 10) (bA 9 255) rfl rfl (one_of HT_.out (by kernel_rfl)) (by decide) (fun K hK => ?_);refine goes_ Tryz.func67 (by kernel_rfl) rfl #[.slice Ao9 y361.length co9] (by rfl) rfl rfl (by (try simp only [mT, mC, mN]); try rfl) ?_;(with_reducible refine (impl_spaced.calls (fun k_ => some k_ = (.slice Ao9 y361.length co9 : Value).ownBlock) (.slice Ao9 y361.length co9) y361 t364 w _ ?side1 ?side2 A3.out).mono ?_);(case side1 => repeat (first | (with_reducible first | exact HB.out | apply pA | apply pN | apply p1 | refine pS ?_ GE359.out)));(case side2 => exact Kd.R_tight rfl HO363.out);rintro e w10 ⟨rfl, hb, hkp⟩;refine ⟨_, rfl, ?_⟩;replace BK359 := AM (blk_kept (by (with_reducible repeat first | apply bN | apply bW | apply bL); exact BK359.out) hkp (fun hs_ => (fun e_ => (Kd.R_ne HO363.out BK359.out (by decide)) e_) hs_));replace HB := AM (hb);clear HO363;(try clear hb);(try clear hkp);refine hK.out _ _ (by and_intros <;> exact (bC BK359.out _).trans rfl) (fun hHeld => ?_);clear hK K;refine norm_ (a' := ?_) ?_ ?_;rotate_left
 ·show Act.put _ (some 10) _ = _
  simp only [Act.put, lT, lZ, lS, i64_w, i32_w];rfl
 refine pure_ (i := 8) (N := some 2) (v := ?_) (a' := ?_) (bA 9 511) rfl rfl (any_of HT_.out (by kernel_rfl)) (fun _ _ _ h => h) (Or.inl ⟨by rfl, ?_⟩) ?_ ?_;rotate_left;(·intro w';go_simp;(with_reducible rfl));rotate_left;(·simp only [Act.put, lT, lZ, lS, i64_w, i32_w];rfl);refine done_ (done_of HT_.out (by kernel_rfl)) ?_;(try go_wp2);(go_ret);exact ⟨rfl, by with_reducible repeat first | exact HB.out | apply pA | apply pN | apply p1 | refine pS ?_ GE359.out⟩
/-! ### impl_joinNames: function 41 -/
def impl_joinNames.l0 : Nat → Int → List ByteArray → List (S61) → Int → Int → Option (ByteArray)
 | 0, _, _, _, _, _ => none
 | k + 1, x1, x5, x10, x11, x12 => if x12 < x11 then (if 0 ≤ x12 then (if x12 < (x10.length : Int) then ((impl_shortForm.f k ((rd_T61 x10 x12).f0) ((rd_T61 x10 x12).f1) ((rd_T61 x10 x12).f2) ((rd_T61 x10 x12).f3)).bind fun t370 => (if x5.length < 8796093022208 then (impl_joinNames.l0 k x1 (x5 ++ [t370]) x10 x11 (wrap64 (x12 + 1))) else (none))) else (none)) else (none)) else (if (x5.length : Int) = 0 then (some (⟨#[]⟩ : ByteArray)) else (if (x5.length : Int) > x1 then (if 0 < (x5.length : Int) then (if (rdOf ByteArray.empty x5 0).size + 7 ≤ 9223372036854775807 then (some ((rdOf ByteArray.empty x5 0) ++ (⟨#[32, 101, 116, 32, 97, 108, 46]⟩ : ByteArray))) else (none)) else (none)) else (if (x5.length : Int) = 1 then (if 0 < (x5.length : Int) then (some (rdOf ByteArray.empty x5 0)) else (none)) else (if 0 ≤ (wrap64 ((x5.length : Int) - 1)) then (if (wrap64 ((x5.length : Int) - 1)) ≤ (x5.length : Int) then ((strings_Join.f (x5.take ((wrap64 ((x5.length : Int) - 1)) : Int).toNat) (⟨#[44, 32]⟩ : ByteArray)).bind fun t380 => (if t380.size + 5 ≤ 9223372036854775807 then (if (wrap64 ((x5.length : Int) - 1)) < (x5.length : Int) then (if (t380 ++ (⟨#[32, 97, 110, 100, 32]⟩ : ByteArray)).size + (rdOf ByteArray.empty x5 (wrap64 ((x5.length : Int) - 1))).size ≤ 9223372036854775807 then (some ((t380 ++ (⟨#[32, 97, 110, 100, 32]⟩ : ByteArray)) ++ (rdOf ByteArray.empty x5 (wrap64 ((x5.length : Int) - 1))))) else (none)) else (none)) else (none))) else (none)) else (none)))))
def impl_joinNames.f (k : Nat) (l0 : List (S61)) (a1 : Int) : Option (ByteArray) := impl_joinNames.l0 k a1 (([] : List ByteArray)) l0 (l0.length : Int) 0
theorem impl_joinNames.mono_l : ∀ k, (∀ y0 y1 y2 y3 y4, LeO (impl_joinNames.l0 k y0 y1 y2 y3 y4) (impl_joinNames.l0 (k + 1) y0 y1 y2 y3 y4))
 | 0 => fun _ _ _ _ _ r h => by simp [impl_joinNames.l0] at h
 | k + 1 => by
  have ih0 := impl_joinNames.mono_l k
  ·intro y0 y1 y2 y3 y4
   unfold impl_joinNames.l0
   repeat' with_reducible first
   | exact ih0 _ _ _ _ _
   | exact impl_shortForm.mono _ _ _ _ _
   | exact LeO.refl _
   | exact LeO.none _
   | refine LeO.ite ?_ ?_
   | refine LeO.bind ?_ (fun _ => ?_)
theorem impl_joinNames.mono : ∀ a0 a1 k, LeO (impl_joinNames.f k a0 a1) (impl_joinNames.f (k + 1) a0 a1) := by
 intro a0 a1 k;have ih0 := impl_joinNames.mono_l k;unfold impl_joinNames.f
 repeat' with_reducible first
   | exact ih0 _ _ _ _ _
   | exact impl_shortForm.mono _ _ _ _ _
   | exact LeO.refl _
   | exact LeO.none _
   | refine LeO.ite ?_ ?_
   | refine LeO.bind ?_ (fun _ => ?_)
def impl_joinNames.T14 : Bool × List (List Nat × List Nat) := (true, [([], []), ([], []), ([0, 1], [0, 1]), ([2], [2]), ([3], [3]), ([], []), ([], []), ([5, 6], [5, 6]), ([7], [7]), ([4, 8], [4, 8]), ([9, 3, 0, 1, 2, 3, 4, 5, 6, 7, 8, 9], [9])])
def impl_joinNames.B14 : List Nat := [0, 0, 3, 7, 15, 0, 0, 96, 224, 511, 1023]
theorem impl_joinNames.tab14 : rtab .any (opsOf Tryz.f41 14) = impl_joinNames.T14 := by kernel_rfl
theorem impl_joinNames.bits14 : waitsOk impl_joinNames.T14.2 impl_joinNames.B14 = true := by kernel_rfl
theorem impl_joinNames.calls (k : Nat) (A0 : Option Addr) (c0 : Nat) (l0 : List (S61)) (a1 : Int) (r : ByteArray) (w : World) (hr0 : Kd.C k61 w A0 l0.length l0) (hc0 : l0.length ≤ c0) (h : impl_joinNames.f k l0 a1 = some r) :
  Calls Tryz.prog 41 #[.slice A0 l0.length c0, .int .i64 a1] w fun e w' => e = .returned (.string r) ∧ Below w.heap.size w w' := by
 have hu61 := Tryz.underlying61;have HR0 := AM hr0;have HC0 := AM hc0;clear hr0 hc0;have HB := AM (Below.refl w.heap.size w);have H := h;unfold impl_joinNames.f at H;clear h
 obtain ⟨y365, hy365⟩ : ∃ y_ : List ByteArray, y_ = (([] : List ByteArray)) := ⟨_, rfl⟩
 (replace H : (impl_joinNames.l0 k a1 y365 l0 (l0.length : Int) 0) = some r := by first | (rw [hy365]; with_reducible exact H) | (have H2_ := (Option.bind_some _ _).symm.trans H; rw [hy365]; with_reducible exact H2_) | (have H2_ := (Option.bind_some _ _).symm.trans H; with_reducible exact H2_) | with_reducible exact H | (rw [hy365]; exact H) | exact H);have Ny365 := AM hy365;clear hy365;have H' := AM H;clear H;(go_enter Tryz.func41, Tryz.ntmps41)
 go_wp2_with (first | ((with_reducible refine gate_dst (N := 9) rfl ?_); refine Kd.R_lit Kd.string _ 9 ?hg (N := 9) ?hd (xs := ([] : List ByteArray)) (inner := []) (ok := fun _ => True) (okp := fun _ => True) ?hr ?hp (fun _ hk => hk) trivial (Below.refl _ _) (Nat.le_refl _) (by simp) ?_; (case hd => rfl); (case hg => rfl); (case hr => first | (go_simp; done) | (go_simp; rfl)); (case hp => exact (Reps.none _ _)); intro v366 w3 ho4 hb hg_ hnew_; clear hg_ hnew_; (first | rw [← Ny365.out] at ho4 | (simp only [Int.reduceToNat] at ho4; rw [← Ny365.out] at ho4)); have HO367 := AM (Kd.R_lower ho4 (bZ (by with_reducible repeat first | exact HB.out | apply pA | apply pN | apply p1))); replace HB := AM (bS (by with_reducible repeat first | exact HB.out | apply pA | apply pN | apply p1) hb); clear hb ho4))
 go_loopg [5, 12] k (fun kq v5 v12 w' => ∃ (x5_1 : List ByteArray) (x12_1 : Int), v12 = .int .i64 x12_1 ∧ Aside0 (impl_joinNames.l0 kq a1 x5_1 l0 (l0.length : Int) x12_1 = some r) ∧ Aside0 (kq ≤ k) ∧ Aside0 (Kd.R Kd.string 9 w' w.heap.size (fun _ => True) v5 x5_1) ∧ Aside0 (Below w.heap.size w w'))
 case atStart => exact ⟨(y365), (0), (by first | rfl | (simp; done) | (simp [*]; done)), H', ⟨Nat.le_refl _⟩, ⟨by (with_reducible repeat (first | apply Kd.R_alloc | apply Kd.R_drewN | apply Kd.R_drew)); exact HO367.out⟩, ⟨by with_reducible repeat first | exact HB.out | apply pA | apply pN | apply p1⟩⟩
 case round =>
  clear H';(try clear p2);(try clear c4);obtain ⟨x5_1, x12_1, rfl, HA, HK1, HO_5, HB⟩ := hrel
  cases gk with
  | zero => exact absurd HA.out (by simp [impl_joinNames.l0])
  | succ k1 =>
   have H := HA.out;clear HA;simp only [impl_joinNames.l0] at H;by_cases c5 : x12_1 < (l0.length : Int)
   ·rw [if_pos c5] at H
    have c5b0 : decide (x12_1 < (l0.length : Int)) = true := dT c5;clear c5;by_cases c6 : 0 ≤ x12_1
    ·rw [if_pos c6] at H
     have c6b0 : decide (0 ≤ x12_1) = true := dT c6;clear c6;by_cases c7 : x12_1 < (l0.length : Int)
     ·rw [if_pos c7] at H
      have c7b0 : decide (x12_1 < (l0.length : Int)) = true := dT c7;clear c7;replace H := oB.mp H;obtain ⟨t370, A80, H⟩ := H;(try dsimp only at H);have A8 := AM A80;clear A80;by_cases c9 : x5_1.length < 8796093022208
      ·rw [if_pos c9] at H
       have LMc9 := AM c9;clear c9
       obtain ⟨y371, hy371⟩ : ∃ y_ : List ByteArray, y_ = (x5_1 ++ [t370]) := ⟨_, rfl⟩
       (replace H : (impl_joinNames.l0 k1 a1 y371 l0 (l0.length : Int) (wrap64 (x12_1 + 1))) = some r := by first | (rw [hy371]; with_reducible exact H) | (have H2_ := (Option.bind_some _ _).symm.trans H; rw [hy371]; with_reducible exact H2_) | (have H2_ := (Option.bind_some _ _).symm.trans H; with_reducible exact H2_) | with_reducible exact H | (rw [hy371]; exact H) | exact H);have Ny371 := AM hy371;clear hy371;have H' := AM H;clear H;have p368 : 0 ≤ (x12_1 : Int) := oD (by assumption);have q368 : x12_1 < (l0.length : Int) := oD (by assumption);obtain ⟨ad368, A368_0, c368_0, e368, hx368_0, hx368_1, hx368_2, hx368_3, hl368_0, hi368_0⟩ := at_T61 HR0.out x12_1 p368 q368;cases e368;replace hx368_0 := (HB.out.cell (World.block_lt_of_cell? w _ hx368_0)).trans hx368_0;replace hx368_1 := (HB.out.cell (World.block_lt_of_cell? w _ hx368_1)).trans hx368_1;replace hx368_2 := (HB.out.cell (World.block_lt_of_cell? w _ hx368_2)).trans hx368_2;replace hx368_3 := (HB.out.cell (World.block_lt_of_cell? w _ hx368_3)).trans hx368_3;have HR368_0 := AM hi368_0;have HC368_0 := AM hl368_0;clear hi368_0 hl368_0;replace p368 := eq_true p368;replace q368 := eq_true q368
       go_wp2_with (first | ((with_reducible refine gate_dst (N := 7) rfl ?_); refine box_event ?hg (N := 7) ?hd (cs := #[.slice none 0 0, .string (⟨#[]⟩ : ByteArray), .string (⟨#[]⟩ : ByteArray), .string (⟨#[]⟩ : ByteArray)]) (t := 61) ?hr ?_; (case hd => rfl); (case hg => rfl); (case hr => first | (go_simp; done) | (go_simp; rfl)); intro gb369 hg w10 hbox hb; replace HO_5 := AM (Kd.R_below (by (with_reducible repeat (first | apply Kd.R_alloc | apply Kd.R_drewN | apply Kd.R_drew)); exact HO_5.out) hb); have BK369 := AM (hbox); have GW369 := AM ((by rw [hg]; exact (bZ (by with_reducible repeat first | exact HB.out | apply pA | apply pN | apply p1)) : w.heap.size ≤ gb369)); have GE369 := AM ((by rw [hg]; exact (bZ (by with_reducible repeat first | exact HB.out | apply pA | apply pN | apply p1)) : w.heap.size ≤ gb369)); replace HB := AM (bS (by with_reducible repeat first | exact HB.out | apply pA | apply pN | apply p1) hb); clear hb hbox hg; obtain ⟨z11_0, z11_1, z11_2, z11_3⟩ := cells4 BK369.out; have Y11_0 := bF BK369.out 0; have Y11_1 := bF BK369.out 1; have Y11_2 := bF BK369.out 2; have Y11_3 := bF BK369.out 3) | ((with_reducible refine gate_callee (f := 64) rfl ?_); refine goesL_ (some 18) rfl rfl Tryz.func64 (by kernel_rfl) rfl #[.agg #[.slice A368_0 ((rd_T61 l0 x12_1).f0).length c368_0, .string ((rd_T61 l0 x12_1).f1), .string ((rd_T61 l0 x12_1).f2), .string ((rd_T61 l0 x12_1).f3)]] rfl (by (try simp only [mT, mC, mN]); try rfl) ?_; (with_reducible refine (impl_shortForm.calls k1 _ _ ((rd_T61 l0 x12_1).f0) ((rd_T61 l0 x12_1).f1) ((rd_T61 l0 x12_1).f2) ((rd_T61 l0 x12_1).f3) t370 _ ?side1 ?side2 A8.out).mono ?_); (case side1 => exact cB HR368_0.out (by with_reducible repeat first | exact HB.out | apply pA | apply pN | apply p1 | refine pS ?_ GE369.out)); (case side2 => exact HC368_0.out); rintro e w12 ⟨rfl, hb⟩; refine ⟨_, rfl, ?_⟩; replace HO_5 := AM (Kd.R_below (by (with_reducible repeat (first | apply Kd.R_alloc | apply Kd.R_drewN | apply Kd.R_drew)); exact (Kd.R_mono (Kd.R_far (p := ⟨gb369, 3, none⟩) (Kd.R_far (p := ⟨gb369, 2, none⟩) (Kd.R_far (p := ⟨gb369, 1, none⟩) (Kd.R_far (p := ⟨gb369, 0, none⟩) (Kd.R_types HO_5.out BK369.out (by decide)) (fun _ hk => hk.2) (.slice A368_0 ((rd_T61 l0 x12_1).f0).length c368_0)) (fun _ hk => hk.2) (.string ((rd_T61 l0 x12_1).f1))) (fun _ hk => hk.2) (.string ((rd_T61 l0 x12_1).f2))) (fun _ hk => hk.2) (.string ((rd_T61 l0 x12_1).f3))) (fun _ h_ => h_.1))) hb); replace BK369 := AM (blk_below (g := gb369) (o := .cells #[.slice A368_0 ((rd_T61 l0 x12_1).f0).length c368_0, .string ((rd_T61 l0 x12_1).f1), .string ((rd_T61 l0 x12_1).f2), .string ((rd_T61 l0 x12_1).f3)] 61 (0, 0)) (by (with_reducible repeat (first | refine bN ?_ _ | refine bW ?_ | refine bL ?_ _)); refine bP4 (.slice none 0 0) (.string (⟨#[]⟩ : ByteArray)) (.string (⟨#[]⟩ : ByteArray)) (.string (⟨#[]⟩ : ByteArray)) ?_ _ _ _ _; (with_reducible repeat (first | refine bN ?_ _ | refine bW ?_ | refine bL ?_ _)); exact BK369.out) hb); replace HB := AM (bS (by with_reducible repeat first | exact HB.out | apply pA | apply pN | apply p1 | refine pS ?_ GE369.out) hb); (try clear hb)) | ((with_reducible refine gate_builtin (b := .append) (xs := #[.tmp 16, .tmp 19]) rfl ?_); at_builtin; refine Kd.R_append Kd.string (w0 := w) w.heap.size rfl (.tmp 16) (.tmp 19) 51 9 (.string ⟨#[]⟩) 16 rfl Tryz.underlying51 info9 rfl (by decide) (by omega) u5 x5_1 t370 [.string t370] (fun _ => True) (fun _ => False) rfl rfl ?aP (fun _ hk => hk.elim) ?aF ?aO ?aB ?aS ?aL ?_; (case aP => exact rfl); (case aB => exact (by with_reducible repeat first | exact HB.out | apply pA | apply pN | apply p1 | refine pS ?_ GE369.out)); (case aF => exact (fun _ _ => trivial)); (case aO => exact (by (with_reducible repeat (first | apply Kd.R_alloc | apply Kd.R_drewN | apply Kd.R_drew)); exact HO_5.out)); (case aS => exact (bZ (by with_reducible repeat first | exact HB.out | apply pA | apply pN | apply p1 | refine pS ?_ GE369.out))); (case aL => have := LMc9.out; omega); intro v372 w13 ho hb hg hat; rw [← Ny371.out] at ho; replace BK369 := AM (blk_grown (g := gb369) (o := .cells #[.slice A368_0 ((rd_T61 l0 x12_1).f0).length c368_0, .string ((rd_T61 l0 x12_1).f1), .string ((rd_T61 l0 x12_1).f2), .string ((rd_T61 l0 x12_1).f3)] 61 (0, 0)) (by (with_reducible repeat first | apply bN | apply bW | apply bL); exact BK369.out) hg (Kd.R_ne HO_5.out BK369.out (by decide))); replace HB := AM (hb); have HO373 := AM (ho); clear HO_5; clear ho hb hg hat))
       go_roundg k1
       case measure => have := HK1.out; omega
       case rel => exact ⟨(y371), (wrap64 (x12_1 + 1)), (by first | rfl | (simp; done) | (simp [*]; done)), H', ⟨by have := HK1.out; omega⟩, ⟨by (with_reducible repeat (first | apply Kd.R_alloc | apply Kd.R_drewN | apply Kd.R_drew)); exact HO373.out⟩, ⟨by with_reducible repeat first | exact HB.out | apply pA | apply pN | apply p1 | refine pS ?_ GE369.out⟩⟩
      ·rw [if_neg c9] at H
       exact absurd H (by simp)
     ·rw [if_neg c7] at H
      exact absurd H (by simp)
    ·rw [if_neg c6] at H
     exact absurd H (by simp)
   ·rw [if_neg c5] at H
    have c5b0 : decide (x12_1 < (l0.length : Int)) = false := dF c5;clear c5;by_cases c14 : (x5_1.length : Int) = 0;(·rw [if_pos c14] at H;have c14b0 : ((x5_1.length : Int) == 0) = true := beq_iff_eq.mpr c14;have c14b1 : ((x5_1.length : Int) != 0) = false := bne_eq_false_iff_eq.mpr c14;clear c14;obtain rfl := oI H;obtain ⟨Ao15, co15, eo15⟩ := rS HO_5.out;subst eo15;(go_wp2);(go_ret);exact ⟨rfl, by with_reducible repeat first | exact HB.out | apply pA | apply pN | apply p1⟩)
    ·rw [if_neg c14] at H
     have c14b0 : ((x5_1.length : Int) == 0) = false := beq_eq_false_iff_ne.mpr c14;have c14b1 : ((x5_1.length : Int) != 0) = true := bne_iff_ne.mpr c14;(have c14b2 : ¬ (x5_1 = []) := fun h_ => c14 (by rw [h_]; rfl));by_cases c16 : (x5_1.length : Int) > a1
     ·rw [if_pos c16] at H
      have c16b0 : decide (a1 < (x5_1.length : Int)) = true := dT c16;clear c16;by_cases c17 : 0 < (x5_1.length : Int)
      ·rw [if_pos c17] at H
       have c17b0 : decide (0 < (x5_1.length : Int)) = true := dT c17;have c17b1 : decide (0 < x5_1.length) = true := dT (by omega);clear c17;by_cases c18 : (rdOf ByteArray.empty x5_1 0).size + 7 ≤ 9223372036854775807
       ·rw [if_pos c18] at H
        have c18b0 := eq_true c18;have c18b1 : decide ((rdOf ByteArray.empty x5_1 0).size + 7 ≤ 9223372036854775807) = true := dT c18;(try have c18b2 : (9223372036854775807 < (rdOf ByteArray.empty x5_1 0).size + 7) = False := eq_false (Nat.not_lt.2 c18));obtain rfl := oI H;obtain ⟨Ao19, co19, eo19⟩ := rS HO_5.out;subst eo19
        have p374 : 0 ≤ (0 : Int) := (by omega)
        have q374 : 0 < (x5_1.length : Int) := oD (by assumption);obtain ⟨ad374, e374, hx374_0⟩ := Kd.at_string (rR HO_5.out).2.2 0 p374 q374;cases e374;have qi374 : (0 < x5_1.length) = True := eq_true (by omega);(try rw [show ((0 : Int)).toNat = 0 from rfl] at hx374_0);(try rw [Addr.add_zero'] at hx374_0);replace p374 := eq_true p374;replace q374 := eq_true q374;(go_wp2);(go_ret);exact ⟨rfl, by with_reducible repeat first | exact HB.out | apply pA | apply pN | apply p1⟩
       ·rw [if_neg c18] at H
        exact absurd H (by simp)
      ·rw [if_neg c17] at H
       exact absurd H (by simp)
     ·rw [if_neg c16] at H
      have c16b0 : decide (a1 < (x5_1.length : Int)) = false := dF c16;clear c16;by_cases c20 : (x5_1.length : Int) = 1
      ·rw [if_pos c20] at H
       have c20b0 : ((x5_1.length : Int) == 1) = true := beq_iff_eq.mpr c20;have c20b1 : ((x5_1.length : Int) != 1) = false := bne_eq_false_iff_eq.mpr c20;clear c20;by_cases c21 : 0 < (x5_1.length : Int)
       ·rw [if_pos c21] at H
        have c21b0 : decide (0 < (x5_1.length : Int)) = true := dT c21;have c21b1 : decide (0 < x5_1.length) = true := dT (by omega);clear c21;obtain rfl := oI H;obtain ⟨Ao22, co22, eo22⟩ := rS HO_5.out;subst eo22
        have p375 : 0 ≤ (0 : Int) := (by omega)
        have q375 : 0 < (x5_1.length : Int) := oD (by assumption);obtain ⟨ad375, e375, hx375_0⟩ := Kd.at_string (rR HO_5.out).2.2 0 p375 q375;cases e375;have qi375 : (0 < x5_1.length) = True := eq_true (by omega);(try rw [show ((0 : Int)).toNat = 0 from rfl] at hx375_0);(try rw [Addr.add_zero'] at hx375_0);replace p375 := eq_true p375;replace q375 := eq_true q375;(go_wp2);(go_ret);exact ⟨rfl, by with_reducible repeat first | exact HB.out | apply pA | apply pN | apply p1⟩
       ·rw [if_neg c21] at H
        exact absurd H (by simp)
      ·rw [if_neg c20] at H
       have c20b0 : ((x5_1.length : Int) == 1) = false := beq_eq_false_iff_ne.mpr c20;have c20b1 : ((x5_1.length : Int) != 1) = true := bne_iff_ne.mpr c20
       obtain ⟨ji23, hji23⟩ : ∃ j_ : Int, (wrap64 ((x5_1.length : Int) - 1)) = j_ := ⟨_, rfl⟩
       replace H : (if 0 ≤ (ji23) then (if (ji23) ≤ (x5_1.length : Int) then ((strings_Join.f (x5_1.take ((ji23) : Int).toNat) (⟨#[44, 32]⟩ : ByteArray)).bind fun t380 => (if t380.size + 5 ≤ 9223372036854775807 then (if (ji23) < (x5_1.length : Int) then (if (t380 ++ (⟨#[32, 97, 110, 100, 32]⟩ : ByteArray)).size + (rdOf ByteArray.empty x5_1 (ji23)).size ≤ 9223372036854775807 then (some ((t380 ++ (⟨#[32, 97, 110, 100, 32]⟩ : ByteArray)) ++ (rdOf ByteArray.empty x5_1 (ji23)))) else (none)) else (none)) else (none))) else (none)) else (none)) = some r := by first | (rw [hji23] at H; exact H) | (simp only [hji23] at H ⊢; exact H)
       have hji23w : (IntKind.i64.wrap ((x5_1.length : Int) - 1)) = ji23 := (i64_w _).trans hji23;by_cases c24 : 0 ≤ (ji23)
       ·rw [if_pos c24] at H
        have c24b0 := eq_true c24;have c24b1 : decide (0 ≤ (ji23)) = true := dT c24;clear c24;by_cases c25 : (ji23) ≤ (x5_1.length : Int)
        ·rw [if_pos c25] at H
         have c25b0 := eq_true c25;have c25b1 : decide ((ji23) ≤ (x5_1.length : Int)) = true := dT c25;clear c25
         obtain ⟨y376, hy376⟩ : ∃ y_ : List ByteArray, y_ = (x5_1.take ((ji23) : Int).toNat) := ⟨_, rfl⟩
         (replace H : ((strings_Join.f y376 (⟨#[44, 32]⟩ : ByteArray)).bind fun t380 => (if t380.size + 5 ≤ 9223372036854775807 then (if (ji23) < (x5_1.length : Int) then (if (t380 ++ (⟨#[32, 97, 110, 100, 32]⟩ : ByteArray)).size + (rdOf ByteArray.empty x5_1 (ji23)).size ≤ 9223372036854775807 then (some ((t380 ++ (⟨#[32, 97, 110, 100, 32]⟩ : ByteArray)) ++ (rdOf ByteArray.empty x5_1 (ji23)))) else (none)) else (none)) else (none))) = some r := by first | (rw [hy376]; with_reducible exact H) | (have H2_ := (Option.bind_some _ _).symm.trans H; rw [hy376]; with_reducible exact H2_) | (have H2_ := (Option.bind_some _ _).symm.trans H; with_reducible exact H2_) | with_reducible exact H | (rw [hy376]; exact H) | exact H);have Ny376 := AM hy376;clear hy376;replace H := oB.mp H;obtain ⟨t380, A260, H⟩ := H;(try dsimp only at H);have A26 := AM A260;clear A260;by_cases c27 : t380.size + 5 ≤ 9223372036854775807
         ·rw [if_pos c27] at H
          have c27b0 := eq_true c27;have c27b1 : decide (t380.size + 5 ≤ 9223372036854775807) = true := dT c27;(try have c27b2 : (9223372036854775807 < t380.size + 5) = False := eq_false (Nat.not_lt.2 c27));by_cases c28 : (ji23) < (x5_1.length : Int)
          ·rw [if_pos c28] at H
           have c28b0 : decide ((ji23) < (x5_1.length : Int)) = true := dT c28;clear c28;by_cases c29 : (t380 ++ (⟨#[32, 97, 110, 100, 32]⟩ : ByteArray)).size + (rdOf ByteArray.empty x5_1 (ji23)).size ≤ 9223372036854775807
           ·rw [if_pos c29] at H
            have c29b0 := eq_true c29;have c29b1 : decide ((t380 ++ (⟨#[32, 97, 110, 100, 32]⟩ : ByteArray)).size + (rdOf ByteArray.empty x5_1 (ji23)).size ≤ 9223372036854775807) = true := dT c29;(try have c29b2 : (9223372036854775807 < (t380 ++ (⟨#[32, 97, 110, 100, 32]⟩ : ByteArray)).size + (rdOf ByteArray.empty x5_1 (ji23)).size) = False := eq_false (Nat.not_lt.2 c29));(try have c29b3 : (9223372036854775807 < t380.size + 5 + ((rdOf ByteArray.empty x5_1 (ji23)).size)) = False := eq_false (by have h_ := c29; simp only [ByteArray.size_append, ByteArray.size_extract] at h_; (try simp only [show (⟨#[32, 97, 110, 100, 32]⟩ : ByteArray).size = 5 from rfl] at h_); (try have q0_ := of_eq_true c5b0); (try have q1_ := of_eq_true c14b0); (try have q4_ := of_eq_true c16b0); (try have q5_ := of_eq_true c20b0); (try have q7_ := of_eq_true c24b0); (try have q9_ := of_eq_true c25b0); (try have q11_ := of_eq_true c27b0); (try have q14_ := of_eq_true c28b0); omega));obtain rfl := oI H;obtain ⟨Ao30, co30, eo30⟩ := rS HO_5.out;subst eo30;(try go_wp2);replace HO_5 := AM (Kd.R_drew HO_5.out);replace HB := AM (p1 HB.out);have q32 : ((ji23) : Int) ≤ ((x5_1.length : Int) : Int) := oD (by assumption);obtain ⟨i032, hi032, _, hsz32, _⟩ := info_parts info9;have hroom32 : x5_1.length ≤ co30 := (rR HO_5.out).2.1;have hC32 : Kd.C Kd.string _ Ao30 x5_1.length x5_1 := (rR HO_5.out).2.2;have hcut32 := cut_to (P := Tryz.prog) 51 9 .i64 Tryz.underlying51 hi032 Ao30 x5_1.length co30 (ji23) (oD (by assumption)) q32 hroom32;have hr32 := Kd.C_take (m := ((ji23) : Int).toNat) hC32 (by omega)
            have hy32 : y376.length = ((ji23) : Int).toNat := (by rw [Ny376.out, List.length_take]; omega)
            rw [← Ny376.out] at hr32;rw [← hy32] at hcut32;have HR379 := AM hr32;have HC379 := AM (show y376.length ≤ co30 from by omega);clear hr32 hC32 hroom32 hi032 hsz32;have KY32 := AM hy32;clear hy32;have KL32 := AM (show ((ji23) : Int).toNat ≤ x5_1.length from by omega);replace q32 := eq_true q32;have p381 : 0 ≤ ((ji23) : Int) := oD (by assumption);have q381 : (ji23) < (x5_1.length : Int) := oD (by assumption);obtain ⟨ad381, e381, hx381_0⟩ := Kd.at_string (rR HO_5.out).2.2 (ji23) p381 q381;cases e381;replace p381 := eq_true p381;replace q381 := eq_true q381;(refine start_ (n := 11) (S := fun w' => w'.cell? (ad381.add ((ji23)).toNat) = some (.string (rdOf ByteArray.empty x5_1 (ji23)))) (ds := []) (bA 11 0) (by kernel_rfl) rfl rfl (hx381_0) (fun hHeld => ?_); refine with_tabW impl_joinNames.tab14 impl_joinNames.bits14 (fun HT_ HW_ => ?_));generalize wr.drew = w31 at HO_5 HB HR379 hx381_0 hHeld ⊢;refine pure_ (i := 0) (N := some 45) (v := ?_) (a' := ?_) (bA 11 1) rfl rfl (any_of HT_.out (by kernel_rfl)) (fun _ _ _ h => h) (Or.inl ⟨by rfl, ?_⟩) ?_ ?_;rotate_left;(·intro w';go_simp;(with_reducible rfl));rotate_left;(·simp only [Act.put, lT, lZ, lS, i64_w, i32_w];rfl);refine pure_ (i := 1) (N := some 46) (v := ?_) (a' := ?_) (bA 11 3) rfl rfl (any_of HT_.out (by kernel_rfl)) (fun _ _ _ h => h) (Or.inl ⟨by rfl, ?_⟩) ?_ ?_;rotate_left;(·intro w';go_simp;(with_reducible rfl));rotate_left;(·simp only [Act.put, lT, lZ, lS, i64_w, i32_w];rfl);refine pure_ (i := 2) (N := some 47) (v := ?_) (a' := ?_) (bA 11 7) rfl rfl (any_of HT_.out (by kernel_rfl)) (fun _ _ _ h => h) (Or.inl ⟨by rfl, ?_⟩) ?_ ?_;rotate_left;(·intro w';go_simp;(with_reducible rfl));rotate_left;(·simp only [Act.put, lT, lZ, lS, i64_w, i32_w];rfl);refine pure_ (i := 5) (N := some 50) (v := ?_) (a' := ?_) (bA 11 39) rfl rfl (any_of HT_.out (by kernel_rfl)) (fun _ _ _ h => h) (Or.inl ⟨by rfl, ?_⟩) ?_ ?_;rotate_left;(·intro w';go_simp;(with_reducible rfl));rotate_left;(·simp only [Act.put, lT, lZ, lS, i64_w, i32_w];rfl);refine pure_ (i := 6) (N := some 51) (v := ?_) (a' := ?_) (bA 11 103) rfl rfl (any_of HT_.out (by kernel_rfl)) (fun _ _ _ h => h) (Or.inl ⟨by rfl, ?_⟩) ?_ ?_;rotate_left;(·intro w';go_simp;(with_reducible rfl));rotate_left;(·simp only [Act.put, lT, lZ, lS, i64_w, i32_w];rfl);refine pure_ (i := 7) (N := some 52) (v := ?_) (a' := ?_) (bA 11 231) rfl rfl (any_of HT_.out (by kernel_rfl)) (fun _ _ _ h => h) (Or.inl ⟨by rfl, ?_⟩) ?_ ?_;rotate_left;(·intro w';go_simp;(with_reducible rfl));rotate_left;(·simp only [Act.put, lT, lZ, lS, i64_w, i32_w];rfl);refine take_ (i := 8) (N := some 53) (v := ?_) (a' := ?_) (bA 11 487) rfl rfl (take_ofW HT_.out HW_.out (by kernel_rfl)) (fun _ _ _ h => h) (Or.inl ⟨by rfl, ?_⟩) hHeld ?_ ?_;rotate_left;(·intro w' s0;go_simp;(with_reducible rfl));rotate_left;(·simp only [Act.put, lT, lZ, lS, i64_w, i32_w];rfl);refine one_ (i := 3) (N := some 48) (bA 11 495) rfl rfl (one_of HT_.out (by kernel_rfl)) (by decide) (fun K hK => ?_);refine goes_ Tryz.func65 (by kernel_rfl) rfl #[.slice (some ad381) y376.length co30, .string (⟨#[44, 32]⟩ : ByteArray)] (by rfl) rfl rfl (by (try simp only [mT, mC, mN]); try rfl) ?_;(with_reducible refine (strings_Join.calls _ _ y376 (⟨#[44, 32]⟩ : ByteArray) t380 _ ?side1 ?side2 A26.out).mono ?_);(case side1 => repeat (first | exact (by repeat (first | (with_reducible exact HR379.out) | (with_reducible refine cA ?_ _) | (with_reducible refine cN ?_ _) | (with_reducible refine cD ?_) | exact HR379.out)) | (with_reducible refine cA ?_ _) | (with_reducible refine cN ?_ _) | (with_reducible refine cD ?_)));(case side2 => exact HC379.out);rintro e w33 ⟨rfl, hb⟩;have HS0_ := (hb.cell (World.block_lt_of_cell? _ _ (hHeld))).trans (hHeld);refine ⟨_, rfl, ?_⟩;replace HO_5 := AM (Kd.R_below (by (with_reducible repeat (first | apply Kd.R_alloc | apply Kd.R_drewN | apply Kd.R_drew)); exact HO_5.out) hb);replace HR379 := AM (cB (by repeat (first | (with_reducible exact HR379.out) | (with_reducible refine cA ?_ _) | (with_reducible refine cN ?_ _) | (with_reducible refine cD ?_) | exact HR379.out)) hb);replace HB := AM (bS (by with_reducible repeat first | exact HB.out | apply pA | apply pN | apply p1) hb);(try clear hb);refine hK.out _ _ (HS0_) (fun hHeld => ?_);clear hK K;refine norm_ (a' := ?_) ?_ ?_;rotate_left
            ·show Act.put _ (some 48) _ = _
             simp only [Act.put, lT, lZ, lS, i64_w, i32_w];rfl
            refine pure_ (i := 4) (N := some 49) (v := ?_) (a' := ?_) (bA 11 511) rfl rfl (any_of HT_.out (by kernel_rfl)) (fun _ _ _ h => h) (Or.inl ⟨by rfl, ?_⟩) ?_ ?_;rotate_left;(·intro w';go_simp;(with_reducible rfl));rotate_left;(·simp only [Act.put, lT, lZ, lS, i64_w, i32_w];rfl);refine pure_ (i := 9) (N := some 54) (v := ?_) (a' := ?_) (bA 11 1023) rfl rfl (any_of HT_.out (by kernel_rfl)) (fun _ _ _ h => h) (Or.inl ⟨by rfl, ?_⟩) ?_ ?_;rotate_left;(·intro w';go_simp;(with_reducible rfl));rotate_left;(·simp only [Act.put, lT, lZ, lS, i64_w, i32_w];rfl);refine pure_ (i := 10) (N := some 4) (v := ?_) (a' := ?_) (bA 11 2047) rfl rfl (any_of HT_.out (by kernel_rfl)) (fun _ _ _ h => h) (Or.inl ⟨by rfl, ?_⟩) ?_ ?_;rotate_left;(·intro w';go_simp;(with_reducible rfl));rotate_left;(·simp only [Act.put, lT, lZ, lS, i64_w, i32_w];rfl);refine done_ (done_of HT_.out (by kernel_rfl)) ?_;(try go_wp2);(go_ret);exact ⟨by first | rfl | (simp [errW_none, errW_some] <;> rfl) | (simp only [← hji23]; first | rfl | (simp [errW_none, errW_some] <;> rfl)) | (simp [*, errW_none, errW_some] <;> rfl) | (simp [errW_none, errW_some] <;> (apply Bool.eq_iff_iff.2; simp [List.isEmpty_iff])), by with_reducible repeat first | exact HB.out | apply pA | apply pN | apply p1⟩
           ·rw [if_neg c29] at H
            exact absurd H (by simp)
          ·rw [if_neg c28] at H
           exact absurd H (by simp)
         ·rw [if_neg c27] at H
          exact absurd H (by simp)
        ·rw [if_neg c25] at H
         exact absurd H (by simp)
       ·rw [if_neg c24] at H
        exact absurd H (by simp)
end Go.Proofs.YthcccgnhokncdaaGreatDoor.Px
