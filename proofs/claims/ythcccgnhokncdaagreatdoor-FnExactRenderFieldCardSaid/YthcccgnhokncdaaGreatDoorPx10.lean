/- Calls of Go functions come to what the Lean functions beside them say; written by a program of this session (wip/xprint); no conditions. -/
import Derived.Test.YthcccgnhokncdaaGreatDoorPx9
namespace Go.Proofs.YthcccgnhokncdaaGreatDoor.Px
open Go.RowKit Go.Proofs.YthcccgnhokncdaaGreatDoorW.PrintWords Go.Proofs.YthcccgnhokncdaaGreatDoorW.PrintLast Go.Proofs.YthcccgnhokncdaaGreatDoorW.PrintMore
open Go.Proofs.YthcccgnhokncdaaGreatDoorW.PrintWords renaming pw_below_drewN → pN, below_drew1 → p1, below_alloc → pA, below_set → pS, blk_cell → bC, blk_drewN → bN, blk_alloc → bL, blk_drew → bW, blk_below → bB, below_step → bS, below_size → bZ, gate_callee → gC, gate_dst → gD, blk_frozen → bF
open Go.Proofs.YthcccgnhokncdaaGreatDoorW.PrintWords.Aside0 renaming mk → AM
open Option renaming bind_eq_some_iff → oB
open Option.some renaming inj → oI
open List renaming setIfInBounds_toArray → lT, set_cons_zero → lZ, set_cons_succ → lS, map_toArray → mT, map_cons → mC, map_nil → mN
open Go.Proofs.YthcccgnhokncdaaGreatDoorW.PrintWords.Kd renaming C_alloc → cA, C_drewN → cN, C_drew → cD, C_below → cB, R_reads' → rR
open Go.Proofs.YthcccgnhokncdaaGreatDoorW.PrintLast renaming goesL_ → gL
open Bool renaming eq_false_iff → bE
attribute [local go_sem] max2_int min2_int max_two min_two max_three min_three max_four min_four
set_option maxHeartbeats 8000000
set_option maxRecDepth 100000
set_option linter.unusedVariables false
set_option linter.unusedSimpArgs false
/-! ### strconv_Itoa_66: function 66 -/
def strconv_Itoa_66.f (a0 : Int) : Option (ByteArray) := if -9223372036854775808 ≤ a0 then (if a0 ≤ 9223372036854775807 then some ⟨(Lib.itoa a0).toArray⟩ else none) else none
theorem strconv_Itoa_66.below_grow {W : World} {B : Nat} (hB : B ≤ W.heap.size) (k : Nat) (os : Array Obj) : Below B W (Go.Sort.grow (W.drewN k) os) :=
  ⟨rfl, rfl, rfl, by simp [Go.Sort.grow, World.drewN], fun i hi => by simp only [Go.Sort.grow, World.drewN]; rw [Array.getElem?_append_left (by omega)]⟩
theorem strconv_Itoa_66.calls (a0 : Int) (r : ByteArray) (w : World) (henv : Go.Proofs.YthcccgnhokncdaaGreatDoorW.Envs.Env [1] w) (h : strconv_Itoa_66.f a0 = some r) :
    Calls Tryz.prog 66 #[.int .i64 a0] w fun e w' => e = .returned (.string r) ∧ Below w.heap.size w w' := by
  unfold strconv_Itoa_66.f at h;by_cases h0 : -9223372036854775808 ≤ a0
  · rw [if_pos h0] at h
    by_cases h1 : a0 ≤ 9223372036854775807
    · rw [if_pos h1] at h
      obtain rfl := oI h
      exact (Any.strconv_Itoa strconv_Itoa_66.lays a0 h0 h1 w (henv.pow10 (by decide))).mono fun e w' ⟨he, k, os, hw⟩ => ⟨he, by subst hw; exact strconv_Itoa_66.below_grow (Nat.le_refl _) k os⟩
    · rw [if_neg h1] at h
      exact absurd h (by simp)
  · rw [if_neg h0] at h
    exact absurd h (by simp)
/-! ### impl_longDate: function 42 -/
def impl_longDate.j0 : Nat → ByteArray → Int → Int → Int → Bool → Option (ByteArray)
 | 0, _, _, _, _, _ => none
 | k + 1, x3, x383000, x383001, x383002, x383003 => if 0 ≤ x383001 then (if x383001 < 13 then ((strconv_Itoa_66.f x383000).bind fun t385 => ((impl_spaced.f (([x3, rdOf ByteArray.empty Go.Proofs.YthcccgnhokncdaaGreatDoorW.Envs.strs1 x383001, t385] : List ByteArray))).bind fun t389 => (if x383003 = true then (if 4 + t389.size ≤ 9223372036854775807 then (some ((⟨#[99, 97, 46, 32]⟩ : ByteArray) ++ t389)) else (none)) else (some t389)))) else (none)) else (none)
def impl_longDate.f (k : Nat) (a0_0 : Int) (a0_1 : Int) (a0_2 : Int) (a0_3 : Bool) : Option (ByteArray) := if a0_0 = 0 then (some (⟨#[110, 46, 100, 46]⟩ : ByteArray)) else (if a0_2 > 0 then ((strconv_Itoa_66.f a0_2).bind fun t383 => (impl_longDate.j0 k t383 a0_0 a0_1 a0_2 a0_3)) else (impl_longDate.j0 k (⟨#[]⟩ : ByteArray) a0_0 a0_1 a0_2 a0_3))
theorem impl_longDate.mono_l : ∀ k, (∀ y0 y1 y2 y3 y4, LeO (impl_longDate.j0 k y0 y1 y2 y3 y4) (impl_longDate.j0 (k + 1) y0 y1 y2 y3 y4))
 | 0 => fun _ _ _ _ _ r h => by simp [impl_longDate.j0] at h
 | k + 1 => by
  have ih0 := impl_longDate.mono_l k
  ·intro y0 y1 y2 y3 y4
   unfold impl_longDate.j0
   repeat' with_reducible first
   | exact ih0 _ _ _ _ _
   | exact LeO.refl _
   | exact LeO.none _
   | refine LeO.ite ?_ ?_
   | refine LeO.bind ?_ (fun _ => ?_)
theorem impl_longDate.mono : ∀ a0 a1 a2 a3 k, LeO (impl_longDate.f k a0 a1 a2 a3) (impl_longDate.f (k + 1) a0 a1 a2 a3) := by
 intro a0 a1 a2 a3 k;have ih0 := impl_longDate.mono_l k;unfold impl_longDate.f
 repeat' with_reducible first
   | exact ih0 _ _ _ _ _
   | exact LeO.refl _
   | exact LeO.none _
   | refine LeO.ite ?_ ?_
   | refine LeO.bind ?_ (fun _ => ?_)
def impl_longDate.T6 : Bool × List (List Nat × List Nat) := (true, [([], []), ([], []), ([1], [1]), ([2], [2]), ([3], [3]), ([], []), ([5], [5]), ([6], [6]), ([0, 4, 7], [0, 4, 7]), ([8, 7], [8]), ([9, 9, 0, 1, 2, 3, 4, 5, 6, 7, 8, 9], [9])])
def impl_longDate.B6 : List Nat := [0, 0, 2, 6, 14, 0, 32, 96, 255, 511, 1023]
theorem impl_longDate.tab6 : rtab .any (opsOf Tryz.f42 6) = impl_longDate.T6 := by kernel_rfl
theorem impl_longDate.bits6 : waitsOk impl_longDate.T6.2 impl_longDate.B6 = true := by kernel_rfl
theorem impl_longDate.calls (k : Nat) (a0_0 : Int) (a0_1 : Int) (a0_2 : Int) (a0_3 : Bool) (r : ByteArray) (w : World) (henv : Go.Proofs.YthcccgnhokncdaaGreatDoorW.Envs.Env [1, 11] w) (h : impl_longDate.f k a0_0 a0_1 a0_2 a0_3 = some r) :
  Calls Tryz.prog 42 #[.agg #[.int .i64 a0_0, .int .i64 a0_1, .int .i64 a0_2, .bool a0_3]] w fun e w' => e = .returned (.string r) ∧ Below w.heap.size w w' := by
 have hu31 := Tryz.underlying31;have HB := AM (Below.refl w.heap.size w);have HENV := AM henv;clear henv;have HRG1 := AM (Go.Proofs.YthcccgnhokncdaaGreatDoorW.Envs.Env.rows1 HENV.out (by decide));have H := h;unfold impl_longDate.f at H;clear h;have HC2 := AM H;clear H;(go_enter Tryz.func42, Tryz.ntmps42)
 go_upto_if 7 with (first | ((with_reducible refine gate_dst (N := 1) rfl ?_); refine box_event ?hg (N := 1) ?hd (cs := #[.int .i64 a0_0, .int .i64 a0_1, .int .i64 a0_2, .bool a0_3]) (t := 31) ?hr ?_; (case hd => rfl); (case hg => rfl); (case hr => first | (go_simp; done) | (go_simp; rfl)); intro gb382 hg w3 hbox hb; have BK382 := AM (hbox); have GW382 := AM ((by rw [hg]; exact (bZ (by with_reducible repeat first | exact HB.out | apply pA | apply pN | apply p1)) : w.heap.size ≤ gb382)); have GE382 := AM ((by rw [hg]; exact (bZ (by with_reducible repeat first | exact HB.out | apply pA | apply pN | apply p1)) : w.heap.size ≤ gb382)); replace HB := AM (bS (by with_reducible repeat first | exact HB.out | apply pA | apply pN | apply p1) hb); clear hb hbox hg; obtain ⟨z4_0, z4_1, z4_2, z4_3⟩ := cells4 BK382.out))
 have H := HC2.out;clear HC2;by_cases c5 : a0_0 = 0;(·rw [if_pos c5] at H;have c5b0 : (a0_0 == 0) = true := beq_iff_eq.mpr c5;have c5b1 : (a0_0 != 0) = false := bne_eq_false_iff_eq.mpr c5;clear c5;(first | rw [c5b0] | rw [c5b1] | rw [c5b2] | (simp only [i64_w, i32_w]; rw [c5b0]) | skip);obtain rfl := oI H;(go_wp2);(go_ret);exact ⟨rfl, by with_reducible repeat first | exact HB.out | apply pA | apply pN | apply p1 | refine pS ?_ GE382.out⟩)
 ·rw [if_neg c5] at H
  have c5b0 : (a0_0 == 0) = false := beq_eq_false_iff_ne.mpr c5;have c5b1 : (a0_0 != 0) = true := bne_iff_ne.mpr c5;(first | rw [c5b0] | rw [c5b1] | rw [c5b2] | (simp only [i64_w, i32_w]; rw [c5b0]) | skip);have HC6 := AM H;clear H;obtain ⟨z7_0, z7_1, z7_2, z7_3⟩ := cells4 BK382.out
  go_upto_if 10 with (fail)
  go_cut [3] (fun v3 wc => ∃ (kq : Nat) (x3_5 : ByteArray), v3 = .string x3_5 ∧ Aside0 (impl_longDate.j0 kq x3_5 a0_0 a0_1 a0_2 a0_3 = some r) ∧ Aside0 (kq ≤ k) ∧ Aside0 (wc.heap[gb382]? = some (.cells #[.int .i64 a0_0, .int .i64 a0_1, .int .i64 a0_2, .bool a0_3] 31 (0, 0))) ∧ Aside0 (Below w.heap.size w wc))
  case first =>
   have H := HC6.out;clear HC6;by_cases c8 : a0_2 > 0
   ·rw [if_pos c8] at H
    have c8b0 : decide (0 < a0_2) = true := dT c8;clear c8;(first | rw [c8b0] | rw [c8b1] | rw [c8b2] | (simp only [i64_w, i32_w]; rw [c8b0]) | skip);replace H := oB.mp H;obtain ⟨t383, A90, H⟩ := H;(try dsimp only at H);have A9 := AM A90;clear A90;have H' := AM H;clear H;obtain ⟨z10_0, z10_1, z10_2, z10_3⟩ := cells4 BK382.out
    go_wp2_with (first | ((with_reducible refine gate_callee (f := 66) rfl ?_); refine goesL_ (some 13) rfl rfl Tryz.func66 (by kernel_rfl) rfl #[.int .i64 a0_2] rfl (by (try simp only [mT, mC, mN]); try rfl) ?_; (with_reducible refine (strconv_Itoa_66.calls a0_2 t383 _ ?side1 A9.out).mono ?_); (case side1 => exact Go.Proofs.YthcccgnhokncdaaGreatDoorW.Envs.Env.below (Go.Proofs.YthcccgnhokncdaaGreatDoorW.Envs.Env.sub HENV.out (S := [1]) (by decide)) (by with_reducible repeat first | exact HB.out | apply pA | apply pN | apply p1 | refine pS ?_ GE382.out)); rintro e w11 ⟨rfl, hb⟩; refine ⟨_, rfl, ?_⟩; replace BK382 := AM (bB (by (with_reducible repeat first | apply bN | apply bW | apply bL); exact BK382.out) hb); replace HB := AM (bS (by with_reducible repeat first | exact HB.out | apply pA | apply pN | apply p1 | refine pS ?_ GE382.out) hb); (try clear hb)))
    go_meet
    case rel => exact ⟨_, (t383), (by first | rfl | (simp; done) | (simp [*]; done)), H', ⟨by first | omega | exact Nat.le_refl _⟩, ⟨by (with_reducible repeat (first | refine bN ?_ _ | refine bW ?_ | refine bL ?_ _)); exact BK382.out⟩, ⟨by with_reducible repeat first | exact HB.out | apply pA | apply pN | apply p1 | refine pS ?_ GE382.out⟩⟩
   ·rw [if_neg c8] at H
    have c8b0 : decide (0 < a0_2) = false := dF c8;clear c8;(first | rw [c8b0] | rw [c8b1] | rw [c8b2] | (simp only [i64_w, i32_w]; rw [c8b0]) | skip);have H' := AM H;clear H;(go_wp2);(go_meet)
    case rel => exact ⟨_, ((⟨#[]⟩ : ByteArray)), (by first | rfl | (simp; done) | (simp [*]; done)), H', ⟨by first | omega | exact Nat.le_refl _⟩, ⟨by (with_reducible repeat (first | refine bN ?_ _ | refine bW ?_ | refine bL ?_ _)); exact BK382.out⟩, ⟨by with_reducible repeat first | exact HB.out | apply pA | apply pN | apply p1 | refine pS ?_ GE382.out⟩⟩
  case rest =>
   clear HC6;(try clear p2);(try clear c4);(try clear c5);(try clear c5b0);(try clear c5b1);(try clear c5b2);(try clear c6);(try clear c8);(try clear c8b0);(try clear c8b1);(try clear c8b2);(try clear z10_0);(try clear z10_1);(try clear z10_2);(try clear z10_3);(try clear z4_0);(try clear z4_1);(try clear z4_2);(try clear z4_3);(try clear z7_0);(try clear z7_1);(try clear z7_2);(try clear z7_3);obtain ⟨kq, x3_5, rfl, HA, HJ5, BK382, HB⟩ := hcut
   cases kq with
   | zero => exact absurd HA.out (by simp [impl_longDate.j0])
   | succ kj5 =>
    have H := HA.out;clear HA;simp only [impl_longDate.j0] at H;by_cases c12 : 0 ≤ a0_1
    ·rw [if_pos c12] at H
     have c12b0 : decide (0 ≤ a0_1) = true := dT c12;clear c12;by_cases c13 : a0_1 < 13
     ·rw [if_pos c13] at H
      have c13b0 : decide (a0_1 < 13) = true := dT c13;clear c13;replace H := oB.mp H;obtain ⟨t385, A140, H⟩ := H;(try dsimp only at H);have A14 := AM A140;clear A140
      obtain ⟨y386, hy386⟩ : ∃ y_ : List ByteArray, y_ = (([x3_5, rdOf ByteArray.empty Go.Proofs.YthcccgnhokncdaaGreatDoorW.Envs.strs1 a0_1, t385] : List ByteArray)) := ⟨_, rfl⟩
      (replace H : ((impl_spaced.f y386).bind fun t389 => (if a0_3 = true then (if 4 + t389.size ≤ 9223372036854775807 then (some ((⟨#[99, 97, 46, 32]⟩ : ByteArray) ++ t389)) else (none)) else (some t389))) = some r := by first | (rw [hy386]; with_reducible exact H) | (have H2_ := (Option.bind_some _ _).symm.trans H; rw [hy386]; with_reducible exact H2_) | (have H2_ := (Option.bind_some _ _).symm.trans H; with_reducible exact H2_) | with_reducible exact H | (rw [hy386]; exact H) | exact H);have Ny386 := AM hy386;clear hy386;replace H := oB.mp H;obtain ⟨t389, A150, H⟩ := H;(try dsimp only at H);have A15 := AM A150;clear A150;have HC16 := AM H;clear H;(try go_wp2);replace BK382 := AM (bW BK382.out);replace HB := AM (p1 HB.out);have p384 : 0 ≤ (a0_1 : Int) := oD (by assumption);have q384 : a0_1 < (Go.Proofs.YthcccgnhokncdaaGreatDoorW.Envs.strs1.length : Int) := oD (by assumption);have ql384 : ((a0_1 : Int) < (13 : Int)) = True := eq_true (oD (by assumption));obtain ⟨ad384, e384, hx384_0⟩ := Kd.at_string HRG1.out a0_1 p384 q384;have hw384_0 := hx384_0
      obtain rfl : (⟨1, 0, none⟩ : Addr) = ad384 := (by injection e384)
      (first | simp only [add_plain] at hx384_0 | simp only [add_at] at hx384_0 | simp only [Addr.add, Nat.zero_add] at hx384_0 | skip);replace hx384_0 := (HB.out.cell (World.block_lt_of_cell? w _ hx384_0)).trans hx384_0;replace p384 := eq_true p384;replace q384 := eq_true q384;(refine start_ (n := 11) (S := fun w' => w'.cell? ⟨gb382, 0, none⟩ = some (.int .i64 a0_0) ∧ w'.cell? ⟨gb382, 1, none⟩ = some (.int .i64 a0_1) ∧ w'.cell? ⟨gb382, 2, none⟩ = some (.int .i64 a0_2) ∧ w'.cell? ⟨gb382, 3, none⟩ = some (.bool a0_3) ∧ w'.cell? ⟨1, (a0_1).toNat, none⟩ = some (.string (rdOf ByteArray.empty Go.Proofs.YthcccgnhokncdaaGreatDoorW.Envs.strs1 a0_1))) (ds := []) (bA 11 0) (by kernel_rfl) rfl rfl ⟨(bC BK382.out 0).trans rfl, (bC BK382.out 1).trans rfl, (bC BK382.out 2).trans rfl, (bC BK382.out 3).trans rfl, (by have z_ := (HB.out.cell (World.block_lt_of_cell? w _ hw384_0)).trans hw384_0; first | exact z_ | (simp only [add_plain] at z_; exact z_) | (simp only [Addr.add, Nat.zero_add] at z_; exact z_))⟩ (fun hHeld => ?_); refine with_tabW impl_longDate.tab6 impl_longDate.bits6 (fun HT_ HW_ => ?_));generalize wc.drew = w17 at BK382 HB hx384_0 hHeld ⊢;refine pure_ (i := 0) (N := some 14) (v := ?_) (a' := ?_) (bA 11 1) rfl rfl (any_of HT_.out (by kernel_rfl)) (fun _ _ _ h => h) (Or.inl ⟨by rfl, ?_⟩) ?_ ?_;rotate_left;(·intro w';go_simp;(with_reducible rfl));rotate_left;(·simp only [Act.put, lT, lZ, lS, i64_w, i32_w];rfl);refine pure_ (i := 1) (N := some 15) (v := ?_) (a' := ?_) (bA 11 3) rfl rfl (any_of HT_.out (by kernel_rfl)) (fun _ _ _ h => h) (Or.inl ⟨by rfl, ?_⟩) ?_ ?_;rotate_left;(·intro w';go_simp;(with_reducible rfl));rotate_left;(·simp only [Act.put, lT, lZ, lS, i64_w, i32_w];rfl);refine pure_ (i := 5) (N := some 19) (v := ?_) (a' := ?_) (bA 11 35) rfl rfl (any_of HT_.out (by kernel_rfl)) (fun _ _ _ h => h) (Or.inl ⟨by rfl, ?_⟩) ?_ ?_;rotate_left;(·intro w';go_simp;(with_reducible rfl));rotate_left;(·simp only [Act.put, lT, lZ, lS, i64_w, i32_w];rfl);refine take_ (i := 2) (N := some 16) (v := ?_) (a' := ?_) (bA 11 39) rfl rfl (take_ofW HT_.out HW_.out (by kernel_rfl)) (fun _ _ _ h => h) (Or.inl ⟨by rfl, ?_⟩) hHeld ?_ ?_;rotate_left;(·rintro w' ⟨s0, s1, s2, s3, s4⟩;go_simp;(with_reducible rfl));rotate_left;(·simp only [Act.put, lT, lZ, lS, i64_w, i32_w];rfl);refine pure_ (i := 3) (N := some 17) (v := ?_) (a' := ?_) (bA 11 47) rfl rfl (any_of HT_.out (by kernel_rfl)) (fun _ _ _ h => h) (Or.inl ⟨by rfl, ?_⟩) ?_ ?_;rotate_left;(·intro w';go_simp;(with_reducible rfl));rotate_left;(·simp only [Act.put, lT, lZ, lS, i64_w, i32_w];rfl);refine take_ (i := 4) (N := some 18) (v := ?_) (a' := ?_) (bA 11 63) rfl rfl (take_ofW HT_.out HW_.out (by kernel_rfl)) (fun _ _ _ h => h) (Or.inl ⟨by rfl, ?_⟩) hHeld ?_ ?_;rotate_left;(·rintro w' ⟨s0, s1, s2, s3, s4⟩;go_simp;(with_reducible rfl));rotate_left;(·simp only [Act.put, lT, lZ, lS, i64_w, i32_w];rfl);refine take_ (i := 6) (N := some 20) (v := ?_) (a' := ?_) (bA 11 127) rfl rfl (take_ofW HT_.out HW_.out (by kernel_rfl)) (fun _ _ _ h => h) (Or.inl ⟨by rfl, ?_⟩) hHeld ?_ ?_;rotate_left;(·rintro w' ⟨s0, s1, s2, s3, s4⟩;go_simp;(with_reducible rfl));rotate_left;(·simp only [Act.put, lT, lZ, lS, i64_w, i32_w];rfl);refine one_ (i := 7) (N := some 21) (bA 11 255) rfl rfl (one_of HT_.out (by kernel_rfl)) (by decide) (fun K hK => ?_);refine goes_ Tryz.func66 (by kernel_rfl) rfl #[.int .i64 a0_0] (by rfl) rfl rfl (by (try simp only [mT, mC, mN]); try rfl) ?_;(with_reducible refine (strconv_Itoa_66.calls a0_0 t385 _ ?side1 A14.out).mono ?_);(case side1 => exact Go.Proofs.YthcccgnhokncdaaGreatDoorW.Envs.Env.below (Go.Proofs.YthcccgnhokncdaaGreatDoorW.Envs.Env.sub HENV.out (S := [1]) (by decide)) (by with_reducible repeat first | exact HB.out | apply pA | apply pN | apply p1 | refine pS ?_ GE382.out));rintro e w18 ⟨rfl, hb⟩;refine ⟨_, rfl, ?_⟩;replace BK382 := AM (bB (by (with_reducible repeat first | apply bN | apply bW | apply bL); exact BK382.out) hb);replace HB := AM (bS (by with_reducible repeat first | exact HB.out | apply pA | apply pN | apply p1 | refine pS ?_ GE382.out) hb);(try clear hb);refine hK.out _ _ ⟨(bC BK382.out 0).trans rfl, (bC BK382.out 1).trans rfl, (bC BK382.out 2).trans rfl, (bC BK382.out 3).trans rfl, (by have z_ := (HB.out.cell (World.block_lt_of_cell? w _ hw384_0)).trans hw384_0; first | exact z_ | (simp only [add_plain] at z_; exact z_) | (simp only [Addr.add, Nat.zero_add] at z_; exact z_))⟩ (fun hHeld => ?_);clear hK K;refine norm_ (a' := ?_) ?_ ?_;rotate_left
      ·show Act.put _ (some 21) _ = _
       simp only [Act.put, lT, lZ, lS, i64_w, i32_w];rfl
      refine one_ (i := 8) (N := some 22) (bA 11 511) rfl rfl (one_of HT_.out (by kernel_rfl)) (by decide) (fun K hK => ?_);(refine Kd.R_lit_step Kd.string _ 9 ?hg (N := 22) ?hd (xs := ([x3_5, rdOf ByteArray.empty Go.Proofs.YthcccgnhokncdaaGreatDoorW.Envs.strs1 a0_1, t385] : List ByteArray)) (inner := [.string x3_5, .string (rdOf ByteArray.empty Go.Proofs.YthcccgnhokncdaaGreatDoorW.Envs.strs1 a0_1), .string t385]) (ok := fun _ => True) (okp := fun _ => True) ?hr ?hp (fun _ hk => hk) trivial (Below.refl _ _) (Nat.le_refl _) (by simp) ?_; (case hd => rfl); (case hg => rfl); (case hr => first | (go_simp; done) | (go_simp; rfl)); (case hp => exact (Reps.one (show Kd.M Kd.string _ _ _ x3_5 [.string x3_5] from rfl) (Reps.one (show Kd.M Kd.string _ _ _ (rdOf ByteArray.empty Go.Proofs.YthcccgnhokncdaaGreatDoorW.Envs.strs1 a0_1) [.string (rdOf ByteArray.empty Go.Proofs.YthcccgnhokncdaaGreatDoorW.Envs.strs1 a0_1)] from rfl) (Reps.one (show Kd.M Kd.string _ _ _ t385 [.string t385] from rfl) (Reps.none _ _))))));intro v387 w19 ho20 hb hg_ hnew_;clear hg_ hnew_;(first | rw [← Ny386.out] at ho20 | (simp only [Int.reduceToNat] at ho20; rw [← Ny386.out] at ho20));have HO388 := AM (Kd.R_lower ho20 (bZ (by with_reducible repeat first | exact HB.out | apply pA | apply pN | apply p1 | refine pS ?_ GE382.out)));replace BK382 := AM (bB (by (with_reducible repeat first | apply bN | apply bW | apply bL); exact BK382.out) hb);replace HB := AM (bS (by with_reducible repeat first | exact HB.out | apply pA | apply pN | apply p1 | refine pS ?_ GE382.out) hb);clear hb ho20;obtain ⟨Ao21, co21, eo21⟩ := Kd.R_slice HO388.out;(first | subst eo21 | (injection eo21 with f1_ f2_ f3_; have f4_ := f1_.symm; have f5_ := f3_.symm; clear f1_ f2_ f3_; subst f4_; subst f5_));refine hK.out _ _ ⟨(bC BK382.out 0).trans rfl, (bC BK382.out 1).trans rfl, (bC BK382.out 2).trans rfl, (bC BK382.out 3).trans rfl, (by have z_ := (HB.out.cell (World.block_lt_of_cell? w _ hw384_0)).trans hw384_0; first | exact z_ | (simp only [add_plain] at z_; exact z_) | (simp only [Addr.add, Nat.zero_add] at z_; exact z_))⟩ (fun hHeld => ?_);clear hK K;refine norm_ (a' := ?_) ?_ ?_;rotate_left
      ·show Act.put _ (some 22) _ = _
       simp only [Act.put, lT, lZ, lS, i64_w, i32_w];rfl
      refine one_ (i := 9) (N := some 23) (bA 11 1023) rfl rfl (one_of HT_.out (by kernel_rfl)) (by decide) (fun K hK => ?_);refine goes_ Tryz.func67 (by kernel_rfl) rfl #[.slice Ao21 y386.length co21] (by rfl) rfl rfl (by (try simp only [mT, mC, mN]); try rfl) ?_;(with_reducible refine (impl_spaced.calls (fun k_ => some k_ = (.slice Ao21 y386.length co21 : Value).ownBlock) (.slice Ao21 y386.length co21) y386 t389 w _ ?side1 ?side2 A15.out).mono ?_);(case side1 => repeat (first | (with_reducible first | exact HB.out | apply pA | apply pN | apply p1 | refine pS ?_ GE382.out)));(case side2 => exact Kd.R_tight rfl HO388.out);rintro e w22 ⟨rfl, hb, hkp⟩;refine ⟨_, rfl, ?_⟩;replace BK382 := AM (blk_kept (by (with_reducible repeat first | apply bN | apply bW | apply bL); exact BK382.out) hkp (fun hs_ => (fun e_ => (Kd.R_ne HO388.out BK382.out (by decide)) e_) hs_));replace HB := AM (hb);clear HO388;(try clear hb);(try clear hkp);refine hK.out _ _ ⟨(bC BK382.out 0).trans rfl, (bC BK382.out 1).trans rfl, (bC BK382.out 2).trans rfl, (bC BK382.out 3).trans rfl, (by have z_ := (HB.out.cell (World.block_lt_of_cell? w _ hw384_0)).trans hw384_0; first | exact z_ | (simp only [add_plain] at z_; exact z_) | (simp only [Addr.add, Nat.zero_add] at z_; exact z_))⟩ (fun hHeld => ?_);clear hK K;refine norm_ (a' := ?_) ?_ ?_;rotate_left
      ·show Act.put _ (some 23) _ = _
       simp only [Act.put, lT, lZ, lS, i64_w, i32_w];rfl
      refine pure_ (i := 10) (N := some 4) (v := ?_) (a' := ?_) (bA 11 2047) rfl rfl (any_of HT_.out (by kernel_rfl)) (fun _ _ _ h => h) (Or.inl ⟨by rfl, ?_⟩) ?_ ?_;rotate_left;(·intro w';go_simp;(with_reducible rfl));rotate_left;(·simp only [Act.put, lT, lZ, lS, i64_w, i32_w];rfl);refine done_ (done_of HT_.out (by kernel_rfl)) ?_;obtain ⟨z23_0, z23_1, z23_2, z23_3⟩ := cells4 BK382.out
      go_upto_if 25 with (fail)
      have H := HC16.out;clear HC16;by_cases c24 : a0_3 = true;(·subst c24;rw [if_pos rfl] at H;by_cases c25 : 4 + t389.size ≤ 9223372036854775807;(·rw [if_pos c25] at H;have c25b0 := eq_true c25;have c25b1 : decide (4 + t389.size ≤ 9223372036854775807) = true := dT c25;(try have c25b2 : (9223372036854775807 < 4 + t389.size) = False := eq_false (Nat.not_lt.2 c25));obtain rfl := oI H;(go_wp2);(go_ret);exact ⟨rfl, by with_reducible repeat first | exact HB.out | apply pA | apply pN | apply p1 | refine pS ?_ GE382.out⟩);(·rw [if_neg c25] at H;exact absurd H (by simp)));(·replace c24 := Bool.eq_false_iff.mpr c24;subst c24;rw [if_neg (show ¬ (false = true) by decide)] at H;obtain rfl := oI H;(go_wp2);(go_ret);exact ⟨rfl, by with_reducible repeat first | exact HB.out | apply pA | apply pN | apply p1 | refine pS ?_ GE382.out⟩)
     ·rw [if_neg c13] at H
      exact absurd H (by simp)
    ·rw [if_neg c12] at H
     exact absurd H (by simp)
/-! ### impl_yearText: function 43 -/
def impl_yearText.f (a0_0 : Int) (a0_1 : Int) (a0_2 : Int) (a0_3 : Bool) : Option (ByteArray) := if a0_0 = 0 then (some (⟨#[]⟩ : ByteArray)) else (if a0_3 = true then ((strconv_Itoa_66.f a0_0).bind fun t391 => (if 4 + t391.size ≤ 9223372036854775807 then (some ((⟨#[99, 97, 46, 32]⟩ : ByteArray) ++ t391)) else (none))) else ((strconv_Itoa_66.f a0_0).bind fun t392 => (some t392)))
theorem impl_yearText.calls (a0_0 : Int) (a0_1 : Int) (a0_2 : Int) (a0_3 : Bool) (r : ByteArray) (w : World) (henv : Go.Proofs.YthcccgnhokncdaaGreatDoorW.Envs.Env [1] w) (h : impl_yearText.f a0_0 a0_1 a0_2 a0_3 = some r) :
  Calls Tryz.prog 43 #[.agg #[.int .i64 a0_0, .int .i64 a0_1, .int .i64 a0_2, .bool a0_3]] w fun e w' => e = .returned (.string r) ∧ Below w.heap.size w w' := by
 have hu31 := Tryz.underlying31;have HB := AM (Below.refl w.heap.size w);have HENV := AM henv;clear henv;have H := h;unfold impl_yearText.f at H;clear h;have HC2 := AM H;clear H;(go_enter Tryz.func43, Tryz.ntmps43)
 go_upto_if 5 with (first | ((with_reducible refine gD (N := 1) rfl ?_); refine box_event ?hg (N := 1) ?hd (cs := #[.int .i64 a0_0, .int .i64 a0_1, .int .i64 a0_2, .bool a0_3]) (t := 31) ?hr ?_; (case hd => rfl); (case hg => rfl); (case hr => first | (go_simp; done) | (go_simp; rfl)); intro gb390 hg w3 hbox hb; have BK390 := AM (hbox); have GW390 := AM ((by rw [hg]; exact (bZ (by with_reducible repeat first | exact HB.out | apply pA | apply pN | apply p1)) : w.heap.size ≤ gb390)); have GE390 := AM ((by rw [hg]; exact (bZ (by with_reducible repeat first | exact HB.out | apply pA | apply pN | apply p1)) : w.heap.size ≤ gb390)); replace HB := AM (bS (by with_reducible repeat first | exact HB.out | apply pA | apply pN | apply p1) hb); clear hb hbox hg; obtain ⟨z4_0, z4_1, z4_2, z4_3⟩ := cells4 BK390.out))
 have H := HC2.out;clear HC2;by_cases c5 : a0_0 = 0;(·rw [if_pos c5] at H;have c5b0 : (a0_0 == 0) = true := beq_iff_eq.mpr c5;have c5b1 : (a0_0 != 0) = false := bne_eq_false_iff_eq.mpr c5;clear c5;(first | rw [c5b0] | rw [c5b1] | rw [c5b2] | (simp only [i64_w, i32_w]; rw [c5b0]) | skip);obtain rfl := oI H;(go_wp2);(go_ret);exact ⟨rfl, by with_reducible repeat first | exact HB.out | apply pA | apply pN | apply p1 | refine pS ?_ GE390.out⟩)
 ·rw [if_neg c5] at H
  have c5b0 : (a0_0 == 0) = false := beq_eq_false_iff_ne.mpr c5;have c5b1 : (a0_0 != 0) = true := bne_iff_ne.mpr c5;(first | rw [c5b0] | rw [c5b1] | rw [c5b2] | (simp only [i64_w, i32_w]; rw [c5b0]) | skip);by_cases c6 : a0_3 = true
  ·subst c6
   rw [if_pos rfl] at H;replace H := oB.mp H;obtain ⟨t391, A70, H⟩ := H;(try dsimp only at H);have A7 := AM A70;clear A70;by_cases c8 : 4 + t391.size ≤ 9223372036854775807
   ·rw [if_pos c8] at H
    have c8b0 := eq_true c8;have c8b1 : decide (4 + t391.size ≤ 9223372036854775807) = true := dT c8;(try have c8b2 : (9223372036854775807 < 4 + t391.size) = False := eq_false (Nat.not_lt.2 c8));obtain rfl := oI H;obtain ⟨z9_0, z9_1, z9_2, z9_3⟩ := cells4 BK390.out
    go_wp2_with (first | ((with_reducible refine gC (f := 66) rfl ?_); refine gL (some 10) rfl rfl Tryz.func66 (by kernel_rfl) rfl #[.int .i64 a0_0] rfl (by (try simp only [mT, mC, mN]); try rfl) ?_; (with_reducible refine (strconv_Itoa_66.calls a0_0 t391 _ ?side1 A7.out).mono ?_); (case side1 => exact Go.Proofs.YthcccgnhokncdaaGreatDoorW.Envs.Env.below HENV.out (by with_reducible repeat first | exact HB.out | apply pA | apply pN | apply p1 | refine pS ?_ GE390.out)); rintro e w10 ⟨rfl, hb⟩; refine ⟨_, rfl, ?_⟩; replace BK390 := AM (bB (by (with_reducible repeat first | apply bN | apply bW | apply bL); exact BK390.out) hb); replace HB := AM (bS (by with_reducible repeat first | exact HB.out | apply pA | apply pN | apply p1 | refine pS ?_ GE390.out) hb); (try clear hb)))
    (go_ret);exact ⟨rfl, by with_reducible repeat first | exact HB.out | apply pA | apply pN | apply p1 | refine pS ?_ GE390.out⟩
   ·rw [if_neg c8] at H
    exact absurd H (by simp)
  ·replace c6 := bE.mpr c6
   subst c6;rw [if_neg (show ¬ (false = true) by decide)] at H;replace H := oB.mp H;obtain ⟨t392, A110, H⟩ := H;(try dsimp only at H);have A11 := AM A110;clear A110;obtain rfl := oI H;obtain ⟨z12_0, z12_1, z12_2, z12_3⟩ := cells4 BK390.out
   go_wp2_with (first | ((with_reducible refine gC (f := 66) rfl ?_); refine gL (some 14) rfl rfl Tryz.func66 (by kernel_rfl) rfl #[.int .i64 a0_0] rfl (by (try simp only [mT, mC, mN]); try rfl) ?_; (with_reducible refine (strconv_Itoa_66.calls a0_0 t392 _ ?side1 A11.out).mono ?_); (case side1 => exact Go.Proofs.YthcccgnhokncdaaGreatDoorW.Envs.Env.below HENV.out (by with_reducible repeat first | exact HB.out | apply pA | apply pN | apply p1 | refine pS ?_ GE390.out)); rintro e w13 ⟨rfl, hb⟩; refine ⟨_, rfl, ?_⟩; replace BK390 := AM (bB (by (with_reducible repeat first | apply bN | apply bW | apply bL); exact BK390.out) hb); replace HB := AM (bS (by with_reducible repeat first | exact HB.out | apply pA | apply pN | apply p1 | refine pS ?_ GE390.out) hb); (try clear hb)))
   (go_ret);exact ⟨rfl, by with_reducible repeat first | exact HB.out | apply pA | apply pN | apply p1 | refine pS ?_ GE390.out⟩
/-! ### impl_inverseForm: function 93 -/
def impl_inverseForm.j0 : Nat → ByteArray → Bool → List ByteArray → ByteArray → ByteArray → ByteArray → Option (ByteArray)
 | 0, _, _, _, _, _, _ => none
 | k + 1, x3, x18, x394000, x394001, x394002, x394003 => if x18 = true then ((strings_Join.f x394000 (⟨#[32]⟩ : ByteArray)).bind fun t398 => (if 2 + t398.size ≤ 9223372036854775807 then (if x3.size + ((⟨#[44, 32]⟩ : ByteArray) ++ t398).size ≤ 9223372036854775807 then (if x394003.toList = ([] : List UInt8) then (some (x3 ++ ((⟨#[44, 32]⟩ : ByteArray) ++ t398))) else (if 2 + x394003.size ≤ 9223372036854775807 then (if (x3 ++ ((⟨#[44, 32]⟩ : ByteArray) ++ t398)).size + ((⟨#[44, 32]⟩ : ByteArray) ++ x394003).size ≤ 9223372036854775807 then (some ((x3 ++ ((⟨#[44, 32]⟩ : ByteArray) ++ t398)) ++ ((⟨#[44, 32]⟩ : ByteArray) ++ x394003))) else (none)) else (none))) else (none)) else (none))) else (if x394003.toList = ([] : List UInt8) then (some x3) else (if 2 + x394003.size ≤ 9223372036854775807 then (if x3.size + ((⟨#[44, 32]⟩ : ByteArray) ++ x394003).size ≤ 9223372036854775807 then (some (x3 ++ ((⟨#[44, 32]⟩ : ByteArray) ++ x394003))) else (none)) else (none)))
def impl_inverseForm.f (k : Nat) (l0_0 : List ByteArray) (a0_1 : ByteArray) (a0_2 : ByteArray) (a0_3 : ByteArray) : Option (ByteArray) := (impl_spaced.f (([a0_1, a0_2] : List ByteArray))).bind fun t397 => (if (l0_0.length : Int) > 0 then (impl_inverseForm.j0 k t397 true l0_0 a0_1 a0_2 a0_3) else (impl_inverseForm.j0 k t397 (a0_3.toList != ([] : List UInt8)) l0_0 a0_1 a0_2 a0_3))
theorem impl_inverseForm.mono_l : ∀ k, (∀ y0 y1 y2 y3 y4 y5, LeO (impl_inverseForm.j0 k y0 y1 y2 y3 y4 y5) (impl_inverseForm.j0 (k + 1) y0 y1 y2 y3 y4 y5))
 | 0 => fun _ _ _ _ _ _ r h => by simp [impl_inverseForm.j0] at h
 | k + 1 => by
  have ih0 := impl_inverseForm.mono_l k
  ·intro y0 y1 y2 y3 y4 y5
   unfold impl_inverseForm.j0
   repeat' with_reducible first
   | exact ih0 _ _ _ _ _ _
   | exact LeO.refl _
   | exact LeO.none _
   | refine LeO.ite ?_ ?_
   | refine LeO.bind ?_ (fun _ => ?_)
theorem impl_inverseForm.mono : ∀ a0 a1 a2 a3 k, LeO (impl_inverseForm.f k a0 a1 a2 a3) (impl_inverseForm.f (k + 1) a0 a1 a2 a3) := by
 intro a0 a1 a2 a3 k;have ih0 := impl_inverseForm.mono_l k;unfold impl_inverseForm.f
 repeat' with_reducible first
   | exact ih0 _ _ _ _ _ _
   | exact LeO.refl _
   | exact LeO.none _
   | refine LeO.ite ?_ ?_
   | refine LeO.bind ?_ (fun _ => ?_)
theorem impl_inverseForm.calls (k : Nat) (A0_0 : Option Addr) (c0_0 : Nat) (l0_0 : List ByteArray) (a0_1 : ByteArray) (a0_2 : ByteArray) (a0_3 : ByteArray) (r : ByteArray) (w : World) (hr0_0 : Kd.C Kd.string w A0_0 l0_0.length l0_0) (hc0_0 : l0_0.length ≤ c0_0) (h : impl_inverseForm.f k l0_0 a0_1 a0_2 a0_3 = some r) :
  Calls Tryz.prog 93 #[.agg #[.slice A0_0 l0_0.length c0_0, .string a0_1, .string a0_2, .string a0_3]] w fun e w' => e = .returned (.string r) ∧ Below w.heap.size w w' := by
 have hu61 := Tryz.underlying61;have HR0_0 := AM hr0_0;have HC0_0 := AM hc0_0;clear hr0_0 hc0_0;have HB := AM (Below.refl w.heap.size w);have H := h;unfold impl_inverseForm.f at H;clear h
 obtain ⟨y394, hy394⟩ : ∃ y_ : List ByteArray, y_ = (([a0_1, a0_2] : List ByteArray)) := ⟨_, rfl⟩
 (replace H : ((impl_spaced.f y394).bind fun t397 => (if (l0_0.length : Int) > 0 then (impl_inverseForm.j0 k t397 true l0_0 a0_1 a0_2 a0_3) else (impl_inverseForm.j0 k t397 (a0_3.toList != ([] : List UInt8)) l0_0 a0_1 a0_2 a0_3))) = some r := by first | (rw [hy394]; with_reducible exact H) | (have H2_ := (Option.bind_some _ _).symm.trans H; rw [hy394]; with_reducible exact H2_) | (have H2_ := (Option.bind_some _ _).symm.trans H; with_reducible exact H2_) | with_reducible exact H | (rw [hy394]; exact H) | exact H);have Ny394 := AM hy394;clear hy394;replace H := oB.mp H;obtain ⟨t397, A20, H⟩ := H;(try dsimp only at H);have A2 := AM A20;clear A20;have HC3 := AM H;clear H;(go_enter Tryz.func93, Tryz.ntmps93)
 go_upto_region 2 with (first | ((with_reducible refine gD (N := 1) rfl ?_); refine box_event ?hg (N := 1) ?hd (cs := #[.slice A0_0 l0_0.length c0_0, .string a0_1, .string a0_2, .string a0_3]) (t := 61) ?hr ?_; (case hd => rfl); (case hg => rfl); (case hr => first | (go_simp; done) | (go_simp; rfl)); intro gb393 hg w4 hbox hb; have BK393 := AM (hbox); have GW393 := AM ((by rw [hg]; exact (bZ (by with_reducible repeat first | exact HB.out | apply pA | apply pN | apply p1)) : w.heap.size ≤ gb393)); have GE393 := AM ((by rw [hg]; exact (bZ (by with_reducible repeat first | exact HB.out | apply pA | apply pN | apply p1)) : w.heap.size ≤ gb393)); replace HB := AM (bS (by with_reducible repeat first | exact HB.out | apply pA | apply pN | apply p1) hb); clear hb hbox hg; obtain ⟨z5_0, z5_1, z5_2, z5_3⟩ := cells4 BK393.out) | ((with_reducible refine gD (N := 8) rfl ?_); refine Kd.R_lit Kd.string _ 9 ?hg (N := 8) ?hd (xs := ([a0_1, a0_2] : List ByteArray)) (inner := [.string a0_1, .string a0_2]) (ok := fun _ => True) (okp := fun _ => True) ?hr ?hp (fun _ hk => hk) trivial (Below.refl _ _) (Nat.le_refl _) (by simp) ?_; (case hd => rfl); (case hg => rfl); (case hr => first | (go_simp; done) | (go_simp; rfl)); (case hp => exact (Reps.one (show Kd.M Kd.string _ _ _ a0_1 [.string a0_1] from rfl) (Reps.one (show Kd.M Kd.string _ _ _ a0_2 [.string a0_2] from rfl) (Reps.none _ _)))); intro v395 w6 ho7 hb hg_ hnew_; clear hg_ hnew_; (first | rw [← Ny394.out] at ho7 | (simp only [Int.reduceToNat] at ho7; rw [← Ny394.out] at ho7)); have HO396 := AM (Kd.R_lower ho7 (bZ (by with_reducible repeat first | exact HB.out | apply pA | apply pN | apply p1 | refine pS ?_ GE393.out))); replace BK393 := AM (bB (by (with_reducible repeat first | apply bN | apply bW | apply bL); exact BK393.out) hb); replace HB := AM (bS (by with_reducible repeat first | exact HB.out | apply pA | apply pN | apply p1 | refine pS ?_ GE393.out) hb); clear hb ho7; obtain ⟨Ao8, co8, eo8⟩ := Kd.R_slice HO396.out; subst eo8) | ((with_reducible refine gC (f := 67) rfl ?_); refine gL (some 9) rfl rfl Tryz.func67 (by kernel_rfl) rfl #[.slice Ao8 y394.length co8] rfl (by (try simp only [mT, mC, mN]); try rfl) ?_; (with_reducible refine (impl_spaced.calls (fun k_ => some k_ = (.slice Ao8 y394.length co8 : Value).ownBlock) (.slice Ao8 y394.length co8) y394 t397 w _ ?side1 ?side2 A2.out).mono ?_); (case side1 => repeat (first | (with_reducible first | exact HB.out | apply pA | apply pN | apply p1 | refine pS ?_ GE393.out))); (case side2 => exact Kd.R_tight rfl HO396.out); rintro e w9 ⟨rfl, hb, hkp⟩; refine ⟨_, rfl, ?_⟩; replace BK393 := AM (blk_kept (by (with_reducible repeat first | apply bN | apply bW | apply bL); exact BK393.out) hkp (fun hs_ => (fun e_ => (Kd.R_ne HO396.out BK393.out (by decide)) e_) hs_)); replace HB := AM (hb); clear HO396; (try clear hb); (try clear hkp)))
 (try simp only [Act.put, List.setIfInBounds_toArray, List.set_cons_zero, List.set_cons_succ]);(go_cut [18] (fun v18 wc => ∃ (kq : Nat) (x18_2 : Bool), v18 = .bool x18_2 ∧ Aside0 (impl_inverseForm.j0 kq t397 x18_2 l0_0 a0_1 a0_2 a0_3 = some r) ∧ Aside0 (kq ≤ k) ∧ Aside0 (wc.heap[gb393]? = some (.cells #[(.slice A0_0 l0_0.length c0_0), .string a0_1, .string a0_2, .string a0_3] 61 (0, 0))) ∧ Aside0 (Below w.heap.size w wc)))
 case first =>
  have H := HC3.out;clear HC3;by_cases c10 : (l0_0.length : Int) > 0
  ·rw [if_pos c10] at H
   have c10b0 : decide (0 < (l0_0.length : Int)) = true := dT c10;have c10b1 : decide (0 < l0_0.length) = true := dT (by omega);clear c10;(first | rw [c10b0] | rw [c10b1] | rw [c10b2] | (simp only [i64_w, i32_w]; rw [c10b0]) | skip);have H' := AM H;clear H;obtain ⟨z11_0, z11_1, z11_2, z11_3⟩ := cells4 BK393.out;(go_wp2);(go_meet)
   case rel => exact ⟨_, (true), (by first | rfl | (simp; done) | (simp [*]; done)), H', ⟨by first | omega | exact Nat.le_refl _⟩, ⟨by (with_reducible repeat (first | refine bN ?_ _ | refine bW ?_ | refine bL ?_ _)); exact BK393.out⟩, ⟨by with_reducible repeat first | exact HB.out | apply pA | apply pN | apply p1 | refine pS ?_ GE393.out⟩⟩
  ·rw [if_neg c10] at H
   have c10b0 : decide (0 < (l0_0.length : Int)) = false := dF c10;have c10b1 : decide (0 < l0_0.length) = false := dF (by omega);clear c10;(first | rw [c10b0] | rw [c10b1] | rw [c10b2] | (simp only [i64_w, i32_w]; rw [c10b0]) | skip);have H' := AM H;clear H;obtain ⟨z12_0, z12_1, z12_2, z12_3⟩ := cells4 BK393.out;(go_wp2);(go_meet)
   case rel => exact ⟨_, ((a0_3.toList != ([] : List UInt8))), (by first | rfl | (simp; done) | (simp [*]; done) | (refine congrArg Value.bool (Bool.eq_iff_iff.2 ?_); simp [List.isEmpty_iff])), H', ⟨by first | omega | exact Nat.le_refl _⟩, ⟨by (with_reducible repeat (first | refine bN ?_ _ | refine bW ?_ | refine bL ?_ _)); exact BK393.out⟩, ⟨by with_reducible repeat first | exact HB.out | apply pA | apply pN | apply p1 | refine pS ?_ GE393.out⟩⟩
 case rest =>
  clear HC3;(try clear c1);(try clear p2);(try clear c6);(try clear c9);(try clear c10);(try clear c10b0);(try clear c10b1);(try clear c10b2);(try clear z11_0);(try clear z11_1);(try clear z11_2);(try clear z11_3);(try clear z12_0);(try clear z12_1);(try clear z12_2);(try clear z12_3);(try clear z5_0);(try clear z5_1);(try clear z5_2);(try clear z5_3);obtain ⟨kq, x18_2, rfl, HA, HJ2, BK393, HB⟩ := hcut
  cases kq with
  | zero => exact absurd HA.out (by simp [impl_inverseForm.j0])
  | succ kj2 =>
   have H := HA.out;clear HA;simp only [impl_inverseForm.j0] at H;by_cases c13 : x18_2 = true
   ·subst c13
    rw [if_pos rfl] at H;replace H := oB.mp H;obtain ⟨t398, A140, H⟩ := H;(try dsimp only at H);have A14 := AM A140;clear A140;by_cases c15 : 2 + t398.size ≤ 9223372036854775807
    ·rw [if_pos c15] at H
     have c15b0 := eq_true c15;have c15b1 : decide (2 + t398.size ≤ 9223372036854775807) = true := dT c15;(try have c15b2 : (9223372036854775807 < 2 + t398.size) = False := eq_false (Nat.not_lt.2 c15));by_cases c16 : t397.size + ((⟨#[44, 32]⟩ : ByteArray) ++ t398).size ≤ 9223372036854775807
     ·rw [if_pos c16] at H
      have c16b0 := eq_true c16;have c16b1 : decide (t397.size + ((⟨#[44, 32]⟩ : ByteArray) ++ t398).size ≤ 9223372036854775807) = true := dT c16;(try have c16b2 : (9223372036854775807 < t397.size + ((⟨#[44, 32]⟩ : ByteArray) ++ t398).size) = False := eq_false (Nat.not_lt.2 c16));(try have c16b3 : (9223372036854775807 < t397.size + (2 + t398.size)) = False := eq_false (by have h_ := c16; simp only [ByteArray.size_append, ByteArray.size_extract] at h_; (try simp only [show (⟨#[44, 32]⟩ : ByteArray).size = 2 from rfl] at h_); (try have q0_ := of_eq_true c15b0); omega));by_cases c17 : a0_3.toList = ([] : List UInt8)
      ·rw [if_pos c17] at H
       have c17b0 : (a0_3.toList == ([] : List UInt8)) = true := beq_iff_eq.mpr c17;have c17b1 : (a0_3.toList != ([] : List UInt8)) = false := bne_eq_false_iff_eq.mpr c17;clear c17;obtain rfl := oI H;obtain ⟨z18_0, z18_1, z18_2, z18_3⟩ := cells4 BK393.out
       go_wp2_with (first | ((with_reducible refine gC (f := 65) rfl ?_); refine gL (some 22) rfl rfl Tryz.func65 (by kernel_rfl) rfl #[.slice A0_0 l0_0.length c0_0, .string (⟨#[32]⟩ : ByteArray)] rfl (by (try simp only [mT, mC, mN]); try rfl) ?_; (with_reducible refine (strings_Join.calls _ _ l0_0 (⟨#[32]⟩ : ByteArray) t398 _ ?side1 ?side2 A14.out).mono ?_); (case side1 => repeat first | exact (cB HR0_0.out HB.out) | with_reducible first | apply cA | apply cN | apply cD); (case side2 => exact HC0_0.out); rintro e w19 ⟨rfl, hb⟩; refine ⟨_, rfl, ?_⟩; replace BK393 := AM (bB (by (with_reducible repeat first | apply bN | apply bW | apply bL); exact BK393.out) hb); replace HB := AM (bS (by with_reducible repeat first | exact HB.out | apply pA | apply pN | apply p1 | refine pS ?_ GE393.out) hb); (try clear hb); obtain ⟨z20_0, z20_1, z20_2, z20_3⟩ := cells4 BK393.out))
       (go_ret);exact ⟨rfl, by with_reducible repeat first | exact HB.out | apply pA | apply pN | apply p1 | refine pS ?_ GE393.out⟩
      ·rw [if_neg c17] at H
       have c17b0 : (a0_3.toList == ([] : List UInt8)) = false := beq_eq_false_iff_ne.mpr c17;have c17b1 : (a0_3.toList != ([] : List UInt8)) = true := bne_iff_ne.mpr c17;by_cases c21 : 2 + a0_3.size ≤ 9223372036854775807
       ·rw [if_pos c21] at H
        have c21b0 := eq_true c21;have c21b1 : decide (2 + a0_3.size ≤ 9223372036854775807) = true := dT c21;(try have c21b2 : (9223372036854775807 < 2 + a0_3.size) = False := eq_false (Nat.not_lt.2 c21));by_cases c22 : (t397 ++ ((⟨#[44, 32]⟩ : ByteArray) ++ t398)).size + ((⟨#[44, 32]⟩ : ByteArray) ++ a0_3).size ≤ 9223372036854775807
        ·rw [if_pos c22] at H
         have c22b0 := eq_true c22;have c22b1 : decide ((t397 ++ ((⟨#[44, 32]⟩ : ByteArray) ++ t398)).size + ((⟨#[44, 32]⟩ : ByteArray) ++ a0_3).size ≤ 9223372036854775807) = true := dT c22;(try have c22b2 : (9223372036854775807 < (t397 ++ ((⟨#[44, 32]⟩ : ByteArray) ++ t398)).size + ((⟨#[44, 32]⟩ : ByteArray) ++ a0_3).size) = False := eq_false (Nat.not_lt.2 c22));(try have c22b3 : (9223372036854775807 < t397.size + (2 + t398.size) + (2 + a0_3.size)) = False := eq_false (by have h_ := c22; simp only [ByteArray.size_append, ByteArray.size_extract] at h_; (try simp only [show (⟨#[44, 32]⟩ : ByteArray).size = 2 from rfl] at h_); (try have q0_ := of_eq_true c15b0); (try have q3_ := of_eq_true c16b0); (try have q6_ := of_eq_true c17b0); (try have q8_ := of_eq_true c21b0); omega));obtain rfl := oI H;obtain ⟨z23_0, z23_1, z23_2, z23_3⟩ := cells4 BK393.out
         go_wp2_with (first | ((with_reducible refine gC (f := 65) rfl ?_); refine gL (some 22) rfl rfl Tryz.func65 (by kernel_rfl) rfl #[.slice A0_0 l0_0.length c0_0, .string (⟨#[32]⟩ : ByteArray)] rfl (by (try simp only [mT, mC, mN]); try rfl) ?_; (with_reducible refine (strings_Join.calls _ _ l0_0 (⟨#[32]⟩ : ByteArray) t398 _ ?side1 ?side2 A14.out).mono ?_); (case side1 => repeat first | exact (cB HR0_0.out HB.out) | with_reducible first | apply cA | apply cN | apply cD); (case side2 => exact HC0_0.out); rintro e w24 ⟨rfl, hb⟩; refine ⟨_, rfl, ?_⟩; replace BK393 := AM (bB (by (with_reducible repeat first | apply bN | apply bW | apply bL); exact BK393.out) hb); replace HB := AM (bS (by with_reducible repeat first | exact HB.out | apply pA | apply pN | apply p1 | refine pS ?_ GE393.out) hb); (try clear hb); obtain ⟨z25_0, z25_1, z25_2, z25_3⟩ := cells4 BK393.out))
         (go_ret);exact ⟨rfl, by with_reducible repeat first | exact HB.out | apply pA | apply pN | apply p1 | refine pS ?_ GE393.out⟩
        ·rw [if_neg c22] at H
         exact absurd H (by simp)
       ·rw [if_neg c21] at H
        exact absurd H (by simp)
     ·rw [if_neg c16] at H
      exact absurd H (by simp)
    ·rw [if_neg c15] at H
     exact absurd H (by simp)
   ·replace c13 := bE.mpr c13
    subst c13;rw [if_neg (show ¬ (false = true) by decide)] at H;by_cases c26 : a0_3.toList = ([] : List UInt8);(·rw [if_pos c26] at H;have c26b0 : (a0_3.toList == ([] : List UInt8)) = true := beq_iff_eq.mpr c26;have c26b1 : (a0_3.toList != ([] : List UInt8)) = false := bne_eq_false_iff_eq.mpr c26;clear c26;obtain rfl := oI H;obtain ⟨z27_0, z27_1, z27_2, z27_3⟩ := cells4 BK393.out;(go_wp2);(go_ret);exact ⟨rfl, by with_reducible repeat first | exact HB.out | apply pA | apply pN | apply p1 | refine pS ?_ GE393.out⟩);(·rw [if_neg c26] at H;have c26b0 : (a0_3.toList == ([] : List UInt8)) = false := beq_eq_false_iff_ne.mpr c26;have c26b1 : (a0_3.toList != ([] : List UInt8)) = true := bne_iff_ne.mpr c26;by_cases c28 : 2 + a0_3.size ≤ 9223372036854775807;(·rw [if_pos c28] at H;have c28b0 := eq_true c28;have c28b1 : decide (2 + a0_3.size ≤ 9223372036854775807) = true := dT c28;(try have c28b2 : (9223372036854775807 < 2 + a0_3.size) = False := eq_false (Nat.not_lt.2 c28));by_cases c29 : t397.size + ((⟨#[44, 32]⟩ : ByteArray) ++ a0_3).size ≤ 9223372036854775807;(·rw [if_pos c29] at H;have c29b0 := eq_true c29;have c29b1 : decide (t397.size + ((⟨#[44, 32]⟩ : ByteArray) ++ a0_3).size ≤ 9223372036854775807) = true := dT c29;(try have c29b2 : (9223372036854775807 < t397.size + ((⟨#[44, 32]⟩ : ByteArray) ++ a0_3).size) = False := eq_false (Nat.not_lt.2 c29));(try have c29b3 : (9223372036854775807 < t397.size + (2 + a0_3.size)) = False := eq_false (by have h_ := c29; simp only [ByteArray.size_append, ByteArray.size_extract] at h_; (try simp only [show (⟨#[44, 32]⟩ : ByteArray).size = 2 from rfl] at h_); (try have q0_ := of_eq_true c26b0); (try have q2_ := of_eq_true c28b0); omega));obtain rfl := oI H;obtain ⟨z30_0, z30_1, z30_2, z30_3⟩ := cells4 BK393.out;(go_wp2);(go_ret);exact ⟨rfl, by with_reducible repeat first | exact HB.out | apply pA | apply pN | apply p1 | refine pS ?_ GE393.out⟩);(·rw [if_neg c29] at H;exact absurd H (by simp)));(·rw [if_neg c28] at H;exact absurd H (by simp)))
/-! ### impl_namesText: function 68 -/
def impl_namesText.l0 : Nat → List ByteArray → List (S61) → Int → Int → Option (ByteArray)
 | 0, _, _, _, _ => none
 | k + 1, x3, x7, x8, x9 => if x9 < x8 then (if 0 ≤ x9 then (if x9 < (x7.length : Int) then ((impl_inverseForm.f k ((rd_T61 x7 x9).f0) ((rd_T61 x7 x9).f1) ((rd_T61 x7 x9).f2) ((rd_T61 x7 x9).f3)).bind fun t404 => (if x3.length < 8796093022208 then (impl_namesText.l0 k (x3 ++ [t404]) x7 x8 (wrap64 (x9 + 1))) else (none))) else (none)) else (none)) else ((strings_Join.f x3 (⟨#[59, 32]⟩ : ByteArray)).bind fun t408 => (some t408))
def impl_namesText.f (k : Nat) (l0 : List (S61)) : Option (ByteArray) := impl_namesText.l0 k (([] : List ByteArray)) l0 (l0.length : Int) 0
theorem impl_namesText.mono_l : ∀ k, (∀ y0 y1 y2 y3, LeO (impl_namesText.l0 k y0 y1 y2 y3) (impl_namesText.l0 (k + 1) y0 y1 y2 y3))
 | 0 => fun _ _ _ _ r h => by simp [impl_namesText.l0] at h
 | k + 1 => by
  have ih0 := impl_namesText.mono_l k
  ·intro y0 y1 y2 y3
   unfold impl_namesText.l0
   repeat' with_reducible first
   | exact ih0 _ _ _ _
   | exact impl_inverseForm.mono _ _ _ _ _
   | exact LeO.refl _
   | exact LeO.none _
   | refine LeO.ite ?_ ?_
   | refine LeO.bind ?_ (fun _ => ?_)
theorem impl_namesText.mono : ∀ a0 k, LeO (impl_namesText.f k a0) (impl_namesText.f (k + 1) a0) := by
 intro a0 k;have ih0 := impl_namesText.mono_l k;unfold impl_namesText.f
 repeat' with_reducible first
   | exact ih0 _ _ _ _
   | exact impl_inverseForm.mono _ _ _ _ _
   | exact LeO.refl _
   | exact LeO.none _
   | refine LeO.ite ?_ ?_
   | refine LeO.bind ?_ (fun _ => ?_)
theorem impl_namesText.calls (k : Nat) (A0 : Option Addr) (c0 : Nat) (l0 : List (S61)) (r : ByteArray) (w : World) (hr0 : Kd.C k61 w A0 l0.length l0) (hc0 : l0.length ≤ c0) (h : impl_namesText.f k l0 = some r) :
  Calls Tryz.prog 68 #[.slice A0 l0.length c0] w fun e w' => e = .returned (.string r) ∧ Below w.heap.size w w' := by
 have hu61 := Tryz.underlying61;have HR0 := AM hr0;have HC0 := AM hc0;clear hr0 hc0;have HB := AM (Below.refl w.heap.size w);have H := h;unfold impl_namesText.f at H;clear h
 obtain ⟨y399, hy399⟩ : ∃ y_ : List ByteArray, y_ = (([] : List ByteArray)) := ⟨_, rfl⟩
 (replace H : (impl_namesText.l0 k y399 l0 (l0.length : Int) 0) = some r := by first | (rw [hy399]; with_reducible exact H) | (have H2_ := (Option.bind_some _ _).symm.trans H; rw [hy399]; with_reducible exact H2_) | (have H2_ := (Option.bind_some _ _).symm.trans H; with_reducible exact H2_) | with_reducible exact H | (rw [hy399]; exact H) | exact H);have Ny399 := AM hy399;clear hy399;have H' := AM H;clear H;(go_enter Tryz.func68, Tryz.ntmps68)
 go_wp2_with (first | ((with_reducible refine gate_dst (N := 6) rfl ?_); refine Kd.R_lit Kd.string _ 9 ?hg (N := 6) ?hd (xs := ([] : List ByteArray)) (inner := []) (ok := fun _ => True) (okp := fun _ => True) ?hr ?hp (fun _ hk => hk) trivial (Below.refl _ _) (Nat.le_refl _) (by simp) ?_; (case hd => rfl); (case hg => rfl); (case hr => first | (go_simp; done) | (go_simp; rfl)); (case hp => exact (Reps.none _ _)); intro v400 w2 ho3 hb hg_ hnew_; clear hg_ hnew_; (first | rw [← Ny399.out] at ho3 | (simp only [Int.reduceToNat] at ho3; rw [← Ny399.out] at ho3)); have HO401 := AM (Kd.R_lower ho3 (bZ (by with_reducible repeat first | exact HB.out | apply pA | apply pN | apply p1))); replace HB := AM (bS (by with_reducible repeat first | exact HB.out | apply pA | apply pN | apply p1) hb); clear hb ho3))
 go_loopg [3, 9] k (fun kq v3 v9 w' => ∃ (x3_1 : List ByteArray) (x9_1 : Int), v9 = .int .i64 x9_1 ∧ Aside0 (impl_namesText.l0 kq x3_1 l0 (l0.length : Int) x9_1 = some r) ∧ Aside0 (kq ≤ k) ∧ Aside0 (Kd.R Kd.string 9 w' w.heap.size (fun _ => True) v3 x3_1) ∧ Aside0 (Below w.heap.size w w'))
 case atStart => exact ⟨(y399), (0), (by first | rfl | (simp; done) | (simp [*]; done)), H', ⟨Nat.le_refl _⟩, ⟨by (with_reducible repeat (first | apply Kd.R_alloc | apply Kd.R_drewN | apply Kd.R_drew)); exact HO401.out⟩, ⟨by with_reducible repeat first | exact HB.out | apply pA | apply pN | apply p1⟩⟩
 case round =>
  clear H';(try clear p2);obtain ⟨x3_1, x9_1, rfl, HA, HK1, HO_3, HB⟩ := hrel
  cases gk with
  | zero => exact absurd HA.out (by simp [impl_namesText.l0])
  | succ k1 =>
   have H := HA.out;clear HA;simp only [impl_namesText.l0] at H;by_cases c4 : x9_1 < (l0.length : Int)
   ·rw [if_pos c4] at H
    have c4b0 : decide (x9_1 < (l0.length : Int)) = true := dT c4;clear c4;by_cases c5 : 0 ≤ x9_1
    ·rw [if_pos c5] at H
     have c5b0 : decide (0 ≤ x9_1) = true := dT c5;clear c5;by_cases c6 : x9_1 < (l0.length : Int)
     ·rw [if_pos c6] at H
      have c6b0 : decide (x9_1 < (l0.length : Int)) = true := dT c6;clear c6;replace H := oB.mp H;obtain ⟨t404, A70, H⟩ := H;(try dsimp only at H);have A7 := AM A70;clear A70;by_cases c8 : x3_1.length < 8796093022208
      ·rw [if_pos c8] at H
       have LMc8 := AM c8;clear c8
       obtain ⟨y405, hy405⟩ : ∃ y_ : List ByteArray, y_ = (x3_1 ++ [t404]) := ⟨_, rfl⟩
       (replace H : (impl_namesText.l0 k1 y405 l0 (l0.length : Int) (wrap64 (x9_1 + 1))) = some r := by first | (rw [hy405]; with_reducible exact H) | (have H2_ := (Option.bind_some _ _).symm.trans H; rw [hy405]; with_reducible exact H2_) | (have H2_ := (Option.bind_some _ _).symm.trans H; with_reducible exact H2_) | with_reducible exact H | (rw [hy405]; exact H) | exact H);have Ny405 := AM hy405;clear hy405;have H' := AM H;clear H;have p402 : 0 ≤ (x9_1 : Int) := oD (by assumption);have q402 : x9_1 < (l0.length : Int) := oD (by assumption);obtain ⟨ad402, A402_0, c402_0, e402, hx402_0, hx402_1, hx402_2, hx402_3, hl402_0, hi402_0⟩ := at_T61 HR0.out x9_1 p402 q402;cases e402;replace hx402_0 := (HB.out.cell (World.block_lt_of_cell? w _ hx402_0)).trans hx402_0;replace hx402_1 := (HB.out.cell (World.block_lt_of_cell? w _ hx402_1)).trans hx402_1;replace hx402_2 := (HB.out.cell (World.block_lt_of_cell? w _ hx402_2)).trans hx402_2;replace hx402_3 := (HB.out.cell (World.block_lt_of_cell? w _ hx402_3)).trans hx402_3;have HR402_0 := AM hi402_0;have HC402_0 := AM hl402_0;clear hi402_0 hl402_0;replace p402 := eq_true p402;replace q402 := eq_true q402
       go_wp2_with (first | ((with_reducible refine gate_dst (N := 5) rfl ?_); refine box_event ?hg (N := 5) ?hd (cs := #[.slice none 0 0, .string (⟨#[]⟩ : ByteArray), .string (⟨#[]⟩ : ByteArray), .string (⟨#[]⟩ : ByteArray)]) (t := 61) ?hr ?_; (case hd => rfl); (case hg => rfl); (case hr => first | (go_simp; done) | (go_simp; rfl)); intro gb403 hg w9 hbox hb; replace HO_3 := AM (Kd.R_below (by (with_reducible repeat (first | apply Kd.R_alloc | apply Kd.R_drewN | apply Kd.R_drew)); exact HO_3.out) hb); have BK403 := AM (hbox); have GW403 := AM ((by rw [hg]; exact (bZ (by with_reducible repeat first | exact HB.out | apply pA | apply pN | apply p1)) : w.heap.size ≤ gb403)); have GE403 := AM ((by rw [hg]; exact (bZ (by with_reducible repeat first | exact HB.out | apply pA | apply pN | apply p1)) : w.heap.size ≤ gb403)); replace HB := AM (bS (by with_reducible repeat first | exact HB.out | apply pA | apply pN | apply p1) hb); clear hb hbox hg; obtain ⟨z10_0, z10_1, z10_2, z10_3⟩ := cells4 BK403.out; have Y10_0 := bF BK403.out 0; have Y10_1 := bF BK403.out 1; have Y10_2 := bF BK403.out 2; have Y10_3 := bF BK403.out 3) | ((with_reducible refine gC (f := 93) rfl ?_); refine goesL_ (some 15) rfl rfl Tryz.func93 (by kernel_rfl) rfl #[.agg #[.slice A402_0 ((rd_T61 l0 x9_1).f0).length c402_0, .string ((rd_T61 l0 x9_1).f1), .string ((rd_T61 l0 x9_1).f2), .string ((rd_T61 l0 x9_1).f3)]] rfl (by (try simp only [mT, mC, mN]); try rfl) ?_; (with_reducible refine (impl_inverseForm.calls k1 _ _ ((rd_T61 l0 x9_1).f0) ((rd_T61 l0 x9_1).f1) ((rd_T61 l0 x9_1).f2) ((rd_T61 l0 x9_1).f3) t404 _ ?side1 ?side2 A7.out).mono ?_); (case side1 => exact Kd.C_below HR402_0.out (by with_reducible repeat first | exact HB.out | apply pA | apply pN | apply p1 | refine pS ?_ GE403.out)); (case side2 => exact HC402_0.out); rintro e w11 ⟨rfl, hb⟩; refine ⟨_, rfl, ?_⟩; replace HO_3 := AM (Kd.R_below (by (with_reducible repeat (first | apply Kd.R_alloc | apply Kd.R_drewN | apply Kd.R_drew)); exact (Kd.R_mono (Kd.R_far (p := ⟨gb403, 3, none⟩) (Kd.R_far (p := ⟨gb403, 2, none⟩) (Kd.R_far (p := ⟨gb403, 1, none⟩) (Kd.R_far (p := ⟨gb403, 0, none⟩) (Kd.R_types HO_3.out BK403.out (by decide)) (fun _ hk => hk.2) (.slice A402_0 ((rd_T61 l0 x9_1).f0).length c402_0)) (fun _ hk => hk.2) (.string ((rd_T61 l0 x9_1).f1))) (fun _ hk => hk.2) (.string ((rd_T61 l0 x9_1).f2))) (fun _ hk => hk.2) (.string ((rd_T61 l0 x9_1).f3))) (fun _ h_ => h_.1))) hb); replace BK403 := AM (blk_below (g := gb403) (o := .cells #[.slice A402_0 ((rd_T61 l0 x9_1).f0).length c402_0, .string ((rd_T61 l0 x9_1).f1), .string ((rd_T61 l0 x9_1).f2), .string ((rd_T61 l0 x9_1).f3)] 61 (0, 0)) (by (with_reducible repeat (first | refine bN ?_ _ | refine bW ?_ | refine bL ?_ _)); refine bP4 (.slice none 0 0) (.string (⟨#[]⟩ : ByteArray)) (.string (⟨#[]⟩ : ByteArray)) (.string (⟨#[]⟩ : ByteArray)) ?_ _ _ _ _; (with_reducible repeat (first | refine bN ?_ _ | refine bW ?_ | refine bL ?_ _)); exact BK403.out) hb); replace HB := AM (bS (by with_reducible repeat first | exact HB.out | apply pA | apply pN | apply p1 | refine pS ?_ GE403.out) hb); (try clear hb)) | ((with_reducible refine gate_builtin (b := .append) (xs := #[.tmp 13, .tmp 16]) rfl ?_); at_builtin; refine Kd.R_append Kd.string (w0 := w) w.heap.size rfl (.tmp 13) (.tmp 16) 51 9 (.string ⟨#[]⟩) 16 rfl Tryz.underlying51 info9 rfl (by decide) (by omega) u3 x3_1 t404 [.string t404] (fun _ => True) (fun _ => False) rfl rfl ?aP (fun _ hk => hk.elim) ?aF ?aO ?aB ?aS ?aL ?_; (case aP => exact rfl); (case aB => exact (by with_reducible repeat first | exact HB.out | apply pA | apply pN | apply p1 | refine pS ?_ GE403.out)); (case aF => exact (fun _ _ => trivial)); (case aO => exact (by (with_reducible repeat (first | apply Kd.R_alloc | apply Kd.R_drewN | apply Kd.R_drew)); exact HO_3.out)); (case aS => exact (bZ (by with_reducible repeat first | exact HB.out | apply pA | apply pN | apply p1 | refine pS ?_ GE403.out))); (case aL => have := LMc8.out; omega); intro v406 w12 ho hb hg hat; rw [← Ny405.out] at ho; replace BK403 := AM (blk_grown (g := gb403) (o := .cells #[.slice A402_0 ((rd_T61 l0 x9_1).f0).length c402_0, .string ((rd_T61 l0 x9_1).f1), .string ((rd_T61 l0 x9_1).f2), .string ((rd_T61 l0 x9_1).f3)] 61 (0, 0)) (by (with_reducible repeat first | apply bN | apply bW | apply bL); exact BK403.out) hg (Kd.R_ne HO_3.out BK403.out (by decide))); replace HB := AM (hb); have HO407 := AM (ho); clear HO_3; clear ho hb hg hat))
       go_roundg k1
       case measure => have := HK1.out; omega
       case rel => exact ⟨(y405), (wrap64 (x9_1 + 1)), (by first | rfl | (simp; done) | (simp [*]; done)), H', ⟨by have := HK1.out; omega⟩, ⟨by (with_reducible repeat (first | apply Kd.R_alloc | apply Kd.R_drewN | apply Kd.R_drew)); exact HO407.out⟩, ⟨by with_reducible repeat first | exact HB.out | apply pA | apply pN | apply p1 | refine pS ?_ GE403.out⟩⟩
      ·rw [if_neg c8] at H
       exact absurd H (by simp)
     ·rw [if_neg c6] at H
      exact absurd H (by simp)
    ·rw [if_neg c5] at H
     exact absurd H (by simp)
   ·rw [if_neg c4] at H
    have c4b0 : decide (x9_1 < (l0.length : Int)) = false := dF c4;clear c4;replace H := oB.mp H;obtain ⟨t408, A130, H⟩ := H;(try dsimp only at H);have A13 := AM A130;clear A130;obtain rfl := oI H;obtain ⟨Ao14, co14, eo14⟩ := Kd.R_slice HO_3.out;subst eo14
    go_wp2_with (first | ((with_reducible refine gC (f := 65) rfl ?_); refine goesL_ (some 20) rfl rfl Tryz.func65 (by kernel_rfl) rfl #[.slice Ao14 x3_1.length co14, .string (⟨#[59, 32]⟩ : ByteArray)] rfl (by (try simp only [mT, mC, mN]); try rfl) ?_; (with_reducible refine (strings_Join.calls _ _ x3_1 (⟨#[59, 32]⟩ : ByteArray) t408 _ ?side1 ?side2 A13.out).mono ?_); (case side1 => repeat first | exact (rR HO_3.out).2.2 | with_reducible first | apply Kd.C_alloc | apply Kd.C_drewN | apply Kd.C_drew); (case side2 => exact (rR HO_3.out).2.1); rintro e w15 ⟨rfl, hb⟩; refine ⟨_, rfl, ?_⟩; replace HO_3 := AM (Kd.R_below (by (with_reducible repeat (first | apply Kd.R_alloc | apply Kd.R_drewN | apply Kd.R_drew)); exact HO_3.out) hb); replace HB := AM (bS (by with_reducible repeat first | exact HB.out | apply pA | apply pN | apply p1) hb); (try clear hb)))
    (go_ret);exact ⟨rfl, by with_reducible repeat first | exact HB.out | apply pA | apply pN | apply p1⟩
/-! ### impl_digits: function 94 -/
def impl_digits.l0 : Nat → Int → ByteArray → Option (ByteArray)
 | 0, _, _ => none
 | k + 1, x1, x5 => if (x5.size : Int) < x1 then (if 1 + x5.size ≤ 9223372036854775807 then (impl_digits.l0 k x1 ((⟨#[48]⟩ : ByteArray) ++ x5)) else (none)) else (some x5)
def impl_digits.f (k : Nat) (a0 : Int) (a1 : Int) : Option (ByteArray) := (strconv_Itoa_66.f a0).bind fun t409 => (impl_digits.l0 k a1 t409)
theorem impl_digits.mono_l : ∀ k, (∀ y0 y1, LeO (impl_digits.l0 k y0 y1) (impl_digits.l0 (k + 1) y0 y1))
 | 0 => fun _ _ r h => by simp [impl_digits.l0] at h
 | k + 1 => by
  have ih0 := impl_digits.mono_l k
  ·intro y0 y1
   unfold impl_digits.l0
   repeat' with_reducible first
   | exact ih0 _ _
   | exact LeO.refl _
   | exact LeO.none _
   | refine LeO.ite ?_ ?_
   | refine LeO.bind ?_ (fun _ => ?_)
theorem impl_digits.mono : ∀ a0 a1 k, LeO (impl_digits.f k a0 a1) (impl_digits.f (k + 1) a0 a1) := by
 intro a0 a1 k;have ih0 := impl_digits.mono_l k;unfold impl_digits.f
 repeat' with_reducible first
   | exact ih0 _ _
   | exact LeO.refl _
   | exact LeO.none _
   | refine LeO.ite ?_ ?_
   | refine LeO.bind ?_ (fun _ => ?_)
theorem impl_digits.calls (k : Nat) (a0 : Int) (a1 : Int) (r : ByteArray) (w : World) (henv : Go.Proofs.YthcccgnhokncdaaGreatDoorW.Envs.Env [1] w) (h : impl_digits.f k a0 a1 = some r) :
  Calls Tryz.prog 94 #[.int .i64 a0, .int .i64 a1] w fun e w' => e = .returned (.string r) ∧ Below w.heap.size w w' := by
 have HB := AM (Below.refl w.heap.size w);have HENV := AM henv;clear henv;have H := h;unfold impl_digits.f at H;clear h;replace H := oB.mp H;obtain ⟨t409, A30, H⟩ := H;(try dsimp only at H);have A3 := AM A30;clear A30;have H' := AM H;clear H;(go_enter Tryz.func94, Tryz.ntmps94)
 go_wp2_with (first | ((with_reducible refine gC (f := 66) rfl ?_); refine goesL_ (some 7) rfl rfl Tryz.func66 (by kernel_rfl) rfl #[.int .i64 a0] rfl (by (try simp only [mT, mC, mN]); try rfl) ?_; (with_reducible refine (strconv_Itoa_66.calls a0 t409 _ ?side1 A3.out).mono ?_); (case side1 => exact Go.Proofs.YthcccgnhokncdaaGreatDoorW.Envs.Env.below HENV.out (by with_reducible repeat first | exact HB.out | apply pA | apply pN | apply p1)); rintro e w4 ⟨rfl, hb⟩; refine ⟨_, rfl, ?_⟩; replace HB := AM (bS (by with_reducible repeat first | exact HB.out | apply pA | apply pN | apply p1) hb); (try clear hb)))
 go_loopg [5] k (fun kq v5 w' => ∃ (x5_1 : ByteArray), v5 = .string x5_1 ∧ Aside0 (impl_digits.l0 kq a1 x5_1 = some r) ∧ Aside0 (kq ≤ k) ∧ Aside0 (Below w.heap.size w w'))
 case atStart => exact ⟨(t409), (by first | rfl | (simp; done) | (simp [*]; done)), H', ⟨Nat.le_refl _⟩, ⟨by with_reducible repeat first | exact HB.out | apply pA | apply pN | apply p1⟩⟩
 case round =>
  clear H';(try clear p2);obtain ⟨x5_1, rfl, HA, HK1, HB⟩ := hrel
  cases gk with
  | zero => exact absurd HA.out (by simp [impl_digits.l0])
  | succ k1 =>
   have H := HA.out;clear HA;simp only [impl_digits.l0] at H;by_cases c5 : (x5_1.size : Int) < a1
   ·rw [if_pos c5] at H
    have c5b0 : decide ((x5_1.size : Int) < a1) = true := dT c5;clear c5;by_cases c6 : 1 + x5_1.size ≤ 9223372036854775807
    ·rw [if_pos c6] at H
     have c6b0 := eq_true c6;have c6b1 : decide (1 + x5_1.size ≤ 9223372036854775807) = true := dT c6;(try have c6b2 : (9223372036854775807 < 1 + x5_1.size) = False := eq_false (Nat.not_lt.2 c6));have H' := AM H;clear H;(go_wp2);(go_roundg k1)
     case measure => have := HK1.out; omega
     case rel => exact ⟨((⟨#[48]⟩ : ByteArray) ++ x5_1), (by first | rfl | (simp; done) | (simp [*]; done)), H', ⟨by have := HK1.out; omega⟩, ⟨by with_reducible repeat first | exact HB.out | apply pA | apply pN | apply p1⟩⟩
    ·rw [if_neg c6] at H
     exact absurd H (by simp)
   ·rw [if_neg c5] at H
    have c5b0 : decide ((x5_1.size : Int) < a1) = false := dF c5;clear c5;obtain rfl := oI H;(go_wp2);(go_ret);exact ⟨rfl, by with_reducible repeat first | exact HB.out | apply pA | apply pN | apply p1⟩
/-! ### impl_formatDate: function 69 -/
def impl_formatDate.j0 : Nat → ByteArray → Int → Int → Int → Bool → Option (ByteArray)
 | 0, _, _, _, _, _ => none
 | k + 1, x3, x411000, x411001, x411002, x411003 => if x411001 > 0 then ((impl_digits.f k x411001 2).bind fun t412 => (if 1 + t412.size ≤ 9223372036854775807 then (if x3.size + ((⟨#[45]⟩ : ByteArray) ++ t412).size ≤ 9223372036854775807 then (if x411002 > 0 then ((impl_digits.f k x411002 2).bind fun t413 => (if 1 + t413.size ≤ 9223372036854775807 then (if (x3 ++ ((⟨#[45]⟩ : ByteArray) ++ t412)).size + ((⟨#[45]⟩ : ByteArray) ++ t413).size ≤ 9223372036854775807 then (some ((x3 ++ ((⟨#[45]⟩ : ByteArray) ++ t412)) ++ ((⟨#[45]⟩ : ByteArray) ++ t413))) else (none)) else (none))) else (some (x3 ++ ((⟨#[45]⟩ : ByteArray) ++ t412)))) else (none)) else (none))) else (if x411002 > 0 then ((impl_digits.f k x411002 2).bind fun t414 => (if 1 + t414.size ≤ 9223372036854775807 then (if x3.size + ((⟨#[45]⟩ : ByteArray) ++ t414).size ≤ 9223372036854775807 then (some (x3 ++ ((⟨#[45]⟩ : ByteArray) ++ t414))) else (none)) else (none))) else (some x3))
def impl_formatDate.f (k : Nat) (a0_0 : Int) (a0_1 : Int) (a0_2 : Int) (a0_3 : Bool) : Option (ByteArray) := if a0_0 = 0 then (some (⟨#[117, 110, 107, 110, 111, 119, 110]⟩ : ByteArray)) else ((impl_digits.f k a0_0 4).bind fun t411 => (if a0_3 = true then (if 1 + t411.size ≤ 9223372036854775807 then (impl_formatDate.j0 k ((⟨#[99]⟩ : ByteArray) ++ t411) a0_0 a0_1 a0_2 a0_3) else (none)) else (impl_formatDate.j0 k t411 a0_0 a0_1 a0_2 a0_3)))
theorem impl_formatDate.mono_l : ∀ k, (∀ y0 y1 y2 y3 y4, LeO (impl_formatDate.j0 k y0 y1 y2 y3 y4) (impl_formatDate.j0 (k + 1) y0 y1 y2 y3 y4))
 | 0 => fun _ _ _ _ _ r h => by simp [impl_formatDate.j0] at h
 | k + 1 => by
  have ih0 := impl_formatDate.mono_l k
  ·intro y0 y1 y2 y3 y4
   unfold impl_formatDate.j0
   repeat' with_reducible first
   | exact ih0 _ _ _ _ _
   | exact impl_digits.mono _ _ _
   | exact LeO.refl _
   | exact LeO.none _
   | refine LeO.ite ?_ ?_
   | refine LeO.bind ?_ (fun _ => ?_)
theorem impl_formatDate.mono : ∀ a0 a1 a2 a3 k, LeO (impl_formatDate.f k a0 a1 a2 a3) (impl_formatDate.f (k + 1) a0 a1 a2 a3) := by
 intro a0 a1 a2 a3 k;have ih0 := impl_formatDate.mono_l k;unfold impl_formatDate.f
 repeat' with_reducible first
   | exact ih0 _ _ _ _ _
   | exact impl_digits.mono _ _ _
   | exact LeO.refl _
   | exact LeO.none _
   | refine LeO.ite ?_ ?_
   | refine LeO.bind ?_ (fun _ => ?_)
theorem impl_formatDate.calls (k : Nat) (a0_0 : Int) (a0_1 : Int) (a0_2 : Int) (a0_3 : Bool) (r : ByteArray) (w : World) (henv : Go.Proofs.YthcccgnhokncdaaGreatDoorW.Envs.Env [1] w) (h : impl_formatDate.f k a0_0 a0_1 a0_2 a0_3 = some r) :
  Calls Tryz.prog 69 #[.agg #[.int .i64 a0_0, .int .i64 a0_1, .int .i64 a0_2, .bool a0_3]] w fun e w' => e = .returned (.string r) ∧ Below w.heap.size w w' := by
 have hu31 := Tryz.underlying31;have HB := AM (Below.refl w.heap.size w);have HENV := AM henv;clear henv;have H := h;unfold impl_formatDate.f at H;clear h;have HC2 := AM H;clear H;(go_enter Tryz.func69, Tryz.ntmps69)
 go_upto_if 6 with (first | ((with_reducible refine gate_dst (N := 1) rfl ?_); refine box_event ?hg (N := 1) ?hd (cs := #[.int .i64 a0_0, .int .i64 a0_1, .int .i64 a0_2, .bool a0_3]) (t := 31) ?hr ?_; (case hd => rfl); (case hg => rfl); (case hr => first | (go_simp; done) | (go_simp; rfl)); intro gb410 hg w3 hbox hb; have BK410 := AM (hbox); have GW410 := AM ((by rw [hg]; exact (below_size (by with_reducible repeat first | exact HB.out | apply pA | apply pN | apply p1)) : w.heap.size ≤ gb410)); have GE410 := AM ((by rw [hg]; exact (below_size (by with_reducible repeat first | exact HB.out | apply pA | apply pN | apply p1)) : w.heap.size ≤ gb410)); replace HB := AM (bS (by with_reducible repeat first | exact HB.out | apply pA | apply pN | apply p1) hb); clear hb hbox hg; obtain ⟨z4_0, z4_1, z4_2, z4_3⟩ := cells4 BK410.out))
 have H := HC2.out;clear HC2;by_cases c5 : a0_0 = 0;(·rw [if_pos c5] at H;have c5b0 : (a0_0 == 0) = true := beq_iff_eq.mpr c5;have c5b1 : (a0_0 != 0) = false := bne_eq_false_iff_eq.mpr c5;clear c5;(first | rw [c5b0] | rw [c5b1] | rw [c5b2] | (simp only [i64_w, i32_w]; rw [c5b0]) | skip);obtain rfl := oI H;(go_wp2);(go_ret);exact ⟨rfl, by with_reducible repeat first | exact HB.out | apply pA | apply pN | apply p1 | refine pS ?_ GE410.out⟩)
 ·rw [if_neg c5] at H
  have c5b0 : (a0_0 == 0) = false := beq_eq_false_iff_ne.mpr c5;have c5b1 : (a0_0 != 0) = true := bne_iff_ne.mpr c5;(first | rw [c5b0] | rw [c5b1] | rw [c5b2] | (simp only [i64_w, i32_w]; rw [c5b0]) | skip);replace H := oB.mp H;obtain ⟨t411, A60, H⟩ := H;(try dsimp only at H);have A6 := AM A60;clear A60;have HC7 := AM H;clear H;obtain ⟨z8_0, z8_1, z8_2, z8_3⟩ := cells4 BK410.out
  go_upto_if 11 with (first | ((with_reducible refine gC (f := 94) rfl ?_); refine gL (some 9) rfl rfl Tryz.func94 (by kernel_rfl) rfl #[.int .i64 a0_0, .int .i64 4] rfl (by (try simp only [mT, mC, mN]); try rfl) ?_; (with_reducible refine (impl_digits.calls k a0_0 4 t411 _ ?side1 A6.out).mono ?_); (case side1 => exact Go.Proofs.YthcccgnhokncdaaGreatDoorW.Envs.Env.below HENV.out (by with_reducible repeat first | exact HB.out | apply pA | apply pN | apply p1 | refine pS ?_ GE410.out)); rintro e w9 ⟨rfl, hb⟩; refine ⟨_, rfl, ?_⟩; replace BK410 := AM (bB (by (with_reducible repeat first | apply bN | apply bW | apply bL); exact BK410.out) hb); replace HB := AM (bS (by with_reducible repeat first | exact HB.out | apply pA | apply pN | apply p1 | refine pS ?_ GE410.out) hb); (try clear hb); obtain ⟨z10_0, z10_1, z10_2, z10_3⟩ := cells4 BK410.out))
  (try simp only [Act.put, List.setIfInBounds_toArray, List.set_cons_zero, List.set_cons_succ]);(go_cut [3] (fun v3 wc => ∃ (kq : Nat) (x3_6 : ByteArray), v3 = .string x3_6 ∧ Aside0 (impl_formatDate.j0 kq x3_6 a0_0 a0_1 a0_2 a0_3 = some r) ∧ Aside0 (kq ≤ k) ∧ Aside0 (wc.heap[gb410]? = some (.cells #[.int .i64 a0_0, .int .i64 a0_1, .int .i64 a0_2, .bool a0_3] 31 (0, 0))) ∧ Aside0 (Below w.heap.size w wc)))
  case first =>
   have H := HC7.out;clear HC7;by_cases c11 : a0_3 = true
   ·subst c11
    rw [if_pos rfl] at H;by_cases c12 : 1 + t411.size ≤ 9223372036854775807
    ·rw [if_pos c12] at H
     have c12b0 := eq_true c12;have c12b1 : decide (1 + t411.size ≤ 9223372036854775807) = true := dT c12;(try have c12b2 : (9223372036854775807 < 1 + t411.size) = False := eq_false (Nat.not_lt.2 c12));have H' := AM H;clear H;(go_wp2);(go_meet)
     case rel => exact ⟨_, ((⟨#[99]⟩ : ByteArray) ++ t411), (by first | rfl | (simp; done) | (simp [*]; done)), H', ⟨by first | omega | exact Nat.le_refl _⟩, ⟨by (with_reducible repeat (first | refine bN ?_ _ | refine bW ?_ | refine bL ?_ _)); exact BK410.out⟩, ⟨by with_reducible repeat first | exact HB.out | apply pA | apply pN | apply p1 | refine pS ?_ GE410.out⟩⟩
    ·rw [if_neg c12] at H
     exact absurd H (by simp)
   ·replace c11 := Bool.eq_false_iff.mpr c11
    subst c11;rw [if_neg (show ¬ (false = true) by decide)] at H;have H' := AM H;clear H;(go_wp2);(go_meet)
    case rel => exact ⟨_, (t411), (by first | rfl | (simp; done) | (simp [*]; done)), H', ⟨by first | omega | exact Nat.le_refl _⟩, ⟨by (with_reducible repeat (first | refine bN ?_ _ | refine bW ?_ | refine bL ?_ _)); exact BK410.out⟩, ⟨by with_reducible repeat first | exact HB.out | apply pA | apply pN | apply p1 | refine pS ?_ GE410.out⟩⟩
  case rest =>
   clear HC7;(try clear c1);(try clear p2);(try clear c5);(try clear c5b0);(try clear c5b1);(try clear c5b2);(try clear c6);(try clear c9);(try clear c11);(try clear c12);(try clear c12b0);(try clear c12b1);(try clear c12b2);(try clear z10_0);(try clear z10_1);(try clear z10_2);(try clear z10_3);(try clear z4_0);(try clear z4_1);(try clear z4_2);(try clear z4_3);(try clear z8_0);(try clear z8_1);(try clear z8_2);(try clear z8_3);obtain ⟨kq, x3_6, rfl, HA, HJ6, BK410, HB⟩ := hcut
   cases kq with
   | zero => exact absurd HA.out (by simp [impl_formatDate.j0])
   | succ kj6 =>
    have H := HA.out;clear HA;simp only [impl_formatDate.j0] at H;by_cases c13 : a0_1 > 0
    ·rw [if_pos c13] at H
     have c13b0 : decide (0 < a0_1) = true := dT c13;clear c13;replace H := oB.mp H;obtain ⟨t412, A140, H⟩ := H;(try dsimp only at H);have A14 := AM A140;clear A140;by_cases c15 : 1 + t412.size ≤ 9223372036854775807
     ·rw [if_pos c15] at H
      have c15b0 := eq_true c15;have c15b1 : decide (1 + t412.size ≤ 9223372036854775807) = true := dT c15;(try have c15b2 : (9223372036854775807 < 1 + t412.size) = False := eq_false (Nat.not_lt.2 c15));by_cases c16 : x3_6.size + ((⟨#[45]⟩ : ByteArray) ++ t412).size ≤ 9223372036854775807
      ·rw [if_pos c16] at H
       have c16b0 := eq_true c16;have c16b1 : decide (x3_6.size + ((⟨#[45]⟩ : ByteArray) ++ t412).size ≤ 9223372036854775807) = true := dT c16;(try have c16b2 : (9223372036854775807 < x3_6.size + ((⟨#[45]⟩ : ByteArray) ++ t412).size) = False := eq_false (Nat.not_lt.2 c16));(try have c16b3 : (9223372036854775807 < x3_6.size + (1 + t412.size)) = False := eq_false (by have h_ := c16; simp only [ByteArray.size_append, ByteArray.size_extract] at h_; (try simp only [show (⟨#[45]⟩ : ByteArray).size = 1 from rfl] at h_); (try have q0_ := of_eq_true c5b0); (try have q2_ := of_eq_true c13b0); (try have q3_ := of_eq_true c15b0); omega));by_cases c17 : a0_2 > 0
       ·rw [if_pos c17] at H
        have c17b0 : decide (0 < a0_2) = true := dT c17;clear c17;replace H := oB.mp H;obtain ⟨t413, A180, H⟩ := H;(try dsimp only at H);have A18 := AM A180;clear A180;by_cases c19 : 1 + t413.size ≤ 9223372036854775807
        ·rw [if_pos c19] at H
         have c19b0 := eq_true c19;have c19b1 : decide (1 + t413.size ≤ 9223372036854775807) = true := dT c19;(try have c19b2 : (9223372036854775807 < 1 + t413.size) = False := eq_false (Nat.not_lt.2 c19));by_cases c20 : (x3_6 ++ ((⟨#[45]⟩ : ByteArray) ++ t412)).size + ((⟨#[45]⟩ : ByteArray) ++ t413).size ≤ 9223372036854775807
         ·rw [if_pos c20] at H
          have c20b0 := eq_true c20;have c20b1 : decide ((x3_6 ++ ((⟨#[45]⟩ : ByteArray) ++ t412)).size + ((⟨#[45]⟩ : ByteArray) ++ t413).size ≤ 9223372036854775807) = true := dT c20;(try have c20b2 : (9223372036854775807 < (x3_6 ++ ((⟨#[45]⟩ : ByteArray) ++ t412)).size + ((⟨#[45]⟩ : ByteArray) ++ t413).size) = False := eq_false (Nat.not_lt.2 c20));(try have c20b3 : (9223372036854775807 < x3_6.size + (1 + t412.size) + (1 + t413.size)) = False := eq_false (by have h_ := c20; simp only [ByteArray.size_append, ByteArray.size_extract] at h_; (try simp only [show (⟨#[45]⟩ : ByteArray).size = 1 from rfl] at h_); (try have q0_ := of_eq_true c5b0); (try have q2_ := of_eq_true c13b0); (try have q3_ := of_eq_true c15b0); (try have q6_ := of_eq_true c16b0); (try have q9_ := of_eq_true c17b0); (try have q10_ := of_eq_true c19b0); omega));obtain rfl := oI H;obtain ⟨z21_0, z21_1, z21_2, z21_3⟩ := cells4 BK410.out
          go_wp2_with (first | ((with_reducible refine gC (f := 94) rfl ?_); refine gL (some 20) rfl rfl Tryz.func94 (by kernel_rfl) rfl #[.int .i64 a0_1, .int .i64 2] rfl (by (try simp only [mT, mC, mN]); try rfl) ?_; (with_reducible refine (impl_digits.calls kj6 a0_1 2 t412 _ ?side1 A14.out).mono ?_); (case side1 => exact Go.Proofs.YthcccgnhokncdaaGreatDoorW.Envs.Env.below HENV.out (by with_reducible repeat first | exact HB.out | apply pA | apply pN | apply p1 | refine pS ?_ GE410.out)); rintro e w22 ⟨rfl, hb⟩; refine ⟨_, rfl, ?_⟩; replace BK410 := AM (bB (by (with_reducible repeat first | apply bN | apply bW | apply bL); exact BK410.out) hb); replace HB := AM (bS (by with_reducible repeat first | exact HB.out | apply pA | apply pN | apply p1 | refine pS ?_ GE410.out) hb); (try clear hb); obtain ⟨z23_0, z23_1, z23_2, z23_3⟩ := cells4 BK410.out) | ((with_reducible refine gC (f := 94) rfl ?_); refine gL (some 29) rfl rfl Tryz.func94 (by kernel_rfl) rfl #[.int .i64 a0_2, .int .i64 2] rfl (by (try simp only [mT, mC, mN]); try rfl) ?_; (with_reducible refine (impl_digits.calls kj6 a0_2 2 t413 _ ?side1 A18.out).mono ?_); (case side1 => exact Go.Proofs.YthcccgnhokncdaaGreatDoorW.Envs.Env.below HENV.out (by with_reducible repeat first | exact HB.out | apply pA | apply pN | apply p1 | refine pS ?_ GE410.out)); rintro e w24 ⟨rfl, hb⟩; refine ⟨_, rfl, ?_⟩; replace BK410 := AM (bB (by (with_reducible repeat first | apply bN | apply bW | apply bL); exact BK410.out) hb); replace HB := AM (bS (by with_reducible repeat first | exact HB.out | apply pA | apply pN | apply p1 | refine pS ?_ GE410.out) hb); (try clear hb)))
          (go_ret);exact ⟨rfl, by with_reducible repeat first | exact HB.out | apply pA | apply pN | apply p1 | refine pS ?_ GE410.out⟩
         ·rw [if_neg c20] at H
          exact absurd H (by simp)
        ·rw [if_neg c19] at H
         exact absurd H (by simp)
       ·rw [if_neg c17] at H
        have c17b0 : decide (0 < a0_2) = false := dF c17;clear c17;obtain rfl := oI H;obtain ⟨z25_0, z25_1, z25_2, z25_3⟩ := cells4 BK410.out
        go_wp2_with (first | ((with_reducible refine gC (f := 94) rfl ?_); refine gL (some 20) rfl rfl Tryz.func94 (by kernel_rfl) rfl #[.int .i64 a0_1, .int .i64 2] rfl (by (try simp only [mT, mC, mN]); try rfl) ?_; (with_reducible refine (impl_digits.calls kj6 a0_1 2 t412 _ ?side1 A14.out).mono ?_); (case side1 => exact Go.Proofs.YthcccgnhokncdaaGreatDoorW.Envs.Env.below HENV.out (by with_reducible repeat first | exact HB.out | apply pA | apply pN | apply p1 | refine pS ?_ GE410.out)); rintro e w26 ⟨rfl, hb⟩; refine ⟨_, rfl, ?_⟩; replace BK410 := AM (bB (by (with_reducible repeat first | apply bN | apply bW | apply bL); exact BK410.out) hb); replace HB := AM (bS (by with_reducible repeat first | exact HB.out | apply pA | apply pN | apply p1 | refine pS ?_ GE410.out) hb); (try clear hb); obtain ⟨z27_0, z27_1, z27_2, z27_3⟩ := cells4 BK410.out))
        (go_ret);exact ⟨rfl, by with_reducible repeat first | exact HB.out | apply pA | apply pN | apply p1 | refine pS ?_ GE410.out⟩
      ·rw [if_neg c16] at H
       exact absurd H (by simp)
     ·rw [if_neg c15] at H
      exact absurd H (by simp)
    ·rw [if_neg c13] at H
     have c13b0 : decide (0 < a0_1) = false := dF c13;clear c13;by_cases c28 : a0_2 > 0
     ·rw [if_pos c28] at H
      have c28b0 : decide (0 < a0_2) = true := dT c28;clear c28;replace H := oB.mp H;obtain ⟨t414, A290, H⟩ := H;(try dsimp only at H);have A29 := AM A290;clear A290;by_cases c30 : 1 + t414.size ≤ 9223372036854775807
      ·rw [if_pos c30] at H
       have c30b0 := eq_true c30;have c30b1 : decide (1 + t414.size ≤ 9223372036854775807) = true := dT c30;(try have c30b2 : (9223372036854775807 < 1 + t414.size) = False := eq_false (Nat.not_lt.2 c30));by_cases c31 : x3_6.size + ((⟨#[45]⟩ : ByteArray) ++ t414).size ≤ 9223372036854775807
       ·rw [if_pos c31] at H
        have c31b0 := eq_true c31;have c31b1 : decide (x3_6.size + ((⟨#[45]⟩ : ByteArray) ++ t414).size ≤ 9223372036854775807) = true := dT c31;(try have c31b2 : (9223372036854775807 < x3_6.size + ((⟨#[45]⟩ : ByteArray) ++ t414).size) = False := eq_false (Nat.not_lt.2 c31));(try have c31b3 : (9223372036854775807 < x3_6.size + (1 + t414.size)) = False := eq_false (by have h_ := c31; simp only [ByteArray.size_append, ByteArray.size_extract] at h_; (try simp only [show (⟨#[45]⟩ : ByteArray).size = 1 from rfl] at h_); (try have q0_ := of_eq_true c5b0); (try have q2_ := of_eq_true c13b0); (try have q3_ := of_eq_true c28b0); (try have q4_ := of_eq_true c30b0); omega));obtain rfl := oI H;obtain ⟨z32_0, z32_1, z32_2, z32_3⟩ := cells4 BK410.out
        go_wp2_with (first | ((with_reducible refine gC (f := 94) rfl ?_); refine gL (some 29) rfl rfl Tryz.func94 (by kernel_rfl) rfl #[.int .i64 a0_2, .int .i64 2] rfl (by (try simp only [mT, mC, mN]); try rfl) ?_; (with_reducible refine (impl_digits.calls kj6 a0_2 2 t414 _ ?side1 A29.out).mono ?_); (case side1 => exact Go.Proofs.YthcccgnhokncdaaGreatDoorW.Envs.Env.below HENV.out (by with_reducible repeat first | exact HB.out | apply pA | apply pN | apply p1 | refine pS ?_ GE410.out)); rintro e w33 ⟨rfl, hb⟩; refine ⟨_, rfl, ?_⟩; replace BK410 := AM (bB (by (with_reducible repeat first | apply bN | apply bW | apply bL); exact BK410.out) hb); replace HB := AM (bS (by with_reducible repeat first | exact HB.out | apply pA | apply pN | apply p1 | refine pS ?_ GE410.out) hb); (try clear hb)))
        (go_ret);exact ⟨rfl, by with_reducible repeat first | exact HB.out | apply pA | apply pN | apply p1 | refine pS ?_ GE410.out⟩
       ·rw [if_neg c31] at H
        exact absurd H (by simp)
      ·rw [if_neg c30] at H
       exact absurd H (by simp)
     ·rw [if_neg c28] at H
      have c28b0 : decide (0 < a0_2) = false := dF c28;clear c28;obtain rfl := oI H;obtain ⟨z34_0, z34_1, z34_2, z34_3⟩ := cells4 BK410.out;(go_wp2);(go_ret);exact ⟨rfl, by with_reducible repeat first | exact HB.out | apply pA | apply pN | apply p1 | refine pS ?_ GE410.out⟩
end Go.Proofs.YthcccgnhokncdaaGreatDoor.Px
