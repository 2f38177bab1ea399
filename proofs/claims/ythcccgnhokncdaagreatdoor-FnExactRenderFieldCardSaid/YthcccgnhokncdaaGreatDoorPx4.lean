/- Calls of Go functions come to what the Lean functions beside them say; written by a program of this session (wip/xprint); no conditions. -/
import Derived.Test.YthcccgnhokncdaaGreatDoorPx3
namespace Go.Proofs.YthcccgnhokncdaaGreatDoor.Px
open Go.RowKit Go.Proofs.YthcccgnhokncdaaGreatDoorW.PrintWords Go.Proofs.YthcccgnhokncdaaGreatDoorW.PrintLast Go.Proofs.YthcccgnhokncdaaGreatDoorW.PrintMore
open Go.Proofs.YthcccgnhokncdaaGreatDoorW.PrintWords renaming pw_below_drewN → pN, below_drew1 → p1, below_alloc → pA, below_set → pS, blk_cell → bC, blk_drew → bW, below_step → bS, below_size → bZ, gate_callee → gC, blk_drewN → bN, blk_alloc → bL, blk_below → bB
open Go.Proofs.YthcccgnhokncdaaGreatDoorW.PrintWords.Aside0 renaming mk → AM
open Go.Proofs.YthcccgnhokncdaaGreatDoorW.PrintWords.Kd renaming C_alloc → cA, C_drewN → cN, C_drew → cD, R_reads' → rR, C_below → cB
open Option renaming bind_eq_some_iff → oB
open Option.some renaming inj → oI
open List renaming setIfInBounds_toArray → lT, set_cons_zero → lZ, set_cons_succ → lS, map_toArray → mT, map_cons → mC, map_nil → mN
open Bool renaming eq_false_iff → bE
attribute [local go_sem] max2_int min2_int max_two min_two max_three min_three max_four min_four
set_option maxHeartbeats 8000000
set_option maxRecDepth 100000
set_option linter.unusedVariables false
set_option linter.unusedSimpArgs false
/-! ### spec_l2Short: function 50 -/
def spec_l2Short.f (k : Nat) (l0_0 : List ByteArray) (a0_1 : ByteArray) (a0_2 : ByteArray) (a0_3 : ByteArray) : Option (ByteArray) := (spec_l2Initials.f k l0_0 a0_1 a0_2 a0_3).bind fun t194 => ((spec_l2Join.f k (([t194, a0_1, a0_2] : List ByteArray))).bind fun t198 => (some t198))
theorem spec_l2Short.mono : ∀ a0 a1 a2 a3 k, LeO (spec_l2Short.f k a0 a1 a2 a3) (spec_l2Short.f (k + 1) a0 a1 a2 a3) := by
 intro a0 a1 a2 a3 k;unfold spec_l2Short.f
 repeat' with_reducible first
   | exact spec_l2Initials.mono _ _ _ _ _
   | exact spec_l2Join.mono _ _
   | exact LeO.refl _
   | exact LeO.none _
   | refine LeO.ite ?_ ?_
   | refine LeO.bind ?_ (fun _ => ?_)
def spec_l2Short.T1 : Bool × List (List Nat × List Nat) := (true, [([], []), ([0], [0]), ([], []), ([2], [2]), ([], []), ([4], [4]), ([1, 3, 5], [1, 3, 5]), ([6, 1], [6]), ([7, 7, 0, 1, 2, 3, 4, 5, 6, 7], [7])])
def spec_l2Short.B1 : List Nat := [0, 1, 0, 4, 0, 16, 63, 127, 255]
theorem spec_l2Short.tab1 : rtab .any (opsOf Tryz.f50 1) = spec_l2Short.T1 := by kernel_rfl
theorem spec_l2Short.bits1 : waitsOk spec_l2Short.T1.2 spec_l2Short.B1 = true := by kernel_rfl
theorem spec_l2Short.calls (k : Nat) (A0_0 : Option Addr) (c0_0 : Nat) (l0_0 : List ByteArray) (a0_1 : ByteArray) (a0_2 : ByteArray) (a0_3 : ByteArray) (r : ByteArray) (w : World) (hr0_0 : Kd.C Kd.string w A0_0 l0_0.length l0_0) (hc0_0 : l0_0.length ≤ c0_0) (h : spec_l2Short.f k l0_0 a0_1 a0_2 a0_3 = some r) :
  Calls Tryz.prog 50 #[.agg #[.slice A0_0 l0_0.length c0_0, .string a0_1, .string a0_2, .string a0_3]] w fun e w' => e = .returned (.string r) ∧ Below w.heap.size w w' := by
 have hu61 := Tryz.underlying61;have HR0_0 := AM hr0_0;have HC0_0 := AM hc0_0;clear hr0_0 hc0_0;have HB := AM (Below.refl w.heap.size w);have H := h;unfold spec_l2Short.f at H;clear h;replace H := oB.mp H;obtain ⟨t194, A20, H⟩ := H;(try dsimp only at H);have A2 := AM A20;clear A20
 obtain ⟨y195, hy195⟩ : ∃ y_ : List ByteArray, y_ = (([t194, a0_1, a0_2] : List ByteArray)) := ⟨_, rfl⟩
 (replace H : ((spec_l2Join.f k y195).bind fun t198 => (some t198)) = some r := by first | (rw [hy195]; with_reducible exact H) | (have H2_ := (Option.bind_some _ _).symm.trans H; rw [hy195]; with_reducible exact H2_) | (have H2_ := (Option.bind_some _ _).symm.trans H; with_reducible exact H2_) | with_reducible exact H | (rw [hy195]; exact H) | exact H);have Ny195 := AM hy195;clear hy195;replace H := oB.mp H;obtain ⟨t198, A30, H⟩ := H;(try dsimp only at H);have A3 := AM A30;clear A30;obtain rfl := oI H;(go_enter Tryz.func50, Tryz.ntmps50)
 try go_wp2_with (first | ((with_reducible refine gate_dst (N := 1) rfl ?_); refine box_event ?hg (N := 1) ?hd (cs := #[.slice A0_0 l0_0.length c0_0, .string a0_1, .string a0_2, .string a0_3]) (t := 61) ?hr ?_; (case hd => rfl); (case hg => rfl); (case hr => first | (go_simp; done) | (go_simp; rfl)); intro gb193 hg w4 hbox hb; have BK193 := AM (hbox); have GW193 := AM ((by rw [hg]; exact (bZ (by with_reducible repeat first | exact HB.out | apply pA | apply pN | apply p1)) : w.heap.size ≤ gb193)); have GE193 := AM ((by rw [hg]; exact (bZ (by with_reducible repeat first | exact HB.out | apply pA | apply pN | apply p1)) : w.heap.size ≤ gb193)); replace HB := AM (bS (by with_reducible repeat first | exact HB.out | apply pA | apply pN | apply p1) hb); clear hb hbox hg))
 replace BK193 := AM (bW BK193.out);replace HB := AM (p1 HB.out);(refine start_ (n := 9) (S := fun w' => w'.cell? ⟨gb193, 0, none⟩ = some (.slice A0_0 l0_0.length c0_0) ∧ w'.cell? ⟨gb193, 1, none⟩ = some (.string a0_1) ∧ w'.cell? ⟨gb193, 2, none⟩ = some (.string a0_2) ∧ w'.cell? ⟨gb193, 3, none⟩ = some (.string a0_3)) (ds := []) (bA 9 0) (by kernel_rfl) rfl rfl ⟨(bC BK193.out 0).trans rfl, (bC BK193.out 1).trans rfl, (bC BK193.out 2).trans rfl, (bC BK193.out 3).trans rfl⟩ (fun hHeld => ?_); refine with_tabW spec_l2Short.tab1 spec_l2Short.bits1 (fun HT_ HW_ => ?_));generalize w4.drew = w5 at BK193 HB hHeld ⊢;refine pure_ (i := 2) (N := some 5) (v := ?_) (a' := ?_) (bA 9 4) rfl rfl (any_of HT_.out (by kernel_rfl)) (fun _ _ _ h => h) (Or.inl ⟨by rfl, ?_⟩) ?_ ?_;rotate_left;(·intro w';go_simp;(with_reducible rfl));rotate_left;(·simp only [Act.put, lT, lZ, lS, i64_w, i32_w];rfl);refine pure_ (i := 4) (N := some 7) (v := ?_) (a' := ?_) (bA 9 20) rfl rfl (any_of HT_.out (by kernel_rfl)) (fun _ _ _ h => h) (Or.inl ⟨by rfl, ?_⟩) ?_ ?_;rotate_left;(·intro w';go_simp;(with_reducible rfl));rotate_left;(·simp only [Act.put, lT, lZ, lS, i64_w, i32_w];rfl);refine take_ (i := 0) (N := some 3) (v := ?_) (a' := ?_) (bA 9 21) rfl rfl (take_ofW HT_.out HW_.out (by kernel_rfl)) (fun _ _ _ h => h) (Or.inl ⟨by rfl, ?_⟩) hHeld ?_ ?_;rotate_left;(·rintro w' ⟨s0, s1, s2, s3⟩;go_simp;(with_reducible rfl));rotate_left;(·simp only [Act.put, lT, lZ, lS, i64_w, i32_w];rfl);refine take_ (i := 3) (N := some 6) (v := ?_) (a' := ?_) (bA 9 29) rfl rfl (take_ofW HT_.out HW_.out (by kernel_rfl)) (fun _ _ _ h => h) (Or.inl ⟨by rfl, ?_⟩) hHeld ?_ ?_;rotate_left;(·rintro w' ⟨s0, s1, s2, s3⟩;go_simp;(with_reducible rfl));rotate_left;(·simp only [Act.put, lT, lZ, lS, i64_w, i32_w];rfl);refine take_ (i := 5) (N := some 8) (v := ?_) (a' := ?_) (bA 9 61) rfl rfl (take_ofW HT_.out HW_.out (by kernel_rfl)) (fun _ _ _ h => h) (Or.inl ⟨by rfl, ?_⟩) hHeld ?_ ?_;rotate_left;(·rintro w' ⟨s0, s1, s2, s3⟩;go_simp;(with_reducible rfl));rotate_left;(·simp only [Act.put, lT, lZ, lS, i64_w, i32_w];rfl);refine one_ (i := 1) (N := some 4) (bA 9 63) rfl rfl (one_of HT_.out (by kernel_rfl)) (by decide) (fun K hK => ?_);refine goes_ Tryz.func75 (by kernel_rfl) rfl #[.agg #[.slice A0_0 l0_0.length c0_0, .string a0_1, .string a0_2, .string a0_3]] (by rfl) rfl rfl (by (try simp only [mT, mC, mN]); try rfl) ?_;(with_reducible refine (spec_l2Initials.calls k _ _ l0_0 a0_1 a0_2 a0_3 t194 _ ?side1 ?side2 A2.out).mono ?_);(case side1 => repeat first | exact (Kd.C_below HR0_0.out HB.out) | with_reducible first | apply cA | apply cN | apply cD);(case side2 => exact HC0_0.out);rintro e w6 ⟨rfl, hb⟩;refine ⟨_, rfl, ?_⟩;replace BK193 := AM (blk_below (by (with_reducible repeat first | apply blk_drewN | apply bW | apply blk_alloc); exact BK193.out) hb);replace HB := AM (bS (by with_reducible repeat first | exact HB.out | apply pA | apply pN | apply p1 | refine pS ?_ GE193.out) hb);(try clear hb);refine hK.out _ _ (by and_intros <;> exact (bC BK193.out _).trans rfl) (fun hHeld => ?_);clear hK K;refine norm_ (a' := ?_) ?_ ?_;rotate_left
 ·show Act.put _ (some 4) _ = _
  simp only [Act.put, lT, lZ, lS, i64_w, i32_w];rfl
 refine one_ (i := 6) (N := some 9) (bA 9 127) rfl rfl (one_of HT_.out (by kernel_rfl)) (by decide) (fun K hK => ?_);(refine Kd.R_lit_step Kd.string _ 9 ?hg (N := 9) ?hd (xs := ([t194, a0_1, a0_2] : List ByteArray)) (inner := [.string t194, .string a0_1, .string a0_2]) (ok := fun _ => True) (okp := fun _ => True) ?hr ?hp (fun _ hk => hk) trivial (Below.refl _ _) (Nat.le_refl _) (by simp) ?_; (case hd => rfl); (case hg => rfl); (case hr => first | (go_simp; done) | (go_simp; rfl)); (case hp => exact (Reps.one (show Kd.M Kd.string _ _ _ t194 [.string t194] from rfl) (Reps.one (show Kd.M Kd.string _ _ _ a0_1 [.string a0_1] from rfl) (Reps.one (show Kd.M Kd.string _ _ _ a0_2 [.string a0_2] from rfl) (Reps.none _ _))))));intro v196 w7 ho8 hb hg_ hnew_;clear hg_ hnew_;(first | rw [← Ny195.out] at ho8 | (simp only [Int.reduceToNat] at ho8; rw [← Ny195.out] at ho8));have HO197 := AM (Kd.R_lower ho8 (bZ (by with_reducible repeat first | exact HB.out | apply pA | apply pN | apply p1 | refine pS ?_ GE193.out)));replace BK193 := AM (blk_below (by (with_reducible repeat first | apply blk_drewN | apply bW | apply blk_alloc); exact BK193.out) hb);replace HB := AM (bS (by with_reducible repeat first | exact HB.out | apply pA | apply pN | apply p1 | refine pS ?_ GE193.out) hb);clear hb ho8;obtain ⟨Ao9, co9, eo9⟩ := Kd.R_slice HO197.out;(first | subst eo9 | (injection eo9 with f1_ f2_ f3_; have f4_ := f1_.symm; have f5_ := f3_.symm; clear f1_ f2_ f3_; subst f4_; subst f5_));refine hK.out _ _ (by and_intros <;> exact (bC BK193.out _).trans rfl) (fun hHeld => ?_);clear hK K;refine norm_ (a' := ?_) ?_ ?_;rotate_left
 ·show Act.put _ (some 9) _ = _
  simp only [Act.put, lT, lZ, lS, i64_w, i32_w];rfl
 refine one_ (i := 7) (N := some 10) (bA 9 255) rfl rfl (one_of HT_.out (by kernel_rfl)) (by decide) (fun K hK => ?_);refine goes_ Tryz.func74 (by kernel_rfl) rfl #[.slice Ao9 y195.length co9] (by rfl) rfl rfl (by (try simp only [mT, mC, mN]); try rfl) ?_;(with_reducible refine (spec_l2Join.calls k _ _ y195 t198 _ ?side1 ?side2 A3.out).mono ?_);(case side1 => repeat first | exact (rR HO197.out).2.2 | with_reducible first | apply cA | apply cN | apply cD);(case side2 => exact (rR HO197.out).2.1);rintro e w' ⟨rfl, ⟨nd, rfl⟩⟩;refine ⟨_, rfl, ?_⟩;refine hK.out _ _ (by and_intros <;> exact (bC BK193.out _).trans rfl) (fun hHeld => ?_);clear hK K;refine norm_ (a' := ?_) ?_ ?_;rotate_left
 ·show Act.put _ (some 10) _ = _
  simp only [Act.put, lT, lZ, lS, i64_w, i32_w];rfl
 refine pure_ (i := 8) (N := some 2) (v := ?_) (a' := ?_) (bA 9 511) rfl rfl (any_of HT_.out (by kernel_rfl)) (fun _ _ _ h => h) (Or.inl ⟨by rfl, ?_⟩) ?_ ?_;rotate_left;(·intro w';go_simp;(with_reducible rfl));rotate_left;(·simp only [Act.put, lT, lZ, lS, i64_w, i32_w];rfl);refine done_ (done_of HT_.out (by kernel_rfl)) ?_;(try go_wp2);(go_ret);exact ⟨rfl, by with_reducible repeat first | exact HB.out | apply pA | apply pN | apply p1 | refine pS ?_ GE193.out⟩
/-! ### spec_l2Names: function 29 -/
mutual
def spec_l2Names.l0 : Nat → List (S61) → Int → ByteArray → Int → Option (ByteArray)
 | 0, _, _, _, _ => none
 | k + 1, x0, x1, x5, x6 => if x6 < (x0.length : Int) then (if x6 = 1 then (spec_l2Names.j1 k x0 x1 x5 x6 (decide ((x0.length : Int) > x1))) else (spec_l2Names.j1 k x0 x1 x5 x6 false)) else (some x5)
def spec_l2Names.j1 : Nat → List (S61) → Int → ByteArray → Int → Bool → Option (ByteArray)
 | 0, _, _, _, _, _ => none
 | k + 1, x0, x1, x5, x6, x13 => if x13 = true then (if x5.size + 7 ≤ 9223372036854775807 then (some (x5 ++ (⟨#[32, 101, 116, 32, 97, 108, 46]⟩ : ByteArray))) else (none)) else (if x6 > 0 then (spec_l2Names.j2 k x0 x1 x5 x6 (x6 == (wrap64 ((x0.length : Int) - 1)))) else (spec_l2Names.j2 k x0 x1 x5 x6 false))
def spec_l2Names.j2 : Nat → List (S61) → Int → ByteArray → Int → Bool → Option (ByteArray)
 | 0, _, _, _, _, _ => none
 | k + 1, x0, x1, x5, x6, x24 => if x24 = true then (if x5.size + 5 ≤ 9223372036854775807 then (if 0 ≤ x6 then (if x6 < (x0.length : Int) then ((spec_l2Short.f k ((rd_T61 x0 x6).f0) ((rd_T61 x0 x6).f1) ((rd_T61 x0 x6).f2) ((rd_T61 x0 x6).f3)).bind fun t200 => (if (x5 ++ (⟨#[32, 97, 110, 100, 32]⟩ : ByteArray)).size + t200.size ≤ 9223372036854775807 then (spec_l2Names.l0 k x0 x1 ((x5 ++ (⟨#[32, 97, 110, 100, 32]⟩ : ByteArray)) ++ t200) (wrap64 (x6 + 1))) else (none))) else (none)) else (none)) else (none)) else (if x6 > 0 then (if x5.size + 2 ≤ 9223372036854775807 then (if 0 ≤ x6 then (if x6 < (x0.length : Int) then ((spec_l2Short.f k ((rd_T61 x0 x6).f0) ((rd_T61 x0 x6).f1) ((rd_T61 x0 x6).f2) ((rd_T61 x0 x6).f3)).bind fun t202 => (if (x5 ++ (⟨#[44, 32]⟩ : ByteArray)).size + t202.size ≤ 9223372036854775807 then (spec_l2Names.l0 k x0 x1 ((x5 ++ (⟨#[44, 32]⟩ : ByteArray)) ++ t202) (wrap64 (x6 + 1))) else (none))) else (none)) else (none)) else (none)) else (if 0 ≤ x6 then (if x6 < (x0.length : Int) then ((spec_l2Short.f k ((rd_T61 x0 x6).f0) ((rd_T61 x0 x6).f1) ((rd_T61 x0 x6).f2) ((rd_T61 x0 x6).f3)).bind fun t204 => (if x5.size + t204.size ≤ 9223372036854775807 then (spec_l2Names.l0 k x0 x1 (x5 ++ t204) (wrap64 (x6 + 1))) else (none))) else (none)) else (none)))
end
def spec_l2Names.f (k : Nat) (l0 : List (S61)) (a1 : Int) : Option (ByteArray) := spec_l2Names.l0 k l0 a1 (⟨#[]⟩ : ByteArray) 0
theorem spec_l2Names.mono_l : ∀ k, (∀ y0 y1 y2 y3, LeO (spec_l2Names.l0 k y0 y1 y2 y3) (spec_l2Names.l0 (k + 1) y0 y1 y2 y3)) ∧ (∀ y0 y1 y2 y3 y4, LeO (spec_l2Names.j1 k y0 y1 y2 y3 y4) (spec_l2Names.j1 (k + 1) y0 y1 y2 y3 y4)) ∧ (∀ y0 y1 y2 y3 y4, LeO (spec_l2Names.j2 k y0 y1 y2 y3 y4) (spec_l2Names.j2 (k + 1) y0 y1 y2 y3 y4))
 | 0 => ⟨fun _ _ _ _ r h => by simp [spec_l2Names.l0] at h, fun _ _ _ _ _ r h => by simp [spec_l2Names.j1] at h, fun _ _ _ _ _ r h => by simp [spec_l2Names.j2] at h⟩
 | k + 1 => by
  obtain ⟨ih0, ih1, ih2⟩ := spec_l2Names.mono_l k;refine ⟨?_, ?_, ?_⟩
  ·intro y0 y1 y2 y3
   unfold spec_l2Names.l0
   repeat' with_reducible first
   | exact ih0 _ _ _ _
   | exact ih1 _ _ _ _ _
   | exact ih2 _ _ _ _ _
   | exact spec_l2Short.mono _ _ _ _ _
   | exact LeO.refl _
   | exact LeO.none _
   | refine LeO.ite ?_ ?_
   | refine LeO.bind ?_ (fun _ => ?_)
  ·intro y0 y1 y2 y3 y4
   unfold spec_l2Names.j1
   repeat' with_reducible first
   | exact ih0 _ _ _ _
   | exact ih1 _ _ _ _ _
   | exact ih2 _ _ _ _ _
   | exact spec_l2Short.mono _ _ _ _ _
   | exact LeO.refl _
   | exact LeO.none _
   | refine LeO.ite ?_ ?_
   | refine LeO.bind ?_ (fun _ => ?_)
  ·intro y0 y1 y2 y3 y4
   unfold spec_l2Names.j2
   repeat' with_reducible first
   | exact ih0 _ _ _ _
   | exact ih1 _ _ _ _ _
   | exact ih2 _ _ _ _ _
   | exact spec_l2Short.mono _ _ _ _ _
   | exact LeO.refl _
   | exact LeO.none _
   | refine LeO.ite ?_ ?_
   | refine LeO.bind ?_ (fun _ => ?_)
theorem spec_l2Names.mono : ∀ a0 a1 k, LeO (spec_l2Names.f k a0 a1) (spec_l2Names.f (k + 1) a0 a1) := by
 intro a0 a1 k;obtain ⟨ih0, ih1, ih2⟩ := spec_l2Names.mono_l k;unfold spec_l2Names.f
 repeat' with_reducible first
   | exact ih0 _ _ _ _
   | exact ih1 _ _ _ _ _
   | exact ih2 _ _ _ _ _
   | exact spec_l2Short.mono _ _ _ _ _
   | exact LeO.refl _
   | exact LeO.none _
   | refine LeO.ite ?_ ?_
   | refine LeO.bind ?_ (fun _ => ?_)
theorem spec_l2Names.calls (k : Nat) (A0 : Option Addr) (c0 : Nat) (l0 : List (S61)) (a1 : Int) (r : ByteArray) (w : World) (hr0 : Kd.C k61 w A0 l0.length l0) (hc0 : l0.length ≤ c0) (h : spec_l2Names.f k l0 a1 = some r) :
  Calls Tryz.prog 29 #[.slice A0 l0.length c0, .int .i64 a1] w fun e w' => e = .returned (.string r) ∧ Below w.heap.size w w' := by
 have hu61 := Tryz.underlying61;have HR0 := AM hr0;have HC0 := AM hc0;clear hr0 hc0;have HB := AM (Below.refl w.heap.size w);have H := h;unfold spec_l2Names.f at H;clear h;have H' := AM H;clear H;(go_enter Tryz.func29, Tryz.ntmps29);(go_wp2);(go_loopg [5, 6] k (fun kq v5 v6 w' => ∃ (x5_1 : ByteArray) (x6_1 : Int), v5 = .string x5_1 ∧ v6 = .int .i64 x6_1 ∧ Aside0 (spec_l2Names.l0 kq l0 a1 x5_1 x6_1 = some r) ∧ Aside0 (kq ≤ k) ∧ Aside0 (Below w.heap.size w w')))
 case atStart => exact ⟨((⟨#[]⟩ : ByteArray)), (0), (by first | rfl | (simp; done) | (simp [*]; done)), (by first | rfl | (simp; done) | (simp [*]; done)), H', ⟨Nat.le_refl _⟩, ⟨by with_reducible repeat first | exact HB.out | apply pA | apply pN | apply p1⟩⟩
 case round =>
  clear H';(try clear c2);(try clear p2);obtain ⟨x5_1, x6_1, rfl, rfl, HA, HK1, HB⟩ := hrel
  cases gk with
  | zero => exact absurd HA.out (by simp [spec_l2Names.l0])
  | succ k1 =>
   have H := HA.out;clear HA;simp only [spec_l2Names.l0] at H;by_cases c3 : x6_1 < (l0.length : Int)
   ·rw [if_pos c3] at H
    have c3b0 : decide (x6_1 < (l0.length : Int)) = true := dT c3;clear c3;have HC4 := AM H;clear H
    go_upto_region 5 with (fail)
    go_cut [13] (fun v13 wc => ∃ (kq : Nat) (x13_3 : Bool), v13 = .bool x13_3 ∧ Aside0 (spec_l2Names.j1 kq l0 a1 x5_1 x6_1 x13_3 = some r) ∧ Aside0 (kq ≤ k1) ∧ Aside0 (Below w.heap.size w wc))
    case first =>
     have H := HC4.out;clear HC4;by_cases c5 : x6_1 = 1
     ·rw [if_pos c5] at H
      have c5b0 : (x6_1 == 1) = true := beq_iff_eq.mpr c5;have c5b1 : (x6_1 != 1) = false := bne_eq_false_iff_eq.mpr c5;clear c5;(first | rw [c5b0] | rw [c5b1] | rw [c5b2] | (simp only [i64_w, i32_w]; rw [c5b0]) | skip);have H' := AM H;clear H;(go_wp2);(go_meet)
      case rel => exact ⟨_, (decide ((l0.length : Int) > a1)), (by first | rfl | (simp; done) | (simp [*]; done)), H', ⟨by have := HK1.out; first | omega | exact Nat.le_refl _⟩, ⟨by with_reducible repeat first | exact HB.out | apply pA | apply pN | apply p1⟩⟩
     ·rw [if_neg c5] at H
      have c5b0 : (x6_1 == 1) = false := beq_eq_false_iff_ne.mpr c5;have c5b1 : (x6_1 != 1) = true := bne_iff_ne.mpr c5;(first | rw [c5b0] | rw [c5b1] | rw [c5b2] | (simp only [i64_w, i32_w]; rw [c5b0]) | skip);have H' := AM H;clear H;(go_wp2);(go_meet)
      case rel => exact ⟨_, (false), (by first | rfl | (simp; done) | (simp [*]; done)), H', ⟨by have := HK1.out; first | omega | exact Nat.le_refl _⟩, ⟨by with_reducible repeat first | exact HB.out | apply pA | apply pN | apply p1⟩⟩
    case rest =>
     clear HC4;(try clear c2);(try clear p2);(try clear c3);(try clear c3b0);(try clear c5);(try clear c5b0);(try clear c5b1);(try clear c5b2);(try clear p2);obtain ⟨kq, x13_3, rfl, HA, HJ3, HB⟩ := hcut
     cases kq with
     | zero => exact absurd HA.out (by simp [spec_l2Names.j1])
     | succ kj3 =>
      have H := HA.out;clear HA;simp only [spec_l2Names.j1] at H;by_cases c6 : x13_3 = true;(·subst c6;rw [if_pos rfl] at H;by_cases c7 : x5_1.size + 7 ≤ 9223372036854775807;(·rw [if_pos c7] at H;have c7b0 := eq_true c7;have c7b1 : decide (x5_1.size + 7 ≤ 9223372036854775807) = true := dT c7;(try have c7b2 : (9223372036854775807 < x5_1.size + 7) = False := eq_false (Nat.not_lt.2 c7));obtain rfl := oI H;(go_wp2);(go_ret);exact ⟨rfl, by with_reducible repeat first | exact HB.out | apply pA | apply pN | apply p1⟩);(·rw [if_neg c7] at H;exact absurd H (by simp)))
      ·replace c6 := bE.mpr c6
       subst c6;rw [if_neg (show ¬ (false = true) by decide)] at H;have HC8 := AM H;clear H
       go_upto_region 7 with (fail)
       go_cut [24] (fun v24 wc => ∃ (kq : Nat) (x24_7 : Bool), v24 = .bool x24_7 ∧ Aside0 (spec_l2Names.j2 kq l0 a1 x5_1 x6_1 x24_7 = some r) ∧ Aside0 (kq ≤ kj3) ∧ Aside0 (Below w.heap.size w wc))
       case first =>
        have H := HC8.out;clear HC8;by_cases c9 : x6_1 > 0
        ·rw [if_pos c9] at H
         have c9b0 : decide (0 < x6_1) = true := dT c9;clear c9;(first | rw [c9b0] | rw [c9b1] | rw [c9b2] | (simp only [i64_w, i32_w]; rw [c9b0]) | skip);have H' := AM H;clear H;(go_wp2);(go_meet)
         case rel => exact ⟨_, ((x6_1 == (wrap64 ((l0.length : Int) - 1)))), (by first | rfl | (simp; done) | (simp [*]; done)), H', ⟨by have := HK1.out; have := HJ3.out; first | omega | exact Nat.le_refl _⟩, ⟨by with_reducible repeat first | exact HB.out | apply pA | apply pN | apply p1⟩⟩
        ·rw [if_neg c9] at H
         have c9b0 : decide (0 < x6_1) = false := dF c9;clear c9;(first | rw [c9b0] | rw [c9b1] | rw [c9b2] | (simp only [i64_w, i32_w]; rw [c9b0]) | skip);have H' := AM H;clear H;(go_wp2);(go_meet)
         case rel => exact ⟨_, (false), (by first | rfl | (simp; done) | (simp [*]; done)), H', ⟨by have := HK1.out; have := HJ3.out; first | omega | exact Nat.le_refl _⟩, ⟨by with_reducible repeat first | exact HB.out | apply pA | apply pN | apply p1⟩⟩
       case rest =>
        clear HC8;(try clear c2);(try clear p2);(try clear c3);(try clear c3b0);(try clear c5);(try clear c5b0);(try clear c5b1);(try clear c5b2);(try clear c6);(try clear p6);(try clear c7);(try clear c7b0);(try clear c7b1);(try clear c7b2);(try clear c9);(try clear c9b0);(try clear c9b1);(try clear c9b2);(try clear p2);obtain ⟨kq, x24_7, rfl, HA, HJ7, HB⟩ := hcut
        cases kq with
        | zero => exact absurd HA.out (by simp [spec_l2Names.j2])
        | succ kj7 =>
         have H := HA.out;clear HA;simp only [spec_l2Names.j2] at H;by_cases c10 : x24_7 = true
         ·subst c10
          rw [if_pos rfl] at H;by_cases c11 : x5_1.size + 5 ≤ 9223372036854775807
          ·rw [if_pos c11] at H
           have c11b0 := eq_true c11;have c11b1 : decide (x5_1.size + 5 ≤ 9223372036854775807) = true := dT c11;(try have c11b2 : (9223372036854775807 < x5_1.size + 5) = False := eq_false (Nat.not_lt.2 c11));by_cases c12 : 0 ≤ x6_1
           ·rw [if_pos c12] at H
            have c12b0 : decide (0 ≤ x6_1) = true := dT c12;clear c12;by_cases c13 : x6_1 < (l0.length : Int)
            ·rw [if_pos c13] at H
             have c13b0 : decide (x6_1 < (l0.length : Int)) = true := dT c13;clear c13;replace H := oB.mp H;obtain ⟨t200, A140, H⟩ := H;(try dsimp only at H);have A14 := AM A140;clear A140;by_cases c15 : (x5_1 ++ (⟨#[32, 97, 110, 100, 32]⟩ : ByteArray)).size + t200.size ≤ 9223372036854775807
             ·rw [if_pos c15] at H
              have c15b0 := eq_true c15;have c15b1 : decide ((x5_1 ++ (⟨#[32, 97, 110, 100, 32]⟩ : ByteArray)).size + t200.size ≤ 9223372036854775807) = true := dT c15;(try have c15b2 : (9223372036854775807 < (x5_1 ++ (⟨#[32, 97, 110, 100, 32]⟩ : ByteArray)).size + t200.size) = False := eq_false (Nat.not_lt.2 c15));(try have c15b3 : (9223372036854775807 < x5_1.size + 5 + t200.size) = False := eq_false (by have h_ := c15; simp only [ByteArray.size_append, ByteArray.size_extract] at h_; (try simp only [show (⟨#[32, 97, 110, 100, 32]⟩ : ByteArray).size = 5 from rfl] at h_); (try have q0_ := of_eq_true c3b0); (try have q1_ := of_eq_true c11b0); (try have q4_ := of_eq_true c12b0); (try have q5_ := of_eq_true c13b0); omega));have H' := AM H;clear H;have p199 : 0 ≤ (x6_1 : Int) := oD (by assumption);have q199 : x6_1 < (l0.length : Int) := oD (by assumption);obtain ⟨ad199, A199_0, c199_0, e199, hx199_0, hx199_1, hx199_2, hx199_3, hl199_0, hi199_0⟩ := at_T61 HR0.out x6_1 p199 q199;cases e199;replace hx199_0 := (HB.out.cell (World.block_lt_of_cell? w _ hx199_0)).trans hx199_0;replace hx199_1 := (HB.out.cell (World.block_lt_of_cell? w _ hx199_1)).trans hx199_1;replace hx199_2 := (HB.out.cell (World.block_lt_of_cell? w _ hx199_2)).trans hx199_2;replace hx199_3 := (HB.out.cell (World.block_lt_of_cell? w _ hx199_3)).trans hx199_3;have HR199_0 := AM hi199_0;have HC199_0 := AM hl199_0;clear hi199_0 hl199_0;replace p199 := eq_true p199;replace q199 := eq_true q199
              go_wp2_with (first | ((with_reducible refine gC (f := 50) rfl ?_); refine goesL_ (some 46) rfl rfl Tryz.func50 (by kernel_rfl) rfl #[.agg #[.slice A199_0 ((rd_T61 l0 x6_1).f0).length c199_0, .string ((rd_T61 l0 x6_1).f1), .string ((rd_T61 l0 x6_1).f2), .string ((rd_T61 l0 x6_1).f3)]] rfl (by (try simp only [mT, mC, mN]); try rfl) ?_; (with_reducible refine (spec_l2Short.calls kj7 _ _ ((rd_T61 l0 x6_1).f0) ((rd_T61 l0 x6_1).f1) ((rd_T61 l0 x6_1).f2) ((rd_T61 l0 x6_1).f3) t200 _ ?side1 ?side2 A14.out).mono ?_); (case side1 => repeat first | exact (cB HR199_0.out HB.out) | with_reducible first | apply cA | apply cN | apply cD); (case side2 => exact HC199_0.out); rintro e w16 ⟨rfl, hb⟩; refine ⟨_, rfl, ?_⟩; replace HB := AM (bS (by with_reducible repeat first | exact HB.out | apply pA | apply pN | apply p1) hb); (try clear hb)))
              go_roundg kj7
              case measure => have := HK1.out; have := HJ3.out; have := HJ7.out; omega
              case rel => exact ⟨((x5_1 ++ (⟨#[32, 97, 110, 100, 32]⟩ : ByteArray)) ++ t200), (wrap64 (x6_1 + 1)), (by first | rfl | (simp; done) | (simp [*]; done)), (by first | rfl | (simp; done) | (simp [*]; done)), H', ⟨by have := HK1.out; have := HJ3.out; have := HJ7.out; omega⟩, ⟨by with_reducible repeat first | exact HB.out | apply pA | apply pN | apply p1⟩⟩
             ·rw [if_neg c15] at H
              exact absurd H (by simp)
            ·rw [if_neg c13] at H
             exact absurd H (by simp)
           ·rw [if_neg c12] at H
            exact absurd H (by simp)
          ·rw [if_neg c11] at H
           exact absurd H (by simp)
         ·replace c10 := bE.mpr c10
          subst c10;rw [if_neg (show ¬ (false = true) by decide)] at H;by_cases c17 : x6_1 > 0
          ·rw [if_pos c17] at H
           have c17b0 : decide (0 < x6_1) = true := dT c17;clear c17;by_cases c18 : x5_1.size + 2 ≤ 9223372036854775807
           ·rw [if_pos c18] at H
            have c18b0 := eq_true c18;have c18b1 : decide (x5_1.size + 2 ≤ 9223372036854775807) = true := dT c18;(try have c18b2 : (9223372036854775807 < x5_1.size + 2) = False := eq_false (Nat.not_lt.2 c18));by_cases c19 : 0 ≤ x6_1
            ·rw [if_pos c19] at H
             have c19b0 : decide (0 ≤ x6_1) = true := dT c19;clear c19;by_cases c20 : x6_1 < (l0.length : Int)
             ·rw [if_pos c20] at H
              have c20b0 : decide (x6_1 < (l0.length : Int)) = true := dT c20;clear c20;replace H := oB.mp H;obtain ⟨t202, A210, H⟩ := H;(try dsimp only at H);have A21 := AM A210;clear A210;by_cases c22 : (x5_1 ++ (⟨#[44, 32]⟩ : ByteArray)).size + t202.size ≤ 9223372036854775807
              ·rw [if_pos c22] at H
               have c22b0 := eq_true c22;have c22b1 : decide ((x5_1 ++ (⟨#[44, 32]⟩ : ByteArray)).size + t202.size ≤ 9223372036854775807) = true := dT c22;(try have c22b2 : (9223372036854775807 < (x5_1 ++ (⟨#[44, 32]⟩ : ByteArray)).size + t202.size) = False := eq_false (Nat.not_lt.2 c22));(try have c22b3 : (9223372036854775807 < x5_1.size + 2 + t202.size) = False := eq_false (by have h_ := c22; simp only [ByteArray.size_append, ByteArray.size_extract] at h_; (try simp only [show (⟨#[44, 32]⟩ : ByteArray).size = 2 from rfl] at h_); (try have q0_ := of_eq_true c3b0); (try have q1_ := of_eq_true c17b0); (try have q2_ := of_eq_true c18b0); (try have q5_ := of_eq_true c19b0); (try have q6_ := of_eq_true c20b0); omega));have H' := AM H;clear H;have p201 : 0 ≤ (x6_1 : Int) := oD (by assumption);have q201 : x6_1 < (l0.length : Int) := oD (by assumption);obtain ⟨ad201, A201_0, c201_0, e201, hx201_0, hx201_1, hx201_2, hx201_3, hl201_0, hi201_0⟩ := at_T61 HR0.out x6_1 p201 q201;cases e201;replace hx201_0 := (HB.out.cell (World.block_lt_of_cell? w _ hx201_0)).trans hx201_0;replace hx201_1 := (HB.out.cell (World.block_lt_of_cell? w _ hx201_1)).trans hx201_1;replace hx201_2 := (HB.out.cell (World.block_lt_of_cell? w _ hx201_2)).trans hx201_2;replace hx201_3 := (HB.out.cell (World.block_lt_of_cell? w _ hx201_3)).trans hx201_3;have HR201_0 := AM hi201_0;have HC201_0 := AM hl201_0;clear hi201_0 hl201_0;replace p201 := eq_true p201;replace q201 := eq_true q201
               go_wp2_with (first | ((with_reducible refine gC (f := 50) rfl ?_); refine goesL_ (some 46) rfl rfl Tryz.func50 (by kernel_rfl) rfl #[.agg #[.slice A201_0 ((rd_T61 l0 x6_1).f0).length c201_0, .string ((rd_T61 l0 x6_1).f1), .string ((rd_T61 l0 x6_1).f2), .string ((rd_T61 l0 x6_1).f3)]] rfl (by (try simp only [mT, mC, mN]); try rfl) ?_; (with_reducible refine (spec_l2Short.calls kj7 _ _ ((rd_T61 l0 x6_1).f0) ((rd_T61 l0 x6_1).f1) ((rd_T61 l0 x6_1).f2) ((rd_T61 l0 x6_1).f3) t202 _ ?side1 ?side2 A21.out).mono ?_); (case side1 => repeat first | exact (cB HR201_0.out HB.out) | with_reducible first | apply cA | apply cN | apply cD); (case side2 => exact HC201_0.out); rintro e w23 ⟨rfl, hb⟩; refine ⟨_, rfl, ?_⟩; replace HB := AM (bS (by with_reducible repeat first | exact HB.out | apply pA | apply pN | apply p1) hb); (try clear hb)))
               go_roundg kj7
               case measure => have := HK1.out; have := HJ3.out; have := HJ7.out; omega
               case rel => exact ⟨((x5_1 ++ (⟨#[44, 32]⟩ : ByteArray)) ++ t202), (wrap64 (x6_1 + 1)), (by first | rfl | (simp; done) | (simp [*]; done)), (by first | rfl | (simp; done) | (simp [*]; done)), H', ⟨by have := HK1.out; have := HJ3.out; have := HJ7.out; omega⟩, ⟨by with_reducible repeat first | exact HB.out | apply pA | apply pN | apply p1⟩⟩
              ·rw [if_neg c22] at H
               exact absurd H (by simp)
             ·rw [if_neg c20] at H
              exact absurd H (by simp)
            ·rw [if_neg c19] at H
             exact absurd H (by simp)
           ·rw [if_neg c18] at H
            exact absurd H (by simp)
          ·rw [if_neg c17] at H
           have c17b0 : decide (0 < x6_1) = false := dF c17;clear c17;by_cases c24 : 0 ≤ x6_1
           ·rw [if_pos c24] at H
            have c24b0 : decide (0 ≤ x6_1) = true := dT c24;clear c24;by_cases c25 : x6_1 < (l0.length : Int)
            ·rw [if_pos c25] at H
             have c25b0 : decide (x6_1 < (l0.length : Int)) = true := dT c25;clear c25;replace H := oB.mp H;obtain ⟨t204, A260, H⟩ := H;(try dsimp only at H);have A26 := AM A260;clear A260;by_cases c27 : x5_1.size + t204.size ≤ 9223372036854775807
             ·rw [if_pos c27] at H
              have c27b0 := eq_true c27;have c27b1 : decide (x5_1.size + t204.size ≤ 9223372036854775807) = true := dT c27;(try have c27b2 : (9223372036854775807 < x5_1.size + t204.size) = False := eq_false (Nat.not_lt.2 c27));have H' := AM H;clear H;have p203 : 0 ≤ (x6_1 : Int) := oD (by assumption);have q203 : x6_1 < (l0.length : Int) := oD (by assumption);obtain ⟨ad203, A203_0, c203_0, e203, hx203_0, hx203_1, hx203_2, hx203_3, hl203_0, hi203_0⟩ := at_T61 HR0.out x6_1 p203 q203;cases e203;replace hx203_0 := (HB.out.cell (World.block_lt_of_cell? w _ hx203_0)).trans hx203_0;replace hx203_1 := (HB.out.cell (World.block_lt_of_cell? w _ hx203_1)).trans hx203_1;replace hx203_2 := (HB.out.cell (World.block_lt_of_cell? w _ hx203_2)).trans hx203_2;replace hx203_3 := (HB.out.cell (World.block_lt_of_cell? w _ hx203_3)).trans hx203_3;have HR203_0 := AM hi203_0;have HC203_0 := AM hl203_0;clear hi203_0 hl203_0;replace p203 := eq_true p203;replace q203 := eq_true q203
              go_wp2_with (first | ((with_reducible refine gC (f := 50) rfl ?_); refine goesL_ (some 46) rfl rfl Tryz.func50 (by kernel_rfl) rfl #[.agg #[.slice A203_0 ((rd_T61 l0 x6_1).f0).length c203_0, .string ((rd_T61 l0 x6_1).f1), .string ((rd_T61 l0 x6_1).f2), .string ((rd_T61 l0 x6_1).f3)]] rfl (by (try simp only [mT, mC, mN]); try rfl) ?_; (with_reducible refine (spec_l2Short.calls kj7 _ _ ((rd_T61 l0 x6_1).f0) ((rd_T61 l0 x6_1).f1) ((rd_T61 l0 x6_1).f2) ((rd_T61 l0 x6_1).f3) t204 _ ?side1 ?side2 A26.out).mono ?_); (case side1 => repeat first | exact (cB HR203_0.out HB.out) | with_reducible first | apply cA | apply cN | apply cD); (case side2 => exact HC203_0.out); rintro e w28 ⟨rfl, hb⟩; refine ⟨_, rfl, ?_⟩; replace HB := AM (bS (by with_reducible repeat first | exact HB.out | apply pA | apply pN | apply p1) hb); (try clear hb)))
              go_roundg kj7
              case measure => have := HK1.out; have := HJ3.out; have := HJ7.out; omega
              case rel => exact ⟨(x5_1 ++ t204), (wrap64 (x6_1 + 1)), (by first | rfl | (simp; done) | (simp [*]; done)), (by first | rfl | (simp; done) | (simp [*]; done)), H', ⟨by have := HK1.out; have := HJ3.out; have := HJ7.out; omega⟩, ⟨by with_reducible repeat first | exact HB.out | apply pA | apply pN | apply p1⟩⟩
             ·rw [if_neg c27] at H
              exact absurd H (by simp)
            ·rw [if_neg c25] at H
             exact absurd H (by simp)
           ·rw [if_neg c24] at H
            exact absurd H (by simp)
   ·rw [if_neg c3] at H
    have c3b0 : decide (x6_1 < (l0.length : Int)) = false := dF c3;clear c3;obtain rfl := oI H;(go_wp2);(go_ret);exact ⟨rfl, by with_reducible repeat first | exact HB.out | apply pA | apply pN | apply p1⟩
/-! ### spec_l1Num: function 51 -/
def spec_l1Num.f : Nat → Int → Option (ByteArray)
 | 0, _ => none
 | k + 1, a0 => if a0 < 0 then ((spec_l1Num.f k (wrap64 (-a0))).bind fun t205 => (if 1 + t205.size ≤ 9223372036854775807 then (some ((⟨#[45]⟩ : ByteArray) ++ t205)) else (none))) else (if a0 < 10 then (if 0 ≤ a0 then (if a0 ≤ (wrap64 (a0 + 1)) then (if (wrap64 (a0 + 1)) ≤ 10 then (some ((⟨#[48, 49, 50, 51, 52, 53, 54, 55, 56, 57]⟩ : ByteArray).extract (a0 : Int).toNat ((wrap64 (a0 + 1)) : Int).toNat)) else (none)) else (none)) else (none)) else ((spec_l1Num.f k (wrap64 (Int.tdiv a0 10))).bind fun t206 => (if 0 ≤ (Int.tmod a0 10) then (if (Int.tmod a0 10) ≤ (wrap64 ((Int.tmod a0 10) + 1)) then (if (wrap64 ((Int.tmod a0 10) + 1)) ≤ 10 then (if t206.size + ((⟨#[48, 49, 50, 51, 52, 53, 54, 55, 56, 57]⟩ : ByteArray).extract ((Int.tmod a0 10) : Int).toNat ((wrap64 ((Int.tmod a0 10) + 1)) : Int).toNat).size ≤ 9223372036854775807 then (some (t206 ++ ((⟨#[48, 49, 50, 51, 52, 53, 54, 55, 56, 57]⟩ : ByteArray).extract ((Int.tmod a0 10) : Int).toNat ((wrap64 ((Int.tmod a0 10) + 1)) : Int).toNat))) else (none)) else (none)) else (none)) else (none))))
theorem spec_l1Num.mono_l : ∀ k, (∀ y0, LeO (spec_l1Num.f k y0) (spec_l1Num.f (k + 1) y0))
 | 0 => fun _ r h => by simp [spec_l1Num.f] at h
 | k + 1 => by
  have ih0 := spec_l1Num.mono_l k
  ·intro y0
   unfold spec_l1Num.f
   repeat' with_reducible first
   | exact ih0 _
   | exact LeO.refl _
   | exact LeO.none _
   | refine LeO.ite ?_ ?_
   | refine LeO.bind ?_ (fun _ => ?_)
theorem spec_l1Num.mono : ∀ a0 k, LeO (spec_l1Num.f k a0) (spec_l1Num.f (k + 1) a0) := by
 intro a0 k;have ih0 := spec_l1Num.mono_l k;exact ih0 a0
def spec_l1Num.T5 : Bool × List (List Nat × List Nat) := (true, [([], []), ([0], [0]), ([1], [1]), ([], []), ([3], [3]), ([], []), ([5], [5]), ([6], [6]), ([4, 7], [4, 7]), ([2, 8], [2, 8]), ([9, 2, 0, 1, 2, 3, 4, 5, 6, 7, 8, 9], [9])])
def spec_l1Num.B5 : List Nat := [0, 1, 3, 0, 8, 0, 32, 96, 248, 511, 1023]
theorem spec_l1Num.tab5 : rtab .any (opsOf Tryz.f51 5) = spec_l1Num.T5 := by kernel_rfl
theorem spec_l1Num.bits5 : waitsOk spec_l1Num.T5.2 spec_l1Num.B5 = true := by kernel_rfl
theorem spec_l1Num.calls (k : Nat) : ∀ (a0 : Int) (r : ByteArray) (w : World) (h : spec_l1Num.f k a0 = some r),
  Calls Tryz.prog 51 #[.int .i64 a0] w fun e w' => e = .returned (.string r) ∧ Below w.heap.size w w' := by
 induction k using Nat.strongRecOn with
 | _ k ih =>
 intro a0 r w h
 cases k with
 | zero => exact absurd h (by simp [spec_l1Num.f])
 | succ k =>
 simp only [spec_l1Num.f] at h;have HB := AM (Below.refl w.heap.size w);have H : (if a0 < 0 then ((spec_l1Num.f k (wrap64 (-a0))).bind fun t205 => (if 1 + t205.size ≤ 9223372036854775807 then (some ((⟨#[45]⟩ : ByteArray) ++ t205)) else (none))) else (if a0 < 10 then (if 0 ≤ a0 then (if a0 ≤ (wrap64 (a0 + 1)) then (if (wrap64 (a0 + 1)) ≤ 10 then (some ((⟨#[48, 49, 50, 51, 52, 53, 54, 55, 56, 57]⟩ : ByteArray).extract (a0 : Int).toNat ((wrap64 (a0 + 1)) : Int).toNat)) else (none)) else (none)) else (none)) else ((spec_l1Num.f k (wrap64 (Int.tdiv a0 10))).bind fun t206 => (if 0 ≤ (Int.tmod a0 10) then (if (Int.tmod a0 10) ≤ (wrap64 ((Int.tmod a0 10) + 1)) then (if (wrap64 ((Int.tmod a0 10) + 1)) ≤ 10 then (if t206.size + ((⟨#[48, 49, 50, 51, 52, 53, 54, 55, 56, 57]⟩ : ByteArray).extract ((Int.tmod a0 10) : Int).toNat ((wrap64 ((Int.tmod a0 10) + 1)) : Int).toNat).size ≤ 9223372036854775807 then (some (t206 ++ ((⟨#[48, 49, 50, 51, 52, 53, 54, 55, 56, 57]⟩ : ByteArray).extract ((Int.tmod a0 10) : Int).toNat ((wrap64 ((Int.tmod a0 10) + 1)) : Int).toNat))) else (none)) else (none)) else (none)) else (none))))) = some r := h;clear h;by_cases c2 : a0 < 0
 ·rw [if_pos c2] at H
  have c2b0 : decide (a0 < 0) = true := dT c2;clear c2;replace H := oB.mp H;obtain ⟨t205, A30, H⟩ := H;(try dsimp only at H);have A3 := AM A30;clear A30;by_cases c4 : 1 + t205.size ≤ 9223372036854775807
  ·rw [if_pos c4] at H
   have c4b0 := eq_true c4;have c4b1 : decide (1 + t205.size ≤ 9223372036854775807) = true := dT c4;(try have c4b2 : (9223372036854775807 < 1 + t205.size) = False := eq_false (Nat.not_lt.2 c4));obtain rfl := oI H;(go_enter Tryz.func51, Tryz.ntmps51)
   go_wp2_with (first | ((with_reducible refine gC (f := 51) rfl ?_); refine goesL_ (some 7) rfl rfl Tryz.func51 (by kernel_rfl) rfl #[.int .i64 (wrap64 (-a0))] rfl (by (try simp only [mT, mC, mN]); try rfl) ?_; (with_reducible refine (ih k (by omega) (wrap64 (-a0)) t205 _ A3.out).mono ?_); rintro e w5 ⟨rfl, hb⟩; refine ⟨_, rfl, ?_⟩; replace HB := AM (bS (by with_reducible repeat first | exact HB.out | apply pA | apply pN | apply p1) hb); (try clear hb)))
   (go_ret);exact ⟨rfl, by with_reducible repeat first | exact HB.out | apply pA | apply pN | apply p1⟩
  ·rw [if_neg c4] at H
   exact absurd H (by simp)
 ·rw [if_neg c2] at H
  have c2b0 : decide (a0 < 0) = false := dF c2;clear c2;by_cases c6 : a0 < 10;(·rw [if_pos c6] at H;have c6b0 : decide (a0 < 10) = true := dT c6;clear c6;by_cases c7 : 0 ≤ a0;(·rw [if_pos c7] at H;have c7b0 := eq_true c7;have c7b1 : decide (0 ≤ a0) = true := dT c7;clear c7;by_cases c8 : a0 ≤ (wrap64 (a0 + 1));(·rw [if_pos c8] at H;have c8b0 := eq_true c8;have c8b1 : decide (a0 ≤ (wrap64 (a0 + 1))) = true := dT c8;by_cases c9 : (wrap64 (a0 + 1)) ≤ 10;(·rw [if_pos c9] at H;have c9b0 := eq_true c9;have c9b1 : decide ((wrap64 (a0 + 1)) ≤ 10) = true := dT c9;obtain rfl := oI H;(go_enter Tryz.func51, Tryz.ntmps51);(go_wp2);(go_ret);exact ⟨rfl, by with_reducible repeat first | exact HB.out | apply pA | apply pN | apply p1⟩);(·rw [if_neg c9] at H;exact absurd H (by simp)));(·rw [if_neg c8] at H;exact absurd H (by simp)));(·rw [if_neg c7] at H;exact absurd H (by simp)))
  ·rw [if_neg c6] at H
   have c6b0 : decide (a0 < 10) = false := dF c6;clear c6;replace H := oB.mp H;obtain ⟨t206, A100, H⟩ := H;(try dsimp only at H);have A10 := AM A100;clear A100
   obtain ⟨ji11, hji11⟩ : ∃ j_ : Int, (Int.tmod a0 10) = j_ := ⟨_, rfl⟩
   replace H : (if 0 ≤ (ji11) then (if (ji11) ≤ (wrap64 ((ji11) + 1)) then (if (wrap64 ((ji11) + 1)) ≤ 10 then (if t206.size + ((⟨#[48, 49, 50, 51, 52, 53, 54, 55, 56, 57]⟩ : ByteArray).extract ((ji11) : Int).toNat ((wrap64 ((ji11) + 1)) : Int).toNat).size ≤ 9223372036854775807 then (some (t206 ++ ((⟨#[48, 49, 50, 51, 52, 53, 54, 55, 56, 57]⟩ : ByteArray).extract ((ji11) : Int).toNat ((wrap64 ((ji11) + 1)) : Int).toNat))) else (none)) else (none)) else (none)) else (none)) = some r := by first | (rw [hji11] at H; exact H) | (simp only [hji11] at H ⊢; exact H)
   (try rw [hji11] at A10);by_cases c12 : 0 ≤ (ji11)
   ·rw [if_pos c12] at H
    have c12b0 := eq_true c12;have c12b1 : decide (0 ≤ (ji11)) = true := dT c12;clear c12;by_cases c13 : (ji11) ≤ (wrap64 ((ji11) + 1))
    ·rw [if_pos c13] at H
     have c13b0 := eq_true c13;have c13b1 : decide ((ji11) ≤ (wrap64 ((ji11) + 1))) = true := dT c13;by_cases c14 : (wrap64 ((ji11) + 1)) ≤ 10
     ·rw [if_pos c14] at H
      have c14b0 := eq_true c14;have c14b1 : decide ((wrap64 ((ji11) + 1)) ≤ 10) = true := dT c14;by_cases c15 : t206.size + ((⟨#[48, 49, 50, 51, 52, 53, 54, 55, 56, 57]⟩ : ByteArray).extract ((ji11) : Int).toNat ((wrap64 ((ji11) + 1)) : Int).toNat).size ≤ 9223372036854775807
      ·rw [if_pos c15] at H
       have c15b0 := eq_true c15;have c15b1 : decide (t206.size + ((⟨#[48, 49, 50, 51, 52, 53, 54, 55, 56, 57]⟩ : ByteArray).extract ((ji11) : Int).toNat ((wrap64 ((ji11) + 1)) : Int).toNat).size ≤ 9223372036854775807) = true := dT c15;(try have c15b2 : (9223372036854775807 < t206.size + ((⟨#[48, 49, 50, 51, 52, 53, 54, 55, 56, 57]⟩ : ByteArray).extract ((ji11) : Int).toNat ((wrap64 ((ji11) + 1)) : Int).toNat).size) = False := eq_false (Nat.not_lt.2 c15));(try have c15b3 : (9223372036854775807 < t206.size + (((wrap64 ((ji11) + 1)) : Int).toNat - ((ji11) : Int).toNat)) = False := eq_false (by have h_ := c15; simp only [ByteArray.size_append, ByteArray.size_extract] at h_; (try simp only [show (⟨#[48, 49, 50, 51, 52, 53, 54, 55, 56, 57]⟩ : ByteArray).size = 10 from rfl] at h_); (try have q0_ := of_eq_true c2b0); (try have q1_ := of_eq_true c6b0); (try have q2_ := of_eq_true c12b0); (try have q4_ := of_eq_true c13b0); (try have q7_ := of_eq_true c14b0); omega));obtain rfl := oI H;(go_enter Tryz.func51, Tryz.ntmps51);(try go_wp2);replace HB := AM (p1 HB.out);(refine start_ (n := 11) (S := fun w' => True) (ds := []) (bA 11 0) (by kernel_rfl) rfl rfl trivial (fun hHeld => ?_); refine with_tabW spec_l1Num.tab5 spec_l1Num.bits5 (fun HT_ HW_ => ?_));generalize w.drew = w16 at HB hHeld ⊢;refine pure_ (i := 0) (N := some 15) (v := ?_) (a' := ?_) (bA 11 1) rfl rfl (any_of HT_.out (by kernel_rfl)) (fun _ _ _ h => h) (Or.inl ⟨by rfl, ?_⟩) ?_ ?_;rotate_left;(·intro w';go_simp;(with_reducible rfl));rotate_left;(·simp only [Act.put, lT, lZ, lS, i64_w, i32_w];rfl);refine pure_ (i := 1) (N := some 16) (v := ?_) (a' := ?_) (bA 11 3) rfl rfl (any_of HT_.out (by kernel_rfl)) (fun _ _ _ h => h) (Or.inl ⟨by rfl, ?_⟩) ?_ ?_;rotate_left;(·intro w';go_simp;(with_reducible rfl));rotate_left;(·simp only [Act.put, lT, lZ, lS, i64_w, i32_w];rfl);refine pure_ (i := 3) (N := some 18) (v := ?_) (a' := ?_) (bA 11 11) rfl rfl (any_of HT_.out (by kernel_rfl)) (fun _ _ _ h => h) (Or.inl ⟨by rfl, ?_⟩) ?_ ?_;rotate_left;(·intro w';go_simp;(with_reducible rfl));rotate_left;(·simp only [Act.put, lT, lZ, lS, i64_w, i32_w];rfl);refine pure_ (i := 4) (N := some 19) (v := ?_) (a' := ?_) (bA 11 27) rfl rfl (any_of HT_.out (by kernel_rfl)) (fun _ _ _ h => h) (Or.inl ⟨by rfl, ?_⟩) ?_ ?_;rotate_left;(·intro w';go_simp;(with_reducible rfl));rotate_left;(·simp only [Act.put, lT, lZ, lS, i64_w, i32_w];rfl);refine pure_ (i := 5) (N := some 20) (v := ?_) (a' := ?_) (bA 11 59) rfl rfl (any_of HT_.out (by kernel_rfl)) (fun _ _ _ h => h) (Or.inl ⟨by rfl, ?_⟩) ?_ ?_;rotate_left;(·intro w';go_simp;(with_reducible rfl));rotate_left;(·simp only [Act.put, lT, lZ, lS, i64_w, i32_w];rfl);refine pure_ (i := 6) (N := some 21) (v := ?_) (a' := ?_) (bA 11 123) rfl rfl (any_of HT_.out (by kernel_rfl)) (fun _ _ _ h => h) (Or.inl ⟨by rfl, ?_⟩) ?_ ?_;rotate_left;(·intro w';go_simp;(with_reducible rfl));rotate_left;(·simp only [Act.put, lT, lZ, lS, i64_w, i32_w];rfl);refine pure_ (i := 7) (N := some 22) (v := ?_) (a' := ?_) (bA 11 251) rfl rfl (any_of HT_.out (by kernel_rfl)) (fun _ _ _ h => h) (Or.inl ⟨by rfl, ?_⟩) ?_ ?_;rotate_left;(·intro w';go_simp;(with_reducible rfl));rotate_left;(·simp only [Act.put, lT, lZ, lS, i64_w, i32_w];rfl);refine pure_ (i := 8) (N := some 23) (v := ?_) (a' := ?_) (bA 11 507) rfl rfl (any_of HT_.out (by kernel_rfl)) (fun _ _ _ h => h) (Or.inl ⟨by rfl, ?_⟩) ?_ ?_;rotate_left;(·intro w';go_simp;(with_reducible rfl));rotate_left;(·simp only [Act.put, lT, lZ, lS, i64_w, i32_w];rfl);refine one_ (i := 2) (N := some 17) (bA 11 511) rfl rfl (one_of HT_.out (by kernel_rfl)) (by decide) (fun K hK => ?_);refine goes_ Tryz.func51 (by kernel_rfl) rfl #[.int .i64 (wrap64 (Int.tdiv a0 10))] (by rfl) rfl rfl (by (try simp only [mT, mC, mN]); try rfl) ?_;(with_reducible refine (ih k (by omega) (wrap64 (Int.tdiv a0 10)) t206 _ A10.out).mono ?_);rintro e w17 ⟨rfl, hb⟩;refine ⟨_, rfl, ?_⟩;replace HB := AM (bS (by with_reducible repeat first | exact HB.out | apply pA | apply pN | apply p1) hb);(try clear hb);refine hK.out _ _ trivial (fun hHeld => ?_);clear hK K;refine norm_ (a' := ?_) ?_ ?_;rotate_left
       ·show Act.put _ (some 17) _ = _
        simp only [Act.put, lT, lZ, lS, i64_w, i32_w];rfl
       refine pure_ (i := 9) (N := some 24) (v := ?_) (a' := ?_) (bA 11 1023) rfl rfl (any_of HT_.out (by kernel_rfl)) (fun _ _ _ h => h) (Or.inl ⟨by rfl, ?_⟩) ?_ ?_;rotate_left;(·intro w';go_simp;(with_reducible rfl));rotate_left;(·simp only [Act.put, lT, lZ, lS, i64_w, i32_w];rfl);refine pure_ (i := 10) (N := some 2) (v := ?_) (a' := ?_) (bA 11 2047) rfl rfl (any_of HT_.out (by kernel_rfl)) (fun _ _ _ h => h) (Or.inl ⟨by rfl, ?_⟩) ?_ ?_;rotate_left;(·intro w';go_simp;(with_reducible rfl));rotate_left;(·simp only [Act.put, lT, lZ, lS, i64_w, i32_w];rfl);refine done_ (done_of HT_.out (by kernel_rfl)) ?_;(try go_wp2);(go_ret);exact ⟨by first | rfl | (simp [errW_none, errW_some] <;> rfl) | (simp only [← hji11]; first | rfl | (simp [errW_none, errW_some] <;> rfl)) | (simp [*, errW_none, errW_some] <;> rfl) | (simp [errW_none, errW_some] <;> (apply Bool.eq_iff_iff.2; simp [List.isEmpty_iff])), by with_reducible repeat first | exact HB.out | apply pA | apply pN | apply p1⟩
      ·rw [if_neg c15] at H
       exact absurd H (by simp)
     ·rw [if_neg c14] at H
      exact absurd H (by simp)
    ·rw [if_neg c13] at H
     exact absurd H (by simp)
   ·rw [if_neg c12] at H
    exact absurd H (by simp)
/-! ### spec_l10Year: function 30 -/
def spec_l10Year.f (k : Nat) (a0_0 : Int) (a0_1 : Int) (a0_2 : Int) (a0_3 : Bool) : Option (ByteArray) := if a0_0 = 0 then (some (⟨#[]⟩ : ByteArray)) else (if a0_3 = true then ((spec_l1Num.f k a0_0).bind fun t208 => (if 4 + t208.size ≤ 9223372036854775807 then (some ((⟨#[99, 97, 46, 32]⟩ : ByteArray) ++ t208)) else (none))) else ((spec_l1Num.f k a0_0).bind fun t209 => (some t209)))
theorem spec_l10Year.mono : ∀ a0 a1 a2 a3 k, LeO (spec_l10Year.f k a0 a1 a2 a3) (spec_l10Year.f (k + 1) a0 a1 a2 a3) := by
 intro a0 a1 a2 a3 k;unfold spec_l10Year.f
 repeat' with_reducible first
   | exact spec_l1Num.mono _ _
   | exact LeO.refl _
   | exact LeO.none _
   | refine LeO.ite ?_ ?_
   | refine LeO.bind ?_ (fun _ => ?_)
theorem spec_l10Year.calls (k : Nat) (a0_0 : Int) (a0_1 : Int) (a0_2 : Int) (a0_3 : Bool) (r : ByteArray) (w : World) (h : spec_l10Year.f k a0_0 a0_1 a0_2 a0_3 = some r) :
  Calls Tryz.prog 30 #[.agg #[.int .i64 a0_0, .int .i64 a0_1, .int .i64 a0_2, .bool a0_3]] w fun e w' => e = .returned (.string r) ∧ Below w.heap.size w w' := by
 have hu31 := Tryz.underlying31;have HB := AM (Below.refl w.heap.size w);have H := h;unfold spec_l10Year.f at H;clear h;have HC2 := AM H;clear H;(go_enter Tryz.func30, Tryz.ntmps30)
 go_upto_if 3 with (first | ((with_reducible refine gate_dst (N := 1) rfl ?_); refine box_event ?hg (N := 1) ?hd (cs := #[.int .i64 a0_0, .int .i64 a0_1, .int .i64 a0_2, .bool a0_3]) (t := 31) ?hr ?_; (case hd => rfl); (case hg => rfl); (case hr => first | (go_simp; done) | (go_simp; rfl)); intro gb207 hg w3 hbox hb; have BK207 := AM (hbox); have GW207 := AM ((by rw [hg]; exact (bZ (by with_reducible repeat first | exact HB.out | apply pA | apply pN | apply p1)) : w.heap.size ≤ gb207)); have GE207 := AM ((by rw [hg]; exact (bZ (by with_reducible repeat first | exact HB.out | apply pA | apply pN | apply p1)) : w.heap.size ≤ gb207)); replace HB := AM (bS (by with_reducible repeat first | exact HB.out | apply pA | apply pN | apply p1) hb); clear hb hbox hg; obtain ⟨z4_0, z4_1, z4_2, z4_3⟩ := cells4 BK207.out))
 have H := HC2.out;clear HC2;by_cases c5 : a0_0 = 0;(·rw [if_pos c5] at H;have c5b0 : (a0_0 == 0) = true := beq_iff_eq.mpr c5;have c5b1 : (a0_0 != 0) = false := bne_eq_false_iff_eq.mpr c5;clear c5;(first | rw [c5b0] | rw [c5b1] | rw [c5b2] | (simp only [i64_w, i32_w]; rw [c5b0]) | skip);obtain rfl := oI H;(go_wp2);(go_ret);exact ⟨rfl, by with_reducible repeat first | exact HB.out | apply pA | apply pN | apply p1 | refine pS ?_ GE207.out⟩)
 ·rw [if_neg c5] at H
  have c5b0 : (a0_0 == 0) = false := beq_eq_false_iff_ne.mpr c5;have c5b1 : (a0_0 != 0) = true := bne_iff_ne.mpr c5;(first | rw [c5b0] | rw [c5b1] | rw [c5b2] | (simp only [i64_w, i32_w]; rw [c5b0]) | skip);by_cases c6 : a0_3 = true
  ·subst c6
   rw [if_pos rfl] at H;replace H := oB.mp H;obtain ⟨t208, A70, H⟩ := H;(try dsimp only at H);have A7 := AM A70;clear A70;by_cases c8 : 4 + t208.size ≤ 9223372036854775807
   ·rw [if_pos c8] at H
    have c8b0 := eq_true c8;have c8b1 : decide (4 + t208.size ≤ 9223372036854775807) = true := dT c8;(try have c8b2 : (9223372036854775807 < 4 + t208.size) = False := eq_false (Nat.not_lt.2 c8));obtain rfl := oI H;obtain ⟨z9_0, z9_1, z9_2, z9_3⟩ := cells4 BK207.out
    go_wp2_with (first | ((with_reducible refine gC (f := 51) rfl ?_); refine goesL_ (some 12) rfl rfl Tryz.func51 (by kernel_rfl) rfl #[.int .i64 a0_0] rfl (by (try simp only [mT, mC, mN]); try rfl) ?_; (with_reducible refine (spec_l1Num.calls k a0_0 t208 _ A7.out).mono ?_); rintro e w10 ⟨rfl, hb⟩; refine ⟨_, rfl, ?_⟩; replace BK207 := AM (blk_below (by (with_reducible repeat first | apply blk_drewN | apply blk_drew | apply blk_alloc); exact BK207.out) hb); replace HB := AM (bS (by with_reducible repeat first | exact HB.out | apply pA | apply pN | apply p1 | refine pS ?_ GE207.out) hb); (try clear hb)))
    (go_ret);exact ⟨rfl, by with_reducible repeat first | exact HB.out | apply pA | apply pN | apply p1 | refine pS ?_ GE207.out⟩
   ·rw [if_neg c8] at H
    exact absurd H (by simp)
  ·replace c6 := Bool.eq_false_iff.mpr c6
   subst c6;rw [if_neg (show ¬ (false = true) by decide)] at H;replace H := oB.mp H;obtain ⟨t209, A110, H⟩ := H;(try dsimp only at H);have A11 := AM A110;clear A110;obtain rfl := oI H;obtain ⟨z12_0, z12_1, z12_2, z12_3⟩ := cells4 BK207.out
   go_wp2_with (first | ((with_reducible refine gC (f := 51) rfl ?_); refine goesL_ (some 16) rfl rfl Tryz.func51 (by kernel_rfl) rfl #[.int .i64 a0_0] rfl (by (try simp only [mT, mC, mN]); try rfl) ?_; (with_reducible refine (spec_l1Num.calls k a0_0 t209 _ A11.out).mono ?_); rintro e w13 ⟨rfl, hb⟩; refine ⟨_, rfl, ?_⟩; replace BK207 := AM (blk_below (by (with_reducible repeat first | apply blk_drewN | apply blk_drew | apply blk_alloc); exact BK207.out) hb); replace HB := AM (bS (by with_reducible repeat first | exact HB.out | apply pA | apply pN | apply p1 | refine pS ?_ GE207.out) hb); (try clear hb)))
   (go_ret);exact ⟨rfl, by with_reducible repeat first | exact HB.out | apply pA | apply pN | apply p1 | refine pS ?_ GE207.out⟩
/-! ### spec_l3Months: function 52 -/
def spec_l3Months.f  : Option (List ByteArray) := some (([(⟨#[]⟩ : ByteArray), (⟨#[74, 97, 110, 117, 97, 114, 121]⟩ : ByteArray), (⟨#[70, 101, 98, 114, 117, 97, 114, 121]⟩ : ByteArray), (⟨#[77, 97, 114, 99, 104]⟩ : ByteArray), (⟨#[65, 112, 114, 105, 108]⟩ : ByteArray), (⟨#[77, 97, 121]⟩ : ByteArray), (⟨#[74, 117, 110, 101]⟩ : ByteArray), (⟨#[74, 117, 108, 121]⟩ : ByteArray), (⟨#[65, 117, 103, 117, 115, 116]⟩ : ByteArray), (⟨#[83, 101, 112, 116, 101, 109, 98, 101, 114]⟩ : ByteArray), (⟨#[79, 99, 116, 111, 98, 101, 114]⟩ : ByteArray), (⟨#[78, 111, 118, 101, 109, 98, 101, 114]⟩ : ByteArray), (⟨#[68, 101, 99, 101, 109, 98, 101, 114]⟩ : ByteArray)] : List ByteArray))
theorem spec_l3Months.calls  (r : List ByteArray) (w : World) (h : spec_l3Months.f  = some r) :
  Calls Tryz.prog 52 #[] w fun e w' => ∃ v0_ : Value, e = .returned (v0_) ∧ Kd.R Kd.string 9 w' w.heap.size (fun _ => True) v0_ r ∧ Below w.heap.size w w' := by
 have HB := AM (Below.refl w.heap.size w);have H := h;unfold spec_l3Months.f at H;clear h
 obtain ⟨y210, hy210⟩ : ∃ y_ : List ByteArray, y_ = (([(⟨#[]⟩ : ByteArray), (⟨#[74, 97, 110, 117, 97, 114, 121]⟩ : ByteArray), (⟨#[70, 101, 98, 114, 117, 97, 114, 121]⟩ : ByteArray), (⟨#[77, 97, 114, 99, 104]⟩ : ByteArray), (⟨#[65, 112, 114, 105, 108]⟩ : ByteArray), (⟨#[77, 97, 121]⟩ : ByteArray), (⟨#[74, 117, 110, 101]⟩ : ByteArray), (⟨#[74, 117, 108, 121]⟩ : ByteArray), (⟨#[65, 117, 103, 117, 115, 116]⟩ : ByteArray), (⟨#[83, 101, 112, 116, 101, 109, 98, 101, 114]⟩ : ByteArray), (⟨#[79, 99, 116, 111, 98, 101, 114]⟩ : ByteArray), (⟨#[78, 111, 118, 101, 109, 98, 101, 114]⟩ : ByteArray), (⟨#[68, 101, 99, 101, 109, 98, 101, 114]⟩ : ByteArray)] : List ByteArray)) := ⟨_, rfl⟩
 (replace H : (some y210) = some r := by first | (rw [hy210]; with_reducible exact H) | (have H2_ := (Option.bind_some _ _).symm.trans H; rw [hy210]; with_reducible exact H2_) | (have H2_ := (Option.bind_some _ _).symm.trans H; with_reducible exact H2_) | with_reducible exact H | (rw [hy210]; exact H) | exact H);have Ny210 := AM hy210;clear hy210;obtain rfl := oI H;(go_enter Tryz.func52, Tryz.ntmps52)
 go_wp2_with (first | ((with_reducible refine gate_dst (N := 1) rfl ?_); refine Kd.R_lit Kd.string _ 9 ?hg (N := 1) ?hd (xs := ([(⟨#[]⟩ : ByteArray), (⟨#[74, 97, 110, 117, 97, 114, 121]⟩ : ByteArray), (⟨#[70, 101, 98, 114, 117, 97, 114, 121]⟩ : ByteArray), (⟨#[77, 97, 114, 99, 104]⟩ : ByteArray), (⟨#[65, 112, 114, 105, 108]⟩ : ByteArray), (⟨#[77, 97, 121]⟩ : ByteArray), (⟨#[74, 117, 110, 101]⟩ : ByteArray), (⟨#[74, 117, 108, 121]⟩ : ByteArray), (⟨#[65, 117, 103, 117, 115, 116]⟩ : ByteArray), (⟨#[83, 101, 112, 116, 101, 109, 98, 101, 114]⟩ : ByteArray), (⟨#[79, 99, 116, 111, 98, 101, 114]⟩ : ByteArray), (⟨#[78, 111, 118, 101, 109, 98, 101, 114]⟩ : ByteArray), (⟨#[68, 101, 99, 101, 109, 98, 101, 114]⟩ : ByteArray)] : List ByteArray)) (inner := [.string (⟨#[]⟩ : ByteArray), .string (⟨#[74, 97, 110, 117, 97, 114, 121]⟩ : ByteArray), .string (⟨#[70, 101, 98, 114, 117, 97, 114, 121]⟩ : ByteArray), .string (⟨#[77, 97, 114, 99, 104]⟩ : ByteArray), .string (⟨#[65, 112, 114, 105, 108]⟩ : ByteArray), .string (⟨#[77, 97, 121]⟩ : ByteArray), .string (⟨#[74, 117, 110, 101]⟩ : ByteArray), .string (⟨#[74, 117, 108, 121]⟩ : ByteArray), .string (⟨#[65, 117, 103, 117, 115, 116]⟩ : ByteArray), .string (⟨#[83, 101, 112, 116, 101, 109, 98, 101, 114]⟩ : ByteArray), .string (⟨#[79, 99, 116, 111, 98, 101, 114]⟩ : ByteArray), .string (⟨#[78, 111, 118, 101, 109, 98, 101, 114]⟩ : ByteArray), .string (⟨#[68, 101, 99, 101, 109, 98, 101, 114]⟩ : ByteArray)]) (ok := fun _ => True) (okp := fun _ => True) ?hr ?hp (fun _ hk => hk) trivial (Below.refl _ _) (Nat.le_refl _) (by simp) ?_; (case hd => rfl); (case hg => rfl); (case hr => first | (go_simp; done) | (go_simp; rfl)); (case hp => exact (Reps.one (show Kd.M Kd.string _ _ _ (⟨#[]⟩ : ByteArray) [.string (⟨#[]⟩ : ByteArray)] from rfl) (Reps.one (show Kd.M Kd.string _ _ _ (⟨#[74, 97, 110, 117, 97, 114, 121]⟩ : ByteArray) [.string (⟨#[74, 97, 110, 117, 97, 114, 121]⟩ : ByteArray)] from rfl) (Reps.one (show Kd.M Kd.string _ _ _ (⟨#[70, 101, 98, 114, 117, 97, 114, 121]⟩ : ByteArray) [.string (⟨#[70, 101, 98, 114, 117, 97, 114, 121]⟩ : ByteArray)] from rfl) (Reps.one (show Kd.M Kd.string _ _ _ (⟨#[77, 97, 114, 99, 104]⟩ : ByteArray) [.string (⟨#[77, 97, 114, 99, 104]⟩ : ByteArray)] from rfl) (Reps.one (show Kd.M Kd.string _ _ _ (⟨#[65, 112, 114, 105, 108]⟩ : ByteArray) [.string (⟨#[65, 112, 114, 105, 108]⟩ : ByteArray)] from rfl) (Reps.one (show Kd.M Kd.string _ _ _ (⟨#[77, 97, 121]⟩ : ByteArray) [.string (⟨#[77, 97, 121]⟩ : ByteArray)] from rfl) (Reps.one (show Kd.M Kd.string _ _ _ (⟨#[74, 117, 110, 101]⟩ : ByteArray) [.string (⟨#[74, 117, 110, 101]⟩ : ByteArray)] from rfl) (Reps.one (show Kd.M Kd.string _ _ _ (⟨#[74, 117, 108, 121]⟩ : ByteArray) [.string (⟨#[74, 117, 108, 121]⟩ : ByteArray)] from rfl) (Reps.one (show Kd.M Kd.string _ _ _ (⟨#[65, 117, 103, 117, 115, 116]⟩ : ByteArray) [.string (⟨#[65, 117, 103, 117, 115, 116]⟩ : ByteArray)] from rfl) (Reps.one (show Kd.M Kd.string _ _ _ (⟨#[83, 101, 112, 116, 101, 109, 98, 101, 114]⟩ : ByteArray) [.string (⟨#[83, 101, 112, 116, 101, 109, 98, 101, 114]⟩ : ByteArray)] from rfl) (Reps.one (show Kd.M Kd.string _ _ _ (⟨#[79, 99, 116, 111, 98, 101, 114]⟩ : ByteArray) [.string (⟨#[79, 99, 116, 111, 98, 101, 114]⟩ : ByteArray)] from rfl) (Reps.one (show Kd.M Kd.string _ _ _ (⟨#[78, 111, 118, 101, 109, 98, 101, 114]⟩ : ByteArray) [.string (⟨#[78, 111, 118, 101, 109, 98, 101, 114]⟩ : ByteArray)] from rfl) (Reps.one (show Kd.M Kd.string _ _ _ (⟨#[68, 101, 99, 101, 109, 98, 101, 114]⟩ : ByteArray) [.string (⟨#[68, 101, 99, 101, 109, 98, 101, 114]⟩ : ByteArray)] from rfl) (Reps.none _ _))))))))))))))); intro v211 w1 ho2 hb hg_ hnew_; clear hg_ hnew_; (first | rw [← Ny210.out] at ho2 | (simp only [Int.reduceToNat] at ho2; rw [← Ny210.out] at ho2)); have HO212 := AM (Kd.R_lower ho2 (bZ (by with_reducible repeat first | exact HB.out | apply pA | apply pN | apply p1))); replace HB := AM (bS (by with_reducible repeat first | exact HB.out | apply pA | apply pN | apply p1) hb); clear hb ho2))
 (go_ret);exact ⟨_, rfl, by (with_reducible repeat (first | apply Kd.R_alloc | apply Kd.R_drewN | apply Kd.R_drew)); exact HO212.out, by with_reducible repeat first | exact HB.out | apply pA | apply pN | apply p1⟩
/-! ### spec_l3Long: function 31 -/
def spec_l3Long.j0 : Nat → ByteArray → Int → Int → Int → Bool → Option (ByteArray)
 | 0, _, _, _, _, _ => none
 | k + 1, x3, x214000, x214001, x214002, x214003 => if x214002 > 0 then ((spec_l1Num.f k x214002).bind fun t219 => (if t219.size + 1 ≤ 9223372036854775807 then (if (t219 ++ (⟨#[32]⟩ : ByteArray)).size + x3.size ≤ 9223372036854775807 then (if x214003 = true then (if 4 + ((t219 ++ (⟨#[32]⟩ : ByteArray)) ++ x3).size ≤ 9223372036854775807 then (some ((⟨#[99, 97, 46, 32]⟩ : ByteArray) ++ ((t219 ++ (⟨#[32]⟩ : ByteArray)) ++ x3))) else (none)) else (some ((t219 ++ (⟨#[32]⟩ : ByteArray)) ++ x3))) else (none)) else (none))) else (if x214003 = true then (if 4 + x3.size ≤ 9223372036854775807 then (some ((⟨#[99, 97, 46, 32]⟩ : ByteArray) ++ x3)) else (none)) else (some x3))
def spec_l3Long.f (k : Nat) (a0_0 : Int) (a0_1 : Int) (a0_2 : Int) (a0_3 : Bool) : Option (ByteArray) := if a0_0 = 0 then (some (⟨#[110, 46, 100, 46]⟩ : ByteArray)) else ((spec_l1Num.f k a0_0).bind fun t214 => (if a0_1 > 0 then ((spec_l3Months.f).bind fun t215 => (if 0 ≤ a0_1 then (if a0_1 < (t215.length : Int) then (if (rdOf ByteArray.empty t215 a0_1).size + 1 ≤ 9223372036854775807 then (if ((rdOf ByteArray.empty t215 a0_1) ++ (⟨#[32]⟩ : ByteArray)).size + t214.size ≤ 9223372036854775807 then (spec_l3Long.j0 k (((rdOf ByteArray.empty t215 a0_1) ++ (⟨#[32]⟩ : ByteArray)) ++ t214) a0_0 a0_1 a0_2 a0_3) else (none)) else (none)) else (none)) else (none))) else (spec_l3Long.j0 k t214 a0_0 a0_1 a0_2 a0_3)))
theorem spec_l3Long.mono_l : ∀ k, (∀ y0 y1 y2 y3 y4, LeO (spec_l3Long.j0 k y0 y1 y2 y3 y4) (spec_l3Long.j0 (k + 1) y0 y1 y2 y3 y4))
 | 0 => fun _ _ _ _ _ r h => by simp [spec_l3Long.j0] at h
 | k + 1 => by
  have ih0 := spec_l3Long.mono_l k
  ·intro y0 y1 y2 y3 y4
   unfold spec_l3Long.j0
   repeat' with_reducible first
   | exact ih0 _ _ _ _ _
   | exact spec_l1Num.mono _ _
   | exact LeO.refl _
   | exact LeO.none _
   | refine LeO.ite ?_ ?_
   | refine LeO.bind ?_ (fun _ => ?_)
theorem spec_l3Long.mono : ∀ a0 a1 a2 a3 k, LeO (spec_l3Long.f k a0 a1 a2 a3) (spec_l3Long.f (k + 1) a0 a1 a2 a3) := by
 intro a0 a1 a2 a3 k;have ih0 := spec_l3Long.mono_l k;unfold spec_l3Long.f
 repeat' with_reducible first
   | exact ih0 _ _ _ _ _
   | exact spec_l1Num.mono _ _
   | exact LeO.refl _
   | exact LeO.none _
   | refine LeO.ite ?_ ?_
   | refine LeO.bind ?_ (fun _ => ?_)
def spec_l3Long.T5 : Bool × List (List Nat × List Nat) := (true, [([], []), ([], []), ([1], [1]), ([0, 2], [0, 2]), ([3], [3]), ([4], [4]), ([], []), ([5, 6], [5, 6]), ([7, 0, 0, 1, 2, 3, 4, 5, 6, 7], [6, 7])])
def spec_l3Long.B5 : List Nat := [0, 0, 2, 7, 15, 31, 0, 127, 255]
theorem spec_l3Long.tab5 : rtab .any (opsOf Tryz.f31 5) = spec_l3Long.T5 := by kernel_rfl
theorem spec_l3Long.bits5 : waitsOk spec_l3Long.T5.2 spec_l3Long.B5 = true := by kernel_rfl
theorem spec_l3Long.calls (k : Nat) (a0_0 : Int) (a0_1 : Int) (a0_2 : Int) (a0_3 : Bool) (r : ByteArray) (w : World) (h : spec_l3Long.f k a0_0 a0_1 a0_2 a0_3 = some r) :
  Calls Tryz.prog 31 #[.agg #[.int .i64 a0_0, .int .i64 a0_1, .int .i64 a0_2, .bool a0_3]] w fun e w' => e = .returned (.string r) ∧ Below w.heap.size w w' := by
 have hu31 := Tryz.underlying31;have HB := AM (Below.refl w.heap.size w);have H := h;unfold spec_l3Long.f at H;clear h;have HC2 := AM H;clear H;(go_enter Tryz.func31, Tryz.ntmps31)
 go_upto_if 6 with (first | ((with_reducible refine gate_dst (N := 1) rfl ?_); refine box_event ?hg (N := 1) ?hd (cs := #[.int .i64 a0_0, .int .i64 a0_1, .int .i64 a0_2, .bool a0_3]) (t := 31) ?hr ?_; (case hd => rfl); (case hg => rfl); (case hr => first | (go_simp; done) | (go_simp; rfl)); intro gb213 hg w3 hbox hb; have BK213 := AM (hbox); have GW213 := AM ((by rw [hg]; exact (bZ (by with_reducible repeat first | exact HB.out | apply pA | apply pN | apply p1)) : w.heap.size ≤ gb213)); have GE213 := AM ((by rw [hg]; exact (bZ (by with_reducible repeat first | exact HB.out | apply pA | apply pN | apply p1)) : w.heap.size ≤ gb213)); replace HB := AM (bS (by with_reducible repeat first | exact HB.out | apply pA | apply pN | apply p1) hb); clear hb hbox hg; obtain ⟨z4_0, z4_1, z4_2, z4_3⟩ := cells4 BK213.out))
 have H := HC2.out;clear HC2;by_cases c5 : a0_0 = 0;(·rw [if_pos c5] at H;have c5b0 : (a0_0 == 0) = true := beq_iff_eq.mpr c5;have c5b1 : (a0_0 != 0) = false := bne_eq_false_iff_eq.mpr c5;clear c5;(first | rw [c5b0] | rw [c5b1] | rw [c5b2] | (simp only [i64_w, i32_w]; rw [c5b0]) | skip);obtain rfl := oI H;(go_wp2);(go_ret);exact ⟨rfl, by with_reducible repeat first | exact HB.out | apply pA | apply pN | apply p1 | refine pS ?_ GE213.out⟩)
 ·rw [if_neg c5] at H
  have c5b0 : (a0_0 == 0) = false := beq_eq_false_iff_ne.mpr c5;have c5b1 : (a0_0 != 0) = true := bne_iff_ne.mpr c5;(first | rw [c5b0] | rw [c5b1] | rw [c5b2] | (simp only [i64_w, i32_w]; rw [c5b0]) | skip);replace H := oB.mp H;obtain ⟨t214, A60, H⟩ := H;(try dsimp only at H);have A6 := AM A60;clear A60;have HC7 := AM H;clear H;obtain ⟨z8_0, z8_1, z8_2, z8_3⟩ := cells4 BK213.out
  go_upto_if 12 with (first | ((with_reducible refine gC (f := 51) rfl ?_); refine goesL_ (some 9) rfl rfl Tryz.func51 (by kernel_rfl) rfl #[.int .i64 a0_0] rfl (by (try simp only [mT, mC, mN]); try rfl) ?_; (with_reducible refine (spec_l1Num.calls k a0_0 t214 _ A6.out).mono ?_); rintro e w9 ⟨rfl, hb⟩; refine ⟨_, rfl, ?_⟩; replace BK213 := AM (bB (by (with_reducible repeat first | apply bN | apply bW | apply bL); exact BK213.out) hb); replace HB := AM (bS (by with_reducible repeat first | exact HB.out | apply pA | apply pN | apply p1 | refine pS ?_ GE213.out) hb); (try clear hb); obtain ⟨z10_0, z10_1, z10_2, z10_3⟩ := cells4 BK213.out))
  (try simp only [Act.put, lT, lZ, lS]);(go_cut [3] (fun v3 wc => ∃ (kq : Nat) (x3_6 : ByteArray), v3 = .string x3_6 ∧ Aside0 (spec_l3Long.j0 kq x3_6 a0_0 a0_1 a0_2 a0_3 = some r) ∧ Aside0 (kq ≤ k) ∧ Aside0 (wc.heap[gb213]? = some (.cells #[.int .i64 a0_0, .int .i64 a0_1, .int .i64 a0_2, .bool a0_3] 31 (0, 0))) ∧ Aside0 (Below w.heap.size w wc)))
  case first =>
   have H := HC7.out;clear HC7;by_cases c11 : a0_1 > 0
   ·rw [if_pos c11] at H
    have c11b0 : decide (0 < a0_1) = true := dT c11;clear c11;(first | rw [c11b0] | rw [c11b1] | rw [c11b2] | (simp only [i64_w, i32_w]; rw [c11b0]) | skip);replace H := oB.mp H;obtain ⟨t215, A120, H⟩ := H;(try dsimp only at H);have A12 := AM A120;clear A120;by_cases c13 : 0 ≤ a0_1
    ·rw [if_pos c13] at H
     have c13b0 : decide (0 ≤ a0_1) = true := dT c13;clear c13;by_cases c14 : a0_1 < (t215.length : Int)
     ·rw [if_pos c14] at H
      have c14b0 : decide (a0_1 < (t215.length : Int)) = true := dT c14;clear c14;by_cases c15 : (rdOf ByteArray.empty t215 a0_1).size + 1 ≤ 9223372036854775807
      ·rw [if_pos c15] at H
       have c15b0 := eq_true c15;have c15b1 : decide ((rdOf ByteArray.empty t215 a0_1).size + 1 ≤ 9223372036854775807) = true := dT c15;(try have c15b2 : (9223372036854775807 < (rdOf ByteArray.empty t215 a0_1).size + 1) = False := eq_false (Nat.not_lt.2 c15));by_cases c16 : ((rdOf ByteArray.empty t215 a0_1) ++ (⟨#[32]⟩ : ByteArray)).size + t214.size ≤ 9223372036854775807
       ·rw [if_pos c16] at H
        have c16b0 := eq_true c16;have c16b1 : decide (((rdOf ByteArray.empty t215 a0_1) ++ (⟨#[32]⟩ : ByteArray)).size + t214.size ≤ 9223372036854775807) = true := dT c16;(try have c16b2 : (9223372036854775807 < ((rdOf ByteArray.empty t215 a0_1) ++ (⟨#[32]⟩ : ByteArray)).size + t214.size) = False := eq_false (Nat.not_lt.2 c16));(try have c16b3 : (9223372036854775807 < (rdOf ByteArray.empty t215 a0_1).size + 1 + t214.size) = False := eq_false (by have h_ := c16; simp only [ByteArray.size_append, ByteArray.size_extract] at h_; (try simp only [show (⟨#[32]⟩ : ByteArray).size = 1 from rfl] at h_); (try have q0_ := of_eq_true c5b0); (try have q2_ := of_eq_true c11b0); (try have q3_ := of_eq_true c13b0); (try have q4_ := of_eq_true c14b0); (try have q5_ := of_eq_true c15b0); omega));have H' := AM H;clear H;(try go_wp2);replace BK213 := AM (bW BK213.out);replace HB := AM (p1 HB.out);(refine start_ (n := 9) (S := fun w' => w'.cell? ⟨gb213, 0, none⟩ = some (.int .i64 a0_0) ∧ w'.cell? ⟨gb213, 1, none⟩ = some (.int .i64 a0_1) ∧ w'.cell? ⟨gb213, 2, none⟩ = some (.int .i64 a0_2) ∧ w'.cell? ⟨gb213, 3, none⟩ = some (.bool a0_3)) (ds := []) (bA 9 0) (by kernel_rfl) rfl rfl ⟨(bC BK213.out 0).trans rfl, (bC BK213.out 1).trans rfl, (bC BK213.out 2).trans rfl, (bC BK213.out 3).trans rfl⟩ (fun hHeld => ?_); refine with_tabW spec_l3Long.tab5 spec_l3Long.bits5 (fun HT_ HW_ => ?_));generalize w9.drew = w17 at BK213 HB hHeld ⊢;refine pure_ (i := 1) (N := some 14) (v := ?_) (a' := ?_) (bA 9 2) rfl rfl (any_of HT_.out (by kernel_rfl)) (fun _ _ _ h => h) (Or.inl ⟨by rfl, ?_⟩) ?_ ?_;rotate_left;(·intro w';go_simp;(with_reducible rfl));rotate_left;(·simp only [Act.put, lT, lZ, lS, i64_w, i32_w];rfl);refine pure_ (i := 6) (N := some 19) (v := ?_) (a' := ?_) (bA 9 66) rfl rfl (any_of HT_.out (by kernel_rfl)) (fun _ _ _ h => h) (Or.inl ⟨by rfl, ?_⟩) ?_ ?_;rotate_left;(·intro w';go_simp;(with_reducible rfl));rotate_left;(·simp only [Act.put, lT, lZ, lS, i64_w, i32_w];rfl);refine take_ (i := 2) (N := some 15) (v := ?_) (a' := ?_) (bA 9 70) rfl rfl (take_ofW HT_.out HW_.out (by kernel_rfl)) (fun _ _ _ h => h) (Or.inl ⟨by rfl, ?_⟩) hHeld ?_ ?_;rotate_left;(·rintro w' ⟨s0, s1, s2, s3⟩;go_simp;(with_reducible rfl));rotate_left;(·simp only [Act.put, lT, lZ, lS, i64_w, i32_w];rfl);refine one_ (i := 0) (N := some 13) (bA 9 71) rfl rfl (one_of HT_.out (by kernel_rfl)) (by decide) (fun K hK => ?_);refine goes_ Tryz.func52 (by kernel_rfl) rfl #[] (by rfl) rfl rfl (by (try simp only [mT, mC, mN]); try rfl) ?_;(with_reducible refine (spec_l3Months.calls  t215 _ A12.out).mono ?_);rintro e w18 ⟨v216, rfl, ho0, hb⟩;refine ⟨_, rfl, ?_⟩;have HO217 := AM (Kd.R_lower ho0 (bZ (by with_reducible repeat first | exact HB.out | apply pA | apply pN | apply p1 | refine pS ?_ GE213.out)));replace BK213 := AM (bB (by (with_reducible repeat first | apply bN | apply bW | apply bL); exact BK213.out) hb);replace HB := AM (bS (by with_reducible repeat first | exact HB.out | apply pA | apply pN | apply p1 | refine pS ?_ GE213.out) hb);(try clear hb);(try clear ho0);obtain ⟨Ao19, co19, eo19⟩ := Kd.R_slice HO217.out;(first | subst eo19 | (injection eo19 with f1_ f2_ f3_; have f4_ := f1_.symm; have f5_ := f3_.symm; clear f1_ f2_ f3_; subst f4_; subst f5_));have p218 : 0 ≤ (a0_1 : Int) := oD (by assumption);have q218 : a0_1 < (t215.length : Int) := oD (by assumption);obtain ⟨ad218, e218, hx218_0⟩ := Kd.at_string (Kd.R_reads' HO217.out).2.2 a0_1 p218 q218;cases e218;replace p218 := eq_true p218;replace q218 := eq_true q218;refine hK.out _ _ (by and_intros <;> exact (bC BK213.out _).trans rfl) (fun hHeld => ?_);clear hK K;refine norm_ (a' := ?_) ?_ ?_;rotate_left
        ·show Act.put _ (some 13) _ = _
         simp only [Act.put, lT, lZ, lS, i64_w, i32_w];rfl
        refine pure_ (i := 3) (N := some 16) (v := ?_) (a' := ?_) (bA 9 79) rfl rfl (any_of HT_.out (by kernel_rfl)) (fun _ _ _ h => h) (Or.inl ⟨by rfl, ?_⟩) ?_ ?_;rotate_left;(·intro w';go_simp;(with_reducible rfl));rotate_left;(·simp only [Act.put, lT, lZ, lS, i64_w, i32_w];rfl);refine one_ (i := 4) (N := some 17) (bA 9 95) rfl rfl (one_of HT_.out (by kernel_rfl)) (by decide) (fun K hK => ?_);refine value_ (w1 := ?_) (v := ?_) (by rfl) rfl ?_ ?_;rotate_left 2;(·go_simp;(constructor);(·rfl);(·rfl));refine hK.out _ _ hHeld (fun hHeld => ?_);clear hK K;refine norm_ (a' := ?_) ?_ ?_;rotate_left
        ·show Act.put _ (some 17) _ = _
         simp only [Act.put, lT, lZ, lS, i64_w, i32_w];rfl
        refine pure_ (i := 5) (N := some 18) (v := ?_) (a' := ?_) (bA 9 127) rfl rfl (any_of HT_.out (by kernel_rfl)) (fun _ _ _ h => h) (Or.inl ⟨by rfl, ?_⟩) ?_ ?_;rotate_left;(·intro w';go_simp;(with_reducible rfl));rotate_left;(·simp only [Act.put, lT, lZ, lS, i64_w, i32_w];rfl);refine pure_ (i := 7) (N := some 20) (v := ?_) (a' := ?_) (bA 9 255) rfl rfl (any_of HT_.out (by kernel_rfl)) (fun _ _ _ h => h) (Or.inl ⟨by rfl, ?_⟩) ?_ ?_;rotate_left;(·intro w';go_simp;(with_reducible rfl));rotate_left;(·simp only [Act.put, lT, lZ, lS, i64_w, i32_w];rfl);refine pure_ (i := 8) (N := some 3) (v := ?_) (a' := ?_) (bA 9 511) rfl rfl (any_of HT_.out (by kernel_rfl)) (fun _ _ _ h => h) (Or.inl ⟨by rfl, ?_⟩) ?_ ?_;rotate_left;(·intro w';go_simp;(with_reducible rfl));rotate_left;(·simp only [Act.put, lT, lZ, lS, i64_w, i32_w];rfl);refine done_ (done_of HT_.out (by kernel_rfl)) ?_;(try go_wp2);(go_meet)
        case rel => exact ⟨_, (((rdOf ByteArray.empty t215 a0_1) ++ (⟨#[32]⟩ : ByteArray)) ++ t214), (by first | rfl | (simp; done) | (simp [*]; done)), H', ⟨by first | omega | exact Nat.le_refl _⟩, ⟨by (with_reducible repeat (first | refine bN ?_ _ | refine bW ?_ | refine bL ?_ _)); exact BK213.out⟩, ⟨by with_reducible repeat first | exact HB.out | apply pA | apply pN | apply p1 | refine pS ?_ GE213.out⟩⟩
       ·rw [if_neg c16] at H
        exact absurd H (by simp)
      ·rw [if_neg c15] at H
       exact absurd H (by simp)
     ·rw [if_neg c14] at H
      exact absurd H (by simp)
    ·rw [if_neg c13] at H
     exact absurd H (by simp)
   ·rw [if_neg c11] at H
    have c11b0 : decide (0 < a0_1) = false := dF c11;clear c11;(first | rw [c11b0] | rw [c11b1] | rw [c11b2] | (simp only [i64_w, i32_w]; rw [c11b0]) | skip);have H' := AM H;clear H;(go_wp2);(go_meet)
    case rel => exact ⟨_, (t214), (by first | rfl | (simp; done) | (simp [*]; done)), H', ⟨by first | omega | exact Nat.le_refl _⟩, ⟨by (with_reducible repeat (first | refine bN ?_ _ | refine bW ?_ | refine bL ?_ _)); exact BK213.out⟩, ⟨by with_reducible repeat first | exact HB.out | apply pA | apply pN | apply p1 | refine pS ?_ GE213.out⟩⟩
  case rest =>
   clear HC7;(try clear c1);(try clear p2);(try clear q2);(try clear hx2);(try clear c3);(try clear q3);(try clear q4);(try clear c5);(try clear c5b0);(try clear c5b1);(try clear c5b2);(try clear q5);(try clear c11);(try clear c11b0);(try clear c11b1);(try clear c11b2);(try clear c13);(try clear c13b0);(try clear c14);(try clear c14b0);(try clear c15);(try clear c15b0);(try clear c15b1);(try clear c15b2);(try clear c16);(try clear c16b0);(try clear c16b1);(try clear c16b2);(try clear z10_0);(try clear z10_1);(try clear z10_2);(try clear z10_3);(try clear z4_0);(try clear z4_1);(try clear z4_2);(try clear z4_3);(try clear z8_0);(try clear z8_1);(try clear z8_2);(try clear z8_3);(try clear hx218_0);(try clear p218);(try clear q218);obtain ⟨kq, x3_6, rfl, HA, HJ6, BK213, HB⟩ := hcut
   cases kq with
   | zero => exact absurd HA.out (by simp [spec_l3Long.j0])
   | succ kj6 =>
    have H := HA.out;clear HA;simp only [spec_l3Long.j0] at H;by_cases c20 : a0_2 > 0
    ·rw [if_pos c20] at H
     have c20b0 : decide (0 < a0_2) = true := dT c20;clear c20;replace H := oB.mp H;obtain ⟨t219, A210, H⟩ := H;(try dsimp only at H);have A21 := AM A210;clear A210;by_cases c22 : t219.size + 1 ≤ 9223372036854775807
     ·rw [if_pos c22] at H
      have c22b0 := eq_true c22;have c22b1 : decide (t219.size + 1 ≤ 9223372036854775807) = true := dT c22;(try have c22b2 : (9223372036854775807 < t219.size + 1) = False := eq_false (Nat.not_lt.2 c22));by_cases c23 : (t219 ++ (⟨#[32]⟩ : ByteArray)).size + x3_6.size ≤ 9223372036854775807
      ·rw [if_pos c23] at H
       have c23b0 := eq_true c23;have c23b1 : decide ((t219 ++ (⟨#[32]⟩ : ByteArray)).size + x3_6.size ≤ 9223372036854775807) = true := dT c23;(try have c23b2 : (9223372036854775807 < (t219 ++ (⟨#[32]⟩ : ByteArray)).size + x3_6.size) = False := eq_false (Nat.not_lt.2 c23));(try have c23b3 : (9223372036854775807 < t219.size + 1 + x3_6.size) = False := eq_false (by have h_ := c23; simp only [ByteArray.size_append, ByteArray.size_extract] at h_; (try simp only [show (⟨#[32]⟩ : ByteArray).size = 1 from rfl] at h_); (try have q0_ := of_eq_true c5b0); (try have q2_ := of_eq_true c20b0); (try have q3_ := of_eq_true c22b0); omega));by_cases c24 : a0_3 = true
       ·subst c24
        rw [if_pos rfl] at H;by_cases c25 : 4 + ((t219 ++ (⟨#[32]⟩ : ByteArray)) ++ x3_6).size ≤ 9223372036854775807
        ·rw [if_pos c25] at H
         have c25b0 := eq_true c25;have c25b1 : decide (4 + ((t219 ++ (⟨#[32]⟩ : ByteArray)) ++ x3_6).size ≤ 9223372036854775807) = true := dT c25;(try have c25b2 : (9223372036854775807 < 4 + ((t219 ++ (⟨#[32]⟩ : ByteArray)) ++ x3_6).size) = False := eq_false (Nat.not_lt.2 c25));(try have c25b3 : (9223372036854775807 < 4 + (t219.size + 1 + x3_6.size)) = False := eq_false (by have h_ := c25; simp only [ByteArray.size_append, ByteArray.size_extract] at h_; (try simp only [show (⟨#[32]⟩ : ByteArray).size = 1 from rfl] at h_); (try have q0_ := of_eq_true c5b0); (try have q2_ := of_eq_true c20b0); (try have q3_ := of_eq_true c22b0); (try have q6_ := of_eq_true c23b0); omega));obtain rfl := oI H;obtain ⟨z26_0, z26_1, z26_2, z26_3⟩ := cells4 BK213.out
         go_wp2_with (first | ((with_reducible refine gC (f := 51) rfl ?_); refine goesL_ (some 26) rfl rfl Tryz.func51 (by kernel_rfl) rfl #[.int .i64 a0_2] rfl (by (try simp only [mT, mC, mN]); try rfl) ?_; (with_reducible refine (spec_l1Num.calls kj6 a0_2 t219 _ A21.out).mono ?_); rintro e w27 ⟨rfl, hb⟩; refine ⟨_, rfl, ?_⟩; replace BK213 := AM (bB (by (with_reducible repeat first | apply bN | apply bW | apply bL); exact BK213.out) hb); replace HB := AM (bS (by with_reducible repeat first | exact HB.out | apply pA | apply pN | apply p1 | refine pS ?_ GE213.out) hb); (try clear hb); obtain ⟨z28_0, z28_1, z28_2, z28_3⟩ := cells4 BK213.out))
         (go_ret);exact ⟨rfl, by with_reducible repeat first | exact HB.out | apply pA | apply pN | apply p1 | refine pS ?_ GE213.out⟩
        ·rw [if_neg c25] at H
         exact absurd H (by simp)
       ·replace c24 := bE.mpr c24
        subst c24;rw [if_neg (show ¬ (false = true) by decide)] at H;obtain rfl := oI H;obtain ⟨z29_0, z29_1, z29_2, z29_3⟩ := cells4 BK213.out
        go_wp2_with (first | ((with_reducible refine gC (f := 51) rfl ?_); refine goesL_ (some 26) rfl rfl Tryz.func51 (by kernel_rfl) rfl #[.int .i64 a0_2] rfl (by (try simp only [mT, mC, mN]); try rfl) ?_; (with_reducible refine (spec_l1Num.calls kj6 a0_2 t219 _ A21.out).mono ?_); rintro e w30 ⟨rfl, hb⟩; refine ⟨_, rfl, ?_⟩; replace BK213 := AM (bB (by (with_reducible repeat first | apply bN | apply bW | apply bL); exact BK213.out) hb); replace HB := AM (bS (by with_reducible repeat first | exact HB.out | apply pA | apply pN | apply p1 | refine pS ?_ GE213.out) hb); (try clear hb); obtain ⟨z31_0, z31_1, z31_2, z31_3⟩ := cells4 BK213.out))
        (go_ret);exact ⟨rfl, by with_reducible repeat first | exact HB.out | apply pA | apply pN | apply p1 | refine pS ?_ GE213.out⟩
      ·rw [if_neg c23] at H
       exact absurd H (by simp)
     ·rw [if_neg c22] at H
      exact absurd H (by simp)
    ·rw [if_neg c20] at H
     have c20b0 : decide (0 < a0_2) = false := dF c20;clear c20;by_cases c32 : a0_3 = true;(·subst c32;rw [if_pos rfl] at H;by_cases c33 : 4 + x3_6.size ≤ 9223372036854775807;(·rw [if_pos c33] at H;have c33b0 := eq_true c33;have c33b1 : decide (4 + x3_6.size ≤ 9223372036854775807) = true := dT c33;(try have c33b2 : (9223372036854775807 < 4 + x3_6.size) = False := eq_false (Nat.not_lt.2 c33));obtain rfl := oI H;obtain ⟨z34_0, z34_1, z34_2, z34_3⟩ := cells4 BK213.out;(go_wp2);(go_ret);exact ⟨rfl, by with_reducible repeat first | exact HB.out | apply pA | apply pN | apply p1 | refine pS ?_ GE213.out⟩);(·rw [if_neg c33] at H;exact absurd H (by simp)));(·replace c32 := bE.mpr c32;subst c32;rw [if_neg (show ¬ (false = true) by decide)] at H;obtain rfl := oI H;obtain ⟨z35_0, z35_1, z35_2, z35_3⟩ := cells4 BK213.out;(go_wp2);(go_ret);exact ⟨rfl, by with_reducible repeat first | exact HB.out | apply pA | apply pN | apply p1 | refine pS ?_ GE213.out⟩)
end Go.Proofs.YthcccgnhokncdaaGreatDoor.Px
