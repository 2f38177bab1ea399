/- That calls of Go functions come to what the Lean functions beside them say; written by a program of this session (wip/xprint) over the printed words; no conditions. -/
import Derived.Test.YtjckholdcgjdnaaDoorPx0
import Derived.Test.YtjckholdcgjdnaaDoorPx3
namespace Go.Proofs.YtjckholdcgjdnaaDoor.Px
open Go.RowKit Go.Proofs.YtjckholdcgjdnaaDoorW.PrintWords Go.Proofs.YtjckholdcgjdnaaDoorW.PrintLast Go.Proofs.YtjckholdcgjdnaaDoorW.PrintMore
attribute [local go_sem] max2_int min2_int max_two min_two max_three min_three max_four min_four   -- for this text's walks alone
set_option linter.unusedVariables false
set_option linter.unusedSimpArgs false

/-! ### impl_mergePages: function 54 -/
def impl_mergePages.l0 : Nat → List (S27) → List (S27) → Int → Int → Option ((List (S27)))
 | 0, _, _, _, _ => none
 | k + 1, x4, x14, x15, x16 => if x16 < x15 then (if 0 ≤ x16 then (if x16 < (x14.length : Int) then (if (wrap64 ((x4.length : Int) - 1)) ≥ 0 then (if 0 ≤ (wrap64 ((x4.length : Int) - 1)) then (if (wrap64 ((x4.length : Int) - 1)) < (x4.length : Int) then (if ((rd_T27 x4 (wrap64 ((x4.length : Int) - 1))).f0).toList = ((rd_T27 x14 x16).f0).toList then (if ((rd_T27 x14 x16).f1) ≤ (wrap64 (((rd_T27 x4 (wrap64 ((x4.length : Int) - 1))).f2) + 1)) then (impl_mergePages.l0 k (x4.set ((wrap64 ((x4.length : Int) - 1)) : Int).toNat (⟨(rd_T27 x4 (wrap64 ((x4.length : Int) - 1))).f0, (rd_T27 x4 (wrap64 ((x4.length : Int) - 1))).f1, mx ((rd_T27 x4 (wrap64 ((x4.length : Int) - 1))).f2) ((rd_T27 x14 x16).f2)⟩ : S27)) x14 x15 (wrap64 (x16 + 1))) else (if x4.length < 4398046511104 then (impl_mergePages.l0 k (x4 ++ [(⟨(rd_T27 x14 x16).f0, (rd_T27 x14 x16).f1, (rd_T27 x14 x16).f2⟩ : S27)]) x14 x15 (wrap64 (x16 + 1))) else (none))) else (if x4.length < 4398046511104 then (impl_mergePages.l0 k (x4 ++ [(⟨(rd_T27 x14 x16).f0, (rd_T27 x14 x16).f1, (rd_T27 x14 x16).f2⟩ : S27)]) x14 x15 (wrap64 (x16 + 1))) else (none))) else (none)) else (none)) else (if x4.length < 4398046511104 then (impl_mergePages.l0 k (x4 ++ [(⟨(rd_T27 x14 x16).f0, (rd_T27 x14 x16).f1, (rd_T27 x14 x16).f2⟩ : S27)]) x14 x15 (wrap64 (x16 + 1))) else (none))) else (none)) else (none)) else (some x4)
def impl_mergePages.f (k : Nat) (l0 : List (S27)) : Option ((List (S27))) := (some (([] : List (S27)) : List (S27))).bind fun y161 => (if y161.length + l0.length < 4398046511104 then ((some (y161 ++ l0 : List (S27))).bind fun y164 => ((impl_PageRange_79.f k y164 ()).bind fun t170 => (impl_mergePages.l0 k (([] : List (S27))) t170 (y164.length : Int) 0))) else (none))
theorem impl_mergePages.mono_l : ∀ k, (∀ y0 y1 y2 y3, LeO (impl_mergePages.l0 k y0 y1 y2 y3) (impl_mergePages.l0 (k + 1) y0 y1 y2 y3))
 | 0 => fun _ _ _ _ r h => by simp [impl_mergePages.l0] at h
 | k + 1 => by
  have ih0 := impl_mergePages.mono_l k
  ·intro y0 y1 y2 y3
   unfold impl_mergePages.l0
   repeat' first
   | (with_reducible exact ih0 _ _ _ _)
   | (with_reducible exact impl_PageRange_79.mono _ _ _)
   | (with_reducible exact LeO.refl _)
   | (with_reducible exact LeO.none _)
   | (with_reducible refine LeO.ite ?_ ?_)
   | (with_reducible refine LeO.bind ?_ (fun _ => ?_))
   | exact ih0 _ _ _ _
   | exact impl_PageRange_79.mono _ _ _
   | exact LeO.none _
   | refine LeO.ite ?_ ?_
   | refine LeO.bind ?_ (fun _ => ?_)
theorem impl_mergePages.mono : ∀ a0 k, LeO (impl_mergePages.f k a0) (impl_mergePages.f (k + 1) a0) := by
 intro a0 k
 have ih0 := impl_mergePages.mono_l k
 unfold impl_mergePages.f
 repeat' first
   | (with_reducible exact ih0 _ _ _ _)
   | (with_reducible exact impl_PageRange_79.mono _ _ _)
   | (with_reducible exact LeO.refl _)
   | (with_reducible exact LeO.none _)
   | (with_reducible refine LeO.ite ?_ ?_)
   | (with_reducible refine LeO.bind ?_ (fun _ => ?_))
   | exact ih0 _ _ _ _
   | exact impl_PageRange_79.mono _ _ _
   | exact LeO.none _
   | refine LeO.ite ?_ ?_
   | refine LeO.bind ?_ (fun _ => ?_)
def impl_mergePages.T7 : Bool × List (List Nat × List Nat) := (true, [([], []), ([0], [0]), ([1], [1]), ([2], [2]), ([2], [2]), ([3, 4, 2], [2, 3, 4]), ([5, 2], [2, 5]), ([6, 2], [2, 6]), ([2], [2]), ([8, 2], [2, 8]), ([7, 9, 2], [2, 7, 9]), ([2, 10], [2, 10]), ([11, 2], [11]), ([12], [12]), ([13, 12], [12, 13]), ([12], [12]), ([12], [12]), ([15, 16, 12], [12, 15, 16]), ([17, 12], [12, 17]), ([18, 12], [12, 18]), ([19, 12], [12, 19]), ([14, 20, 12], [12, 14, 20]), ([12, 21], [12, 21])])
def impl_mergePages.B7 : List Nat := [0, 1, 3, 7, 7, 31, 63, 127, 7, 263, 1023, 2047, 4095, 8191, 16383, 8191, 8191, 106495, 237567, 499711, 1023999, 2097151, 4194303]
theorem impl_mergePages.tab7 : rtab .any (opsOf Tryd.f54 7) = impl_mergePages.T7 := by kernel_rfl
theorem impl_mergePages.bits7 : waitsOk impl_mergePages.T7.2 impl_mergePages.B7 = true := by kernel_rfl
def impl_mergePages.T8 : Bool × List (List Nat × List Nat) := (true, [([], []), ([], []), ([], []), ([], []), ([2, 3], [2, 3]), ([4], [4]), ([5], [5]), ([], []), ([7], [7]), ([6, 8], [6, 8]), ([0, 1, 0, 1, 2, 3, 4, 5, 6, 7, 8, 9], [0, 1]), ([10, 0, 1, 2, 3, 4, 5, 6, 7, 8, 9], [10]), ([11, 9, 0, 1, 2, 3, 4, 5, 6, 7, 8, 9], [9, 11])])
def impl_mergePages.B8 : List Nat := [0, 0, 0, 0, 12, 28, 60, 0, 128, 508, 1023, 2047, 4095]
theorem impl_mergePages.tab8 : rtab .any (opsOf Tryd.f54 8) = impl_mergePages.T8 := by kernel_rfl
theorem impl_mergePages.bits8 : waitsOk impl_mergePages.T8.2 impl_mergePages.B8 = true := by kernel_rfl
set_option maxHeartbeats 8000000 in
set_option maxRecDepth 100000 in
theorem impl_mergePages.calls (k : Nat) (A0 : Option Addr) (c0 : Nat) (l0 : List (S27)) (r : List (S27)) (w : World) (hr0 : Kd.C k27 w A0 l0.length l0) (hc0 : l0.length ≤ c0) (h : impl_mergePages.f k l0 = some r) :
  Calls Tryd.prog 54 #[.slice A0 l0.length c0] w fun e w' => ∃ v0_ : Value, e = .returned (v0_) ∧ Kd.R k27 27 w' w.heap.size (fun _ => True) v0_ r ∧ Below w.heap.size w w' := by
 have hu27 := Tryd.underlying27
 have HR0 := AM hr0
 have HC0 := AM hc0
 clear hr0 hc0
 have HB := AM (Below.refl w.heap.size w)
 have H : ((some (([] : List (S27)) : List (S27))).bind fun y161 => (if y161.length + l0.length < 4398046511104 then ((some (y161 ++ l0 : List (S27))).bind fun y164 => ((impl_PageRange_79.f k y164 ()).bind fun t170 => (impl_mergePages.l0 k (([] : List (S27))) t170 (y164.length : Int) 0))) else (none))) = some r := h
 clear h
 obtain ⟨y161, hy161⟩ : ∃ y_ : List (S27), y_ = (([] : List (S27))) := ⟨_, rfl⟩
 replace H : (if y161.length + l0.length < 4398046511104 then ((some (y161 ++ l0 : List (S27))).bind fun y164 => ((impl_PageRange_79.f k y164 ()).bind fun t170 => (impl_mergePages.l0 k (([] : List (S27))) t170 (y164.length : Int) 0))) else (none)) = some r := by first | (rw [hy161]; with_reducible exact H) | (have H2_ := (Option.bind_some _ _).symm.trans H; rw [hy161]; with_reducible exact H2_) | (have H2_ := (Option.bind_some _ _).symm.trans H; with_reducible exact H2_) | with_reducible exact H | (rw [hy161]; exact H) | exact H
 have Ny161 := AM hy161
 clear hy161
 by_cases c2 : y161.length + l0.length < 4398046511104
 ·rw [if_pos c2] at H
  have LMc2 := AM c2
  clear c2
  obtain ⟨y164, hy164⟩ : ∃ y_ : List (S27), y_ = (y161 ++ l0) := ⟨_, rfl⟩
  replace H : ((impl_PageRange_79.f k y164 ()).bind fun t170 => (impl_mergePages.l0 k (([] : List (S27))) t170 (y164.length : Int) 0)) = some r := by first | (rw [hy164]; with_reducible exact H) | (have H2_ := (Option.bind_some _ _).symm.trans H; rw [hy164]; with_reducible exact H2_) | (have H2_ := (Option.bind_some _ _).symm.trans H; with_reducible exact H2_) | with_reducible exact H | (rw [hy164]; exact H) | exact H
  have Ny164 := AM hy164
  clear hy164
  obtain ⟨y167, hy167⟩ : ∃ y_ : List (S27), y_ = (([] : List (S27))) := ⟨_, rfl⟩
  replace H : ((impl_PageRange_79.f k y164 ()).bind fun t170 => (impl_mergePages.l0 k y167 t170 (y164.length : Int) 0)) = some r := by first | (rw [hy167]; with_reducible exact H) | (have H2_ := (Option.bind_some _ _).symm.trans H; rw [hy167]; with_reducible exact H2_) | (have H2_ := (Option.bind_some _ _).symm.trans H; with_reducible exact H2_) | with_reducible exact H | (rw [hy167]; exact H) | exact H
  have Ny167 := AM hy167
  clear hy167
  replace H := Option.bind_eq_some_iff.mp H
  obtain ⟨t170, A30, H⟩ := H
  replace H : (impl_mergePages.l0 k y167 t170 (y164.length : Int) 0) = some r := H
  have A3 := AM A30
  clear A30
  have H' := AM H
  clear H
  go_enter Tryd.func54, Tryd.ntmps54
  go_wp2_with (first | ((with_reducible refine gate_dst (N := 8) rfl ?_); refine Kd.R_lit k27 _ 27 ?hg (N := 8) ?hd (xs := ([] : List (S27))) (inner := []) (ok := fun _ => True) (okp := fun _ => True) ?hr ?hp (fun _ hk => hk) trivial (Below.refl _ _) (Nat.le_refl _) (by simp) ?_; (case hd => rfl); (case hg => rfl); (case hr => first | (go_simp; done) | (go_simp; rfl)); (case hp => exact (Reps.none _ _)); intro v162 w4 ho5 hb hg_ hnew_; clear hg_ hnew_; (first | rw [← Ny161.out] at ho5 | (simp only [Int.reduceToNat] at ho5; rw [← Ny161.out] at ho5)); have n0_ := AM (Kd.R_lower ho5 (below_size (by repeat (first | (with_reducible first | exact HB.out | apply below_alloc | apply pw_below_drewN | apply below_drew1) | exact HB.out)))); have n1_ := AM (below_step (by repeat (first | (with_reducible first | exact HB.out | apply below_alloc | apply pw_below_drewN | apply below_drew1) | exact HB.out)) hb); clear HB; have HO163 := n0_; have HB := n1_; clear n0_ n1_; clear hb ho5) | ((with_reducible refine gate_builtin (b := .append) (xs := #[.tmp 8, .tmp 9]) rfl ?_); at_builtin; refine Kd.R_append_rows k27 (w0 := w) w.heap.size rfl (.tmp 8) (.tmp 9) 33 27 (.agg #[(.string ⟨#[]⟩), (.int .i64 0), (.int .i64 0)]) 32 rfl Tryd.underlying33 info27 rfl (by decide) (by omega) v162 y161 l0 _ _ _ (fun _ => True) (fun _ => False) rfl rfl ?aO ?aR (fun _ _ h => h) (fun _ h => h.elim) ?aF ?aB ?aS ?aL ?_; (case aR => repeat (first | exact (Kd.C_below HR0.out HB.out) | (with_reducible refine Kd.C_alloc ?_ _) | (with_reducible refine Kd.C_drewN ?_ _) | (with_reducible refine Kd.C_drew ?_))); (case aB => exact (by repeat (first | (with_reducible first | exact HB.out | apply below_alloc | apply pw_below_drewN | apply below_drew1) | exact HB.out))); (case aF => exact (fun _ _ => trivial)); (case aO => exact (by (with_reducible repeat (first | apply Kd.R_alloc | apply Kd.R_drewN | apply Kd.R_drew)); exact Kd.R_mono HO163.out (fun _ hk => trivial))); (case aS => exact (below_size (by repeat (first | (with_reducible first | exact HB.out | apply below_alloc | apply pw_below_drewN | apply below_drew1) | exact HB.out)))); (case aL => have := LMc2.out; omega); intro v165 w6 ho hb hg hat; rw [← Ny164.out] at ho; have n0_ := AM (hb); have n1_ := AM (ho); clear HB; clear HO163; have HB := n0_; have HO166 := n1_; clear n0_ n1_; clear ho hb hg hat) | ((with_reducible refine gate_dst (N := 11) rfl ?_); refine Kd.R_lit k27 _ 27 ?hg (N := 11) ?hd (xs := ([] : List (S27))) (inner := []) (ok := fun _ => True) (okp := fun _ => True) ?hr ?hp (fun _ hk => hk) trivial (Below.refl _ _) (Nat.le_refl _) (by simp) ?_; (case hd => rfl); (case hg => rfl); (case hr => first | (go_simp; done) | (go_simp; rfl)); (case hp => exact (Reps.none _ _)); intro v168 w7 ho8 hb hg_ hnew_; clear hg_ hnew_; (first | rw [← Ny167.out] at ho8 | (simp only [Int.reduceToNat] at ho8; rw [← Ny167.out] at ho8)); have n0_ := AM (Kd.R_elder' (by (with_reducible repeat (first | apply Kd.R_alloc | apply Kd.R_drewN | apply Kd.R_drew)); exact HO166.out) (Kd.R_base ho8) hb); have n1_ := AM (Kd.R_lower (Kd.R_new' ho8 (Kd.R_lt (by (with_reducible repeat (first | apply Kd.R_alloc | apply Kd.R_drewN | apply Kd.R_drew)); exact HO166.out))) (below_size (by repeat (first | (with_reducible first | exact HB.out | apply below_alloc | apply pw_below_drewN | apply below_drew1) | exact HB.out)))); have n2_ := AM (below_step (by repeat (first | (with_reducible first | exact HB.out | apply below_alloc | apply pw_below_drewN | apply below_drew1) | exact HB.out)) hb); clear HO166; clear HB; have HO166 := n0_; have HO169 := n1_; have HB := n2_; clear n0_ n1_ n2_; clear hb ho8; obtain ⟨Ao9, co9, eo9⟩ := Kd.R_slice HO166.out; subst eo9) | ((with_reducible refine gate_callee (f := 79) rfl ?_); refine goesL_ (some 13) rfl rfl Tryd.func79 (by kernel_rfl) rfl #[.slice Ao9 y164.length co9, .func (.func 80) #[] #[]] rfl (by (try simp only [List.map_toArray, List.map_cons, List.map_nil]); first | done | rfl | (simp only [List.length_drop, List.length_take]; rfl)) ?_; (with_reducible refine (impl_PageRange_79.calls k (fun k_ => some k_ = (.slice Ao9 y164.length co9 : Value).ownBlock) (.slice Ao9 y164.length co9) y164 () t170 w _ ?side1 ?side2 A3.out).mono ?_); (case side1 => repeat (first | (with_reducible first | exact HB.out | apply below_alloc | apply pw_below_drewN | apply below_drew1) | exact HB.out)); (case side2 => exact Kd.R_tight rfl HO166.out); rintro e w10 ⟨rfl, hy0, hb, hkp⟩; refine ⟨_, rfl, ?_⟩; have n0_ := AM (Kd.R_reok rfl hy0 (fun k_ e_ => HO166.out.1 k_ e_)); have n1_ := AM (Kd.R_mono (ok' := fun k_ => some k_ ≠ (.slice Ao9 y164.length co9 : Value).ownBlock) (Kd.R_keptB (HO169.out) hkp (fun k_ hk_ hs_ => (hk_.2) hs_)) (fun k_ hk_ => hk_.1.2)); have n2_ := AM (hb); clear HO166; clear HO169; clear HB; have HO166 := n0_; have HO169 := n1_; have HB := n2_; clear n0_ n1_ n2_; (try clear hb); (try clear hkp); (try clear hy0)))
  go_loopg [4, 16] k (fun kq v4 v16 w' => ∃ (x4_1 : List (S27)) (x14_1 : List (S27)) (x16_1 : Int), v16 = .int .i64 x16_1 ∧ Aside0 (impl_mergePages.l0 kq x4_1 x14_1 (y164.length : Int) x16_1 = some r) ∧ Aside0 (kq ≤ k) ∧ Aside0 (Kd.R k27 27 w' w.heap.size (fun k_ => some k_ ≠ ((.slice Ao9 y164.length co9) : Value).ownBlock) v4 x4_1) ∧ Aside0 (Kd.R k27 27 w' w.heap.size (fun k_ => some k_ ≠ (v4 : Value).ownBlock) (.slice Ao9 y164.length co9) x14_1) ∧ Aside0 (Below w.heap.size w w'))
  case atStart => exact ⟨(y167), (t170), (0), (by first | rfl | (simp; done) | (simp [*]; done)), H', ⟨Nat.le_refl _⟩, ⟨by (with_reducible repeat (first | apply Kd.R_alloc | apply Kd.R_drewN | apply Kd.R_drew)); exact HO169.out⟩, ⟨by (with_reducible repeat (first | apply Kd.R_alloc | apply Kd.R_drewN | apply Kd.R_drew)); exact Kd.R_mono HO166.out (fun _ hk => hk.2)⟩, ⟨by repeat (first | (with_reducible first | exact HB.out | apply below_alloc | apply pw_below_drewN | apply below_drew1) | exact HB.out)⟩⟩
  case round =>
   clear H'
   try clear c2
   try clear p2
   try clear c5
   try clear c7
   obtain ⟨x4_1, x14_1, x16_1, rfl, HA, HK1, HO_4, HO_14, HB⟩ := hrel
   have hl14_1 := (Kd.R_reads' HO_14.out).1
   rw [hl14_1] at HO_14
   (try simp only [hl14_1])
   (try simp only [hl14_1] at HO_4)
   cases gk with
   | zero => exact absurd HA.out (by simp [impl_mergePages.l0])
   | succ k1 =>
    have H := HA.out
    clear HA
    simp only [impl_mergePages.l0] at H
    by_cases c11 : x16_1 < (y164.length : Int)
    ·rw [if_pos c11] at H
     have c11b0 : decide (x16_1 < (y164.length : Int)) = true := decide_eq_true c11
     (try (have c11b0h := c11b0; simp only [hl14_1] at c11b0h))
     clear c11
     by_cases c12 : 0 ≤ x16_1
     ·rw [if_pos c12] at H
      have c12b0 : decide (0 ≤ x16_1) = true := decide_eq_true c12
      (try (have c12b0h := c12b0; simp only [hl14_1] at c12b0h))
      clear c12
      by_cases c13 : x16_1 < (x14_1.length : Int)
      ·rw [if_pos c13] at H
       have c13b0 : decide (x16_1 < (x14_1.length : Int)) = true := decide_eq_true c13
       (try (have c13b0h := c13b0; simp only [hl14_1] at c13b0h))
       clear c13
       by_cases c14 : (wrap64 ((x4_1.length : Int) - 1)) ≥ 0
       ·rw [if_pos c14] at H
        have c14b0 : decide (0 ≤ (wrap64 ((x4_1.length : Int) - 1))) = true := decide_eq_true c14
        (try (have c14b0h := c14b0; simp only [hl14_1] at c14b0h))
        clear c14
        obtain ⟨ji15, hji15⟩ : ∃ j_ : Int, (wrap64 ((x4_1.length : Int) - 1)) = j_ := ⟨_, rfl⟩
        replace H : (if 0 ≤ (ji15) then (if (ji15) < (x4_1.length : Int) then (if ((rd_T27 x4_1 (ji15)).f0).toList = ((rd_T27 x14_1 x16_1).f0).toList then (if ((rd_T27 x14_1 x16_1).f1) ≤ (wrap64 (((rd_T27 x4_1 (ji15)).f2) + 1)) then (impl_mergePages.l0 k1 (x4_1.set ((ji15) : Int).toNat (⟨(rd_T27 x4_1 (ji15)).f0, (rd_T27 x4_1 (ji15)).f1, mx ((rd_T27 x4_1 (ji15)).f2) ((rd_T27 x14_1 x16_1).f2)⟩ : S27)) x14_1 (y164.length : Int) (wrap64 (x16_1 + 1))) else (if x4_1.length < 4398046511104 then (impl_mergePages.l0 k1 (x4_1 ++ [(⟨(rd_T27 x14_1 x16_1).f0, (rd_T27 x14_1 x16_1).f1, (rd_T27 x14_1 x16_1).f2⟩ : S27)]) x14_1 (y164.length : Int) (wrap64 (x16_1 + 1))) else (none))) else (if x4_1.length < 4398046511104 then (impl_mergePages.l0 k1 (x4_1 ++ [(⟨(rd_T27 x14_1 x16_1).f0, (rd_T27 x14_1 x16_1).f1, (rd_T27 x14_1 x16_1).f2⟩ : S27)]) x14_1 (y164.length : Int) (wrap64 (x16_1 + 1))) else (none))) else (none)) else (none)) = some r := by first | (rw [hji15] at H; exact H) | (simp only [hji15] at H ⊢; exact H)
        (try rw [hji15] at c14b0)
        have hji15w : (IntKind.i64.wrap ((x4_1.length : Int) - 1)) = ji15 := (i64_w _).trans hji15
        by_cases c16 : 0 ≤ (ji15)
        ·rw [if_pos c16] at H
         have c16b0 : decide (0 ≤ (ji15)) = true := decide_eq_true c16
         (try (have c16b0h := c16b0; simp only [hl14_1] at c16b0h))
         clear c16
         by_cases c17 : (ji15) < (x4_1.length : Int)
         ·rw [if_pos c17] at H
          have c17b0 : decide ((ji15) < (x4_1.length : Int)) = true := decide_eq_true c17
          (try (have c17b0h := c17b0; simp only [hl14_1] at c17b0h))
          clear c17
          by_cases c18 : ((rd_T27 x4_1 (ji15)).f0).toList = ((rd_T27 x14_1 x16_1).f0).toList
          ·rw [if_pos c18] at H
           have c18b0 : (((rd_T27 x4_1 (ji15)).f0).toList == ((rd_T27 x14_1 x16_1).f0).toList) = true := beq_iff_eq.mpr c18
           (try (have c18b0h := c18b0; simp only [hl14_1] at c18b0h))
           have c18b1 : (((rd_T27 x4_1 (ji15)).f0).toList != ((rd_T27 x14_1 x16_1).f0).toList) = false := bne_eq_false_iff_eq.mpr c18
           (try (have c18b1h := c18b1; simp only [hl14_1] at c18b1h))
           clear c18
           by_cases c19 : ((rd_T27 x14_1 x16_1).f1) ≤ (wrap64 (((rd_T27 x4_1 (ji15)).f2) + 1))
           ·rw [if_pos c19] at H
            have c19b0 : decide (((rd_T27 x14_1 x16_1).f1) ≤ (wrap64 (((rd_T27 x4_1 (ji15)).f2) + 1))) = true := decide_eq_true c19
            (try (have c19b0h := c19b0; simp only [hl14_1] at c19b0h))
            clear c19
            obtain ⟨ji20, hji20⟩ : ∃ j_ : Int, (mx ((rd_T27 x4_1 (ji15)).f2) ((rd_T27 x14_1 x16_1).f2)) = j_ := ⟨_, rfl⟩
            replace H : (impl_mergePages.l0 k1 (x4_1.set ((ji15) : Int).toNat (⟨(rd_T27 x4_1 (ji15)).f0, (rd_T27 x4_1 (ji15)).f1, ji20⟩ : S27)) x14_1 (y164.length : Int) (wrap64 (x16_1 + 1))) = some r := by first | (rw [hji20] at H; exact H) | (simp only [hji20] at H ⊢; exact H)
            have hji20_ : (if ((rd_T27 x4_1 (ji15)).f2) < ((rd_T27 x14_1 x16_1).f2) then ((rd_T27 x14_1 x16_1).f2) else ((rd_T27 x4_1 (ji15)).f2)) = ji20 := hji20
            obtain ⟨y176, hy176⟩ : ∃ y_ : List (S27), y_ = (x4_1.set ((ji15) : Int).toNat (⟨(rd_T27 x4_1 (ji15)).f0, (rd_T27 x4_1 (ji15)).f1, ji20⟩ : S27)) := ⟨_, rfl⟩
            replace H : (impl_mergePages.l0 k1 y176 x14_1 (y164.length : Int) (wrap64 (x16_1 + 1))) = some r := by first | (rw [hy176]; with_reducible exact H) | (have H2_ := (Option.bind_some _ _).symm.trans H; rw [hy176]; with_reducible exact H2_) | (have H2_ := (Option.bind_some _ _).symm.trans H; with_reducible exact H2_) | with_reducible exact H | (rw [hy176]; exact H) | exact H
            have Ny176 := AM hy176
            clear hy176
            have H' := AM H
            clear H
            have p171 : 0 ≤ (x16_1 : Int) := of_decide_eq_true (by first | (with_reducible assumption) | assumption)
            have q171 : x16_1 < (x14_1.length : Int) := of_decide_eq_true (by first | (with_reducible assumption) | assumption)
            obtain ⟨ad171, e171, hx171_0, hx171_1, hx171_2⟩ := at_T27 (Kd.R_reads' HO_14.out).2.2 x16_1 p171 q171
            cases e171
            replace p171 := eq_true p171
            replace q171 := eq_true q171
            try go_wp2_with (first | ((with_reducible refine gate_dst (N := 6) rfl ?_); refine box_event ?hg (N := 6) ?hd (cs := #[.string (⟨#[]⟩ : ByteArray), .int .i64 0, .int .i64 0]) (t := 27) ?hr ?_; (case hd => rfl); (case hg => rfl); (case hr => first | (go_simp; done) | (go_simp; rfl)); intro gb172 hg w22 hbox hb; have n0_ := AM (Kd.R_below (Kd.R_elderB (by (with_reducible repeat (first | apply Kd.R_alloc | apply Kd.R_drewN | apply Kd.R_drew)); exact HO_4.out) gb172 (Nat.le_of_eq hg.symm)) hb); have n1_ := AM (Kd.R_below (Kd.R_elderB (by (with_reducible repeat (first | apply Kd.R_alloc | apply Kd.R_drewN | apply Kd.R_drew)); exact HO_14.out) gb172 (Nat.le_of_eq hg.symm)) hb); have n2_ := AM (below_step (by repeat (first | (with_reducible first | exact HB.out | apply below_alloc | apply pw_below_drewN | apply below_drew1) | exact HB.out)) hb); have n3_ := AM (hbox); have n4_ := AM ((by rw [hg]; exact (below_size (by repeat (first | (with_reducible first | exact HB.out | apply below_alloc | apply pw_below_drewN | apply below_drew1) | exact HB.out))) : w.heap.size ≤ gb172)); have n5_ := AM ((by rw [hg]; exact (below_size (by repeat (first | (with_reducible first | exact HB.out | apply below_alloc | apply pw_below_drewN | apply below_drew1) | exact HB.out))) : w.heap.size ≤ gb172)); clear HO_4; clear HO_14; clear HB; have HO_4 := n0_; have HO_14 := n1_; have HB := n2_; have BK172 := n3_; have GW172 := n4_; have GE172 := n5_; clear n0_ n1_ n2_ n3_ n4_ n5_; clear hb hbox hg; have hcz23_0 : w22.cell? ⟨gb172, 0, none⟩ = some (.string (⟨#[]⟩ : ByteArray)) := (blk_cell BK172.out 0).trans rfl; have hcz23_1 : w22.cell? ⟨gb172, 1, none⟩ = some (.int .i64 0) := (blk_cell BK172.out 1).trans rfl; have hcz23_2 : w22.cell? ⟨gb172, 2, none⟩ = some (.int .i64 0) := (blk_cell BK172.out 2).trans rfl; have hfz23_0 := blk_frozen BK172.out 0; have hfz23_1 := blk_frozen BK172.out 1; have hfz23_2 := blk_frozen BK172.out 2; obtain ⟨Ao24, co24, eo24⟩ := Kd.R_slice HO_4.out; subst eo24))
            have n0_ : Aside0 (Kd.R k27 27 (((w22.setCell ⟨gb172, 0, none⟩ (.string ((rd_T27 x14_1 x16_1).f0))).setCell ⟨gb172, 1, none⟩ (.int .i64 ((rd_T27 x14_1 x16_1).f1))).setCell ⟨gb172, 2, none⟩ (.int .i64 ((rd_T27 x14_1 x16_1).f2))) w.heap.size (fun k_ => some k_ ≠ (.slice (some ad171) x14_1.length co9 : Value).ownBlock ∧ k_ ≠ gb172) (.slice Ao24 x4_1.length co24) x4_1) := ⟨by (with_reducible repeat (first | apply Kd.R_alloc | apply Kd.R_drewN | apply Kd.R_drew)); exact Kd.R_mono (Kd.R_far (p := ⟨gb172, 2, none⟩) (Kd.R_far (p := ⟨gb172, 1, none⟩) (Kd.R_far (p := ⟨gb172, 0, none⟩) (Kd.R_mono HO_4.out (fun k_ hk => (⟨hk, hk.2⟩ : _ ∧ k_ ≠ gb172))) (fun _ hk => hk.2) (.string ((rd_T27 x14_1 x16_1).f0))) (fun _ hk => hk.2) (.int .i64 ((rd_T27 x14_1 x16_1).f1))) (fun _ hk => hk.2) (.int .i64 ((rd_T27 x14_1 x16_1).f2))) (fun _ hk => ⟨hk.1.1, hk.1.2⟩)⟩
            have n1_ : Aside0 (Kd.R k27 27 (((w22.setCell ⟨gb172, 0, none⟩ (.string ((rd_T27 x14_1 x16_1).f0))).setCell ⟨gb172, 1, none⟩ (.int .i64 ((rd_T27 x14_1 x16_1).f1))).setCell ⟨gb172, 2, none⟩ (.int .i64 ((rd_T27 x14_1 x16_1).f2))) w.heap.size (fun k_ => some k_ ≠ (.slice Ao24 x4_1.length co24 : Value).ownBlock ∧ k_ ≠ gb172) (.slice (some ad171) x14_1.length co9) x14_1) := ⟨by (with_reducible repeat (first | apply Kd.R_alloc | apply Kd.R_drewN | apply Kd.R_drew)); exact Kd.R_mono (Kd.R_far (p := ⟨gb172, 2, none⟩) (Kd.R_far (p := ⟨gb172, 1, none⟩) (Kd.R_far (p := ⟨gb172, 0, none⟩) (Kd.R_mono HO_14.out (fun k_ hk => (⟨hk, hk.2⟩ : _ ∧ k_ ≠ gb172))) (fun _ hk => hk.2) (.string ((rd_T27 x14_1 x16_1).f0))) (fun _ hk => hk.2) (.int .i64 ((rd_T27 x14_1 x16_1).f1))) (fun _ hk => hk.2) (.int .i64 ((rd_T27 x14_1 x16_1).f2))) (fun _ hk => ⟨hk.1.1, hk.1.2⟩)⟩
            have n2_ : Aside0 ((((w22.setCell ⟨gb172, 0, none⟩ (.string ((rd_T27 x14_1 x16_1).f0))).setCell ⟨gb172, 1, none⟩ (.int .i64 ((rd_T27 x14_1 x16_1).f1))).setCell ⟨gb172, 2, none⟩ (.int .i64 ((rd_T27 x14_1 x16_1).f2))).heap[gb172]? = some (.cells #[.string ((rd_T27 x14_1 x16_1).f0), .int .i64 ((rd_T27 x14_1 x16_1).f1), .int .i64 ((rd_T27 x14_1 x16_1).f2)] 27 (0, 0))) := ⟨by (with_reducible repeat (first | refine blk_drewN ?_ _ | refine blk_drew ?_ | refine blk_alloc ?_ _)); refine blk_put (cs := #[.string ((rd_T27 x14_1 x16_1).f0), .int .i64 ((rd_T27 x14_1 x16_1).f1), .int .i64 0]) ?_ 2 _ rfl; (with_reducible repeat (first | refine blk_drewN ?_ _ | refine blk_drew ?_ | refine blk_alloc ?_ _)); refine blk_put (cs := #[.string ((rd_T27 x14_1 x16_1).f0), .int .i64 0, .int .i64 0]) ?_ 1 _ rfl; (with_reducible repeat (first | refine blk_drewN ?_ _ | refine blk_drew ?_ | refine blk_alloc ?_ _)); refine blk_put (cs := #[.string (⟨#[]⟩ : ByteArray), .int .i64 0, .int .i64 0]) ?_ 0 _ rfl; (with_reducible repeat (first | refine blk_drewN ?_ _ | refine blk_drew ?_ | refine blk_alloc ?_ _)); exact BK172.out⟩
            have n3_ : Aside0 (Below w.heap.size w (((w22.setCell ⟨gb172, 0, none⟩ (.string ((rd_T27 x14_1 x16_1).f0))).setCell ⟨gb172, 1, none⟩ (.int .i64 ((rd_T27 x14_1 x16_1).f1))).setCell ⟨gb172, 2, none⟩ (.int .i64 ((rd_T27 x14_1 x16_1).f2)))) := ⟨by repeat (first | (with_reducible first | exact HB.out | apply below_alloc | apply pw_below_drewN | apply below_drew1 | refine below_set ?_ GE172.out) | exact HB.out)⟩
            (try clear HO_4)
            (try clear HO_14)
            (try clear BK172)
            (try clear HB)
            generalize (((w22.setCell ⟨gb172, 0, none⟩ (.string ((rd_T27 x14_1 x16_1).f0))).setCell ⟨gb172, 1, none⟩ (.int .i64 ((rd_T27 x14_1 x16_1).f1))).setCell ⟨gb172, 2, none⟩ (.int .i64 ((rd_T27 x14_1 x16_1).f2))) = w25 at n0_ n1_ n2_ n3_ ⊢
            have HO_4 := n0_
            have HO_14 := n1_
            have BK172 := n2_
            have HB := n3_
            clear n0_ n1_ n2_ n3_
            have n0_ := AM (Kd.R_drew HO_4.out)
            have n1_ := AM (Kd.R_drew HO_14.out)
            have n2_ := AM (blk_drew BK172.out)
            have n3_ := AM (below_drew1 HB.out)
            clear HO_4
            clear HO_14
            clear BK172
            clear HB
            have HO_4 := n0_
            have HO_14 := n1_
            have BK172 := n2_
            have HB := n3_
            clear n0_ n1_ n2_ n3_
            have p173 : 0 ≤ ((ji15) : Int) := of_decide_eq_true (by first | (with_reducible assumption) | assumption)
            have q173 : (ji15) < (x4_1.length : Int) := of_decide_eq_true (by first | (with_reducible assumption) | assumption)
            obtain ⟨ad173, e173, hx173_0, hx173_1, hx173_2⟩ := at_T27 (Kd.R_reads' HO_4.out).2.2 (ji15) p173 q173
            cases e173
            replace p173 := eq_true p173
            replace q173 := eq_true q173
            have p174 : 0 ≤ ((ji15) : Int) := of_decide_eq_true (by first | (with_reducible assumption) | assumption)
            have q174 : (ji15) < (x4_1.length : Int) := of_decide_eq_true (by first | (with_reducible assumption) | assumption)
            obtain ⟨ad174, e174, hx174_0, hx174_1, hx174_2⟩ := at_T27 (Kd.R_reads' HO_4.out).2.2 (ji15) p174 q174
            obtain rfl : ad173 = ad174 := (by injection e174)
            replace p174 := eq_true p174
            replace q174 := eq_true q174
            refine start_ (n := 23) (S := fun w' => w'.cell? ⟨gb172, 0, none⟩ = some (.string ((rd_T27 x14_1 x16_1).f0)) ∧ w'.cell? ⟨gb172, 1, none⟩ = some (.int .i64 ((rd_T27 x14_1 x16_1).f1)) ∧ w'.cell? ⟨gb172, 2, none⟩ = some (.int .i64 ((rd_T27 x14_1 x16_1).f2)) ∧ w'.cell? (ad173.add (((ji15)).toNat * 3)) = some (.string ((rd_T27 x4_1 (ji15)).f0)) ∧ w'.cell? ⟨(ad173.add (((ji15)).toNat * 3)).block, (ad173.add (((ji15)).toNat * 3)).off + 1, none⟩ = some (.int .i64 ((rd_T27 x4_1 (ji15)).f1)) ∧ w'.cell? ⟨(ad173.add (((ji15)).toNat * 3)).block, (ad173.add (((ji15)).toNat * 3)).off + 2, none⟩ = some (.int .i64 ((rd_T27 x4_1 (ji15)).f2)) ∧ w'.cell? (ad173.add (((ji15)).toNat * 3)) = some (.string ((rd_T27 x4_1 (ji15)).f0)) ∧ w'.cell? ⟨(ad173.add (((ji15)).toNat * 3)).block, (ad173.add (((ji15)).toNat * 3)).off + 1, none⟩ = some (.int .i64 ((rd_T27 x4_1 (ji15)).f1)) ∧ w'.cell? ⟨(ad173.add (((ji15)).toNat * 3)).block, (ad173.add (((ji15)).toNat * 3)).off + 2, none⟩ = some (.int .i64 ((rd_T27 x4_1 (ji15)).f2))) (ds := []) (bA 23 0) (by kernel_rfl) rfl rfl ⟨(blk_cell BK172.out 0).trans rfl, (blk_cell BK172.out 1).trans rfl, (blk_cell BK172.out 2).trans rfl, hx173_0, hx173_1, hx173_2, hx174_0, hx174_1, hx174_2⟩ (fun hHeld => ?_); refine with_tabW impl_mergePages.tab7 impl_mergePages.bits7 (fun HT_ HW_ => ?_)
            generalize w25.drew = w26 at HO_4 HO_14 BK172 HB hx173_0 hx173_1 hx173_2 hx174_0 hx174_1 hx174_2 hHeld ⊢
            refine pure_ (i := 0) (N := some 23) (v := ?_) (a' := ?_) (bA 23 1) rfl rfl (any_of HT_.out (by kernel_rfl)) (fun _ _ _ h => h) (Or.inl ⟨by rfl, ?_⟩) ?_ ?_
            rotate_left
            ·intro w'
             go_simp
             with_reducible rfl
            rotate_left
            ·simp only [Act.put, sT, sZ, sS, i64_w, i32_w]
             rfl
            refine pure_ (i := 1) (N := some 24) (v := ?_) (a' := ?_) (bA 23 3) rfl rfl (any_of HT_.out (by kernel_rfl)) (fun _ _ _ h => h) (Or.inl ⟨by rfl, ?_⟩) ?_ ?_
            rotate_left
            ·intro w'
             go_simp
             with_reducible rfl
            rotate_left
            ·simp only [Act.put, sT, sZ, sS, i64_w, i32_w]
             rfl
            refine pure_ (i := 2) (N := some 25) (v := ?_) (a' := ?_) (bA 23 7) rfl rfl (any_of HT_.out (by kernel_rfl)) (fun _ _ _ h => h) (Or.inl ⟨by rfl, ?_⟩) ?_ ?_
            rotate_left
            ·intro w'
             go_simp
             with_reducible rfl
            rotate_left
            ·simp only [Act.put, sT, sZ, sS, i64_w, i32_w]
             rfl
            refine pure_ (i := 3) (N := some 26) (v := ?_) (a' := ?_) (bA 23 15) rfl rfl (any_of HT_.out (by kernel_rfl)) (fun _ _ _ h => h) (Or.inl ⟨by rfl, ?_⟩) ?_ ?_
            rotate_left
            ·intro w'
             go_simp
             with_reducible rfl
            rotate_left
            ·simp only [Act.put, sT, sZ, sS, i64_w, i32_w]
             rfl
            refine pure_ (i := 4) (N := some 27) (v := ?_) (a' := ?_) (bA 23 31) rfl rfl (any_of HT_.out (by kernel_rfl)) (fun _ _ _ h => h) (Or.inl ⟨by rfl, ?_⟩) ?_ ?_
            rotate_left
            ·intro w'
             go_simp
             with_reducible rfl
            rotate_left
            ·simp only [Act.put, sT, sZ, sS, i64_w, i32_w]
             rfl
            refine pure_ (i := 5) (N := some 28) (v := ?_) (a' := ?_) (bA 23 63) rfl rfl (any_of HT_.out (by kernel_rfl)) (fun _ _ _ h => h) (Or.inl ⟨by rfl, ?_⟩) ?_ ?_
            rotate_left
            ·intro w'
             go_simp
             with_reducible rfl
            rotate_left
            ·simp only [Act.put, sT, sZ, sS, i64_w, i32_w]
             rfl
            refine pure_ (i := 6) (N := some 29) (v := ?_) (a' := ?_) (bA 23 127) rfl rfl (any_of HT_.out (by kernel_rfl)) (fun _ _ _ h => h) (Or.inl ⟨by rfl, ?_⟩) ?_ ?_
            rotate_left
            ·intro w'
             go_simp
             with_reducible rfl
            rotate_left
            ·simp only [Act.put, sT, sZ, sS, i64_w, i32_w]
             rfl
            refine pure_ (i := 8) (N := some 31) (v := ?_) (a' := ?_) (bA 23 383) rfl rfl (any_of HT_.out (by kernel_rfl)) (fun _ _ _ h => h) (Or.inl ⟨by rfl, ?_⟩) ?_ ?_
            rotate_left
            ·intro w'
             go_simp
             with_reducible rfl
            rotate_left
            ·simp only [Act.put, sT, sZ, sS, i64_w, i32_w]
             rfl
            refine take_ (i := 7) (N := some 30) (v := ?_) (a' := ?_) (bA 23 511) rfl rfl (take_ofW HT_.out HW_.out (by kernel_rfl)) (fun _ _ _ h => h) (Or.inl ⟨by rfl, ?_⟩) hHeld ?_ ?_
            rotate_left
            ·rintro w' ⟨s0, s1, s2, s3, s4, s5, s6, s7, s8⟩
             go_simp
             with_reducible rfl
            rotate_left
            ·simp only [Act.put, sT, sZ, sS, i64_w, i32_w]
             rfl
            refine take_ (i := 9) (N := some 32) (v := ?_) (a' := ?_) (bA 23 1023) rfl rfl (take_ofW HT_.out HW_.out (by kernel_rfl)) (fun _ _ _ h => h) (Or.inl ⟨by rfl, ?_⟩) hHeld ?_ ?_
            rotate_left
            ·rintro w' ⟨s0, s1, s2, s3, s4, s5, s6, s7, s8⟩
             go_simp
             with_reducible rfl
            rotate_left
            ·simp only [Act.put, sT, sZ, sS, i64_w, i32_w]
             rfl
            refine pure_ (i := 10) (N := some 33) (v := ?_) (a' := ?_) (bA 23 2047) rfl rfl (any_of HT_.out (by kernel_rfl)) (fun _ _ _ h => h) (Or.inl ⟨by rfl, ?_⟩) ?_ ?_
            rotate_left
            ·intro w'
             go_simp
             with_reducible rfl
            rotate_left
            ·simp only [Act.put, sT, sZ, sS, i64_w, i32_w]
             rfl
            refine pure_ (i := 11) (N := some 34) (v := ?_) (a' := ?_) (bA 23 4095) rfl rfl (any_of HT_.out (by kernel_rfl)) (fun _ _ _ h => h) (Or.inl ⟨by rfl, ?_⟩) ?_ ?_
            rotate_left
            ·intro w'
             go_simp
             with_reducible rfl
            rotate_left
            ·simp only [Act.put, sT, sZ, sS, i64_w, i32_w]
             rfl
            refine pure_ (i := 12) (N := some 35) (v := ?_) (a' := ?_) (bA 23 8191) rfl rfl (any_of HT_.out (by kernel_rfl)) (fun _ _ _ h => h) (Or.inl ⟨by rfl, ?_⟩) ?_ ?_
            rotate_left
            ·intro w'
             go_simp
             with_reducible rfl
            rotate_left
            ·simp only [Act.put, sT, sZ, sS, i64_w, i32_w]
             rfl
            refine pure_ (i := 13) (N := some 36) (v := ?_) (a' := ?_) (bA 23 16383) rfl rfl (any_of HT_.out (by kernel_rfl)) (fun _ _ _ h => h) (Or.inl ⟨by rfl, ?_⟩) ?_ ?_
            rotate_left
            ·intro w'
             go_simp
             with_reducible rfl
            rotate_left
            ·simp only [Act.put, sT, sZ, sS, i64_w, i32_w]
             rfl
            refine pure_ (i := 15) (N := some 38) (v := ?_) (a' := ?_) (bA 23 49151) rfl rfl (any_of HT_.out (by kernel_rfl)) (fun _ _ _ h => h) (Or.inl ⟨by rfl, ?_⟩) ?_ ?_
            rotate_left
            ·intro w'
             go_simp
             with_reducible rfl
            rotate_left
            ·simp only [Act.put, sT, sZ, sS, i64_w, i32_w]
             rfl
            refine pure_ (i := 16) (N := some 39) (v := ?_) (a' := ?_) (bA 23 114687) rfl rfl (any_of HT_.out (by kernel_rfl)) (fun _ _ _ h => h) (Or.inl ⟨by rfl, ?_⟩) ?_ ?_
            rotate_left
            ·intro w'
             go_simp
             with_reducible rfl
            rotate_left
            ·simp only [Act.put, sT, sZ, sS, i64_w, i32_w]
             rfl
            refine pure_ (i := 17) (N := some 40) (v := ?_) (a' := ?_) (bA 23 245759) rfl rfl (any_of HT_.out (by kernel_rfl)) (fun _ _ _ h => h) (Or.inl ⟨by rfl, ?_⟩) ?_ ?_
            rotate_left
            ·intro w'
             go_simp
             with_reducible rfl
            rotate_left
            ·simp only [Act.put, sT, sZ, sS, i64_w, i32_w]
             rfl
            refine pure_ (i := 18) (N := some 41) (v := ?_) (a' := ?_) (bA 23 507903) rfl rfl (any_of HT_.out (by kernel_rfl)) (fun _ _ _ h => h) (Or.inl ⟨by rfl, ?_⟩) ?_ ?_
            rotate_left
            ·intro w'
             go_simp
             with_reducible rfl
            rotate_left
            ·simp only [Act.put, sT, sZ, sS, i64_w, i32_w]
             rfl
            refine take_ (i := 14) (N := some 37) (v := ?_) (a' := ?_) (bA 23 524287) rfl rfl (take_ofW HT_.out HW_.out (by kernel_rfl)) (fun _ _ _ h => h) (Or.inl ⟨by rfl, ?_⟩) hHeld ?_ ?_
            rotate_left
            ·rintro w' ⟨s0, s1, s2, s3, s4, s5, s6, s7, s8⟩
             go_simp
             with_reducible rfl
            rotate_left
            ·simp only [Act.put, sT, sZ, sS, i64_w, i32_w]
             rfl
            refine take_ (i := 19) (N := some 42) (v := ?_) (a' := ?_) (bA 23 1048575) rfl rfl (take_ofW HT_.out HW_.out (by kernel_rfl)) (fun _ _ _ h => h) (Or.inl ⟨by rfl, ?_⟩) hHeld ?_ ?_
            rotate_left
            ·rintro w' ⟨s0, s1, s2, s3, s4, s5, s6, s7, s8⟩
             go_simp
             with_reducible rfl
            rotate_left
            ·simp only [Act.put, sT, sZ, sS, i64_w, i32_w]
             rfl
            refine pure_ (i := 20) (N := some 43) (v := ?_) (a' := ?_) (bA 23 2097151) rfl rfl (any_of HT_.out (by kernel_rfl)) (fun _ _ _ h => h) (Or.inl ⟨by rfl, ?_⟩) ?_ ?_
            rotate_left
            ·intro w'
             go_simp
             with_reducible rfl
            rotate_left
            ·simp only [Act.put, sT, sZ, sS, i64_w, i32_w]
             rfl
            refine pure_ (i := 21) (N := some 44) (v := ?_) (a' := ?_) (bA 23 4194303) rfl rfl (any_of HT_.out (by kernel_rfl)) (fun _ _ _ h => h) (Or.inl ⟨by rfl, ?_⟩) ?_ ?_
            rotate_left
            ·intro w'
             go_simp
             with_reducible rfl
            rotate_left
            ·simp only [Act.put, sT, sZ, sS, i64_w, i32_w]
             rfl
            refine pure_ (i := 22) (N := some 45) (v := ?_) (a' := ?_) (bA 23 8388607) rfl rfl (any_of HT_.out (by kernel_rfl)) (fun _ _ _ h => h) (Or.inl ⟨by rfl, ?_⟩) ?_ ?_
            rotate_left
            ·intro w'
             go_simp
             with_reducible rfl
            rotate_left
            ·simp only [Act.put, sT, sZ, sS, i64_w, i32_w]
             rfl
            refine done_ (done_of HT_.out (by kernel_rfl)) ?_
            try go_wp2
            have n0_ := AM (Kd.R_drew HO_4.out)
            have n1_ := AM (Kd.R_drew HO_14.out)
            have n2_ := AM (blk_drew BK172.out)
            have n3_ := AM (below_drew1 HB.out)
            clear HO_4
            clear HO_14
            clear BK172
            clear HB
            have HO_4 := n0_
            have HO_14 := n1_
            have BK172 := n2_
            have HB := n3_
            clear n0_ n1_ n2_ n3_
            have p175 : 0 ≤ ((ji15) : Int) := of_decide_eq_true (by first | (with_reducible assumption) | assumption)
            have q175 : (ji15) < (x4_1.length : Int) := of_decide_eq_true (by first | (with_reducible assumption) | assumption)
            obtain ⟨ad175, e175, hx175_0, hx175_1, hx175_2⟩ := at_T27 (Kd.R_reads' HO_4.out).2.2 (ji15) p175 q175
            obtain rfl : ad173 = ad175 := (by injection e175)
            replace p175 := eq_true p175
            replace q175 := eq_true q175
            have p21 : 0 ≤ ((ji15) : Int) := of_decide_eq_true (by first | (with_reducible assumption) | assumption)
            have q21 : ((ji15) : Int) < ((x4_1.length : Int) : Int) := of_decide_eq_true (by first | (with_reducible assumption) | assumption)
            obtain ⟨go21, co21, eo21, gb21, gl21, cl21, HG21⟩ := Kd.R_form HO_4.out (by omega)
            (first | cases eo21 | (injection eo21 with ea_ en_ ec_; (first | subst ea_ | (injection ea_ with ea_; subst ea_)); subst ec_; clear en_))
            have GB21 := AM gb21
            have GG21 := AM HG21
            clear gb21 gl21 HG21
            (first | simp only [add_plain] at hx173_0 | skip)
            (first | simp only [add_plain] at hx173_1 | skip)
            (first | simp only [add_plain] at hx173_2 | skip)
            (first | simp only [add_plain] at hx174_0 | skip)
            (first | simp only [add_plain] at hx174_1 | skip)
            (first | simp only [add_plain] at hx174_2 | skip)
            (first | simp only [add_plain] at hx175_0 | skip)
            (first | simp only [add_plain] at hx175_1 | skip)
            (first | simp only [add_plain] at hx175_2 | skip)
            obtain ⟨ce21, hcl21, hM21, hcc21, hfr21⟩ := Kd.R_elem HO_4.out z27 ((ji15) : Int) p21 q21
            obtain rfl := k27_openM hM21
            have hx21_0 : World.cell? _ ⟨go21, ((ji15) : Int).toNat * 3, none⟩ = some (.string ((rd_T27 x4_1 (ji15)).f0)) := hcc21 0 _ rfl
            have hx21_1 : World.cell? _ ⟨go21, ((ji15) : Int).toNat * 3 + 1, none⟩ = some (.int .i64 ((rd_T27 x4_1 (ji15)).f1)) := hcc21 1 _ rfl
            have hx21_2 : World.cell? _ ⟨go21, ((ji15) : Int).toNat * 3 + 2, none⟩ = some (.int .i64 ((rd_T27 x4_1 (ji15)).f2)) := hcc21 2 _ rfl
            have hf21_0 : World.frozen? _ ⟨go21, ((ji15) : Int).toNat * 3, none⟩ = false := hfr21 0
            have hf21_1 : World.frozen? _ ⟨go21, ((ji15) : Int).toNat * 3 + 1, none⟩ = false := hfr21 1
            have hf21_2 : World.frozen? _ ⟨go21, ((ji15) : Int).toNat * 3 + 2, none⟩ = false := hfr21 2
            clear hcl21 hcc21 hfr21 hM21
            (try simp only [World.setCells, show (k27).sz = 3 from rfl, Nat.add_zero, Nat.add_assoc, Nat.reduceAdd] at hx21_0)
            (try simp only [World.setCells, show (k27).sz = 3 from rfl, Nat.add_zero, Nat.add_assoc, Nat.reduceAdd] at hf21_0)
            (try simp only [World.setCells, show (k27).sz = 3 from rfl, Nat.add_zero, Nat.add_assoc, Nat.reduceAdd] at hx21_1)
            (try simp only [World.setCells, show (k27).sz = 3 from rfl, Nat.add_zero, Nat.add_assoc, Nat.reduceAdd] at hf21_1)
            (try simp only [World.setCells, show (k27).sz = 3 from rfl, Nat.add_zero, Nat.add_assoc, Nat.reduceAdd] at hx21_2)
            (try simp only [World.setCells, show (k27).sz = 3 from rfl, Nat.add_zero, Nat.add_assoc, Nat.reduceAdd] at hf21_2)
            replace p21 := eq_true p21
            replace q21 := eq_true q21
            obtain ⟨ce28, hcl28, hM28, hcc28, hfr28⟩ := Kd.R_elem HO_4.out z27 ((ji15) : Int) (of_decide_eq_true (by first | (with_reducible assumption) | assumption)) (by have h_ : ((ji15) : Int) < ((x4_1.length : Int) : Int) := of_decide_eq_true (by first | (with_reducible assumption) | assumption); first | exact h_ | (have e_ := (Kd.R_reads' HO_4.out).1; omega) | simpa using h_)
            obtain rfl := k27_openM hM28
            have HP28 := (Kd.R_seg HO_4.out ((ji15) : Int) (of_decide_eq_true (by first | (with_reducible assumption) | assumption)) (by have h_ : ((ji15) : Int) < ((x4_1.length : Int) : Int) := of_decide_eq_true (by first | (with_reducible assumption) | assumption); first | exact h_ | (have e_ := (Kd.R_reads' HO_4.out).1; omega) | simpa using h_) (seg := [.int .i64 ji20]) (j := 2) hcl28 hcc28 (show 3 ≤ 3 from by decide) (x' := (⟨(rd_T27 x4_1 (ji15)).f0, (rd_T27 x4_1 (ji15)).f1, ji20⟩ : S27)) (k27_mkM _ _ _ (⟨(rd_T27 x4_1 (ji15)).f0, (rd_T27 x4_1 (ji15)).f1, ji20⟩ : S27) ) (fun _ hk => hk)).1
            rw [← Ny176.out] at HP28
            have HQ28 := AM HP28
            clear hcl28 hcc28 hfr28 hM28 HP28
            refine start_ (n := 13) (S := fun w' => w'.cell? ⟨gb172, 0, none⟩ = some (.string ((rd_T27 x14_1 x16_1).f0)) ∧ w'.cell? ⟨gb172, 1, none⟩ = some (.int .i64 ((rd_T27 x14_1 x16_1).f1)) ∧ w'.cell? ⟨gb172, 2, none⟩ = some (.int .i64 ((rd_T27 x14_1 x16_1).f2)) ∧ w'.cell? ⟨go21, (((ji15)).toNat * 3), none⟩ = some (.string ((rd_T27 x4_1 (ji15)).f0)) ∧ w'.cell? ⟨go21, (((ji15)).toNat * 3) + 1, none⟩ = some (.int .i64 ((rd_T27 x4_1 (ji15)).f1)) ∧ w'.cell? ⟨go21, (((ji15)).toNat * 3) + 2, none⟩ = some (.int .i64 ((rd_T27 x4_1 (ji15)).f2))) (ds := [12]) (bA 13 0) (by kernel_rfl) rfl rfl ⟨(blk_cell BK172.out 0).trans rfl, (blk_cell BK172.out 1).trans rfl, (blk_cell BK172.out 2).trans rfl, hx175_0, hx175_1, hx175_2⟩ (fun hHeld => ?_); refine with_tabW impl_mergePages.tab8 impl_mergePages.bits8 (fun HT_ HW_ => ?_)
            generalize w26.drew = w27 at HO_4 HO_14 BK172 HB GG21 HQ28 hf21_0 hf21_1 hf21_2 hx173_0 hx173_1 hx173_2 hx174_0 hx174_1 hx174_2 hx175_0 hx175_1 hx175_2 hx21_0 hx21_1 hx21_2 hHeld ⊢
            refine pure_ (i := 0) (N := some 46) (v := ?_) (a' := ?_) (bA 13 1) rfl rfl (any_of HT_.out (by kernel_rfl)) (fun _ _ _ h => h) (Or.inl ⟨by rfl, ?_⟩) ?_ ?_
            rotate_left
            ·intro w'
             go_simp
             with_reducible rfl
            rotate_left
            ·simp only [Act.put, sT, sZ, sS, i64_w, i32_w]
             rfl
            refine pure_ (i := 1) (N := some 47) (v := ?_) (a' := ?_) (bA 13 3) rfl rfl (any_of HT_.out (by kernel_rfl)) (fun _ _ _ h => h) (Or.inl ⟨by rfl, ?_⟩) ?_ ?_
            rotate_left
            ·intro w'
             go_simp
             with_reducible rfl
            rotate_left
            ·simp only [Act.put, sT, sZ, sS, i64_w, i32_w]
             rfl
            refine pure_ (i := 2) (N := some 48) (v := ?_) (a' := ?_) (bA 13 7) rfl rfl (any_of HT_.out (by kernel_rfl)) (fun _ _ _ h => h) (Or.inl ⟨by rfl, ?_⟩) ?_ ?_
            rotate_left
            ·intro w'
             go_simp
             with_reducible rfl
            rotate_left
            ·simp only [Act.put, sT, sZ, sS, i64_w, i32_w]
             rfl
            refine pure_ (i := 3) (N := some 49) (v := ?_) (a' := ?_) (bA 13 15) rfl rfl (any_of HT_.out (by kernel_rfl)) (fun _ _ _ h => h) (Or.inl ⟨by rfl, ?_⟩) ?_ ?_
            rotate_left
            ·intro w'
             go_simp
             with_reducible rfl
            rotate_left
            ·simp only [Act.put, sT, sZ, sS, i64_w, i32_w]
             rfl
            refine pure_ (i := 4) (N := some 50) (v := ?_) (a' := ?_) (bA 13 31) rfl rfl (any_of HT_.out (by kernel_rfl)) (fun _ _ _ h => h) (Or.inl ⟨by rfl, ?_⟩) ?_ ?_
            rotate_left
            ·intro w'
             go_simp
             with_reducible rfl
            rotate_left
            ·simp only [Act.put, sT, sZ, sS, i64_w, i32_w]
             rfl
            refine pure_ (i := 5) (N := some 51) (v := ?_) (a' := ?_) (bA 13 63) rfl rfl (any_of HT_.out (by kernel_rfl)) (fun _ _ _ h => h) (Or.inl ⟨by rfl, ?_⟩) ?_ ?_
            rotate_left
            ·intro w'
             go_simp
             with_reducible rfl
            rotate_left
            ·simp only [Act.put, sT, sZ, sS, i64_w, i32_w]
             rfl
            refine pure_ (i := 7) (N := some 53) (v := ?_) (a' := ?_) (bA 13 191) rfl rfl (any_of HT_.out (by kernel_rfl)) (fun _ _ _ h => h) (Or.inl ⟨by rfl, ?_⟩) ?_ ?_
            rotate_left
            ·intro w'
             go_simp
             with_reducible rfl
            rotate_left
            ·simp only [Act.put, sT, sZ, sS, i64_w, i32_w]
             rfl
            refine take_ (i := 6) (N := some 52) (v := ?_) (a' := ?_) (bA 13 255) rfl rfl (take_ofW HT_.out HW_.out (by kernel_rfl)) (fun _ _ _ h => h) (Or.inl ⟨by rfl, ?_⟩) hHeld ?_ ?_
            rotate_left
            ·rintro w' ⟨s0, s1, s2, s3, s4, s5⟩
             go_simp
             with_reducible rfl
            rotate_left
            ·simp only [Act.put, sT, sZ, sS, i64_w, i32_w]
             rfl
            refine take_ (i := 8) (N := some 54) (v := ?_) (a' := ?_) (bA 13 511) rfl rfl (take_ofW HT_.out HW_.out (by kernel_rfl)) (fun _ _ _ h => h) (Or.inl ⟨by rfl, ?_⟩) hHeld ?_ ?_
            rotate_left
            ·rintro w' ⟨s0, s1, s2, s3, s4, s5⟩
             go_simp
             with_reducible rfl
            rotate_left
            ·simp only [Act.put, sT, sZ, sS, i64_w, i32_w]
             rfl
            refine pure_ (i := 9) (N := some 55) (v := ?_) (a' := ?_) (bA 13 1023) rfl rfl (any_of HT_.out (by kernel_rfl)) (fun _ _ _ h => h) (Or.inl ⟨by rfl, ?_⟩) ?_ ?_
            rotate_left
            ·intro w'
             go_simp
             with_reducible rfl
            rotate_left
            ·simp only [Act.put, sT, sZ, sS, i64_w, i32_w]
             rfl
            refine pure_ (i := 10) (N := some 56) (v := ?_) (a' := ?_) (bA 13 2047) rfl rfl (any_of HT_.out (by kernel_rfl)) (fun _ _ _ h => h) (Or.inl ⟨by rfl, ?_⟩) ?_ ?_
            rotate_left
            ·intro w'
             go_simp
             with_reducible rfl
            rotate_left
            ·simp only [Act.put, sT, sZ, sS, i64_w, i32_w]
             rfl
            refine pure_ (i := 11) (N := some 57) (v := ?_) (a' := ?_) (bA 13 4095) rfl rfl (any_of HT_.out (by kernel_rfl)) (fun _ _ _ h => h) (Or.inl ⟨by rfl, ?_⟩) ?_ ?_
            rotate_left
            ·intro w'
             go_simp
             with_reducible rfl
            rotate_left
            ·simp only [Act.put, sT, sZ, sS, i64_w, i32_w]
             rfl
            refine last_ (i := 12) (N := none) (bA 13 8191) rfl rfl (one_of HT_.out (by kernel_rfl)) (by decide) (fun K hK => ?_)
            refine skip_ (w1 := ?_) (by rfl) rfl ?_ ?_
            rotate_left
            ·go_simp
             rfl
            refine hK.out _ _ ?_
            clear hK K
            refine done_ (done_of HT_.out (by kernel_rfl)) ?_
            try go_wp2
            (try simp only [← hl14_1])
            go_roundg k1
            case measure => have := HK1.out; omega
            case rel => exact ⟨(y176), (x14_1), (wrap64 (x16_1 + 1)), (by first | rfl | (simp; done) | (simp [*]; done)), H', ⟨by have := HK1.out; omega⟩, ⟨by (try simp only [hl14_1]); (with_reducible repeat (first | apply Kd.R_alloc | apply Kd.R_drewN | apply Kd.R_drew)); exact Kd.R_mono HQ28.out (fun _ hk => hk.1)⟩, ⟨by (try simp only [hl14_1]); (with_reducible repeat (first | apply Kd.R_alloc | apply Kd.R_drewN | apply Kd.R_drew)); exact Kd.R_mono (Kd.R_far (p := ⟨go21, ((ji15) : Int).toNat * 3 + 2, none⟩) (Kd.R_mono HO_14.out (fun k_ hk => (⟨hk, fun e_ => hk.1 (by rw [e_]; rfl)⟩ : _ ∧ k_ ≠ go21))) (fun _ hk => hk.2) (.int .i64 ji20)) (fun _ hk => hk.1.1)⟩, ⟨by repeat (first | (with_reducible first | exact HB.out | apply below_alloc | apply pw_below_drewN | apply below_drew1 | refine below_set ?_ GB21.out | refine below_set ?_ GE172.out) | exact HB.out)⟩⟩
           ·rw [if_neg c19] at H
            have c19b0 : decide (((rd_T27 x14_1 x16_1).f1) ≤ (wrap64 (((rd_T27 x4_1 (ji15)).f2) + 1))) = false := decide_eq_false c19
            (try (have c19b0h := c19b0; simp only [hl14_1] at c19b0h))
            clear c19
            by_cases c29 : x4_1.length < 4398046511104
            ·rw [if_pos c29] at H
             have LMc29 := AM c29
             clear c29
             obtain ⟨y177, hy177⟩ : ∃ y_ : List (S27), y_ = (x4_1 ++ [(⟨(rd_T27 x14_1 x16_1).f0, (rd_T27 x14_1 x16_1).f1, (rd_T27 x14_1 x16_1).f2⟩ : S27)]) := ⟨_, rfl⟩
             replace H : (impl_mergePages.l0 k1 y177 x14_1 (y164.length : Int) (wrap64 (x16_1 + 1))) = some r := by first | (rw [hy177]; with_reducible exact H) | (have H2_ := (Option.bind_some _ _).symm.trans H; rw [hy177]; with_reducible exact H2_) | (have H2_ := (Option.bind_some _ _).symm.trans H; with_reducible exact H2_) | with_reducible exact H | (rw [hy177]; exact H) | exact H
             have Ny177 := AM hy177
             clear hy177
             have H' := AM H
             clear H
             have p171 : 0 ≤ (x16_1 : Int) := of_decide_eq_true (by first | (with_reducible assumption) | assumption)
             have q171 : x16_1 < (x14_1.length : Int) := of_decide_eq_true (by first | (with_reducible assumption) | assumption)
             obtain ⟨ad171, e171, hx171_0, hx171_1, hx171_2⟩ := at_T27 (Kd.R_reads' HO_14.out).2.2 x16_1 p171 q171
             cases e171
             replace p171 := eq_true p171
             replace q171 := eq_true q171
             try go_wp2_with (first | ((with_reducible refine gate_dst (N := 6) rfl ?_); refine box_event ?hg (N := 6) ?hd (cs := #[.string (⟨#[]⟩ : ByteArray), .int .i64 0, .int .i64 0]) (t := 27) ?hr ?_; (case hd => rfl); (case hg => rfl); (case hr => first | (go_simp; done) | (go_simp; rfl)); intro gb172 hg w30 hbox hb; have n0_ := AM (Kd.R_below (Kd.R_elderB (by (with_reducible repeat (first | apply Kd.R_alloc | apply Kd.R_drewN | apply Kd.R_drew)); exact HO_4.out) gb172 (Nat.le_of_eq hg.symm)) hb); have n1_ := AM (Kd.R_below (Kd.R_elderB (by (with_reducible repeat (first | apply Kd.R_alloc | apply Kd.R_drewN | apply Kd.R_drew)); exact HO_14.out) gb172 (Nat.le_of_eq hg.symm)) hb); have n2_ := AM (below_step (by repeat (first | (with_reducible first | exact HB.out | apply below_alloc | apply pw_below_drewN | apply below_drew1) | exact HB.out)) hb); have n3_ := AM (hbox); have n4_ := AM ((by rw [hg]; exact (below_size (by repeat (first | (with_reducible first | exact HB.out | apply below_alloc | apply pw_below_drewN | apply below_drew1) | exact HB.out))) : w.heap.size ≤ gb172)); have n5_ := AM ((by rw [hg]; exact (below_size (by repeat (first | (with_reducible first | exact HB.out | apply below_alloc | apply pw_below_drewN | apply below_drew1) | exact HB.out))) : w.heap.size ≤ gb172)); clear HO_4; clear HO_14; clear HB; have HO_4 := n0_; have HO_14 := n1_; have HB := n2_; have BK172 := n3_; have GW172 := n4_; have GE172 := n5_; clear n0_ n1_ n2_ n3_ n4_ n5_; clear hb hbox hg; have hcz31_0 : w30.cell? ⟨gb172, 0, none⟩ = some (.string (⟨#[]⟩ : ByteArray)) := (blk_cell BK172.out 0).trans rfl; have hcz31_1 : w30.cell? ⟨gb172, 1, none⟩ = some (.int .i64 0) := (blk_cell BK172.out 1).trans rfl; have hcz31_2 : w30.cell? ⟨gb172, 2, none⟩ = some (.int .i64 0) := (blk_cell BK172.out 2).trans rfl; have hfz31_0 := blk_frozen BK172.out 0; have hfz31_1 := blk_frozen BK172.out 1; have hfz31_2 := blk_frozen BK172.out 2; obtain ⟨Ao32, co32, eo32⟩ := Kd.R_slice HO_4.out; subst eo32))
             have n0_ : Aside0 (Kd.R k27 27 (((w30.setCell ⟨gb172, 0, none⟩ (.string ((rd_T27 x14_1 x16_1).f0))).setCell ⟨gb172, 1, none⟩ (.int .i64 ((rd_T27 x14_1 x16_1).f1))).setCell ⟨gb172, 2, none⟩ (.int .i64 ((rd_T27 x14_1 x16_1).f2))) w.heap.size (fun k_ => some k_ ≠ (.slice (some ad171) x14_1.length co9 : Value).ownBlock ∧ k_ ≠ gb172) (.slice Ao32 x4_1.length co32) x4_1) := ⟨by (with_reducible repeat (first | apply Kd.R_alloc | apply Kd.R_drewN | apply Kd.R_drew)); exact Kd.R_mono (Kd.R_far (p := ⟨gb172, 2, none⟩) (Kd.R_far (p := ⟨gb172, 1, none⟩) (Kd.R_far (p := ⟨gb172, 0, none⟩) (Kd.R_mono HO_4.out (fun k_ hk => (⟨hk, hk.2⟩ : _ ∧ k_ ≠ gb172))) (fun _ hk => hk.2) (.string ((rd_T27 x14_1 x16_1).f0))) (fun _ hk => hk.2) (.int .i64 ((rd_T27 x14_1 x16_1).f1))) (fun _ hk => hk.2) (.int .i64 ((rd_T27 x14_1 x16_1).f2))) (fun _ hk => ⟨hk.1.1, hk.1.2⟩)⟩
             have n1_ : Aside0 (Kd.R k27 27 (((w30.setCell ⟨gb172, 0, none⟩ (.string ((rd_T27 x14_1 x16_1).f0))).setCell ⟨gb172, 1, none⟩ (.int .i64 ((rd_T27 x14_1 x16_1).f1))).setCell ⟨gb172, 2, none⟩ (.int .i64 ((rd_T27 x14_1 x16_1).f2))) w.heap.size (fun k_ => some k_ ≠ (.slice Ao32 x4_1.length co32 : Value).ownBlock ∧ k_ ≠ gb172) (.slice (some ad171) x14_1.length co9) x14_1) := ⟨by (with_reducible repeat (first | apply Kd.R_alloc | apply Kd.R_drewN | apply Kd.R_drew)); exact Kd.R_mono (Kd.R_far (p := ⟨gb172, 2, none⟩) (Kd.R_far (p := ⟨gb172, 1, none⟩) (Kd.R_far (p := ⟨gb172, 0, none⟩) (Kd.R_mono HO_14.out (fun k_ hk => (⟨hk, hk.2⟩ : _ ∧ k_ ≠ gb172))) (fun _ hk => hk.2) (.string ((rd_T27 x14_1 x16_1).f0))) (fun _ hk => hk.2) (.int .i64 ((rd_T27 x14_1 x16_1).f1))) (fun _ hk => hk.2) (.int .i64 ((rd_T27 x14_1 x16_1).f2))) (fun _ hk => ⟨hk.1.1, hk.1.2⟩)⟩
             have n2_ : Aside0 ((((w30.setCell ⟨gb172, 0, none⟩ (.string ((rd_T27 x14_1 x16_1).f0))).setCell ⟨gb172, 1, none⟩ (.int .i64 ((rd_T27 x14_1 x16_1).f1))).setCell ⟨gb172, 2, none⟩ (.int .i64 ((rd_T27 x14_1 x16_1).f2))).heap[gb172]? = some (.cells #[.string ((rd_T27 x14_1 x16_1).f0), .int .i64 ((rd_T27 x14_1 x16_1).f1), .int .i64 ((rd_T27 x14_1 x16_1).f2)] 27 (0, 0))) := ⟨by (with_reducible repeat (first | refine blk_drewN ?_ _ | refine blk_drew ?_ | refine blk_alloc ?_ _)); refine blk_put (cs := #[.string ((rd_T27 x14_1 x16_1).f0), .int .i64 ((rd_T27 x14_1 x16_1).f1), .int .i64 0]) ?_ 2 _ rfl; (with_reducible repeat (first | refine blk_drewN ?_ _ | refine blk_drew ?_ | refine blk_alloc ?_ _)); refine blk_put (cs := #[.string ((rd_T27 x14_1 x16_1).f0), .int .i64 0, .int .i64 0]) ?_ 1 _ rfl; (with_reducible repeat (first | refine blk_drewN ?_ _ | refine blk_drew ?_ | refine blk_alloc ?_ _)); refine blk_put (cs := #[.string (⟨#[]⟩ : ByteArray), .int .i64 0, .int .i64 0]) ?_ 0 _ rfl; (with_reducible repeat (first | refine blk_drewN ?_ _ | refine blk_drew ?_ | refine blk_alloc ?_ _)); exact BK172.out⟩
             have n3_ : Aside0 (Below w.heap.size w (((w30.setCell ⟨gb172, 0, none⟩ (.string ((rd_T27 x14_1 x16_1).f0))).setCell ⟨gb172, 1, none⟩ (.int .i64 ((rd_T27 x14_1 x16_1).f1))).setCell ⟨gb172, 2, none⟩ (.int .i64 ((rd_T27 x14_1 x16_1).f2)))) := ⟨by repeat (first | (with_reducible first | exact HB.out | apply below_alloc | apply pw_below_drewN | apply below_drew1 | refine below_set ?_ GE172.out) | exact HB.out)⟩
             (try clear HO_4)
             (try clear HO_14)
             (try clear BK172)
             (try clear HB)
             generalize (((w30.setCell ⟨gb172, 0, none⟩ (.string ((rd_T27 x14_1 x16_1).f0))).setCell ⟨gb172, 1, none⟩ (.int .i64 ((rd_T27 x14_1 x16_1).f1))).setCell ⟨gb172, 2, none⟩ (.int .i64 ((rd_T27 x14_1 x16_1).f2))) = w33 at n0_ n1_ n2_ n3_ ⊢
             have HO_4 := n0_
             have HO_14 := n1_
             have BK172 := n2_
             have HB := n3_
             clear n0_ n1_ n2_ n3_
             have n0_ := AM (Kd.R_drew HO_4.out)
             have n1_ := AM (Kd.R_drew HO_14.out)
             have n2_ := AM (blk_drew BK172.out)
             have n3_ := AM (below_drew1 HB.out)
             clear HO_4
             clear HO_14
             clear BK172
             clear HB
             have HO_4 := n0_
             have HO_14 := n1_
             have BK172 := n2_
             have HB := n3_
             clear n0_ n1_ n2_ n3_
             have p173 : 0 ≤ ((ji15) : Int) := of_decide_eq_true (by first | (with_reducible assumption) | assumption)
             have q173 : (ji15) < (x4_1.length : Int) := of_decide_eq_true (by first | (with_reducible assumption) | assumption)
             obtain ⟨ad173, e173, hx173_0, hx173_1, hx173_2⟩ := at_T27 (Kd.R_reads' HO_4.out).2.2 (ji15) p173 q173
             cases e173
             replace p173 := eq_true p173
             replace q173 := eq_true q173
             have p174 : 0 ≤ ((ji15) : Int) := of_decide_eq_true (by first | (with_reducible assumption) | assumption)
             have q174 : (ji15) < (x4_1.length : Int) := of_decide_eq_true (by first | (with_reducible assumption) | assumption)
             obtain ⟨ad174, e174, hx174_0, hx174_1, hx174_2⟩ := at_T27 (Kd.R_reads' HO_4.out).2.2 (ji15) p174 q174
             obtain rfl : ad173 = ad174 := (by injection e174)
             replace p174 := eq_true p174
             replace q174 := eq_true q174
             refine start_ (n := 23) (S := fun w' => w'.cell? ⟨gb172, 0, none⟩ = some (.string ((rd_T27 x14_1 x16_1).f0)) ∧ w'.cell? ⟨gb172, 1, none⟩ = some (.int .i64 ((rd_T27 x14_1 x16_1).f1)) ∧ w'.cell? ⟨gb172, 2, none⟩ = some (.int .i64 ((rd_T27 x14_1 x16_1).f2)) ∧ w'.cell? (ad173.add (((ji15)).toNat * 3)) = some (.string ((rd_T27 x4_1 (ji15)).f0)) ∧ w'.cell? ⟨(ad173.add (((ji15)).toNat * 3)).block, (ad173.add (((ji15)).toNat * 3)).off + 1, none⟩ = some (.int .i64 ((rd_T27 x4_1 (ji15)).f1)) ∧ w'.cell? ⟨(ad173.add (((ji15)).toNat * 3)).block, (ad173.add (((ji15)).toNat * 3)).off + 2, none⟩ = some (.int .i64 ((rd_T27 x4_1 (ji15)).f2)) ∧ w'.cell? (ad173.add (((ji15)).toNat * 3)) = some (.string ((rd_T27 x4_1 (ji15)).f0)) ∧ w'.cell? ⟨(ad173.add (((ji15)).toNat * 3)).block, (ad173.add (((ji15)).toNat * 3)).off + 1, none⟩ = some (.int .i64 ((rd_T27 x4_1 (ji15)).f1)) ∧ w'.cell? ⟨(ad173.add (((ji15)).toNat * 3)).block, (ad173.add (((ji15)).toNat * 3)).off + 2, none⟩ = some (.int .i64 ((rd_T27 x4_1 (ji15)).f2))) (ds := []) (bA 23 0) (by kernel_rfl) rfl rfl ⟨(blk_cell BK172.out 0).trans rfl, (blk_cell BK172.out 1).trans rfl, (blk_cell BK172.out 2).trans rfl, hx173_0, hx173_1, hx173_2, hx174_0, hx174_1, hx174_2⟩ (fun hHeld => ?_); refine with_tabW impl_mergePages.tab7 impl_mergePages.bits7 (fun HT_ HW_ => ?_)
             generalize w33.drew = w34 at HO_4 HO_14 BK172 HB hx173_0 hx173_1 hx173_2 hx174_0 hx174_1 hx174_2 hHeld ⊢
             refine pure_ (i := 0) (N := some 23) (v := ?_) (a' := ?_) (bA 23 1) rfl rfl (any_of HT_.out (by kernel_rfl)) (fun _ _ _ h => h) (Or.inl ⟨by rfl, ?_⟩) ?_ ?_
             rotate_left
             ·intro w'
              go_simp
              with_reducible rfl
             rotate_left
             ·simp only [Act.put, sT, sZ, sS, i64_w, i32_w]
              rfl
             refine pure_ (i := 1) (N := some 24) (v := ?_) (a' := ?_) (bA 23 3) rfl rfl (any_of HT_.out (by kernel_rfl)) (fun _ _ _ h => h) (Or.inl ⟨by rfl, ?_⟩) ?_ ?_
             rotate_left
             ·intro w'
              go_simp
              with_reducible rfl
             rotate_left
             ·simp only [Act.put, sT, sZ, sS, i64_w, i32_w]
              rfl
             refine pure_ (i := 2) (N := some 25) (v := ?_) (a' := ?_) (bA 23 7) rfl rfl (any_of HT_.out (by kernel_rfl)) (fun _ _ _ h => h) (Or.inl ⟨by rfl, ?_⟩) ?_ ?_
             rotate_left
             ·intro w'
              go_simp
              with_reducible rfl
             rotate_left
             ·simp only [Act.put, sT, sZ, sS, i64_w, i32_w]
              rfl
             refine pure_ (i := 3) (N := some 26) (v := ?_) (a' := ?_) (bA 23 15) rfl rfl (any_of HT_.out (by kernel_rfl)) (fun _ _ _ h => h) (Or.inl ⟨by rfl, ?_⟩) ?_ ?_
             rotate_left
             ·intro w'
              go_simp
              with_reducible rfl
             rotate_left
             ·simp only [Act.put, sT, sZ, sS, i64_w, i32_w]
              rfl
             refine pure_ (i := 4) (N := some 27) (v := ?_) (a' := ?_) (bA 23 31) rfl rfl (any_of HT_.out (by kernel_rfl)) (fun _ _ _ h => h) (Or.inl ⟨by rfl, ?_⟩) ?_ ?_
             rotate_left
             ·intro w'
              go_simp
              with_reducible rfl
             rotate_left
             ·simp only [Act.put, sT, sZ, sS, i64_w, i32_w]
              rfl
             refine pure_ (i := 5) (N := some 28) (v := ?_) (a' := ?_) (bA 23 63) rfl rfl (any_of HT_.out (by kernel_rfl)) (fun _ _ _ h => h) (Or.inl ⟨by rfl, ?_⟩) ?_ ?_
             rotate_left
             ·intro w'
              go_simp
              with_reducible rfl
             rotate_left
             ·simp only [Act.put, sT, sZ, sS, i64_w, i32_w]
              rfl
             refine pure_ (i := 6) (N := some 29) (v := ?_) (a' := ?_) (bA 23 127) rfl rfl (any_of HT_.out (by kernel_rfl)) (fun _ _ _ h => h) (Or.inl ⟨by rfl, ?_⟩) ?_ ?_
             rotate_left
             ·intro w'
              go_simp
              with_reducible rfl
             rotate_left
             ·simp only [Act.put, sT, sZ, sS, i64_w, i32_w]
              rfl
             refine pure_ (i := 8) (N := some 31) (v := ?_) (a' := ?_) (bA 23 383) rfl rfl (any_of HT_.out (by kernel_rfl)) (fun _ _ _ h => h) (Or.inl ⟨by rfl, ?_⟩) ?_ ?_
             rotate_left
             ·intro w'
              go_simp
              with_reducible rfl
             rotate_left
             ·simp only [Act.put, sT, sZ, sS, i64_w, i32_w]
              rfl
             refine take_ (i := 7) (N := some 30) (v := ?_) (a' := ?_) (bA 23 511) rfl rfl (take_ofW HT_.out HW_.out (by kernel_rfl)) (fun _ _ _ h => h) (Or.inl ⟨by rfl, ?_⟩) hHeld ?_ ?_
             rotate_left
             ·rintro w' ⟨s0, s1, s2, s3, s4, s5, s6, s7, s8⟩
              go_simp
              with_reducible rfl
             rotate_left
             ·simp only [Act.put, sT, sZ, sS, i64_w, i32_w]
              rfl
             refine take_ (i := 9) (N := some 32) (v := ?_) (a' := ?_) (bA 23 1023) rfl rfl (take_ofW HT_.out HW_.out (by kernel_rfl)) (fun _ _ _ h => h) (Or.inl ⟨by rfl, ?_⟩) hHeld ?_ ?_
             rotate_left
             ·rintro w' ⟨s0, s1, s2, s3, s4, s5, s6, s7, s8⟩
              go_simp
              with_reducible rfl
             rotate_left
             ·simp only [Act.put, sT, sZ, sS, i64_w, i32_w]
              rfl
             refine pure_ (i := 10) (N := some 33) (v := ?_) (a' := ?_) (bA 23 2047) rfl rfl (any_of HT_.out (by kernel_rfl)) (fun _ _ _ h => h) (Or.inl ⟨by rfl, ?_⟩) ?_ ?_
             rotate_left
             ·intro w'
              go_simp
              with_reducible rfl
             rotate_left
             ·simp only [Act.put, sT, sZ, sS, i64_w, i32_w]
              rfl
             refine pure_ (i := 11) (N := some 34) (v := ?_) (a' := ?_) (bA 23 4095) rfl rfl (any_of HT_.out (by kernel_rfl)) (fun _ _ _ h => h) (Or.inl ⟨by rfl, ?_⟩) ?_ ?_
             rotate_left
             ·intro w'
              go_simp
              with_reducible rfl
             rotate_left
             ·simp only [Act.put, sT, sZ, sS, i64_w, i32_w]
              rfl
             refine pure_ (i := 12) (N := some 35) (v := ?_) (a' := ?_) (bA 23 8191) rfl rfl (any_of HT_.out (by kernel_rfl)) (fun _ _ _ h => h) (Or.inl ⟨by rfl, ?_⟩) ?_ ?_
             rotate_left
             ·intro w'
              go_simp
              with_reducible rfl
             rotate_left
             ·simp only [Act.put, sT, sZ, sS, i64_w, i32_w]
              rfl
             refine pure_ (i := 13) (N := some 36) (v := ?_) (a' := ?_) (bA 23 16383) rfl rfl (any_of HT_.out (by kernel_rfl)) (fun _ _ _ h => h) (Or.inl ⟨by rfl, ?_⟩) ?_ ?_
             rotate_left
             ·intro w'
              go_simp
              with_reducible rfl
             rotate_left
             ·simp only [Act.put, sT, sZ, sS, i64_w, i32_w]
              rfl
             refine pure_ (i := 15) (N := some 38) (v := ?_) (a' := ?_) (bA 23 49151) rfl rfl (any_of HT_.out (by kernel_rfl)) (fun _ _ _ h => h) (Or.inl ⟨by rfl, ?_⟩) ?_ ?_
             rotate_left
             ·intro w'
              go_simp
              with_reducible rfl
             rotate_left
             ·simp only [Act.put, sT, sZ, sS, i64_w, i32_w]
              rfl
             refine pure_ (i := 16) (N := some 39) (v := ?_) (a' := ?_) (bA 23 114687) rfl rfl (any_of HT_.out (by kernel_rfl)) (fun _ _ _ h => h) (Or.inl ⟨by rfl, ?_⟩) ?_ ?_
             rotate_left
             ·intro w'
              go_simp
              with_reducible rfl
             rotate_left
             ·simp only [Act.put, sT, sZ, sS, i64_w, i32_w]
              rfl
             refine pure_ (i := 17) (N := some 40) (v := ?_) (a' := ?_) (bA 23 245759) rfl rfl (any_of HT_.out (by kernel_rfl)) (fun _ _ _ h => h) (Or.inl ⟨by rfl, ?_⟩) ?_ ?_
             rotate_left
             ·intro w'
              go_simp
              with_reducible rfl
             rotate_left
             ·simp only [Act.put, sT, sZ, sS, i64_w, i32_w]
              rfl
             refine pure_ (i := 18) (N := some 41) (v := ?_) (a' := ?_) (bA 23 507903) rfl rfl (any_of HT_.out (by kernel_rfl)) (fun _ _ _ h => h) (Or.inl ⟨by rfl, ?_⟩) ?_ ?_
             rotate_left
             ·intro w'
              go_simp
              with_reducible rfl
             rotate_left
             ·simp only [Act.put, sT, sZ, sS, i64_w, i32_w]
              rfl
             refine take_ (i := 14) (N := some 37) (v := ?_) (a' := ?_) (bA 23 524287) rfl rfl (take_ofW HT_.out HW_.out (by kernel_rfl)) (fun _ _ _ h => h) (Or.inl ⟨by rfl, ?_⟩) hHeld ?_ ?_
             rotate_left
             ·rintro w' ⟨s0, s1, s2, s3, s4, s5, s6, s7, s8⟩
              go_simp
              with_reducible rfl
             rotate_left
             ·simp only [Act.put, sT, sZ, sS, i64_w, i32_w]
              rfl
             refine take_ (i := 19) (N := some 42) (v := ?_) (a' := ?_) (bA 23 1048575) rfl rfl (take_ofW HT_.out HW_.out (by kernel_rfl)) (fun _ _ _ h => h) (Or.inl ⟨by rfl, ?_⟩) hHeld ?_ ?_
             rotate_left
             ·rintro w' ⟨s0, s1, s2, s3, s4, s5, s6, s7, s8⟩
              go_simp
              with_reducible rfl
             rotate_left
             ·simp only [Act.put, sT, sZ, sS, i64_w, i32_w]
              rfl
             refine pure_ (i := 20) (N := some 43) (v := ?_) (a' := ?_) (bA 23 2097151) rfl rfl (any_of HT_.out (by kernel_rfl)) (fun _ _ _ h => h) (Or.inl ⟨by rfl, ?_⟩) ?_ ?_
             rotate_left
             ·intro w'
              go_simp
              with_reducible rfl
             rotate_left
             ·simp only [Act.put, sT, sZ, sS, i64_w, i32_w]
              rfl
             refine pure_ (i := 21) (N := some 44) (v := ?_) (a' := ?_) (bA 23 4194303) rfl rfl (any_of HT_.out (by kernel_rfl)) (fun _ _ _ h => h) (Or.inl ⟨by rfl, ?_⟩) ?_ ?_
             rotate_left
             ·intro w'
              go_simp
              with_reducible rfl
             rotate_left
             ·simp only [Act.put, sT, sZ, sS, i64_w, i32_w]
              rfl
             refine pure_ (i := 22) (N := some 45) (v := ?_) (a' := ?_) (bA 23 8388607) rfl rfl (any_of HT_.out (by kernel_rfl)) (fun _ _ _ h => h) (Or.inl ⟨by rfl, ?_⟩) ?_ ?_
             rotate_left
             ·intro w'
              go_simp
              with_reducible rfl
             rotate_left
             ·simp only [Act.put, sT, sZ, sS, i64_w, i32_w]
              rfl
             refine done_ (done_of HT_.out (by kernel_rfl)) ?_
             have hcz35_0 : w34.cell? ⟨gb172, 0, none⟩ = some (.string ((rd_T27 x14_1 x16_1).f0)) := (blk_cell BK172.out 0).trans rfl
             have hcz35_1 : w34.cell? ⟨gb172, 1, none⟩ = some (.int .i64 ((rd_T27 x14_1 x16_1).f1)) := (blk_cell BK172.out 1).trans rfl
             have hcz35_2 : w34.cell? ⟨gb172, 2, none⟩ = some (.int .i64 ((rd_T27 x14_1 x16_1).f2)) := (blk_cell BK172.out 2).trans rfl
             have hfz35_0 := blk_frozen BK172.out 0
             have hfz35_1 := blk_frozen BK172.out 1
             have hfz35_2 := blk_frozen BK172.out 2
             try go_wp2_with (first | ((with_reducible refine gate_builtin (b := .append) (xs := #[.tmp 58, .tmp 60]) rfl ?_); at_builtin; refine Kd.R_append k27 (w0 := w) w.heap.size rfl (.tmp 58) (.tmp 60) 33 27 (.agg #[(.string ⟨#[]⟩), (.int .i64 0), (.int .i64 0)]) 32 rfl Tryd.underlying33 info27 rfl (by decide) (by omega) (.slice (some ad173) x4_1.length co32) x4_1 (⟨(rd_T27 x14_1 x16_1).f0, (rd_T27 x14_1 x16_1).f1, (rd_T27 x14_1 x16_1).f2⟩ : S27) [.string ((rd_T27 x14_1 x16_1).f0), .int .i64 ((rd_T27 x14_1 x16_1).f1), .int .i64 ((rd_T27 x14_1 x16_1).f2)] (fun k_ => some k_ ≠ (.slice (some ad171) x14_1.length co9 : Value).ownBlock ∧ k_ ≠ gb172) (fun _ => False) rfl rfl ?aP (fun _ hk => hk.elim) ?aF ?aO ?aB ?aS ?aL ?_; (case aP => exact k27_mkM _ _ _ (⟨(rd_T27 x14_1 x16_1).f0, (rd_T27 x14_1 x16_1).f1, (rd_T27 x14_1 x16_1).f2⟩ : S27)); (case aB => exact (by repeat (first | (with_reducible first | exact HB.out | apply below_alloc | apply pw_below_drewN | apply below_drew1 | refine below_set ?_ GE172.out) | exact HB.out))); (case aF => exact (fun k_ hk => ⟨Kd.fresh' (Kd.R_lt (by (with_reducible repeat (first | apply Kd.R_alloc | apply Kd.R_drewN | apply Kd.R_drew)); exact HO_14.out)) k_ hk, Kd.freshB (g := gb172) (o := .cells #[.string ((rd_T27 x14_1 x16_1).f0), .int .i64 ((rd_T27 x14_1 x16_1).f1), .int .i64 ((rd_T27 x14_1 x16_1).f2)] 27 (0, 0)) (by (with_reducible repeat (first | refine blk_drewN ?_ _ | refine blk_drew ?_ | refine blk_alloc ?_ _)); exact BK172.out) k_ hk⟩)); (case aO => exact (by (with_reducible repeat (first | apply Kd.R_alloc | apply Kd.R_drewN | apply Kd.R_drew)); exact HO_4.out)); (case aS => exact (below_size (by repeat (first | (with_reducible first | exact HB.out | apply below_alloc | apply pw_below_drewN | apply below_drew1 | refine below_set ?_ GE172.out) | exact HB.out)))); (case aL => have := LMc29.out; omega); intro v178 w36 ho hb hg hat; rw [← Ny177.out] at ho; have n0_ := AM (Kd.R_after (ok := (fun k_ => k_ ≠ gb172)) (by (with_reducible repeat (first | apply Kd.R_alloc | apply Kd.R_drewN | apply Kd.R_drew)); exact Kd.R_mono HO_14.out (fun _ hk => ⟨hk.2, hk.1⟩)) hg hat); have n1_ := AM (blk_grown (g := gb172) (o := .cells #[.string ((rd_T27 x14_1 x16_1).f0), .int .i64 ((rd_T27 x14_1 x16_1).f1), .int .i64 ((rd_T27 x14_1 x16_1).f2)] 27 (0, 0)) (by (with_reducible repeat (first | refine blk_drewN ?_ _ | refine blk_drew ?_ | refine blk_alloc ?_ _)); exact BK172.out) hg (Kd.R_away HO_4.out (fun _ hk => hk.2))); have n2_ := AM (hb); have n3_ := AM (ho); clear HO_14; clear BK172; clear HB; clear HO_4; have HO_14 := n0_; have BK172 := n1_; have HB := n2_; have HO179 := n3_; clear n0_ n1_ n2_ n3_; clear ho hb hg hat))
             (try simp only [← hl14_1])
             go_roundg k1
             case measure => have := HK1.out; omega
             case rel => exact ⟨(y177), (x14_1), (wrap64 (x16_1 + 1)), (by first | rfl | (simp; done) | (simp [*]; done)), H', ⟨by have := HK1.out; omega⟩, ⟨by (try simp only [hl14_1]); (with_reducible repeat (first | apply Kd.R_alloc | apply Kd.R_drewN | apply Kd.R_drew)); exact Kd.R_mono HO179.out (fun _ hk => hk.1)⟩, ⟨by (try simp only [hl14_1]); (with_reducible repeat (first | apply Kd.R_alloc | apply Kd.R_drewN | apply Kd.R_drew)); exact Kd.R_mono HO_14.out (fun _ hk => hk.2)⟩, ⟨by repeat (first | (with_reducible first | exact HB.out | apply below_alloc | apply pw_below_drewN | apply below_drew1 | refine below_set ?_ GE172.out) | exact HB.out)⟩⟩
            ·rw [if_neg c29] at H
             exact absurd H (by simp)
          ·rw [if_neg c18] at H
           have c18b0 : (((rd_T27 x4_1 (ji15)).f0).toList == ((rd_T27 x14_1 x16_1).f0).toList) = false := beq_eq_false_iff_ne.mpr c18
           (try (have c18b0h := c18b0; simp only [hl14_1] at c18b0h))
           have c18b1 : (((rd_T27 x4_1 (ji15)).f0).toList != ((rd_T27 x14_1 x16_1).f0).toList) = true := bne_iff_ne.mpr c18
           (try (have c18b1h := c18b1; simp only [hl14_1] at c18b1h))
           by_cases c37 : x4_1.length < 4398046511104
           ·rw [if_pos c37] at H
            have LMc37 := AM c37
            clear c37
            obtain ⟨y180, hy180⟩ : ∃ y_ : List (S27), y_ = (x4_1 ++ [(⟨(rd_T27 x14_1 x16_1).f0, (rd_T27 x14_1 x16_1).f1, (rd_T27 x14_1 x16_1).f2⟩ : S27)]) := ⟨_, rfl⟩
            replace H : (impl_mergePages.l0 k1 y180 x14_1 (y164.length : Int) (wrap64 (x16_1 + 1))) = some r := by first | (rw [hy180]; with_reducible exact H) | (have H2_ := (Option.bind_some _ _).symm.trans H; rw [hy180]; with_reducible exact H2_) | (have H2_ := (Option.bind_some _ _).symm.trans H; with_reducible exact H2_) | with_reducible exact H | (rw [hy180]; exact H) | exact H
            have Ny180 := AM hy180
            clear hy180
            have H' := AM H
            clear H
            have p171 : 0 ≤ (x16_1 : Int) := of_decide_eq_true (by first | (with_reducible assumption) | assumption)
            have q171 : x16_1 < (x14_1.length : Int) := of_decide_eq_true (by first | (with_reducible assumption) | assumption)
            obtain ⟨ad171, e171, hx171_0, hx171_1, hx171_2⟩ := at_T27 (Kd.R_reads' HO_14.out).2.2 x16_1 p171 q171
            cases e171
            replace p171 := eq_true p171
            replace q171 := eq_true q171
            try go_wp2_with (first | ((with_reducible refine gate_dst (N := 6) rfl ?_); refine box_event ?hg (N := 6) ?hd (cs := #[.string (⟨#[]⟩ : ByteArray), .int .i64 0, .int .i64 0]) (t := 27) ?hr ?_; (case hd => rfl); (case hg => rfl); (case hr => first | (go_simp; done) | (go_simp; rfl)); intro gb172 hg w38 hbox hb; have n0_ := AM (Kd.R_below (Kd.R_elderB (by (with_reducible repeat (first | apply Kd.R_alloc | apply Kd.R_drewN | apply Kd.R_drew)); exact HO_4.out) gb172 (Nat.le_of_eq hg.symm)) hb); have n1_ := AM (Kd.R_below (Kd.R_elderB (by (with_reducible repeat (first | apply Kd.R_alloc | apply Kd.R_drewN | apply Kd.R_drew)); exact HO_14.out) gb172 (Nat.le_of_eq hg.symm)) hb); have n2_ := AM (below_step (by repeat (first | (with_reducible first | exact HB.out | apply below_alloc | apply pw_below_drewN | apply below_drew1) | exact HB.out)) hb); have n3_ := AM (hbox); have n4_ := AM ((by rw [hg]; exact (below_size (by repeat (first | (with_reducible first | exact HB.out | apply below_alloc | apply pw_below_drewN | apply below_drew1) | exact HB.out))) : w.heap.size ≤ gb172)); have n5_ := AM ((by rw [hg]; exact (below_size (by repeat (first | (with_reducible first | exact HB.out | apply below_alloc | apply pw_below_drewN | apply below_drew1) | exact HB.out))) : w.heap.size ≤ gb172)); clear HO_4; clear HO_14; clear HB; have HO_4 := n0_; have HO_14 := n1_; have HB := n2_; have BK172 := n3_; have GW172 := n4_; have GE172 := n5_; clear n0_ n1_ n2_ n3_ n4_ n5_; clear hb hbox hg; have hcz39_0 : w38.cell? ⟨gb172, 0, none⟩ = some (.string (⟨#[]⟩ : ByteArray)) := (blk_cell BK172.out 0).trans rfl; have hcz39_1 : w38.cell? ⟨gb172, 1, none⟩ = some (.int .i64 0) := (blk_cell BK172.out 1).trans rfl; have hcz39_2 : w38.cell? ⟨gb172, 2, none⟩ = some (.int .i64 0) := (blk_cell BK172.out 2).trans rfl; have hfz39_0 := blk_frozen BK172.out 0; have hfz39_1 := blk_frozen BK172.out 1; have hfz39_2 := blk_frozen BK172.out 2; obtain ⟨Ao40, co40, eo40⟩ := Kd.R_slice HO_4.out; subst eo40))
            have n0_ : Aside0 (Kd.R k27 27 (((w38.setCell ⟨gb172, 0, none⟩ (.string ((rd_T27 x14_1 x16_1).f0))).setCell ⟨gb172, 1, none⟩ (.int .i64 ((rd_T27 x14_1 x16_1).f1))).setCell ⟨gb172, 2, none⟩ (.int .i64 ((rd_T27 x14_1 x16_1).f2))) w.heap.size (fun k_ => some k_ ≠ (.slice (some ad171) x14_1.length co9 : Value).ownBlock ∧ k_ ≠ gb172) (.slice Ao40 x4_1.length co40) x4_1) := ⟨by (with_reducible repeat (first | apply Kd.R_alloc | apply Kd.R_drewN | apply Kd.R_drew)); exact Kd.R_mono (Kd.R_far (p := ⟨gb172, 2, none⟩) (Kd.R_far (p := ⟨gb172, 1, none⟩) (Kd.R_far (p := ⟨gb172, 0, none⟩) (Kd.R_mono HO_4.out (fun k_ hk => (⟨hk, hk.2⟩ : _ ∧ k_ ≠ gb172))) (fun _ hk => hk.2) (.string ((rd_T27 x14_1 x16_1).f0))) (fun _ hk => hk.2) (.int .i64 ((rd_T27 x14_1 x16_1).f1))) (fun _ hk => hk.2) (.int .i64 ((rd_T27 x14_1 x16_1).f2))) (fun _ hk => ⟨hk.1.1, hk.1.2⟩)⟩
            have n1_ : Aside0 (Kd.R k27 27 (((w38.setCell ⟨gb172, 0, none⟩ (.string ((rd_T27 x14_1 x16_1).f0))).setCell ⟨gb172, 1, none⟩ (.int .i64 ((rd_T27 x14_1 x16_1).f1))).setCell ⟨gb172, 2, none⟩ (.int .i64 ((rd_T27 x14_1 x16_1).f2))) w.heap.size (fun k_ => some k_ ≠ (.slice Ao40 x4_1.length co40 : Value).ownBlock ∧ k_ ≠ gb172) (.slice (some ad171) x14_1.length co9) x14_1) := ⟨by (with_reducible repeat (first | apply Kd.R_alloc | apply Kd.R_drewN | apply Kd.R_drew)); exact Kd.R_mono (Kd.R_far (p := ⟨gb172, 2, none⟩) (Kd.R_far (p := ⟨gb172, 1, none⟩) (Kd.R_far (p := ⟨gb172, 0, none⟩) (Kd.R_mono HO_14.out (fun k_ hk => (⟨hk, hk.2⟩ : _ ∧ k_ ≠ gb172))) (fun _ hk => hk.2) (.string ((rd_T27 x14_1 x16_1).f0))) (fun _ hk => hk.2) (.int .i64 ((rd_T27 x14_1 x16_1).f1))) (fun _ hk => hk.2) (.int .i64 ((rd_T27 x14_1 x16_1).f2))) (fun _ hk => ⟨hk.1.1, hk.1.2⟩)⟩
            have n2_ : Aside0 ((((w38.setCell ⟨gb172, 0, none⟩ (.string ((rd_T27 x14_1 x16_1).f0))).setCell ⟨gb172, 1, none⟩ (.int .i64 ((rd_T27 x14_1 x16_1).f1))).setCell ⟨gb172, 2, none⟩ (.int .i64 ((rd_T27 x14_1 x16_1).f2))).heap[gb172]? = some (.cells #[.string ((rd_T27 x14_1 x16_1).f0), .int .i64 ((rd_T27 x14_1 x16_1).f1), .int .i64 ((rd_T27 x14_1 x16_1).f2)] 27 (0, 0))) := ⟨by (with_reducible repeat (first | refine blk_drewN ?_ _ | refine blk_drew ?_ | refine blk_alloc ?_ _)); refine blk_put (cs := #[.string ((rd_T27 x14_1 x16_1).f0), .int .i64 ((rd_T27 x14_1 x16_1).f1), .int .i64 0]) ?_ 2 _ rfl; (with_reducible repeat (first | refine blk_drewN ?_ _ | refine blk_drew ?_ | refine blk_alloc ?_ _)); refine blk_put (cs := #[.string ((rd_T27 x14_1 x16_1).f0), .int .i64 0, .int .i64 0]) ?_ 1 _ rfl; (with_reducible repeat (first | refine blk_drewN ?_ _ | refine blk_drew ?_ | refine blk_alloc ?_ _)); refine blk_put (cs := #[.string (⟨#[]⟩ : ByteArray), .int .i64 0, .int .i64 0]) ?_ 0 _ rfl; (with_reducible repeat (first | refine blk_drewN ?_ _ | refine blk_drew ?_ | refine blk_alloc ?_ _)); exact BK172.out⟩
            have n3_ : Aside0 (Below w.heap.size w (((w38.setCell ⟨gb172, 0, none⟩ (.string ((rd_T27 x14_1 x16_1).f0))).setCell ⟨gb172, 1, none⟩ (.int .i64 ((rd_T27 x14_1 x16_1).f1))).setCell ⟨gb172, 2, none⟩ (.int .i64 ((rd_T27 x14_1 x16_1).f2)))) := ⟨by repeat (first | (with_reducible first | exact HB.out | apply below_alloc | apply pw_below_drewN | apply below_drew1 | refine below_set ?_ GE172.out) | exact HB.out)⟩
            (try clear HO_4)
            (try clear HO_14)
            (try clear BK172)
            (try clear HB)
            generalize (((w38.setCell ⟨gb172, 0, none⟩ (.string ((rd_T27 x14_1 x16_1).f0))).setCell ⟨gb172, 1, none⟩ (.int .i64 ((rd_T27 x14_1 x16_1).f1))).setCell ⟨gb172, 2, none⟩ (.int .i64 ((rd_T27 x14_1 x16_1).f2))) = w41 at n0_ n1_ n2_ n3_ ⊢
            have HO_4 := n0_
            have HO_14 := n1_
            have BK172 := n2_
            have HB := n3_
            clear n0_ n1_ n2_ n3_
            have n0_ := AM (Kd.R_drew HO_4.out)
            have n1_ := AM (Kd.R_drew HO_14.out)
            have n2_ := AM (blk_drew BK172.out)
            have n3_ := AM (below_drew1 HB.out)
            clear HO_4
            clear HO_14
            clear BK172
            clear HB
            have HO_4 := n0_
            have HO_14 := n1_
            have BK172 := n2_
            have HB := n3_
            clear n0_ n1_ n2_ n3_
            have p173 : 0 ≤ ((ji15) : Int) := of_decide_eq_true (by first | (with_reducible assumption) | assumption)
            have q173 : (ji15) < (x4_1.length : Int) := of_decide_eq_true (by first | (with_reducible assumption) | assumption)
            obtain ⟨ad173, e173, hx173_0, hx173_1, hx173_2⟩ := at_T27 (Kd.R_reads' HO_4.out).2.2 (ji15) p173 q173
            cases e173
            replace p173 := eq_true p173
            replace q173 := eq_true q173
            refine start_ (n := 23) (S := fun w' => w'.cell? ⟨gb172, 0, none⟩ = some (.string ((rd_T27 x14_1 x16_1).f0)) ∧ w'.cell? ⟨gb172, 1, none⟩ = some (.int .i64 ((rd_T27 x14_1 x16_1).f1)) ∧ w'.cell? ⟨gb172, 2, none⟩ = some (.int .i64 ((rd_T27 x14_1 x16_1).f2)) ∧ w'.cell? (ad173.add (((ji15)).toNat * 3)) = some (.string ((rd_T27 x4_1 (ji15)).f0)) ∧ w'.cell? ⟨(ad173.add (((ji15)).toNat * 3)).block, (ad173.add (((ji15)).toNat * 3)).off + 1, none⟩ = some (.int .i64 ((rd_T27 x4_1 (ji15)).f1)) ∧ w'.cell? ⟨(ad173.add (((ji15)).toNat * 3)).block, (ad173.add (((ji15)).toNat * 3)).off + 2, none⟩ = some (.int .i64 ((rd_T27 x4_1 (ji15)).f2))) (ds := []) (bA 23 0) (by kernel_rfl) rfl rfl ⟨(blk_cell BK172.out 0).trans rfl, (blk_cell BK172.out 1).trans rfl, (blk_cell BK172.out 2).trans rfl, hx173_0, hx173_1, hx173_2⟩ (fun hHeld => ?_); refine with_tabW impl_mergePages.tab7 impl_mergePages.bits7 (fun HT_ HW_ => ?_)
            generalize w41.drew = w42 at HO_4 HO_14 BK172 HB hx173_0 hx173_1 hx173_2 hHeld ⊢
            refine pure_ (i := 0) (N := some 23) (v := ?_) (a' := ?_) (bA 23 1) rfl rfl (any_of HT_.out (by kernel_rfl)) (fun _ _ _ h => h) (Or.inl ⟨by rfl, ?_⟩) ?_ ?_
            rotate_left
            ·intro w'
             go_simp
             with_reducible rfl
            rotate_left
            ·simp only [Act.put, sT, sZ, sS, i64_w, i32_w]
             rfl
            refine pure_ (i := 1) (N := some 24) (v := ?_) (a' := ?_) (bA 23 3) rfl rfl (any_of HT_.out (by kernel_rfl)) (fun _ _ _ h => h) (Or.inl ⟨by rfl, ?_⟩) ?_ ?_
            rotate_left
            ·intro w'
             go_simp
             with_reducible rfl
            rotate_left
            ·simp only [Act.put, sT, sZ, sS, i64_w, i32_w]
             rfl
            refine pure_ (i := 2) (N := some 25) (v := ?_) (a' := ?_) (bA 23 7) rfl rfl (any_of HT_.out (by kernel_rfl)) (fun _ _ _ h => h) (Or.inl ⟨by rfl, ?_⟩) ?_ ?_
            rotate_left
            ·intro w'
             go_simp
             with_reducible rfl
            rotate_left
            ·simp only [Act.put, sT, sZ, sS, i64_w, i32_w]
             rfl
            refine pure_ (i := 3) (N := some 26) (v := ?_) (a' := ?_) (bA 23 15) rfl rfl (any_of HT_.out (by kernel_rfl)) (fun _ _ _ h => h) (Or.inl ⟨by rfl, ?_⟩) ?_ ?_
            rotate_left
            ·intro w'
             go_simp
             with_reducible rfl
            rotate_left
            ·simp only [Act.put, sT, sZ, sS, i64_w, i32_w]
             rfl
            refine pure_ (i := 4) (N := some 27) (v := ?_) (a' := ?_) (bA 23 31) rfl rfl (any_of HT_.out (by kernel_rfl)) (fun _ _ _ h => h) (Or.inl ⟨by rfl, ?_⟩) ?_ ?_
            rotate_left
            ·intro w'
             go_simp
             with_reducible rfl
            rotate_left
            ·simp only [Act.put, sT, sZ, sS, i64_w, i32_w]
             rfl
            refine pure_ (i := 5) (N := some 28) (v := ?_) (a' := ?_) (bA 23 63) rfl rfl (any_of HT_.out (by kernel_rfl)) (fun _ _ _ h => h) (Or.inl ⟨by rfl, ?_⟩) ?_ ?_
            rotate_left
            ·intro w'
             go_simp
             with_reducible rfl
            rotate_left
            ·simp only [Act.put, sT, sZ, sS, i64_w, i32_w]
             rfl
            refine pure_ (i := 6) (N := some 29) (v := ?_) (a' := ?_) (bA 23 127) rfl rfl (any_of HT_.out (by kernel_rfl)) (fun _ _ _ h => h) (Or.inl ⟨by rfl, ?_⟩) ?_ ?_
            rotate_left
            ·intro w'
             go_simp
             with_reducible rfl
            rotate_left
            ·simp only [Act.put, sT, sZ, sS, i64_w, i32_w]
             rfl
            refine pure_ (i := 8) (N := some 31) (v := ?_) (a' := ?_) (bA 23 383) rfl rfl (any_of HT_.out (by kernel_rfl)) (fun _ _ _ h => h) (Or.inl ⟨by rfl, ?_⟩) ?_ ?_
            rotate_left
            ·intro w'
             go_simp
             with_reducible rfl
            rotate_left
            ·simp only [Act.put, sT, sZ, sS, i64_w, i32_w]
             rfl
            refine take_ (i := 7) (N := some 30) (v := ?_) (a' := ?_) (bA 23 511) rfl rfl (take_ofW HT_.out HW_.out (by kernel_rfl)) (fun _ _ _ h => h) (Or.inl ⟨by rfl, ?_⟩) hHeld ?_ ?_
            rotate_left
            ·rintro w' ⟨s0, s1, s2, s3, s4, s5⟩
             go_simp
             with_reducible rfl
            rotate_left
            ·simp only [Act.put, sT, sZ, sS, i64_w, i32_w]
             rfl
            refine take_ (i := 9) (N := some 32) (v := ?_) (a' := ?_) (bA 23 1023) rfl rfl (take_ofW HT_.out HW_.out (by kernel_rfl)) (fun _ _ _ h => h) (Or.inl ⟨by rfl, ?_⟩) hHeld ?_ ?_
            rotate_left
            ·rintro w' ⟨s0, s1, s2, s3, s4, s5⟩
             go_simp
             with_reducible rfl
            rotate_left
            ·simp only [Act.put, sT, sZ, sS, i64_w, i32_w]
             rfl
            refine pure_ (i := 10) (N := some 33) (v := ?_) (a' := ?_) (bA 23 2047) rfl rfl (any_of HT_.out (by kernel_rfl)) (fun _ _ _ h => h) (Or.inl ⟨by rfl, ?_⟩) ?_ ?_
            rotate_left
            ·intro w'
             go_simp
             with_reducible rfl
            rotate_left
            ·simp only [Act.put, sT, sZ, sS, i64_w, i32_w]
             rfl
            refine pure_ (i := 11) (N := some 34) (v := ?_) (a' := ?_) (bA 23 4095) rfl rfl (any_of HT_.out (by kernel_rfl)) (fun _ _ _ h => h) (Or.inl ⟨by rfl, ?_⟩) ?_ ?_
            rotate_left
            ·intro w'
             go_simp
             with_reducible rfl
            rotate_left
            ·simp only [Act.put, sT, sZ, sS, i64_w, i32_w]
             rfl
            refine pure_ (i := 12) (N := some 35) (v := ?_) (a' := ?_) (bA 23 8191) rfl rfl (any_of HT_.out (by kernel_rfl)) (fun _ _ _ h => h) (Or.inl ⟨by rfl, ?_⟩) ?_ ?_
            rotate_left
            ·intro w'
             go_simp
             with_reducible rfl
            rotate_left
            ·simp only [Act.put, sT, sZ, sS, i64_w, i32_w]
             rfl
            refine pure_ (i := 13) (N := some 36) (v := undef) (a' := ?_) (bA 23 16383) rfl rfl (any_of HT_.out (by kernel_rfl)) (fun _ _ _ h => h) (Or.inr ⟨by rfl, rfl⟩) ?_ ?_
            rotate_left
            ·simp only [Act.put, sT, sZ, sS, i64_w, i32_w]
             rfl
            refine pure_ (i := 14) (N := some 37) (v := undef) (a' := ?_) (bA 23 32767) rfl rfl (any_of HT_.out (by kernel_rfl)) (fun _ _ _ h => h) (Or.inr ⟨by rfl, rfl⟩) ?_ ?_
            rotate_left
            ·simp only [Act.put, sT, sZ, sS, i64_w, i32_w]
             rfl
            refine pure_ (i := 15) (N := some 38) (v := undef) (a' := ?_) (bA 23 65535) rfl rfl (any_of HT_.out (by kernel_rfl)) (fun _ _ _ h => h) (Or.inr ⟨by rfl, rfl⟩) ?_ ?_
            rotate_left
            ·simp only [Act.put, sT, sZ, sS, i64_w, i32_w]
             rfl
            refine pure_ (i := 16) (N := some 39) (v := undef) (a' := ?_) (bA 23 131071) rfl rfl (any_of HT_.out (by kernel_rfl)) (fun _ _ _ h => h) (Or.inr ⟨by rfl, rfl⟩) ?_ ?_
            rotate_left
            ·simp only [Act.put, sT, sZ, sS, i64_w, i32_w]
             rfl
            refine pure_ (i := 17) (N := some 40) (v := undef) (a' := ?_) (bA 23 262143) rfl rfl (any_of HT_.out (by kernel_rfl)) (fun _ _ _ h => h) (Or.inr ⟨by rfl, rfl⟩) ?_ ?_
            rotate_left
            ·simp only [Act.put, sT, sZ, sS, i64_w, i32_w]
             rfl
            refine pure_ (i := 18) (N := some 41) (v := undef) (a' := ?_) (bA 23 524287) rfl rfl (any_of HT_.out (by kernel_rfl)) (fun _ _ _ h => h) (Or.inr ⟨by rfl, rfl⟩) ?_ ?_
            rotate_left
            ·simp only [Act.put, sT, sZ, sS, i64_w, i32_w]
             rfl
            refine pure_ (i := 19) (N := some 42) (v := undef) (a' := ?_) (bA 23 1048575) rfl rfl (any_of HT_.out (by kernel_rfl)) (fun _ _ _ h => h) (Or.inr ⟨by rfl, rfl⟩) ?_ ?_
            rotate_left
            ·simp only [Act.put, sT, sZ, sS, i64_w, i32_w]
             rfl
            refine pure_ (i := 20) (N := some 43) (v := undef) (a' := ?_) (bA 23 2097151) rfl rfl (any_of HT_.out (by kernel_rfl)) (fun _ _ _ h => h) (Or.inr ⟨by rfl, rfl⟩) ?_ ?_
            rotate_left
            ·simp only [Act.put, sT, sZ, sS, i64_w, i32_w]
             rfl
            refine pure_ (i := 21) (N := some 44) (v := undef) (a' := ?_) (bA 23 4194303) rfl rfl (any_of HT_.out (by kernel_rfl)) (fun _ _ _ h => h) (Or.inr ⟨by rfl, rfl⟩) ?_ ?_
            rotate_left
            ·simp only [Act.put, sT, sZ, sS, i64_w, i32_w]
             rfl
            refine pure_ (i := 22) (N := some 45) (v := ?_) (a' := ?_) (bA 23 8388607) rfl rfl (any_of HT_.out (by kernel_rfl)) (fun _ _ _ h => h) (Or.inl ⟨by rfl, ?_⟩) ?_ ?_
            rotate_left
            ·intro w'
             go_simp
             with_reducible rfl
            rotate_left
            ·simp only [Act.put, sT, sZ, sS, i64_w, i32_w]
             rfl
            refine done_ (done_of HT_.out (by kernel_rfl)) ?_
            have hcz43_0 : w42.cell? ⟨gb172, 0, none⟩ = some (.string ((rd_T27 x14_1 x16_1).f0)) := (blk_cell BK172.out 0).trans rfl
            have hcz43_1 : w42.cell? ⟨gb172, 1, none⟩ = some (.int .i64 ((rd_T27 x14_1 x16_1).f1)) := (blk_cell BK172.out 1).trans rfl
            have hcz43_2 : w42.cell? ⟨gb172, 2, none⟩ = some (.int .i64 ((rd_T27 x14_1 x16_1).f2)) := (blk_cell BK172.out 2).trans rfl
            have hfz43_0 := blk_frozen BK172.out 0
            have hfz43_1 := blk_frozen BK172.out 1
            have hfz43_2 := blk_frozen BK172.out 2
            try go_wp2_with (first | ((with_reducible refine gate_builtin (b := .append) (xs := #[.tmp 58, .tmp 60]) rfl ?_); at_builtin; refine Kd.R_append k27 (w0 := w) w.heap.size rfl (.tmp 58) (.tmp 60) 33 27 (.agg #[(.string ⟨#[]⟩), (.int .i64 0), (.int .i64 0)]) 32 rfl Tryd.underlying33 info27 rfl (by decide) (by omega) (.slice (some ad173) x4_1.length co40) x4_1 (⟨(rd_T27 x14_1 x16_1).f0, (rd_T27 x14_1 x16_1).f1, (rd_T27 x14_1 x16_1).f2⟩ : S27) [.string ((rd_T27 x14_1 x16_1).f0), .int .i64 ((rd_T27 x14_1 x16_1).f1), .int .i64 ((rd_T27 x14_1 x16_1).f2)] (fun k_ => some k_ ≠ (.slice (some ad171) x14_1.length co9 : Value).ownBlock ∧ k_ ≠ gb172) (fun _ => False) rfl rfl ?aP (fun _ hk => hk.elim) ?aF ?aO ?aB ?aS ?aL ?_; (case aP => exact k27_mkM _ _ _ (⟨(rd_T27 x14_1 x16_1).f0, (rd_T27 x14_1 x16_1).f1, (rd_T27 x14_1 x16_1).f2⟩ : S27)); (case aB => exact (by repeat (first | (with_reducible first | exact HB.out | apply below_alloc | apply pw_below_drewN | apply below_drew1 | refine below_set ?_ GE172.out) | exact HB.out))); (case aF => exact (fun k_ hk => ⟨Kd.fresh' (Kd.R_lt (by (with_reducible repeat (first | apply Kd.R_alloc | apply Kd.R_drewN | apply Kd.R_drew)); exact HO_14.out)) k_ hk, Kd.freshB (g := gb172) (o := .cells #[.string ((rd_T27 x14_1 x16_1).f0), .int .i64 ((rd_T27 x14_1 x16_1).f1), .int .i64 ((rd_T27 x14_1 x16_1).f2)] 27 (0, 0)) (by (with_reducible repeat (first | refine blk_drewN ?_ _ | refine blk_drew ?_ | refine blk_alloc ?_ _)); exact BK172.out) k_ hk⟩)); (case aO => exact (by (with_reducible repeat (first | apply Kd.R_alloc | apply Kd.R_drewN | apply Kd.R_drew)); exact HO_4.out)); (case aS => exact (below_size (by repeat (first | (with_reducible first | exact HB.out | apply below_alloc | apply pw_below_drewN | apply below_drew1 | refine below_set ?_ GE172.out) | exact HB.out)))); (case aL => have := LMc37.out; omega); intro v181 w44 ho hb hg hat; rw [← Ny180.out] at ho; have n0_ := AM (Kd.R_after (ok := (fun k_ => k_ ≠ gb172)) (by (with_reducible repeat (first | apply Kd.R_alloc | apply Kd.R_drewN | apply Kd.R_drew)); exact Kd.R_mono HO_14.out (fun _ hk => ⟨hk.2, hk.1⟩)) hg hat); have n1_ := AM (blk_grown (g := gb172) (o := .cells #[.string ((rd_T27 x14_1 x16_1).f0), .int .i64 ((rd_T27 x14_1 x16_1).f1), .int .i64 ((rd_T27 x14_1 x16_1).f2)] 27 (0, 0)) (by (with_reducible repeat (first | refine blk_drewN ?_ _ | refine blk_drew ?_ | refine blk_alloc ?_ _)); exact BK172.out) hg (Kd.R_away HO_4.out (fun _ hk => hk.2))); have n2_ := AM (hb); have n3_ := AM (ho); clear HO_14; clear BK172; clear HB; clear HO_4; have HO_14 := n0_; have BK172 := n1_; have HB := n2_; have HO182 := n3_; clear n0_ n1_ n2_ n3_; clear ho hb hg hat))
            (try simp only [← hl14_1])
            go_roundg k1
            case measure => have := HK1.out; omega
            case rel => exact ⟨(y180), (x14_1), (wrap64 (x16_1 + 1)), (by first | rfl | (simp; done) | (simp [*]; done)), H', ⟨by have := HK1.out; omega⟩, ⟨by (try simp only [hl14_1]); (with_reducible repeat (first | apply Kd.R_alloc | apply Kd.R_drewN | apply Kd.R_drew)); exact Kd.R_mono HO182.out (fun _ hk => hk.1)⟩, ⟨by (try simp only [hl14_1]); (with_reducible repeat (first | apply Kd.R_alloc | apply Kd.R_drewN | apply Kd.R_drew)); exact Kd.R_mono HO_14.out (fun _ hk => hk.2)⟩, ⟨by repeat (first | (with_reducible first | exact HB.out | apply below_alloc | apply pw_below_drewN | apply below_drew1 | refine below_set ?_ GE172.out) | exact HB.out)⟩⟩
           ·rw [if_neg c37] at H
            exact absurd H (by simp)
         ·rw [if_neg c17] at H
          exact absurd H (by simp)
        ·rw [if_neg c16] at H
         exact absurd H (by simp)
       ·rw [if_neg c14] at H
        have c14b0 : decide (0 ≤ (wrap64 ((x4_1.length : Int) - 1))) = false := decide_eq_false c14
        (try (have c14b0h := c14b0; simp only [hl14_1] at c14b0h))
        clear c14
        by_cases c45 : x4_1.length < 4398046511104
        ·rw [if_pos c45] at H
         have LMc45 := AM c45
         clear c45
         obtain ⟨y183, hy183⟩ : ∃ y_ : List (S27), y_ = (x4_1 ++ [(⟨(rd_T27 x14_1 x16_1).f0, (rd_T27 x14_1 x16_1).f1, (rd_T27 x14_1 x16_1).f2⟩ : S27)]) := ⟨_, rfl⟩
         replace H : (impl_mergePages.l0 k1 y183 x14_1 (y164.length : Int) (wrap64 (x16_1 + 1))) = some r := by first | (rw [hy183]; with_reducible exact H) | (have H2_ := (Option.bind_some _ _).symm.trans H; rw [hy183]; with_reducible exact H2_) | (have H2_ := (Option.bind_some _ _).symm.trans H; with_reducible exact H2_) | with_reducible exact H | (rw [hy183]; exact H) | exact H
         have Ny183 := AM hy183
         clear hy183
         have H' := AM H
         clear H
         have p171 : 0 ≤ (x16_1 : Int) := of_decide_eq_true (by first | (with_reducible assumption) | assumption)
         have q171 : x16_1 < (x14_1.length : Int) := of_decide_eq_true (by first | (with_reducible assumption) | assumption)
         obtain ⟨ad171, e171, hx171_0, hx171_1, hx171_2⟩ := at_T27 (Kd.R_reads' HO_14.out).2.2 x16_1 p171 q171
         cases e171
         replace p171 := eq_true p171
         replace q171 := eq_true q171
         try go_wp2_with (first | ((with_reducible refine gate_dst (N := 6) rfl ?_); refine box_event ?hg (N := 6) ?hd (cs := #[.string (⟨#[]⟩ : ByteArray), .int .i64 0, .int .i64 0]) (t := 27) ?hr ?_; (case hd => rfl); (case hg => rfl); (case hr => first | (go_simp; done) | (go_simp; rfl)); intro gb172 hg w46 hbox hb; have n0_ := AM (Kd.R_below (Kd.R_elderB (by (with_reducible repeat (first | apply Kd.R_alloc | apply Kd.R_drewN | apply Kd.R_drew)); exact HO_4.out) gb172 (Nat.le_of_eq hg.symm)) hb); have n1_ := AM (Kd.R_below (Kd.R_elderB (by (with_reducible repeat (first | apply Kd.R_alloc | apply Kd.R_drewN | apply Kd.R_drew)); exact HO_14.out) gb172 (Nat.le_of_eq hg.symm)) hb); have n2_ := AM (below_step (by repeat (first | (with_reducible first | exact HB.out | apply below_alloc | apply pw_below_drewN | apply below_drew1) | exact HB.out)) hb); have n3_ := AM (hbox); have n4_ := AM ((by rw [hg]; exact (below_size (by repeat (first | (with_reducible first | exact HB.out | apply below_alloc | apply pw_below_drewN | apply below_drew1) | exact HB.out))) : w.heap.size ≤ gb172)); have n5_ := AM ((by rw [hg]; exact (below_size (by repeat (first | (with_reducible first | exact HB.out | apply below_alloc | apply pw_below_drewN | apply below_drew1) | exact HB.out))) : w.heap.size ≤ gb172)); clear HO_4; clear HO_14; clear HB; have HO_4 := n0_; have HO_14 := n1_; have HB := n2_; have BK172 := n3_; have GW172 := n4_; have GE172 := n5_; clear n0_ n1_ n2_ n3_ n4_ n5_; clear hb hbox hg; have hcz47_0 : w46.cell? ⟨gb172, 0, none⟩ = some (.string (⟨#[]⟩ : ByteArray)) := (blk_cell BK172.out 0).trans rfl; have hcz47_1 : w46.cell? ⟨gb172, 1, none⟩ = some (.int .i64 0) := (blk_cell BK172.out 1).trans rfl; have hcz47_2 : w46.cell? ⟨gb172, 2, none⟩ = some (.int .i64 0) := (blk_cell BK172.out 2).trans rfl; have hfz47_0 := blk_frozen BK172.out 0; have hfz47_1 := blk_frozen BK172.out 1; have hfz47_2 := blk_frozen BK172.out 2; obtain ⟨Ao48, co48, eo48⟩ := Kd.R_slice HO_4.out; subst eo48))
         have n0_ : Aside0 (Kd.R k27 27 (((w46.setCell ⟨gb172, 0, none⟩ (.string ((rd_T27 x14_1 x16_1).f0))).setCell ⟨gb172, 1, none⟩ (.int .i64 ((rd_T27 x14_1 x16_1).f1))).setCell ⟨gb172, 2, none⟩ (.int .i64 ((rd_T27 x14_1 x16_1).f2))) w.heap.size (fun k_ => some k_ ≠ (.slice (some ad171) x14_1.length co9 : Value).ownBlock ∧ k_ ≠ gb172) (.slice Ao48 x4_1.length co48) x4_1) := ⟨by (with_reducible repeat (first | apply Kd.R_alloc | apply Kd.R_drewN | apply Kd.R_drew)); exact Kd.R_mono (Kd.R_far (p := ⟨gb172, 2, none⟩) (Kd.R_far (p := ⟨gb172, 1, none⟩) (Kd.R_far (p := ⟨gb172, 0, none⟩) (Kd.R_mono HO_4.out (fun k_ hk => (⟨hk, hk.2⟩ : _ ∧ k_ ≠ gb172))) (fun _ hk => hk.2) (.string ((rd_T27 x14_1 x16_1).f0))) (fun _ hk => hk.2) (.int .i64 ((rd_T27 x14_1 x16_1).f1))) (fun _ hk => hk.2) (.int .i64 ((rd_T27 x14_1 x16_1).f2))) (fun _ hk => ⟨hk.1.1, hk.1.2⟩)⟩
         have n1_ : Aside0 (Kd.R k27 27 (((w46.setCell ⟨gb172, 0, none⟩ (.string ((rd_T27 x14_1 x16_1).f0))).setCell ⟨gb172, 1, none⟩ (.int .i64 ((rd_T27 x14_1 x16_1).f1))).setCell ⟨gb172, 2, none⟩ (.int .i64 ((rd_T27 x14_1 x16_1).f2))) w.heap.size (fun k_ => some k_ ≠ (.slice Ao48 x4_1.length co48 : Value).ownBlock ∧ k_ ≠ gb172) (.slice (some ad171) x14_1.length co9) x14_1) := ⟨by (with_reducible repeat (first | apply Kd.R_alloc | apply Kd.R_drewN | apply Kd.R_drew)); exact Kd.R_mono (Kd.R_far (p := ⟨gb172, 2, none⟩) (Kd.R_far (p := ⟨gb172, 1, none⟩) (Kd.R_far (p := ⟨gb172, 0, none⟩) (Kd.R_mono HO_14.out (fun k_ hk => (⟨hk, hk.2⟩ : _ ∧ k_ ≠ gb172))) (fun _ hk => hk.2) (.string ((rd_T27 x14_1 x16_1).f0))) (fun _ hk => hk.2) (.int .i64 ((rd_T27 x14_1 x16_1).f1))) (fun _ hk => hk.2) (.int .i64 ((rd_T27 x14_1 x16_1).f2))) (fun _ hk => ⟨hk.1.1, hk.1.2⟩)⟩
         have n2_ : Aside0 ((((w46.setCell ⟨gb172, 0, none⟩ (.string ((rd_T27 x14_1 x16_1).f0))).setCell ⟨gb172, 1, none⟩ (.int .i64 ((rd_T27 x14_1 x16_1).f1))).setCell ⟨gb172, 2, none⟩ (.int .i64 ((rd_T27 x14_1 x16_1).f2))).heap[gb172]? = some (.cells #[.string ((rd_T27 x14_1 x16_1).f0), .int .i64 ((rd_T27 x14_1 x16_1).f1), .int .i64 ((rd_T27 x14_1 x16_1).f2)] 27 (0, 0))) := ⟨by (with_reducible repeat (first | refine blk_drewN ?_ _ | refine blk_drew ?_ | refine blk_alloc ?_ _)); refine blk_put (cs := #[.string ((rd_T27 x14_1 x16_1).f0), .int .i64 ((rd_T27 x14_1 x16_1).f1), .int .i64 0]) ?_ 2 _ rfl; (with_reducible repeat (first | refine blk_drewN ?_ _ | refine blk_drew ?_ | refine blk_alloc ?_ _)); refine blk_put (cs := #[.string ((rd_T27 x14_1 x16_1).f0), .int .i64 0, .int .i64 0]) ?_ 1 _ rfl; (with_reducible repeat (first | refine blk_drewN ?_ _ | refine blk_drew ?_ | refine blk_alloc ?_ _)); refine blk_put (cs := #[.string (⟨#[]⟩ : ByteArray), .int .i64 0, .int .i64 0]) ?_ 0 _ rfl; (with_reducible repeat (first | refine blk_drewN ?_ _ | refine blk_drew ?_ | refine blk_alloc ?_ _)); exact BK172.out⟩
         have n3_ : Aside0 (Below w.heap.size w (((w46.setCell ⟨gb172, 0, none⟩ (.string ((rd_T27 x14_1 x16_1).f0))).setCell ⟨gb172, 1, none⟩ (.int .i64 ((rd_T27 x14_1 x16_1).f1))).setCell ⟨gb172, 2, none⟩ (.int .i64 ((rd_T27 x14_1 x16_1).f2)))) := ⟨by repeat (first | (with_reducible first | exact HB.out | apply below_alloc | apply pw_below_drewN | apply below_drew1 | refine below_set ?_ GE172.out) | exact HB.out)⟩
         (try clear HO_4)
         (try clear HO_14)
         (try clear BK172)
         (try clear HB)
         generalize (((w46.setCell ⟨gb172, 0, none⟩ (.string ((rd_T27 x14_1 x16_1).f0))).setCell ⟨gb172, 1, none⟩ (.int .i64 ((rd_T27 x14_1 x16_1).f1))).setCell ⟨gb172, 2, none⟩ (.int .i64 ((rd_T27 x14_1 x16_1).f2))) = w49 at n0_ n1_ n2_ n3_ ⊢
         have HO_4 := n0_
         have HO_14 := n1_
         have BK172 := n2_
         have HB := n3_
         clear n0_ n1_ n2_ n3_
         have n0_ := AM (Kd.R_drew HO_4.out)
         have n1_ := AM (Kd.R_drew HO_14.out)
         have n2_ := AM (blk_drew BK172.out)
         have n3_ := AM (below_drew1 HB.out)
         clear HO_4
         clear HO_14
         clear BK172
         clear HB
         have HO_4 := n0_
         have HO_14 := n1_
         have BK172 := n2_
         have HB := n3_
         clear n0_ n1_ n2_ n3_
         refine start_ (n := 23) (S := fun w' => True) (ds := []) (bA 23 0) (by kernel_rfl) rfl rfl trivial (fun hHeld => ?_); refine with_tabW impl_mergePages.tab7 impl_mergePages.bits7 (fun HT_ HW_ => ?_)
         generalize w49.drew = w50 at HO_4 HO_14 BK172 HB hHeld ⊢
         refine pure_ (i := 0) (N := some 23) (v := ?_) (a' := ?_) (bA 23 1) rfl rfl (any_of HT_.out (by kernel_rfl)) (fun _ _ _ h => h) (Or.inl ⟨by rfl, ?_⟩) ?_ ?_
         rotate_left
         ·intro w'
          go_simp
          with_reducible rfl
         rotate_left
         ·simp only [Act.put, sT, sZ, sS, i64_w, i32_w]
          rfl
         refine pure_ (i := 1) (N := some 24) (v := ?_) (a' := ?_) (bA 23 3) rfl rfl (any_of HT_.out (by kernel_rfl)) (fun _ _ _ h => h) (Or.inl ⟨by rfl, ?_⟩) ?_ ?_
         rotate_left
         ·intro w'
          go_simp
          with_reducible rfl
         rotate_left
         ·simp only [Act.put, sT, sZ, sS, i64_w, i32_w]
          rfl
         refine pure_ (i := 2) (N := some 25) (v := ?_) (a' := ?_) (bA 23 7) rfl rfl (any_of HT_.out (by kernel_rfl)) (fun _ _ _ h => h) (Or.inl ⟨by rfl, ?_⟩) ?_ ?_
         rotate_left
         ·intro w'
          go_simp
          with_reducible rfl
         rotate_left
         ·simp only [Act.put, sT, sZ, sS, i64_w, i32_w]
          rfl
         refine pure_ (i := 3) (N := some 26) (v := undef) (a' := ?_) (bA 23 15) rfl rfl (any_of HT_.out (by kernel_rfl)) (fun _ _ _ h => h) (Or.inr ⟨by rfl, rfl⟩) ?_ ?_
         rotate_left
         ·simp only [Act.put, sT, sZ, sS, i64_w, i32_w]
          rfl
         refine pure_ (i := 4) (N := some 27) (v := undef) (a' := ?_) (bA 23 31) rfl rfl (any_of HT_.out (by kernel_rfl)) (fun _ _ _ h => h) (Or.inr ⟨by rfl, rfl⟩) ?_ ?_
         rotate_left
         ·simp only [Act.put, sT, sZ, sS, i64_w, i32_w]
          rfl
         refine pure_ (i := 5) (N := some 28) (v := undef) (a' := ?_) (bA 23 63) rfl rfl (any_of HT_.out (by kernel_rfl)) (fun _ _ _ h => h) (Or.inr ⟨by rfl, rfl⟩) ?_ ?_
         rotate_left
         ·simp only [Act.put, sT, sZ, sS, i64_w, i32_w]
          rfl
         refine pure_ (i := 6) (N := some 29) (v := undef) (a' := ?_) (bA 23 127) rfl rfl (any_of HT_.out (by kernel_rfl)) (fun _ _ _ h => h) (Or.inr ⟨by rfl, rfl⟩) ?_ ?_
         rotate_left
         ·simp only [Act.put, sT, sZ, sS, i64_w, i32_w]
          rfl
         refine pure_ (i := 7) (N := some 30) (v := undef) (a' := ?_) (bA 23 255) rfl rfl (any_of HT_.out (by kernel_rfl)) (fun _ _ _ h => h) (Or.inr ⟨by rfl, rfl⟩) ?_ ?_
         rotate_left
         ·simp only [Act.put, sT, sZ, sS, i64_w, i32_w]
          rfl
         refine pure_ (i := 8) (N := some 31) (v := undef) (a' := ?_) (bA 23 511) rfl rfl (any_of HT_.out (by kernel_rfl)) (fun _ _ _ h => h) (Or.inr ⟨by rfl, rfl⟩) ?_ ?_
         rotate_left
         ·simp only [Act.put, sT, sZ, sS, i64_w, i32_w]
          rfl
         refine pure_ (i := 9) (N := some 32) (v := undef) (a' := ?_) (bA 23 1023) rfl rfl (any_of HT_.out (by kernel_rfl)) (fun _ _ _ h => h) (Or.inr ⟨by rfl, rfl⟩) ?_ ?_
         rotate_left
         ·simp only [Act.put, sT, sZ, sS, i64_w, i32_w]
          rfl
         refine pure_ (i := 10) (N := some 33) (v := undef) (a' := ?_) (bA 23 2047) rfl rfl (any_of HT_.out (by kernel_rfl)) (fun _ _ _ h => h) (Or.inr ⟨by rfl, rfl⟩) ?_ ?_
         rotate_left
         ·simp only [Act.put, sT, sZ, sS, i64_w, i32_w]
          rfl
         refine pure_ (i := 11) (N := some 34) (v := ?_) (a' := ?_) (bA 23 4095) rfl rfl (any_of HT_.out (by kernel_rfl)) (fun _ _ _ h => h) (Or.inl ⟨by rfl, ?_⟩) ?_ ?_
         rotate_left
         ·intro w'
          go_simp
          with_reducible rfl
         rotate_left
         ·simp only [Act.put, sT, sZ, sS, i64_w, i32_w]
          rfl
         refine pure_ (i := 12) (N := some 35) (v := ?_) (a' := ?_) (bA 23 8191) rfl rfl (any_of HT_.out (by kernel_rfl)) (fun _ _ _ h => h) (Or.inl ⟨by rfl, ?_⟩) ?_ ?_
         rotate_left
         ·intro w'
          go_simp
          with_reducible rfl
         rotate_left
         ·simp only [Act.put, sT, sZ, sS, i64_w, i32_w]
          rfl
         refine pure_ (i := 13) (N := some 36) (v := undef) (a' := ?_) (bA 23 16383) rfl rfl (any_of HT_.out (by kernel_rfl)) (fun _ _ _ h => h) (Or.inr ⟨by rfl, rfl⟩) ?_ ?_
         rotate_left
         ·simp only [Act.put, sT, sZ, sS, i64_w, i32_w]
          rfl
         refine pure_ (i := 14) (N := some 37) (v := undef) (a' := ?_) (bA 23 32767) rfl rfl (any_of HT_.out (by kernel_rfl)) (fun _ _ _ h => h) (Or.inr ⟨by rfl, rfl⟩) ?_ ?_
         rotate_left
         ·simp only [Act.put, sT, sZ, sS, i64_w, i32_w]
          rfl
         refine pure_ (i := 15) (N := some 38) (v := undef) (a' := ?_) (bA 23 65535) rfl rfl (any_of HT_.out (by kernel_rfl)) (fun _ _ _ h => h) (Or.inr ⟨by rfl, rfl⟩) ?_ ?_
         rotate_left
         ·simp only [Act.put, sT, sZ, sS, i64_w, i32_w]
          rfl
         refine pure_ (i := 16) (N := some 39) (v := undef) (a' := ?_) (bA 23 131071) rfl rfl (any_of HT_.out (by kernel_rfl)) (fun _ _ _ h => h) (Or.inr ⟨by rfl, rfl⟩) ?_ ?_
         rotate_left
         ·simp only [Act.put, sT, sZ, sS, i64_w, i32_w]
          rfl
         refine pure_ (i := 17) (N := some 40) (v := undef) (a' := ?_) (bA 23 262143) rfl rfl (any_of HT_.out (by kernel_rfl)) (fun _ _ _ h => h) (Or.inr ⟨by rfl, rfl⟩) ?_ ?_
         rotate_left
         ·simp only [Act.put, sT, sZ, sS, i64_w, i32_w]
          rfl
         refine pure_ (i := 18) (N := some 41) (v := undef) (a' := ?_) (bA 23 524287) rfl rfl (any_of HT_.out (by kernel_rfl)) (fun _ _ _ h => h) (Or.inr ⟨by rfl, rfl⟩) ?_ ?_
         rotate_left
         ·simp only [Act.put, sT, sZ, sS, i64_w, i32_w]
          rfl
         refine pure_ (i := 19) (N := some 42) (v := undef) (a' := ?_) (bA 23 1048575) rfl rfl (any_of HT_.out (by kernel_rfl)) (fun _ _ _ h => h) (Or.inr ⟨by rfl, rfl⟩) ?_ ?_
         rotate_left
         ·simp only [Act.put, sT, sZ, sS, i64_w, i32_w]
          rfl
         refine pure_ (i := 20) (N := some 43) (v := undef) (a' := ?_) (bA 23 2097151) rfl rfl (any_of HT_.out (by kernel_rfl)) (fun _ _ _ h => h) (Or.inr ⟨by rfl, rfl⟩) ?_ ?_
         rotate_left
         ·simp only [Act.put, sT, sZ, sS, i64_w, i32_w]
          rfl
         refine pure_ (i := 21) (N := some 44) (v := undef) (a' := ?_) (bA 23 4194303) rfl rfl (any_of HT_.out (by kernel_rfl)) (fun _ _ _ h => h) (Or.inr ⟨by rfl, rfl⟩) ?_ ?_
         rotate_left
         ·simp only [Act.put, sT, sZ, sS, i64_w, i32_w]
          rfl
         refine pure_ (i := 22) (N := some 45) (v := ?_) (a' := ?_) (bA 23 8388607) rfl rfl (any_of HT_.out (by kernel_rfl)) (fun _ _ _ h => h) (Or.inl ⟨by rfl, ?_⟩) ?_ ?_
         rotate_left
         ·intro w'
          go_simp
          with_reducible rfl
         rotate_left
         ·simp only [Act.put, sT, sZ, sS, i64_w, i32_w]
          rfl
         refine done_ (done_of HT_.out (by kernel_rfl)) ?_
         have hcz51_0 : w50.cell? ⟨gb172, 0, none⟩ = some (.string ((rd_T27 x14_1 x16_1).f0)) := (blk_cell BK172.out 0).trans rfl
         have hcz51_1 : w50.cell? ⟨gb172, 1, none⟩ = some (.int .i64 ((rd_T27 x14_1 x16_1).f1)) := (blk_cell BK172.out 1).trans rfl
         have hcz51_2 : w50.cell? ⟨gb172, 2, none⟩ = some (.int .i64 ((rd_T27 x14_1 x16_1).f2)) := (blk_cell BK172.out 2).trans rfl
         have hfz51_0 := blk_frozen BK172.out 0
         have hfz51_1 := blk_frozen BK172.out 1
         have hfz51_2 := blk_frozen BK172.out 2
         try go_wp2_with (first | ((with_reducible refine gate_builtin (b := .append) (xs := #[.tmp 58, .tmp 60]) rfl ?_); at_builtin; refine Kd.R_append k27 (w0 := w) w.heap.size rfl (.tmp 58) (.tmp 60) 33 27 (.agg #[(.string ⟨#[]⟩), (.int .i64 0), (.int .i64 0)]) 32 rfl Tryd.underlying33 info27 rfl (by decide) (by omega) (.slice Ao48 x4_1.length co48) x4_1 (⟨(rd_T27 x14_1 x16_1).f0, (rd_T27 x14_1 x16_1).f1, (rd_T27 x14_1 x16_1).f2⟩ : S27) [.string ((rd_T27 x14_1 x16_1).f0), .int .i64 ((rd_T27 x14_1 x16_1).f1), .int .i64 ((rd_T27 x14_1 x16_1).f2)] (fun k_ => some k_ ≠ (.slice (some ad171) x14_1.length co9 : Value).ownBlock ∧ k_ ≠ gb172) (fun _ => False) rfl rfl ?aP (fun _ hk => hk.elim) ?aF ?aO ?aB ?aS ?aL ?_; (case aP => exact k27_mkM _ _ _ (⟨(rd_T27 x14_1 x16_1).f0, (rd_T27 x14_1 x16_1).f1, (rd_T27 x14_1 x16_1).f2⟩ : S27)); (case aB => exact (by repeat (first | (with_reducible first | exact HB.out | apply below_alloc | apply pw_below_drewN | apply below_drew1 | refine below_set ?_ GE172.out) | exact HB.out))); (case aF => exact (fun k_ hk => ⟨Kd.fresh' (Kd.R_lt (by (with_reducible repeat (first | apply Kd.R_alloc | apply Kd.R_drewN | apply Kd.R_drew)); exact HO_14.out)) k_ hk, Kd.freshB (g := gb172) (o := .cells #[.string ((rd_T27 x14_1 x16_1).f0), .int .i64 ((rd_T27 x14_1 x16_1).f1), .int .i64 ((rd_T27 x14_1 x16_1).f2)] 27 (0, 0)) (by (with_reducible repeat (first | refine blk_drewN ?_ _ | refine blk_drew ?_ | refine blk_alloc ?_ _)); exact BK172.out) k_ hk⟩)); (case aO => exact (by (with_reducible repeat (first | apply Kd.R_alloc | apply Kd.R_drewN | apply Kd.R_drew)); exact HO_4.out)); (case aS => exact (below_size (by repeat (first | (with_reducible first | exact HB.out | apply below_alloc | apply pw_below_drewN | apply below_drew1 | refine below_set ?_ GE172.out) | exact HB.out)))); (case aL => have := LMc45.out; omega); intro v184 w52 ho hb hg hat; rw [← Ny183.out] at ho; have n0_ := AM (Kd.R_after (ok := (fun k_ => k_ ≠ gb172)) (by (with_reducible repeat (first | apply Kd.R_alloc | apply Kd.R_drewN | apply Kd.R_drew)); exact Kd.R_mono HO_14.out (fun _ hk => ⟨hk.2, hk.1⟩)) hg hat); have n1_ := AM (blk_grown (g := gb172) (o := .cells #[.string ((rd_T27 x14_1 x16_1).f0), .int .i64 ((rd_T27 x14_1 x16_1).f1), .int .i64 ((rd_T27 x14_1 x16_1).f2)] 27 (0, 0)) (by (with_reducible repeat (first | refine blk_drewN ?_ _ | refine blk_drew ?_ | refine blk_alloc ?_ _)); exact BK172.out) hg (Kd.R_away HO_4.out (fun _ hk => hk.2))); have n2_ := AM (hb); have n3_ := AM (ho); clear HO_14; clear BK172; clear HB; clear HO_4; have HO_14 := n0_; have BK172 := n1_; have HB := n2_; have HO185 := n3_; clear n0_ n1_ n2_ n3_; clear ho hb hg hat))
         (try simp only [← hl14_1])
         go_roundg k1
         case measure => have := HK1.out; omega
         case rel => exact ⟨(y183), (x14_1), (wrap64 (x16_1 + 1)), (by first | rfl | (simp; done) | (simp [*]; done)), H', ⟨by have := HK1.out; omega⟩, ⟨by (try simp only [hl14_1]); (with_reducible repeat (first | apply Kd.R_alloc | apply Kd.R_drewN | apply Kd.R_drew)); exact Kd.R_mono HO185.out (fun _ hk => hk.1)⟩, ⟨by (try simp only [hl14_1]); (with_reducible repeat (first | apply Kd.R_alloc | apply Kd.R_drewN | apply Kd.R_drew)); exact Kd.R_mono HO_14.out (fun _ hk => hk.2)⟩, ⟨by repeat (first | (with_reducible first | exact HB.out | apply below_alloc | apply pw_below_drewN | apply below_drew1 | refine below_set ?_ GE172.out) | exact HB.out)⟩⟩
        ·rw [if_neg c45] at H
         exact absurd H (by simp)
      ·rw [if_neg c13] at H
       exact absurd H (by simp)
     ·rw [if_neg c12] at H
      exact absurd H (by simp)
    ·rw [if_neg c11] at H
     have c11b0 : decide (x16_1 < (y164.length : Int)) = false := decide_eq_false c11
     (try (have c11b0h := c11b0; simp only [hl14_1] at c11b0h))
     clear c11
     obtain rfl := Option.some.inj H
     go_wp2
     go_ret
     exact ⟨_, by first | rfl | (simp [errW_none, errW_some] <;> rfl) | (simp [*, errW_none, errW_some] <;> rfl) | (simp [errW_none, errW_some] <;> (apply Bool.eq_iff_iff.2; simp [List.isEmpty_iff])), by (with_reducible repeat (first | apply Kd.R_alloc | apply Kd.R_drewN | apply Kd.R_drew)); exact Kd.R_mono HO_4.out (fun _ hk => trivial), by repeat (first | (with_reducible first | exact HB.out | apply below_alloc | apply pw_below_drewN | apply below_drew1) | exact HB.out)⟩
 ·rw [if_neg c2] at H
  exact absurd H (by simp)

end Go.Proofs.YtjckholdcgjdnaaDoor.Px
