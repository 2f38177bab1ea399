/- That calls of Go functions come to what the Lean functions beside them say; written by a program of this session (wip/xprint) over the printed words; no conditions. -/
import Derived.Test.YtilchcponlgmjaaDoorPx0
import Derived.Test.YtilchcponlgmjaaDoorPx2
import Derived.Test.YtilchcponlgmjaaDoorPx4
import Derived.Test.YtilchcponlgmjaaDoorPx5
import Derived.Test.YtilchcponlgmjaaDoorPx7
import Derived.Test.YtilchcponlgmjaaDoorPx11
import Derived.Test.YtilchcponlgmjaaDoorPx14
import Derived.Test.YtilchcponlgmjaaDoorPx15
namespace Go.Proofs.YtilchcponlgmjaaDoor.Px
open Go.RowKit Go.Proofs.YtilchcponlgmjaaDoorW.PrintWords Go.Proofs.YtilchcponlgmjaaDoorW.PrintLast Go.Proofs.YtilchcponlgmjaaDoorW.PrintMore
attribute [local go_sem] max2_int min2_int max_two min_two max_three min_three max_four min_four   -- for this text's walks alone
set_option linter.unusedVariables false
set_option linter.unusedSimpArgs false

/-! ### spec_SentenceCase: function 14 -/
def spec_SentenceCase.l0 : Nat → List ByteArray → List ByteArray → Int → Option (ByteArray × Bool)
  | 0, _, _, _ => none
  | k + 1, x4, x5, x6 => if x6 < (x4.length : Int) then (if 0 ≤ x6 then ((spec_l6Calm.f k (rdOf ByteArray.empty x4 x6)).bind fun t245 => ((spec_l6Starts.f x4 x6).bind fun t246 => (if t246 = true then ((spec_l6Brace.f k t245).bind fun t247 => (if t247 = true then (if x5.length < 8796093022208 then (spec_SentenceCase.l0 k x4 (x5 ++ [t245]) (wrap64 (x6 + 1))) else (none)) else ((spec_l6Raise.f k t245).bind fun t251 => (if x5.length < 8796093022208 then (spec_SentenceCase.l0 k x4 (x5 ++ [t251]) (wrap64 (x6 + 1))) else (none))))) else (if x5.length < 8796093022208 then (spec_SentenceCase.l0 k x4 (x5 ++ [t245]) (wrap64 (x6 + 1))) else (none))))) else (none)) else ((spec_l6Join.f k x5).bind fun t243 => (some (t243, true)))
def spec_SentenceCase.f (k : Nat) (a0 : ByteArray) : Option (ByteArray × Bool) := (spec_l6Good.f k a0).bind fun t236 => (if t236 = true then ((spec_l6Words.f k a0).bind fun t237 => (spec_SentenceCase.l0 k t237 (([] : List ByteArray)) 0)) else (some ((⟨#[]⟩ : ByteArray), false)))
theorem spec_SentenceCase.mono_l : ∀ k, (∀ y0 y1 y2, LeO (spec_SentenceCase.l0 k y0 y1 y2) (spec_SentenceCase.l0 (k + 1) y0 y1 y2))
  | 0 => fun _ _ _ r h => by simp [spec_SentenceCase.l0] at h
  | k + 1 => by
    have ih0 := spec_SentenceCase.mono_l k
    · intro y0 y1 y2
      unfold spec_SentenceCase.l0
      repeat' first
      | (with_reducible exact ih0 _ _ _)
      | (with_reducible exact spec_l6Brace.mono _ _)
      | (with_reducible exact spec_l6Calm.mono _ _)
      | (with_reducible exact spec_l6Good.mono _ _)
      | (with_reducible exact spec_l6Join.mono _ _)
      | (with_reducible exact spec_l6Raise.mono _ _)
      | (with_reducible exact spec_l6Words.mono _ _)
      | (with_reducible exact LeO.refl _)
      | (with_reducible exact LeO.none _)
      | (with_reducible refine LeO.ite ?_ ?_)
      | (with_reducible refine LeO.bind ?_ (fun _ => ?_))
      | exact ih0 _ _ _
      | exact spec_l6Brace.mono _ _
      | exact spec_l6Calm.mono _ _
      | exact spec_l6Good.mono _ _
      | exact spec_l6Join.mono _ _
      | exact spec_l6Raise.mono _ _
      | exact spec_l6Words.mono _ _
      | exact LeO.none _
      | refine LeO.ite ?_ ?_
      | refine LeO.bind ?_ (fun _ => ?_)
theorem spec_SentenceCase.mono : ∀ a0 k, LeO (spec_SentenceCase.f k a0) (spec_SentenceCase.f (k + 1) a0) := by
  intro a0 k
  have ih0 := spec_SentenceCase.mono_l k
  unfold spec_SentenceCase.f
  repeat' first
      | (with_reducible exact ih0 _ _ _)
      | (with_reducible exact spec_l6Brace.mono _ _)
      | (with_reducible exact spec_l6Calm.mono _ _)
      | (with_reducible exact spec_l6Good.mono _ _)
      | (with_reducible exact spec_l6Join.mono _ _)
      | (with_reducible exact spec_l6Raise.mono _ _)
      | (with_reducible exact spec_l6Words.mono _ _)
      | (with_reducible exact LeO.refl _)
      | (with_reducible exact LeO.none _)
      | (with_reducible refine LeO.ite ?_ ?_)
      | (with_reducible refine LeO.bind ?_ (fun _ => ?_))
      | exact ih0 _ _ _
      | exact spec_l6Brace.mono _ _
      | exact spec_l6Calm.mono _ _
      | exact spec_l6Good.mono _ _
      | exact spec_l6Join.mono _ _
      | exact spec_l6Raise.mono _ _
      | exact spec_l6Words.mono _ _
      | exact LeO.none _
      | refine LeO.ite ?_ ?_
      | refine LeO.bind ?_ (fun _ => ?_)
set_option maxHeartbeats 8000000 in
set_option maxRecDepth 100000 in
theorem spec_SentenceCase.calls (k : Nat) (a0 : ByteArray) (r1 : ByteArray) (r2 : Bool) (w : World) (h : spec_SentenceCase.f k a0 = some (r1, r2)) :
    Calls Tryd.prog 14 #[.string a0] w fun e w' => e = .returned (.tuple #[.string r1, .bool r2]) ∧ Below w.heap.size w w' := by
  have HB := AM (Below.refl w.heap.size w)
  have H : ((spec_l6Good.f k a0).bind fun t236 => (if t236 = true then ((spec_l6Words.f k a0).bind fun t237 => (spec_SentenceCase.l0 k t237 (([] : List ByteArray)) 0)) else (some ((⟨#[]⟩ : ByteArray), false)))) = some (r1, r2) := h
  clear h
  replace H := Option.bind_eq_some_iff.mp H
  obtain ⟨t236, A20, H⟩ := H
  replace H : (if t236 = true then ((spec_l6Words.f k a0).bind fun t237 => (spec_SentenceCase.l0 k t237 (([] : List ByteArray)) 0)) else (some ((⟨#[]⟩ : ByteArray), false))) = some (r1, r2) := H
  have A2 := AM A20
  clear A20
  by_cases c3 : t236 = true
  · subst c3
    have H1 : ((spec_l6Words.f k a0).bind fun t237 => (spec_SentenceCase.l0 k t237 (([] : List ByteArray)) 0)) = some (r1, r2) := by rw [if_pos rfl] at H; exact H
    clear H
    have H := H1
    clear H1
    replace H := Option.bind_eq_some_iff.mp H
    obtain ⟨t237, A40, H⟩ := H
    replace H : (spec_SentenceCase.l0 k t237 (([] : List ByteArray)) 0) = some (r1, r2) := H
    have A4 := AM A40
    clear A40
    obtain ⟨y240, hy240⟩ : ∃ y_ : List ByteArray, y_ = (([] : List ByteArray)) := ⟨_, rfl⟩
    replace H : (spec_SentenceCase.l0 k t237 y240 0) = some (r1, r2) := by first | (rw [hy240]; with_reducible exact H) | (have H2_ := (Option.bind_some _ _).symm.trans H; rw [hy240]; with_reducible exact H2_) | (have H2_ := (Option.bind_some _ _).symm.trans H; with_reducible exact H2_) | with_reducible exact H | (rw [hy240]; exact H) | exact H
    have Ny240 := AM hy240
    clear hy240
    have H' := AM H
    clear H
    go_enter Tryd.func14, Tryd.ntmps14
    go_wp2_with (first | ((with_reducible refine gate_callee (f := 38) rfl ?_); refine goesL_ (some 9) rfl rfl Tryd.func38 (by kernel_rfl) rfl #[.string a0] rfl (by (try simp only [List.map_toArray, List.map_cons, List.map_nil]); first | done | rfl | (simp only [List.length_drop, List.length_take]; rfl)) ?_; (with_reducible refine (spec_l6Good.calls k a0 true _ A2.out).mono ?_); rintro e w' ⟨rfl, ⟨nd, rfl⟩⟩; refine ⟨_, rfl, ?_⟩) | ((with_reducible refine gate_callee (f := 31) rfl ?_); refine goesL_ (some 12) rfl rfl Tryd.func31 (by kernel_rfl) rfl #[.string a0] rfl (by (try simp only [List.map_toArray, List.map_cons, List.map_nil]); first | done | rfl | (simp only [List.length_drop, List.length_take]; rfl)) ?_; (with_reducible refine (spec_l6Words.calls k a0 t237 _ A4.out).mono ?_); rintro e w5 ⟨v238, rfl, ho0, hb⟩; refine ⟨_, rfl, ?_⟩; have n0_ := AM (Kd.R_lower ho0 (below_size (by repeat (first | (with_reducible first | exact HB.out | apply below_alloc | apply pw_below_drewN | apply below_drew1) | exact HB.out)))); have n1_ := AM (below_step (by repeat (first | (with_reducible first | exact HB.out | apply below_alloc | apply pw_below_drewN | apply below_drew1) | exact HB.out)) hb); clear HB; have HO239 := n0_; have HB := n1_; clear n0_ n1_; (try clear hb); (try clear hb2); (try clear hk); (try clear hi); (try clear ho0)) | ((with_reducible refine gate_dst (N := 13) rfl ?_); refine Kd.R_lit Kd.string _ 9 ?hg (N := 13) ?hd (xs := ([] : List ByteArray)) (inner := []) (ok := fun _ => True) (okp := fun _ => True) ?hr ?hp (fun _ hk => hk) trivial (Below.refl _ _) (Nat.le_refl _) (by simp) ?_; (case hd => rfl); (case hg => rfl); (case hr => first | (go_simp; done) | (go_simp; rfl)); (case hp => exact (Reps.none _ _)); intro v241 w6 ho7 hb hg_ hnew_; clear hg_ hnew_; (first | rw [← Ny240.out] at ho7 | (simp only [Int.reduceToNat] at ho7; rw [← Ny240.out] at ho7)); have n0_ := AM (Kd.R_elder' (by (with_reducible repeat (first | apply Kd.R_alloc | apply Kd.R_drewN | apply Kd.R_drew)); exact HO239.out) (Kd.R_base ho7) hb); have n1_ := AM (Kd.R_lower (Kd.R_new' ho7 (Kd.R_lt (by (with_reducible repeat (first | apply Kd.R_alloc | apply Kd.R_drewN | apply Kd.R_drew)); exact HO239.out))) (below_size (by repeat (first | (with_reducible first | exact HB.out | apply below_alloc | apply pw_below_drewN | apply below_drew1) | exact HB.out)))); have n2_ := AM (below_step (by repeat (first | (with_reducible first | exact HB.out | apply below_alloc | apply pw_below_drewN | apply below_drew1) | exact HB.out)) hb); clear HO239; clear HB; have HO239 := n0_; have HO242 := n1_; have HB := n2_; clear n0_ n1_ n2_; clear hb ho7))
    go_loopg [5, 6] k (fun kq v5 v6 w' => ∃ (x5_1 : List ByteArray) (x6_1 : Int), v6 = .int .i64 x6_1 ∧ Aside0 (spec_SentenceCase.l0 kq t237 x5_1 x6_1 = some (r1, r2)) ∧ Aside0 (kq ≤ k) ∧ Aside0 (Kd.R Kd.string 9 w' w.heap.size (fun k_ => some k_ ≠ (v5 : Value).ownBlock) v238 t237) ∧ Aside0 (Kd.R Kd.string 9 w' w.heap.size (fun k_ => some k_ ≠ (v238 : Value).ownBlock) v5 x5_1) ∧ Aside0 (Below w.heap.size w w'))
    case atStart => exact ⟨(y240), (0), (by first | rfl | (simp; done) | (simp [*]; done)), H', ⟨Nat.le_refl _⟩, ⟨by (with_reducible repeat (first | apply Kd.R_alloc | apply Kd.R_drewN | apply Kd.R_drew)); exact Kd.R_mono HO239.out (fun _ hk => hk.2)⟩, ⟨by (with_reducible repeat (first | apply Kd.R_alloc | apply Kd.R_drewN | apply Kd.R_drew)); exact Kd.R_mono HO242.out (fun _ hk => hk.2)⟩, ⟨by repeat (first | (with_reducible first | exact HB.out | apply below_alloc | apply pw_below_drewN | apply below_drew1) | exact HB.out)⟩⟩
    case round =>
      clear H'
      try clear c1
      try clear p2
      try clear c3
      obtain ⟨x5_1, x6_1, rfl, HA, HK1, HO_4, HO_5, HB⟩ := hrel
      cases gk with
      | zero => exact absurd HA.out (by simp [spec_SentenceCase.l0])
      | succ k1 =>
        have H := HA.out
        clear HA
        simp only [spec_SentenceCase.l0] at H
        by_cases c8 : x6_1 < (t237.length : Int)
        · rw [if_pos c8] at H
          have c8b0 : decide (x6_1 < (t237.length : Int)) = true := decide_eq_true c8
          clear c8
          by_cases c9 : 0 ≤ x6_1
          · rw [if_pos c9] at H
            have c9b0 : decide (0 ≤ x6_1) = true := decide_eq_true c9
            clear c9
            replace H := Option.bind_eq_some_iff.mp H
            obtain ⟨t245, A100, H⟩ := H
            replace H : ((spec_l6Starts.f t237 x6_1).bind fun t246 => (if t246 = true then ((spec_l6Brace.f k1 t245).bind fun t247 => (if t247 = true then (if x5_1.length < 8796093022208 then (spec_SentenceCase.l0 k1 t237 (x5_1 ++ [t245]) (wrap64 (x6_1 + 1))) else (none)) else ((spec_l6Raise.f k1 t245).bind fun t251 => (if x5_1.length < 8796093022208 then (spec_SentenceCase.l0 k1 t237 (x5_1 ++ [t251]) (wrap64 (x6_1 + 1))) else (none))))) else (if x5_1.length < 8796093022208 then (spec_SentenceCase.l0 k1 t237 (x5_1 ++ [t245]) (wrap64 (x6_1 + 1))) else (none)))) = some (r1, r2) := H
            have A10 := AM A100
            clear A100
            replace H := Option.bind_eq_some_iff.mp H
            obtain ⟨t246, A110, H⟩ := H
            replace H : (if t246 = true then ((spec_l6Brace.f k1 t245).bind fun t247 => (if t247 = true then (if x5_1.length < 8796093022208 then (spec_SentenceCase.l0 k1 t237 (x5_1 ++ [t245]) (wrap64 (x6_1 + 1))) else (none)) else ((spec_l6Raise.f k1 t245).bind fun t251 => (if x5_1.length < 8796093022208 then (spec_SentenceCase.l0 k1 t237 (x5_1 ++ [t251]) (wrap64 (x6_1 + 1))) else (none))))) else (if x5_1.length < 8796093022208 then (spec_SentenceCase.l0 k1 t237 (x5_1 ++ [t245]) (wrap64 (x6_1 + 1))) else (none))) = some (r1, r2) := H
            have A11 := AM A110
            clear A110
            by_cases c12 : t246 = true
            · subst c12
              have H1 : ((spec_l6Brace.f k1 t245).bind fun t247 => (if t247 = true then (if x5_1.length < 8796093022208 then (spec_SentenceCase.l0 k1 t237 (x5_1 ++ [t245]) (wrap64 (x6_1 + 1))) else (none)) else ((spec_l6Raise.f k1 t245).bind fun t251 => (if x5_1.length < 8796093022208 then (spec_SentenceCase.l0 k1 t237 (x5_1 ++ [t251]) (wrap64 (x6_1 + 1))) else (none))))) = some (r1, r2) := by rw [if_pos rfl] at H; exact H
              clear H
              have H := H1
              clear H1
              replace H := Option.bind_eq_some_iff.mp H
              obtain ⟨t247, A130, H⟩ := H
              replace H : (if t247 = true then (if x5_1.length < 8796093022208 then (spec_SentenceCase.l0 k1 t237 (x5_1 ++ [t245]) (wrap64 (x6_1 + 1))) else (none)) else ((spec_l6Raise.f k1 t245).bind fun t251 => (if x5_1.length < 8796093022208 then (spec_SentenceCase.l0 k1 t237 (x5_1 ++ [t251]) (wrap64 (x6_1 + 1))) else (none)))) = some (r1, r2) := H
              have A13 := AM A130
              clear A130
              by_cases c14 : t247 = true
              · subst c14
                have H1 : (if x5_1.length < 8796093022208 then (spec_SentenceCase.l0 k1 t237 (x5_1 ++ [t245]) (wrap64 (x6_1 + 1))) else (none)) = some (r1, r2) := by rw [if_pos rfl] at H; exact H
                clear H
                have H := H1
                clear H1
                by_cases c15 : x5_1.length < 8796093022208
                · rw [if_pos c15] at H
                  have LMc15 := AM c15
                  clear c15
                  obtain ⟨y248, hy248⟩ : ∃ y_ : List ByteArray, y_ = (x5_1 ++ [t245]) := ⟨_, rfl⟩
                  replace H : (spec_SentenceCase.l0 k1 t237 y248 (wrap64 (x6_1 + 1))) = some (r1, r2) := by first | (rw [hy248]; with_reducible exact H) | (have H2_ := (Option.bind_some _ _).symm.trans H; rw [hy248]; with_reducible exact H2_) | (have H2_ := (Option.bind_some _ _).symm.trans H; with_reducible exact H2_) | with_reducible exact H | (rw [hy248]; exact H) | exact H
                  have Ny248 := AM hy248
                  clear hy248
                  have H' := AM H
                  clear H
                  obtain ⟨Ao16, co16, eo16⟩ := Kd.R_slice HO_4.out
                  subst eo16
                  have p244 : 0 ≤ (x6_1 : Int) := of_decide_eq_true (by first | (with_reducible assumption) | assumption)
                  have q244 : x6_1 < (t237.length : Int) := of_decide_eq_true (by first | (with_reducible assumption) | assumption)
                  obtain ⟨ad244, e244, hx244_0⟩ := Kd.at_string (Kd.R_reads' HO_4.out).2.2 x6_1 p244 q244
                  cases e244
                  replace p244 := eq_true p244
                  replace q244 := eq_true q244
                  go_wp2_with (first | ((with_reducible refine gate_callee (f := 41) rfl ?_); refine goesL_ (some 24) rfl rfl Tryd.func41 (by kernel_rfl) rfl #[.string (rdOf ByteArray.empty t237 x6_1)] rfl (by (try simp only [List.map_toArray, List.map_cons, List.map_nil]); first | done | rfl | (simp only [List.length_drop, List.length_take]; rfl)) ?_; (with_reducible refine (spec_l6Calm.calls k1 (rdOf ByteArray.empty t237 x6_1) t245 _ A10.out).mono ?_); rintro e w17 ⟨rfl, hb⟩; refine ⟨_, rfl, ?_⟩; have n0_ := AM (Kd.R_below (by (with_reducible repeat (first | apply Kd.R_alloc | apply Kd.R_drewN | apply Kd.R_drew)); exact HO_4.out) hb); have n1_ := AM (Kd.R_below (by (with_reducible repeat (first | apply Kd.R_alloc | apply Kd.R_drewN | apply Kd.R_drew)); exact HO_5.out) hb); have n2_ := AM (below_step (by repeat (first | (with_reducible first | exact HB.out | apply below_alloc | apply pw_below_drewN | apply below_drew1) | exact HB.out)) hb); clear HO_4; clear HO_5; clear HB; have HO_4 := n0_; have HO_5 := n1_; have HB := n2_; clear n0_ n1_ n2_; (try clear hb); (try clear hb2); (try clear hk); (try clear hi)) | ((with_reducible refine gate_callee (f := 42) rfl ?_); refine goesL_ (some 27) rfl rfl Tryd.func42 (by kernel_rfl) rfl #[.slice (some ad244) t237.length co16, .int .i64 x6_1] rfl (by (try simp only [List.map_toArray, List.map_cons, List.map_nil]); first | done | rfl | (simp only [List.length_drop, List.length_take]; rfl)) ?_; (with_reducible refine (spec_l6Starts.calls _ _ t237 x6_1 true _ ?side1 ?side2 A11.out).mono ?_); (case side1 => repeat (first | exact (Kd.R_reads' HO_4.out).2.2 | (with_reducible refine Kd.C_alloc ?_ _) | (with_reducible refine Kd.C_drewN ?_ _) | (with_reducible refine Kd.C_drew ?_))); (case side2 => exact (Kd.R_reads' HO_4.out).2.1); rintro e w' ⟨rfl, ⟨nd, rfl⟩⟩; refine ⟨_, rfl, ?_⟩) | (go_at_call 39; (with_reducible refine (spec_l6Brace.calls k1 t245 true _ A13.out).mono ?_); rintro e w' ⟨rfl, ⟨nd, rfl⟩⟩) | ((with_reducible refine gate_builtin (b := .append) (xs := #[.tmp 35, .tmp 37]) rfl ?_); at_builtin; refine Kd.R_append Kd.string (w0 := w) w.heap.size rfl (.tmp 35) (.tmp 37) 34 9 (.string ⟨#[]⟩) 16 rfl Tryd.underlying34 info9 rfl (by decide) (by omega) u5 x5_1 t245 [.string t245] (fun k_ => some k_ ≠ (.slice (some ad244) t237.length co16 : Value).ownBlock) (fun _ => False) rfl rfl ?aP (fun _ hk => hk.elim) ?aF ?aO ?aB ?aS ?aL ?_; (case aP => exact rfl); (case aB => exact (by repeat (first | (with_reducible first | exact HB.out | apply below_alloc | apply pw_below_drewN | apply below_drew1) | exact HB.out))); (case aF => exact (fun k_ hk => Kd.fresh' (Kd.R_lt (by (with_reducible repeat (first | apply Kd.R_alloc | apply Kd.R_drewN | apply Kd.R_drew)); exact HO_4.out)) k_ hk)); (case aO => exact (by (with_reducible repeat (first | apply Kd.R_alloc | apply Kd.R_drewN | apply Kd.R_drew)); exact HO_5.out)); (case aS => exact (below_size (by repeat (first | (with_reducible first | exact HB.out | apply below_alloc | apply pw_below_drewN | apply below_drew1) | exact HB.out)))); (case aL => have := LMc15.out; omega); intro v249 w18 ho hb hg hat; rw [← Ny248.out] at ho; have n0_ := AM (Kd.R_after (ok := (fun _ => True)) (by (with_reducible repeat (first | apply Kd.R_alloc | apply Kd.R_drewN | apply Kd.R_drew)); exact Kd.R_mono HO_4.out (fun _ hk => ⟨trivial, hk⟩)) hg hat); have n1_ := AM (hb); have n2_ := AM (ho); clear HO_4; clear HB; clear HO_5; have HO_4 := n0_; have HB := n1_; have HO250 := n2_; clear n0_ n1_ n2_; clear ho hb hg hat))
                  go_roundg k1
                  case measure => have := HK1.out; omega
                  case rel => exact ⟨(y248), (wrap64 (x6_1 + 1)), (by first | rfl | (simp; done) | (simp [*]; done)), H', ⟨by have := HK1.out; omega⟩, ⟨by (with_reducible repeat (first | apply Kd.R_alloc | apply Kd.R_drewN | apply Kd.R_drew)); exact Kd.R_mono HO_4.out (fun _ hk => hk.2)⟩, ⟨by (with_reducible repeat (first | apply Kd.R_alloc | apply Kd.R_drewN | apply Kd.R_drew)); exact HO250.out⟩, ⟨by repeat (first | (with_reducible first | exact HB.out | apply below_alloc | apply pw_below_drewN | apply below_drew1) | exact HB.out)⟩⟩
                · rw [if_neg c15] at H
                  exact absurd H (by simp)
              · replace c14 := Bool.eq_false_iff.mpr c14
                subst c14
                have H1 : ((spec_l6Raise.f k1 t245).bind fun t251 => (if x5_1.length < 8796093022208 then (spec_SentenceCase.l0 k1 t237 (x5_1 ++ [t251]) (wrap64 (x6_1 + 1))) else (none))) = some (r1, r2) := by rw [if_neg (show ¬ (false = true) by decide)] at H; exact H
                clear H
                have H := H1
                clear H1
                replace H := Option.bind_eq_some_iff.mp H
                obtain ⟨t251, A190, H⟩ := H
                replace H : (if x5_1.length < 8796093022208 then (spec_SentenceCase.l0 k1 t237 (x5_1 ++ [t251]) (wrap64 (x6_1 + 1))) else (none)) = some (r1, r2) := H
                have A19 := AM A190
                clear A190
                by_cases c20 : x5_1.length < 8796093022208
                · rw [if_pos c20] at H
                  have LMc20 := AM c20
                  clear c20
                  obtain ⟨y252, hy252⟩ : ∃ y_ : List ByteArray, y_ = (x5_1 ++ [t251]) := ⟨_, rfl⟩
                  replace H : (spec_SentenceCase.l0 k1 t237 y252 (wrap64 (x6_1 + 1))) = some (r1, r2) := by first | (rw [hy252]; with_reducible exact H) | (have H2_ := (Option.bind_some _ _).symm.trans H; rw [hy252]; with_reducible exact H2_) | (have H2_ := (Option.bind_some _ _).symm.trans H; with_reducible exact H2_) | with_reducible exact H | (rw [hy252]; exact H) | exact H
                  have Ny252 := AM hy252
                  clear hy252
                  have H' := AM H
                  clear H
                  obtain ⟨Ao21, co21, eo21⟩ := Kd.R_slice HO_4.out
                  subst eo21
                  have p244 : 0 ≤ (x6_1 : Int) := of_decide_eq_true (by first | (with_reducible assumption) | assumption)
                  have q244 : x6_1 < (t237.length : Int) := of_decide_eq_true (by first | (with_reducible assumption) | assumption)
                  obtain ⟨ad244, e244, hx244_0⟩ := Kd.at_string (Kd.R_reads' HO_4.out).2.2 x6_1 p244 q244
                  cases e244
                  replace p244 := eq_true p244
                  replace q244 := eq_true q244
                  go_wp2_with (first | ((with_reducible refine gate_callee (f := 41) rfl ?_); refine goesL_ (some 24) rfl rfl Tryd.func41 (by kernel_rfl) rfl #[.string (rdOf ByteArray.empty t237 x6_1)] rfl (by (try simp only [List.map_toArray, List.map_cons, List.map_nil]); first | done | rfl | (simp only [List.length_drop, List.length_take]; rfl)) ?_; (with_reducible refine (spec_l6Calm.calls k1 (rdOf ByteArray.empty t237 x6_1) t245 _ A10.out).mono ?_); rintro e w22 ⟨rfl, hb⟩; refine ⟨_, rfl, ?_⟩; have n0_ := AM (Kd.R_below (by (with_reducible repeat (first | apply Kd.R_alloc | apply Kd.R_drewN | apply Kd.R_drew)); exact HO_4.out) hb); have n1_ := AM (Kd.R_below (by (with_reducible repeat (first | apply Kd.R_alloc | apply Kd.R_drewN | apply Kd.R_drew)); exact HO_5.out) hb); have n2_ := AM (below_step (by repeat (first | (with_reducible first | exact HB.out | apply below_alloc | apply pw_below_drewN | apply below_drew1) | exact HB.out)) hb); clear HO_4; clear HO_5; clear HB; have HO_4 := n0_; have HO_5 := n1_; have HB := n2_; clear n0_ n1_ n2_; (try clear hb); (try clear hb2); (try clear hk); (try clear hi)) | ((with_reducible refine gate_callee (f := 42) rfl ?_); refine goesL_ (some 27) rfl rfl Tryd.func42 (by kernel_rfl) rfl #[.slice (some ad244) t237.length co21, .int .i64 x6_1] rfl (by (try simp only [List.map_toArray, List.map_cons, List.map_nil]); first | done | rfl | (simp only [List.length_drop, List.length_take]; rfl)) ?_; (with_reducible refine (spec_l6Starts.calls _ _ t237 x6_1 true _ ?side1 ?side2 A11.out).mono ?_); (case side1 => repeat (first | exact (Kd.R_reads' HO_4.out).2.2 | (with_reducible refine Kd.C_alloc ?_ _) | (with_reducible refine Kd.C_drewN ?_ _) | (with_reducible refine Kd.C_drew ?_))); (case side2 => exact (Kd.R_reads' HO_4.out).2.1); rintro e w' ⟨rfl, ⟨nd, rfl⟩⟩; refine ⟨_, rfl, ?_⟩) | (go_at_call 39; (with_reducible refine (spec_l6Brace.calls k1 t245 false _ A13.out).mono ?_); rintro e w' ⟨rfl, ⟨nd, rfl⟩⟩) | ((with_reducible refine gate_callee (f := 43) rfl ?_); refine goesL_ (some 34) rfl rfl Tryd.func43 (by kernel_rfl) rfl #[.string t245] rfl (by (try simp only [List.map_toArray, List.map_cons, List.map_nil]); first | done | rfl | (simp only [List.length_drop, List.length_take]; rfl)) ?_; (with_reducible refine (spec_l6Raise.calls k1 t245 t251 _ A19.out).mono ?_); rintro e w23 ⟨rfl, hb⟩; refine ⟨_, rfl, ?_⟩; have n0_ := AM (Kd.R_below (by (with_reducible repeat (first | apply Kd.R_alloc | apply Kd.R_drewN | apply Kd.R_drew)); exact HO_4.out) hb); have n1_ := AM (Kd.R_below (by (with_reducible repeat (first | apply Kd.R_alloc | apply Kd.R_drewN | apply Kd.R_drew)); exact HO_5.out) hb); have n2_ := AM (below_step (by repeat (first | (with_reducible first | exact HB.out | apply below_alloc | apply pw_below_drewN | apply below_drew1) | exact HB.out)) hb); clear HO_4; clear HO_5; clear HB; have HO_4 := n0_; have HO_5 := n1_; have HB := n2_; clear n0_ n1_ n2_; (try clear hb); (try clear hb2); (try clear hk); (try clear hi)) | ((with_reducible refine gate_builtin (b := .append) (xs := #[.tmp 35, .tmp 37]) rfl ?_); at_builtin; refine Kd.R_append Kd.string (w0 := w) w.heap.size rfl (.tmp 35) (.tmp 37) 34 9 (.string ⟨#[]⟩) 16 rfl Tryd.underlying34 info9 rfl (by decide) (by omega) u5 x5_1 t251 [.string t251] (fun k_ => some k_ ≠ (.slice (some ad244) t237.length co21 : Value).ownBlock) (fun _ => False) rfl rfl ?aP (fun _ hk => hk.elim) ?aF ?aO ?aB ?aS ?aL ?_; (case aP => exact rfl); (case aB => exact (by repeat (first | (with_reducible first | exact HB.out | apply below_alloc | apply pw_below_drewN | apply below_drew1) | exact HB.out))); (case aF => exact (fun k_ hk => Kd.fresh' (Kd.R_lt (by (with_reducible repeat (first | apply Kd.R_alloc | apply Kd.R_drewN | apply Kd.R_drew)); exact HO_4.out)) k_ hk)); (case aO => exact (by (with_reducible repeat (first | apply Kd.R_alloc | apply Kd.R_drewN | apply Kd.R_drew)); exact HO_5.out)); (case aS => exact (below_size (by repeat (first | (with_reducible first | exact HB.out | apply below_alloc | apply pw_below_drewN | apply below_drew1) | exact HB.out)))); (case aL => have := LMc20.out; omega); intro v253 w24 ho hb hg hat; rw [← Ny252.out] at ho; have n0_ := AM (Kd.R_after (ok := (fun _ => True)) (by (with_reducible repeat (first | apply Kd.R_alloc | apply Kd.R_drewN | apply Kd.R_drew)); exact Kd.R_mono HO_4.out (fun _ hk => ⟨trivial, hk⟩)) hg hat); have n1_ := AM (hb); have n2_ := AM (ho); clear HO_4; clear HB; clear HO_5; have HO_4 := n0_; have HB := n1_; have HO254 := n2_; clear n0_ n1_ n2_; clear ho hb hg hat))
                  go_roundg k1
                  case measure => have := HK1.out; omega
                  case rel => exact ⟨(y252), (wrap64 (x6_1 + 1)), (by first | rfl | (simp; done) | (simp [*]; done)), H', ⟨by have := HK1.out; omega⟩, ⟨by (with_reducible repeat (first | apply Kd.R_alloc | apply Kd.R_drewN | apply Kd.R_drew)); exact Kd.R_mono HO_4.out (fun _ hk => hk.2)⟩, ⟨by (with_reducible repeat (first | apply Kd.R_alloc | apply Kd.R_drewN | apply Kd.R_drew)); exact HO254.out⟩, ⟨by repeat (first | (with_reducible first | exact HB.out | apply below_alloc | apply pw_below_drewN | apply below_drew1) | exact HB.out)⟩⟩
                · rw [if_neg c20] at H
                  exact absurd H (by simp)
            · replace c12 := Bool.eq_false_iff.mpr c12
              subst c12
              have H1 : (if x5_1.length < 8796093022208 then (spec_SentenceCase.l0 k1 t237 (x5_1 ++ [t245]) (wrap64 (x6_1 + 1))) else (none)) = some (r1, r2) := by rw [if_neg (show ¬ (false = true) by decide)] at H; exact H
              clear H
              have H := H1
              clear H1
              by_cases c25 : x5_1.length < 8796093022208
              · rw [if_pos c25] at H
                have LMc25 := AM c25
                clear c25
                obtain ⟨y255, hy255⟩ : ∃ y_ : List ByteArray, y_ = (x5_1 ++ [t245]) := ⟨_, rfl⟩
                replace H : (spec_SentenceCase.l0 k1 t237 y255 (wrap64 (x6_1 + 1))) = some (r1, r2) := by first | (rw [hy255]; with_reducible exact H) | (have H2_ := (Option.bind_some _ _).symm.trans H; rw [hy255]; with_reducible exact H2_) | (have H2_ := (Option.bind_some _ _).symm.trans H; with_reducible exact H2_) | with_reducible exact H | (rw [hy255]; exact H) | exact H
                have Ny255 := AM hy255
                clear hy255
                have H' := AM H
                clear H
                obtain ⟨Ao26, co26, eo26⟩ := Kd.R_slice HO_4.out
                subst eo26
                have p244 : 0 ≤ (x6_1 : Int) := of_decide_eq_true (by first | (with_reducible assumption) | assumption)
                have q244 : x6_1 < (t237.length : Int) := of_decide_eq_true (by first | (with_reducible assumption) | assumption)
                obtain ⟨ad244, e244, hx244_0⟩ := Kd.at_string (Kd.R_reads' HO_4.out).2.2 x6_1 p244 q244
                cases e244
                replace p244 := eq_true p244
                replace q244 := eq_true q244
                go_wp2_with (first | ((with_reducible refine gate_callee (f := 41) rfl ?_); refine goesL_ (some 24) rfl rfl Tryd.func41 (by kernel_rfl) rfl #[.string (rdOf ByteArray.empty t237 x6_1)] rfl (by (try simp only [List.map_toArray, List.map_cons, List.map_nil]); first | done | rfl | (simp only [List.length_drop, List.length_take]; rfl)) ?_; (with_reducible refine (spec_l6Calm.calls k1 (rdOf ByteArray.empty t237 x6_1) t245 _ A10.out).mono ?_); rintro e w27 ⟨rfl, hb⟩; refine ⟨_, rfl, ?_⟩; have n0_ := AM (Kd.R_below (by (with_reducible repeat (first | apply Kd.R_alloc | apply Kd.R_drewN | apply Kd.R_drew)); exact HO_4.out) hb); have n1_ := AM (Kd.R_below (by (with_reducible repeat (first | apply Kd.R_alloc | apply Kd.R_drewN | apply Kd.R_drew)); exact HO_5.out) hb); have n2_ := AM (below_step (by repeat (first | (with_reducible first | exact HB.out | apply below_alloc | apply pw_below_drewN | apply below_drew1) | exact HB.out)) hb); clear HO_4; clear HO_5; clear HB; have HO_4 := n0_; have HO_5 := n1_; have HB := n2_; clear n0_ n1_ n2_; (try clear hb); (try clear hb2); (try clear hk); (try clear hi)) | ((with_reducible refine gate_callee (f := 42) rfl ?_); refine goesL_ (some 27) rfl rfl Tryd.func42 (by kernel_rfl) rfl #[.slice (some ad244) t237.length co26, .int .i64 x6_1] rfl (by (try simp only [List.map_toArray, List.map_cons, List.map_nil]); first | done | rfl | (simp only [List.length_drop, List.length_take]; rfl)) ?_; (with_reducible refine (spec_l6Starts.calls _ _ t237 x6_1 false _ ?side1 ?side2 A11.out).mono ?_); (case side1 => repeat (first | exact (Kd.R_reads' HO_4.out).2.2 | (with_reducible refine Kd.C_alloc ?_ _) | (with_reducible refine Kd.C_drewN ?_ _) | (with_reducible refine Kd.C_drew ?_))); (case side2 => exact (Kd.R_reads' HO_4.out).2.1); rintro e w' ⟨rfl, ⟨nd, rfl⟩⟩; refine ⟨_, rfl, ?_⟩) | ((with_reducible refine gate_builtin (b := .append) (xs := #[.tmp 35, .tmp 37]) rfl ?_); at_builtin; refine Kd.R_append Kd.string (w0 := w) w.heap.size rfl (.tmp 35) (.tmp 37) 34 9 (.string ⟨#[]⟩) 16 rfl Tryd.underlying34 info9 rfl (by decide) (by omega) u5 x5_1 t245 [.string t245] (fun k_ => some k_ ≠ (.slice (some ad244) t237.length co26 : Value).ownBlock) (fun _ => False) rfl rfl ?aP (fun _ hk => hk.elim) ?aF ?aO ?aB ?aS ?aL ?_; (case aP => exact rfl); (case aB => exact (by repeat (first | (with_reducible first | exact HB.out | apply below_alloc | apply pw_below_drewN | apply below_drew1) | exact HB.out))); (case aF => exact (fun k_ hk => Kd.fresh' (Kd.R_lt (by (with_reducible repeat (first | apply Kd.R_alloc | apply Kd.R_drewN | apply Kd.R_drew)); exact HO_4.out)) k_ hk)); (case aO => exact (by (with_reducible repeat (first | apply Kd.R_alloc | apply Kd.R_drewN | apply Kd.R_drew)); exact HO_5.out)); (case aS => exact (below_size (by repeat (first | (with_reducible first | exact HB.out | apply below_alloc | apply pw_below_drewN | apply below_drew1) | exact HB.out)))); (case aL => have := LMc25.out; omega); intro v256 w28 ho hb hg hat; rw [← Ny255.out] at ho; have n0_ := AM (Kd.R_after (ok := (fun _ => True)) (by (with_reducible repeat (first | apply Kd.R_alloc | apply Kd.R_drewN | apply Kd.R_drew)); exact Kd.R_mono HO_4.out (fun _ hk => ⟨trivial, hk⟩)) hg hat); have n1_ := AM (hb); have n2_ := AM (ho); clear HO_4; clear HB; clear HO_5; have HO_4 := n0_; have HB := n1_; have HO257 := n2_; clear n0_ n1_ n2_; clear ho hb hg hat))
                go_roundg k1
                case measure => have := HK1.out; omega
                case rel => exact ⟨(y255), (wrap64 (x6_1 + 1)), (by first | rfl | (simp; done) | (simp [*]; done)), H', ⟨by have := HK1.out; omega⟩, ⟨by (with_reducible repeat (first | apply Kd.R_alloc | apply Kd.R_drewN | apply Kd.R_drew)); exact Kd.R_mono HO_4.out (fun _ hk => hk.2)⟩, ⟨by (with_reducible repeat (first | apply Kd.R_alloc | apply Kd.R_drewN | apply Kd.R_drew)); exact HO257.out⟩, ⟨by repeat (first | (with_reducible first | exact HB.out | apply below_alloc | apply pw_below_drewN | apply below_drew1) | exact HB.out)⟩⟩
              · rw [if_neg c25] at H
                exact absurd H (by simp)
          · rw [if_neg c9] at H
            exact absurd H (by simp)
        · rw [if_neg c8] at H
          have c8b0 : decide (x6_1 < (t237.length : Int)) = false := decide_eq_false c8
          clear c8
          replace H := Option.bind_eq_some_iff.mp H
          obtain ⟨t243, A290, H⟩ := H
          replace H : (some (t243, true)) = some (r1, r2) := H
          have A29 := AM A290
          clear A290
          simp only [Option.some.injEq, Prod.mk.injEq] at H
          obtain ⟨rfl, rfl⟩ := H
          obtain ⟨Ao30, co30, eo30⟩ := Kd.R_slice HO_4.out
          subst eo30
          obtain ⟨Ao31, co31, eo31⟩ := Kd.R_slice HO_5.out
          subst eo31
          go_wp2_with (first | ((with_reducible refine gate_callee (f := 32) rfl ?_); refine goesL_ (some 40) rfl rfl Tryd.func32 (by kernel_rfl) rfl #[.slice Ao31 x5_1.length co31] rfl (by (try simp only [List.map_toArray, List.map_cons, List.map_nil]); first | done | rfl | (simp only [List.length_drop, List.length_take]; rfl)) ?_; (with_reducible refine (spec_l6Join.calls k1 _ _ x5_1 t243 _ ?side1 ?side2 A29.out).mono ?_); (case side1 => repeat (first | exact (Kd.R_reads' HO_5.out).2.2 | (with_reducible refine Kd.C_alloc ?_ _) | (with_reducible refine Kd.C_drewN ?_ _) | (with_reducible refine Kd.C_drew ?_))); (case side2 => exact (Kd.R_reads' HO_5.out).2.1); rintro e w' ⟨rfl, ⟨nd, rfl⟩⟩; refine ⟨_, rfl, ?_⟩))
          go_ret2
          exact ⟨by first | rfl | (simp [errW_none, errW_some] <;> rfl) | (simp [*, errW_none, errW_some] <;> rfl) | (simp [errW_none, errW_some] <;> (apply Bool.eq_iff_iff.2; simp [List.isEmpty_iff])), by repeat (first | (with_reducible first | exact HB.out | apply below_alloc | apply pw_below_drewN | apply below_drew1) | exact HB.out)⟩
  · replace c3 := Bool.eq_false_iff.mpr c3
    subst c3
    have H1 : (some ((⟨#[]⟩ : ByteArray), false)) = some (r1, r2) := by rw [if_neg (show ¬ (false = true) by decide)] at H; exact H
    clear H
    have H := H1
    clear H1
    simp only [Option.some.injEq, Prod.mk.injEq] at H
    obtain ⟨rfl, rfl⟩ := H
    go_enter Tryd.func14, Tryd.ntmps14
    go_wp2_with (first | ((with_reducible refine gate_callee (f := 38) rfl ?_); refine goesL_ (some 9) rfl rfl Tryd.func38 (by kernel_rfl) rfl #[.string a0] rfl (by (try simp only [List.map_toArray, List.map_cons, List.map_nil]); first | done | rfl | (simp only [List.length_drop, List.length_take]; rfl)) ?_; (with_reducible refine (spec_l6Good.calls k a0 false _ A2.out).mono ?_); rintro e w' ⟨rfl, ⟨nd, rfl⟩⟩; refine ⟨_, rfl, ?_⟩))
    go_ret2
    exact ⟨by first | rfl | (simp [errW_none, errW_some] <;> rfl) | (simp [*, errW_none, errW_some] <;> rfl) | (simp [errW_none, errW_some] <;> (apply Bool.eq_iff_iff.2; simp [List.isEmpty_iff])), by repeat (first | (with_reducible first | exact HB.out | apply below_alloc | apply pw_below_drewN | apply below_drew1) | exact HB.out)⟩

/-! ### impl_isUpper: function 74 -/
def impl_isUpper.f (a0 : Int) : Option (Bool) := if a0 ≥ 65 then (some (decide (a0 ≤ 90))) else (some false)
set_option maxHeartbeats 8000000 in
set_option maxRecDepth 100000 in
theorem impl_isUpper.calls (a0 : Int) (r : Bool) (w : World) (h : impl_isUpper.f a0 = some r) :
    Calls Tryd.prog 74 #[.int .u8 a0] w fun e w' => e = .returned (.bool r) ∧ Drawn0 w w' := by
  have H : (if a0 ≥ 65 then (some (decide (a0 ≤ 90))) else (some false)) = some r := h
  clear h
  by_cases c2 : a0 ≥ 65
  · rw [if_pos c2] at H
    have c2b0 : decide (65 ≤ a0) = true := decide_eq_true c2
    clear c2
    obtain rfl := Option.some.inj H
    go_enter Tryd.func74, Tryd.ntmps74
    go_wp2
    go_ret
    exact ⟨by first | rfl | (simp; done) | (simp [*]; done), by repeat (first | exact Drawn0.refl _ | apply Drawn0.step)⟩
  · rw [if_neg c2] at H
    have c2b0 : decide (65 ≤ a0) = false := decide_eq_false c2
    clear c2
    obtain rfl := Option.some.inj H
    go_enter Tryd.func74, Tryd.ntmps74
    go_wp2
    go_ret
    exact ⟨by first | rfl | (simp; done) | (simp [*]; done), by repeat (first | exact Drawn0.refl _ | apply Drawn0.step)⟩

/-! ### impl_lowered: function 44 -/
def impl_lowered.isU (b : Int) : Bool := decide (b ≥ 65) && decide (b ≤ 90)
def impl_lowered.g (b : Int) (p : Bool) : Int := if p = true then b else if impl_lowered.isU b = true then b + 32 else b
def impl_lowered.calm : List Int → List Bool → List Int
  | b :: l, p :: ps => impl_lowered.g b p :: impl_lowered.calm l ps
  | _, _ => []
def impl_lowered.f (k : Nat) (a0 : ByteArray) : Option (ByteArray) := (impl_protected.f k a0).bind fun t => if a0.size ≤ 140737488351232 then (if a0.size ≤ t.1.length then some (strOfNums (impl_lowered.calm (bytesOf a0) t.1)) else none) else none
theorem impl_lowered.mono : ∀ a0 k, LeO (impl_lowered.f k a0) (impl_lowered.f (k + 1) a0) := by
  intro a0 k
  unfold impl_lowered.f
  exact LeO.bind (impl_protected.mono _ _) (fun _ => LeO.refl _)
theorem impl_lowered.isU_eq (b : Int) : impl_isUpper.f b = some (impl_lowered.isU b) := by
  unfold impl_isUpper.f impl_lowered.isU
  by_cases h : b ≥ 65
  · rw [if_pos h, decide_eq_true h]; rfl
  · rw [if_neg h, decide_eq_false h]; rfl
theorem impl_lowered.calm_take : ∀ (l : List Int) (ps : List Bool) (j : Nat), j < l.length → j < ps.length → impl_lowered.calm (l.take (j + 1)) ps = impl_lowered.calm (l.take j) ps ++ [impl_lowered.g (l.getD j 0) (ps.getD j false)]
  | [], _, j, h, _ => by simp at h
  | _ :: _, [], j, _, h => by simp at h
  | b :: l, p :: ps, 0, _, _ => by simp [impl_lowered.calm]
  | b :: l, p :: ps, j + 1, h1, h2 => by
    have := impl_lowered.calm_take l ps j (by simpa using h1) (by simpa using h2)
    simp only [List.take_succ_cons, impl_lowered.calm, this, List.cons_append, List.getD_cons_succ]
theorem impl_lowered.calm_len : ∀ (l : List Int) (ps : List Bool), l.length ≤ ps.length → (impl_lowered.calm l ps).length = l.length
  | [], _, _ => rfl
  | _ :: _, [], h => by simp at h
  | b :: l, p :: ps, h => by simp only [impl_lowered.calm, List.length_cons, impl_lowered.calm_len l ps (by simpa using h)]
/-- The row half way. -/
def impl_lowered.half (l : List Int) (ps : List Bool) (j : Nat) : List Int := impl_lowered.calm (l.take j) ps ++ l.drop j
theorem impl_lowered.half_pre (l : List Int) (ps : List Bool) (j : Nat) (hj : j ≤ l.length) (hp : l.length ≤ ps.length) : (impl_lowered.calm (l.take j) ps).length = j := by
  rw [impl_lowered.calm_len _ _ (by rw [List.length_take]; omega), List.length_take]
  omega
theorem impl_lowered.half_len (l : List Int) (ps : List Bool) (j : Nat) (hj : j ≤ l.length) (hp : l.length ≤ ps.length) : (impl_lowered.half l ps j).length = l.length := by
  unfold impl_lowered.half
  rw [List.length_append, impl_lowered.half_pre l ps j hj hp, List.length_drop]
  omega
theorem impl_lowered.half_at (l : List Int) (ps : List Bool) (j : Nat) (hj : j < l.length) (hp : l.length ≤ ps.length) : (impl_lowered.half l ps j).getD j 0 = l.getD j 0 := by
  have h := impl_lowered.half_pre l ps j (by omega) hp
  unfold impl_lowered.half
  rw [List.getD_eq_getElem?_getD, List.getElem?_append_right (by omega), h, Nat.sub_self, List.getElem?_drop, Nat.add_zero, List.getD_eq_getElem?_getD]
theorem impl_lowered.half_next (l : List Int) (ps : List Bool) (j : Nat) (hj : j < l.length) (hp : l.length ≤ ps.length) (v : Int) (hv : v = impl_lowered.g (l.getD j 0) (ps.getD j false)) : (impl_lowered.half l ps j).set j v = impl_lowered.half l ps (j + 1) := by
  subst hv
  have h := impl_lowered.half_pre l ps j (by omega) hp
  unfold impl_lowered.half
  rw [List.set_append_right _ _ (by omega), h, Nat.sub_self, List.drop_eq_getElem_cons hj, sZ, impl_lowered.calm_take l ps j hj (by omega), List.append_assoc, List.singleton_append]
theorem impl_lowered.half_same (l : List Int) (ps : List Bool) (j : Nat) (hj : j < l.length) (hp : l.length ≤ ps.length) (hv : impl_lowered.g (l.getD j 0) (ps.getD j false) = l.getD j 0) : impl_lowered.half l ps (j + 1) = impl_lowered.half l ps j := by
  unfold impl_lowered.half
  rw [impl_lowered.calm_take l ps j hj (by omega), hv, List.append_assoc, List.singleton_append, List.drop_eq_getElem_cons hj]
  congr 2
  simp [List.getD, List.getElem?_eq_getElem hj]
theorem impl_lowered.half_all (l : List Int) (ps : List Bool) (n : Nat) (hn : l.length = n) : impl_lowered.half l ps n = impl_lowered.calm l ps := by
  unfold impl_lowered.half
  rw [List.take_of_length_le (by omega), List.drop_of_length_le (by omega), List.append_nil]
theorem impl_lowered.bytes_lt (s : ByteArray) (j : Nat) : 0 ≤ (bytesOf s).getD j 0 ∧ (bytesOf s).getD j 0 ≤ 255 := by
  have h := rd_bytesOf s (j : Int)
  unfold rd at h
  rw [Int.toNat_natCast] at h
  rw [h]
  exact bt_range s _
set_option maxHeartbeats 4000000 in
set_option maxRecDepth 100000 in
theorem impl_lowered.calls (k : Nat) (a0 : ByteArray) (r : ByteArray) (w : World) (h : impl_lowered.f k a0 = some r) :
    Calls Tryd.prog 44 #[.string a0] w fun e w' => e = .returned (.string r) ∧ Below w.heap.size w w' := by
  unfold impl_lowered.f at h
  obtain ⟨t, ht, h⟩ := Option.bind_eq_some_iff.1 h
  by_cases hs : a0.size ≤ 140737488351232
  · rw [if_pos hs] at h
    by_cases hps : a0.size ≤ t.1.length
    · rw [if_pos hps] at h
      obtain rfl := Option.some.inj h
      clear h
      obtain ⟨ps, ok⟩ := t
      have HT := AM ht
      have hlen := bytesOf_length a0
      have hps : (bytesOf a0).length ≤ ps.length := by rw [hlen]; exact hps
      have HLEN := AM hlen
      have HPS := AM hps
      clear hlen ht hps
      have hconv : ∀ W : World, (convert 9 29 (.string a0)).run Tryd.prog W = .ok (.slice (some ⟨W.heap.size, 0, none⟩) a0.size (grownCap W a0.size 0 5)) (Lib.bytesWorld W 5 a0) := fun W => Lib.run_convert_string_bytes W _ _ _ a0 Tryd.underlying9 Tryd.underlying29 Tryd.underlying5
      obtain ⟨F, hF⟩ : ∃ F, F = impl_lowered.calm (bytesOf a0) ps := ⟨_, rfl⟩
      have HF := AM hF
      rw [← hF]
      clear hF
      go_enter Tryd.func44, Tryd.ntmps44
      go_wp2_with (go_at_call 58; (with_reducible refine (impl_protected.calls k a0 ps ok _ HT.out).mono ?_); rintro e w5 ⟨v5, rfl, ho5, hb5⟩; have HB5 := AM hb5; have HO5 := AM ho5; clear hb5 ho5)
      clear hconv
      have hf6 := Go.Proofs.YtilchcponlgmjaaDoorW.Buf.buf_new w5 5 a0
      have hb6 : Below w.heap.size w (Lib.bytesWorld w5 5 a0) := below_then HB5.out HB5.out.size (Go.Proofs.YtilchcponlgmjaaDoorW.Buf.below_buf w5 5 a0)
      have ho6 : Kd.R Kd.bool 4 (Lib.bytesWorld w5 5 a0) w.heap.size (fun i => i ≠ w5.heap.size) v5 ps := Kd.R_below (Kd.R_mono (Kd.R_bound HO5.out) (fun i hi => by have := hi.2.2.1; omega)) (Go.Proofs.YtilchcponlgmjaaDoorW.Buf.below_buf w5 5 a0)
      have HF6 := AM hf6
      have HB6 := AM hb6
      have HO6 := AM ho6
      clear hf6 hb6 ho6
      obtain ⟨A5, c5, e5⟩ := Kd.R_slice HO6.out
      subst e5
      go_loopw [16] (fun v wr => ∃ j : Nat, j ≤ a0.size ∧ v = .int .i64 j ∧ Aside0 (Go.Proofs.YtilchcponlgmjaaDoorW.Buf.Bf wr w5.heap.size 5 (impl_lowered.half (bytesOf a0) ps j)) ∧ Aside0 (Kd.R Kd.bool 4 wr w.heap.size (fun i => i ≠ w5.heap.size) (.slice A5 ps.length c5) ps) ∧ Aside0 (Below w.heap.size w wr)) (fun v _ => a0.size - (intOf v).toNat)
      case atStart => exact ⟨0, Nat.zero_le _, rfl, ⟨by simpa [impl_lowered.half, impl_lowered.calm] using HF6.out⟩, HO6, HB6⟩
      case round =>
        obtain ⟨j, hj, rfl, HB, HO, HBEL⟩ := hrel
        by_cases hlt : j < a0.size
        · have hjl : j < (bytesOf a0).length := by rw [HLEN.out]; exact hlt
          have hjh : j < (impl_lowered.half (bytesOf a0) ps j).length := by rw [impl_lowered.half_len _ _ _ (by omega) HPS.out]; exact hjl
          have hcell := HB.out.cell j hjh
          rw [impl_lowered.half_at _ _ _ hjl HPS.out] at hcell
          have hfroz := HB.out.frozen j hjh
          have hrng := impl_lowered.bytes_lt a0 j
          have HN := AM (impl_lowered.half_next (bytesOf a0) ps j hjl HPS.out)
          have HS := AM (impl_lowered.half_same (bytesOf a0) ps j hjl HPS.out)
          have HJH := AM hjh
          obtain ⟨b, hbdef⟩ : ∃ b, b = (bytesOf a0).getD j 0 := ⟨_, rfl⟩
          rw [← hbdef] at hcell hrng
          have HBD := AM hbdef
          have hpl : (j : Int) < (ps.length : Int) := by have := HPS.out; omega
          have hpl2 : decide ((j : Int) < (ps.length : Int)) = true := decide_eq_true hpl
          have hpl3 : j < ps.length := by omega
          obtain ⟨ad, ea, hx⟩ := Kd.at_bool (Kd.R_reads' HO.out).2.2 (j : Int) (by omega) hpl
          rw [Int.toNat_natCast] at hx
          cases ea
          obtain ⟨p, hpdef⟩ : ∃ p, p = rdOf false ps (j : Int) := ⟨_, rfl⟩
          rw [← hpdef] at hx
          have hpd : p = ps.getD j false := by rw [hpdef]; unfold rdOf; rw [Int.toNat_natCast]
          have HPD := AM hpd
          clear hbdef hjl hjh hpdef hpd
          have hb0 := hrng.1
          have hb1 := hrng.2
          clear hrng
          have hsz5 := HB5.out.size
          cases p with
          | true =>
            go_wp2
            refine ⟨⟨j + 1, by omega, by go_num, ⟨?_⟩, HO, HBEL⟩, by simp [intOf]; omega⟩
            rw [HS.out (by rw [← HPD.out]; rfl)]
            exact HB.out
          | false =>
            by_cases hu : impl_lowered.isU b = true
            · go_wp2_with (go_at_call 74; (with_reducible refine (impl_isUpper.calls b true _ ((impl_lowered.isU_eq b).trans (by rw [hu]))).mono ?_); rintro e w' ⟨rfl, ⟨nq, rfl⟩⟩)
              have hv : (b + 32) % 256 = impl_lowered.g ((bytesOf a0).getD j 0) (ps.getD j false) := by
                rw [← HBD.out, ← HPD.out]
                unfold impl_lowered.g
                rw [if_neg (by decide), if_pos hu]
                unfold impl_lowered.isU at hu
                have := of_decide_eq_true (Bool.and_eq_true_iff.1 hu).1
                have := of_decide_eq_true (Bool.and_eq_true_iff.1 hu).2
                omega
              refine ⟨⟨j + 1, by omega, by go_num, ⟨?_⟩, ⟨Kd.R_far (Kd.R_drewN HO.out nq) (fun k hk => hk) _⟩, ⟨(pw_below_drewN HBEL.out nq).setCell hsz5 _⟩⟩, by simp [intOf]; omega⟩
              rw [← HN.out _ hv]
              exact (HB.out.drewN nq).set j HJH.out _
            · go_wp2_with (go_at_call 74; (with_reducible refine (impl_isUpper.calls b false _ ((impl_lowered.isU_eq b).trans (by rw [Bool.eq_false_iff.mpr hu]))).mono ?_); rintro e w' ⟨rfl, ⟨nq, rfl⟩⟩)
              refine ⟨⟨j + 1, by omega, by go_num, ⟨?_⟩, ⟨Kd.R_drewN HO.out nq⟩, ⟨pw_below_drewN HBEL.out nq⟩⟩, by simp [intOf]; omega⟩
              rw [HS.out (by rw [← HBD.out, ← HPD.out]; unfold impl_lowered.g; rw [if_neg (by decide), if_neg hu])]
              exact HB.out.drewN nq
        · obtain rfl : j = a0.size := by omega
          have hback := Go.Proofs.YtilchcponlgmjaaDoorW.Buf.conv_back (P := Tryd.prog) HB.out 29 9 a0.size (grownCap w5 a0.size 0 5) ((impl_lowered.half_len _ _ _ (by rw [HLEN.out]; exact Nat.le_refl _) HPS.out).trans HLEN.out) Tryd.underlying29 Tryd.underlying9 Tryd.underlying5
          rw [impl_lowered.half_all _ _ _ HLEN.out] at hback
          have hres := HF.out
          clear HF
          subst hres
          go_wp2
          go_ret
          exact ⟨rfl, HBEL.out⟩
    · rw [if_neg hps] at h
      cases h
  · rw [if_neg hs] at h
    cases h

/-! ### stringslite_HasSuffix: function 101 -/
def stringslite_HasSuffix.f (a0 : ByteArray) (a1 : ByteArray) : Option (Bool) := if (a0.size : Int) ≥ (a1.size : Int) then (if 0 ≤ (wrap64 ((a0.size : Int) - (a1.size : Int))) then (if (wrap64 ((a0.size : Int) - (a1.size : Int))) ≤ (a0.size : Int) then (some ((a0.extract ((wrap64 ((a0.size : Int) - (a1.size : Int))) : Int).toNat a0.size).toList == a1.toList)) else (none)) else (none)) else (some false)
set_option maxHeartbeats 8000000 in
set_option maxRecDepth 100000 in
theorem stringslite_HasSuffix.calls (a0 : ByteArray) (a1 : ByteArray) (r : Bool) (w : World) (h : stringslite_HasSuffix.f a0 a1 = some r) :
    Calls Tryd.prog 101 #[.string a0, .string a1] w fun e w' => e = .returned (.bool r) ∧ Drawn0 w w' := by
  have H : (if (a0.size : Int) ≥ (a1.size : Int) then (if 0 ≤ (wrap64 ((a0.size : Int) - (a1.size : Int))) then (if (wrap64 ((a0.size : Int) - (a1.size : Int))) ≤ (a0.size : Int) then (some ((a0.extract ((wrap64 ((a0.size : Int) - (a1.size : Int))) : Int).toNat a0.size).toList == a1.toList)) else (none)) else (none)) else (some false)) = some r := h
  clear h
  by_cases c3 : (a0.size : Int) ≥ (a1.size : Int)
  · rw [if_pos c3] at H
    have c3b0 : decide ((a1.size : Int) ≤ (a0.size : Int)) = true := decide_eq_true c3
    have c3b1 : decide (a1.size ≤ a0.size) = true := decide_eq_true (Int.ofNat_le.mp c3)
    clear c3
    obtain ⟨ji4, hji4⟩ : ∃ j_ : Int, (wrap64 ((a0.size : Int) - (a1.size : Int))) = j_ := ⟨_, rfl⟩
    replace H : (if 0 ≤ (ji4) then (if (ji4) ≤ (a0.size : Int) then (some ((a0.extract ((ji4) : Int).toNat a0.size).toList == a1.toList)) else (none)) else (none)) = some r := by first | (rw [hji4] at H; exact H) | (simp only [hji4] at H ⊢; exact H)
    have hji4w : (IntKind.i64.wrap ((a0.size : Int) - (a1.size : Int))) = ji4 := (i64_w _).trans hji4
    by_cases c5 : 0 ≤ (ji4)
    · rw [if_pos c5] at H
      have c5b0 := eq_true c5
      have c5b1 : decide (0 ≤ (ji4)) = true := decide_eq_true c5
      clear c5
      by_cases c6 : (ji4) ≤ (a0.size : Int)
      · rw [if_pos c6] at H
        have c6b0 := eq_true c6
        have c6b1 : decide ((ji4) ≤ (a0.size : Int)) = true := decide_eq_true c6
        clear c6
        obtain rfl := Option.some.inj H
        go_enter Tryd.func101, Tryd.ntmps101
        go_wp2
        go_ret
        exact ⟨by first | rfl | (simp; done) | (simp only [← hji4] <;> (first | rfl | simp)) | (simp [*]; done), by repeat (first | exact Drawn0.refl _ | apply Drawn0.step)⟩
      · rw [if_neg c6] at H
        exact absurd H (by simp)
    · rw [if_neg c5] at H
      exact absurd H (by simp)
  · rw [if_neg c3] at H
    have c3b0 : decide ((a1.size : Int) ≤ (a0.size : Int)) = false := decide_eq_false c3
    have c3b1 : decide (a1.size ≤ a0.size) = false := decide_eq_false (fun h => c3 (Int.ofNat_le.mpr h))
    clear c3
    obtain rfl := Option.some.inj H
    go_enter Tryd.func101, Tryd.ntmps101
    go_wp2
    go_ret
    exact ⟨by first | rfl | (simp; done) | (simp [*]; done), by repeat (first | exact Drawn0.refl _ | apply Drawn0.step)⟩

end Go.Proofs.YtilchcponlgmjaaDoor.Px
