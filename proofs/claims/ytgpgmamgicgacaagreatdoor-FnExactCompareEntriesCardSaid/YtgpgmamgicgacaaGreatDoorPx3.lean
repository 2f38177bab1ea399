/- Calls of Go functions come to what the Lean functions beside them say; written by a program of this session (wip/xprint); no conditions. -/
import Derived.Test.YtgpgmamgicgacaaGreatDoorPx2
namespace Go.Proofs.YtgpgmamgicgacaaGreatDoor.Px
open Go.RowKit Go.Proofs.YtgpgmamgicgacaaGreatDoorW.PrintWords Go.Proofs.YtgpgmamgicgacaaGreatDoorW.PrintLast Go.Proofs.YtgpgmamgicgacaaGreatDoorW.PrintMore
open Go.Proofs.YtgpgmamgicgacaaGreatDoorW.PrintWords renaming pw_below_drewN → pN, below_drew1 → p1, below_alloc → pA, below_set → pS, blk_drewN → bN, blk_alloc → bL, blk_drew → bW, blk_below → bB, below_step → bS, gate_callee → gC, blk_cell → bC, below_size → bZ
open Go.Proofs.YtgpgmamgicgacaaGreatDoorW.PrintWords.Aside0 renaming mk → AM
open Go.Proofs.YtgpgmamgicgacaaGreatDoorW.PrintWords.Kd renaming C_alloc → cA, C_drewN → cN, C_drew → cD, C_below → cB, R_reads' → rR
open Go.Proofs.YtgpgmamgicgacaaGreatDoorW.PrintLast renaming goesL_ → gL
open Bool renaming eq_false_iff → bE
open Option renaming bind_eq_some_iff → oB
open Option.some renaming inj → oI
open List renaming map_toArray → mT, map_cons → mC, map_nil → mN, setIfInBounds_toArray → lT, set_cons_zero → lZ, set_cons_succ → lS
attribute [local go_sem] max2_int min2_int max_two min_two max_three min_three max_four min_four
set_option maxHeartbeats 8000000
set_option maxRecDepth 100000
set_option linter.unusedVariables false
set_option linter.unusedSimpArgs false
mutual
def spec_l4Entry.j0 : Nat → Bool → ByteArray → Int → List (S57) → List (S57) → ByteArray → ByteArray → ByteArray → Int → Int → Int → Bool → Int → ByteArray → ByteArray → Option (Bool)
 | 0, _, _, _, _, _, _, _, _, _, _, _, _, _, _, _ => none
 | k + 1, x24, x154000, x154001, x154002, x154003, x154004, x154005, x154006, x154007, x154008, x154009, x154010, x154011, x154012, x154013 => if x24 = true then (some false) else ((spec_l4Text.f k x154004).bind fun t158 => (if t158 = true then ((spec_l4Text.f k x154005).bind fun t159 => (if t159 = true then ((spec_l4Text.f k x154006).bind fun t160 => (if t160 = true then ((spec_l4Text.f k x154012).bind fun t161 => (spec_l4Entry.j1 k (!t161) x154000 x154001 x154002 x154003 x154004 x154005 x154006 x154007 x154008 x154009 x154010 x154011 x154012 x154013)) else (spec_l4Entry.j1 k true x154000 x154001 x154002 x154003 x154004 x154005 x154006 x154007 x154008 x154009 x154010 x154011 x154012 x154013))) else (spec_l4Entry.j1 k true x154000 x154001 x154002 x154003 x154004 x154005 x154006 x154007 x154008 x154009 x154010 x154011 x154012 x154013))) else (spec_l4Entry.j1 k true x154000 x154001 x154002 x154003 x154004 x154005 x154006 x154007 x154008 x154009 x154010 x154011 x154012 x154013)))
def spec_l4Entry.j1 : Nat → Bool → ByteArray → Int → List (S57) → List (S57) → ByteArray → ByteArray → ByteArray → Int → Int → Int → Bool → Int → ByteArray → ByteArray → Option (Bool)
 | 0, _, _, _, _, _, _, _, _, _, _, _, _, _, _, _ => none
 | k + 1, x46, x154000, x154001, x154002, x154003, x154004, x154005, x154006, x154007, x154008, x154009, x154010, x154011, x154012, x154013 => if x46 = true then (some false) else ((spec_l3Good.f k x154007 x154008 x154009 x154010).bind fun t162 => (if t162 = true then ((spec_l1In.f x154011 0 9999).bind fun t163 => (if t163 = true then (if x154013.toList = ([] : List UInt8) then (some true) else ((spec_l4Key.f k x154013).bind fun t164 => (if t164 = true then (some (x154013.toList != x154000.toList)) else (some false)))) else (some false))) else (some false)))
end
def spec_l4Entry.f (k : Nat) (a0_0 : ByteArray) (a0_1 : Int) (l0_2 : List (S57)) (l0_3 : List (S57)) (a0_4 : ByteArray) (a0_5 : ByteArray) (a0_6 : ByteArray) (a0_7 : Int) (a0_8 : Int) (a0_9 : Int) (a0_10 : Bool) (a0_11 : Int) (a0_12 : ByteArray) (a0_13 : ByteArray) : Option (Bool) := (spec_l4Key.f k a0_0).bind fun t154 => (if t154 = true then ((spec_l1In.f a0_1 1 4).bind fun t155 => (if t155 = true then ((spec_l2List.f k l0_2).bind fun t156 => (if t156 = true then ((spec_l2List.f k l0_3).bind fun t157 => (spec_l4Entry.j0 k (!t157) a0_0 a0_1 l0_2 l0_3 a0_4 a0_5 a0_6 a0_7 a0_8 a0_9 a0_10 a0_11 a0_12 a0_13)) else (spec_l4Entry.j0 k true a0_0 a0_1 l0_2 l0_3 a0_4 a0_5 a0_6 a0_7 a0_8 a0_9 a0_10 a0_11 a0_12 a0_13))) else (spec_l4Entry.j0 k true a0_0 a0_1 l0_2 l0_3 a0_4 a0_5 a0_6 a0_7 a0_8 a0_9 a0_10 a0_11 a0_12 a0_13))) else (spec_l4Entry.j0 k true a0_0 a0_1 l0_2 l0_3 a0_4 a0_5 a0_6 a0_7 a0_8 a0_9 a0_10 a0_11 a0_12 a0_13))
theorem spec_l4Entry.mono_l : ∀ k, (∀ y0 y1 y2 y3 y4 y5 y6 y7 y8 y9 y10 y11 y12 y13 y14, LeO (spec_l4Entry.j0 k y0 y1 y2 y3 y4 y5 y6 y7 y8 y9 y10 y11 y12 y13 y14) (spec_l4Entry.j0 (k + 1) y0 y1 y2 y3 y4 y5 y6 y7 y8 y9 y10 y11 y12 y13 y14)) ∧ (∀ y0 y1 y2 y3 y4 y5 y6 y7 y8 y9 y10 y11 y12 y13 y14, LeO (spec_l4Entry.j1 k y0 y1 y2 y3 y4 y5 y6 y7 y8 y9 y10 y11 y12 y13 y14) (spec_l4Entry.j1 (k + 1) y0 y1 y2 y3 y4 y5 y6 y7 y8 y9 y10 y11 y12 y13 y14))
 | 0 => ⟨fun _ _ _ _ _ _ _ _ _ _ _ _ _ _ _ r h => by simp [spec_l4Entry.j0] at h, fun _ _ _ _ _ _ _ _ _ _ _ _ _ _ _ r h => by simp [spec_l4Entry.j1] at h⟩
 | k + 1 => by
  obtain ⟨ih0, ih1⟩ := spec_l4Entry.mono_l k;refine ⟨?_, ?_⟩
  ·intro y0 y1 y2 y3 y4 y5 y6 y7 y8 y9 y10 y11 y12 y13 y14
   unfold spec_l4Entry.j0
   repeat' with_reducible first
   | exact ih0 _ _ _ _ _ _ _ _ _ _ _ _ _ _ _
   | exact ih1 _ _ _ _ _ _ _ _ _ _ _ _ _ _ _
   | exact spec_l2List.mono _ _
   | exact spec_l3Good.mono _ _ _ _ _
   | exact spec_l4Key.mono _ _
   | exact spec_l4Text.mono _ _
   | exact LeO.refl _
   | exact LeO.none _
   | refine LeO.ite ?_ ?_
   | refine LeO.bind ?_ (fun _ => ?_)
  ·intro y0 y1 y2 y3 y4 y5 y6 y7 y8 y9 y10 y11 y12 y13 y14
   unfold spec_l4Entry.j1
   repeat' with_reducible first
   | exact ih0 _ _ _ _ _ _ _ _ _ _ _ _ _ _ _
   | exact ih1 _ _ _ _ _ _ _ _ _ _ _ _ _ _ _
   | exact spec_l2List.mono _ _
   | exact spec_l3Good.mono _ _ _ _ _
   | exact spec_l4Key.mono _ _
   | exact spec_l4Text.mono _ _
   | exact LeO.refl _
   | exact LeO.none _
   | refine LeO.ite ?_ ?_
   | refine LeO.bind ?_ (fun _ => ?_)
theorem spec_l4Entry.mono : ∀ a0 a1 a2 a3 a4 a5 a6 a7 a8 a9 a10 a11 a12 a13 k, LeO (spec_l4Entry.f k a0 a1 a2 a3 a4 a5 a6 a7 a8 a9 a10 a11 a12 a13) (spec_l4Entry.f (k + 1) a0 a1 a2 a3 a4 a5 a6 a7 a8 a9 a10 a11 a12 a13) := by
 intro a0 a1 a2 a3 a4 a5 a6 a7 a8 a9 a10 a11 a12 a13 k;obtain ⟨ih0, ih1⟩ := spec_l4Entry.mono_l k;unfold spec_l4Entry.f
 repeat' with_reducible first
   | exact ih0 _ _ _ _ _ _ _ _ _ _ _ _ _ _ _
   | exact ih1 _ _ _ _ _ _ _ _ _ _ _ _ _ _ _
   | exact spec_l2List.mono _ _
   | exact spec_l3Good.mono _ _ _ _ _
   | exact spec_l4Key.mono _ _
   | exact spec_l4Text.mono _ _
   | exact LeO.refl _
   | exact LeO.none _
   | refine LeO.ite ?_ ?_
   | refine LeO.bind ?_ (fun _ => ?_)
theorem spec_l4Entry.calls (k : Nat) (a0_0 : ByteArray) (a0_1 : Int) (A0_2 : Option Addr) (c0_2 : Nat) (l0_2 : List (S57)) (A0_3 : Option Addr) (c0_3 : Nat) (l0_3 : List (S57)) (a0_4 : ByteArray) (a0_5 : ByteArray) (a0_6 : ByteArray) (a0_7 : Int) (a0_8 : Int) (a0_9 : Int) (a0_10 : Bool) (a0_11 : Int) (a0_12 : ByteArray) (a0_13 : ByteArray) (r : Bool) (w : World) (hr0_2 : Kd.C k57 w A0_2 l0_2.length l0_2) (hc0_2 : l0_2.length ≤ c0_2) (hr0_3 : Kd.C k57 w A0_3 l0_3.length l0_3) (hc0_3 : l0_3.length ≤ c0_3) (h : spec_l4Entry.f k a0_0 a0_1 l0_2 l0_3 a0_4 a0_5 a0_6 a0_7 a0_8 a0_9 a0_10 a0_11 a0_12 a0_13 = some r) :
  Calls Tryz.prog 10 #[.agg #[.string a0_0, .int .i64 a0_1, .slice A0_2 l0_2.length c0_2, .slice A0_3 l0_3.length c0_3, .string a0_4, .string a0_5, .string a0_6, .int .i64 a0_7, .int .i64 a0_8, .int .i64 a0_9, .bool a0_10, .int .i64 a0_11, .string a0_12, .string a0_13]] w fun e w' => e = .returned (.bool r) ∧ Below w.heap.size w w' := by
 have hu33 := Tryz.underlying33;have hu31 := Tryz.underlying31;have HR0_2 := AM hr0_2;have HC0_2 := AM hc0_2;clear hr0_2 hc0_2;have HR0_3 := AM hr0_3;have HC0_3 := AM hc0_3;clear hr0_3 hc0_3;have HB := AM (Below.refl w.heap.size w);have H : ((spec_l4Key.f k a0_0).bind fun t154 => (if t154 = true then ((spec_l1In.f a0_1 1 4).bind fun t155 => (if t155 = true then ((spec_l2List.f k l0_2).bind fun t156 => (if t156 = true then ((spec_l2List.f k l0_3).bind fun t157 => (spec_l4Entry.j0 k (!t157) a0_0 a0_1 l0_2 l0_3 a0_4 a0_5 a0_6 a0_7 a0_8 a0_9 a0_10 a0_11 a0_12 a0_13)) else (spec_l4Entry.j0 k true a0_0 a0_1 l0_2 l0_3 a0_4 a0_5 a0_6 a0_7 a0_8 a0_9 a0_10 a0_11 a0_12 a0_13))) else (spec_l4Entry.j0 k true a0_0 a0_1 l0_2 l0_3 a0_4 a0_5 a0_6 a0_7 a0_8 a0_9 a0_10 a0_11 a0_12 a0_13))) else (spec_l4Entry.j0 k true a0_0 a0_1 l0_2 l0_3 a0_4 a0_5 a0_6 a0_7 a0_8 a0_9 a0_10 a0_11 a0_12 a0_13))) = some r := h;clear h;have HC2 := AM H;clear H;(go_enter Tryz.func10, Tryz.ntmps10)
 go_upto_region 1 with (first | ((with_reducible refine gate_dst (N := 1) rfl ?_); refine box_event ?hg (N := 1) ?hd (cs := #[.string a0_0, .int .i64 a0_1, .slice A0_2 l0_2.length c0_2, .slice A0_3 l0_3.length c0_3, .string a0_4, .string a0_5, .string a0_6, .int .i64 a0_7, .int .i64 a0_8, .int .i64 a0_9, .bool a0_10, .int .i64 a0_11, .string a0_12, .string a0_13]) (t := 33) ?hr ?_; (case hd => rfl); (case hg => rfl); (case hr => first | (go_simp; done) | (go_simp; rfl)); intro gb153 hg w3 hbox hb; have BK153 := AM (hbox); have GW153 := AM ((by rw [hg]; exact (below_size (by with_reducible repeat first | exact HB.out | apply pA | apply pN | apply p1)) : w.heap.size ≤ gb153)); have GE153 := AM ((by rw [hg]; exact (below_size (by with_reducible repeat first | exact HB.out | apply pA | apply pN | apply p1)) : w.heap.size ≤ gb153)); replace HB := AM (bS (by with_reducible repeat first | exact HB.out | apply pA | apply pN | apply p1) hb); clear hb hbox hg))
 (try simp only [Act.put, List.setIfInBounds_toArray, List.set_cons_zero, List.set_cons_succ]);(go_cut [24] (fun v24 wc => ∃ (kq : Nat) (x24_1 : Bool), v24 = .bool x24_1 ∧ Aside0 (spec_l4Entry.j0 kq x24_1 a0_0 a0_1 l0_2 l0_3 a0_4 a0_5 a0_6 a0_7 a0_8 a0_9 a0_10 a0_11 a0_12 a0_13 = some r) ∧ Aside0 (kq ≤ k) ∧ Aside0 (wc.heap[gb153]? = some (.cells #[.string a0_0, .int .i64 a0_1, (.slice A0_2 l0_2.length c0_2), (.slice A0_3 l0_3.length c0_3), .string a0_4, .string a0_5, .string a0_6, .int .i64 a0_7, .int .i64 a0_8, .int .i64 a0_9, .bool a0_10, .int .i64 a0_11, .string a0_12, .string a0_13] 33 (0, 0))) ∧ Aside0 (Below w.heap.size w wc)))
 case first =>
  have H := HC2.out;clear HC2;replace H := oB.mp H;obtain ⟨t154, A40, H⟩ := H;(try dsimp only at H);have A4 := AM A40;clear A40;by_cases c5 : t154 = true
  ·subst c5
   (have H1 : ((spec_l1In.f a0_1 1 4).bind fun t155 => (if t155 = true then ((spec_l2List.f k l0_2).bind fun t156 => (if t156 = true then ((spec_l2List.f k l0_3).bind fun t157 => (spec_l4Entry.j0 k (!t157) a0_0 a0_1 l0_2 l0_3 a0_4 a0_5 a0_6 a0_7 a0_8 a0_9 a0_10 a0_11 a0_12 a0_13)) else (spec_l4Entry.j0 k true a0_0 a0_1 l0_2 l0_3 a0_4 a0_5 a0_6 a0_7 a0_8 a0_9 a0_10 a0_11 a0_12 a0_13))) else (spec_l4Entry.j0 k true a0_0 a0_1 l0_2 l0_3 a0_4 a0_5 a0_6 a0_7 a0_8 a0_9 a0_10 a0_11 a0_12 a0_13))) = some r := by rw [if_pos rfl] at H; exact H);clear H;have H := H1;clear H1;replace H := oB.mp H;obtain ⟨t155, A60, H⟩ := H;(try dsimp only at H);have A6 := AM A60;clear A60;by_cases c7 : t155 = true
   ·subst c7
    (have H1 : ((spec_l2List.f k l0_2).bind fun t156 => (if t156 = true then ((spec_l2List.f k l0_3).bind fun t157 => (spec_l4Entry.j0 k (!t157) a0_0 a0_1 l0_2 l0_3 a0_4 a0_5 a0_6 a0_7 a0_8 a0_9 a0_10 a0_11 a0_12 a0_13)) else (spec_l4Entry.j0 k true a0_0 a0_1 l0_2 l0_3 a0_4 a0_5 a0_6 a0_7 a0_8 a0_9 a0_10 a0_11 a0_12 a0_13))) = some r := by rw [if_pos rfl] at H; exact H);clear H;have H := H1;clear H1;replace H := oB.mp H;obtain ⟨t156, A80, H⟩ := H;(try dsimp only at H);have A8 := AM A80;clear A80;by_cases c9 : t156 = true
    ·subst c9
     (have H1 : ((spec_l2List.f k l0_3).bind fun t157 => (spec_l4Entry.j0 k (!t157) a0_0 a0_1 l0_2 l0_3 a0_4 a0_5 a0_6 a0_7 a0_8 a0_9 a0_10 a0_11 a0_12 a0_13)) = some r := by rw [if_pos rfl] at H; exact H);clear H;have H := H1;clear H1;replace H := oB.mp H;obtain ⟨t157, A100, H⟩ := H;(try dsimp only at H);have A10 := AM A100;clear A100;have H' := AM H;clear H;obtain ⟨z11_0, z11_1, z11_2, z11_3, z11_4, z11_5, z11_6, z11_7, z11_8, z11_9, z11_10, z11_11, z11_12, z11_13⟩ := cells14 BK153.out
     go_wp2_with (first | ((with_reducible refine gC (f := 19) rfl ?_); refine gL (some 5) rfl rfl Tryz.func19 (by kernel_rfl) rfl #[.string a0_0] rfl (by (try simp only [mT, mC, mN]); try rfl) ?_; (with_reducible refine (spec_l4Key.calls k a0_0 true _ A4.out).mono ?_); rintro e w' ⟨rfl, ⟨nd, rfl⟩⟩; refine ⟨_, rfl, ?_⟩) | (go_at_call 20; (with_reducible refine (spec_l1In.calls a0_1 1 4 true _ A6.out).mono ?_); rintro e w' ⟨rfl, ⟨nd, rfl⟩⟩) | (go_at_call 21; (with_reducible refine (spec_l2List.calls k _ _ l0_2 true _ ?side1 ?side2 A8.out).mono ?_); (case side1 => repeat (first | exact (cB HR0_2.out (by with_reducible repeat first | exact HB.out | apply pA | apply pN | apply p1 | refine pS ?_ GE153.out)) | (with_reducible refine cA ?_ _) | (with_reducible refine cN ?_ _) | (with_reducible refine cD ?_))); (case side2 => exact HC0_2.out); rintro e w12 ⟨rfl, hb⟩; replace BK153 := AM (bB (by (with_reducible repeat first | apply bN | apply bW | apply bL); exact BK153.out) hb); replace HB := AM (bS (by with_reducible repeat first | exact HB.out | apply pA | apply pN | apply p1 | refine pS ?_ GE153.out) hb); (try clear hb); obtain ⟨z13_0, z13_1, z13_2, z13_3, z13_4, z13_5, z13_6, z13_7, z13_8, z13_9, z13_10, z13_11, z13_12, z13_13⟩ := cells14 BK153.out) | (go_at_call 21; (with_reducible refine (spec_l2List.calls k _ _ l0_3 t157 _ ?side1 ?side2 A10.out).mono ?_); (case side1 => repeat first | exact (cB HR0_3.out HB.out) | with_reducible first | apply cA | apply cN | apply cD); (case side2 => exact HC0_3.out); rintro e w14 ⟨rfl, hb⟩; replace BK153 := AM (bB (by (with_reducible repeat first | apply bN | apply bW | apply bL); exact BK153.out) hb); replace HB := AM (bS (by with_reducible repeat first | exact HB.out | apply pA | apply pN | apply p1 | refine pS ?_ GE153.out) hb); (try clear hb)))
     go_meet
     case rel => exact ⟨_, (!t157), (by first | rfl | (simp; done) | (simp [*]; done)), H', ⟨by first | omega | exact Nat.le_refl _⟩, ⟨by (with_reducible repeat (first | refine bN ?_ _ | refine bW ?_ | refine bL ?_ _)); exact BK153.out⟩, ⟨by with_reducible repeat first | exact HB.out | apply pA | apply pN | apply p1 | refine pS ?_ GE153.out⟩⟩
    ·replace c9 := bE.mpr c9
     subst c9;(have H1 : (spec_l4Entry.j0 k true a0_0 a0_1 l0_2 l0_3 a0_4 a0_5 a0_6 a0_7 a0_8 a0_9 a0_10 a0_11 a0_12 a0_13) = some r := by rw [if_neg (show ¬ (false = true) by decide)] at H; exact H);clear H;have H := H1;clear H1;have H' := AM H;clear H;obtain ⟨z15_0, z15_1, z15_2, z15_3, z15_4, z15_5, z15_6, z15_7, z15_8, z15_9, z15_10, z15_11, z15_12, z15_13⟩ := cells14 BK153.out
     go_wp2_with (first | ((with_reducible refine gC (f := 19) rfl ?_); refine gL (some 5) rfl rfl Tryz.func19 (by kernel_rfl) rfl #[.string a0_0] rfl (by (try simp only [mT, mC, mN]); try rfl) ?_; (with_reducible refine (spec_l4Key.calls k a0_0 true _ A4.out).mono ?_); rintro e w' ⟨rfl, ⟨nd, rfl⟩⟩; refine ⟨_, rfl, ?_⟩) | (go_at_call 20; (with_reducible refine (spec_l1In.calls a0_1 1 4 true _ A6.out).mono ?_); rintro e w' ⟨rfl, ⟨nd, rfl⟩⟩) | (go_at_call 21; (with_reducible refine (spec_l2List.calls k _ _ l0_2 false _ ?side1 ?side2 A8.out).mono ?_); (case side1 => repeat (first | exact (cB HR0_2.out (by with_reducible repeat first | exact HB.out | apply pA | apply pN | apply p1 | refine pS ?_ GE153.out)) | (with_reducible refine cA ?_ _) | (with_reducible refine cN ?_ _) | (with_reducible refine cD ?_))); (case side2 => exact HC0_2.out); rintro e w16 ⟨rfl, hb⟩; replace BK153 := AM (bB (by (with_reducible repeat first | apply bN | apply bW | apply bL); exact BK153.out) hb); replace HB := AM (bS (by with_reducible repeat first | exact HB.out | apply pA | apply pN | apply p1 | refine pS ?_ GE153.out) hb); (try clear hb)))
     go_meet
     case rel => exact ⟨_, (true), (by first | rfl | (simp; done) | (simp [*]; done)), H', ⟨by first | omega | exact Nat.le_refl _⟩, ⟨by (with_reducible repeat (first | refine bN ?_ _ | refine bW ?_ | refine bL ?_ _)); exact BK153.out⟩, ⟨by with_reducible repeat first | exact HB.out | apply pA | apply pN | apply p1 | refine pS ?_ GE153.out⟩⟩
   ·replace c7 := bE.mpr c7
    subst c7;(have H1 : (spec_l4Entry.j0 k true a0_0 a0_1 l0_2 l0_3 a0_4 a0_5 a0_6 a0_7 a0_8 a0_9 a0_10 a0_11 a0_12 a0_13) = some r := by rw [if_neg (show ¬ (false = true) by decide)] at H; exact H);clear H;have H := H1;clear H1;have H' := AM H;clear H;obtain ⟨z17_0, z17_1, z17_2, z17_3, z17_4, z17_5, z17_6, z17_7, z17_8, z17_9, z17_10, z17_11, z17_12, z17_13⟩ := cells14 BK153.out
    go_wp2_with (first | ((with_reducible refine gC (f := 19) rfl ?_); refine gL (some 5) rfl rfl Tryz.func19 (by kernel_rfl) rfl #[.string a0_0] rfl (by (try simp only [mT, mC, mN]); try rfl) ?_; (with_reducible refine (spec_l4Key.calls k a0_0 true _ A4.out).mono ?_); rintro e w' ⟨rfl, ⟨nd, rfl⟩⟩; refine ⟨_, rfl, ?_⟩) | (go_at_call 20; (with_reducible refine (spec_l1In.calls a0_1 1 4 false _ A6.out).mono ?_); rintro e w' ⟨rfl, ⟨nd, rfl⟩⟩))
    go_meet
    case rel => exact ⟨_, (true), (by first | rfl | (simp; done) | (simp [*]; done)), H', ⟨by first | omega | exact Nat.le_refl _⟩, ⟨by (with_reducible repeat (first | refine bN ?_ _ | refine bW ?_ | refine bL ?_ _)); exact BK153.out⟩, ⟨by with_reducible repeat first | exact HB.out | apply pA | apply pN | apply p1 | refine pS ?_ GE153.out⟩⟩
  ·replace c5 := bE.mpr c5
   subst c5;(have H1 : (spec_l4Entry.j0 k true a0_0 a0_1 l0_2 l0_3 a0_4 a0_5 a0_6 a0_7 a0_8 a0_9 a0_10 a0_11 a0_12 a0_13) = some r := by rw [if_neg (show ¬ (false = true) by decide)] at H; exact H);clear H;have H := H1;clear H1;have H' := AM H;clear H;obtain ⟨z18_0, z18_1, z18_2, z18_3, z18_4, z18_5, z18_6, z18_7, z18_8, z18_9, z18_10, z18_11, z18_12, z18_13⟩ := cells14 BK153.out
   go_wp2_with (first | ((with_reducible refine gC (f := 19) rfl ?_); refine gL (some 5) rfl rfl Tryz.func19 (by kernel_rfl) rfl #[.string a0_0] rfl (by (try simp only [mT, mC, mN]); try rfl) ?_; (with_reducible refine (spec_l4Key.calls k a0_0 false _ A4.out).mono ?_); rintro e w' ⟨rfl, ⟨nd, rfl⟩⟩; refine ⟨_, rfl, ?_⟩))
   go_meet
   case rel => exact ⟨_, (true), (by first | rfl | (simp; done) | (simp [*]; done)), H', ⟨by first | omega | exact Nat.le_refl _⟩, ⟨by (with_reducible repeat (first | refine bN ?_ _ | refine bW ?_ | refine bL ?_ _)); exact BK153.out⟩, ⟨by with_reducible repeat first | exact HB.out | apply pA | apply pN | apply p1 | refine pS ?_ GE153.out⟩⟩
 case rest =>
  clear HC2;(try clear c1);(try clear p2);(try clear c5);(try clear c7);(try clear c9);(try clear c10);(try clear z11_0 z11_1 z11_10 z11_11 z11_12 z11_13 z11_2 z11_3 z11_4 z11_5 z11_6 z11_7 z11_8 z11_9);(try clear z13_0 z13_1 z13_10 z13_11 z13_12 z13_13 z13_2 z13_3 z13_4 z13_5 z13_6 z13_7 z13_8 z13_9);(try clear z15_0 z15_1 z15_10 z15_11 z15_12 z15_13 z15_2 z15_3 z15_4 z15_5 z15_6 z15_7 z15_8 z15_9);(try clear z17_0 z17_1 z17_10 z17_11 z17_12 z17_13 z17_2 z17_3 z17_4 z17_5 z17_6 z17_7 z17_8 z17_9);(try clear z18_0 z18_1 z18_10 z18_11 z18_12 z18_13 z18_2 z18_3 z18_4 z18_5 z18_6 z18_7 z18_8 z18_9);obtain ⟨kq, x24_1, rfl, HA, HJ1, BK153, HB⟩ := hcut
  cases kq with
  | zero => exact absurd HA.out (by simp [spec_l4Entry.j0])
  | succ kj1 =>
   have H := HA.out;clear HA;simp only [spec_l4Entry.j0] at H;by_cases c19 : x24_1 = true;(·subst c19;(have H1 : (some false) = some r := by rw [if_pos rfl] at H; exact H);clear H;have H := H1;clear H1;obtain rfl := oI H;(go_wp2);(go_ret);exact ⟨rfl, by with_reducible repeat first | exact HB.out | apply pA | apply pN | apply p1 | refine pS ?_ GE153.out⟩)
   ·replace c19 := bE.mpr c19
    subst c19;(have H1 : ((spec_l4Text.f kj1 a0_4).bind fun t158 => (if t158 = true then ((spec_l4Text.f kj1 a0_5).bind fun t159 => (if t159 = true then ((spec_l4Text.f kj1 a0_6).bind fun t160 => (if t160 = true then ((spec_l4Text.f kj1 a0_12).bind fun t161 => (spec_l4Entry.j1 kj1 (!t161) a0_0 a0_1 l0_2 l0_3 a0_4 a0_5 a0_6 a0_7 a0_8 a0_9 a0_10 a0_11 a0_12 a0_13)) else (spec_l4Entry.j1 kj1 true a0_0 a0_1 l0_2 l0_3 a0_4 a0_5 a0_6 a0_7 a0_8 a0_9 a0_10 a0_11 a0_12 a0_13))) else (spec_l4Entry.j1 kj1 true a0_0 a0_1 l0_2 l0_3 a0_4 a0_5 a0_6 a0_7 a0_8 a0_9 a0_10 a0_11 a0_12 a0_13))) else (spec_l4Entry.j1 kj1 true a0_0 a0_1 l0_2 l0_3 a0_4 a0_5 a0_6 a0_7 a0_8 a0_9 a0_10 a0_11 a0_12 a0_13))) = some r := by rw [if_neg (show ¬ (false = true) by decide)] at H; exact H);clear H;have H := H1;clear H1;have HC20 := AM H;clear H
    go_upto_region 3 with (fail)
    go_cut [46] (fun v46 wc => ∃ (kq : Nat) (x46_19 : Bool), v46 = .bool x46_19 ∧ Aside0 (spec_l4Entry.j1 kq x46_19 a0_0 a0_1 l0_2 l0_3 a0_4 a0_5 a0_6 a0_7 a0_8 a0_9 a0_10 a0_11 a0_12 a0_13 = some r) ∧ Aside0 (kq ≤ kj1) ∧ Aside0 (wc.heap[gb153]? = some (.cells #[.string a0_0, .int .i64 a0_1, (.slice A0_2 l0_2.length c0_2), (.slice A0_3 l0_3.length c0_3), .string a0_4, .string a0_5, .string a0_6, .int .i64 a0_7, .int .i64 a0_8, .int .i64 a0_9, .bool a0_10, .int .i64 a0_11, .string a0_12, .string a0_13] 33 (0, 0))) ∧ Aside0 (Below w.heap.size w wc))
    case first =>
     have H := HC20.out;clear HC20;replace H := oB.mp H;obtain ⟨t158, A210, H⟩ := H;(try dsimp only at H);have A21 := AM A210;clear A210;by_cases c22 : t158 = true
     ·subst c22
      (have H1 : ((spec_l4Text.f kj1 a0_5).bind fun t159 => (if t159 = true then ((spec_l4Text.f kj1 a0_6).bind fun t160 => (if t160 = true then ((spec_l4Text.f kj1 a0_12).bind fun t161 => (spec_l4Entry.j1 kj1 (!t161) a0_0 a0_1 l0_2 l0_3 a0_4 a0_5 a0_6 a0_7 a0_8 a0_9 a0_10 a0_11 a0_12 a0_13)) else (spec_l4Entry.j1 kj1 true a0_0 a0_1 l0_2 l0_3 a0_4 a0_5 a0_6 a0_7 a0_8 a0_9 a0_10 a0_11 a0_12 a0_13))) else (spec_l4Entry.j1 kj1 true a0_0 a0_1 l0_2 l0_3 a0_4 a0_5 a0_6 a0_7 a0_8 a0_9 a0_10 a0_11 a0_12 a0_13))) = some r := by rw [if_pos rfl] at H; exact H);clear H;have H := H1;clear H1;replace H := oB.mp H;obtain ⟨t159, A230, H⟩ := H;(try dsimp only at H);have A23 := AM A230;clear A230;by_cases c24 : t159 = true
      ·subst c24
       (have H1 : ((spec_l4Text.f kj1 a0_6).bind fun t160 => (if t160 = true then ((spec_l4Text.f kj1 a0_12).bind fun t161 => (spec_l4Entry.j1 kj1 (!t161) a0_0 a0_1 l0_2 l0_3 a0_4 a0_5 a0_6 a0_7 a0_8 a0_9 a0_10 a0_11 a0_12 a0_13)) else (spec_l4Entry.j1 kj1 true a0_0 a0_1 l0_2 l0_3 a0_4 a0_5 a0_6 a0_7 a0_8 a0_9 a0_10 a0_11 a0_12 a0_13))) = some r := by rw [if_pos rfl] at H; exact H);clear H;have H := H1;clear H1;replace H := oB.mp H;obtain ⟨t160, A250, H⟩ := H;(try dsimp only at H);have A25 := AM A250;clear A250;by_cases c26 : t160 = true
       ·subst c26
        (have H1 : ((spec_l4Text.f kj1 a0_12).bind fun t161 => (spec_l4Entry.j1 kj1 (!t161) a0_0 a0_1 l0_2 l0_3 a0_4 a0_5 a0_6 a0_7 a0_8 a0_9 a0_10 a0_11 a0_12 a0_13)) = some r := by rw [if_pos rfl] at H; exact H);clear H;have H := H1;clear H1;replace H := oB.mp H;obtain ⟨t161, A270, H⟩ := H;(try dsimp only at H);have A27 := AM A270;clear A270;have H' := AM H;clear H;obtain ⟨z28_0, z28_1, z28_2, z28_3, z28_4, z28_5, z28_6, z28_7, z28_8, z28_9, z28_10, z28_11, z28_12, z28_13⟩ := cells14 BK153.out
        go_wp2_with (first | ((with_reducible refine gC (f := 22) rfl ?_); refine gL (some 27) rfl rfl Tryz.func22 (by kernel_rfl) rfl #[.string a0_4] rfl (by (try simp only [mT, mC, mN]); try rfl) ?_; (with_reducible refine (spec_l4Text.calls kj1 a0_4 true _ A21.out).mono ?_); rintro e w' ⟨rfl, ⟨nd, rfl⟩⟩; refine ⟨_, rfl, ?_⟩) | (go_at_call 22; (with_reducible refine (spec_l4Text.calls kj1 a0_5 true _ A23.out).mono ?_); rintro e w' ⟨rfl, ⟨nd, rfl⟩⟩) | (go_at_call 22; (with_reducible refine (spec_l4Text.calls kj1 a0_6 true _ A25.out).mono ?_); rintro e w' ⟨rfl, ⟨nd, rfl⟩⟩) | (go_at_call 22; (with_reducible refine (spec_l4Text.calls kj1 a0_12 t161 _ A27.out).mono ?_); rintro e w' ⟨rfl, ⟨nd, rfl⟩⟩))
        go_meet
        case rel => exact ⟨_, (!t161), (by first | rfl | (simp; done) | (simp [*]; done)), H', ⟨by have := HJ1.out; first | omega | exact Nat.le_refl _⟩, ⟨by (with_reducible repeat (first | refine bN ?_ _ | refine bW ?_ | refine bL ?_ _)); exact BK153.out⟩, ⟨by with_reducible repeat first | exact HB.out | apply pA | apply pN | apply p1 | refine pS ?_ GE153.out⟩⟩
       ·replace c26 := bE.mpr c26
        subst c26;(have H1 : (spec_l4Entry.j1 kj1 true a0_0 a0_1 l0_2 l0_3 a0_4 a0_5 a0_6 a0_7 a0_8 a0_9 a0_10 a0_11 a0_12 a0_13) = some r := by rw [if_neg (show ¬ (false = true) by decide)] at H; exact H);clear H;have H := H1;clear H1;have H' := AM H;clear H;obtain ⟨z29_0, z29_1, z29_2, z29_3, z29_4, z29_5, z29_6, z29_7, z29_8, z29_9, z29_10, z29_11, z29_12, z29_13⟩ := cells14 BK153.out
        go_wp2_with (first | ((with_reducible refine gC (f := 22) rfl ?_); refine gL (some 27) rfl rfl Tryz.func22 (by kernel_rfl) rfl #[.string a0_4] rfl (by (try simp only [mT, mC, mN]); try rfl) ?_; (with_reducible refine (spec_l4Text.calls kj1 a0_4 true _ A21.out).mono ?_); rintro e w' ⟨rfl, ⟨nd, rfl⟩⟩; refine ⟨_, rfl, ?_⟩) | (go_at_call 22; (with_reducible refine (spec_l4Text.calls kj1 a0_5 true _ A23.out).mono ?_); rintro e w' ⟨rfl, ⟨nd, rfl⟩⟩) | (go_at_call 22; (with_reducible refine (spec_l4Text.calls kj1 a0_6 false _ A25.out).mono ?_); rintro e w' ⟨rfl, ⟨nd, rfl⟩⟩))
        go_meet
        case rel => exact ⟨_, (true), (by first | rfl | (simp; done) | (simp [*]; done)), H', ⟨by have := HJ1.out; first | omega | exact Nat.le_refl _⟩, ⟨by (with_reducible repeat (first | refine bN ?_ _ | refine bW ?_ | refine bL ?_ _)); exact BK153.out⟩, ⟨by with_reducible repeat first | exact HB.out | apply pA | apply pN | apply p1 | refine pS ?_ GE153.out⟩⟩
      ·replace c24 := bE.mpr c24
       subst c24;(have H1 : (spec_l4Entry.j1 kj1 true a0_0 a0_1 l0_2 l0_3 a0_4 a0_5 a0_6 a0_7 a0_8 a0_9 a0_10 a0_11 a0_12 a0_13) = some r := by rw [if_neg (show ¬ (false = true) by decide)] at H; exact H);clear H;have H := H1;clear H1;have H' := AM H;clear H;obtain ⟨z30_0, z30_1, z30_2, z30_3, z30_4, z30_5, z30_6, z30_7, z30_8, z30_9, z30_10, z30_11, z30_12, z30_13⟩ := cells14 BK153.out
       go_wp2_with (first | ((with_reducible refine gC (f := 22) rfl ?_); refine gL (some 27) rfl rfl Tryz.func22 (by kernel_rfl) rfl #[.string a0_4] rfl (by (try simp only [mT, mC, mN]); try rfl) ?_; (with_reducible refine (spec_l4Text.calls kj1 a0_4 true _ A21.out).mono ?_); rintro e w' ⟨rfl, ⟨nd, rfl⟩⟩; refine ⟨_, rfl, ?_⟩) | (go_at_call 22; (with_reducible refine (spec_l4Text.calls kj1 a0_5 false _ A23.out).mono ?_); rintro e w' ⟨rfl, ⟨nd, rfl⟩⟩))
       go_meet
       case rel => exact ⟨_, (true), (by first | rfl | (simp; done) | (simp [*]; done)), H', ⟨by have := HJ1.out; first | omega | exact Nat.le_refl _⟩, ⟨by (with_reducible repeat (first | refine bN ?_ _ | refine bW ?_ | refine bL ?_ _)); exact BK153.out⟩, ⟨by with_reducible repeat first | exact HB.out | apply pA | apply pN | apply p1 | refine pS ?_ GE153.out⟩⟩
     ·replace c22 := bE.mpr c22
      subst c22;(have H1 : (spec_l4Entry.j1 kj1 true a0_0 a0_1 l0_2 l0_3 a0_4 a0_5 a0_6 a0_7 a0_8 a0_9 a0_10 a0_11 a0_12 a0_13) = some r := by rw [if_neg (show ¬ (false = true) by decide)] at H; exact H);clear H;have H := H1;clear H1;have H' := AM H;clear H;obtain ⟨z31_0, z31_1, z31_2, z31_3, z31_4, z31_5, z31_6, z31_7, z31_8, z31_9, z31_10, z31_11, z31_12, z31_13⟩ := cells14 BK153.out
      go_wp2_with (first | ((with_reducible refine gC (f := 22) rfl ?_); refine gL (some 27) rfl rfl Tryz.func22 (by kernel_rfl) rfl #[.string a0_4] rfl (by (try simp only [mT, mC, mN]); try rfl) ?_; (with_reducible refine (spec_l4Text.calls kj1 a0_4 false _ A21.out).mono ?_); rintro e w' ⟨rfl, ⟨nd, rfl⟩⟩; refine ⟨_, rfl, ?_⟩))
      go_meet
      case rel => exact ⟨_, (true), (by first | rfl | (simp; done) | (simp [*]; done)), H', ⟨by have := HJ1.out; first | omega | exact Nat.le_refl _⟩, ⟨by (with_reducible repeat (first | refine bN ?_ _ | refine bW ?_ | refine bL ?_ _)); exact BK153.out⟩, ⟨by with_reducible repeat first | exact HB.out | apply pA | apply pN | apply p1 | refine pS ?_ GE153.out⟩⟩
    case rest =>
     clear HC20;(try clear c1);(try clear c2);(try clear p2);(try clear c5);(try clear c7);(try clear c9);(try clear c10);(try clear c19);(try clear c22);(try clear c24);(try clear c26);(try clear z11_0 z11_1 z11_10 z11_11 z11_12 z11_13 z11_2 z11_3 z11_4 z11_5 z11_6 z11_7 z11_8 z11_9);(try clear z13_0 z13_1 z13_10 z13_11 z13_12 z13_13 z13_2 z13_3 z13_4 z13_5 z13_6 z13_7 z13_8 z13_9);(try clear z15_0 z15_1 z15_10 z15_11 z15_12 z15_13 z15_2 z15_3 z15_4 z15_5 z15_6 z15_7 z15_8 z15_9);(try clear z17_0 z17_1 z17_10 z17_11 z17_12 z17_13 z17_2 z17_3 z17_4 z17_5 z17_6 z17_7 z17_8 z17_9);(try clear z18_0 z18_1 z18_10 z18_11 z18_12 z18_13 z18_2 z18_3 z18_4 z18_5 z18_6 z18_7 z18_8 z18_9);(try clear z28_0 z28_1 z28_10 z28_11 z28_12 z28_13 z28_2 z28_3 z28_4 z28_5 z28_6 z28_7 z28_8 z28_9);(try clear z29_0 z29_1 z29_10 z29_11 z29_12 z29_13 z29_2 z29_3 z29_4 z29_5 z29_6 z29_7 z29_8 z29_9);(try clear z30_0 z30_1 z30_10 z30_11 z30_12 z30_13 z30_2 z30_3 z30_4 z30_5 z30_6 z30_7 z30_8 z30_9);(try clear z31_0 z31_1 z31_10 z31_11 z31_12 z31_13 z31_2 z31_3 z31_4 z31_5 z31_6 z31_7 z31_8 z31_9);(try clear p2);obtain ⟨kq, x46_19, rfl, HA, HJ19, BK153, HB⟩ := hcut
     cases kq with
     | zero => exact absurd HA.out (by simp [spec_l4Entry.j1])
     | succ kj19 =>
      have H := HA.out;clear HA;simp only [spec_l4Entry.j1] at H;by_cases c32 : x46_19 = true;(·subst c32;(have H1 : (some false) = some r := by rw [if_pos rfl] at H; exact H);clear H;have H := H1;clear H1;obtain rfl := oI H;(go_wp2);(go_ret);exact ⟨rfl, by with_reducible repeat first | exact HB.out | apply pA | apply pN | apply p1 | refine pS ?_ GE153.out⟩)
      ·replace c32 := bE.mpr c32
       subst c32;(have H1 : ((spec_l3Good.f kj19 a0_7 a0_8 a0_9 a0_10).bind fun t162 => (if t162 = true then ((spec_l1In.f a0_11 0 9999).bind fun t163 => (if t163 = true then (if a0_13.toList = ([] : List UInt8) then (some true) else ((spec_l4Key.f kj19 a0_13).bind fun t164 => (if t164 = true then (some (a0_13.toList != a0_0.toList)) else (some false)))) else (some false))) else (some false))) = some r := by rw [if_neg (show ¬ (false = true) by decide)] at H; exact H);clear H;have H := H1;clear H1;replace H := oB.mp H;obtain ⟨t162, A330, H⟩ := H;(try dsimp only at H);have A33 := AM A330;clear A330;by_cases c34 : t162 = true
       ·subst c34
        (have H1 : ((spec_l1In.f a0_11 0 9999).bind fun t163 => (if t163 = true then (if a0_13.toList = ([] : List UInt8) then (some true) else ((spec_l4Key.f kj19 a0_13).bind fun t164 => (if t164 = true then (some (a0_13.toList != a0_0.toList)) else (some false)))) else (some false))) = some r := by rw [if_pos rfl] at H; exact H);clear H;have H := H1;clear H1;replace H := oB.mp H;obtain ⟨t163, A350, H⟩ := H;(try dsimp only at H);have A35 := AM A350;clear A350;by_cases c36 : t163 = true
        ·subst c36
         (have H1 : (if a0_13.toList = ([] : List UInt8) then (some true) else ((spec_l4Key.f kj19 a0_13).bind fun t164 => (if t164 = true then (some (a0_13.toList != a0_0.toList)) else (some false)))) = some r := by rw [if_pos rfl] at H; exact H);clear H;have H := H1;clear H1;by_cases c37 : a0_13.toList = ([] : List UInt8)
         ·rw [if_pos c37] at H
          have c37b0 : (a0_13.toList == ([] : List UInt8)) = true := beq_iff_eq.mpr c37;have c37b1 : (a0_13.toList != ([] : List UInt8)) = false := bne_eq_false_iff_eq.mpr c37;clear c37;obtain rfl := oI H;obtain ⟨z38_0, z38_1, z38_2, z38_3, z38_4, z38_5, z38_6, z38_7, z38_8, z38_9, z38_10, z38_11, z38_12, z38_13⟩ := cells14 BK153.out
          go_wp2_with (first | ((with_reducible refine gC (f := 23) rfl ?_); refine gL (some 49) rfl rfl Tryz.func23 (by kernel_rfl) rfl #[.agg #[.int .i64 a0_7, .int .i64 a0_8, .int .i64 a0_9, .bool a0_10]] rfl (by (try simp only [mT, mC, mN]); try rfl) ?_; (with_reducible refine (spec_l3Good.calls kj19 a0_7 a0_8 a0_9 a0_10 true _ A33.out).mono ?_); rintro e w39 ⟨rfl, hb⟩; refine ⟨_, rfl, ?_⟩; replace BK153 := AM (bB (by (with_reducible repeat first | apply bN | apply bW | apply bL); exact BK153.out) hb); replace HB := AM (bS (by with_reducible repeat first | exact HB.out | apply pA | apply pN | apply p1 | refine pS ?_ GE153.out) hb); (try clear hb); obtain ⟨z40_0, z40_1, z40_2, z40_3, z40_4, z40_5, z40_6, z40_7, z40_8, z40_9, z40_10, z40_11, z40_12, z40_13⟩ := cells14 BK153.out) | (go_at_call 20; (with_reducible refine (spec_l1In.calls a0_11 0 9999 true _ A35.out).mono ?_); rintro e w' ⟨rfl, ⟨nd, rfl⟩⟩))
          (go_ret);exact ⟨rfl, by with_reducible repeat first | exact HB.out | apply pA | apply pN | apply p1 | refine pS ?_ GE153.out⟩
         ·rw [if_neg c37] at H
          have c37b0 : (a0_13.toList == ([] : List UInt8)) = false := beq_eq_false_iff_ne.mpr c37;have c37b1 : (a0_13.toList != ([] : List UInt8)) = true := bne_iff_ne.mpr c37;replace H := oB.mp H;obtain ⟨t164, A410, H⟩ := H;(try dsimp only at H);have A41 := AM A410;clear A410;by_cases c42 : t164 = true
          ·subst c42
           (have H1 : (some (a0_13.toList != a0_0.toList)) = some r := by rw [if_pos rfl] at H; exact H);clear H;have H := H1;clear H1;obtain rfl := oI H;obtain ⟨z43_0, z43_1, z43_2, z43_3, z43_4, z43_5, z43_6, z43_7, z43_8, z43_9, z43_10, z43_11, z43_12, z43_13⟩ := cells14 BK153.out
           go_wp2_with (first | ((with_reducible refine gC (f := 23) rfl ?_); refine gL (some 49) rfl rfl Tryz.func23 (by kernel_rfl) rfl #[.agg #[.int .i64 a0_7, .int .i64 a0_8, .int .i64 a0_9, .bool a0_10]] rfl (by (try simp only [mT, mC, mN]); try rfl) ?_; (with_reducible refine (spec_l3Good.calls kj19 a0_7 a0_8 a0_9 a0_10 true _ A33.out).mono ?_); rintro e w44 ⟨rfl, hb⟩; refine ⟨_, rfl, ?_⟩; replace BK153 := AM (bB (by (with_reducible repeat first | apply bN | apply bW | apply bL); exact BK153.out) hb); replace HB := AM (bS (by with_reducible repeat first | exact HB.out | apply pA | apply pN | apply p1 | refine pS ?_ GE153.out) hb); (try clear hb); obtain ⟨z45_0, z45_1, z45_2, z45_3, z45_4, z45_5, z45_6, z45_7, z45_8, z45_9, z45_10, z45_11, z45_12, z45_13⟩ := cells14 BK153.out) | (go_at_call 20; (with_reducible refine (spec_l1In.calls a0_11 0 9999 true _ A35.out).mono ?_); rintro e w' ⟨rfl, ⟨nd, rfl⟩⟩) | (go_at_call 19; (with_reducible refine (spec_l4Key.calls kj19 a0_13 true _ A41.out).mono ?_); rintro e w' ⟨rfl, ⟨nd, rfl⟩⟩))
           (go_ret);exact ⟨rfl, by with_reducible repeat first | exact HB.out | apply pA | apply pN | apply p1 | refine pS ?_ GE153.out⟩
          ·replace c42 := bE.mpr c42
           subst c42;(have H1 : (some false) = some r := by rw [if_neg (show ¬ (false = true) by decide)] at H; exact H);clear H;have H := H1;clear H1;obtain rfl := oI H;obtain ⟨z46_0, z46_1, z46_2, z46_3, z46_4, z46_5, z46_6, z46_7, z46_8, z46_9, z46_10, z46_11, z46_12, z46_13⟩ := cells14 BK153.out
           go_wp2_with (first | ((with_reducible refine gC (f := 23) rfl ?_); refine gL (some 49) rfl rfl Tryz.func23 (by kernel_rfl) rfl #[.agg #[.int .i64 a0_7, .int .i64 a0_8, .int .i64 a0_9, .bool a0_10]] rfl (by (try simp only [mT, mC, mN]); try rfl) ?_; (with_reducible refine (spec_l3Good.calls kj19 a0_7 a0_8 a0_9 a0_10 true _ A33.out).mono ?_); rintro e w47 ⟨rfl, hb⟩; refine ⟨_, rfl, ?_⟩; replace BK153 := AM (bB (by (with_reducible repeat first | apply bN | apply bW | apply bL); exact BK153.out) hb); replace HB := AM (bS (by with_reducible repeat first | exact HB.out | apply pA | apply pN | apply p1 | refine pS ?_ GE153.out) hb); (try clear hb); obtain ⟨z48_0, z48_1, z48_2, z48_3, z48_4, z48_5, z48_6, z48_7, z48_8, z48_9, z48_10, z48_11, z48_12, z48_13⟩ := cells14 BK153.out) | (go_at_call 20; (with_reducible refine (spec_l1In.calls a0_11 0 9999 true _ A35.out).mono ?_); rintro e w' ⟨rfl, ⟨nd, rfl⟩⟩) | (go_at_call 19; (with_reducible refine (spec_l4Key.calls kj19 a0_13 false _ A41.out).mono ?_); rintro e w' ⟨rfl, ⟨nd, rfl⟩⟩))
           (go_ret);exact ⟨rfl, by with_reducible repeat first | exact HB.out | apply pA | apply pN | apply p1 | refine pS ?_ GE153.out⟩
        ·replace c36 := bE.mpr c36
         subst c36;(have H1 : (some false) = some r := by rw [if_neg (show ¬ (false = true) by decide)] at H; exact H);clear H;have H := H1;clear H1;obtain rfl := oI H;obtain ⟨z49_0, z49_1, z49_2, z49_3, z49_4, z49_5, z49_6, z49_7, z49_8, z49_9, z49_10, z49_11, z49_12, z49_13⟩ := cells14 BK153.out
         go_wp2_with (first | ((with_reducible refine gC (f := 23) rfl ?_); refine gL (some 49) rfl rfl Tryz.func23 (by kernel_rfl) rfl #[.agg #[.int .i64 a0_7, .int .i64 a0_8, .int .i64 a0_9, .bool a0_10]] rfl (by (try simp only [mT, mC, mN]); try rfl) ?_; (with_reducible refine (spec_l3Good.calls kj19 a0_7 a0_8 a0_9 a0_10 true _ A33.out).mono ?_); rintro e w50 ⟨rfl, hb⟩; refine ⟨_, rfl, ?_⟩; replace BK153 := AM (bB (by (with_reducible repeat first | apply bN | apply bW | apply bL); exact BK153.out) hb); replace HB := AM (bS (by with_reducible repeat first | exact HB.out | apply pA | apply pN | apply p1 | refine pS ?_ GE153.out) hb); (try clear hb); obtain ⟨z51_0, z51_1, z51_2, z51_3, z51_4, z51_5, z51_6, z51_7, z51_8, z51_9, z51_10, z51_11, z51_12, z51_13⟩ := cells14 BK153.out) | (go_at_call 20; (with_reducible refine (spec_l1In.calls a0_11 0 9999 false _ A35.out).mono ?_); rintro e w' ⟨rfl, ⟨nd, rfl⟩⟩))
         (go_ret);exact ⟨rfl, by with_reducible repeat first | exact HB.out | apply pA | apply pN | apply p1 | refine pS ?_ GE153.out⟩
       ·replace c34 := bE.mpr c34
        subst c34;(have H1 : (some false) = some r := by rw [if_neg (show ¬ (false = true) by decide)] at H; exact H);clear H;have H := H1;clear H1;obtain rfl := oI H;obtain ⟨z52_0, z52_1, z52_2, z52_3, z52_4, z52_5, z52_6, z52_7, z52_8, z52_9, z52_10, z52_11, z52_12, z52_13⟩ := cells14 BK153.out
        go_wp2_with (first | ((with_reducible refine gC (f := 23) rfl ?_); refine gL (some 49) rfl rfl Tryz.func23 (by kernel_rfl) rfl #[.agg #[.int .i64 a0_7, .int .i64 a0_8, .int .i64 a0_9, .bool a0_10]] rfl (by (try simp only [mT, mC, mN]); try rfl) ?_; (with_reducible refine (spec_l3Good.calls kj19 a0_7 a0_8 a0_9 a0_10 false _ A33.out).mono ?_); rintro e w53 ⟨rfl, hb⟩; refine ⟨_, rfl, ?_⟩; replace BK153 := AM (bB (by (with_reducible repeat first | apply bN | apply bW | apply bL); exact BK153.out) hb); replace HB := AM (bS (by with_reducible repeat first | exact HB.out | apply pA | apply pN | apply p1 | refine pS ?_ GE153.out) hb); (try clear hb)))
        (go_ret);exact ⟨rfl, by with_reducible repeat first | exact HB.out | apply pA | apply pN | apply p1 | refine pS ?_ GE153.out⟩
theorem spec_l2Text.cmp (a b : List UInt8) : Lib.compareBytes a b = if Op.bytesLess a b = true then -1 else if (!(Op.bytesLess a b || a == b)) = true then 1 else 0 := by
  induction a generalizing b with
  | nil => cases b <;> simp [Lib.compareBytes, Op.bytesLess]
  | cons x a ih =>
    cases b with
    | nil => simp [Lib.compareBytes, Op.bytesLess]
    | cons y b =>
      unfold Lib.compareBytes Op.bytesLess;by_cases h1 : x < y;(·simp [h1])
      · by_cases h2 : y < x
        · have hne : ¬ x = y := by rintro rfl; exact h1 h2
          simp [h1, h2, hne]
        · have he : x = y := by
            apply UInt8.toNat_inj.1;rw [UInt8.lt_iff_toNat_lt] at h1 h2;omega
          subst he;rw [if_neg h1, if_neg h2, ih b];simp [h1]
def spec_l2Text.f (a0 : ByteArray) (a1 : ByteArray) : Option (Int) := some (Lib.compareBytes a0.data.toList a1.data.toList)
set_option maxHeartbeats 1000000 in
set_option maxRecDepth 100000 in
theorem spec_l2Text.calls (a0 : ByteArray) (a1 : ByteArray) (r : Int) (w : World) (h : spec_l2Text.f a0 a1 = some r) :
    Calls Tryz.prog 29 #[.string a0, .string a1] w fun e w' => e = .returned (.int .i64 r) ∧ Drawn0 w w' := by
  have h' : r = _ := (oI h).symm;clear h;rw [spec_l2Text.cmp] at h';simp only [← Lib.toList_data] at h';(have hgt : ∀ t : TypeId, binOp .gtr t (.string a0) (.string a1) = pure (.bool !(Op.bytesLess a0.toList a1.toList || a0.toList == a1.toList)) := fun t => by simp [binOp, Op.stringOp]);by_cases c1 : Op.bytesLess a0.toList a1.toList = true;(·rw [if_pos c1] at h';subst h';(go_enter Tryz.func29, Tryz.ntmps29);(go_wp2);(go_ret);exact ⟨rfl, Drawn0.refl _⟩);(·rw [if_neg c1] at h';replace c1 := bE.mpr c1;by_cases c2 : (a0.toList == a1.toList) = true;(·rw [c1, c2, if_neg (by decide)] at h';subst h';(go_enter Tryz.func29, Tryz.ntmps29);(go_wp2);(go_ret);exact ⟨rfl, Drawn0.refl _⟩);(·replace c2 := bE.mpr c2;rw [c1, c2, if_pos (by decide)] at h';subst h';(go_enter Tryz.func29, Tryz.ntmps29);(go_wp2);(go_ret);exact ⟨rfl, Drawn0.refl _⟩))
/-- A letter in lower case. -/
def spec_l2Low.isU (b : Int) : Bool := decide (b ≥ 65) && decide (b ≤ 90)
def spec_l2Low.low (b : Int) : Int := if spec_l2Low.isU b = true then b + 32 else b
def spec_l2Low.f (a0 : ByteArray) : Option (ByteArray) := if a0.size ≤ 140737488351232 then some (strOfNums ((bytesOf a0).map spec_l2Low.low)) else none
theorem spec_l2Low.isU_eq (b : Int) : spec_l2Upper.f b = some (spec_l2Low.isU b) := by
  unfold spec_l2Upper.f spec_l2Low.isU;by_cases h : b ≥ 65;(·(rw [if_pos h, dT h]; rfl));(·(rw [if_neg h, dF h]; rfl))
/-- The row half way. -/
def spec_l2Low.half (l : List Int) (j : Nat) : List Int := (l.take j).map spec_l2Low.low ++ l.drop j
theorem spec_l2Low.half_len (l : List Int) (j : Nat) : (spec_l2Low.half l j).length = l.length := by simp [spec_l2Low.half]; omega
theorem spec_l2Low.half_at (l : List Int) (j : Nat) (hj : j < l.length) : (spec_l2Low.half l j).getD j 0 = l.getD j 0 := by
  unfold spec_l2Low.half;rw [List.getD_eq_getElem?_getD, List.getElem?_append_right (by simp; omega)];simp [List.getD, Nat.min_eq_left (Nat.le_of_lt hj)]
theorem spec_l2Low.half_next (l : List Int) (j : Nat) (hj : j < l.length) (v : Int) (hv : v = spec_l2Low.low (l.getD j 0)) : (spec_l2Low.half l j).set j v = spec_l2Low.half l (j + 1) := by
  subst hv;unfold spec_l2Low.half;rw [List.set_append_right _ _ (by simp; omega), List.take_succ_eq_append_getElem hj, List.map_append];(have e : j - (List.map spec_l2Low.low (List.take j l)).length = 0 := by simp; omega);(have hg : l.getD j 0 = l[j] := by simp [List.getD, List.getElem?_eq_getElem hj]);rw [e, List.drop_eq_getElem_cons hj, List.set_cons_zero, hg];simp only [mC, mN, List.append_assoc, List.singleton_append]
theorem spec_l2Low.half_all (l : List Int) (n : Nat) (hn : l.length = n) : spec_l2Low.half l n = l.map spec_l2Low.low := by
  unfold spec_l2Low.half;rw [List.take_of_length_le (by omega), List.drop_of_length_le (by omega), List.append_nil]
theorem spec_l2Low.half_same (l : List Int) (j : Nat) (hj : j < l.length) (hv : spec_l2Low.low (l.getD j 0) = l.getD j 0) : spec_l2Low.half l (j + 1) = spec_l2Low.half l j := by
  have h := spec_l2Low.half_next l j hj _ hv.symm;rw [← h];apply List.ext_getElem?;intro i;by_cases e : j = i;(·subst e;rw [List.getElem?_set_self (by rw [spec_l2Low.half_len]; exact hj)];have := spec_l2Low.half_at l j hj;rw [List.getD_eq_getElem?_getD, List.getElem?_eq_getElem (by rw [spec_l2Low.half_len]; exact hj)] at this;rw [List.getElem?_eq_getElem (by rw [spec_l2Low.half_len]; exact hj)];exact congrArg some this.symm);(·rw [List.getElem?_set_ne e])
theorem spec_l2Low.bytes_lt (s : ByteArray) (j : Nat) : 0 ≤ (bytesOf s).getD j 0 ∧ (bytesOf s).getD j 0 ≤ 255 := by
  have h := rd_bytesOf s (j : Int);unfold rd at h;rw [Int.toNat_natCast] at h;rw [h];exact bt_range s _
set_option maxHeartbeats 4000000 in
set_option maxRecDepth 100000 in
theorem spec_l2Low.calls (a0 : ByteArray) (r : ByteArray) (w : World) (h : spec_l2Low.f a0 = some r) :
    Calls Tryz.prog 53 #[.string a0] w fun e w' => e = .returned (.string r) ∧ Below w.heap.size w w' := by
  unfold spec_l2Low.f at h;by_cases hs : a0.size ≤ 140737488351232
  · rw [if_pos hs] at h
    obtain rfl := oI h;clear h;obtain ⟨cap, W1, hconv, hB1, hbel1⟩ := Go.Proofs.YtgpgmamgicgacaaGreatDoorW.Buf.conv_buf (P := Tryz.prog) w 9 75 5 a0 Tryz.underlying9 Tryz.underlying75 Tryz.underlying5;have hlen := bytesOf_length a0;have HB1 := AM hB1;have HBEL1 := AM hbel1;have HLEN := AM hlen;clear hB1 hbel1 hlen;(go_enter Tryz.func53, Tryz.ntmps53);(go_wp2);clear hconv;(go_loopw [4] (fun v wr => ∃ j : Nat, j ≤ a0.size ∧ v = .int .i64 j ∧ Aside0 (Go.Proofs.YtgpgmamgicgacaaGreatDoorW.Buf.Bf wr w.heap.size 5 (spec_l2Low.half (bytesOf a0) j)) ∧ Aside0 (Below w.heap.size w wr)) (fun v _ => a0.size - (intOf v).toNat))
    case atStart => exact ⟨0, Nat.zero_le _, rfl, ⟨by simpa [spec_l2Low.half] using HB1.out⟩, HBEL1⟩
    case round =>
      obtain ⟨j, hj, rfl, HB, HBEL⟩ := hrel;by_cases hlt : j < a0.size
      · have hjl : j < (bytesOf a0).length := by rw [HLEN.out]; exact hlt
        (have hjh : j < (spec_l2Low.half (bytesOf a0) j).length := by rw [spec_l2Low.half_len]; exact hjl);have hcell := HB.out.cell j hjh;rw [spec_l2Low.half_at _ _ hjl] at hcell;have hfroz := HB.out.frozen j hjh;have hrng := spec_l2Low.bytes_lt a0 j;have HN := AM (spec_l2Low.half_next (bytesOf a0) j hjl);have HS := AM (spec_l2Low.half_same (bytesOf a0) j hjl)
        obtain ⟨b, hbdef⟩ : ∃ b, b = (bytesOf a0).getD j 0 := ⟨_, rfl⟩
        rw [← hbdef] at hcell hrng;have HBD := AM hbdef;clear hbdef hjl;have hb0 := hrng.1;have hb1 := hrng.2;clear hrng;by_cases hu : spec_l2Low.isU b = true
        · go_wp2_with (go_at_call 72; (with_reducible refine (spec_l2Upper.calls b true _ ((spec_l2Low.isU_eq b).trans (by rw [hu]))).mono ?_); rintro e w' ⟨rfl, ⟨nq, rfl⟩⟩)
          have hv : (b + 32) % 256 = spec_l2Low.low ((bytesOf a0).getD j 0) := by
            rw [← HBD.out];unfold spec_l2Low.low;rw [if_pos hu];unfold spec_l2Low.isU at hu;have := oD (Bool.and_eq_true_iff.1 hu).1;have := oD (Bool.and_eq_true_iff.1 hu).2;omega
          refine ⟨⟨j + 1, by omega, by go_num, ⟨?_⟩, ⟨(pN HBEL.out nq).setCell (Nat.le_refl _) _⟩⟩, by simp [intOf]; omega⟩;rw [← HN.out _ hv];exact (HB.out.drewN nq).set j hjh _
        · go_wp2_with (go_at_call 72; (with_reducible refine (spec_l2Upper.calls b false _ ((spec_l2Low.isU_eq b).trans (by rw [bE.mpr hu]))).mono ?_); rintro e w' ⟨rfl, ⟨nq, rfl⟩⟩)
          refine ⟨⟨j + 1, by omega, by go_num, ⟨?_⟩, ⟨pN HBEL.out nq⟩⟩, by simp [intOf]; omega⟩;rw [HS.out (by rw [← HBD.out]; unfold spec_l2Low.low; rw [if_neg hu])];exact HB.out.drewN nq
      · obtain rfl : j = a0.size := by omega
        have hback := Go.Proofs.YtgpgmamgicgacaaGreatDoorW.Buf.conv_back (P := Tryz.prog) HB.out 75 9 a0.size cap ((spec_l2Low.half_len _ _).trans HLEN.out) Tryz.underlying75 Tryz.underlying9 Tryz.underlying5;rw [spec_l2Low.half_all _ _ HLEN.out] at hback;(go_wp2);(go_ret);exact ⟨rfl, HBEL.out⟩
  · rw [if_neg hs] at h
    cases h
def spec_l2Join.l0 : Nat → List ByteArray → ByteArray → Int → Option (ByteArray)
 | 0, _, _, _ => none
 | k + 1, x0, x3, x4 => if x4 < (x0.length : Int) then (if x3.toList = ([] : List UInt8) then (if 0 ≤ x4 then (if x3.size + (rdOf ByteArray.empty x0 x4).size ≤ 9223372036854775807 then (spec_l2Join.l0 k x0 (x3 ++ (rdOf ByteArray.empty x0 x4)) (wrap64 (x4 + 1))) else (none)) else (none)) else (if 0 ≤ x4 then (if (rdOf ByteArray.empty x0 x4).toList = ([] : List UInt8) then (if x3.size + (rdOf ByteArray.empty x0 x4).size ≤ 9223372036854775807 then (spec_l2Join.l0 k x0 (x3 ++ (rdOf ByteArray.empty x0 x4)) (wrap64 (x4 + 1))) else (none)) else (if x3.size + 1 ≤ 9223372036854775807 then (if (x3 ++ (⟨#[32]⟩ : ByteArray)).size + (rdOf ByteArray.empty x0 x4).size ≤ 9223372036854775807 then (spec_l2Join.l0 k x0 ((x3 ++ (⟨#[32]⟩ : ByteArray)) ++ (rdOf ByteArray.empty x0 x4)) (wrap64 (x4 + 1))) else (none)) else (none))) else (none))) else (some x3)
def spec_l2Join.f (k : Nat) (l0 : List ByteArray) : Option (ByteArray) := spec_l2Join.l0 k l0 (⟨#[]⟩ : ByteArray) 0
theorem spec_l2Join.mono_l : ∀ k, (∀ y0 y1 y2, LeO (spec_l2Join.l0 k y0 y1 y2) (spec_l2Join.l0 (k + 1) y0 y1 y2))
 | 0 => fun _ _ _ r h => by simp [spec_l2Join.l0] at h
 | k + 1 => by
  have ih0 := spec_l2Join.mono_l k
  ·intro y0 y1 y2
   unfold spec_l2Join.l0
   repeat' with_reducible first
   | exact ih0 _ _ _
   | exact LeO.refl _
   | exact LeO.none _
   | refine LeO.ite ?_ ?_
   | refine LeO.bind ?_ (fun _ => ?_)
theorem spec_l2Join.mono : ∀ a0 k, LeO (spec_l2Join.f k a0) (spec_l2Join.f (k + 1) a0) := by
 intro a0 k;have ih0 := spec_l2Join.mono_l k;unfold spec_l2Join.f
 repeat' with_reducible first
   | exact ih0 _ _ _
   | exact LeO.refl _
   | exact LeO.none _
   | refine LeO.ite ?_ ?_
   | refine LeO.bind ?_ (fun _ => ?_)
set_option maxHeartbeats 8000000 in
set_option maxRecDepth 100000 in
theorem spec_l2Join.calls (k : Nat) (A0 : Option Addr) (c0 : Nat) (l0 : List ByteArray) (r : ByteArray) (w : World) (hr0 : Kd.C Kd.string w A0 l0.length l0) (hc0 : l0.length ≤ c0) (h : spec_l2Join.f k l0 = some r) :
  Calls Tryz.prog 91 #[.slice A0 l0.length c0] w fun e w' => e = .returned (.string r) ∧ Drawn0 w w' := by
 have HR0 := AM hr0;have HC0 := AM hc0;clear hr0 hc0;have H : (spec_l2Join.l0 k l0 (⟨#[]⟩ : ByteArray) 0) = some r := h;clear h;have H' := AM H;clear H;(go_enter Tryz.func91, Tryz.ntmps91);(go_wp2);(go_loopg [3, 4] k (fun kq v3 v4 w' => ∃ (x3_1 : ByteArray) (x4_1 : Int), v3 = .string x3_1 ∧ v4 = .int .i64 x4_1 ∧ Aside0 (spec_l2Join.l0 kq l0 x3_1 x4_1 = some r) ∧ Aside0 (kq ≤ k) ∧ Drawn0 w w'))
 case atStart => exact ⟨((⟨#[]⟩ : ByteArray)), (0), (by first | rfl | (simp; done) | (simp [*]; done)), (by first | rfl | (simp; done) | (simp [*]; done)), H', ⟨Nat.le_refl _⟩, by repeat (first | exact Drawn0.refl _ | apply Drawn0.step)⟩
 case round =>
  clear H';obtain ⟨x3_1, x4_1, rfl, rfl, HA, HK1, ⟨m1, rfl⟩⟩ := hrel
  cases gk with
  | zero => exact absurd HA.out (by simp [spec_l2Join.l0])
  | succ k1 =>
   have H := HA.out;clear HA;simp only [spec_l2Join.l0] at H;by_cases c2 : x4_1 < (l0.length : Int)
   ·rw [if_pos c2] at H
    have c2b0 : decide (x4_1 < (l0.length : Int)) = true := dT c2;clear c2;by_cases c3 : x3_1.toList = ([] : List UInt8)
    ·rw [if_pos c3] at H
     have c3b0 : (x3_1.toList == ([] : List UInt8)) = true := beq_iff_eq.mpr c3;have c3b1 : (x3_1.toList != ([] : List UInt8)) = false := bne_eq_false_iff_eq.mpr c3;clear c3;by_cases c4 : 0 ≤ x4_1
     ·rw [if_pos c4] at H
      have c4b0 : decide (0 ≤ x4_1) = true := dT c4;clear c4;by_cases c5 : x3_1.size + (rdOf ByteArray.empty l0 x4_1).size ≤ 9223372036854775807
      ·rw [if_pos c5] at H
       have c5b0 := eq_true c5;have c5b1 : decide (x3_1.size + (rdOf ByteArray.empty l0 x4_1).size ≤ 9223372036854775807) = true := dT c5;(try have c5b2 : (9223372036854775807 < x3_1.size + (rdOf ByteArray.empty l0 x4_1).size) = False := eq_false (Nat.not_lt.2 c5));have H' := AM H;clear H;have p165 : 0 ≤ (x4_1 : Int) := oD (by assumption);have q165 : x4_1 < (l0.length : Int) := oD (by assumption);obtain ⟨ad165, e165, hx165_0⟩ := Kd.at_string HR0.out x4_1 p165 q165;cases e165;replace p165 := eq_true p165;replace q165 := eq_true q165;(go_wp2);(go_roundg k1)
       case measure => have := HK1.out; omega
       case rel => exact ⟨(x3_1 ++ (rdOf ByteArray.empty l0 x4_1)), (wrap64 (x4_1 + 1)), (by first | rfl | (simp; done) | (simp [*]; done)), (by first | rfl | (simp; done) | (simp [*]; done)), H', ⟨by have := HK1.out; omega⟩, by repeat (first | exact Drawn0.refl _ | apply Drawn0.step)⟩
      ·rw [if_neg c5] at H
       exact absurd H (by simp)
     ·rw [if_neg c4] at H
      exact absurd H (by simp)
    ·rw [if_neg c3] at H
     have c3b0 : (x3_1.toList == ([] : List UInt8)) = false := beq_eq_false_iff_ne.mpr c3;have c3b1 : (x3_1.toList != ([] : List UInt8)) = true := bne_iff_ne.mpr c3;by_cases c6 : 0 ≤ x4_1
     ·rw [if_pos c6] at H
      have c6b0 : decide (0 ≤ x4_1) = true := dT c6;clear c6;by_cases c7 : (rdOf ByteArray.empty l0 x4_1).toList = ([] : List UInt8)
      ·rw [if_pos c7] at H
       have c7b0 : ((rdOf ByteArray.empty l0 x4_1).toList == ([] : List UInt8)) = true := beq_iff_eq.mpr c7;have c7b1 : ((rdOf ByteArray.empty l0 x4_1).toList != ([] : List UInt8)) = false := bne_eq_false_iff_eq.mpr c7;clear c7;by_cases c8 : x3_1.size + (rdOf ByteArray.empty l0 x4_1).size ≤ 9223372036854775807
       ·rw [if_pos c8] at H
        have c8b0 := eq_true c8;have c8b1 : decide (x3_1.size + (rdOf ByteArray.empty l0 x4_1).size ≤ 9223372036854775807) = true := dT c8;(try have c8b2 : (9223372036854775807 < x3_1.size + (rdOf ByteArray.empty l0 x4_1).size) = False := eq_false (Nat.not_lt.2 c8));have H' := AM H;clear H;have p166 : 0 ≤ (x4_1 : Int) := oD (by assumption);have q166 : x4_1 < (l0.length : Int) := oD (by assumption);obtain ⟨ad166, e166, hx166_0⟩ := Kd.at_string HR0.out x4_1 p166 q166;cases e166;replace p166 := eq_true p166;replace q166 := eq_true q166;have p167 : 0 ≤ (x4_1 : Int) := oD (by assumption);have q167 : x4_1 < (l0.length : Int) := oD (by assumption);obtain ⟨ad167, e167, hx167_0⟩ := Kd.at_string HR0.out x4_1 p167 q167
        obtain rfl : ad166 = ad167 := (by injection e167)
        replace p167 := eq_true p167;replace q167 := eq_true q167;(go_wp2);(go_roundg k1)
        case measure => have := HK1.out; omega
        case rel => exact ⟨(x3_1 ++ (rdOf ByteArray.empty l0 x4_1)), (wrap64 (x4_1 + 1)), (by first | rfl | (simp; done) | (simp [*]; done)), (by first | rfl | (simp; done) | (simp [*]; done)), H', ⟨by have := HK1.out; omega⟩, by repeat (first | exact Drawn0.refl _ | apply Drawn0.step)⟩
       ·rw [if_neg c8] at H
        exact absurd H (by simp)
      ·rw [if_neg c7] at H
       have c7b0 : ((rdOf ByteArray.empty l0 x4_1).toList == ([] : List UInt8)) = false := beq_eq_false_iff_ne.mpr c7;have c7b1 : ((rdOf ByteArray.empty l0 x4_1).toList != ([] : List UInt8)) = true := bne_iff_ne.mpr c7;by_cases c9 : x3_1.size + 1 ≤ 9223372036854775807
       ·rw [if_pos c9] at H
        have c9b0 := eq_true c9;have c9b1 : decide (x3_1.size + 1 ≤ 9223372036854775807) = true := dT c9;(try have c9b2 : (9223372036854775807 < x3_1.size + 1) = False := eq_false (Nat.not_lt.2 c9));by_cases c10 : (x3_1 ++ (⟨#[32]⟩ : ByteArray)).size + (rdOf ByteArray.empty l0 x4_1).size ≤ 9223372036854775807
        ·rw [if_pos c10] at H
         have c10b0 := eq_true c10;have c10b1 : decide ((x3_1 ++ (⟨#[32]⟩ : ByteArray)).size + (rdOf ByteArray.empty l0 x4_1).size ≤ 9223372036854775807) = true := dT c10;(try have c10b2 : (9223372036854775807 < (x3_1 ++ (⟨#[32]⟩ : ByteArray)).size + (rdOf ByteArray.empty l0 x4_1).size) = False := eq_false (Nat.not_lt.2 c10));(try have c10b3 : (9223372036854775807 < x3_1.size + 1 + ((rdOf ByteArray.empty l0 x4_1).size)) = False := eq_false (by have h_ := c10; simp only [ByteArray.size_append, ByteArray.size_extract] at h_; (try simp only [show (⟨#[32]⟩ : ByteArray).size = 1 from rfl] at h_); (try have q0_ := of_eq_true c2b0); (try have q1_ := of_eq_true c3b0); (try have q3_ := of_eq_true c6b0); (try have q4_ := of_eq_true c7b0); (try have q6_ := of_eq_true c9b0); omega));have H' := AM H;clear H;have p166 : 0 ≤ (x4_1 : Int) := oD (by assumption);have q166 : x4_1 < (l0.length : Int) := oD (by assumption);obtain ⟨ad166, e166, hx166_0⟩ := Kd.at_string HR0.out x4_1 p166 q166;cases e166;replace p166 := eq_true p166;replace q166 := eq_true q166;have p168 : 0 ≤ (x4_1 : Int) := oD (by assumption);have q168 : x4_1 < (l0.length : Int) := oD (by assumption);obtain ⟨ad168, e168, hx168_0⟩ := Kd.at_string HR0.out x4_1 p168 q168
         obtain rfl : ad166 = ad168 := (by injection e168)
         replace p168 := eq_true p168;replace q168 := eq_true q168;(go_wp2);(go_roundg k1)
         case measure => have := HK1.out; omega
         case rel => exact ⟨((x3_1 ++ (⟨#[32]⟩ : ByteArray)) ++ (rdOf ByteArray.empty l0 x4_1)), (wrap64 (x4_1 + 1)), (by first | rfl | (simp; done) | (simp [*]; done)), (by first | rfl | (simp; done) | (simp [*]; done)), H', ⟨by have := HK1.out; omega⟩, by repeat (first | exact Drawn0.refl _ | apply Drawn0.step)⟩
        ·rw [if_neg c10] at H
         exact absurd H (by simp)
       ·rw [if_neg c9] at H
        exact absurd H (by simp)
     ·rw [if_neg c6] at H
      exact absurd H (by simp)
   ·rw [if_neg c2] at H
    have c2b0 : decide (x4_1 < (l0.length : Int)) = false := dF c2;clear c2;obtain rfl := oI H;(go_wp2);(go_ret);exact ⟨by first | rfl | (simp; done) | (simp [*]; done), by repeat (first | exact Drawn0.refl _ | apply Drawn0.step)⟩
def spec_l2Given.f (k : Nat) (l0_0 : List ByteArray) (a0_1 : ByteArray) (a0_2 : ByteArray) (a0_3 : ByteArray) : Option (ByteArray) := (spec_l2Join.f k l0_0).bind fun t170 => (some t170)
theorem spec_l2Given.mono : ∀ a0 a1 a2 a3 k, LeO (spec_l2Given.f k a0 a1 a2 a3) (spec_l2Given.f (k + 1) a0 a1 a2 a3) := by
 intro a0 a1 a2 a3 k;unfold spec_l2Given.f
 repeat' with_reducible first
   | exact spec_l2Join.mono _ _
   | exact LeO.refl _
   | exact LeO.none _
   | refine LeO.ite ?_ ?_
   | refine LeO.bind ?_ (fun _ => ?_)
set_option maxHeartbeats 8000000 in
set_option maxRecDepth 100000 in
theorem spec_l2Given.calls (k : Nat) (A0_0 : Option Addr) (c0_0 : Nat) (l0_0 : List ByteArray) (a0_1 : ByteArray) (a0_2 : ByteArray) (a0_3 : ByteArray) (r : ByteArray) (w : World) (hr0_0 : Kd.C Kd.string w A0_0 l0_0.length l0_0) (hc0_0 : l0_0.length ≤ c0_0) (h : spec_l2Given.f k l0_0 a0_1 a0_2 a0_3 = some r) :
  Calls Tryz.prog 92 #[.agg #[.slice A0_0 l0_0.length c0_0, .string a0_1, .string a0_2, .string a0_3]] w fun e w' => e = .returned (.string r) ∧ Below w.heap.size w w' := by
 have hu57 := Tryz.underlying57;have HR0_0 := AM hr0_0;have HC0_0 := AM hc0_0;clear hr0_0 hc0_0;have HB := AM (Below.refl w.heap.size w);have H : ((spec_l2Join.f k l0_0).bind fun t170 => (some t170)) = some r := h;clear h;replace H := Option.bind_eq_some_iff.mp H;obtain ⟨t170, A20, H⟩ := H;(try dsimp only at H);have A2 := AM A20;clear A20;obtain rfl := oI H;(go_enter Tryz.func92, Tryz.ntmps92)
 go_wp2_with (first | ((with_reducible refine gate_dst (N := 1) rfl ?_); refine box_event ?hg (N := 1) ?hd (cs := #[.slice A0_0 l0_0.length c0_0, .string a0_1, .string a0_2, .string a0_3]) (t := 57) ?hr ?_; (case hd => rfl); (case hg => rfl); (case hr => first | (go_simp; done) | (go_simp; rfl)); intro gb169 hg w3 hbox hb; have BK169 := AM (hbox); have GW169 := AM ((by rw [hg]; exact (below_size (by with_reducible repeat first | exact HB.out | apply pA | apply pN | apply p1)) : w.heap.size ≤ gb169)); have GE169 := AM ((by rw [hg]; exact (below_size (by with_reducible repeat first | exact HB.out | apply pA | apply pN | apply p1)) : w.heap.size ≤ gb169)); replace HB := AM (below_step (by with_reducible repeat first | exact HB.out | apply pA | apply pN | apply p1) hb); clear hb hbox hg; obtain ⟨z4_0, z4_1, z4_2, z4_3⟩ := cells4 BK169.out) | ((with_reducible refine gate_callee (f := 91) rfl ?_); refine goesL_ (some 5) rfl rfl Tryz.func91 (by kernel_rfl) rfl #[.slice A0_0 l0_0.length c0_0] rfl (by (try simp only [List.map_toArray, mC, mN]); try rfl) ?_; (with_reducible refine (spec_l2Join.calls k _ _ l0_0 t170 _ ?side1 ?side2 A2.out).mono ?_); (case side1 => repeat first | exact (Kd.C_below HR0_0.out HB.out) | with_reducible first | apply Kd.C_alloc | apply Kd.C_drewN | apply Kd.C_drew); (case side2 => exact HC0_0.out); rintro e w' ⟨rfl, ⟨nd, rfl⟩⟩; refine ⟨_, rfl, ?_⟩))
 (go_ret);exact ⟨rfl, by with_reducible repeat first | exact HB.out | apply pA | apply pN | apply p1 | refine below_set ?_ GE169.out⟩
def spec_l2Full.f (k : Nat) (l0_0 : List ByteArray) (a0_1 : ByteArray) (a0_2 : ByteArray) (a0_3 : ByteArray) : Option (ByteArray) := (spec_l2Given.f k l0_0 a0_1 a0_2 a0_3).bind fun t172 => ((spec_l2Join.f k (([t172, a0_1, a0_2, a0_3] : List ByteArray))).bind fun t176 => (some t176))
theorem spec_l2Full.mono : ∀ a0 a1 a2 a3 k, LeO (spec_l2Full.f k a0 a1 a2 a3) (spec_l2Full.f (k + 1) a0 a1 a2 a3) := by
 intro a0 a1 a2 a3 k;unfold spec_l2Full.f
 repeat' with_reducible first
   | exact spec_l2Given.mono _ _ _ _ _
   | exact spec_l2Join.mono _ _
   | exact LeO.refl _
   | exact LeO.none _
   | refine LeO.ite ?_ ?_
   | refine LeO.bind ?_ (fun _ => ?_)
def spec_l2Full.T1 : Bool × List (List Nat × List Nat) := (true, [([], []), ([0], [0]), ([], []), ([2], [2]), ([], []), ([4], [4]), ([], []), ([6], [6]), ([1, 3, 5, 7], [1, 3, 5, 7]), ([8, 1], [8]), ([9, 9, 0, 1, 2, 3, 4, 5, 6, 7, 8, 9], [9])])
def spec_l2Full.B1 : List Nat := [0, 1, 0, 4, 0, 16, 0, 64, 255, 511, 1023]
theorem spec_l2Full.tab1 : rtab .any (opsOf Tryz.f74 1) = spec_l2Full.T1 := by kernel_rfl
theorem spec_l2Full.bits1 : waitsOk spec_l2Full.T1.2 spec_l2Full.B1 = true := by kernel_rfl
theorem spec_l2Full.calls (k : Nat) (A0_0 : Option Addr) (c0_0 : Nat) (l0_0 : List ByteArray) (a0_1 : ByteArray) (a0_2 : ByteArray) (a0_3 : ByteArray) (r : ByteArray) (w : World) (hr0_0 : Kd.C Kd.string w A0_0 l0_0.length l0_0) (hc0_0 : l0_0.length ≤ c0_0) (h : spec_l2Full.f k l0_0 a0_1 a0_2 a0_3 = some r) :
  Calls Tryz.prog 74 #[.agg #[.slice A0_0 l0_0.length c0_0, .string a0_1, .string a0_2, .string a0_3]] w fun e w' => e = .returned (.string r) ∧ Below w.heap.size w w' := by
 have hu57 := Tryz.underlying57;have HR0_0 := AM hr0_0;have HC0_0 := AM hc0_0;clear hr0_0 hc0_0;have HB := AM (Below.refl w.heap.size w);have H : ((spec_l2Given.f k l0_0 a0_1 a0_2 a0_3).bind fun t172 => ((spec_l2Join.f k (([t172, a0_1, a0_2, a0_3] : List ByteArray))).bind fun t176 => (some t176))) = some r := h;clear h;replace H := oB.mp H;obtain ⟨t172, A20, H⟩ := H;(try dsimp only at H);have A2 := AM A20;clear A20
 obtain ⟨y173, hy173⟩ : ∃ y_ : List ByteArray, y_ = (([t172, a0_1, a0_2, a0_3] : List ByteArray)) := ⟨_, rfl⟩
 (replace H : ((spec_l2Join.f k y173).bind fun t176 => (some t176)) = some r := by first | (rw [hy173]; with_reducible exact H) | (have H2_ := (Option.bind_some _ _).symm.trans H; rw [hy173]; with_reducible exact H2_) | (have H2_ := (Option.bind_some _ _).symm.trans H; with_reducible exact H2_) | with_reducible exact H | (rw [hy173]; exact H) | exact H);have Ny173 := AM hy173;clear hy173;replace H := oB.mp H;obtain ⟨t176, A30, H⟩ := H;(try dsimp only at H);have A3 := AM A30;clear A30;obtain rfl := oI H;(go_enter Tryz.func74, Tryz.ntmps74)
 try go_wp2_with (first | ((with_reducible refine gate_dst (N := 1) rfl ?_); refine box_event ?hg (N := 1) ?hd (cs := #[.slice A0_0 l0_0.length c0_0, .string a0_1, .string a0_2, .string a0_3]) (t := 57) ?hr ?_; (case hd => rfl); (case hg => rfl); (case hr => first | (go_simp; done) | (go_simp; rfl)); intro gb171 hg w4 hbox hb; have BK171 := AM (hbox); have GW171 := AM ((by rw [hg]; exact (bZ (by with_reducible repeat first | exact HB.out | apply pA | apply pN | apply p1)) : w.heap.size ≤ gb171)); have GE171 := AM ((by rw [hg]; exact (bZ (by with_reducible repeat first | exact HB.out | apply pA | apply pN | apply p1)) : w.heap.size ≤ gb171)); replace HB := AM (bS (by with_reducible repeat first | exact HB.out | apply pA | apply pN | apply p1) hb); clear hb hbox hg))
 replace BK171 := AM (bW BK171.out);replace HB := AM (p1 HB.out);(refine start_ (n := 11) (S := fun w' => w'.cell? ⟨gb171, 0, none⟩ = some (.slice A0_0 l0_0.length c0_0) ∧ w'.cell? ⟨gb171, 1, none⟩ = some (.string a0_1) ∧ w'.cell? ⟨gb171, 2, none⟩ = some (.string a0_2) ∧ w'.cell? ⟨gb171, 3, none⟩ = some (.string a0_3)) (ds := []) (bA 11 0) (by kernel_rfl) rfl rfl ⟨(bC BK171.out 0).trans rfl, (bC BK171.out 1).trans rfl, (bC BK171.out 2).trans rfl, (bC BK171.out 3).trans rfl⟩ (fun hHeld => ?_); refine with_tabW spec_l2Full.tab1 spec_l2Full.bits1 (fun HT_ HW_ => ?_));generalize w4.drew = w5 at BK171 HB hHeld ⊢;refine pure_ (i := 2) (N := some 5) (v := ?_) (a' := ?_) (bA 11 4) rfl rfl (any_of HT_.out (by kernel_rfl)) (fun _ _ _ h => h) (Or.inl ⟨by rfl, ?_⟩) ?_ ?_;rotate_left;(·intro w';go_simp;(with_reducible rfl));rotate_left;(·simp only [Act.put, lT, lZ, lS, i64_w, i32_w];rfl);refine pure_ (i := 4) (N := some 7) (v := ?_) (a' := ?_) (bA 11 20) rfl rfl (any_of HT_.out (by kernel_rfl)) (fun _ _ _ h => h) (Or.inl ⟨by rfl, ?_⟩) ?_ ?_;rotate_left;(·intro w';go_simp;(with_reducible rfl));rotate_left;(·simp only [Act.put, lT, lZ, lS, i64_w, i32_w];rfl);refine pure_ (i := 6) (N := some 9) (v := ?_) (a' := ?_) (bA 11 84) rfl rfl (any_of HT_.out (by kernel_rfl)) (fun _ _ _ h => h) (Or.inl ⟨by rfl, ?_⟩) ?_ ?_;rotate_left;(·intro w';go_simp;(with_reducible rfl));rotate_left;(·simp only [Act.put, lT, lZ, lS, i64_w, i32_w];rfl);refine take_ (i := 0) (N := some 3) (v := ?_) (a' := ?_) (bA 11 85) rfl rfl (take_ofW HT_.out HW_.out (by kernel_rfl)) (fun _ _ _ h => h) (Or.inl ⟨by rfl, ?_⟩) hHeld ?_ ?_;rotate_left;(·rintro w' ⟨s0, s1, s2, s3⟩;go_simp;(with_reducible rfl));rotate_left;(·simp only [Act.put, lT, lZ, lS, i64_w, i32_w];rfl);refine take_ (i := 3) (N := some 6) (v := ?_) (a' := ?_) (bA 11 93) rfl rfl (take_ofW HT_.out HW_.out (by kernel_rfl)) (fun _ _ _ h => h) (Or.inl ⟨by rfl, ?_⟩) hHeld ?_ ?_;rotate_left;(·rintro w' ⟨s0, s1, s2, s3⟩;go_simp;(with_reducible rfl));rotate_left;(·simp only [Act.put, lT, lZ, lS, i64_w, i32_w];rfl);refine take_ (i := 5) (N := some 8) (v := ?_) (a' := ?_) (bA 11 125) rfl rfl (take_ofW HT_.out HW_.out (by kernel_rfl)) (fun _ _ _ h => h) (Or.inl ⟨by rfl, ?_⟩) hHeld ?_ ?_;rotate_left;(·rintro w' ⟨s0, s1, s2, s3⟩;go_simp;(with_reducible rfl));rotate_left;(·simp only [Act.put, lT, lZ, lS, i64_w, i32_w];rfl);refine take_ (i := 7) (N := some 10) (v := ?_) (a' := ?_) (bA 11 253) rfl rfl (take_ofW HT_.out HW_.out (by kernel_rfl)) (fun _ _ _ h => h) (Or.inl ⟨by rfl, ?_⟩) hHeld ?_ ?_;rotate_left;(·rintro w' ⟨s0, s1, s2, s3⟩;go_simp;(with_reducible rfl));rotate_left;(·simp only [Act.put, lT, lZ, lS, i64_w, i32_w];rfl);refine one_ (i := 1) (N := some 4) (bA 11 255) rfl rfl (one_of HT_.out (by kernel_rfl)) (by decide) (fun K hK => ?_);refine goes_ Tryz.func92 (by kernel_rfl) rfl #[.agg #[.slice A0_0 l0_0.length c0_0, .string a0_1, .string a0_2, .string a0_3]] (by rfl) rfl rfl (by (try simp only [mT, mC, mN]); try rfl) ?_;(with_reducible refine (spec_l2Given.calls k _ _ l0_0 a0_1 a0_2 a0_3 t172 _ ?side1 ?side2 A2.out).mono ?_);(case side1 => repeat first | exact (Kd.C_below HR0_0.out HB.out) | with_reducible first | apply cA | apply cN | apply cD);(case side2 => exact HC0_0.out);rintro e w6 ⟨rfl, hb⟩;refine ⟨_, rfl, ?_⟩;replace BK171 := AM (blk_below (by (with_reducible repeat first | apply blk_drewN | apply bW | apply blk_alloc); exact BK171.out) hb);replace HB := AM (bS (by with_reducible repeat first | exact HB.out | apply pA | apply pN | apply p1 | refine pS ?_ GE171.out) hb);(try clear hb);refine hK.out _ _ (by and_intros <;> exact (bC BK171.out _).trans rfl) (fun hHeld => ?_);clear hK K;refine norm_ (a' := ?_) ?_ ?_;rotate_left
 ·show Act.put _ (some 4) _ = _
  simp only [Act.put, lT, lZ, lS, i64_w, i32_w];rfl
 refine one_ (i := 8) (N := some 11) (bA 11 511) rfl rfl (one_of HT_.out (by kernel_rfl)) (by decide) (fun K hK => ?_);(refine Kd.R_lit_step Kd.string _ 9 ?hg (N := 11) ?hd (xs := ([t172, a0_1, a0_2, a0_3] : List ByteArray)) (inner := [.string t172, .string a0_1, .string a0_2, .string a0_3]) (ok := fun _ => True) (okp := fun _ => True) ?hr ?hp (fun _ hk => hk) trivial (Below.refl _ _) (Nat.le_refl _) (by simp) ?_; (case hd => rfl); (case hg => rfl); (case hr => first | (go_simp; done) | (go_simp; rfl)); (case hp => exact (Reps.one (show Kd.M Kd.string _ _ _ t172 [.string t172] from rfl) (Reps.one (show Kd.M Kd.string _ _ _ a0_1 [.string a0_1] from rfl) (Reps.one (show Kd.M Kd.string _ _ _ a0_2 [.string a0_2] from rfl) (Reps.one (show Kd.M Kd.string _ _ _ a0_3 [.string a0_3] from rfl) (Reps.none _ _)))))));intro v174 w7 ho8 hb hg_ hnew_;clear hg_ hnew_;(first | rw [← Ny173.out] at ho8 | (simp only [Int.reduceToNat] at ho8; rw [← Ny173.out] at ho8));have HO175 := AM (Kd.R_lower ho8 (bZ (by with_reducible repeat first | exact HB.out | apply pA | apply pN | apply p1 | refine pS ?_ GE171.out)));replace BK171 := AM (blk_below (by (with_reducible repeat first | apply blk_drewN | apply bW | apply blk_alloc); exact BK171.out) hb);replace HB := AM (bS (by with_reducible repeat first | exact HB.out | apply pA | apply pN | apply p1 | refine pS ?_ GE171.out) hb);clear hb ho8;obtain ⟨Ao9, co9, eo9⟩ := Kd.R_slice HO175.out;(first | subst eo9 | (injection eo9 with f1_ f2_ f3_; have f4_ := f1_.symm; have f5_ := f3_.symm; clear f1_ f2_ f3_; subst f4_; subst f5_));refine hK.out _ _ (by and_intros <;> exact (bC BK171.out _).trans rfl) (fun hHeld => ?_);clear hK K;refine norm_ (a' := ?_) ?_ ?_;rotate_left
 ·show Act.put _ (some 11) _ = _
  simp only [Act.put, lT, lZ, lS, i64_w, i32_w];rfl
 refine one_ (i := 9) (N := some 12) (bA 11 1023) rfl rfl (one_of HT_.out (by kernel_rfl)) (by decide) (fun K hK => ?_);refine goes_ Tryz.func91 (by kernel_rfl) rfl #[.slice Ao9 y173.length co9] (by rfl) rfl rfl (by (try simp only [mT, mC, mN]); try rfl) ?_;(with_reducible refine (spec_l2Join.calls k _ _ y173 t176 _ ?side1 ?side2 A3.out).mono ?_);(case side1 => repeat first | exact (rR HO175.out).2.2 | with_reducible first | apply cA | apply cN | apply cD);(case side2 => exact (rR HO175.out).2.1);rintro e w' ⟨rfl, ⟨nd, rfl⟩⟩;refine ⟨_, rfl, ?_⟩;refine hK.out _ _ (by and_intros <;> exact (bC BK171.out _).trans rfl) (fun hHeld => ?_);clear hK K;refine norm_ (a' := ?_) ?_ ?_;rotate_left
 ·show Act.put _ (some 12) _ = _
  simp only [Act.put, lT, lZ, lS, i64_w, i32_w];rfl
 refine pure_ (i := 10) (N := some 2) (v := ?_) (a' := ?_) (bA 11 2047) rfl rfl (any_of HT_.out (by kernel_rfl)) (fun _ _ _ h => h) (Or.inl ⟨by rfl, ?_⟩) ?_ ?_;rotate_left;(·intro w';go_simp;(with_reducible rfl));rotate_left;(·simp only [Act.put, lT, lZ, lS, i64_w, i32_w];rfl);refine done_ (done_of HT_.out (by kernel_rfl)) ?_;(try go_wp2);(go_ret);exact ⟨rfl, by with_reducible repeat first | exact HB.out | apply pA | apply pN | apply p1 | refine pS ?_ GE171.out⟩
def spec_l2Inverse.j0 : Nat → ByteArray → Bool → List ByteArray → ByteArray → ByteArray → ByteArray → Option (ByteArray)
 | 0, _, _, _, _, _, _ => none
 | k + 1, x3, x18, x178000, x178001, x178002, x178003 => if x18 = true then (if x3.size + 2 ≤ 9223372036854775807 then ((spec_l2Given.f k x178000 x178001 x178002 x178003).bind fun t182 => (if (x3 ++ (⟨#[44, 32]⟩ : ByteArray)).size + t182.size ≤ 9223372036854775807 then (if x178003.toList = ([] : List UInt8) then (some ((x3 ++ (⟨#[44, 32]⟩ : ByteArray)) ++ t182)) else (if ((x3 ++ (⟨#[44, 32]⟩ : ByteArray)) ++ t182).size + 2 ≤ 9223372036854775807 then (if (((x3 ++ (⟨#[44, 32]⟩ : ByteArray)) ++ t182) ++ (⟨#[44, 32]⟩ : ByteArray)).size + x178003.size ≤ 9223372036854775807 then (some ((((x3 ++ (⟨#[44, 32]⟩ : ByteArray)) ++ t182) ++ (⟨#[44, 32]⟩ : ByteArray)) ++ x178003)) else (none)) else (none))) else (none))) else (none)) else (if x178003.toList = ([] : List UInt8) then (some x3) else (if x3.size + 2 ≤ 9223372036854775807 then (if (x3 ++ (⟨#[44, 32]⟩ : ByteArray)).size + x178003.size ≤ 9223372036854775807 then (some ((x3 ++ (⟨#[44, 32]⟩ : ByteArray)) ++ x178003)) else (none)) else (none)))
def spec_l2Inverse.f (k : Nat) (l0_0 : List ByteArray) (a0_1 : ByteArray) (a0_2 : ByteArray) (a0_3 : ByteArray) : Option (ByteArray) := (spec_l2Join.f k (([a0_1, a0_2] : List ByteArray))).bind fun t181 => (if (l0_0.length : Int) > 0 then (spec_l2Inverse.j0 k t181 true l0_0 a0_1 a0_2 a0_3) else (spec_l2Inverse.j0 k t181 (a0_3.toList != ([] : List UInt8)) l0_0 a0_1 a0_2 a0_3))
theorem spec_l2Inverse.mono_l : ∀ k, (∀ y0 y1 y2 y3 y4 y5, LeO (spec_l2Inverse.j0 k y0 y1 y2 y3 y4 y5) (spec_l2Inverse.j0 (k + 1) y0 y1 y2 y3 y4 y5))
 | 0 => fun _ _ _ _ _ _ r h => by simp [spec_l2Inverse.j0] at h
 | k + 1 => by
  have ih0 := spec_l2Inverse.mono_l k
  ·intro y0 y1 y2 y3 y4 y5
   unfold spec_l2Inverse.j0
   repeat' with_reducible first
   | exact ih0 _ _ _ _ _ _
   | exact spec_l2Given.mono _ _ _ _ _
   | exact spec_l2Join.mono _ _
   | exact LeO.refl _
   | exact LeO.none _
   | refine LeO.ite ?_ ?_
   | refine LeO.bind ?_ (fun _ => ?_)
theorem spec_l2Inverse.mono : ∀ a0 a1 a2 a3 k, LeO (spec_l2Inverse.f k a0 a1 a2 a3) (spec_l2Inverse.f (k + 1) a0 a1 a2 a3) := by
 intro a0 a1 a2 a3 k;have ih0 := spec_l2Inverse.mono_l k;unfold spec_l2Inverse.f
 repeat' with_reducible first
   | exact ih0 _ _ _ _ _ _
   | exact spec_l2Given.mono _ _ _ _ _
   | exact spec_l2Join.mono _ _
   | exact LeO.refl _
   | exact LeO.none _
   | refine LeO.ite ?_ ?_
   | refine LeO.bind ?_ (fun _ => ?_)
theorem spec_l2Inverse.calls (k : Nat) (A0_0 : Option Addr) (c0_0 : Nat) (l0_0 : List ByteArray) (a0_1 : ByteArray) (a0_2 : ByteArray) (a0_3 : ByteArray) (r : ByteArray) (w : World) (hr0_0 : Kd.C Kd.string w A0_0 l0_0.length l0_0) (hc0_0 : l0_0.length ≤ c0_0) (h : spec_l2Inverse.f k l0_0 a0_1 a0_2 a0_3 = some r) :
  Calls Tryz.prog 75 #[.agg #[.slice A0_0 l0_0.length c0_0, .string a0_1, .string a0_2, .string a0_3]] w fun e w' => e = .returned (.string r) ∧ Below w.heap.size w w' := by
 have hu57 := Tryz.underlying57;have HR0_0 := AM hr0_0;have HC0_0 := AM hc0_0;clear hr0_0 hc0_0;have HB := AM (Below.refl w.heap.size w);have H : ((spec_l2Join.f k (([a0_1, a0_2] : List ByteArray))).bind fun t181 => (if (l0_0.length : Int) > 0 then (spec_l2Inverse.j0 k t181 true l0_0 a0_1 a0_2 a0_3) else (spec_l2Inverse.j0 k t181 (a0_3.toList != ([] : List UInt8)) l0_0 a0_1 a0_2 a0_3))) = some r := h;clear h
 obtain ⟨y178, hy178⟩ : ∃ y_ : List ByteArray, y_ = (([a0_1, a0_2] : List ByteArray)) := ⟨_, rfl⟩
 (replace H : ((spec_l2Join.f k y178).bind fun t181 => (if (l0_0.length : Int) > 0 then (spec_l2Inverse.j0 k t181 true l0_0 a0_1 a0_2 a0_3) else (spec_l2Inverse.j0 k t181 (a0_3.toList != ([] : List UInt8)) l0_0 a0_1 a0_2 a0_3))) = some r := by first | (rw [hy178]; with_reducible exact H) | (have H2_ := (Option.bind_some _ _).symm.trans H; rw [hy178]; with_reducible exact H2_) | (have H2_ := (Option.bind_some _ _).symm.trans H; with_reducible exact H2_) | with_reducible exact H | (rw [hy178]; exact H) | exact H);have Ny178 := AM hy178;clear hy178;replace H := oB.mp H;obtain ⟨t181, A20, H⟩ := H;(try dsimp only at H);have A2 := AM A20;clear A20;have HC3 := AM H;clear H;(go_enter Tryz.func75, Tryz.ntmps75)
 go_upto_region 2 with (first | ((with_reducible refine gate_dst (N := 1) rfl ?_); refine box_event ?hg (N := 1) ?hd (cs := #[.slice A0_0 l0_0.length c0_0, .string a0_1, .string a0_2, .string a0_3]) (t := 57) ?hr ?_; (case hd => rfl); (case hg => rfl); (case hr => first | (go_simp; done) | (go_simp; rfl)); intro gb177 hg w4 hbox hb; have BK177 := AM (hbox); have GW177 := AM ((by rw [hg]; exact (bZ (by with_reducible repeat first | exact HB.out | apply pA | apply pN | apply p1)) : w.heap.size ≤ gb177)); have GE177 := AM ((by rw [hg]; exact (bZ (by with_reducible repeat first | exact HB.out | apply pA | apply pN | apply p1)) : w.heap.size ≤ gb177)); replace HB := AM (bS (by with_reducible repeat first | exact HB.out | apply pA | apply pN | apply p1) hb); clear hb hbox hg; obtain ⟨z5_0, z5_1, z5_2, z5_3⟩ := cells4 BK177.out) | ((with_reducible refine gate_dst (N := 8) rfl ?_); refine Kd.R_lit Kd.string _ 9 ?hg (N := 8) ?hd (xs := ([a0_1, a0_2] : List ByteArray)) (inner := [.string a0_1, .string a0_2]) (ok := fun _ => True) (okp := fun _ => True) ?hr ?hp (fun _ hk => hk) trivial (Below.refl _ _) (Nat.le_refl _) (by simp) ?_; (case hd => rfl); (case hg => rfl); (case hr => first | (go_simp; done) | (go_simp; rfl)); (case hp => exact (Reps.one (show Kd.M Kd.string _ _ _ a0_1 [.string a0_1] from rfl) (Reps.one (show Kd.M Kd.string _ _ _ a0_2 [.string a0_2] from rfl) (Reps.none _ _)))); intro v179 w6 ho7 hb hg_ hnew_; clear hg_ hnew_; (first | rw [← Ny178.out] at ho7 | (simp only [Int.reduceToNat] at ho7; rw [← Ny178.out] at ho7)); have HO180 := AM (Kd.R_lower ho7 (bZ (by with_reducible repeat first | exact HB.out | apply pA | apply pN | apply p1 | refine pS ?_ GE177.out))); replace BK177 := AM (bB (by (with_reducible repeat first | apply bN | apply bW | apply bL); exact BK177.out) hb); replace HB := AM (bS (by with_reducible repeat first | exact HB.out | apply pA | apply pN | apply p1 | refine pS ?_ GE177.out) hb); clear hb ho7; obtain ⟨Ao8, co8, eo8⟩ := Kd.R_slice HO180.out; subst eo8) | ((with_reducible refine gC (f := 91) rfl ?_); refine goesL_ (some 9) rfl rfl Tryz.func91 (by kernel_rfl) rfl #[.slice Ao8 y178.length co8] rfl (by (try simp only [mT, mC, mN]); try rfl) ?_; (with_reducible refine (spec_l2Join.calls k _ _ y178 t181 _ ?side1 ?side2 A2.out).mono ?_); (case side1 => repeat first | exact (rR HO180.out).2.2 | with_reducible first | apply cA | apply cN | apply cD); (case side2 => exact (rR HO180.out).2.1); rintro e w' ⟨rfl, ⟨nd, rfl⟩⟩; refine ⟨_, rfl, ?_⟩))
 (try simp only [Act.put, List.setIfInBounds_toArray, List.set_cons_zero, List.set_cons_succ]);(go_cut [18] (fun v18 wc => ∃ (kq : Nat) (x18_2 : Bool), v18 = .bool x18_2 ∧ Aside0 (spec_l2Inverse.j0 kq t181 x18_2 l0_0 a0_1 a0_2 a0_3 = some r) ∧ Aside0 (kq ≤ k) ∧ Aside0 (wc.heap[gb177]? = some (.cells #[(.slice A0_0 l0_0.length c0_0), .string a0_1, .string a0_2, .string a0_3] 57 (0, 0))) ∧ Aside0 (Below w.heap.size w wc)))
 case first =>
  have H := HC3.out;clear HC3;by_cases c9 : (l0_0.length : Int) > 0
  ·rw [if_pos c9] at H
   have c9b0 : decide (0 < (l0_0.length : Int)) = true := dT c9;have c9b1 : decide (0 < l0_0.length) = true := dT (by omega);clear c9;(first | rw [c9b0] | rw [c9b1] | rw [c9b2] | (simp only [i64_w, i32_w]; rw [c9b0]) | skip);have H' := AM H;clear H;obtain ⟨z10_0, z10_1, z10_2, z10_3⟩ := cells4 BK177.out;(go_wp2);(go_meet)
   case rel => exact ⟨_, (true), (by first | rfl | (simp; done) | (simp [*]; done)), H', ⟨by first | omega | exact Nat.le_refl _⟩, ⟨by (with_reducible repeat (first | refine bN ?_ _ | refine bW ?_ | refine bL ?_ _)); exact BK177.out⟩, ⟨by with_reducible repeat first | exact HB.out | apply pA | apply pN | apply p1 | refine pS ?_ GE177.out⟩⟩
  ·rw [if_neg c9] at H
   have c9b0 : decide (0 < (l0_0.length : Int)) = false := dF c9;have c9b1 : decide (0 < l0_0.length) = false := dF (by omega);clear c9;(first | rw [c9b0] | rw [c9b1] | rw [c9b2] | (simp only [i64_w, i32_w]; rw [c9b0]) | skip);have H' := AM H;clear H;obtain ⟨z11_0, z11_1, z11_2, z11_3⟩ := cells4 BK177.out;(go_wp2);(go_meet)
   case rel => exact ⟨_, ((a0_3.toList != ([] : List UInt8))), (by first | rfl | (simp; done) | (simp [*]; done) | (refine congrArg Value.bool (Bool.eq_iff_iff.2 ?_); simp [List.isEmpty_iff])), H', ⟨by first | omega | exact Nat.le_refl _⟩, ⟨by (with_reducible repeat (first | refine bN ?_ _ | refine bW ?_ | refine bL ?_ _)); exact BK177.out⟩, ⟨by with_reducible repeat first | exact HB.out | apply pA | apply pN | apply p1 | refine pS ?_ GE177.out⟩⟩
 case rest =>
  clear HC3;(try clear p2);(try clear c7);(try clear c9);(try clear c9b0);(try clear c9b1);(try clear c9b2);(try clear z10_0 z10_1 z10_2 z10_3);(try clear z11_0 z11_1 z11_2 z11_3);(try clear z5_0 z5_1 z5_2 z5_3);obtain ⟨kq, x18_2, rfl, HA, HJ2, BK177, HB⟩ := hcut
  cases kq with
  | zero => exact absurd HA.out (by simp [spec_l2Inverse.j0])
  | succ kj2 =>
   have H := HA.out;clear HA;simp only [spec_l2Inverse.j0] at H;by_cases c12 : x18_2 = true
   ·subst c12
    (have H1 : (if t181.size + 2 ≤ 9223372036854775807 then ((spec_l2Given.f kj2 l0_0 a0_1 a0_2 a0_3).bind fun t182 => (if (t181 ++ (⟨#[44, 32]⟩ : ByteArray)).size + t182.size ≤ 9223372036854775807 then (if a0_3.toList = ([] : List UInt8) then (some ((t181 ++ (⟨#[44, 32]⟩ : ByteArray)) ++ t182)) else (if ((t181 ++ (⟨#[44, 32]⟩ : ByteArray)) ++ t182).size + 2 ≤ 9223372036854775807 then (if (((t181 ++ (⟨#[44, 32]⟩ : ByteArray)) ++ t182) ++ (⟨#[44, 32]⟩ : ByteArray)).size + a0_3.size ≤ 9223372036854775807 then (some ((((t181 ++ (⟨#[44, 32]⟩ : ByteArray)) ++ t182) ++ (⟨#[44, 32]⟩ : ByteArray)) ++ a0_3)) else (none)) else (none))) else (none))) else (none)) = some r := by rw [if_pos rfl] at H; exact H);clear H;have H := H1;clear H1;by_cases c13 : t181.size + 2 ≤ 9223372036854775807
    ·rw [if_pos c13] at H
     have c13b0 := eq_true c13;have c13b1 : decide (t181.size + 2 ≤ 9223372036854775807) = true := dT c13;(try have c13b2 : (9223372036854775807 < t181.size + 2) = False := eq_false (Nat.not_lt.2 c13));replace H := oB.mp H;obtain ⟨t182, A140, H⟩ := H;(try dsimp only at H);have A14 := AM A140;clear A140;by_cases c15 : (t181 ++ (⟨#[44, 32]⟩ : ByteArray)).size + t182.size ≤ 9223372036854775807
     ·rw [if_pos c15] at H
      have c15b0 := eq_true c15;have c15b1 : decide ((t181 ++ (⟨#[44, 32]⟩ : ByteArray)).size + t182.size ≤ 9223372036854775807) = true := dT c15;(try have c15b2 : (9223372036854775807 < (t181 ++ (⟨#[44, 32]⟩ : ByteArray)).size + t182.size) = False := eq_false (Nat.not_lt.2 c15));(try have c15b3 : (9223372036854775807 < t181.size + 2 + t182.size) = False := eq_false (by have h_ := c15; simp only [ByteArray.size_append, ByteArray.size_extract] at h_; (try simp only [show (⟨#[44, 32]⟩ : ByteArray).size = 2 from rfl] at h_); (try have q0_ := of_eq_true c13b0); omega));by_cases c16 : a0_3.toList = ([] : List UInt8)
      ·rw [if_pos c16] at H
       have c16b0 : (a0_3.toList == ([] : List UInt8)) = true := beq_iff_eq.mpr c16;have c16b1 : (a0_3.toList != ([] : List UInt8)) = false := bne_eq_false_iff_eq.mpr c16;clear c16;obtain rfl := oI H;obtain ⟨z17_0, z17_1, z17_2, z17_3⟩ := cells4 BK177.out
       go_wp2_with (first | ((with_reducible refine gC (f := 92) rfl ?_); refine goesL_ (some 22) rfl rfl Tryz.func92 (by kernel_rfl) rfl #[.agg #[.slice A0_0 l0_0.length c0_0, .string a0_1, .string a0_2, .string a0_3]] rfl (by (try simp only [mT, mC, mN]); try rfl) ?_; (with_reducible refine (spec_l2Given.calls kj2 _ _ l0_0 a0_1 a0_2 a0_3 t182 _ ?side1 ?side2 A14.out).mono ?_); (case side1 => repeat first | exact (cB HR0_0.out HB.out) | with_reducible first | apply cA | apply cN | apply cD); (case side2 => exact HC0_0.out); rintro e w18 ⟨rfl, hb⟩; refine ⟨_, rfl, ?_⟩; replace BK177 := AM (bB (by (with_reducible repeat first | apply bN | apply bW | apply bL); exact BK177.out) hb); replace HB := AM (bS (by with_reducible repeat first | exact HB.out | apply pA | apply pN | apply p1 | refine pS ?_ GE177.out) hb); (try clear hb); obtain ⟨z19_0, z19_1, z19_2, z19_3⟩ := cells4 BK177.out))
       (go_ret);exact ⟨rfl, by with_reducible repeat first | exact HB.out | apply pA | apply pN | apply p1 | refine pS ?_ GE177.out⟩
      ·rw [if_neg c16] at H
       have c16b0 : (a0_3.toList == ([] : List UInt8)) = false := beq_eq_false_iff_ne.mpr c16;have c16b1 : (a0_3.toList != ([] : List UInt8)) = true := bne_iff_ne.mpr c16;by_cases c20 : ((t181 ++ (⟨#[44, 32]⟩ : ByteArray)) ++ t182).size + 2 ≤ 9223372036854775807
       ·rw [if_pos c20] at H
        have c20b0 := eq_true c20;have c20b1 : decide (((t181 ++ (⟨#[44, 32]⟩ : ByteArray)) ++ t182).size + 2 ≤ 9223372036854775807) = true := dT c20;(try have c20b2 : (9223372036854775807 < ((t181 ++ (⟨#[44, 32]⟩ : ByteArray)) ++ t182).size + 2) = False := eq_false (Nat.not_lt.2 c20));(try have c20b3 : (9223372036854775807 < t181.size + 2 + t182.size + 2) = False := eq_false (by have h_ := c20; simp only [ByteArray.size_append, ByteArray.size_extract] at h_; (try simp only [show (⟨#[44, 32]⟩ : ByteArray).size = 2 from rfl] at h_); (try have q0_ := of_eq_true c13b0); (try have q3_ := of_eq_true c15b0); (try have q6_ := of_eq_true c16b0); omega));by_cases c21 : (((t181 ++ (⟨#[44, 32]⟩ : ByteArray)) ++ t182) ++ (⟨#[44, 32]⟩ : ByteArray)).size + a0_3.size ≤ 9223372036854775807
        ·rw [if_pos c21] at H
         have c21b0 := eq_true c21;have c21b1 : decide ((((t181 ++ (⟨#[44, 32]⟩ : ByteArray)) ++ t182) ++ (⟨#[44, 32]⟩ : ByteArray)).size + a0_3.size ≤ 9223372036854775807) = true := dT c21;(try have c21b2 : (9223372036854775807 < (((t181 ++ (⟨#[44, 32]⟩ : ByteArray)) ++ t182) ++ (⟨#[44, 32]⟩ : ByteArray)).size + a0_3.size) = False := eq_false (Nat.not_lt.2 c21));(try have c21b3 : (9223372036854775807 < t181.size + 2 + t182.size + 2 + a0_3.size) = False := eq_false (by have h_ := c21; simp only [ByteArray.size_append, ByteArray.size_extract] at h_; (try simp only [show (⟨#[44, 32]⟩ : ByteArray).size = 2 from rfl] at h_); (try have q0_ := of_eq_true c13b0); (try have q3_ := of_eq_true c15b0); (try have q6_ := of_eq_true c16b0); (try have q8_ := of_eq_true c20b0); omega));obtain rfl := oI H;obtain ⟨z22_0, z22_1, z22_2, z22_3⟩ := cells4 BK177.out
         go_wp2_with (first | ((with_reducible refine gC (f := 92) rfl ?_); refine goesL_ (some 22) rfl rfl Tryz.func92 (by kernel_rfl) rfl #[.agg #[.slice A0_0 l0_0.length c0_0, .string a0_1, .string a0_2, .string a0_3]] rfl (by (try simp only [mT, mC, mN]); try rfl) ?_; (with_reducible refine (spec_l2Given.calls kj2 _ _ l0_0 a0_1 a0_2 a0_3 t182 _ ?side1 ?side2 A14.out).mono ?_); (case side1 => repeat first | exact (cB HR0_0.out HB.out) | with_reducible first | apply cA | apply cN | apply cD); (case side2 => exact HC0_0.out); rintro e w23 ⟨rfl, hb⟩; refine ⟨_, rfl, ?_⟩; replace BK177 := AM (bB (by (with_reducible repeat first | apply bN | apply bW | apply bL); exact BK177.out) hb); replace HB := AM (bS (by with_reducible repeat first | exact HB.out | apply pA | apply pN | apply p1 | refine pS ?_ GE177.out) hb); (try clear hb); obtain ⟨z24_0, z24_1, z24_2, z24_3⟩ := cells4 BK177.out))
         (go_ret);exact ⟨rfl, by with_reducible repeat first | exact HB.out | apply pA | apply pN | apply p1 | refine pS ?_ GE177.out⟩
        ·rw [if_neg c21] at H
         exact absurd H (by simp)
       ·rw [if_neg c20] at H
        exact absurd H (by simp)
     ·rw [if_neg c15] at H
      exact absurd H (by simp)
    ·rw [if_neg c13] at H
     exact absurd H (by simp)
   ·replace c12 := Bool.eq_false_iff.mpr c12
    subst c12;(have H1 : (if a0_3.toList = ([] : List UInt8) then (some t181) else (if t181.size + 2 ≤ 9223372036854775807 then (if (t181 ++ (⟨#[44, 32]⟩ : ByteArray)).size + a0_3.size ≤ 9223372036854775807 then (some ((t181 ++ (⟨#[44, 32]⟩ : ByteArray)) ++ a0_3)) else (none)) else (none))) = some r := by rw [if_neg (show ¬ (false = true) by decide)] at H; exact H);clear H;have H := H1;clear H1;by_cases c25 : a0_3.toList = ([] : List UInt8);(·rw [if_pos c25] at H;have c25b0 : (a0_3.toList == ([] : List UInt8)) = true := beq_iff_eq.mpr c25;have c25b1 : (a0_3.toList != ([] : List UInt8)) = false := bne_eq_false_iff_eq.mpr c25;clear c25;obtain rfl := oI H;obtain ⟨z26_0, z26_1, z26_2, z26_3⟩ := cells4 BK177.out;(go_wp2);(go_ret);exact ⟨rfl, by with_reducible repeat first | exact HB.out | apply pA | apply pN | apply p1 | refine pS ?_ GE177.out⟩);(·rw [if_neg c25] at H;have c25b0 : (a0_3.toList == ([] : List UInt8)) = false := beq_eq_false_iff_ne.mpr c25;have c25b1 : (a0_3.toList != ([] : List UInt8)) = true := bne_iff_ne.mpr c25;by_cases c27 : t181.size + 2 ≤ 9223372036854775807;(·rw [if_pos c27] at H;have c27b0 := eq_true c27;have c27b1 : decide (t181.size + 2 ≤ 9223372036854775807) = true := dT c27;(try have c27b2 : (9223372036854775807 < t181.size + 2) = False := eq_false (Nat.not_lt.2 c27));by_cases c28 : (t181 ++ (⟨#[44, 32]⟩ : ByteArray)).size + a0_3.size ≤ 9223372036854775807;(·rw [if_pos c28] at H;have c28b0 := eq_true c28;have c28b1 : decide ((t181 ++ (⟨#[44, 32]⟩ : ByteArray)).size + a0_3.size ≤ 9223372036854775807) = true := dT c28;(try have c28b2 : (9223372036854775807 < (t181 ++ (⟨#[44, 32]⟩ : ByteArray)).size + a0_3.size) = False := eq_false (Nat.not_lt.2 c28));(try have c28b3 : (9223372036854775807 < t181.size + 2 + a0_3.size) = False := eq_false (by have h_ := c28; simp only [ByteArray.size_append, ByteArray.size_extract] at h_; (try simp only [show (⟨#[44, 32]⟩ : ByteArray).size = 2 from rfl] at h_); (try have q0_ := of_eq_true c25b0); (try have q2_ := of_eq_true c27b0); omega));obtain rfl := oI H;obtain ⟨z29_0, z29_1, z29_2, z29_3⟩ := cells4 BK177.out;(go_wp2);(go_ret);exact ⟨rfl, by with_reducible repeat first | exact HB.out | apply pA | apply pN | apply p1 | refine pS ?_ GE177.out⟩);(·rw [if_neg c28] at H;exact absurd H (by simp)));(·rw [if_neg c27] at H;exact absurd H (by simp)))
end Go.Proofs.YtgpgmamgicgacaaGreatDoor.Px
