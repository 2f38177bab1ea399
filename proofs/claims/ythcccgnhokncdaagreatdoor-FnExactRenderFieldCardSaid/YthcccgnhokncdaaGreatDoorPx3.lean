/- Calls of Go functions come to what the Lean functions beside them say; written by a program of this session (wip/xprint); no conditions. -/
import Derived.Test.YthcccgnhokncdaaGreatDoorPx2
namespace Go.Proofs.YthcccgnhokncdaaGreatDoor.Px
open Go.RowKit Go.Proofs.YthcccgnhokncdaaGreatDoorW.PrintWords Go.Proofs.YthcccgnhokncdaaGreatDoorW.PrintLast Go.Proofs.YthcccgnhokncdaaGreatDoorW.PrintMore
open Go.Proofs.YthcccgnhokncdaaGreatDoorW.PrintWords renaming pw_below_drewN → pN, below_drew1 → p1, below_alloc → pA, below_set → pS, blk_drewN → bN, blk_alloc → bL, blk_drew → bW, blk_below → bB, below_step → bS, gate_callee → gC, below_size → bZ, gate_dst → gD
open Go.Proofs.YthcccgnhokncdaaGreatDoorW.PrintWords.Aside0 renaming mk → AM
open Go.Proofs.YthcccgnhokncdaaGreatDoorW.PrintWords.Kd renaming C_alloc → cA, C_drewN → cN, C_drew → cD, C_below → cB, R_reads' → rR
open Go.Proofs.YthcccgnhokncdaaGreatDoorW.PrintLast renaming goesL_ → gL
open Bool renaming eq_false_iff → bE
open Option renaming bind_eq_some_iff → oB
open Option.some renaming inj → oI
open List renaming map_toArray → mT, map_cons → mC, map_nil → mN
attribute [local go_sem] max2_int min2_int max_two min_two max_three min_three max_four min_four
set_option maxHeartbeats 8000000
set_option maxRecDepth 100000
set_option linter.unusedVariables false
set_option linter.unusedSimpArgs false
/-! ### spec_l4Entry: function 10 -/
mutual
def spec_l4Entry.j0 : Nat → Bool → ByteArray → Int → List (S61) → List (S61) → ByteArray → ByteArray → ByteArray → Int → Int → Int → Bool → Int → ByteArray → ByteArray → Option (Bool)
 | 0, _, _, _, _, _, _, _, _, _, _, _, _, _, _, _ => none
 | k + 1, x24, x154000, x154001, x154002, x154003, x154004, x154005, x154006, x154007, x154008, x154009, x154010, x154011, x154012, x154013 => if x24 = true then (some false) else ((spec_l4Text.f k x154004).bind fun t158 => (if t158 = true then ((spec_l4Text.f k x154005).bind fun t159 => (if t159 = true then ((spec_l4Text.f k x154006).bind fun t160 => (if t160 = true then ((spec_l4Text.f k x154012).bind fun t161 => (spec_l4Entry.j1 k (!t161) x154000 x154001 x154002 x154003 x154004 x154005 x154006 x154007 x154008 x154009 x154010 x154011 x154012 x154013)) else (spec_l4Entry.j1 k true x154000 x154001 x154002 x154003 x154004 x154005 x154006 x154007 x154008 x154009 x154010 x154011 x154012 x154013))) else (spec_l4Entry.j1 k true x154000 x154001 x154002 x154003 x154004 x154005 x154006 x154007 x154008 x154009 x154010 x154011 x154012 x154013))) else (spec_l4Entry.j1 k true x154000 x154001 x154002 x154003 x154004 x154005 x154006 x154007 x154008 x154009 x154010 x154011 x154012 x154013)))
def spec_l4Entry.j1 : Nat → Bool → ByteArray → Int → List (S61) → List (S61) → ByteArray → ByteArray → ByteArray → Int → Int → Int → Bool → Int → ByteArray → ByteArray → Option (Bool)
 | 0, _, _, _, _, _, _, _, _, _, _, _, _, _, _, _ => none
 | k + 1, x46, x154000, x154001, x154002, x154003, x154004, x154005, x154006, x154007, x154008, x154009, x154010, x154011, x154012, x154013 => if x46 = true then (some false) else ((spec_l3Good.f k x154007 x154008 x154009 x154010).bind fun t162 => (if t162 = true then ((spec_l1In.f x154011 0 9999).bind fun t163 => (if t163 = true then (if x154013.toList = ([] : List UInt8) then (some true) else ((spec_l4Key.f k x154013).bind fun t164 => (if t164 = true then (some (x154013.toList != x154000.toList)) else (some false)))) else (some false))) else (some false)))
end
def spec_l4Entry.f (k : Nat) (a0_0 : ByteArray) (a0_1 : Int) (l0_2 : List (S61)) (l0_3 : List (S61)) (a0_4 : ByteArray) (a0_5 : ByteArray) (a0_6 : ByteArray) (a0_7 : Int) (a0_8 : Int) (a0_9 : Int) (a0_10 : Bool) (a0_11 : Int) (a0_12 : ByteArray) (a0_13 : ByteArray) : Option (Bool) := (spec_l4Key.f k a0_0).bind fun t154 => (if t154 = true then ((spec_l1In.f a0_1 1 4).bind fun t155 => (if t155 = true then ((spec_l2List.f k l0_2).bind fun t156 => (if t156 = true then ((spec_l2List.f k l0_3).bind fun t157 => (spec_l4Entry.j0 k (!t157) a0_0 a0_1 l0_2 l0_3 a0_4 a0_5 a0_6 a0_7 a0_8 a0_9 a0_10 a0_11 a0_12 a0_13)) else (spec_l4Entry.j0 k true a0_0 a0_1 l0_2 l0_3 a0_4 a0_5 a0_6 a0_7 a0_8 a0_9 a0_10 a0_11 a0_12 a0_13))) else (spec_l4Entry.j0 k true a0_0 a0_1 l0_2 l0_3 a0_4 a0_5 a0_6 a0_7 a0_8 a0_9 a0_10 a0_11 a0_12 a0_13))) else (spec_l4Entry.j0 k true a0_0 a0_1 l0_2 l0_3 a0_4 a0_5 a0_6 a0_7 a0_8 a0_9 a0_10 a0_11 a0_12 a0_13))
theorem spec_l4Entry.mono_l : ∀ k, (∀ y0 y1 y2 y3 y4 y5 y6 y7 y8 y9 y10 y11 y12 y13 y14, LeO (spec_l4Entry.j0 k y0 y1 y2 y3 y4 y5 y6 y7 y8 y9 y10 y11 y12 y13 y14) (spec_l4Entry.j0 (k + 1) y0 y1 y2 y3 y4 y5 y6 y7 y8 y9 y10 y11 y12 y13 y14)) ∧ (∀ y0 y1 y2 y3 y4 y5 y6 y7 y8 y9 y10 y11 y12 y13 y14, LeO (spec_l4Entry.j1 k y0 y1 y2 y3 y4 y5 y6 y7 y8 y9 y10 y11 y12 y13 y14) (spec_l4Entry.j1 (k + 1) y0 y1 y2 y3 y4 y5 y6 y7 y8 y9 y10 y11 y12 y13 y14))
 | 0 => ⟨fun _ _ _ _ _ _ _ _ _ _ _ _ _ _ _ r h => by simp [spec_l4Entry.j0] at h, fun _ _ _ _ _ _ _ _ _ _ _ _ _ _ _ r h => by simp [spec_l4Entry.j1] at h⟩
 | k + 1 => by
  obtain ⟨ih0, ih1⟩ := spec_l4Entry.mono_l k;refine ⟨?_, ?_⟩
  ·intro y0 y1 y2 y3 y4 y5 y6 y7 y8 y9 y10 y11 y12 y13 y14
   unfold spec_l4Entry.j0
   repeat' with_reducible first
   | exact ih0 _ _ _ _ _ _ _ _ _ _ _ _ _ _ _
   | exact ih1 _ _ _ _ _ _ _ _ _ _ _ _ _ _ _
   | exact spec_l2List.mono _ _
   | exact spec_l3Good.mono _ _ _ _ _
   | exact spec_l4Key.mono _ _
   | exact spec_l4Text.mono _ _
   | exact LeO.refl _
   | exact LeO.none _
   | refine LeO.ite ?_ ?_
   | refine LeO.bind ?_ (fun _ => ?_)
  ·intro y0 y1 y2 y3 y4 y5 y6 y7 y8 y9 y10 y11 y12 y13 y14
   unfold spec_l4Entry.j1
   repeat' with_reducible first
   | exact ih0 _ _ _ _ _ _ _ _ _ _ _ _ _ _ _
   | exact ih1 _ _ _ _ _ _ _ _ _ _ _ _ _ _ _
   | exact spec_l2List.mono _ _
   | exact spec_l3Good.mono _ _ _ _ _
   | exact spec_l4Key.mono _ _
   | exact spec_l4Text.mono _ _
   | exact LeO.refl _
   | exact LeO.none _
   | refine LeO.ite ?_ ?_
   | refine LeO.bind ?_ (fun _ => ?_)
theorem spec_l4Entry.mono : ∀ a0 a1 a2 a3 a4 a5 a6 a7 a8 a9 a10 a11 a12 a13 k, LeO (spec_l4Entry.f k a0 a1 a2 a3 a4 a5 a6 a7 a8 a9 a10 a11 a12 a13) (spec_l4Entry.f (k + 1) a0 a1 a2 a3 a4 a5 a6 a7 a8 a9 a10 a11 a12 a13) := by
 intro a0 a1 a2 a3 a4 a5 a6 a7 a8 a9 a10 a11 a12 a13 k;obtain ⟨ih0, ih1⟩ := spec_l4Entry.mono_l k;unfold spec_l4Entry.f
 repeat' with_reducible first
   | exact ih0 _ _ _ _ _ _ _ _ _ _ _ _ _ _ _
   | exact ih1 _ _ _ _ _ _ _ _ _ _ _ _ _ _ _
   | exact spec_l2List.mono _ _
   | exact spec_l3Good.mono _ _ _ _ _
   | exact spec_l4Key.mono _ _
   | exact spec_l4Text.mono _ _
   | exact LeO.refl _
   | exact LeO.none _
   | refine LeO.ite ?_ ?_
   | refine LeO.bind ?_ (fun _ => ?_)
theorem spec_l4Entry.calls (k : Nat) (a0_0 : ByteArray) (a0_1 : Int) (A0_2 : Option Addr) (c0_2 : Nat) (l0_2 : List (S61)) (A0_3 : Option Addr) (c0_3 : Nat) (l0_3 : List (S61)) (a0_4 : ByteArray) (a0_5 : ByteArray) (a0_6 : ByteArray) (a0_7 : Int) (a0_8 : Int) (a0_9 : Int) (a0_10 : Bool) (a0_11 : Int) (a0_12 : ByteArray) (a0_13 : ByteArray) (r : Bool) (w : World) (hr0_2 : Kd.C k61 w A0_2 l0_2.length l0_2) (hc0_2 : l0_2.length ≤ c0_2) (hr0_3 : Kd.C k61 w A0_3 l0_3.length l0_3) (hc0_3 : l0_3.length ≤ c0_3) (h : spec_l4Entry.f k a0_0 a0_1 l0_2 l0_3 a0_4 a0_5 a0_6 a0_7 a0_8 a0_9 a0_10 a0_11 a0_12 a0_13 = some r) :
  Calls Tryz.prog 10 #[.agg #[.string a0_0, .int .i64 a0_1, .slice A0_2 l0_2.length c0_2, .slice A0_3 l0_3.length c0_3, .string a0_4, .string a0_5, .string a0_6, .int .i64 a0_7, .int .i64 a0_8, .int .i64 a0_9, .bool a0_10, .int .i64 a0_11, .string a0_12, .string a0_13]] w fun e w' => e = .returned (.bool r) ∧ Below w.heap.size w w' := by
 have hu33 := Tryz.underlying33;have hu31 := Tryz.underlying31;have HR0_2 := AM hr0_2;have HC0_2 := AM hc0_2;clear hr0_2 hc0_2;have HR0_3 := AM hr0_3;have HC0_3 := AM hc0_3;clear hr0_3 hc0_3;have HB := AM (Below.refl w.heap.size w);have H := h;unfold spec_l4Entry.f at H;clear h;have HC2 := AM H;clear H;(go_enter Tryz.func10, Tryz.ntmps10)
 go_upto_region 1 with (first | ((with_reducible refine gate_dst (N := 1) rfl ?_); refine box_event ?hg (N := 1) ?hd (cs := #[.string a0_0, .int .i64 a0_1, .slice A0_2 l0_2.length c0_2, .slice A0_3 l0_3.length c0_3, .string a0_4, .string a0_5, .string a0_6, .int .i64 a0_7, .int .i64 a0_8, .int .i64 a0_9, .bool a0_10, .int .i64 a0_11, .string a0_12, .string a0_13]) (t := 33) ?hr ?_; (case hd => rfl); (case hg => rfl); (case hr => first | (go_simp; done) | (go_simp; rfl)); intro gb153 hg w3 hbox hb; have BK153 := AM (hbox); have GW153 := AM ((by rw [hg]; exact (below_size (by with_reducible repeat first | exact HB.out | apply pA | apply pN | apply p1)) : w.heap.size ≤ gb153)); have GE153 := AM ((by rw [hg]; exact (below_size (by with_reducible repeat first | exact HB.out | apply pA | apply pN | apply p1)) : w.heap.size ≤ gb153)); replace HB := AM (bS (by with_reducible repeat first | exact HB.out | apply pA | apply pN | apply p1) hb); clear hb hbox hg))
 (try simp only [Act.put, List.setIfInBounds_toArray, List.set_cons_zero, List.set_cons_succ]);(go_cut [24] (fun v24 wc => ∃ (kq : Nat) (x24_1 : Bool), v24 = .bool x24_1 ∧ Aside0 (spec_l4Entry.j0 kq x24_1 a0_0 a0_1 l0_2 l0_3 a0_4 a0_5 a0_6 a0_7 a0_8 a0_9 a0_10 a0_11 a0_12 a0_13 = some r) ∧ Aside0 (kq ≤ k) ∧ Aside0 (wc.heap[gb153]? = some (.cells #[.string a0_0, .int .i64 a0_1, (.slice A0_2 l0_2.length c0_2), (.slice A0_3 l0_3.length c0_3), .string a0_4, .string a0_5, .string a0_6, .int .i64 a0_7, .int .i64 a0_8, .int .i64 a0_9, .bool a0_10, .int .i64 a0_11, .string a0_12, .string a0_13] 33 (0, 0))) ∧ Aside0 (Below w.heap.size w wc)))
 case first =>
  have H := HC2.out;clear HC2;replace H := oB.mp H;obtain ⟨t154, A40, H⟩ := H;(try dsimp only at H);have A4 := AM A40;clear A40;by_cases c5 : t154 = true
  ·subst c5
   rw [if_pos rfl] at H;replace H := oB.mp H;obtain ⟨t155, A60, H⟩ := H;(try dsimp only at H);have A6 := AM A60;clear A60;by_cases c7 : t155 = true
   ·subst c7
    rw [if_pos rfl] at H;replace H := oB.mp H;obtain ⟨t156, A80, H⟩ := H;(try dsimp only at H);have A8 := AM A80;clear A80;by_cases c9 : t156 = true
    ·subst c9
     rw [if_pos rfl] at H;replace H := oB.mp H;obtain ⟨t157, A100, H⟩ := H;(try dsimp only at H);have A10 := AM A100;clear A100;have H' := AM H;clear H;obtain ⟨z11_0, z11_1, z11_2, z11_3, z11_4, z11_5, z11_6, z11_7, z11_8, z11_9, z11_10, z11_11, z11_12, z11_13⟩ := cells14 BK153.out
     go_wp2_with (first | ((with_reducible refine gC (f := 23) rfl ?_); refine gL (some 5) rfl rfl Tryz.func23 (by kernel_rfl) rfl #[.string a0_0] rfl (by (try simp only [mT, mC, mN]); try rfl) ?_; (with_reducible refine (spec_l4Key.calls k a0_0 true _ A4.out).mono ?_); rintro e w' ⟨rfl, ⟨nd, rfl⟩⟩; refine ⟨_, rfl, ?_⟩) | (go_at_call 11; (with_reducible refine (spec_l1In.calls a0_1 1 4 true _ A6.out).mono ?_); rintro e w' ⟨rfl, ⟨nd, rfl⟩⟩) | (go_at_call 24; (with_reducible refine (spec_l2List.calls k _ _ l0_2 true _ ?side1 ?side2 A8.out).mono ?_); (case side1 => repeat (first | exact (cB HR0_2.out (by with_reducible repeat first | exact HB.out | apply pA | apply pN | apply p1 | refine pS ?_ GE153.out)) | (with_reducible refine cA ?_ _) | (with_reducible refine cN ?_ _) | (with_reducible refine cD ?_))); (case side2 => exact HC0_2.out); rintro e w12 ⟨rfl, hb⟩; replace BK153 := AM (bB (by (with_reducible repeat first | apply bN | apply bW | apply bL); exact BK153.out) hb); replace HB := AM (bS (by with_reducible repeat first | exact HB.out | apply pA | apply pN | apply p1 | refine pS ?_ GE153.out) hb); (try clear hb); obtain ⟨z13_0, z13_1, z13_2, z13_3, z13_4, z13_5, z13_6, z13_7, z13_8, z13_9, z13_10, z13_11, z13_12, z13_13⟩ := cells14 BK153.out) | (go_at_call 24; (with_reducible refine (spec_l2List.calls k _ _ l0_3 t157 _ ?side1 ?side2 A10.out).mono ?_); (case side1 => repeat first | exact (cB HR0_3.out HB.out) | with_reducible first | apply cA | apply cN | apply cD); (case side2 => exact HC0_3.out); rintro e w14 ⟨rfl, hb⟩; replace BK153 := AM (bB (by (with_reducible repeat first | apply bN | apply bW | apply bL); exact BK153.out) hb); replace HB := AM (bS (by with_reducible repeat first | exact HB.out | apply pA | apply pN | apply p1 | refine pS ?_ GE153.out) hb); (try clear hb)))
     go_meet
     case rel => exact ⟨_, (!t157), (by first | rfl | (simp; done) | (simp [*]; done)), H', ⟨by first | omega | exact Nat.le_refl _⟩, ⟨by (with_reducible repeat (first | refine bN ?_ _ | refine bW ?_ | refine bL ?_ _)); exact BK153.out⟩, ⟨by with_reducible repeat first | exact HB.out | apply pA | apply pN | apply p1 | refine pS ?_ GE153.out⟩⟩
    ·replace c9 := bE.mpr c9
     subst c9;rw [if_neg (show ¬ (false = true) by decide)] at H;have H' := AM H;clear H;obtain ⟨z15_0, z15_1, z15_2, z15_3, z15_4, z15_5, z15_6, z15_7, z15_8, z15_9, z15_10, z15_11, z15_12, z15_13⟩ := cells14 BK153.out
     go_wp2_with (first | ((with_reducible refine gC (f := 23) rfl ?_); refine gL (some 5) rfl rfl Tryz.func23 (by kernel_rfl) rfl #[.string a0_0] rfl (by (try simp only [mT, mC, mN]); try rfl) ?_; (with_reducible refine (spec_l4Key.calls k a0_0 true _ A4.out).mono ?_); rintro e w' ⟨rfl, ⟨nd, rfl⟩⟩; refine ⟨_, rfl, ?_⟩) | (go_at_call 11; (with_reducible refine (spec_l1In.calls a0_1 1 4 true _ A6.out).mono ?_); rintro e w' ⟨rfl, ⟨nd, rfl⟩⟩) | (go_at_call 24; (with_reducible refine (spec_l2List.calls k _ _ l0_2 false _ ?side1 ?side2 A8.out).mono ?_); (case side1 => repeat (first | exact (cB HR0_2.out (by with_reducible repeat first | exact HB.out | apply pA | apply pN | apply p1 | refine pS ?_ GE153.out)) | (with_reducible refine cA ?_ _) | (with_reducible refine cN ?_ _) | (with_reducible refine cD ?_))); (case side2 => exact HC0_2.out); rintro e w16 ⟨rfl, hb⟩; replace BK153 := AM (bB (by (with_reducible repeat first | apply bN | apply bW | apply bL); exact BK153.out) hb); replace HB := AM (bS (by with_reducible repeat first | exact HB.out | apply pA | apply pN | apply p1 | refine pS ?_ GE153.out) hb); (try clear hb)))
     go_meet
     case rel => exact ⟨_, (true), (by first | rfl | (simp; done) | (simp [*]; done)), H', ⟨by first | omega | exact Nat.le_refl _⟩, ⟨by (with_reducible repeat (first | refine bN ?_ _ | refine bW ?_ | refine bL ?_ _)); exact BK153.out⟩, ⟨by with_reducible repeat first | exact HB.out | apply pA | apply pN | apply p1 | refine pS ?_ GE153.out⟩⟩
   ·replace c7 := bE.mpr c7
    subst c7;rw [if_neg (show ¬ (false = true) by decide)] at H;have H' := AM H;clear H;obtain ⟨z17_0, z17_1, z17_2, z17_3, z17_4, z17_5, z17_6, z17_7, z17_8, z17_9, z17_10, z17_11, z17_12, z17_13⟩ := cells14 BK153.out
    go_wp2_with (first | ((with_reducible refine gC (f := 23) rfl ?_); refine gL (some 5) rfl rfl Tryz.func23 (by kernel_rfl) rfl #[.string a0_0] rfl (by (try simp only [mT, mC, mN]); try rfl) ?_; (with_reducible refine (spec_l4Key.calls k a0_0 true _ A4.out).mono ?_); rintro e w' ⟨rfl, ⟨nd, rfl⟩⟩; refine ⟨_, rfl, ?_⟩) | (go_at_call 11; (with_reducible refine (spec_l1In.calls a0_1 1 4 false _ A6.out).mono ?_); rintro e w' ⟨rfl, ⟨nd, rfl⟩⟩))
    go_meet
    case rel => exact ⟨_, (true), (by first | rfl | (simp; done) | (simp [*]; done)), H', ⟨by first | omega | exact Nat.le_refl _⟩, ⟨by (with_reducible repeat (first | refine bN ?_ _ | refine bW ?_ | refine bL ?_ _)); exact BK153.out⟩, ⟨by with_reducible repeat first | exact HB.out | apply pA | apply pN | apply p1 | refine pS ?_ GE153.out⟩⟩
  ·replace c5 := bE.mpr c5
   subst c5;rw [if_neg (show ¬ (false = true) by decide)] at H;have H' := AM H;clear H;obtain ⟨z18_0, z18_1, z18_2, z18_3, z18_4, z18_5, z18_6, z18_7, z18_8, z18_9, z18_10, z18_11, z18_12, z18_13⟩ := cells14 BK153.out
   go_wp2_with (first | ((with_reducible refine gC (f := 23) rfl ?_); refine gL (some 5) rfl rfl Tryz.func23 (by kernel_rfl) rfl #[.string a0_0] rfl (by (try simp only [mT, mC, mN]); try rfl) ?_; (with_reducible refine (spec_l4Key.calls k a0_0 false _ A4.out).mono ?_); rintro e w' ⟨rfl, ⟨nd, rfl⟩⟩; refine ⟨_, rfl, ?_⟩))
   go_meet
   case rel => exact ⟨_, (true), (by first | rfl | (simp; done) | (simp [*]; done)), H', ⟨by first | omega | exact Nat.le_refl _⟩, ⟨by (with_reducible repeat (first | refine bN ?_ _ | refine bW ?_ | refine bL ?_ _)); exact BK153.out⟩, ⟨by with_reducible repeat first | exact HB.out | apply pA | apply pN | apply p1 | refine pS ?_ GE153.out⟩⟩
 case rest =>
  clear HC2;(try clear c1);(try clear c2);(try clear p2);(try clear c5);(try clear c7);(try clear c9);(try clear c10);(try clear z11_0);(try clear z11_1);(try clear z11_10);(try clear z11_11);(try clear z11_12);(try clear z11_13);(try clear z11_2);(try clear z11_3);(try clear z11_4);(try clear z11_5);(try clear z11_6);(try clear z11_7);(try clear z11_8);(try clear z11_9);(try clear z13_0);(try clear z13_1);(try clear z13_10);(try clear z13_11);(try clear z13_12);(try clear z13_13);(try clear z13_2);(try clear z13_3);(try clear z13_4);(try clear z13_5);(try clear z13_6);(try clear z13_7);(try clear z13_8);(try clear z13_9);(try clear z15_0);(try clear z15_1);(try clear z15_10);(try clear z15_11);(try clear z15_12);(try clear z15_13);(try clear z15_2);(try clear z15_3);(try clear z15_4);(try clear z15_5);(try clear z15_6);(try clear z15_7);(try clear z15_8);(try clear z15_9);(try clear z17_0);(try clear z17_1);(try clear z17_10);(try clear z17_11);(try clear z17_12);(try clear z17_13);(try clear z17_2);(try clear z17_3);(try clear z17_4);(try clear z17_5);(try clear z17_6);(try clear z17_7);(try clear z17_8);(try clear z17_9);(try clear z18_0);(try clear z18_1);(try clear z18_10);(try clear z18_11);(try clear z18_12);(try clear z18_13);(try clear z18_2);(try clear z18_3);(try clear z18_4);(try clear z18_5);(try clear z18_6);(try clear z18_7);(try clear z18_8);(try clear z18_9);obtain ⟨kq, x24_1, rfl, HA, HJ1, BK153, HB⟩ := hcut
  cases kq with
  | zero => exact absurd HA.out (by simp [spec_l4Entry.j0])
  | succ kj1 =>
   have H := HA.out;clear HA;simp only [spec_l4Entry.j0] at H;by_cases c19 : x24_1 = true;(·subst c19;rw [if_pos rfl] at H;obtain rfl := oI H;(go_wp2);(go_ret);exact ⟨rfl, by with_reducible repeat first | exact HB.out | apply pA | apply pN | apply p1 | refine pS ?_ GE153.out⟩)
   ·replace c19 := bE.mpr c19
    subst c19;rw [if_neg (show ¬ (false = true) by decide)] at H;have HC20 := AM H;clear H
    go_upto_region 3 with (fail)
    go_cut [46] (fun v46 wc => ∃ (kq : Nat) (x46_19 : Bool), v46 = .bool x46_19 ∧ Aside0 (spec_l4Entry.j1 kq x46_19 a0_0 a0_1 l0_2 l0_3 a0_4 a0_5 a0_6 a0_7 a0_8 a0_9 a0_10 a0_11 a0_12 a0_13 = some r) ∧ Aside0 (kq ≤ kj1) ∧ Aside0 (wc.heap[gb153]? = some (.cells #[.string a0_0, .int .i64 a0_1, (.slice A0_2 l0_2.length c0_2), (.slice A0_3 l0_3.length c0_3), .string a0_4, .string a0_5, .string a0_6, .int .i64 a0_7, .int .i64 a0_8, .int .i64 a0_9, .bool a0_10, .int .i64 a0_11, .string a0_12, .string a0_13] 33 (0, 0))) ∧ Aside0 (Below w.heap.size w wc))
    case first =>
     have H := HC20.out;clear HC20;replace H := oB.mp H;obtain ⟨t158, A210, H⟩ := H;(try dsimp only at H);have A21 := AM A210;clear A210;by_cases c22 : t158 = true
     ·subst c22
      rw [if_pos rfl] at H;replace H := oB.mp H;obtain ⟨t159, A230, H⟩ := H;(try dsimp only at H);have A23 := AM A230;clear A230;by_cases c24 : t159 = true
      ·subst c24
       rw [if_pos rfl] at H;replace H := oB.mp H;obtain ⟨t160, A250, H⟩ := H;(try dsimp only at H);have A25 := AM A250;clear A250;by_cases c26 : t160 = true
       ·subst c26
        rw [if_pos rfl] at H;replace H := oB.mp H;obtain ⟨t161, A270, H⟩ := H;(try dsimp only at H);have A27 := AM A270;clear A270;have H' := AM H;clear H;obtain ⟨z28_0, z28_1, z28_2, z28_3, z28_4, z28_5, z28_6, z28_7, z28_8, z28_9, z28_10, z28_11, z28_12, z28_13⟩ := cells14 BK153.out
        go_wp2_with (first | ((with_reducible refine gC (f := 25) rfl ?_); refine gL (some 27) rfl rfl Tryz.func25 (by kernel_rfl) rfl #[.string a0_4] rfl (by (try simp only [mT, mC, mN]); try rfl) ?_; (with_reducible refine (spec_l4Text.calls kj1 a0_4 true _ A21.out).mono ?_); rintro e w' ⟨rfl, ⟨nd, rfl⟩⟩; refine ⟨_, rfl, ?_⟩) | (go_at_call 25; (with_reducible refine (spec_l4Text.calls kj1 a0_5 true _ A23.out).mono ?_); rintro e w' ⟨rfl, ⟨nd, rfl⟩⟩) | (go_at_call 25; (with_reducible refine (spec_l4Text.calls kj1 a0_6 true _ A25.out).mono ?_); rintro e w' ⟨rfl, ⟨nd, rfl⟩⟩) | (go_at_call 25; (with_reducible refine (spec_l4Text.calls kj1 a0_12 t161 _ A27.out).mono ?_); rintro e w' ⟨rfl, ⟨nd, rfl⟩⟩))
        go_meet
        case rel => exact ⟨_, (!t161), (by first | rfl | (simp; done) | (simp [*]; done)), H', ⟨by have := HJ1.out; first | omega | exact Nat.le_refl _⟩, ⟨by (with_reducible repeat (first | refine bN ?_ _ | refine bW ?_ | refine bL ?_ _)); exact BK153.out⟩, ⟨by with_reducible repeat first | exact HB.out | apply pA | apply pN | apply p1 | refine pS ?_ GE153.out⟩⟩
       ·replace c26 := bE.mpr c26
        subst c26;rw [if_neg (show ¬ (false = true) by decide)] at H;have H' := AM H;clear H;obtain ⟨z29_0, z29_1, z29_2, z29_3, z29_4, z29_5, z29_6, z29_7, z29_8, z29_9, z29_10, z29_11, z29_12, z29_13⟩ := cells14 BK153.out
        go_wp2_with (first | ((with_reducible refine gC (f := 25) rfl ?_); refine gL (some 27) rfl rfl Tryz.func25 (by kernel_rfl) rfl #[.string a0_4] rfl (by (try simp only [mT, mC, mN]); try rfl) ?_; (with_reducible refine (spec_l4Text.calls kj1 a0_4 true _ A21.out).mono ?_); rintro e w' ⟨rfl, ⟨nd, rfl⟩⟩; refine ⟨_, rfl, ?_⟩) | (go_at_call 25; (with_reducible refine (spec_l4Text.calls kj1 a0_5 true _ A23.out).mono ?_); rintro e w' ⟨rfl, ⟨nd, rfl⟩⟩) | (go_at_call 25; (with_reducible refine (spec_l4Text.calls kj1 a0_6 false _ A25.out).mono ?_); rintro e w' ⟨rfl, ⟨nd, rfl⟩⟩))
        go_meet
        case rel => exact ⟨_, (true), (by first | rfl | (simp; done) | (simp [*]; done)), H', ⟨by have := HJ1.out; first | omega | exact Nat.le_refl _⟩, ⟨by (with_reducible repeat (first | refine bN ?_ _ | refine bW ?_ | refine bL ?_ _)); exact BK153.out⟩, ⟨by with_reducible repeat first | exact HB.out | apply pA | apply pN | apply p1 | refine pS ?_ GE153.out⟩⟩
      ·replace c24 := bE.mpr c24
       subst c24;rw [if_neg (show ¬ (false = true) by decide)] at H;have H' := AM H;clear H;obtain ⟨z30_0, z30_1, z30_2, z30_3, z30_4, z30_5, z30_6, z30_7, z30_8, z30_9, z30_10, z30_11, z30_12, z30_13⟩ := cells14 BK153.out
       go_wp2_with (first | ((with_reducible refine gC (f := 25) rfl ?_); refine gL (some 27) rfl rfl Tryz.func25 (by kernel_rfl) rfl #[.string a0_4] rfl (by (try simp only [mT, mC, mN]); try rfl) ?_; (with_reducible refine (spec_l4Text.calls kj1 a0_4 true _ A21.out).mono ?_); rintro e w' ⟨rfl, ⟨nd, rfl⟩⟩; refine ⟨_, rfl, ?_⟩) | (go_at_call 25; (with_reducible refine (spec_l4Text.calls kj1 a0_5 false _ A23.out).mono ?_); rintro e w' ⟨rfl, ⟨nd, rfl⟩⟩))
       go_meet
       case rel => exact ⟨_, (true), (by first | rfl | (simp; done) | (simp [*]; done)), H', ⟨by have := HJ1.out; first | omega | exact Nat.le_refl _⟩, ⟨by (with_reducible repeat (first | refine bN ?_ _ | refine bW ?_ | refine bL ?_ _)); exact BK153.out⟩, ⟨by with_reducible repeat first | exact HB.out | apply pA | apply pN | apply p1 | refine pS ?_ GE153.out⟩⟩
     ·replace c22 := bE.mpr c22
      subst c22;rw [if_neg (show ¬ (false = true) by decide)] at H;have H' := AM H;clear H;obtain ⟨z31_0, z31_1, z31_2, z31_3, z31_4, z31_5, z31_6, z31_7, z31_8, z31_9, z31_10, z31_11, z31_12, z31_13⟩ := cells14 BK153.out
      go_wp2_with (first | ((with_reducible refine gC (f := 25) rfl ?_); refine gL (some 27) rfl rfl Tryz.func25 (by kernel_rfl) rfl #[.string a0_4] rfl (by (try simp only [mT, mC, mN]); try rfl) ?_; (with_reducible refine (spec_l4Text.calls kj1 a0_4 false _ A21.out).mono ?_); rintro e w' ⟨rfl, ⟨nd, rfl⟩⟩; refine ⟨_, rfl, ?_⟩))
      go_meet
      case rel => exact ⟨_, (true), (by first | rfl | (simp; done) | (simp [*]; done)), H', ⟨by have := HJ1.out; first | omega | exact Nat.le_refl _⟩, ⟨by (with_reducible repeat (first | refine bN ?_ _ | refine bW ?_ | refine bL ?_ _)); exact BK153.out⟩, ⟨by with_reducible repeat first | exact HB.out | apply pA | apply pN | apply p1 | refine pS ?_ GE153.out⟩⟩
    case rest =>
     clear HC20;(try clear c1);(try clear c2);(try clear p2);(try clear c5);(try clear c7);(try clear c9);(try clear c10);(try clear c19);(try clear c22);(try clear c23);(try clear c24);(try clear c25);(try clear c26);(try clear z11_0);(try clear z11_1);(try clear z11_10);(try clear z11_11);(try clear z11_12);(try clear z11_13);(try clear z11_2);(try clear z11_3);(try clear z11_4);(try clear z11_5);(try clear z11_6);(try clear z11_7);(try clear z11_8);(try clear z11_9);(try clear z13_0);(try clear z13_1);(try clear z13_10);(try clear z13_11);(try clear z13_12);(try clear z13_13);(try clear z13_2);(try clear z13_3);(try clear z13_4);(try clear z13_5);(try clear z13_6);(try clear z13_7);(try clear z13_8);(try clear z13_9);(try clear z15_0);(try clear z15_1);(try clear z15_10);(try clear z15_11);(try clear z15_12);(try clear z15_13);(try clear z15_2);(try clear z15_3);(try clear z15_4);(try clear z15_5);(try clear z15_6);(try clear z15_7);(try clear z15_8);(try clear z15_9);(try clear z17_0);(try clear z17_1);(try clear z17_10);(try clear z17_11);(try clear z17_12);(try clear z17_13);(try clear z17_2);(try clear z17_3);(try clear z17_4);(try clear z17_5);(try clear z17_6);(try clear z17_7);(try clear z17_8);(try clear z17_9);(try clear z18_0);(try clear z18_1);(try clear z18_10);(try clear z18_11);(try clear z18_12);(try clear z18_13);(try clear z18_2);(try clear z18_3);(try clear z18_4);(try clear z18_5);(try clear z18_6);(try clear z18_7);(try clear z18_8);(try clear z18_9);(try clear z28_0);(try clear z28_1);(try clear z28_10);(try clear z28_11);(try clear z28_12);(try clear z28_13);(try clear z28_2);(try clear z28_3);(try clear z28_4);(try clear z28_5);(try clear z28_6);(try clear z28_7);(try clear z28_8);(try clear z28_9);(try clear z29_0);(try clear z29_1);(try clear z29_10);(try clear z29_11);(try clear z29_12);(try clear z29_13);(try clear z29_2);(try clear z29_3);(try clear z29_4);(try clear z29_5);(try clear z29_6);(try clear z29_7);(try clear z29_8);(try clear z29_9);(try clear z30_0);(try clear z30_1);(try clear z30_10);(try clear z30_11);(try clear z30_12);(try clear z30_13);(try clear z30_2);(try clear z30_3);(try clear z30_4);(try clear z30_5);(try clear z30_6);(try clear z30_7);(try clear z30_8);(try clear z30_9);(try clear z31_0);(try clear z31_1);(try clear z31_10);(try clear z31_11);(try clear z31_12);(try clear z31_13);(try clear z31_2);(try clear z31_3);(try clear z31_4);(try clear z31_5);(try clear z31_6);(try clear z31_7);(try clear z31_8);(try clear z31_9);(try clear p2);obtain ⟨kq, x46_19, rfl, HA, HJ19, BK153, HB⟩ := hcut
     cases kq with
     | zero => exact absurd HA.out (by simp [spec_l4Entry.j1])
     | succ kj19 =>
      have H := HA.out;clear HA;simp only [spec_l4Entry.j1] at H;by_cases c32 : x46_19 = true;(·subst c32;rw [if_pos rfl] at H;obtain rfl := oI H;(go_wp2);(go_ret);exact ⟨rfl, by with_reducible repeat first | exact HB.out | apply pA | apply pN | apply p1 | refine pS ?_ GE153.out⟩)
      ·replace c32 := bE.mpr c32
       subst c32;rw [if_neg (show ¬ (false = true) by decide)] at H;replace H := oB.mp H;obtain ⟨t162, A330, H⟩ := H;(try dsimp only at H);have A33 := AM A330;clear A330;by_cases c34 : t162 = true
       ·subst c34
        rw [if_pos rfl] at H;replace H := oB.mp H;obtain ⟨t163, A350, H⟩ := H;(try dsimp only at H);have A35 := AM A350;clear A350;by_cases c36 : t163 = true
        ·subst c36
         rw [if_pos rfl] at H;by_cases c37 : a0_13.toList = ([] : List UInt8)
         ·rw [if_pos c37] at H
          have c37b0 : (a0_13.toList == ([] : List UInt8)) = true := beq_iff_eq.mpr c37;have c37b1 : (a0_13.toList != ([] : List UInt8)) = false := bne_eq_false_iff_eq.mpr c37;clear c37;obtain rfl := oI H;obtain ⟨z38_0, z38_1, z38_2, z38_3, z38_4, z38_5, z38_6, z38_7, z38_8, z38_9, z38_10, z38_11, z38_12, z38_13⟩ := cells14 BK153.out
          go_wp2_with (first | ((with_reducible refine gC (f := 26) rfl ?_); refine gL (some 49) rfl rfl Tryz.func26 (by kernel_rfl) rfl #[.agg #[.int .i64 a0_7, .int .i64 a0_8, .int .i64 a0_9, .bool a0_10]] rfl (by (try simp only [mT, mC, mN]); try rfl) ?_; (with_reducible refine (spec_l3Good.calls kj19 a0_7 a0_8 a0_9 a0_10 true _ A33.out).mono ?_); rintro e w39 ⟨rfl, hb⟩; refine ⟨_, rfl, ?_⟩; replace BK153 := AM (bB (by (with_reducible repeat first | apply bN | apply bW | apply bL); exact BK153.out) hb); replace HB := AM (bS (by with_reducible repeat first | exact HB.out | apply pA | apply pN | apply p1 | refine pS ?_ GE153.out) hb); (try clear hb); obtain ⟨z40_0, z40_1, z40_2, z40_3, z40_4, z40_5, z40_6, z40_7, z40_8, z40_9, z40_10, z40_11, z40_12, z40_13⟩ := cells14 BK153.out) | (go_at_call 11; (with_reducible refine (spec_l1In.calls a0_11 0 9999 true _ A35.out).mono ?_); rintro e w' ⟨rfl, ⟨nd, rfl⟩⟩))
          (go_ret);exact ⟨rfl, by with_reducible repeat first | exact HB.out | apply pA | apply pN | apply p1 | refine pS ?_ GE153.out⟩
         ·rw [if_neg c37] at H
          have c37b0 : (a0_13.toList == ([] : List UInt8)) = false := beq_eq_false_iff_ne.mpr c37;have c37b1 : (a0_13.toList != ([] : List UInt8)) = true := bne_iff_ne.mpr c37;replace H := oB.mp H;obtain ⟨t164, A410, H⟩ := H;(try dsimp only at H);have A41 := AM A410;clear A410;by_cases c42 : t164 = true
          ·subst c42
           rw [if_pos rfl] at H;obtain rfl := oI H;obtain ⟨z43_0, z43_1, z43_2, z43_3, z43_4, z43_5, z43_6, z43_7, z43_8, z43_9, z43_10, z43_11, z43_12, z43_13⟩ := cells14 BK153.out
           go_wp2_with (first | ((with_reducible refine gC (f := 26) rfl ?_); refine gL (some 49) rfl rfl Tryz.func26 (by kernel_rfl) rfl #[.agg #[.int .i64 a0_7, .int .i64 a0_8, .int .i64 a0_9, .bool a0_10]] rfl (by (try simp only [mT, mC, mN]); try rfl) ?_; (with_reducible refine (spec_l3Good.calls kj19 a0_7 a0_8 a0_9 a0_10 true _ A33.out).mono ?_); rintro e w44 ⟨rfl, hb⟩; refine ⟨_, rfl, ?_⟩; replace BK153 := AM (bB (by (with_reducible repeat first | apply bN | apply bW | apply bL); exact BK153.out) hb); replace HB := AM (bS (by with_reducible repeat first | exact HB.out | apply pA | apply pN | apply p1 | refine pS ?_ GE153.out) hb); (try clear hb); obtain ⟨z45_0, z45_1, z45_2, z45_3, z45_4, z45_5, z45_6, z45_7, z45_8, z45_9, z45_10, z45_11, z45_12, z45_13⟩ := cells14 BK153.out) | (go_at_call 11; (with_reducible refine (spec_l1In.calls a0_11 0 9999 true _ A35.out).mono ?_); rintro e w' ⟨rfl, ⟨nd, rfl⟩⟩) | (go_at_call 23; (with_reducible refine (spec_l4Key.calls kj19 a0_13 true _ A41.out).mono ?_); rintro e w' ⟨rfl, ⟨nd, rfl⟩⟩))
           (go_ret);exact ⟨rfl, by with_reducible repeat first | exact HB.out | apply pA | apply pN | apply p1 | refine pS ?_ GE153.out⟩
          ·replace c42 := bE.mpr c42
           subst c42;rw [if_neg (show ¬ (false = true) by decide)] at H;obtain rfl := oI H;obtain ⟨z46_0, z46_1, z46_2, z46_3, z46_4, z46_5, z46_6, z46_7, z46_8, z46_9, z46_10, z46_11, z46_12, z46_13⟩ := cells14 BK153.out
           go_wp2_with (first | ((with_reducible refine gC (f := 26) rfl ?_); refine gL (some 49) rfl rfl Tryz.func26 (by kernel_rfl) rfl #[.agg #[.int .i64 a0_7, .int .i64 a0_8, .int .i64 a0_9, .bool a0_10]] rfl (by (try simp only [mT, mC, mN]); try rfl) ?_; (with_reducible refine (spec_l3Good.calls kj19 a0_7 a0_8 a0_9 a0_10 true _ A33.out).mono ?_); rintro e w47 ⟨rfl, hb⟩; refine ⟨_, rfl, ?_⟩; replace BK153 := AM (bB (by (with_reducible repeat first | apply bN | apply bW | apply bL); exact BK153.out) hb); replace HB := AM (bS (by with_reducible repeat first | exact HB.out | apply pA | apply pN | apply p1 | refine pS ?_ GE153.out) hb); (try clear hb); obtain ⟨z48_0, z48_1, z48_2, z48_3, z48_4, z48_5, z48_6, z48_7, z48_8, z48_9, z48_10, z48_11, z48_12, z48_13⟩ := cells14 BK153.out) | (go_at_call 11; (with_reducible refine (spec_l1In.calls a0_11 0 9999 true _ A35.out).mono ?_); rintro e w' ⟨rfl, ⟨nd, rfl⟩⟩) | (go_at_call 23; (with_reducible refine (spec_l4Key.calls kj19 a0_13 false _ A41.out).mono ?_); rintro e w' ⟨rfl, ⟨nd, rfl⟩⟩))
           (go_ret);exact ⟨rfl, by with_reducible repeat first | exact HB.out | apply pA | apply pN | apply p1 | refine pS ?_ GE153.out⟩
        ·replace c36 := bE.mpr c36
         subst c36;rw [if_neg (show ¬ (false = true) by decide)] at H;obtain rfl := oI H;obtain ⟨z49_0, z49_1, z49_2, z49_3, z49_4, z49_5, z49_6, z49_7, z49_8, z49_9, z49_10, z49_11, z49_12, z49_13⟩ := cells14 BK153.out
         go_wp2_with (first | ((with_reducible refine gC (f := 26) rfl ?_); refine gL (some 49) rfl rfl Tryz.func26 (by kernel_rfl) rfl #[.agg #[.int .i64 a0_7, .int .i64 a0_8, .int .i64 a0_9, .bool a0_10]] rfl (by (try simp only [mT, mC, mN]); try rfl) ?_; (with_reducible refine (spec_l3Good.calls kj19 a0_7 a0_8 a0_9 a0_10 true _ A33.out).mono ?_); rintro e w50 ⟨rfl, hb⟩; refine ⟨_, rfl, ?_⟩; replace BK153 := AM (bB (by (with_reducible repeat first | apply bN | apply bW | apply bL); exact BK153.out) hb); replace HB := AM (bS (by with_reducible repeat first | exact HB.out | apply pA | apply pN | apply p1 | refine pS ?_ GE153.out) hb); (try clear hb); obtain ⟨z51_0, z51_1, z51_2, z51_3, z51_4, z51_5, z51_6, z51_7, z51_8, z51_9, z51_10, z51_11, z51_12, z51_13⟩ := cells14 BK153.out) | (go_at_call 11; (with_reducible refine (spec_l1In.calls a0_11 0 9999 false _ A35.out).mono ?_); rintro e w' ⟨rfl, ⟨nd, rfl⟩⟩))
         (go_ret);exact ⟨rfl, by with_reducible repeat first | exact HB.out | apply pA | apply pN | apply p1 | refine pS ?_ GE153.out⟩
       ·replace c34 := bE.mpr c34
        subst c34;rw [if_neg (show ¬ (false = true) by decide)] at H;obtain rfl := oI H;obtain ⟨z52_0, z52_1, z52_2, z52_3, z52_4, z52_5, z52_6, z52_7, z52_8, z52_9, z52_10, z52_11, z52_12, z52_13⟩ := cells14 BK153.out
        go_wp2_with (first | ((with_reducible refine gC (f := 26) rfl ?_); refine gL (some 49) rfl rfl Tryz.func26 (by kernel_rfl) rfl #[.agg #[.int .i64 a0_7, .int .i64 a0_8, .int .i64 a0_9, .bool a0_10]] rfl (by (try simp only [mT, mC, mN]); try rfl) ?_; (with_reducible refine (spec_l3Good.calls kj19 a0_7 a0_8 a0_9 a0_10 false _ A33.out).mono ?_); rintro e w53 ⟨rfl, hb⟩; refine ⟨_, rfl, ?_⟩; replace BK153 := AM (bB (by (with_reducible repeat first | apply bN | apply bW | apply bL); exact BK153.out) hb); replace HB := AM (bS (by with_reducible repeat first | exact HB.out | apply pA | apply pN | apply p1 | refine pS ?_ GE153.out) hb); (try clear hb)))
        (go_ret);exact ⟨rfl, by with_reducible repeat first | exact HB.out | apply pA | apply pN | apply p1 | refine pS ?_ GE153.out⟩
/-! ### spec_l9In: function 27 -/
def spec_l9In.l0 : Nat → List ByteArray → ByteArray → Int → Option (Bool)
 | 0, _, _, _ => none
 | k + 1, x0, x1, x5 => if x5 < (x0.length : Int) then (if 0 ≤ x5 then (if (rdOf ByteArray.empty x0 x5).toList = x1.toList then (some true) else (spec_l9In.l0 k x0 x1 (wrap64 (x5 + 1)))) else (none)) else (some false)
def spec_l9In.f (k : Nat) (l0 : List ByteArray) (a1 : ByteArray) : Option (Bool) := spec_l9In.l0 k l0 a1 0
theorem spec_l9In.mono_l : ∀ k, (∀ y0 y1 y2, LeO (spec_l9In.l0 k y0 y1 y2) (spec_l9In.l0 (k + 1) y0 y1 y2))
 | 0 => fun _ _ _ r h => by simp [spec_l9In.l0] at h
 | k + 1 => by
  have ih0 := spec_l9In.mono_l k
  ·intro y0 y1 y2
   unfold spec_l9In.l0
   repeat' with_reducible first
   | exact ih0 _ _ _
   | exact LeO.refl _
   | exact LeO.none _
   | refine LeO.ite ?_ ?_
   | refine LeO.bind ?_ (fun _ => ?_)
theorem spec_l9In.mono : ∀ a0 a1 k, LeO (spec_l9In.f k a0 a1) (spec_l9In.f (k + 1) a0 a1) := by
 intro a0 a1 k;have ih0 := spec_l9In.mono_l k;unfold spec_l9In.f
 repeat' with_reducible first
   | exact ih0 _ _ _
   | exact LeO.refl _
   | exact LeO.none _
   | refine LeO.ite ?_ ?_
   | refine LeO.bind ?_ (fun _ => ?_)
theorem spec_l9In.calls (k : Nat) (A0 : Option Addr) (c0 : Nat) (l0 : List ByteArray) (a1 : ByteArray) (r : Bool) (w : World) (hr0 : Kd.C Kd.string w A0 l0.length l0) (hc0 : l0.length ≤ c0) (h : spec_l9In.f k l0 a1 = some r) :
  Calls Tryz.prog 27 #[.slice A0 l0.length c0, .string a1] w fun e w' => e = .returned (.bool r) ∧ Drawn0 w w' := by
 have HR0 := AM hr0;have HC0 := AM hc0;clear hr0 hc0;have H := h;unfold spec_l9In.f at H;clear h;have H' := AM H;clear H;(go_enter Tryz.func27, Tryz.ntmps27);(go_wp2);(go_loopg [5] k (fun kq v5 w' => ∃ (x5_1 : Int), v5 = .int .i64 x5_1 ∧ Aside0 (spec_l9In.l0 kq l0 a1 x5_1 = some r) ∧ Aside0 (kq ≤ k) ∧ Drawn0 w w'))
 case atStart => exact ⟨(0), (by first | rfl | (simp; done) | (simp [*]; done)), H', ⟨Nat.le_refl _⟩, by repeat (first | exact Drawn0.refl _ | apply Drawn0.step)⟩
 case round =>
  clear H';(try clear c2);(try clear p2);obtain ⟨x5_1, rfl, HA, HK1, ⟨m1, rfl⟩⟩ := hrel
  cases gk with
  | zero => exact absurd HA.out (by simp [spec_l9In.l0])
  | succ k1 =>
   have H := HA.out;clear HA;simp only [spec_l9In.l0] at H;by_cases c3 : x5_1 < (l0.length : Int)
   ·rw [if_pos c3] at H
    have c3b0 : decide (x5_1 < (l0.length : Int)) = true := dT c3;clear c3;by_cases c4 : 0 ≤ x5_1
    ·rw [if_pos c4] at H
     have c4b0 : decide (0 ≤ x5_1) = true := dT c4;clear c4;by_cases c5 : (rdOf ByteArray.empty l0 x5_1).toList = a1.toList;(·rw [if_pos c5] at H;have c5b0 : ((rdOf ByteArray.empty l0 x5_1).toList == a1.toList) = true := beq_iff_eq.mpr c5;have c5b1 : ((rdOf ByteArray.empty l0 x5_1).toList != a1.toList) = false := bne_eq_false_iff_eq.mpr c5;clear c5;obtain rfl := oI H;have p165 : 0 ≤ (x5_1 : Int) := oD (by assumption);have q165 : x5_1 < (l0.length : Int) := oD (by assumption);obtain ⟨ad165, e165, hx165_0⟩ := Kd.at_string HR0.out x5_1 p165 q165;cases e165;replace p165 := eq_true p165;replace q165 := eq_true q165;(go_wp2);(go_ret);exact ⟨by first | rfl | (simp; done) | (simp [*]; done), by repeat (first | exact Drawn0.refl _ | apply Drawn0.step)⟩)
     ·rw [if_neg c5] at H
      have c5b0 : ((rdOf ByteArray.empty l0 x5_1).toList == a1.toList) = false := beq_eq_false_iff_ne.mpr c5;have c5b1 : ((rdOf ByteArray.empty l0 x5_1).toList != a1.toList) = true := bne_iff_ne.mpr c5;have H' := AM H;clear H;have p165 : 0 ≤ (x5_1 : Int) := oD (by assumption);have q165 : x5_1 < (l0.length : Int) := oD (by assumption);obtain ⟨ad165, e165, hx165_0⟩ := Kd.at_string HR0.out x5_1 p165 q165;cases e165;replace p165 := eq_true p165;replace q165 := eq_true q165;(go_wp2);(go_roundg k1)
      case measure => have := HK1.out; omega
      case rel => exact ⟨(wrap64 (x5_1 + 1)), (by first | rfl | (simp; done) | (simp [*]; done)), H', ⟨by have := HK1.out; omega⟩, by repeat (first | exact Drawn0.refl _ | apply Drawn0.step)⟩
    ·rw [if_neg c4] at H
     exact absurd H (by simp)
   ·rw [if_neg c3] at H
    have c3b0 : decide (x5_1 < (l0.length : Int)) = false := dF c3;clear c3;obtain rfl := oI H;(go_wp2);(go_ret);exact ⟨by first | rfl | (simp; done) | (simp [*]; done), by repeat (first | exact Drawn0.refl _ | apply Drawn0.step)⟩
/-! ### spec_l4Fields: function 28 -/
def spec_l4Fields.f  : Option (List ByteArray) := some (([(⟨#[97, 117, 116, 104, 111, 114, 115]⟩ : ByteArray), (⟨#[101, 100, 105, 116, 111, 114, 115]⟩ : ByteArray), (⟨#[116, 105, 116, 108, 101]⟩ : ByteArray), (⟨#[99, 111, 110, 116, 97, 105, 110, 101, 114]⟩ : ByteArray), (⟨#[112, 117, 98, 108, 105, 115, 104, 101, 114]⟩ : ByteArray), (⟨#[100, 97, 116, 101]⟩ : ByteArray), (⟨#[118, 111, 108, 117, 109, 101]⟩ : ByteArray), (⟨#[112, 97, 103, 101, 115]⟩ : ByteArray)] : List ByteArray))
theorem spec_l4Fields.calls  (r : List ByteArray) (w : World) (h : spec_l4Fields.f  = some r) :
  Calls Tryz.prog 28 #[] w fun e w' => ∃ v0_ : Value, e = .returned (v0_) ∧ Kd.R Kd.string 9 w' w.heap.size (fun _ => True) v0_ r ∧ Below w.heap.size w w' := by
 have HB := AM (Below.refl w.heap.size w);have H := h;unfold spec_l4Fields.f at H;clear h
 obtain ⟨y166, hy166⟩ : ∃ y_ : List ByteArray, y_ = (([(⟨#[97, 117, 116, 104, 111, 114, 115]⟩ : ByteArray), (⟨#[101, 100, 105, 116, 111, 114, 115]⟩ : ByteArray), (⟨#[116, 105, 116, 108, 101]⟩ : ByteArray), (⟨#[99, 111, 110, 116, 97, 105, 110, 101, 114]⟩ : ByteArray), (⟨#[112, 117, 98, 108, 105, 115, 104, 101, 114]⟩ : ByteArray), (⟨#[100, 97, 116, 101]⟩ : ByteArray), (⟨#[118, 111, 108, 117, 109, 101]⟩ : ByteArray), (⟨#[112, 97, 103, 101, 115]⟩ : ByteArray)] : List ByteArray)) := ⟨_, rfl⟩
 (replace H : (some y166) = some r := by first | (rw [hy166]; with_reducible exact H) | (have H2_ := (Option.bind_some _ _).symm.trans H; rw [hy166]; with_reducible exact H2_) | (have H2_ := (Option.bind_some _ _).symm.trans H; with_reducible exact H2_) | with_reducible exact H | (rw [hy166]; exact H) | exact H);have Ny166 := AM hy166;clear hy166;obtain rfl := oI H;(go_enter Tryz.func28, Tryz.ntmps28)
 go_wp2_with (first | ((with_reducible refine gate_dst (N := 1) rfl ?_); refine Kd.R_lit Kd.string _ 9 ?hg (N := 1) ?hd (xs := ([(⟨#[97, 117, 116, 104, 111, 114, 115]⟩ : ByteArray), (⟨#[101, 100, 105, 116, 111, 114, 115]⟩ : ByteArray), (⟨#[116, 105, 116, 108, 101]⟩ : ByteArray), (⟨#[99, 111, 110, 116, 97, 105, 110, 101, 114]⟩ : ByteArray), (⟨#[112, 117, 98, 108, 105, 115, 104, 101, 114]⟩ : ByteArray), (⟨#[100, 97, 116, 101]⟩ : ByteArray), (⟨#[118, 111, 108, 117, 109, 101]⟩ : ByteArray), (⟨#[112, 97, 103, 101, 115]⟩ : ByteArray)] : List ByteArray)) (inner := [.string (⟨#[97, 117, 116, 104, 111, 114, 115]⟩ : ByteArray), .string (⟨#[101, 100, 105, 116, 111, 114, 115]⟩ : ByteArray), .string (⟨#[116, 105, 116, 108, 101]⟩ : ByteArray), .string (⟨#[99, 111, 110, 116, 97, 105, 110, 101, 114]⟩ : ByteArray), .string (⟨#[112, 117, 98, 108, 105, 115, 104, 101, 114]⟩ : ByteArray), .string (⟨#[100, 97, 116, 101]⟩ : ByteArray), .string (⟨#[118, 111, 108, 117, 109, 101]⟩ : ByteArray), .string (⟨#[112, 97, 103, 101, 115]⟩ : ByteArray)]) (ok := fun _ => True) (okp := fun _ => True) ?hr ?hp (fun _ hk => hk) trivial (Below.refl _ _) (Nat.le_refl _) (by simp) ?_; (case hd => rfl); (case hg => rfl); (case hr => first | (go_simp; done) | (go_simp; rfl)); (case hp => exact (Reps.one (show Kd.M Kd.string _ _ _ (⟨#[97, 117, 116, 104, 111, 114, 115]⟩ : ByteArray) [.string (⟨#[97, 117, 116, 104, 111, 114, 115]⟩ : ByteArray)] from rfl) (Reps.one (show Kd.M Kd.string _ _ _ (⟨#[101, 100, 105, 116, 111, 114, 115]⟩ : ByteArray) [.string (⟨#[101, 100, 105, 116, 111, 114, 115]⟩ : ByteArray)] from rfl) (Reps.one (show Kd.M Kd.string _ _ _ (⟨#[116, 105, 116, 108, 101]⟩ : ByteArray) [.string (⟨#[116, 105, 116, 108, 101]⟩ : ByteArray)] from rfl) (Reps.one (show Kd.M Kd.string _ _ _ (⟨#[99, 111, 110, 116, 97, 105, 110, 101, 114]⟩ : ByteArray) [.string (⟨#[99, 111, 110, 116, 97, 105, 110, 101, 114]⟩ : ByteArray)] from rfl) (Reps.one (show Kd.M Kd.string _ _ _ (⟨#[112, 117, 98, 108, 105, 115, 104, 101, 114]⟩ : ByteArray) [.string (⟨#[112, 117, 98, 108, 105, 115, 104, 101, 114]⟩ : ByteArray)] from rfl) (Reps.one (show Kd.M Kd.string _ _ _ (⟨#[100, 97, 116, 101]⟩ : ByteArray) [.string (⟨#[100, 97, 116, 101]⟩ : ByteArray)] from rfl) (Reps.one (show Kd.M Kd.string _ _ _ (⟨#[118, 111, 108, 117, 109, 101]⟩ : ByteArray) [.string (⟨#[118, 111, 108, 117, 109, 101]⟩ : ByteArray)] from rfl) (Reps.one (show Kd.M Kd.string _ _ _ (⟨#[112, 97, 103, 101, 115]⟩ : ByteArray) [.string (⟨#[112, 97, 103, 101, 115]⟩ : ByteArray)] from rfl) (Reps.none _ _)))))))))); intro v167 w1 ho2 hb hg_ hnew_; clear hg_ hnew_; (first | rw [← Ny166.out] at ho2 | (simp only [Int.reduceToNat] at ho2; rw [← Ny166.out] at ho2)); have HO168 := AM (Kd.R_lower ho2 (below_size (by with_reducible repeat first | exact HB.out | apply pA | apply pN | apply p1))); replace HB := AM (below_step (by with_reducible repeat first | exact HB.out | apply pA | apply pN | apply p1) hb); clear hb ho2))
 (go_ret);exact ⟨_, rfl, by (with_reducible repeat (first | apply Kd.R_alloc | apply Kd.R_drewN | apply Kd.R_drew)); exact HO168.out, by with_reducible repeat first | exact HB.out | apply pA | apply pN | apply p1⟩
/-! ### spec_l9Field: function 12 -/
def spec_l9Field.f (k : Nat) (a0 : ByteArray) : Option (Bool) := if a0.toList = ([121, 101, 97, 114] : List UInt8) then (some true) else (if a0.toList = ([107, 101, 121] : List UInt8) then (some true) else ((spec_l4Fields.f).bind fun t169 => ((spec_l9In.f k t169 a0).bind fun t172 => (some t172))))
theorem spec_l9Field.mono : ∀ a0 k, LeO (spec_l9Field.f k a0) (spec_l9Field.f (k + 1) a0) := by
 intro a0 k;unfold spec_l9Field.f
 repeat' with_reducible first
   | exact spec_l9In.mono _ _ _
   | exact LeO.refl _
   | exact LeO.none _
   | refine LeO.ite ?_ ?_
   | refine LeO.bind ?_ (fun _ => ?_)
theorem spec_l9Field.calls (k : Nat) (a0 : ByteArray) (r : Bool) (w : World) (h : spec_l9Field.f k a0 = some r) :
  Calls Tryz.prog 12 #[.string a0] w fun e w' => e = .returned (.bool r) ∧ Below w.heap.size w w' := by
 have HB := AM (Below.refl w.heap.size w);have H := h;unfold spec_l9Field.f at H;clear h;by_cases c2 : a0.toList = ([121, 101, 97, 114] : List UInt8);(·rw [if_pos c2] at H;have c2b0 : (a0.toList == ([121, 101, 97, 114] : List UInt8)) = true := beq_iff_eq.mpr c2;have c2b1 : (a0.toList != ([121, 101, 97, 114] : List UInt8)) = false := bne_eq_false_iff_eq.mpr c2;clear c2;obtain rfl := oI H;(go_enter Tryz.func12, Tryz.ntmps12);(go_wp2);(go_ret);exact ⟨rfl, by with_reducible repeat first | exact HB.out | apply pA | apply pN | apply p1⟩)
 ·rw [if_neg c2] at H
  have c2b0 : (a0.toList == ([121, 101, 97, 114] : List UInt8)) = false := beq_eq_false_iff_ne.mpr c2;have c2b1 : (a0.toList != ([121, 101, 97, 114] : List UInt8)) = true := bne_iff_ne.mpr c2;by_cases c3 : a0.toList = ([107, 101, 121] : List UInt8);(·rw [if_pos c3] at H;have c3b0 : (a0.toList == ([107, 101, 121] : List UInt8)) = true := beq_iff_eq.mpr c3;have c3b1 : (a0.toList != ([107, 101, 121] : List UInt8)) = false := bne_eq_false_iff_eq.mpr c3;clear c3;obtain rfl := oI H;(go_enter Tryz.func12, Tryz.ntmps12);(go_wp2);(go_ret);exact ⟨rfl, by with_reducible repeat first | exact HB.out | apply pA | apply pN | apply p1⟩)
  ·rw [if_neg c3] at H
   have c3b0 : (a0.toList == ([107, 101, 121] : List UInt8)) = false := beq_eq_false_iff_ne.mpr c3;have c3b1 : (a0.toList != ([107, 101, 121] : List UInt8)) = true := bne_iff_ne.mpr c3;replace H := oB.mp H;obtain ⟨t169, A40, H⟩ := H;(try dsimp only at H);have A4 := AM A40;clear A40;replace H := oB.mp H;obtain ⟨t172, A50, H⟩ := H;(try dsimp only at H);have A5 := AM A50;clear A50;obtain rfl := oI H;(go_enter Tryz.func12, Tryz.ntmps12)
   go_wp2_with (first | (go_at_call 28; (with_reducible refine (spec_l4Fields.calls  t169 _ A4.out).mono ?_); rintro e w6 ⟨v170, rfl, ho0, hb⟩; have HO171 := AM (Kd.R_lower ho0 (below_size (by with_reducible repeat first | exact HB.out | apply pA | apply pN | apply p1))); replace HB := AM (below_step (by with_reducible repeat first | exact HB.out | apply pA | apply pN | apply p1) hb); (try clear hb); (try clear ho0); obtain ⟨Ao7, co7, eo7⟩ := Kd.R_slice HO171.out; subst eo7) | (go_at_call 27; (with_reducible refine (spec_l9In.calls k _ _ t169 a0 t172 _ ?side1 ?side2 A5.out).mono ?_); (case side1 => repeat first | exact (rR HO171.out).2.2 | with_reducible first | apply Kd.C_alloc | apply Kd.C_drewN | apply Kd.C_drew); (case side2 => exact (rR HO171.out).2.1); rintro e w' ⟨rfl, ⟨nd, rfl⟩⟩))
   (go_ret);exact ⟨rfl, by with_reducible repeat first | exact HB.out | apply pA | apply pN | apply p1⟩
/-! ### spec_l2Join: function 74 -/
def spec_l2Join.l0 : Nat → List ByteArray → ByteArray → Int → Option (ByteArray)
 | 0, _, _, _ => none
 | k + 1, x0, x3, x4 => if x4 < (x0.length : Int) then (if x3.toList = ([] : List UInt8) then (if 0 ≤ x4 then (if x3.size + (rdOf ByteArray.empty x0 x4).size ≤ 9223372036854775807 then (spec_l2Join.l0 k x0 (x3 ++ (rdOf ByteArray.empty x0 x4)) (wrap64 (x4 + 1))) else (none)) else (none)) else (if 0 ≤ x4 then (if (rdOf ByteArray.empty x0 x4).toList = ([] : List UInt8) then (if x3.size + (rdOf ByteArray.empty x0 x4).size ≤ 9223372036854775807 then (spec_l2Join.l0 k x0 (x3 ++ (rdOf ByteArray.empty x0 x4)) (wrap64 (x4 + 1))) else (none)) else (if x3.size + 1 ≤ 9223372036854775807 then (if (x3 ++ (⟨#[32]⟩ : ByteArray)).size + (rdOf ByteArray.empty x0 x4).size ≤ 9223372036854775807 then (spec_l2Join.l0 k x0 ((x3 ++ (⟨#[32]⟩ : ByteArray)) ++ (rdOf ByteArray.empty x0 x4)) (wrap64 (x4 + 1))) else (none)) else (none))) else (none))) else (some x3)
def spec_l2Join.f (k : Nat) (l0 : List ByteArray) : Option (ByteArray) := spec_l2Join.l0 k l0 (⟨#[]⟩ : ByteArray) 0
theorem spec_l2Join.mono_l : ∀ k, (∀ y0 y1 y2, LeO (spec_l2Join.l0 k y0 y1 y2) (spec_l2Join.l0 (k + 1) y0 y1 y2))
 | 0 => fun _ _ _ r h => by simp [spec_l2Join.l0] at h
 | k + 1 => by
  have ih0 := spec_l2Join.mono_l k
  ·intro y0 y1 y2
   unfold spec_l2Join.l0
   repeat' with_reducible first
   | exact ih0 _ _ _
   | exact LeO.refl _
   | exact LeO.none _
   | refine LeO.ite ?_ ?_
   | refine LeO.bind ?_ (fun _ => ?_)
theorem spec_l2Join.mono : ∀ a0 k, LeO (spec_l2Join.f k a0) (spec_l2Join.f (k + 1) a0) := by
 intro a0 k;have ih0 := spec_l2Join.mono_l k;unfold spec_l2Join.f
 repeat' with_reducible first
   | exact ih0 _ _ _
   | exact LeO.refl _
   | exact LeO.none _
   | refine LeO.ite ?_ ?_
   | refine LeO.bind ?_ (fun _ => ?_)
theorem spec_l2Join.calls (k : Nat) (A0 : Option Addr) (c0 : Nat) (l0 : List ByteArray) (r : ByteArray) (w : World) (hr0 : Kd.C Kd.string w A0 l0.length l0) (hc0 : l0.length ≤ c0) (h : spec_l2Join.f k l0 = some r) :
  Calls Tryz.prog 74 #[.slice A0 l0.length c0] w fun e w' => e = .returned (.string r) ∧ Drawn0 w w' := by
 have HR0 := AM hr0;have HC0 := AM hc0;clear hr0 hc0;have H := h;unfold spec_l2Join.f at H;clear h;have H' := AM H;clear H;(go_enter Tryz.func74, Tryz.ntmps74);(go_wp2);(go_loopg [3, 4] k (fun kq v3 v4 w' => ∃ (x3_1 : ByteArray) (x4_1 : Int), v3 = .string x3_1 ∧ v4 = .int .i64 x4_1 ∧ Aside0 (spec_l2Join.l0 kq l0 x3_1 x4_1 = some r) ∧ Aside0 (kq ≤ k) ∧ Drawn0 w w'))
 case atStart => exact ⟨((⟨#[]⟩ : ByteArray)), (0), (by first | rfl | (simp; done) | (simp [*]; done)), (by first | rfl | (simp; done) | (simp [*]; done)), H', ⟨Nat.le_refl _⟩, by repeat (first | exact Drawn0.refl _ | apply Drawn0.step)⟩
 case round =>
  clear H';obtain ⟨x3_1, x4_1, rfl, rfl, HA, HK1, ⟨m1, rfl⟩⟩ := hrel
  cases gk with
  | zero => exact absurd HA.out (by simp [spec_l2Join.l0])
  | succ k1 =>
   have H := HA.out;clear HA;simp only [spec_l2Join.l0] at H;by_cases c2 : x4_1 < (l0.length : Int)
   ·rw [if_pos c2] at H
    have c2b0 : decide (x4_1 < (l0.length : Int)) = true := dT c2;clear c2;by_cases c3 : x3_1.toList = ([] : List UInt8)
    ·rw [if_pos c3] at H
     have c3b0 : (x3_1.toList == ([] : List UInt8)) = true := beq_iff_eq.mpr c3;have c3b1 : (x3_1.toList != ([] : List UInt8)) = false := bne_eq_false_iff_eq.mpr c3;clear c3;by_cases c4 : 0 ≤ x4_1
     ·rw [if_pos c4] at H
      have c4b0 : decide (0 ≤ x4_1) = true := dT c4;clear c4;by_cases c5 : x3_1.size + (rdOf ByteArray.empty l0 x4_1).size ≤ 9223372036854775807
      ·rw [if_pos c5] at H
       have c5b0 := eq_true c5;have c5b1 : decide (x3_1.size + (rdOf ByteArray.empty l0 x4_1).size ≤ 9223372036854775807) = true := dT c5;(try have c5b2 : (9223372036854775807 < x3_1.size + (rdOf ByteArray.empty l0 x4_1).size) = False := eq_false (Nat.not_lt.2 c5));have H' := AM H;clear H;have p173 : 0 ≤ (x4_1 : Int) := oD (by assumption);have q173 : x4_1 < (l0.length : Int) := oD (by assumption);obtain ⟨ad173, e173, hx173_0⟩ := Kd.at_string HR0.out x4_1 p173 q173;cases e173;replace p173 := eq_true p173;replace q173 := eq_true q173;(go_wp2);(go_roundg k1)
       case measure => have := HK1.out; omega
       case rel => exact ⟨(x3_1 ++ (rdOf ByteArray.empty l0 x4_1)), (wrap64 (x4_1 + 1)), (by first | rfl | (simp; done) | (simp [*]; done)), (by first | rfl | (simp; done) | (simp [*]; done)), H', ⟨by have := HK1.out; omega⟩, by repeat (first | exact Drawn0.refl _ | apply Drawn0.step)⟩
      ·rw [if_neg c5] at H
       exact absurd H (by simp)
     ·rw [if_neg c4] at H
      exact absurd H (by simp)
    ·rw [if_neg c3] at H
     have c3b0 : (x3_1.toList == ([] : List UInt8)) = false := beq_eq_false_iff_ne.mpr c3;have c3b1 : (x3_1.toList != ([] : List UInt8)) = true := bne_iff_ne.mpr c3;by_cases c6 : 0 ≤ x4_1
     ·rw [if_pos c6] at H
      have c6b0 : decide (0 ≤ x4_1) = true := dT c6;clear c6;by_cases c7 : (rdOf ByteArray.empty l0 x4_1).toList = ([] : List UInt8)
      ·rw [if_pos c7] at H
       have c7b0 : ((rdOf ByteArray.empty l0 x4_1).toList == ([] : List UInt8)) = true := beq_iff_eq.mpr c7;have c7b1 : ((rdOf ByteArray.empty l0 x4_1).toList != ([] : List UInt8)) = false := bne_eq_false_iff_eq.mpr c7;clear c7;by_cases c8 : x3_1.size + (rdOf ByteArray.empty l0 x4_1).size ≤ 9223372036854775807
       ·rw [if_pos c8] at H
        have c8b0 := eq_true c8;have c8b1 : decide (x3_1.size + (rdOf ByteArray.empty l0 x4_1).size ≤ 9223372036854775807) = true := dT c8;(try have c8b2 : (9223372036854775807 < x3_1.size + (rdOf ByteArray.empty l0 x4_1).size) = False := eq_false (Nat.not_lt.2 c8));have H' := AM H;clear H;have p174 : 0 ≤ (x4_1 : Int) := oD (by assumption);have q174 : x4_1 < (l0.length : Int) := oD (by assumption);obtain ⟨ad174, e174, hx174_0⟩ := Kd.at_string HR0.out x4_1 p174 q174;cases e174;replace p174 := eq_true p174;replace q174 := eq_true q174;have p175 : 0 ≤ (x4_1 : Int) := oD (by assumption);have q175 : x4_1 < (l0.length : Int) := oD (by assumption);obtain ⟨ad175, e175, hx175_0⟩ := Kd.at_string HR0.out x4_1 p175 q175
        obtain rfl : ad174 = ad175 := (by injection e175)
        replace p175 := eq_true p175;replace q175 := eq_true q175;(go_wp2);(go_roundg k1)
        case measure => have := HK1.out; omega
        case rel => exact ⟨(x3_1 ++ (rdOf ByteArray.empty l0 x4_1)), (wrap64 (x4_1 + 1)), (by first | rfl | (simp; done) | (simp [*]; done)), (by first | rfl | (simp; done) | (simp [*]; done)), H', ⟨by have := HK1.out; omega⟩, by repeat (first | exact Drawn0.refl _ | apply Drawn0.step)⟩
       ·rw [if_neg c8] at H
        exact absurd H (by simp)
      ·rw [if_neg c7] at H
       have c7b0 : ((rdOf ByteArray.empty l0 x4_1).toList == ([] : List UInt8)) = false := beq_eq_false_iff_ne.mpr c7;have c7b1 : ((rdOf ByteArray.empty l0 x4_1).toList != ([] : List UInt8)) = true := bne_iff_ne.mpr c7;by_cases c9 : x3_1.size + 1 ≤ 9223372036854775807
       ·rw [if_pos c9] at H
        have c9b0 := eq_true c9;have c9b1 : decide (x3_1.size + 1 ≤ 9223372036854775807) = true := dT c9;(try have c9b2 : (9223372036854775807 < x3_1.size + 1) = False := eq_false (Nat.not_lt.2 c9));by_cases c10 : (x3_1 ++ (⟨#[32]⟩ : ByteArray)).size + (rdOf ByteArray.empty l0 x4_1).size ≤ 9223372036854775807
        ·rw [if_pos c10] at H
         have c10b0 := eq_true c10;have c10b1 : decide ((x3_1 ++ (⟨#[32]⟩ : ByteArray)).size + (rdOf ByteArray.empty l0 x4_1).size ≤ 9223372036854775807) = true := dT c10;(try have c10b2 : (9223372036854775807 < (x3_1 ++ (⟨#[32]⟩ : ByteArray)).size + (rdOf ByteArray.empty l0 x4_1).size) = False := eq_false (Nat.not_lt.2 c10));(try have c10b3 : (9223372036854775807 < x3_1.size + 1 + ((rdOf ByteArray.empty l0 x4_1).size)) = False := eq_false (by have h_ := c10; simp only [ByteArray.size_append, ByteArray.size_extract] at h_; (try simp only [show (⟨#[32]⟩ : ByteArray).size = 1 from rfl] at h_); (try have q0_ := of_eq_true c2b0); (try have q1_ := of_eq_true c3b0); (try have q3_ := of_eq_true c6b0); (try have q4_ := of_eq_true c7b0); (try have q6_ := of_eq_true c9b0); omega));have H' := AM H;clear H;have p174 : 0 ≤ (x4_1 : Int) := oD (by assumption);have q174 : x4_1 < (l0.length : Int) := oD (by assumption);obtain ⟨ad174, e174, hx174_0⟩ := Kd.at_string HR0.out x4_1 p174 q174;cases e174;replace p174 := eq_true p174;replace q174 := eq_true q174;have p176 : 0 ≤ (x4_1 : Int) := oD (by assumption);have q176 : x4_1 < (l0.length : Int) := oD (by assumption);obtain ⟨ad176, e176, hx176_0⟩ := Kd.at_string HR0.out x4_1 p176 q176
         obtain rfl : ad174 = ad176 := (by injection e176)
         replace p176 := eq_true p176;replace q176 := eq_true q176;(go_wp2);(go_roundg k1)
         case measure => have := HK1.out; omega
         case rel => exact ⟨((x3_1 ++ (⟨#[32]⟩ : ByteArray)) ++ (rdOf ByteArray.empty l0 x4_1)), (wrap64 (x4_1 + 1)), (by first | rfl | (simp; done) | (simp [*]; done)), (by first | rfl | (simp; done) | (simp [*]; done)), H', ⟨by have := HK1.out; omega⟩, by repeat (first | exact Drawn0.refl _ | apply Drawn0.step)⟩
        ·rw [if_neg c10] at H
         exact absurd H (by simp)
       ·rw [if_neg c9] at H
        exact absurd H (by simp)
     ·rw [if_neg c6] at H
      exact absurd H (by simp)
   ·rw [if_neg c2] at H
    have c2b0 : decide (x4_1 < (l0.length : Int)) = false := dF c2;clear c2;obtain rfl := oI H;(go_wp2);(go_ret);exact ⟨by first | rfl | (simp; done) | (simp [*]; done), by repeat (first | exact Drawn0.refl _ | apply Drawn0.step)⟩
/-! ### spec_l2Initials: function 75 -/
mutual
def spec_l2Initials.l0 : Nat → List ByteArray → Int → List ByteArray → ByteArray → ByteArray → ByteArray → Option (ByteArray)
 | 0, _, _, _, _, _, _ => none
 | k + 1, x3, x4, x178000, x178001, x178002, x178003 => if x4 < (x178000.length : Int) then (if 0 ≤ x4 then (if 0 ≤ 1 then (if 1 ≤ ((rdOf ByteArray.empty x178000 x4).size : Int) then (if ((rdOf ByteArray.empty x178000 x4).extract 0 1).size + 1 ≤ 9223372036854775807 then (spec_l2Initials.l1 k x3 x4 (rdOf ByteArray.empty x178000 x4) (((rdOf ByteArray.empty x178000 x4).extract 0 1) ++ (⟨#[46]⟩ : ByteArray)) 1 x178000 x178001 x178002 x178003) else (none)) else (none)) else (none)) else (none)) else ((spec_l2Join.f k x3).bind fun t181 => (some t181))
def spec_l2Initials.l1 : Nat → List ByteArray → Int → ByteArray → ByteArray → Int → List ByteArray → ByteArray → ByteArray → ByteArray → Option (ByteArray)
 | 0, _, _, _, _, _, _, _, _, _ => none
 | k + 1, x3, x4, x5, x6, x7, x178000, x178001, x178002, x178003 => if x7 < (x5.size : Int) then (if 0 ≤ (wrap64 (x7 - 1)) then (if (wrap64 (x7 - 1)) < (x5.size : Int) then (if (bt x5 (wrap64 (x7 - 1))) = 45 then (if 0 ≤ x7 then ((spec_l2Lower.f (bt x5 x7)).bind fun t186 => (if t186 = true then (if x6.size + 1 ≤ 9223372036854775807 then ((some (([((bt x5 x7) - 32) % 256] : List Int) : List Int)).bind fun y187 => (if (x6 ++ (⟨#[45]⟩ : ByteArray)).size + (strOfNums y187).size ≤ 9223372036854775807 then (if ((x6 ++ (⟨#[45]⟩ : ByteArray)) ++ (strOfNums y187)).size + 1 ≤ 9223372036854775807 then (spec_l2Initials.l1 k x3 x4 x5 (((x6 ++ (⟨#[45]⟩ : ByteArray)) ++ (strOfNums y187)) ++ (⟨#[46]⟩ : ByteArray)) (wrap64 (x7 + 1)) x178000 x178001 x178002 x178003) else (none)) else (none))) else (none)) else (if x6.size + 1 ≤ 9223372036854775807 then ((some (([bt x5 x7] : List Int) : List Int)).bind fun y190 => (if (x6 ++ (⟨#[45]⟩ : ByteArray)).size + (strOfNums y190).size ≤ 9223372036854775807 then (if ((x6 ++ (⟨#[45]⟩ : ByteArray)) ++ (strOfNums y190)).size + 1 ≤ 9223372036854775807 then (spec_l2Initials.l1 k x3 x4 x5 (((x6 ++ (⟨#[45]⟩ : ByteArray)) ++ (strOfNums y190)) ++ (⟨#[46]⟩ : ByteArray)) (wrap64 (x7 + 1)) x178000 x178001 x178002 x178003) else (none)) else (none))) else (none)))) else (none)) else (spec_l2Initials.l1 k x3 x4 x5 x6 (wrap64 (x7 + 1)) x178000 x178001 x178002 x178003)) else (none)) else (none)) else (if x3.length < 8796093022208 then (spec_l2Initials.l0 k (x3 ++ [x6]) (wrap64 (x4 + 1)) x178000 x178001 x178002 x178003) else (none))
end
def spec_l2Initials.f (k : Nat) (l0_0 : List ByteArray) (a0_1 : ByteArray) (a0_2 : ByteArray) (a0_3 : ByteArray) : Option (ByteArray) := spec_l2Initials.l0 k (([] : List ByteArray)) 0 l0_0 a0_1 a0_2 a0_3
theorem spec_l2Initials.mono_l : ∀ k, (∀ y0 y1 y2 y3 y4 y5, LeO (spec_l2Initials.l0 k y0 y1 y2 y3 y4 y5) (spec_l2Initials.l0 (k + 1) y0 y1 y2 y3 y4 y5)) ∧ (∀ y0 y1 y2 y3 y4 y5 y6 y7 y8, LeO (spec_l2Initials.l1 k y0 y1 y2 y3 y4 y5 y6 y7 y8) (spec_l2Initials.l1 (k + 1) y0 y1 y2 y3 y4 y5 y6 y7 y8))
 | 0 => ⟨fun _ _ _ _ _ _ r h => by simp [spec_l2Initials.l0] at h, fun _ _ _ _ _ _ _ _ _ r h => by simp [spec_l2Initials.l1] at h⟩
 | k + 1 => by
  obtain ⟨ih0, ih1⟩ := spec_l2Initials.mono_l k;refine ⟨?_, ?_⟩
  ·intro y0 y1 y2 y3 y4 y5
   unfold spec_l2Initials.l0
   repeat' with_reducible first
   | exact ih0 _ _ _ _ _ _
   | exact ih1 _ _ _ _ _ _ _ _ _
   | exact spec_l2Join.mono _ _
   | exact LeO.refl _
   | exact LeO.none _
   | refine LeO.ite ?_ ?_
   | refine LeO.bind ?_ (fun _ => ?_)
  ·intro y0 y1 y2 y3 y4 y5 y6 y7 y8
   unfold spec_l2Initials.l1
   repeat' with_reducible first
   | exact ih0 _ _ _ _ _ _
   | exact ih1 _ _ _ _ _ _ _ _ _
   | exact spec_l2Join.mono _ _
   | exact LeO.refl _
   | exact LeO.none _
   | refine LeO.ite ?_ ?_
   | refine LeO.bind ?_ (fun _ => ?_)
theorem spec_l2Initials.mono : ∀ a0 a1 a2 a3 k, LeO (spec_l2Initials.f k a0 a1 a2 a3) (spec_l2Initials.f (k + 1) a0 a1 a2 a3) := by
 intro a0 a1 a2 a3 k;obtain ⟨ih0, ih1⟩ := spec_l2Initials.mono_l k;unfold spec_l2Initials.f
 repeat' with_reducible first
   | exact ih0 _ _ _ _ _ _
   | exact ih1 _ _ _ _ _ _ _ _ _
   | exact spec_l2Join.mono _ _
   | exact LeO.refl _
   | exact LeO.none _
   | refine LeO.ite ?_ ?_
   | refine LeO.bind ?_ (fun _ => ?_)
theorem spec_l2Initials.calls (k : Nat) (A0_0 : Option Addr) (c0_0 : Nat) (l0_0 : List ByteArray) (a0_1 : ByteArray) (a0_2 : ByteArray) (a0_3 : ByteArray) (r : ByteArray) (w : World) (hr0_0 : Kd.C Kd.string w A0_0 l0_0.length l0_0) (hc0_0 : l0_0.length ≤ c0_0) (h : spec_l2Initials.f k l0_0 a0_1 a0_2 a0_3 = some r) :
  Calls Tryz.prog 75 #[.agg #[.slice A0_0 l0_0.length c0_0, .string a0_1, .string a0_2, .string a0_3]] w fun e w' => e = .returned (.string r) ∧ Below w.heap.size w w' := by
 have hu61 := Tryz.underlying61;have HR0_0 := AM hr0_0;have HC0_0 := AM hc0_0;clear hr0_0 hc0_0;have HB := AM (Below.refl w.heap.size w);have H := h;unfold spec_l2Initials.f at H;clear h
 obtain ⟨y178, hy178⟩ : ∃ y_ : List ByteArray, y_ = (([] : List ByteArray)) := ⟨_, rfl⟩
 (replace H : (spec_l2Initials.l0 k y178 0 l0_0 a0_1 a0_2 a0_3) = some r := by first | (rw [hy178]; with_reducible exact H) | (have H2_ := (Option.bind_some _ _).symm.trans H; rw [hy178]; with_reducible exact H2_) | (have H2_ := (Option.bind_some _ _).symm.trans H; with_reducible exact H2_) | with_reducible exact H | (rw [hy178]; exact H) | exact H);have Ny178 := AM hy178;clear hy178;have H' := AM H;clear H;(go_enter Tryz.func75, Tryz.ntmps75)
 go_wp2_with (first | ((with_reducible refine gD (N := 1) rfl ?_); refine box_event ?hg (N := 1) ?hd (cs := #[.slice A0_0 l0_0.length c0_0, .string a0_1, .string a0_2, .string a0_3]) (t := 61) ?hr ?_; (case hd => rfl); (case hg => rfl); (case hr => first | (go_simp; done) | (go_simp; rfl)); intro gb177 hg w2 hbox hb; have BK177 := AM (hbox); have GW177 := AM ((by rw [hg]; exact (bZ (by with_reducible repeat first | exact HB.out | apply pA | apply pN | apply p1)) : w.heap.size ≤ gb177)); have GE177 := AM ((by rw [hg]; exact (bZ (by with_reducible repeat first | exact HB.out | apply pA | apply pN | apply p1)) : w.heap.size ≤ gb177)); replace HB := AM (bS (by with_reducible repeat first | exact HB.out | apply pA | apply pN | apply p1) hb); clear hb hbox hg) | ((with_reducible refine gD (N := 9) rfl ?_); refine Kd.R_lit Kd.string _ 9 ?hg (N := 9) ?hd (xs := ([] : List ByteArray)) (inner := []) (ok := fun _ => True) (okp := fun _ => True) ?hr ?hp (fun _ hk => hk) trivial (Below.refl _ _) (Nat.le_refl _) (by simp) ?_; (case hd => rfl); (case hg => rfl); (case hr => first | (go_simp; done) | (go_simp; rfl)); (case hp => exact (Reps.none _ _)); intro v179 w3 ho4 hb hg_ hnew_; clear hg_ hnew_; (first | rw [← Ny178.out] at ho4 | (simp only [Int.reduceToNat] at ho4; rw [← Ny178.out] at ho4)); have HO180 := AM (Kd.R_lower ho4 (bZ (by with_reducible repeat first | exact HB.out | apply pA | apply pN | apply p1 | refine pS ?_ GE177.out))); replace BK177 := AM (bB (by (with_reducible repeat first | apply bN | apply bW | apply bL); exact BK177.out) hb); replace HB := AM (bS (by with_reducible repeat first | exact HB.out | apply pA | apply pN | apply p1 | refine pS ?_ GE177.out) hb); clear hb ho4))
 go_loopg [3, 4] k (fun kq v3 v4 w' => ∃ (x3_1 : List ByteArray) (x4_1 : Int), v4 = .int .i64 x4_1 ∧ Aside0 (spec_l2Initials.l0 kq x3_1 x4_1 l0_0 a0_1 a0_2 a0_3 = some r) ∧ Aside0 (kq ≤ k) ∧ Aside0 (Kd.R Kd.string 9 w' w.heap.size (fun _ => True) v3 x3_1) ∧ Aside0 (w'.heap[gb177]? = some (.cells #[(.slice A0_0 l0_0.length c0_0), .string a0_1, .string a0_2, .string a0_3] 61 (0, 0))) ∧ Aside0 (Below w.heap.size w w'))
 case atStart => exact ⟨(y178), (0), (by first | rfl | (simp; done) | (simp [*]; done)), H', ⟨Nat.le_refl _⟩, ⟨by (with_reducible repeat (first | apply Kd.R_alloc | apply Kd.R_drewN | apply Kd.R_drew)); exact HO180.out⟩, ⟨by (with_reducible repeat (first | refine bN ?_ _ | refine bW ?_ | refine bL ?_ _)); exact BK177.out⟩, ⟨by with_reducible repeat first | exact HB.out | apply pA | apply pN | apply p1 | refine pS ?_ GE177.out⟩⟩
 case round =>
  clear H';(try clear p2);obtain ⟨x3_1, x4_1, rfl, HA, HK1, HO_3, BK177, HB⟩ := hrel
  cases gk with
  | zero => exact absurd HA.out (by simp [spec_l2Initials.l0])
  | succ k1 =>
   have H := HA.out;clear HA;simp only [spec_l2Initials.l0] at H;by_cases c5 : x4_1 < (l0_0.length : Int)
   ·rw [if_pos c5] at H
    have c5b0 : decide (x4_1 < (l0_0.length : Int)) = true := dT c5;clear c5;by_cases c6 : 0 ≤ x4_1
    ·rw [if_pos c6] at H
     have c6b0 : decide (0 ≤ x4_1) = true := dT c6;clear c6;by_cases c7 : 0 ≤ 1
     ·rw [if_pos c7] at H
      have c7b0 := eq_true c7;have c7b1 : decide (0 ≤ 1) = true := dT c7;clear c7;by_cases c8 : 1 ≤ ((rdOf ByteArray.empty l0_0 x4_1).size : Int)
      ·rw [if_pos c8] at H
       have c8b0 := eq_true c8;have c8b1 : decide (1 ≤ ((rdOf ByteArray.empty l0_0 x4_1).size : Int)) = true := dT c8;clear c8;by_cases c9 : ((rdOf ByteArray.empty l0_0 x4_1).extract 0 1).size + 1 ≤ 9223372036854775807
       ·rw [if_pos c9] at H
        have c9b0 := eq_true c9;have c9b1 : decide (((rdOf ByteArray.empty l0_0 x4_1).extract 0 1).size + 1 ≤ 9223372036854775807) = true := dT c9;(try have c9b2 : (9223372036854775807 < ((rdOf ByteArray.empty l0_0 x4_1).extract 0 1).size + 1) = False := eq_false (Nat.not_lt.2 c9));(try have c9b3 : (9223372036854775807 < 1 + 1) = False := eq_false (by have h_ := c9; simp only [ByteArray.size_append, ByteArray.size_extract] at h_; (try have q0_ := of_eq_true c5b0); (try have q1_ := of_eq_true c6b0); (try have q2_ := of_eq_true c7b0); (try have q4_ := of_eq_true c8b0); omega));have H' := AM H;clear H;obtain ⟨z10_0, z10_1, z10_2, z10_3⟩ := cells4 BK177.out;have p182 : 0 ≤ (x4_1 : Int) := oD (by assumption);have q182 : x4_1 < (l0_0.length : Int) := oD (by assumption);obtain ⟨ad182, e182, hx182_0⟩ := Kd.at_string HR0_0.out x4_1 p182 q182;cases e182;replace hx182_0 := (HB.out.cell (World.block_lt_of_cell? w _ hx182_0)).trans hx182_0;replace p182 := eq_true p182;replace q182 := eq_true q182;(go_wp2);(go_loopg [6, 7] k1 (fun kq v6 v7 w' => ∃ (x6_2 : ByteArray) (x7_2 : Int), v6 = .string x6_2 ∧ v7 = .int .i64 x7_2 ∧ Aside0 (spec_l2Initials.l1 kq x3_1 x4_1 (rdOf ByteArray.empty l0_0 x4_1) x6_2 x7_2 l0_0 a0_1 a0_2 a0_3 = some r) ∧ Aside0 (kq ≤ k1) ∧ Aside0 (Kd.R Kd.string 9 w' w.heap.size (fun _ => True) u3 x3_1) ∧ Aside0 (w'.heap[gb177]? = some (.cells #[(.slice (some ad182) l0_0.length c0_0), .string a0_1, .string a0_2, .string a0_3] 61 (0, 0))) ∧ Aside0 (Below w.heap.size w w')))
        case atStart => exact ⟨(((rdOf ByteArray.empty l0_0 x4_1).extract 0 1) ++ (⟨#[46]⟩ : ByteArray)), (1), (by first | rfl | (simp; done) | (simp [*]; done)), (by first | rfl | (simp; done) | (simp [*]; done)), H', ⟨Nat.le_refl _⟩, ⟨by (with_reducible repeat (first | apply Kd.R_alloc | apply Kd.R_drewN | apply Kd.R_drew)); exact HO_3.out⟩, ⟨by (with_reducible repeat (first | refine bN ?_ _ | refine bW ?_ | refine bL ?_ _)); exact BK177.out⟩, ⟨by with_reducible repeat first | exact HB.out | apply pA | apply pN | apply p1 | refine pS ?_ GE177.out⟩⟩
        case round =>
         clear H';(try clear p1);(try clear q1);(try clear hx1);(try clear p2);(try clear q2);(try clear q4);(try clear c5);(try clear c5b0);(try clear c6);(try clear c6b0);(try clear c7);(try clear c7b0);(try clear c7b1);(try clear c8);(try clear c8b0);(try clear c8b1);(try clear c9);(try clear c9b0);(try clear c9b1);(try clear c9b2);(try clear z10_0);(try clear z10_1);(try clear z10_2);(try clear z10_3);(try clear hx182_0);(try clear p182);(try clear p2);(try clear q182);obtain ⟨x6_2, x7_2, rfl, rfl, HA, HK2, HO_3, BK177, HB⟩ := hrel
         cases gk with
         | zero => exact absurd HA.out (by simp [spec_l2Initials.l1])
         | succ k2 =>
          have H := HA.out;clear HA;simp only [spec_l2Initials.l1] at H;by_cases c11 : x7_2 < ((rdOf ByteArray.empty l0_0 x4_1).size : Int)
          ·rw [if_pos c11] at H
           have c11b0 : decide (x7_2 < ((rdOf ByteArray.empty l0_0 x4_1).size : Int)) = true := dT c11;clear c11
           obtain ⟨ji12, hji12⟩ : ∃ j_ : Int, (wrap64 (x7_2 - 1)) = j_ := ⟨_, rfl⟩
           replace H : (if 0 ≤ (ji12) then (if (ji12) < ((rdOf ByteArray.empty l0_0 x4_1).size : Int) then (if (bt (rdOf ByteArray.empty l0_0 x4_1) (ji12)) = 45 then (if 0 ≤ x7_2 then ((spec_l2Lower.f (bt (rdOf ByteArray.empty l0_0 x4_1) x7_2)).bind fun t186 => (if t186 = true then (if x6_2.size + 1 ≤ 9223372036854775807 then ((some (([((bt (rdOf ByteArray.empty l0_0 x4_1) x7_2) - 32) % 256] : List Int) : List Int)).bind fun y187 => (if (x6_2 ++ (⟨#[45]⟩ : ByteArray)).size + (strOfNums y187).size ≤ 9223372036854775807 then (if ((x6_2 ++ (⟨#[45]⟩ : ByteArray)) ++ (strOfNums y187)).size + 1 ≤ 9223372036854775807 then (spec_l2Initials.l1 k2 x3_1 x4_1 (rdOf ByteArray.empty l0_0 x4_1) (((x6_2 ++ (⟨#[45]⟩ : ByteArray)) ++ (strOfNums y187)) ++ (⟨#[46]⟩ : ByteArray)) (wrap64 (x7_2 + 1)) l0_0 a0_1 a0_2 a0_3) else (none)) else (none))) else (none)) else (if x6_2.size + 1 ≤ 9223372036854775807 then ((some (([bt (rdOf ByteArray.empty l0_0 x4_1) x7_2] : List Int) : List Int)).bind fun y190 => (if (x6_2 ++ (⟨#[45]⟩ : ByteArray)).size + (strOfNums y190).size ≤ 9223372036854775807 then (if ((x6_2 ++ (⟨#[45]⟩ : ByteArray)) ++ (strOfNums y190)).size + 1 ≤ 9223372036854775807 then (spec_l2Initials.l1 k2 x3_1 x4_1 (rdOf ByteArray.empty l0_0 x4_1) (((x6_2 ++ (⟨#[45]⟩ : ByteArray)) ++ (strOfNums y190)) ++ (⟨#[46]⟩ : ByteArray)) (wrap64 (x7_2 + 1)) l0_0 a0_1 a0_2 a0_3) else (none)) else (none))) else (none)))) else (none)) else (spec_l2Initials.l1 k2 x3_1 x4_1 (rdOf ByteArray.empty l0_0 x4_1) x6_2 (wrap64 (x7_2 + 1)) l0_0 a0_1 a0_2 a0_3)) else (none)) else (none)) = some r := by first | (rw [hji12] at H; exact H) | (simp only [hji12] at H ⊢; exact H)
           have hji12w : (IntKind.i64.wrap (x7_2 - 1)) = ji12 := (i64_w _).trans hji12;by_cases c13 : 0 ≤ (ji12)
           ·rw [if_pos c13] at H
            have c13b0 : decide (0 ≤ (ji12)) = true := dT c13;clear c13;by_cases c14 : (ji12) < ((rdOf ByteArray.empty l0_0 x4_1).size : Int)
            ·rw [if_pos c14] at H
             have c14b0 : decide ((ji12) < ((rdOf ByteArray.empty l0_0 x4_1).size : Int)) = true := dT c14;clear c14;by_cases c16 : (bt (rdOf ByteArray.empty l0_0 x4_1) (ji12)) = 45
             ·rw [if_pos c16] at H
              have c16b0 : ((bt (rdOf ByteArray.empty l0_0 x4_1) (ji12)) == 45) = true := beq_iff_eq.mpr c16;have c16b1 : ((bt (rdOf ByteArray.empty l0_0 x4_1) (ji12)) != 45) = false := bne_eq_false_iff_eq.mpr c16;clear c16;by_cases c17 : 0 ≤ x7_2
              ·rw [if_pos c17] at H
               have c17b0 : decide (0 ≤ x7_2) = true := dT c17;clear c17;replace H := oB.mp H;obtain ⟨t186, A190, H⟩ := H;(try dsimp only at H);have A19 := AM A190;clear A190;by_cases c20 : t186 = true
               ·subst c20
                rw [if_pos rfl] at H;by_cases c21 : x6_2.size + 1 ≤ 9223372036854775807
                ·rw [if_pos c21] at H
                 have c21b0 := eq_true c21;have c21b1 : decide (x6_2.size + 1 ≤ 9223372036854775807) = true := dT c21;(try have c21b2 : (9223372036854775807 < x6_2.size + 1) = False := eq_false (Nat.not_lt.2 c21))
                 obtain ⟨y187, hy187⟩ : ∃ y_ : List Int, y_ = (([((bt (rdOf ByteArray.empty l0_0 x4_1) x7_2) - 32) % 256] : List Int)) := ⟨_, rfl⟩
                 (replace H : (if (x6_2 ++ (⟨#[45]⟩ : ByteArray)).size + (strOfNums y187).size ≤ 9223372036854775807 then (if ((x6_2 ++ (⟨#[45]⟩ : ByteArray)) ++ (strOfNums y187)).size + 1 ≤ 9223372036854775807 then (spec_l2Initials.l1 k2 x3_1 x4_1 (rdOf ByteArray.empty l0_0 x4_1) (((x6_2 ++ (⟨#[45]⟩ : ByteArray)) ++ (strOfNums y187)) ++ (⟨#[46]⟩ : ByteArray)) (wrap64 (x7_2 + 1)) l0_0 a0_1 a0_2 a0_3) else (none)) else (none)) = some r := by first | (rw [hy187]; with_reducible exact H) | (have H2_ := (Option.bind_some _ _).symm.trans H; rw [hy187]; with_reducible exact H2_) | (have H2_ := (Option.bind_some _ _).symm.trans H; with_reducible exact H2_) | with_reducible exact H | (rw [hy187]; exact H) | exact H);have Ny187 := AM hy187;clear hy187;by_cases c22 : (x6_2 ++ (⟨#[45]⟩ : ByteArray)).size + (strOfNums y187).size ≤ 9223372036854775807
                 ·rw [if_pos c22] at H
                  have c22b0 := eq_true c22;have c22b1 : decide ((x6_2 ++ (⟨#[45]⟩ : ByteArray)).size + (strOfNums y187).size ≤ 9223372036854775807) = true := dT c22;(try have c22b2 : (9223372036854775807 < (x6_2 ++ (⟨#[45]⟩ : ByteArray)).size + (strOfNums y187).size) = False := eq_false (Nat.not_lt.2 c22));(try have c22b3 : (9223372036854775807 < x6_2.size + 1 + ((strOfNums y187).size)) = False := eq_false (by have h_ := c22; simp only [ByteArray.size_append, ByteArray.size_extract] at h_; (try simp only [show (⟨#[45]⟩ : ByteArray).size = 1 from rfl] at h_); (try have q0_ := of_eq_true c5b0); (try have q1_ := of_eq_true c6b0); (try have q2_ := of_eq_true c7b0); (try have q4_ := of_eq_true c8b0); (try have q6_ := of_eq_true c9b0); (try have q9_ := of_eq_true c11b0); (try have q10_ := of_eq_true c13b0); (try have q11_ := of_eq_true c14b0); (try have q12_ := of_eq_true c16b0); (try have q14_ := of_eq_true c17b0); (try have q15_ := of_eq_true c21b0); omega));by_cases c23 : ((x6_2 ++ (⟨#[45]⟩ : ByteArray)) ++ (strOfNums y187)).size + 1 ≤ 9223372036854775807
                  ·rw [if_pos c23] at H
                   have c23b0 := eq_true c23;have c23b1 : decide (((x6_2 ++ (⟨#[45]⟩ : ByteArray)) ++ (strOfNums y187)).size + 1 ≤ 9223372036854775807) = true := dT c23;(try have c23b2 : (9223372036854775807 < ((x6_2 ++ (⟨#[45]⟩ : ByteArray)) ++ (strOfNums y187)).size + 1) = False := eq_false (Nat.not_lt.2 c23));(try have c23b3 : (9223372036854775807 < x6_2.size + 1 + ((strOfNums y187).size) + 1) = False := eq_false (by have h_ := c23; simp only [ByteArray.size_append, ByteArray.size_extract] at h_; (try simp only [show (⟨#[45]⟩ : ByteArray).size = 1 from rfl] at h_); (try have q0_ := of_eq_true c5b0); (try have q1_ := of_eq_true c6b0); (try have q2_ := of_eq_true c7b0); (try have q4_ := of_eq_true c8b0); (try have q6_ := of_eq_true c9b0); (try have q9_ := of_eq_true c11b0); (try have q10_ := of_eq_true c13b0); (try have q11_ := of_eq_true c14b0); (try have q12_ := of_eq_true c16b0); (try have q14_ := of_eq_true c17b0); (try have q15_ := of_eq_true c21b0); (try have q18_ := of_eq_true c22b0); omega));have H' := AM H;clear H;have p15 : 0 ≤ ((ji12) : Int) := oD (by assumption);have q15 : (ji12) < ((rdOf ByteArray.empty l0_0 x4_1).size : Int) := oD (by assumption);have hx15 := bt_at (rdOf ByteArray.empty l0_0 x4_1) (ji12);replace p15 := eq_true p15;replace q15 := eq_true q15;have p18 : 0 ≤ (x7_2 : Int) := oD (by assumption);have q18 : x7_2 < ((rdOf ByteArray.empty l0_0 x4_1).size : Int) := oD (by assumption);have hx18 := bt_at (rdOf ByteArray.empty l0_0 x4_1) x7_2;replace p18 := eq_true p18;replace q18 := eq_true q18
                   go_wp2_with (first | ((with_reducible refine gC (f := 47) rfl ?_); refine goesL_ (some 40) rfl rfl Tryz.func47 (by kernel_rfl) rfl #[.int .u8 (bt (rdOf ByteArray.empty l0_0 x4_1) x7_2)] rfl (by (try simp only [mT, mC, mN]); try rfl) ?_; (with_reducible refine (spec_l2Lower.calls (bt (rdOf ByteArray.empty l0_0 x4_1) x7_2) true _ A19.out).mono ?_); rintro e w' ⟨rfl, ⟨nd, rfl⟩⟩; refine ⟨_, rfl, ?_⟩) | ((with_reducible refine gD (N := 46) rfl ?_); refine Kd.R_lit (Kd.int .u8) _ 5 ?hg (N := 46) ?hd (xs := ([((bt (rdOf ByteArray.empty l0_0 x4_1) x7_2) - 32) % 256] : List Int)) (inner := [.int .u8 (((bt (rdOf ByteArray.empty l0_0 x4_1) x7_2) - 32) % 256)]) (ok := fun _ => True) (okp := fun _ => True) ?hr ?hp (fun _ hk => hk) trivial (Below.refl _ _) (Nat.le_refl _) (by simp) ?_; (case hd => rfl); (case hg => rfl); (case hr => first | (go_simp; done) | (go_simp; rfl)); (case hp => exact (Reps.one (show Kd.M (Kd.int .u8) _ _ _ (((bt (rdOf ByteArray.empty l0_0 x4_1) x7_2) - 32) % 256) [.int .u8 (((bt (rdOf ByteArray.empty l0_0 x4_1) x7_2) - 32) % 256)] from rfl) (Reps.none _ _))); intro v188 w24 ho25 hb hg_ hnew_; clear hg_ hnew_; (first | rw [← Ny187.out] at ho25 | (simp only [Int.reduceToNat] at ho25; rw [← Ny187.out] at ho25)); replace HO_3 := AM (Kd.R_below (by (with_reducible repeat (first | apply Kd.R_alloc | apply Kd.R_drewN | apply Kd.R_drew)); exact HO_3.out) hb); have HO189 := AM (Kd.R_lower ho25 (bZ (by with_reducible repeat first | exact HB.out | apply pA | apply pN | apply p1 | refine pS ?_ GE177.out))); replace BK177 := AM (bB (by (with_reducible repeat first | apply bN | apply bW | apply bL); exact BK177.out) hb); replace HB := AM (bS (by with_reducible repeat first | exact HB.out | apply pA | apply pN | apply p1 | refine pS ?_ GE177.out) hb); clear hb ho25; have hcv26 := own_string (P := Tryz.prog) Tryz.underlying86 Tryz.underlying5 Tryz.underlying9 (Kd.own_of_R HO189.out)))
                   go_roundg k2
                   case measure => have := HK1.out; have := HK2.out; omega
                   case rel => exact ⟨(((x6_2 ++ (⟨#[45]⟩ : ByteArray)) ++ (strOfNums y187)) ++ (⟨#[46]⟩ : ByteArray)), (wrap64 (x7_2 + 1)), (by first | rfl | (simp; done) | (simp [*]; done)), (by first | rfl | (simp; done) | (simp [*]; done)), H', ⟨by have := HK1.out; have := HK2.out; omega⟩, ⟨by (with_reducible repeat (first | apply Kd.R_alloc | apply Kd.R_drewN | apply Kd.R_drew)); exact HO_3.out⟩, ⟨by (with_reducible repeat (first | refine bN ?_ _ | refine bW ?_ | refine bL ?_ _)); exact BK177.out⟩, ⟨by with_reducible repeat first | exact HB.out | apply pA | apply pN | apply p1 | refine pS ?_ GE177.out⟩⟩
                  ·rw [if_neg c23] at H
                   exact absurd H (by simp)
                 ·rw [if_neg c22] at H
                  exact absurd H (by simp)
                ·rw [if_neg c21] at H
                 exact absurd H (by simp)
               ·replace c20 := Bool.eq_false_iff.mpr c20
                subst c20;rw [if_neg (show ¬ (false = true) by decide)] at H;by_cases c27 : x6_2.size + 1 ≤ 9223372036854775807
                ·rw [if_pos c27] at H
                 have c27b0 := eq_true c27;have c27b1 : decide (x6_2.size + 1 ≤ 9223372036854775807) = true := dT c27;(try have c27b2 : (9223372036854775807 < x6_2.size + 1) = False := eq_false (Nat.not_lt.2 c27))
                 obtain ⟨y190, hy190⟩ : ∃ y_ : List Int, y_ = (([bt (rdOf ByteArray.empty l0_0 x4_1) x7_2] : List Int)) := ⟨_, rfl⟩
                 (replace H : (if (x6_2 ++ (⟨#[45]⟩ : ByteArray)).size + (strOfNums y190).size ≤ 9223372036854775807 then (if ((x6_2 ++ (⟨#[45]⟩ : ByteArray)) ++ (strOfNums y190)).size + 1 ≤ 9223372036854775807 then (spec_l2Initials.l1 k2 x3_1 x4_1 (rdOf ByteArray.empty l0_0 x4_1) (((x6_2 ++ (⟨#[45]⟩ : ByteArray)) ++ (strOfNums y190)) ++ (⟨#[46]⟩ : ByteArray)) (wrap64 (x7_2 + 1)) l0_0 a0_1 a0_2 a0_3) else (none)) else (none)) = some r := by first | (rw [hy190]; with_reducible exact H) | (have H2_ := (Option.bind_some _ _).symm.trans H; rw [hy190]; with_reducible exact H2_) | (have H2_ := (Option.bind_some _ _).symm.trans H; with_reducible exact H2_) | with_reducible exact H | (rw [hy190]; exact H) | exact H);have Ny190 := AM hy190;clear hy190;by_cases c28 : (x6_2 ++ (⟨#[45]⟩ : ByteArray)).size + (strOfNums y190).size ≤ 9223372036854775807
                 ·rw [if_pos c28] at H
                  have c28b0 := eq_true c28;have c28b1 : decide ((x6_2 ++ (⟨#[45]⟩ : ByteArray)).size + (strOfNums y190).size ≤ 9223372036854775807) = true := dT c28;(try have c28b2 : (9223372036854775807 < (x6_2 ++ (⟨#[45]⟩ : ByteArray)).size + (strOfNums y190).size) = False := eq_false (Nat.not_lt.2 c28));(try have c28b3 : (9223372036854775807 < x6_2.size + 1 + ((strOfNums y190).size)) = False := eq_false (by have h_ := c28; simp only [ByteArray.size_append, ByteArray.size_extract] at h_; (try simp only [show (⟨#[45]⟩ : ByteArray).size = 1 from rfl] at h_); (try have q0_ := of_eq_true c5b0); (try have q1_ := of_eq_true c6b0); (try have q2_ := of_eq_true c7b0); (try have q4_ := of_eq_true c8b0); (try have q6_ := of_eq_true c9b0); (try have q9_ := of_eq_true c11b0); (try have q10_ := of_eq_true c13b0); (try have q11_ := of_eq_true c14b0); (try have q12_ := of_eq_true c16b0); (try have q14_ := of_eq_true c17b0); (try have q15_ := of_eq_true c27b0); omega));by_cases c29 : ((x6_2 ++ (⟨#[45]⟩ : ByteArray)) ++ (strOfNums y190)).size + 1 ≤ 9223372036854775807
                  ·rw [if_pos c29] at H
                   have c29b0 := eq_true c29;have c29b1 : decide (((x6_2 ++ (⟨#[45]⟩ : ByteArray)) ++ (strOfNums y190)).size + 1 ≤ 9223372036854775807) = true := dT c29;(try have c29b2 : (9223372036854775807 < ((x6_2 ++ (⟨#[45]⟩ : ByteArray)) ++ (strOfNums y190)).size + 1) = False := eq_false (Nat.not_lt.2 c29));(try have c29b3 : (9223372036854775807 < x6_2.size + 1 + ((strOfNums y190).size) + 1) = False := eq_false (by have h_ := c29; simp only [ByteArray.size_append, ByteArray.size_extract] at h_; (try simp only [show (⟨#[45]⟩ : ByteArray).size = 1 from rfl] at h_); (try have q0_ := of_eq_true c5b0); (try have q1_ := of_eq_true c6b0); (try have q2_ := of_eq_true c7b0); (try have q4_ := of_eq_true c8b0); (try have q6_ := of_eq_true c9b0); (try have q9_ := of_eq_true c11b0); (try have q10_ := of_eq_true c13b0); (try have q11_ := of_eq_true c14b0); (try have q12_ := of_eq_true c16b0); (try have q14_ := of_eq_true c17b0); (try have q15_ := of_eq_true c27b0); (try have q18_ := of_eq_true c28b0); omega));have H' := AM H;clear H;have p15 : 0 ≤ ((ji12) : Int) := oD (by assumption);have q15 : (ji12) < ((rdOf ByteArray.empty l0_0 x4_1).size : Int) := oD (by assumption);have hx15 := bt_at (rdOf ByteArray.empty l0_0 x4_1) (ji12);replace p15 := eq_true p15;replace q15 := eq_true q15;have p18 : 0 ≤ (x7_2 : Int) := oD (by assumption);have q18 : x7_2 < ((rdOf ByteArray.empty l0_0 x4_1).size : Int) := oD (by assumption);have hx18 := bt_at (rdOf ByteArray.empty l0_0 x4_1) x7_2;replace p18 := eq_true p18;replace q18 := eq_true q18
                   go_wp2_with (first | ((with_reducible refine gC (f := 47) rfl ?_); refine goesL_ (some 40) rfl rfl Tryz.func47 (by kernel_rfl) rfl #[.int .u8 (bt (rdOf ByteArray.empty l0_0 x4_1) x7_2)] rfl (by (try simp only [mT, mC, mN]); try rfl) ?_; (with_reducible refine (spec_l2Lower.calls (bt (rdOf ByteArray.empty l0_0 x4_1) x7_2) false _ A19.out).mono ?_); rintro e w' ⟨rfl, ⟨nd, rfl⟩⟩; refine ⟨_, rfl, ?_⟩) | ((with_reducible refine gD (N := 46) rfl ?_); refine Kd.R_lit (Kd.int .u8) _ 5 ?hg (N := 46) ?hd (xs := ([bt (rdOf ByteArray.empty l0_0 x4_1) x7_2] : List Int)) (inner := [.int .u8 (bt (rdOf ByteArray.empty l0_0 x4_1) x7_2)]) (ok := fun _ => True) (okp := fun _ => True) ?hr ?hp (fun _ hk => hk) trivial (Below.refl _ _) (Nat.le_refl _) (by simp) ?_; (case hd => rfl); (case hg => rfl); (case hr => first | (go_simp; done) | (go_simp; rfl)); (case hp => exact (Reps.one (show Kd.M (Kd.int .u8) _ _ _ (bt (rdOf ByteArray.empty l0_0 x4_1) x7_2) [.int .u8 (bt (rdOf ByteArray.empty l0_0 x4_1) x7_2)] from rfl) (Reps.none _ _))); intro v191 w30 ho31 hb hg_ hnew_; clear hg_ hnew_; (first | rw [← Ny190.out] at ho31 | (simp only [Int.reduceToNat] at ho31; rw [← Ny190.out] at ho31)); replace HO_3 := AM (Kd.R_below (by (with_reducible repeat (first | apply Kd.R_alloc | apply Kd.R_drewN | apply Kd.R_drew)); exact HO_3.out) hb); have HO192 := AM (Kd.R_lower ho31 (bZ (by with_reducible repeat first | exact HB.out | apply pA | apply pN | apply p1 | refine pS ?_ GE177.out))); replace BK177 := AM (bB (by (with_reducible repeat first | apply bN | apply bW | apply bL); exact BK177.out) hb); replace HB := AM (bS (by with_reducible repeat first | exact HB.out | apply pA | apply pN | apply p1 | refine pS ?_ GE177.out) hb); clear hb ho31; have hcv32 := own_string (P := Tryz.prog) Tryz.underlying86 Tryz.underlying5 Tryz.underlying9 (Kd.own_of_R HO192.out)))
                   go_roundg k2
                   case measure => have := HK1.out; have := HK2.out; omega
                   case rel => exact ⟨(((x6_2 ++ (⟨#[45]⟩ : ByteArray)) ++ (strOfNums y190)) ++ (⟨#[46]⟩ : ByteArray)), (wrap64 (x7_2 + 1)), (by first | rfl | (simp; done) | (simp [*]; done)), (by first | rfl | (simp; done) | (simp [*]; done)), H', ⟨by have := HK1.out; have := HK2.out; omega⟩, ⟨by (with_reducible repeat (first | apply Kd.R_alloc | apply Kd.R_drewN | apply Kd.R_drew)); exact HO_3.out⟩, ⟨by (with_reducible repeat (first | refine bN ?_ _ | refine bW ?_ | refine bL ?_ _)); exact BK177.out⟩, ⟨by with_reducible repeat first | exact HB.out | apply pA | apply pN | apply p1 | refine pS ?_ GE177.out⟩⟩
                  ·rw [if_neg c29] at H
                   exact absurd H (by simp)
                 ·rw [if_neg c28] at H
                  exact absurd H (by simp)
                ·rw [if_neg c27] at H
                 exact absurd H (by simp)
              ·rw [if_neg c17] at H
               exact absurd H (by simp)
             ·rw [if_neg c16] at H
              have c16b0 : ((bt (rdOf ByteArray.empty l0_0 x4_1) (ji12)) == 45) = false := beq_eq_false_iff_ne.mpr c16;have c16b1 : ((bt (rdOf ByteArray.empty l0_0 x4_1) (ji12)) != 45) = true := bne_iff_ne.mpr c16;have H' := AM H;clear H;have p15 : 0 ≤ ((ji12) : Int) := oD (by assumption);have q15 : (ji12) < ((rdOf ByteArray.empty l0_0 x4_1).size : Int) := oD (by assumption);have hx15 := bt_at (rdOf ByteArray.empty l0_0 x4_1) (ji12);replace p15 := eq_true p15;replace q15 := eq_true q15;(go_wp2);(go_roundg k2)
              case measure => have := HK1.out; have := HK2.out; omega
              case rel => exact ⟨(x6_2), (wrap64 (x7_2 + 1)), (by first | rfl | (simp; done) | (simp [*]; done)), (by first | rfl | (simp; done) | (simp [*]; done)), H', ⟨by have := HK1.out; have := HK2.out; omega⟩, ⟨by (with_reducible repeat (first | apply Kd.R_alloc | apply Kd.R_drewN | apply Kd.R_drew)); exact HO_3.out⟩, ⟨by (with_reducible repeat (first | refine bN ?_ _ | refine bW ?_ | refine bL ?_ _)); exact BK177.out⟩, ⟨by with_reducible repeat first | exact HB.out | apply pA | apply pN | apply p1 | refine pS ?_ GE177.out⟩⟩
            ·rw [if_neg c14] at H
             exact absurd H (by simp)
           ·rw [if_neg c13] at H
            exact absurd H (by simp)
          ·rw [if_neg c11] at H
           have c11b0 : decide (x7_2 < ((rdOf ByteArray.empty l0_0 x4_1).size : Int)) = false := dF c11;clear c11;by_cases c33 : x3_1.length < 8796093022208
           ·rw [if_pos c33] at H
            have LMc33 := AM c33;clear c33
            obtain ⟨y183, hy183⟩ : ∃ y_ : List ByteArray, y_ = (x3_1 ++ [x6_2]) := ⟨_, rfl⟩
            (replace H : (spec_l2Initials.l0 k2 y183 (wrap64 (x4_1 + 1)) l0_0 a0_1 a0_2 a0_3) = some r := by first | (rw [hy183]; with_reducible exact H) | (have H2_ := (Option.bind_some _ _).symm.trans H; rw [hy183]; with_reducible exact H2_) | (have H2_ := (Option.bind_some _ _).symm.trans H; with_reducible exact H2_) | with_reducible exact H | (rw [hy183]; exact H) | exact H);have Ny183 := AM hy183;clear hy183;have H' := AM H;clear H
            go_wp2_with (first | ((with_reducible refine gate_builtin (b := .append) (xs := #[.tmp 50, .tmp 52]) rfl ?_); at_builtin; refine Kd.R_append Kd.string (w0 := w) w.heap.size rfl (.tmp 50) (.tmp 52) 51 9 (.string ⟨#[]⟩) 16 rfl Tryz.underlying51 info9 rfl (by decide) (by omega) u3 x3_1 x6_2 [.string x6_2] (fun _ => True) (fun _ => False) rfl rfl ?aP (fun _ hk => hk.elim) ?aF ?aO ?aB ?aS ?aL ?_; (case aP => exact rfl); (case aB => exact (by with_reducible repeat first | exact HB.out | apply pA | apply pN | apply p1 | refine pS ?_ GE177.out)); (case aF => exact (fun _ _ => trivial)); (case aO => exact (by (with_reducible repeat (first | apply Kd.R_alloc | apply Kd.R_drewN | apply Kd.R_drew)); exact HO_3.out)); (case aS => exact (bZ (by with_reducible repeat first | exact HB.out | apply pA | apply pN | apply p1 | refine pS ?_ GE177.out))); (case aL => have := LMc33.out; omega); intro v184 w34 ho hb hg hat; rw [← Ny183.out] at ho; replace BK177 := AM (blk_grown (g := gb177) (o := .cells #[.slice (some ad182) l0_0.length c0_0, .string a0_1, .string a0_2, .string a0_3] 61 (0, 0)) (by (with_reducible repeat first | apply bN | apply bW | apply bL); exact BK177.out) hg (Kd.R_ne HO_3.out BK177.out (by decide))); replace HB := AM (hb); have HO185 := AM (ho); clear HO_3; clear ho hb hg hat))
            go_roundg k2
            case measure => have := HK1.out; have := HK2.out; omega
            case rel => exact ⟨(y183), (wrap64 (x4_1 + 1)), (by first | rfl | (simp; done) | (simp [*]; done)), H', ⟨by have := HK1.out; have := HK2.out; omega⟩, ⟨by (with_reducible repeat (first | apply Kd.R_alloc | apply Kd.R_drewN | apply Kd.R_drew)); exact HO185.out⟩, ⟨by (with_reducible repeat (first | refine bN ?_ _ | refine bW ?_ | refine bL ?_ _)); exact BK177.out⟩, ⟨by with_reducible repeat first | exact HB.out | apply pA | apply pN | apply p1 | refine pS ?_ GE177.out⟩⟩
           ·rw [if_neg c33] at H
            exact absurd H (by simp)
       ·rw [if_neg c9] at H
        exact absurd H (by simp)
      ·rw [if_neg c8] at H
       exact absurd H (by simp)
     ·rw [if_neg c7] at H
      exact absurd H (by simp)
    ·rw [if_neg c6] at H
     exact absurd H (by simp)
   ·rw [if_neg c5] at H
    have c5b0 : decide (x4_1 < (l0_0.length : Int)) = false := dF c5;clear c5;replace H := oB.mp H;obtain ⟨t181, A350, H⟩ := H;(try dsimp only at H);have A35 := AM A350;clear A350;obtain rfl := oI H;obtain ⟨z36_0, z36_1, z36_2, z36_3⟩ := cells4 BK177.out;obtain ⟨Ao37, co37, eo37⟩ := Kd.R_slice HO_3.out;subst eo37
    go_wp2_with (first | ((with_reducible refine gC (f := 74) rfl ?_); refine goesL_ (some 55) rfl rfl Tryz.func74 (by kernel_rfl) rfl #[.slice Ao37 x3_1.length co37] rfl (by (try simp only [mT, mC, mN]); try rfl) ?_; (with_reducible refine (spec_l2Join.calls k1 _ _ x3_1 t181 _ ?side1 ?side2 A35.out).mono ?_); (case side1 => repeat first | exact (rR HO_3.out).2.2 | with_reducible first | apply Kd.C_alloc | apply Kd.C_drewN | apply Kd.C_drew); (case side2 => exact (rR HO_3.out).2.1); rintro e w' ⟨rfl, ⟨nd, rfl⟩⟩; refine ⟨_, rfl, ?_⟩))
    (go_ret);exact ⟨rfl, by with_reducible repeat first | exact HB.out | apply pA | apply pN | apply p1 | refine pS ?_ GE177.out⟩
end Go.Proofs.YthcccgnhokncdaaGreatDoor.Px
