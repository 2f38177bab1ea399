/- The law FnExactRenderField: for every input the Go function returns true and leaves what it was given as it was; conditions: none beyond the row's own form. -/
import Derived.Test.YthcccgnhokncdaaGreatDoorRows
import Derived.Test.YthcccgnhokncdaaGreatDoorCards
import Derived.Test.YthcccgnhokncdaaGreatDoorTie
import Derived.Lay
import Derived.LaidSub
import Derived.Lib.LaidTab
import Derived.Stop.LaidErr
import Derived.Handy
import Derived.SevenTiedAt
import Derived.Test.YthcccgnhokncdaaGreatDoorPx13
import Derived.Test.YthcccgnhokncdaaGreatDoorPureFnExactRenderField
import Derived.Test.YthcccgnhokncdaaGreatDoorOpen
import Derived.WalkKit
import Derived.ProofKit
import Derived.OpenShut
import Derived.ShutString
import Derived.ChangeOld
import Derived.Below
import Derived.SizedLaws
import Derived.OpenVars
namespace Go.Proofs.YthcccgnhokncdaaGreatDoor.fnExactRenderField
open Go.ChangeShapes Go.WideShapes Go.ChangeAt Go.RowKit Go.Proofs.YthcccgnhokncdaaGreatDoorW.PrintWords Go.Proofs.YthcccgnhokncdaaGreatDoorW.Opening Go.Proofs.YthcccgnhokncdaaGreatDoor.Openers
open Go.ChangeMaps (open_string shut_string)
set_option linter.unusedVariables false
theorem own : ownKnob Tryz.prog.godebug = none := by kernel_rfl
theorem laidOut : laidOutB Tryz.prog = true := by kernel_rfl
set_option maxRecDepth 100000 in
theorem lifted (os : Os) (started : os.Started) (H : Type) (enc : TypeId × Value → H) :
    ReturnsInHanded {} Tryz.checked os 3 .any (fun w args => (Rows.fnExactRenderFieldSpec.pre enc Tryz.prog Tryz.f3 Rows.fnExactRenderFieldRow.domain false w args ∧ laidMetH Tryz.prog Rows.fnExactRenderFieldRow.laid w) ∧ sizedMet enc Tryz.prog Tryz.f3 (OpenSpec.ofChange Rows.fnExactRenderFieldSpec) false w args) (Rows.fnExactRenderFieldSpec.post enc Tryz.prog Tryz.f3 false true false false) := by
  refine Go.Proofs.YthcccgnhokncdaaGreatDoorW.Envs.returns_shaped (C := Tryz.checked) (X := fun w _ => laidMetH Tryz.prog Rows.fnExactRenderFieldRow.laid w) (fun _ _ _ hh h => h.of_heap hh) own started (by kernel_rfl) Tryz.func3
    (ChangeSpec.witness_shaped (enc := enc) (C := Tryz.checked) (os := os) (X := fun w _ => laidMetH Tryz.prog Rows.fnExactRenderFieldRow.laid w) false (World.laidAll Tryz.prog os Rows.fnExactRenderFieldRow.laid) #[.agg #[.string ByteArray.empty, .int .i64 0, .slice none 0 0, .slice none 0 0, .string ByteArray.empty, .string ByteArray.empty, .string ByteArray.empty, .int .i64 0, .int .i64 0, .int .i64 0, .bool false, .int .i64 0, .string ByteArray.empty, .string ByteArray.empty], .int .i64 0, .string ByteArray.empty] 8 (World.laidAll_os _ _ _)
      (World.shaped_of_ZipB (by kernel_rfl) (by kernel_rfl)) (by kernel_rfl) (by kernel_rfl) (by kernel_rfl)
      (by rw [MakeChecks.laidMetH_plain _ _ _ (by kernel_rfl)]; exact laidMet_laidAll _ (by kernel_rfl) (by kernel_rfl))) ?_
  intro W base args ds gs before hval0 hW hcnd hsz0 hL hS _
  have hsz : (DataW.weightsEach Tryz.prog (Tryz.f3.params.toList ++ Rows.fnExactRenderFieldSpec.plain.varTypes Tryz.prog) (ds ++ gs)).all (· ≤ reachBytes) = true := hsz0
  have hval : ∀ (j : Nat) t v, Tryz.f3.params[j]? = some t → args[j]? = some v → Value.okWide Tryz.prog W .any base t v := hval0
  have hW' := hW
  obtain ⟨p, q, hA0, hV, rfl, hfz, hnd⟩ := hW
  have hA : DataW.TrodAll enc Tryz.prog W 0 (fun _ => true) true Tryz.f3.params.toList args.toList ds p := hA0
  rw [Tryz.params3] at hA hval hsz
  obtain ⟨v0, vs0, d0, ds0, p0, q0, hargs, rfl, rfl, h0, r0⟩ := trodAll_cons hA
  obtain ⟨v1, vs1, d1, ds1, p1, q1, rfl, rfl, rfl, h1, r1⟩ := trodAll_cons r0
  obtain ⟨v2, vs2, d2, ds2, p2, q2, rfl, rfl, rfl, h2, r2⟩ := trodAll_cons r1
  obtain ⟨rfl, rfl, rfl⟩ := trodAll_nil r2
  obtain rfl : args = #[v0, v1, v2] := by cases args; simp_all
  have hVk := hV
  obtain ⟨gA0, gT0, gC0, gF0, gD0, gP0, gA1, gT1, gC1, gF1, gD1, gP1, rfl, _, _, _, _, _, _, _, _, rfl⟩ := trodVars_two hV
  have k0 := h0
  have lt0 : ∀ x ∈ p0, x.block < W.heap.size := by obtain ⟨m, hm⟩ := k0; exact DataW.trod_lt m _ _ _ hm
  obtain ⟨cs0, x0, rfl, hK0, hw0⟩ := given_struct (d := Px.k26) (Wf := Px.Wf26) Tryz.underlying26 opens_T26 (hval 0 26 v0 rfl rfl) h0
  obtain ⟨A0_2, c0_2, A0_3, c0_3, rfl, hc0_2, hr0_2, hc0_3, hr0_3⟩ := Px.k26_open hK0
  obtain ⟨a1, rfl, rfl, rfl, w1⟩ := open_int Tryz.underlying3 (hval 1 3 v1 rfl rfl) h1
  obtain ⟨a2, rfl, rfl, rfl, y2⟩ := open_string Tryz.underlying9 (hval 2 9 v2 rfl rfl) h2
  have w2 : a2.size ≤ 140737488351232 := by
    have z := sized_string hsz (j := 2) (t := 9) rfl rfl
    rw [Array.length_toList] at z
    exact z
  clear hA0 hval0 hsz0 hsz
  refine (Px.laws_FnExactRenderField.walk Pure.FnExactRenderField x0.f0 x0.f1 A0_2 c0_2 x0.f2 A0_3 c0_3 x0.f3 x0.f4 x0.f5 x0.f6 x0.f7.f0 x0.f7.f1 x0.f7.f2 x0.f7.f3 x0.f8 x0.f9 x0.f10 a1 a2 W hw0 hr0_2 hc0_2 hr0_3 hc0_3 w1 w2 (Go.Proofs.YthcccgnhokncdaaGreatDoorW.Envs.Env.mk_ (fun t ht => by
    simp only [List.mem_cons, List.not_mem_nil, or_false] at ht
    rcases ht with rfl | rfl | rfl | rfl
    · exact hS
    · have hF := laidMetH.filter (fun x => x.1 == "internal/strconv.uint64pow10") hL
      rw [show (Rows.fnExactRenderFieldRow.laid.filter fun x => x.1 == "internal/strconv.uint64pow10") = [("internal/strconv.uint64pow10", Lib.tabData .u64 Lib.pow10Tab)] from by kernel_rfl, MakeChecks.laidMetH_plain _ _ _ (by kernel_rfl)] at hF
      exact Lib.tabIs_of_head (by rfl) (by rfl) (by rfl) (by rfl) (by kernel_rfl) (by kernel_rfl) hF
    · have hF := laidMetH.filter (fun x => x.1 == "loop.example/g00896/impl.fieldWords") hL
      rw [show (Rows.fnExactRenderFieldRow.laid.filter fun x => x.1 == "loop.example/g00896/impl.fieldWords") = [("loop.example/g00896/impl.fieldWords", Rows.laid_loop_example_g00896_impl_fieldWords)] from by kernel_rfl, MakeChecks.laidMetH_plain _ _ _ (by kernel_rfl)] at hF
      exact Go.Proofs.YthcccgnhokncdaaGreatDoorW.Envs.strs_of_head (zs := [[97, 117, 116, 104, 111, 114, 115], [101, 100, 105, 116, 111, 114, 115], [116, 105, 116, 108, 101], [99, 111, 110, 116, 97, 105, 110, 101, 114], [112, 117, 98, 108, 105, 115, 104, 101, 114], [100, 97, 116, 101], [118, 111, 108, 117, 109, 101], [112, 97, 103, 101, 115]]) (by rfl) (by rfl) (by rfl) (by rfl) (by kernel_rfl) (by kernel_rfl) hF
    · have hF := laidMetH.filter (fun x => x.1 == "loop.example/g00896/impl.monthNames") hL
      rw [show (Rows.fnExactRenderFieldRow.laid.filter fun x => x.1 == "loop.example/g00896/impl.monthNames") = [("loop.example/g00896/impl.monthNames", Rows.laid_loop_example_g00896_impl_monthNames)] from by kernel_rfl, MakeChecks.laidMetH_plain _ _ _ (by kernel_rfl)] at hF
      exact Go.Proofs.YthcccgnhokncdaaGreatDoorW.Envs.strs_of_head (zs := [[], [74, 97, 110, 117, 97, 114, 121], [70, 101, 98, 114, 117, 97, 114, 121], [77, 97, 114, 99, 104], [65, 112, 114, 105, 108], [77, 97, 121], [74, 117, 110, 101], [74, 117, 108, 121], [65, 117, 103, 117, 115, 116], [83, 101, 112, 116, 101, 109, 98, 101, 114], [79, 99, 116, 111, 98, 101, 114], [78, 111, 118, 101, 109, 98, 101, 114], [68, 101, 99, 101, 109, 98, 101, 114]]) (by rfl) (by rfl) (by rfl) (by rfl) (by kernel_rfl) (by kernel_rfl) hF))).mono fun e W' ⟨he, bel⟩ => ?_
  subst he
  exact ⟨_, rfl, _, _, _, [], _, _, hW', trodAll_mk1 (shut_bool Tryz.underlying4 _), (trodAll_cons_mk (Below.trod laidOut (by kernel_rfl) (of_decide_eq_true (by kernel_rfl)) k0 bel lt0) (trodAll_cons_mk (shut_int Tryz.underlying3 w1) (trodAll_cons_mk (shut_string Tryz.underlying9 y2) trodAll_mk0))), Below.trodVars laidOut bel (by kernel_rfl) hVk, bel.frame _, fun h => by cases h⟩
theorem over : Rows.fnExactRenderFieldRow.holds Tryz.pinned (OpenSpec.ofChange Rows.fnExactRenderFieldSpec) :=
  OpenClaim.holds_of_wide 3 Tryz.f3 rfl rfl rfl rfl rfl rfl rfl ⟨rfl, rfl, rfl, rfl, rfl⟩ rfl rfl rfl rfl rfl (by kernel_rfl) Tryz.func3 (by kernel_rfl)
    (of_decide_eq_true (by kernel_rfl)) (by unfold Func.isWrapper; first | (rw [if_pos (by decide +kernel)]; kernel_rfl) | (rw [if_neg (by decide +kernel)]; exact ⟨rfl, rfl⟩))
    (fun os started H enc _ => lifted os started H enc)
theorem proved : Rows.FnExactRenderFieldSaid := over
#print axioms proved
end Go.Proofs.YthcccgnhokncdaaGreatDoor.fnExactRenderField
namespace Go.Proofs.YthcccgnhokncdaaGreatDoor
/-- The tied card. -/
theorem fnExactRenderField_card : Rows.FnExactRenderFieldCardSaid :=
  Claim7.holds_tied_plain_at .later [] [.data, .data, .data, .data, .data, .widerDeep, .pinned] true (true, "150c13e0260addd608b349539e182ae3337c7fada3b75ae63efb5064612e8cb4") false fnExactRenderField.proved (fun _ h => by cases h) (by kernel_rfl) (fun _ h => by cases h) fnExactRenderField_row_tie rfl ⟨rfl, rfl⟩ (by kernel_rfl) rfl
    (fun f fn hf hfn => by
      obtain rfl : f = 3 := Option.some.inj ((show Tryz.prog.funcNamed "loop.example/g00896/laws.FnExactRenderField" = some 3 by kernel_rfl).symm.trans hf) |>.symm
      obtain rfl : fn = Tryz.f3 := (Option.some.inj (Tryz.func3.symm.trans hfn)).symm
      exact ⟨by kernel_rfl, fun j t ht => by
        have hall : (Tryz.f3.params.toList.all fun u => !Tryz.prog.wantsStandIn u) = true := by kernel_rfl
        have hm : t ∈ Tryz.f3.params.toList := Array.mem_toList_iff.2 (Array.mem_of_getElem? ht)
        exact (show Tryz.prog.wantsStandIn t = false by simpa using List.all_eq_true.1 hall t hm)⟩)
    (by kernel_rfl)
#print axioms fnExactRenderField_card
end Go.Proofs.YthcccgnhokncdaaGreatDoor
