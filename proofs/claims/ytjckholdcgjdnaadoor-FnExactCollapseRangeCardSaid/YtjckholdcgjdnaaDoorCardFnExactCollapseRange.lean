/- The law FnExactCollapseRange: for every input the Go function returns true and leaves what it was given as it was; conditions: none beyond the row's own form. -/
import Derived.Test.YtjckholdcgjdnaaDoorRows
import Derived.Test.YtjckholdcgjdnaaDoorCards
import Derived.Test.YtjckholdcgjdnaaDoorTie
import Derived.Lay
import Derived.LaidSub
import Derived.Lib.LaidTab
import Derived.Stop.LaidErr
import Derived.Handy
import Derived.SevenTiedAt
import Derived.Test.YtjckholdcgjdnaaDoorPx11
import Derived.Test.YtjckholdcgjdnaaDoorPureFnExactCollapseRange
import Derived.Test.YtjckholdcgjdnaaDoorOpen
import Derived.WalkKit
import Derived.ProofKit
import Derived.OpenShut
import Derived.ShutString
import Derived.ChangeOld
import Derived.Below
import Derived.SizedLaws
namespace Go.Proofs.YtjckholdcgjdnaaDoor.fnExactCollapseRange
open Go.ChangeShapes Go.WideShapes Go.ChangeAt Go.RowKit Go.Proofs.YtjckholdcgjdnaaDoorW.PrintWords Go.Proofs.YtjckholdcgjdnaaDoorW.Opening Go.Proofs.YtjckholdcgjdnaaDoor.Openers
open Go.ChangeMaps (open_string shut_string)
set_option linter.unusedVariables false
theorem own : ownKnob Tryd.prog.godebug = none := by kernel_rfl
theorem laidOut : laidOutB Tryd.prog = true := by kernel_rfl
set_option maxRecDepth 100000 in
theorem lifted (os : Os) (started : os.Started) (H : Type) (enc : TypeId × Value → H) :
    ReturnsInHanded {} Tryd.checked os 3 .any (fun w args => (Rows.fnExactCollapseRangeSpec.pre enc Tryd.prog Tryd.f3 Rows.fnExactCollapseRangeRow.domain false w args ∧ laidMetH Tryd.prog Rows.fnExactCollapseRangeRow.laid w) ∧ sizedMet enc Tryd.prog Tryd.f3 (OpenSpec.ofChange Rows.fnExactCollapseRangeSpec) false w args) (Rows.fnExactCollapseRangeSpec.post enc Tryd.prog Tryd.f3 false true false false) := by
  refine Go.Proofs.YtjckholdcgjdnaaDoorW.Envs.returns_shaped (C := Tryd.checked) (X := fun w _ => laidMetH Tryd.prog Rows.fnExactCollapseRangeRow.laid w) (fun _ _ _ hh h => h.of_heap hh) own started (by kernel_rfl) Tryd.func3
    (ChangeSpec.witness_shaped (enc := enc) (C := Tryd.checked) (os := os) (X := fun w _ => laidMetH Tryd.prog Rows.fnExactCollapseRangeRow.laid w) false (World.laidAll Tryd.prog os Rows.fnExactCollapseRangeRow.laid) #[.agg #[.string ByteArray.empty, .int .i64 0, .int .i64 0], .int .i64 0] 8 (World.laidAll_os _ _ _)
      (World.shaped_of_ZipB (by kernel_rfl) (by kernel_rfl)) (by kernel_rfl) (by kernel_rfl) (by kernel_rfl)
      (by rw [MakeChecks.laidMetH_plain _ _ _ (by kernel_rfl)]; exact laidMet_laidAll _ (by kernel_rfl) (by kernel_rfl))) ?_
  intro W base args ds gs before hval0 hW hcnd hsz0 hL hS _
  have hsz : (DataW.weightsEach Tryd.prog (Tryd.f3.params.toList ++ Rows.fnExactCollapseRangeSpec.plain.varTypes Tryd.prog) (ds ++ gs)).all (· ≤ reachBytes) = true := hsz0
  have hval : ∀ (j : Nat) t v, Tryd.f3.params[j]? = some t → args[j]? = some v → Value.okWide Tryd.prog W .any base t v := hval0
  have hW' := hW
  obtain ⟨p, q, hA0, hV, rfl, hfz, hnd⟩ := hW
  have hA : DataW.TrodAll enc Tryd.prog W 0 (fun _ => true) true Tryd.f3.params.toList args.toList ds p := hA0
  rw [Tryd.params3] at hA hval hsz
  obtain ⟨v0, vs0, d0, ds0, p0, q0, hargs, rfl, rfl, h0, r0⟩ := trodAll_cons hA
  obtain ⟨v1, vs1, d1, ds1, p1, q1, rfl, rfl, rfl, h1, r1⟩ := trodAll_cons r0
  obtain ⟨rfl, rfl, rfl⟩ := trodAll_nil r1
  obtain rfl : args = #[v0, v1] := by cases args; simp_all
  obtain ⟨rfl, rfl⟩ := trodVars_none hV
  have k0 := h0
  have lt0 : ∀ x ∈ p0, x.block < W.heap.size := by obtain ⟨m, hm⟩ := k0; exact DataW.trod_lt m _ _ _ hm
  obtain ⟨cs0, x0, rfl, hK0, hw0⟩ := given_struct (d := Px.k23) (Wf := Px.Wf23) Tryd.underlying23 opens_T23 (hval 0 23 v0 rfl rfl) h0
  obtain rfl := Px.k23_open hK0
  obtain ⟨a1, rfl, rfl, rfl, w1⟩ := open_int Tryd.underlying3 (hval 1 3 v1 rfl rfl) h1
  clear hA0 hval0 hsz0 hsz
  refine (Px.laws_FnExactCollapseRange.walk Pure.FnExactCollapseRange x0.f0 x0.f1 x0.f2 a1 W hw0 w1 (Go.Proofs.YtjckholdcgjdnaaDoorW.Envs.Env.mk_ (fun t ht => by
    simp only [List.mem_cons, List.not_mem_nil, or_false] at ht
    rcases ht with rfl
    · have hF := laidMetH.filter (fun x => x.1 == "internal/strconv.uint64pow10") hL
      rw [show (Rows.fnExactCollapseRangeRow.laid.filter fun x => x.1 == "internal/strconv.uint64pow10") = [("internal/strconv.uint64pow10", Lib.tabData .u64 Lib.pow10Tab)] from by kernel_rfl, MakeChecks.laidMetH_plain _ _ _ (by kernel_rfl)] at hF
      exact Lib.tabIs_of_head (by rfl) (by rfl) (by rfl) (by rfl) (by kernel_rfl) (by kernel_rfl) hF))).mono fun e W' ⟨he, bel⟩ => ?_
  subst he
  exact ⟨_, rfl, _, _, _, [], _, [], hW', trodAll_mk1 (shut_bool Tryd.underlying4 _), (trodAll_cons_mk (Below.trod laidOut (by kernel_rfl) (of_decide_eq_true (by kernel_rfl)) k0 bel lt0) (trodAll_cons_mk (shut_int Tryd.underlying3 w1) trodAll_mk0)), rfl, bel.frame _, fun h => by cases h⟩
theorem over : Rows.fnExactCollapseRangeRow.holds Tryd.pinned (OpenSpec.ofChange Rows.fnExactCollapseRangeSpec) :=
  OpenClaim.holds_of_wide 3 Tryd.f3 rfl rfl rfl rfl rfl rfl rfl ⟨rfl, rfl, rfl, rfl, rfl⟩ rfl rfl rfl rfl rfl (by kernel_rfl) Tryd.func3 (by kernel_rfl)
    (of_decide_eq_true (by kernel_rfl)) (by unfold Func.isWrapper; first | (rw [if_pos (by decide +kernel)]; kernel_rfl) | (rw [if_neg (by decide +kernel)]; exact ⟨rfl, rfl⟩))
    (fun os started H enc _ => lifted os started H enc)
theorem proved : Rows.FnExactCollapseRangeSaid := over
#print axioms proved
end Go.Proofs.YtjckholdcgjdnaaDoor.fnExactCollapseRange
namespace Go.Proofs.YtjckholdcgjdnaaDoor
/-- The tied card. -/
theorem fnExactCollapseRange_card : Rows.FnExactCollapseRangeCardSaid :=
  Claim7.holds_tied_plain_at .later [] [.data, .data, .data] true (true, "bc921892a10cbcd2f7e689a2ec31c2e116d4112b005f5b635cfbd3f66696c797") true fnExactCollapseRange.proved (fun _ h => by cases h) (by kernel_rfl) (fun _ h => by cases h) fnExactCollapseRange_row_tie rfl ⟨rfl, rfl⟩ (by kernel_rfl) rfl
    (fun f fn hf hfn => by
      obtain rfl : f = 3 := Option.some.inj ((show Tryd.prog.funcNamed "loop.example/g00896/laws.FnExactCollapseRange" = some 3 by kernel_rfl).symm.trans hf) |>.symm
      obtain rfl : fn = Tryd.f3 := (Option.some.inj (Tryd.func3.symm.trans hfn)).symm
      exact ⟨by kernel_rfl, fun j t ht => by
        have hall : (Tryd.f3.params.toList.all fun u => !Tryd.prog.wantsStandIn u) = true := by kernel_rfl
        have hm : t ∈ Tryd.f3.params.toList := Array.mem_toList_iff.2 (Array.mem_of_getElem? ht)
        exact (show Tryd.prog.wantsStandIn t = false by simpa using List.all_eq_true.1 hall t hm)⟩)
    (by kernel_rfl)
#print axioms fnExactCollapseRange_card
end Go.Proofs.YtjckholdcgjdnaaDoor
