/- That calls of Go functions come to what the Lean functions beside them say; written by a program of this session (wip/xprint) over the printed words; no conditions. -/
import Derived.Test.YtblcelelmjngfaaDoorPx0
import Derived.Test.YtblcelelmjngfaaDoorPx10
namespace Go.Proofs.YtblcelelmjngfaaDoor.Px
open Go.RowKit Go.Proofs.YtblcelelmjngfaaDoorW.PrintWords Go.Proofs.YtblcelelmjngfaaDoorW.PrintLast Go.Proofs.YtblcelelmjngfaaDoorW.PrintMore
attribute [local go_sem] max2_int min2_int max_two min_two max_three min_three max_four min_four   -- for this text's walks alone
set_option linter.unusedVariables false
set_option linter.unusedSimpArgs false

/-! ### spec_l1Cur_of: function 36 -/
def spec_l1Cur_of.f (s0_0 : List Int) (s0_1 : Int) (s0_2 : Int) (l1 : List ByteArray) : Option (ByteArray × Int × Int) := (spec_l1Cur_pick.f s0_0 s0_1 s0_2 (l1.length : Int)).bind fun bt166 => (if 0 ≤ bt166.1 then (if bt166.1 < (l1.length : Int) then (some (rdOf ByteArray.empty l1 bt166.1, bt166.2.1, bt166.2.2)) else (none)) else (none))
set_option maxHeartbeats 8000000 in
set_option maxRecDepth 100000 in
theorem spec_l1Cur_of.calls (g : Nat) (s0_0 : List Int) (s0_1 : Int) (s0_2 : Int) (A1 : Option Addr) (c1 : Nat) (l1 : List ByteArray) (r1 : ByteArray) (r2 : Int) (r3 : Int) (w0 w : World) (hI : IsS40 w0 w g s0_0 s0_1 s0_2) (hB : Below w0.heap.size w0 w) (hr1 : Kd.C Kd.string w A1 l1.length l1) (hc1 : l1.length ≤ c1) (hf1 : ∀ ad, A1 = some ad → 0 < l1.length → ad.block ≠ g) (h : spec_l1Cur_of.f s0_0 s0_1 s0_2 l1 = some (r1, r2, r3)) :
    Calls Tryd.prog 36 #[.pointer (some ⟨g, 0, none⟩), .slice A1 l1.length c1] w fun e w' => e = .returned (.string r1) ∧ IsS40 w0 w' g s0_0 r2 r3 ∧ Below w0.heap.size w0 w' ∧ KeepBut w w' g none := by
  have HR1 := Aside0.mk hr1
  have HC1 := Aside0.mk hc1
  clear hr1 hc1
  have HI0 := Aside0.mk hI
  have HK := Aside0.mk (KeepBut.refl w g none)
  have HL := Aside0.mk hB.size
  clear hI
  have HW0 := Aside0.mk hB.size
  have HB := Aside0.mk hB
  clear hB
  have H : ((spec_l1Cur_pick.f s0_0 s0_1 s0_2 (l1.length : Int)).bind fun bt166 => (if 0 ≤ bt166.1 then (if bt166.1 < (l1.length : Int) then (some (rdOf ByteArray.empty l1 bt166.1, bt166.2.1, bt166.2.2)) else (none)) else (none))) = some (r1, r2, r3) := h
  clear h
  replace H := Option.bind_eq_some_iff.mp H
  obtain ⟨⟨t166, t167, t168⟩, A30, H⟩ := H
  replace H : (if 0 ≤ t166 then (if t166 < (l1.length : Int) then (some (rdOf ByteArray.empty l1 t166, t167, t168)) else (none)) else (none)) = some (r1, r2, r3) := H
  have A3 := Aside0.mk A30
  clear A30
  by_cases c4 : 0 ≤ t166
  · rw [if_pos c4] at H
    have c4b0 : decide (0 ≤ t166) = true := decide_eq_true c4
    clear c4
    by_cases c5 : t166 < (l1.length : Int)
    · rw [if_pos c5] at H
      have c5b0 : decide (t166 < (l1.length : Int)) = true := decide_eq_true c5
      clear c5
      simp only [Option.some.injEq, Prod.mk.injEq] at H
      obtain ⟨rfl, rfl, rfl⟩ := H
      go_enter Tryd.func36, Tryd.ntmps36
      go_wp2_with (first | ((with_reducible refine gate_callee (f := 29) rfl ?_); refine goesL_ (some 9) rfl rfl Tryd.func29 (by kernel_rfl) rfl #[.pointer (some ⟨g, 0, none⟩), .int .i64 (l1.length : Int)] rfl (by (try simp only [List.map_toArray, List.map_cons, List.map_nil]); first | done | rfl | (simp only [List.length_drop, List.length_take]; rfl)) ?_; (with_reducible refine (spec_l1Cur_pick.calls g s0_0 s0_1 s0_2 (l1.length : Int) t166 t167 t168 w0 _ ?side1 ?side2 A3.out).mono ?_); (case side1 => repeat (first | (with_reducible first | exact HI0.out | apply IsS40.alloc | apply IsS40.drewN | apply IsS40.drew | apply IsS40.set_1 | apply IsS40.set_2) | exact HI0.out)); (case side2 => repeat (first | (with_reducible first | exact HB.out | apply below_alloc | apply pw_below_drewN | apply below_drew1 | refine below_set ?_ (IsS40.ge HI0.out)) | exact HB.out)); rintro e w6 ⟨rfl, hi, hb, hk⟩; refine ⟨_, rfl, ?_⟩; have n0_ := Aside0.mk (KeepBut.trans (by repeat (first | (with_reducible first | exact HK.out | apply KeepBut.set_ | apply keep_drewN | apply keep_drew | apply keep_alloc) | exact HK.out)) hk (.inl rfl)); have n1_ := Aside0.mk (hb); have n2_ := Aside0.mk (hi); clear HK; clear HB; clear HI0; have HK := n0_; have HB := n1_; have HI0 := n2_; clear n0_ n1_ n2_; (try clear hb); (try clear hb2); (try clear hk); (try clear hi); have p169 : 0 ≤ (t166 : Int) := of_decide_eq_true (by first | (with_reducible assumption) | assumption); have q169 : t166 < (l1.length : Int) := of_decide_eq_true (by first | (with_reducible assumption) | assumption); obtain ⟨ad169, e169, hx169_0⟩ := Kd.at_string HR1.out t166 p169 q169; cases e169; replace hx169_0 := keep_cell HK.out hx169_0 (by first | (rw [add_block]; exact hf1 _ rfl (by omega)) | exact hf1 _ rfl (by omega) | exact hf1 ad169 rfl (by omega)); replace p169 := eq_true p169; replace q169 := eq_true q169))
      go_ret
      exact ⟨by first | rfl | (simp [errW_none, errW_some] <;> rfl) | (simp [*, errW_none, errW_some] <;> rfl) | (simp [errW_none, errW_some] <;> (apply Bool.eq_iff_iff.2; simp [List.isEmpty_iff])), by repeat (first | (with_reducible first | exact HI0.out | apply IsS40.alloc | apply IsS40.drewN | apply IsS40.drew | apply IsS40.set_1 | apply IsS40.set_2) | exact HI0.out), by repeat (first | (with_reducible first | exact HB.out | apply below_alloc | apply pw_below_drewN | apply below_drew1 | refine below_set ?_ (IsS40.ge HI0.out)) | exact HB.out), by repeat (first | (with_reducible first | exact HK.out | apply KeepBut.set_ | apply keep_drewN | apply keep_drew | apply keep_alloc) | exact HK.out)⟩
    · rw [if_neg c5] at H
      exact absurd H (by simp)
  · rw [if_neg c4] at H
    exact absurd H (by simp)

/-! ### spec_l8Texts: function 37 -/
def spec_l8Texts.f  : Option (List ByteArray) := some (([(⟨#[84, 104, 101, 32, 110, 111, 114, 116, 104]⟩ : ByteArray), (⟨#[116, 104, 101, 32, 78, 111, 114, 116, 104]⟩ : ByteArray), (⟨#[32, 79, 108, 100, 32, 114, 111, 97, 100, 115, 58, 32, 97, 32, 103, 117, 105, 100, 101]⟩ : ByteArray), (⟨#[79, 39, 78, 101, 105, 108, 108, 45, 72, 97, 108, 108]⟩ : ByteArray), (⟨#[65]⟩ : ByteArray), (⟨#[65, 110, 32]⟩ : ByteArray), (⟨#[97, 32, 104, 105, 115, 116, 111, 114, 121, 32, 111, 102, 32, 109, 97, 112, 115]⟩ : ByteArray), (⟨#[]⟩ : ByteArray), (⟨#[118, 111, 108, 32, 57]⟩ : ByteArray), (⟨#[118, 111, 108, 32, 49, 48]⟩ : ByteArray), (⟨#[118, 111, 108, 32, 48, 57]⟩ : ByteArray), (⟨#[49, 48]⟩ : ByteArray), (⟨#[57, 97]⟩ : ByteArray), (⟨#[79, 110, 32, 45, 32, 114, 105, 118, 101, 114, 115]⟩ : ByteArray)] : List ByteArray))
set_option maxHeartbeats 8000000 in
set_option maxRecDepth 100000 in
theorem spec_l8Texts.calls  (r : List ByteArray) (w : World) (h : spec_l8Texts.f  = some r) :
    Calls Tryd.prog 37 #[] w fun e w' => ∃ v0_ : Value, e = .returned (v0_) ∧ Kd.R Kd.string 9 w' w.heap.size (fun _ => True) v0_ r ∧ Below w.heap.size w w' := by
  have HB := Aside0.mk (Below.refl w.heap.size w)
  have H : (some (([(⟨#[84, 104, 101, 32, 110, 111, 114, 116, 104]⟩ : ByteArray), (⟨#[116, 104, 101, 32, 78, 111, 114, 116, 104]⟩ : ByteArray), (⟨#[32, 79, 108, 100, 32, 114, 111, 97, 100, 115, 58, 32, 97, 32, 103, 117, 105, 100, 101]⟩ : ByteArray), (⟨#[79, 39, 78, 101, 105, 108, 108, 45, 72, 97, 108, 108]⟩ : ByteArray), (⟨#[65]⟩ : ByteArray), (⟨#[65, 110, 32]⟩ : ByteArray), (⟨#[97, 32, 104, 105, 115, 116, 111, 114, 121, 32, 111, 102, 32, 109, 97, 112, 115]⟩ : ByteArray), (⟨#[]⟩ : ByteArray), (⟨#[118, 111, 108, 32, 57]⟩ : ByteArray), (⟨#[118, 111, 108, 32, 49, 48]⟩ : ByteArray), (⟨#[118, 111, 108, 32, 48, 57]⟩ : ByteArray), (⟨#[49, 48]⟩ : ByteArray), (⟨#[57, 97]⟩ : ByteArray), (⟨#[79, 110, 32, 45, 32, 114, 105, 118, 101, 114, 115]⟩ : ByteArray)] : List ByteArray))) = some r := h
  clear h
  obtain ⟨y170, hy170⟩ : ∃ y_ : List ByteArray, y_ = (([(⟨#[84, 104, 101, 32, 110, 111, 114, 116, 104]⟩ : ByteArray), (⟨#[116, 104, 101, 32, 78, 111, 114, 116, 104]⟩ : ByteArray), (⟨#[32, 79, 108, 100, 32, 114, 111, 97, 100, 115, 58, 32, 97, 32, 103, 117, 105, 100, 101]⟩ : ByteArray), (⟨#[79, 39, 78, 101, 105, 108, 108, 45, 72, 97, 108, 108]⟩ : ByteArray), (⟨#[65]⟩ : ByteArray), (⟨#[65, 110, 32]⟩ : ByteArray), (⟨#[97, 32, 104, 105, 115, 116, 111, 114, 121, 32, 111, 102, 32, 109, 97, 112, 115]⟩ : ByteArray), (⟨#[]⟩ : ByteArray), (⟨#[118, 111, 108, 32, 57]⟩ : ByteArray), (⟨#[118, 111, 108, 32, 49, 48]⟩ : ByteArray), (⟨#[118, 111, 108, 32, 48, 57]⟩ : ByteArray), (⟨#[49, 48]⟩ : ByteArray), (⟨#[57, 97]⟩ : ByteArray), (⟨#[79, 110, 32, 45, 32, 114, 105, 118, 101, 114, 115]⟩ : ByteArray)] : List ByteArray)) := ⟨_, rfl⟩
  replace H : (some y170) = some r := by first | (rw [hy170]; with_reducible exact H) | (have H2_ := (Option.bind_some _ _).symm.trans H; rw [hy170]; with_reducible exact H2_) | (have H2_ := (Option.bind_some _ _).symm.trans H; with_reducible exact H2_) | with_reducible exact H | (rw [hy170]; exact H) | exact H
  have Ny170 := Aside0.mk hy170
  clear hy170
  obtain rfl := Option.some.inj H
  go_enter Tryd.func37, Tryd.ntmps37
  go_wp2_with (first | ((with_reducible refine gate_dst (N := 1) rfl ?_); refine Kd.R_lit Kd.string _ 9 ?hg (N := 1) ?hd (xs := ([(⟨#[84, 104, 101, 32, 110, 111, 114, 116, 104]⟩ : ByteArray), (⟨#[116, 104, 101, 32, 78, 111, 114, 116, 104]⟩ : ByteArray), (⟨#[32, 79, 108, 100, 32, 114, 111, 97, 100, 115, 58, 32, 97, 32, 103, 117, 105, 100, 101]⟩ : ByteArray), (⟨#[79, 39, 78, 101, 105, 108, 108, 45, 72, 97, 108, 108]⟩ : ByteArray), (⟨#[65]⟩ : ByteArray), (⟨#[65, 110, 32]⟩ : ByteArray), (⟨#[97, 32, 104, 105, 115, 116, 111, 114, 121, 32, 111, 102, 32, 109, 97, 112, 115]⟩ : ByteArray), (⟨#[]⟩ : ByteArray), (⟨#[118, 111, 108, 32, 57]⟩ : ByteArray), (⟨#[118, 111, 108, 32, 49, 48]⟩ : ByteArray), (⟨#[118, 111, 108, 32, 48, 57]⟩ : ByteArray), (⟨#[49, 48]⟩ : ByteArray), (⟨#[57, 97]⟩ : ByteArray), (⟨#[79, 110, 32, 45, 32, 114, 105, 118, 101, 114, 115]⟩ : ByteArray)] : List ByteArray)) (inner := [.string (⟨#[84, 104, 101, 32, 110, 111, 114, 116, 104]⟩ : ByteArray), .string (⟨#[116, 104, 101, 32, 78, 111, 114, 116, 104]⟩ : ByteArray), .string (⟨#[32, 79, 108, 100, 32, 114, 111, 97, 100, 115, 58, 32, 97, 32, 103, 117, 105, 100, 101]⟩ : ByteArray), .string (⟨#[79, 39, 78, 101, 105, 108, 108, 45, 72, 97, 108, 108]⟩ : ByteArray), .string (⟨#[65]⟩ : ByteArray), .string (⟨#[65, 110, 32]⟩ : ByteArray), .string (⟨#[97, 32, 104, 105, 115, 116, 111, 114, 121, 32, 111, 102, 32, 109, 97, 112, 115]⟩ : ByteArray), .string (⟨#[]⟩ : ByteArray), .string (⟨#[118, 111, 108, 32, 57]⟩ : ByteArray), .string (⟨#[118, 111, 108, 32, 49, 48]⟩ : ByteArray), .string (⟨#[118, 111, 108, 32, 48, 57]⟩ : ByteArray), .string (⟨#[49, 48]⟩ : ByteArray), .string (⟨#[57, 97]⟩ : ByteArray), .string (⟨#[79, 110, 32, 45, 32, 114, 105, 118, 101, 114, 115]⟩ : ByteArray)]) (ok := fun _ => True) (okp := fun _ => True) ?hr ?hp (fun _ hk => hk) trivial (Below.refl _ _) (Nat.le_refl _) (by simp) ?_; (case hd => rfl); (case hg => rfl); (case hr => first | (go_simp; done) | (go_simp; rfl)); (case hp => exact (Reps.one (show Kd.M Kd.string _ _ _ (⟨#[84, 104, 101, 32, 110, 111, 114, 116, 104]⟩ : ByteArray) [.string (⟨#[84, 104, 101, 32, 110, 111, 114, 116, 104]⟩ : ByteArray)] from rfl) (Reps.one (show Kd.M Kd.string _ _ _ (⟨#[116, 104, 101, 32, 78, 111, 114, 116, 104]⟩ : ByteArray) [.string (⟨#[116, 104, 101, 32, 78, 111, 114, 116, 104]⟩ : ByteArray)] from rfl) (Reps.one (show Kd.M Kd.string _ _ _ (⟨#[32, 79, 108, 100, 32, 114, 111, 97, 100, 115, 58, 32, 97, 32, 103, 117, 105, 100, 101]⟩ : ByteArray) [.string (⟨#[32, 79, 108, 100, 32, 114, 111, 97, 100, 115, 58, 32, 97, 32, 103, 117, 105, 100, 101]⟩ : ByteArray)] from rfl) (Reps.one (show Kd.M Kd.string _ _ _ (⟨#[79, 39, 78, 101, 105, 108, 108, 45, 72, 97, 108, 108]⟩ : ByteArray) [.string (⟨#[79, 39, 78, 101, 105, 108, 108, 45, 72, 97, 108, 108]⟩ : ByteArray)] from rfl) (Reps.one (show Kd.M Kd.string _ _ _ (⟨#[65]⟩ : ByteArray) [.string (⟨#[65]⟩ : ByteArray)] from rfl) (Reps.one (show Kd.M Kd.string _ _ _ (⟨#[65, 110, 32]⟩ : ByteArray) [.string (⟨#[65, 110, 32]⟩ : ByteArray)] from rfl) (Reps.one (show Kd.M Kd.string _ _ _ (⟨#[97, 32, 104, 105, 115, 116, 111, 114, 121, 32, 111, 102, 32, 109, 97, 112, 115]⟩ : ByteArray) [.string (⟨#[97, 32, 104, 105, 115, 116, 111, 114, 121, 32, 111, 102, 32, 109, 97, 112, 115]⟩ : ByteArray)] from rfl) (Reps.one (show Kd.M Kd.string _ _ _ (⟨#[]⟩ : ByteArray) [.string (⟨#[]⟩ : ByteArray)] from rfl) (Reps.one (show Kd.M Kd.string _ _ _ (⟨#[118, 111, 108, 32, 57]⟩ : ByteArray) [.string (⟨#[118, 111, 108, 32, 57]⟩ : ByteArray)] from rfl) (Reps.one (show Kd.M Kd.string _ _ _ (⟨#[118, 111, 108, 32, 49, 48]⟩ : ByteArray) [.string (⟨#[118, 111, 108, 32, 49, 48]⟩ : ByteArray)] from rfl) (Reps.one (show Kd.M Kd.string _ _ _ (⟨#[118, 111, 108, 32, 48, 57]⟩ : ByteArray) [.string (⟨#[118, 111, 108, 32, 48, 57]⟩ : ByteArray)] from rfl) (Reps.one (show Kd.M Kd.string _ _ _ (⟨#[49, 48]⟩ : ByteArray) [.string (⟨#[49, 48]⟩ : ByteArray)] from rfl) (Reps.one (show Kd.M Kd.string _ _ _ (⟨#[57, 97]⟩ : ByteArray) [.string (⟨#[57, 97]⟩ : ByteArray)] from rfl) (Reps.one (show Kd.M Kd.string _ _ _ (⟨#[79, 110, 32, 45, 32, 114, 105, 118, 101, 114, 115]⟩ : ByteArray) [.string (⟨#[79, 110, 32, 45, 32, 114, 105, 118, 101, 114, 115]⟩ : ByteArray)] from rfl) (Reps.none _ _)))))))))))))))); intro v171 w1 ho2 hb hg_ hnew_; clear hg_ hnew_; (first | rw [← Ny170.out] at ho2 | (simp only [Int.reduceToNat] at ho2; rw [← Ny170.out] at ho2)); have n0_ := Aside0.mk (Kd.R_lower ho2 (below_size (by repeat (first | (with_reducible first | exact HB.out | apply below_alloc | apply pw_below_drewN | apply below_drew1) | exact HB.out)))); have n1_ := Aside0.mk (below_step (by repeat (first | (with_reducible first | exact HB.out | apply below_alloc | apply pw_below_drewN | apply below_drew1) | exact HB.out)) hb); clear HB; have HO172 := n0_; have HB := n1_; clear n0_ n1_; clear hb ho2))
  go_ret
  exact ⟨_, by first | rfl | (simp [errW_none, errW_some] <;> rfl) | (simp [*, errW_none, errW_some] <;> rfl) | (simp [errW_none, errW_some] <;> (apply Bool.eq_iff_iff.2; simp [List.isEmpty_iff])), by (with_reducible repeat (first | apply Kd.R_alloc | apply Kd.R_drewN | apply Kd.R_drew)); exact Kd.R_mono HO172.out (fun _ hk => trivial), by repeat (first | (with_reducible first | exact HB.out | apply below_alloc | apply pw_below_drewN | apply below_drew1) | exact HB.out)⟩

/-! ### spec_l1Cur_spoilt: function 38 -/
/-- A text with a byte more, another one, or one less. -/
def spec_l1Cur_spoilt.res (a1 W : ByteArray) (i v : Int) : ByteArray := if v = 0 then (a1.extract 0 i.toNat ++ W) ++ a1.extract i.toNat a1.size else if v = 1 then (a1.extract 0 i.toNat ++ W) ++ a1.extract (i.toNat + 1) a1.size else a1.extract 0 i.toNat ++ a1.extract (i.toNat + 1) a1.size
def spec_l1Cur_spoilt.f (s0_0 : List Int) (s0_1 : Int) (s0_2 : Int) (a1 : ByteArray) (a2 : ByteArray) : Option (ByteArray × Int × Int) :=
  if a1.size = 0 then (if 1 ≤ a2.size then some (a2.extract 0 1, s0_1, s0_2) else none)
  else (spec_l1Cur_pick.f s0_0 s0_1 s0_2 (a1.size : Int)).bind fun t => (spec_l1Cur_pick.f s0_0 t.2.1 t.2.2 (a2.size : Int)).bind fun u => (spec_l1Cur_pick.f s0_0 u.2.1 u.2.2 3).bind fun v =>
    if (0 ≤ u.1 ∧ u.1 < (a2.size : Int)) ∧ (0 ≤ t.1 ∧ t.1 < (a1.size : Int)) ∧ a1.size ≤ 1099511627776 then some (spec_l1Cur_spoilt.res a1 ((a2.extract u.1.toNat a2.size).extract 0 1) t.1 v.1, v.2.1, v.2.2) else none
set_option maxHeartbeats 4000000 in
set_option maxRecDepth 100000 in
theorem spec_l1Cur_spoilt.calls (g : Nat) (s0_0 : List Int) (s0_1 : Int) (s0_2 : Int) (a1 : ByteArray) (a2 : ByteArray) (r1 : ByteArray) (r2 : Int) (r3 : Int) (w0 w : World) (hI : IsS40 w0 w g s0_0 s0_1 s0_2) (hB : Below w0.heap.size w0 w) (h : spec_l1Cur_spoilt.f s0_0 s0_1 s0_2 a1 a2 = some (r1, r2, r3)) :
    Calls Tryd.prog 38 #[.pointer (some ⟨g, 0, none⟩), .string a1, .string a2] w fun e w' => e = .returned (.string r1) ∧ IsS40 w0 w' g s0_0 r2 r3 ∧ Below w0.heap.size w0 w' ∧ KeepBut w w' g none := by
  have HI0 := Aside0.mk hI
  have HK := Aside0.mk (KeepBut.refl w g none)
  have HB := Aside0.mk hB
  clear hI hB
  unfold spec_l1Cur_spoilt.f at h
  by_cases h0 : a1.size = 0
  · rw [if_pos h0] at h
    by_cases h1 : 1 ≤ a2.size
    · rw [if_pos h1] at h
      obtain ⟨rfl, h2⟩ := Prod.mk.inj (Option.some.inj h)
      obtain ⟨rfl, rfl⟩ := Prod.mk.inj h2
      clear h h2
      have e0 : a1.toList.isEmpty = true := by
        rw [List.isEmpty_iff, Lib.toList_data]
        exact List.eq_nil_of_length_eq_zero (by rw [data_length]; exact h0)
      have c1 : decide ((1 : Int) ≤ (a2.size : Int)) = true := decide_eq_true (by omega)
      have c2 : ((1 : Int) ≤ (a2.size : Int)) = True := eq_true (by omega)
      have c3 : (1 ≤ a2.size) = True := eq_true h1
      have c4 : ((a2.size : Int) < 1) = False := eq_false (by omega)
      clear h0 h1
      go_enter Tryd.func38, Tryd.ntmps38
      go_wp2
      go_ret
      exact ⟨rfl, HI0.out, HB.out, HK.out⟩
    · rw [if_neg h1] at h
      cases h
  · rw [if_neg h0] at h
    obtain ⟨⟨t1, t2, t3⟩, ht, h⟩ := Option.bind_eq_some_iff.1 h
    obtain ⟨⟨u1, u2, u3⟩, hu, h⟩ := Option.bind_eq_some_iff.1 h
    obtain ⟨⟨v1, v2, v3⟩, hv, h⟩ := Option.bind_eq_some_iff.1 h
    by_cases hc : (0 ≤ u1 ∧ u1 < (a2.size : Int)) ∧ (0 ≤ t1 ∧ t1 < (a1.size : Int)) ∧ a1.size ≤ 1099511627776
    · rw [if_pos hc] at h
      obtain ⟨hr, h2⟩ := Prod.mk.inj (Option.some.inj h)
      obtain ⟨rfl, rfl⟩ := Prod.mk.inj h2
      clear h h2
      have e0 : a1.toList.isEmpty = false := by
        rw [Bool.eq_false_iff]
        intro e
        rw [List.isEmpty_iff, Lib.toList_data] at e
        exact h0 (by rw [← data_length, e]; rfl)
      obtain ⟨⟨u0, u00⟩, ⟨t0, t00⟩, hm⟩ := hc
      obtain ⟨i, rfl⟩ : ∃ i : Nat, t1 = (i : Int) := ⟨t1.toNat, by omega⟩
      obtain ⟨j, rfl⟩ : ∃ j : Nat, u1 = (j : Int) := ⟨u1.toNat, by omega⟩
      unfold spec_l1Cur_spoilt.res at hr
      rw [Int.toNat_natCast, Int.toNat_natCast] at hr
      have hi : i < a1.size := by omega
      have hj : j < a2.size := by omega
      have HT := Aside0.mk ht
      have HU := Aside0.mk hu
      have HV := Aside0.mk hv
      have HR := Aside0.mk hr
      clear ht hu hv hr h0 t0 t00 u0 u00
      have f1 : ((i : Int) < 0) = False := eq_false (by omega)
      have f2 : (i ≤ a1.size) = True := eq_true (by omega)
      have f3 : wrap64 ((i : Int) + 1) = ((i + 1 : Nat) : Int) := by unfold wrap64; omega
      have f4 : (i + 1 ≤ a1.size) = True := eq_true (by omega)
      by_cases v0 : v1 = 0
      · subst v0
        have hr2 : (a1.extract 0 i ++ (a2.extract j a2.size).extract 0 1) ++ a1.extract i a1.size = r1 := by have h := HR.out; rw [if_pos rfl] at h; exact h
        subst hr2
        clear HR
        go_enter Tryd.func38, Tryd.ntmps38
        go_wp2_with (first | (go_at_call 29; (with_reducible refine (spec_l1Cur_pick.calls g s0_0 s0_1 s0_2 (a1.size : Int) (i : Int) t2 t3 w0 _ ?side1 ?side2 HT.out).mono ?_); (case side1 => repeat (first | exact HI0.out | apply IsS40.drewN | apply IsS40.drew)); (case side2 => repeat (first | exact HB.out | apply pw_below_drewN | apply below_drew1)); rintro e w1 ⟨rfl, hi1, hb1, hk1⟩; have n0_ := Aside0.mk (KeepBut.trans (by repeat (first | exact HK.out | apply keep_drewN | apply keep_drew)) hk1 (.inl rfl)); have n1_ := Aside0.mk hb1; have n2_ := Aside0.mk hi1; clear HK; clear HB; clear HI0; have HK := n0_; have HB := n1_; have HI0 := n2_; clear n0_ n1_ n2_ hi1 hb1 hk1) | (go_at_call 29; (with_reducible refine (spec_l1Cur_pick.calls g s0_0 t2 t3 (a2.size : Int) (j : Int) u2 u3 w0 _ ?side1 ?side2 HU.out).mono ?_); (case side1 => repeat (first | exact HI0.out | apply IsS40.drewN | apply IsS40.drew)); (case side2 => repeat (first | exact HB.out | apply pw_below_drewN | apply below_drew1)); rintro e w2 ⟨rfl, hi1, hb1, hk1⟩; have n0_ := Aside0.mk (KeepBut.trans (by repeat (first | exact HK.out | apply keep_drewN | apply keep_drew)) hk1 (.inl rfl)); have n1_ := Aside0.mk hb1; have n2_ := Aside0.mk hi1; clear HK; clear HB; clear HI0; have HK := n0_; have HB := n1_; have HI0 := n2_; clear n0_ n1_ n2_ hi1 hb1 hk1) | (go_at_call 29; (with_reducible refine (spec_l1Cur_pick.calls g s0_0 u2 u3 3 0 v2 v3 w0 _ ?side1 ?side2 HV.out).mono ?_); (case side1 => repeat (first | exact HI0.out | apply IsS40.drewN | apply IsS40.drew)); (case side2 => repeat (first | exact HB.out | apply pw_below_drewN | apply below_drew1)); rintro e w3 ⟨rfl, hi1, hb1, hk1⟩; have n0_ := Aside0.mk (KeepBut.trans (by repeat (first | exact HK.out | apply keep_drewN | apply keep_drew)) hk1 (.inl rfl)); have n1_ := Aside0.mk hb1; have n2_ := Aside0.mk hi1; clear HK; clear HB; clear HI0; have HK := n0_; have HB := n1_; have HI0 := n2_; clear n0_ n1_ n2_ hi1 hb1 hk1))
        repeat (go_quiet (first | (go_at_call 29; (with_reducible refine (spec_l1Cur_pick.calls g s0_0 s0_1 s0_2 (a1.size : Int) (i : Int) t2 t3 w0 _ ?side1 ?side2 HT.out).mono ?_); (case side1 => repeat (first | exact HI0.out | apply IsS40.drewN | apply IsS40.drew)); (case side2 => repeat (first | exact HB.out | apply pw_below_drewN | apply below_drew1)); rintro e w1 ⟨rfl, hi1, hb1, hk1⟩; have n0_ := Aside0.mk (KeepBut.trans (by repeat (first | exact HK.out | apply keep_drewN | apply keep_drew)) hk1 (.inl rfl)); have n1_ := Aside0.mk hb1; have n2_ := Aside0.mk hi1; clear HK; clear HB; clear HI0; have HK := n0_; have HB := n1_; have HI0 := n2_; clear n0_ n1_ n2_ hi1 hb1 hk1) | (go_at_call 29; (with_reducible refine (spec_l1Cur_pick.calls g s0_0 t2 t3 (a2.size : Int) (j : Int) u2 u3 w0 _ ?side1 ?side2 HU.out).mono ?_); (case side1 => repeat (first | exact HI0.out | apply IsS40.drewN | apply IsS40.drew)); (case side2 => repeat (first | exact HB.out | apply pw_below_drewN | apply below_drew1)); rintro e w2 ⟨rfl, hi1, hb1, hk1⟩; have n0_ := Aside0.mk (KeepBut.trans (by repeat (first | exact HK.out | apply keep_drewN | apply keep_drew)) hk1 (.inl rfl)); have n1_ := Aside0.mk hb1; have n2_ := Aside0.mk hi1; clear HK; clear HB; clear HI0; have HK := n0_; have HB := n1_; have HI0 := n2_; clear n0_ n1_ n2_ hi1 hb1 hk1) | (go_at_call 29; (with_reducible refine (spec_l1Cur_pick.calls g s0_0 u2 u3 3 0 v2 v3 w0 _ ?side1 ?side2 HV.out).mono ?_); (case side1 => repeat (first | exact HI0.out | apply IsS40.drewN | apply IsS40.drew)); (case side2 => repeat (first | exact HB.out | apply pw_below_drewN | apply below_drew1)); rintro e w3 ⟨rfl, hi1, hb1, hk1⟩; have n0_ := Aside0.mk (KeepBut.trans (by repeat (first | exact HK.out | apply keep_drewN | apply keep_drew)) hk1 (.inl rfl)); have n1_ := Aside0.mk hb1; have n2_ := Aside0.mk hi1; clear HK; clear HB; clear HI0; have HK := n0_; have HB := n1_; have HI0 := n2_; clear n0_ n1_ n2_ hi1 hb1 hk1)))
        try go_wp2
        go_ret
        exact ⟨rfl, by repeat (first | exact HI0.out | apply IsS40.drewN | apply IsS40.drew), by repeat (first | exact HB.out | apply pw_below_drewN | apply below_drew1), by repeat (first | exact HK.out | apply keep_drewN | apply keep_drew)⟩
      · by_cases v1' : v1 = 1
        · subst v1'
          have hr2 : (a1.extract 0 i ++ (a2.extract j a2.size).extract 0 1) ++ a1.extract (i + 1) a1.size = r1 := by have h := HR.out; rw [if_neg (show ¬ (1 : Int) = 0 from by decide), if_pos rfl] at h; exact h
          subst hr2
          clear HR
          go_enter Tryd.func38, Tryd.ntmps38
          go_wp2_with (first | (go_at_call 29; (with_reducible refine (spec_l1Cur_pick.calls g s0_0 s0_1 s0_2 (a1.size : Int) (i : Int) t2 t3 w0 _ ?side1 ?side2 HT.out).mono ?_); (case side1 => repeat (first | exact HI0.out | apply IsS40.drewN | apply IsS40.drew)); (case side2 => repeat (first | exact HB.out | apply pw_below_drewN | apply below_drew1)); rintro e w1 ⟨rfl, hi1, hb1, hk1⟩; have n0_ := Aside0.mk (KeepBut.trans (by repeat (first | exact HK.out | apply keep_drewN | apply keep_drew)) hk1 (.inl rfl)); have n1_ := Aside0.mk hb1; have n2_ := Aside0.mk hi1; clear HK; clear HB; clear HI0; have HK := n0_; have HB := n1_; have HI0 := n2_; clear n0_ n1_ n2_ hi1 hb1 hk1) | (go_at_call 29; (with_reducible refine (spec_l1Cur_pick.calls g s0_0 t2 t3 (a2.size : Int) (j : Int) u2 u3 w0 _ ?side1 ?side2 HU.out).mono ?_); (case side1 => repeat (first | exact HI0.out | apply IsS40.drewN | apply IsS40.drew)); (case side2 => repeat (first | exact HB.out | apply pw_below_drewN | apply below_drew1)); rintro e w2 ⟨rfl, hi1, hb1, hk1⟩; have n0_ := Aside0.mk (KeepBut.trans (by repeat (first | exact HK.out | apply keep_drewN | apply keep_drew)) hk1 (.inl rfl)); have n1_ := Aside0.mk hb1; have n2_ := Aside0.mk hi1; clear HK; clear HB; clear HI0; have HK := n0_; have HB := n1_; have HI0 := n2_; clear n0_ n1_ n2_ hi1 hb1 hk1) | (go_at_call 29; (with_reducible refine (spec_l1Cur_pick.calls g s0_0 u2 u3 3 1 v2 v3 w0 _ ?side1 ?side2 HV.out).mono ?_); (case side1 => repeat (first | exact HI0.out | apply IsS40.drewN | apply IsS40.drew)); (case side2 => repeat (first | exact HB.out | apply pw_below_drewN | apply below_drew1)); rintro e w3 ⟨rfl, hi1, hb1, hk1⟩; have n0_ := Aside0.mk (KeepBut.trans (by repeat (first | exact HK.out | apply keep_drewN | apply keep_drew)) hk1 (.inl rfl)); have n1_ := Aside0.mk hb1; have n2_ := Aside0.mk hi1; clear HK; clear HB; clear HI0; have HK := n0_; have HB := n1_; have HI0 := n2_; clear n0_ n1_ n2_ hi1 hb1 hk1))
          repeat (go_quiet (first | (go_at_call 29; (with_reducible refine (spec_l1Cur_pick.calls g s0_0 s0_1 s0_2 (a1.size : Int) (i : Int) t2 t3 w0 _ ?side1 ?side2 HT.out).mono ?_); (case side1 => repeat (first | exact HI0.out | apply IsS40.drewN | apply IsS40.drew)); (case side2 => repeat (first | exact HB.out | apply pw_below_drewN | apply below_drew1)); rintro e w1 ⟨rfl, hi1, hb1, hk1⟩; have n0_ := Aside0.mk (KeepBut.trans (by repeat (first | exact HK.out | apply keep_drewN | apply keep_drew)) hk1 (.inl rfl)); have n1_ := Aside0.mk hb1; have n2_ := Aside0.mk hi1; clear HK; clear HB; clear HI0; have HK := n0_; have HB := n1_; have HI0 := n2_; clear n0_ n1_ n2_ hi1 hb1 hk1) | (go_at_call 29; (with_reducible refine (spec_l1Cur_pick.calls g s0_0 t2 t3 (a2.size : Int) (j : Int) u2 u3 w0 _ ?side1 ?side2 HU.out).mono ?_); (case side1 => repeat (first | exact HI0.out | apply IsS40.drewN | apply IsS40.drew)); (case side2 => repeat (first | exact HB.out | apply pw_below_drewN | apply below_drew1)); rintro e w2 ⟨rfl, hi1, hb1, hk1⟩; have n0_ := Aside0.mk (KeepBut.trans (by repeat (first | exact HK.out | apply keep_drewN | apply keep_drew)) hk1 (.inl rfl)); have n1_ := Aside0.mk hb1; have n2_ := Aside0.mk hi1; clear HK; clear HB; clear HI0; have HK := n0_; have HB := n1_; have HI0 := n2_; clear n0_ n1_ n2_ hi1 hb1 hk1) | (go_at_call 29; (with_reducible refine (spec_l1Cur_pick.calls g s0_0 u2 u3 3 1 v2 v3 w0 _ ?side1 ?side2 HV.out).mono ?_); (case side1 => repeat (first | exact HI0.out | apply IsS40.drewN | apply IsS40.drew)); (case side2 => repeat (first | exact HB.out | apply pw_below_drewN | apply below_drew1)); rintro e w3 ⟨rfl, hi1, hb1, hk1⟩; have n0_ := Aside0.mk (KeepBut.trans (by repeat (first | exact HK.out | apply keep_drewN | apply keep_drew)) hk1 (.inl rfl)); have n1_ := Aside0.mk hb1; have n2_ := Aside0.mk hi1; clear HK; clear HB; clear HI0; have HK := n0_; have HB := n1_; have HI0 := n2_; clear n0_ n1_ n2_ hi1 hb1 hk1)))
          try go_wp2
          go_ret
          exact ⟨rfl, by repeat (first | exact HI0.out | apply IsS40.drewN | apply IsS40.drew), by repeat (first | exact HB.out | apply pw_below_drewN | apply below_drew1), by repeat (first | exact HK.out | apply keep_drewN | apply keep_drew)⟩
        · have hr2 : a1.extract 0 i ++ a1.extract (i + 1) a1.size = r1 := by have h := HR.out; rw [if_neg v0, if_neg v1'] at h; exact h
          subst hr2
          clear HR
          have g0 : (v1 == 0) = false := beq_eq_false_iff_ne.2 v0
          have g1 : (v1 == 1) = false := beq_eq_false_iff_ne.2 v1'
          go_enter Tryd.func38, Tryd.ntmps38
          go_wp2_with (first | (go_at_call 29; (with_reducible refine (spec_l1Cur_pick.calls g s0_0 s0_1 s0_2 (a1.size : Int) (i : Int) t2 t3 w0 _ ?side1 ?side2 HT.out).mono ?_); (case side1 => repeat (first | exact HI0.out | apply IsS40.drewN | apply IsS40.drew)); (case side2 => repeat (first | exact HB.out | apply pw_below_drewN | apply below_drew1)); rintro e w1 ⟨rfl, hi1, hb1, hk1⟩; have n0_ := Aside0.mk (KeepBut.trans (by repeat (first | exact HK.out | apply keep_drewN | apply keep_drew)) hk1 (.inl rfl)); have n1_ := Aside0.mk hb1; have n2_ := Aside0.mk hi1; clear HK; clear HB; clear HI0; have HK := n0_; have HB := n1_; have HI0 := n2_; clear n0_ n1_ n2_ hi1 hb1 hk1) | (go_at_call 29; (with_reducible refine (spec_l1Cur_pick.calls g s0_0 t2 t3 (a2.size : Int) (j : Int) u2 u3 w0 _ ?side1 ?side2 HU.out).mono ?_); (case side1 => repeat (first | exact HI0.out | apply IsS40.drewN | apply IsS40.drew)); (case side2 => repeat (first | exact HB.out | apply pw_below_drewN | apply below_drew1)); rintro e w2 ⟨rfl, hi1, hb1, hk1⟩; have n0_ := Aside0.mk (KeepBut.trans (by repeat (first | exact HK.out | apply keep_drewN | apply keep_drew)) hk1 (.inl rfl)); have n1_ := Aside0.mk hb1; have n2_ := Aside0.mk hi1; clear HK; clear HB; clear HI0; have HK := n0_; have HB := n1_; have HI0 := n2_; clear n0_ n1_ n2_ hi1 hb1 hk1) | (go_at_call 29; (with_reducible refine (spec_l1Cur_pick.calls g s0_0 u2 u3 3 v1 v2 v3 w0 _ ?side1 ?side2 HV.out).mono ?_); (case side1 => repeat (first | exact HI0.out | apply IsS40.drewN | apply IsS40.drew)); (case side2 => repeat (first | exact HB.out | apply pw_below_drewN | apply below_drew1)); rintro e w3 ⟨rfl, hi1, hb1, hk1⟩; have n0_ := Aside0.mk (KeepBut.trans (by repeat (first | exact HK.out | apply keep_drewN | apply keep_drew)) hk1 (.inl rfl)); have n1_ := Aside0.mk hb1; have n2_ := Aside0.mk hi1; clear HK; clear HB; clear HI0; have HK := n0_; have HB := n1_; have HI0 := n2_; clear n0_ n1_ n2_ hi1 hb1 hk1))
          repeat (go_quiet (first | (go_at_call 29; (with_reducible refine (spec_l1Cur_pick.calls g s0_0 s0_1 s0_2 (a1.size : Int) (i : Int) t2 t3 w0 _ ?side1 ?side2 HT.out).mono ?_); (case side1 => repeat (first | exact HI0.out | apply IsS40.drewN | apply IsS40.drew)); (case side2 => repeat (first | exact HB.out | apply pw_below_drewN | apply below_drew1)); rintro e w1 ⟨rfl, hi1, hb1, hk1⟩; have n0_ := Aside0.mk (KeepBut.trans (by repeat (first | exact HK.out | apply keep_drewN | apply keep_drew)) hk1 (.inl rfl)); have n1_ := Aside0.mk hb1; have n2_ := Aside0.mk hi1; clear HK; clear HB; clear HI0; have HK := n0_; have HB := n1_; have HI0 := n2_; clear n0_ n1_ n2_ hi1 hb1 hk1) | (go_at_call 29; (with_reducible refine (spec_l1Cur_pick.calls g s0_0 t2 t3 (a2.size : Int) (j : Int) u2 u3 w0 _ ?side1 ?side2 HU.out).mono ?_); (case side1 => repeat (first | exact HI0.out | apply IsS40.drewN | apply IsS40.drew)); (case side2 => repeat (first | exact HB.out | apply pw_below_drewN | apply below_drew1)); rintro e w2 ⟨rfl, hi1, hb1, hk1⟩; have n0_ := Aside0.mk (KeepBut.trans (by repeat (first | exact HK.out | apply keep_drewN | apply keep_drew)) hk1 (.inl rfl)); have n1_ := Aside0.mk hb1; have n2_ := Aside0.mk hi1; clear HK; clear HB; clear HI0; have HK := n0_; have HB := n1_; have HI0 := n2_; clear n0_ n1_ n2_ hi1 hb1 hk1) | (go_at_call 29; (with_reducible refine (spec_l1Cur_pick.calls g s0_0 u2 u3 3 v1 v2 v3 w0 _ ?side1 ?side2 HV.out).mono ?_); (case side1 => repeat (first | exact HI0.out | apply IsS40.drewN | apply IsS40.drew)); (case side2 => repeat (first | exact HB.out | apply pw_below_drewN | apply below_drew1)); rintro e w3 ⟨rfl, hi1, hb1, hk1⟩; have n0_ := Aside0.mk (KeepBut.trans (by repeat (first | exact HK.out | apply keep_drewN | apply keep_drew)) hk1 (.inl rfl)); have n1_ := Aside0.mk hb1; have n2_ := Aside0.mk hi1; clear HK; clear HB; clear HI0; have HK := n0_; have HB := n1_; have HI0 := n2_; clear n0_ n1_ n2_ hi1 hb1 hk1)))
          try go_wp2
          go_ret
          exact ⟨rfl, by repeat (first | exact HI0.out | apply IsS40.drewN | apply IsS40.drew), by repeat (first | exact HB.out | apply pw_below_drewN | apply below_drew1), by repeat (first | exact HK.out | apply keep_drewN | apply keep_drew)⟩
    · rw [if_neg hc] at h
      cases h

/-! ### spec_l1Cur_sample: function 23 -/
def spec_l1Cur_sample.f (s0_0 : List Int) (s0_1 : Int) (s0_2 : Int) : Option (ByteArray × Int × Int) := (spec_l8Texts.f).bind fun t173 => ((spec_l1Cur_of.f s0_0 s0_1 s0_2 t173).bind fun bt176 => ((spec_l1Cur_one.f s0_0 bt176.2.1 bt176.2.2 4).bind fun bt179 => (if bt179.1 = true then ((spec_l1Cur_spoilt.f s0_0 bt179.2.1 bt179.2.2 bt176.1 (⟨#[97, 65, 48, 32, 45, 46]⟩ : ByteArray)).bind fun bt182 => (some (bt182.1, bt182.2.1, bt182.2.2))) else (some (bt176.1, bt179.2.1, bt179.2.2)))))
set_option maxHeartbeats 8000000 in
set_option maxRecDepth 100000 in
theorem spec_l1Cur_sample.calls (g : Nat) (s0_0 : List Int) (s0_1 : Int) (s0_2 : Int) (r1 : ByteArray) (r2 : Int) (r3 : Int) (w0 w : World) (hI : IsS40 w0 w g s0_0 s0_1 s0_2) (hB : Below w0.heap.size w0 w) (h : spec_l1Cur_sample.f s0_0 s0_1 s0_2 = some (r1, r2, r3)) :
    Calls Tryd.prog 23 #[.pointer (some ⟨g, 0, none⟩)] w fun e w' => e = .returned (.string r1) ∧ IsS40 w0 w' g s0_0 r2 r3 ∧ Below w0.heap.size w0 w' ∧ KeepBut w w' g none := by
  have HI0 := Aside0.mk hI
  have HK := Aside0.mk (KeepBut.refl w g none)
  have HL := Aside0.mk hB.size
  clear hI
  have HW0 := Aside0.mk hB.size
  have HB := Aside0.mk hB
  clear hB
  have H : ((spec_l8Texts.f).bind fun t173 => ((spec_l1Cur_of.f s0_0 s0_1 s0_2 t173).bind fun bt176 => ((spec_l1Cur_one.f s0_0 bt176.2.1 bt176.2.2 4).bind fun bt179 => (if bt179.1 = true then ((spec_l1Cur_spoilt.f s0_0 bt179.2.1 bt179.2.2 bt176.1 (⟨#[97, 65, 48, 32, 45, 46]⟩ : ByteArray)).bind fun bt182 => (some (bt182.1, bt182.2.1, bt182.2.2))) else (some (bt176.1, bt179.2.1, bt179.2.2)))))) = some (r1, r2, r3) := h
  clear h
  replace H := Option.bind_eq_some_iff.mp H
  obtain ⟨t173, A20, H⟩ := H
  replace H : ((spec_l1Cur_of.f s0_0 s0_1 s0_2 t173).bind fun bt176 => ((spec_l1Cur_one.f s0_0 bt176.2.1 bt176.2.2 4).bind fun bt179 => (if bt179.1 = true then ((spec_l1Cur_spoilt.f s0_0 bt179.2.1 bt179.2.2 bt176.1 (⟨#[97, 65, 48, 32, 45, 46]⟩ : ByteArray)).bind fun bt182 => (some (bt182.1, bt182.2.1, bt182.2.2))) else (some (bt176.1, bt179.2.1, bt179.2.2))))) = some (r1, r2, r3) := H
  have A2 := Aside0.mk A20
  clear A20
  replace H := Option.bind_eq_some_iff.mp H
  obtain ⟨⟨t176, t177, t178⟩, A30, H⟩ := H
  replace H : ((spec_l1Cur_one.f s0_0 t177 t178 4).bind fun bt179 => (if bt179.1 = true then ((spec_l1Cur_spoilt.f s0_0 bt179.2.1 bt179.2.2 t176 (⟨#[97, 65, 48, 32, 45, 46]⟩ : ByteArray)).bind fun bt182 => (some (bt182.1, bt182.2.1, bt182.2.2))) else (some (t176, bt179.2.1, bt179.2.2)))) = some (r1, r2, r3) := H
  have A3 := Aside0.mk A30
  clear A30
  replace H := Option.bind_eq_some_iff.mp H
  obtain ⟨⟨t179, t180, t181⟩, A40, H⟩ := H
  replace H : (if t179 = true then ((spec_l1Cur_spoilt.f s0_0 t180 t181 t176 (⟨#[97, 65, 48, 32, 45, 46]⟩ : ByteArray)).bind fun bt182 => (some (bt182.1, bt182.2.1, bt182.2.2))) else (some (t176, t180, t181))) = some (r1, r2, r3) := H
  have A4 := Aside0.mk A40
  clear A40
  by_cases c5 : t179 = true
  · subst c5
    have H1 : ((spec_l1Cur_spoilt.f s0_0 t180 t181 t176 (⟨#[97, 65, 48, 32, 45, 46]⟩ : ByteArray)).bind fun bt182 => (some (bt182.1, bt182.2.1, bt182.2.2))) = some (r1, r2, r3) := by rw [if_pos rfl] at H; exact H
    clear H
    have H := H1
    clear H1
    replace H := Option.bind_eq_some_iff.mp H
    obtain ⟨⟨t182, t183, t184⟩, A60, H⟩ := H
    replace H : (some (t182, t183, t184)) = some (r1, r2, r3) := H
    have A6 := Aside0.mk A60
    clear A60
    simp only [Option.some.injEq, Prod.mk.injEq] at H
    obtain ⟨rfl, rfl, rfl⟩ := H
    go_enter Tryd.func23, Tryd.ntmps23
    go_wp2_with (first | ((with_reducible refine gate_callee (f := 37) rfl ?_); refine goesL_ (some 5) rfl rfl Tryd.func37 (by kernel_rfl) rfl #[] rfl (by (try simp only [List.map_toArray, List.map_cons, List.map_nil]); first | done | rfl | (simp only [List.length_drop, List.length_take]; rfl)) ?_; (with_reducible refine (spec_l8Texts.calls  t173 _ A2.out).mono ?_); rintro e w7 ⟨v174, rfl, ho0, hb⟩; refine ⟨_, rfl, ?_⟩; have n0_ := Aside0.mk (Kd.R_lower ho0 (keep_size (w := w) (g := g) (row := none) (by repeat (first | (with_reducible first | exact HK.out | apply KeepBut.set_ | apply keep_drewN | apply keep_drew | apply keep_alloc) | exact HK.out)))); have n1_ := Aside0.mk (IsS40.below (by repeat (first | (with_reducible first | exact HI0.out | apply IsS40.alloc | apply IsS40.drewN | apply IsS40.drew | apply IsS40.set_1 | apply IsS40.set_2) | exact HI0.out)) hb); have n2_ := Aside0.mk (KeepBut.trans (by repeat (first | (with_reducible first | exact HK.out | apply KeepBut.set_ | apply keep_drewN | apply keep_drew | apply keep_alloc) | exact HK.out)) (KeepBut.of_below hb g none) (.inl rfl)); have n3_ := Aside0.mk (below_step (by repeat (first | (with_reducible first | exact HB.out | apply below_alloc | apply pw_below_drewN | apply below_drew1 | refine below_set ?_ (IsS40.ge HI0.out)) | exact HB.out)) hb); clear HI0; clear HK; clear HB; have HO175 := n0_; have HI0 := n1_; have HK := n2_; have HB := n3_; clear n0_ n1_ n2_ n3_; (try clear hb); (try clear hb2); (try clear hk); (try clear hi); (try clear ho0); obtain ⟨Ao8, co8, eo8⟩ := Kd.R_slice HO175.out; subst eo8) | ((with_reducible refine gate_callee (f := 36) rfl ?_); refine goesL_ (some 6) rfl rfl Tryd.func36 (by kernel_rfl) rfl #[.pointer (some ⟨g, 0, none⟩), .slice Ao8 t173.length co8] rfl (by (try simp only [List.map_toArray, List.map_cons, List.map_nil]); first | done | rfl | (simp only [List.length_drop, List.length_take]; rfl)) ?_; (with_reducible refine (spec_l1Cur_of.calls g s0_0 s0_1 s0_2 _ _ t173 t176 t177 t178 w0 _ ?side1 ?side2 ?side3 ?side4 ?side5 A3.out).mono ?_); (case side1 => repeat (first | (with_reducible first | exact HI0.out | apply IsS40.alloc | apply IsS40.drewN | apply IsS40.drew | apply IsS40.set_1 | apply IsS40.set_2) | exact HI0.out)); (case side2 => repeat (first | (with_reducible first | exact HB.out | apply below_alloc | apply pw_below_drewN | apply below_drew1 | refine below_set ?_ (IsS40.ge HI0.out)) | exact HB.out)); (case side3 => repeat (first | exact (Kd.R_reads' HO175.out).2.2 | (with_reducible refine Kd.C_alloc ?_ _) | (with_reducible refine Kd.C_drewN ?_ _) | (with_reducible refine Kd.C_drew ?_))); (case side4 => exact (Kd.R_reads' HO175.out).2.1); (case side5 => exact far_slice (IsS40.own_ne HI0.out HO175.out (by decide))); rintro e w9 ⟨rfl, hi, hb, hk⟩; refine ⟨_, rfl, ?_⟩; have n0_ := Aside0.mk (Kd.R_mono (Kd.R_keep (IsS40.apart (show IsS40 w0 _ g s0_0 s0_1 s0_2 from by repeat (first | (with_reducible first | exact HI0.out | apply IsS40.alloc | apply IsS40.drewN | apply IsS40.drew | apply IsS40.set_1 | apply IsS40.set_2) | exact HI0.out)) (by (with_reducible repeat (first | apply Kd.R_alloc | apply Kd.R_drewN | apply Kd.R_drew)); exact HO175.out) (by decide)) hk (fun _ h => h.2)) (fun _ h => h.1)); have n1_ := Aside0.mk (KeepBut.trans (by repeat (first | (with_reducible first | exact HK.out | apply KeepBut.set_ | apply keep_drewN | apply keep_drew | apply keep_alloc) | exact HK.out)) hk (.inl rfl)); have n2_ := Aside0.mk (hb); have n3_ := Aside0.mk (hi); clear HO175; clear HK; clear HB; clear HI0; have HO175 := n0_; have HK := n1_; have HB := n2_; have HI0 := n3_; clear n0_ n1_ n2_ n3_; (try clear hb); (try clear hb2); (try clear hk); (try clear hi)) | ((with_reducible refine gate_callee (f := 28) rfl ?_); refine goesL_ (some 8) rfl rfl Tryd.func28 (by kernel_rfl) rfl #[.pointer (some ⟨g, 0, none⟩), .int .i64 4] rfl (by (try simp only [List.map_toArray, List.map_cons, List.map_nil]); first | done | rfl | (simp only [List.length_drop, List.length_take]; rfl)) ?_; (with_reducible refine (spec_l1Cur_one.calls g s0_0 t177 t178 4 true t180 t181 w0 _ ?side1 ?side2 A4.out).mono ?_); (case side1 => repeat (first | (with_reducible first | exact HI0.out | apply IsS40.alloc | apply IsS40.drewN | apply IsS40.drew | apply IsS40.set_1 | apply IsS40.set_2) | exact HI0.out)); (case side2 => repeat (first | (with_reducible first | exact HB.out | apply below_alloc | apply pw_below_drewN | apply below_drew1 | refine below_set ?_ (IsS40.ge HI0.out)) | exact HB.out)); rintro e w10 ⟨rfl, hi, hb, hk⟩; refine ⟨_, rfl, ?_⟩; have n0_ := Aside0.mk (Kd.R_mono (Kd.R_keep (IsS40.apart (show IsS40 w0 _ g s0_0 t177 t178 from by repeat (first | (with_reducible first | exact HI0.out | apply IsS40.alloc | apply IsS40.drewN | apply IsS40.drew | apply IsS40.set_1 | apply IsS40.set_2) | exact HI0.out)) (by (with_reducible repeat (first | apply Kd.R_alloc | apply Kd.R_drewN | apply Kd.R_drew)); exact HO175.out) (by decide)) hk (fun _ h => h.2)) (fun _ h => h.1)); have n1_ := Aside0.mk (KeepBut.trans (by repeat (first | (with_reducible first | exact HK.out | apply KeepBut.set_ | apply keep_drewN | apply keep_drew | apply keep_alloc) | exact HK.out)) hk (.inl rfl)); have n2_ := Aside0.mk (hb); have n3_ := Aside0.mk (hi); clear HO175; clear HK; clear HB; clear HI0; have HO175 := n0_; have HK := n1_; have HB := n2_; have HI0 := n3_; clear n0_ n1_ n2_ n3_; (try clear hb); (try clear hb2); (try clear hk); (try clear hi)) | ((with_reducible refine gate_callee (f := 38) rfl ?_); refine goesL_ (some 11) rfl rfl Tryd.func38 (by kernel_rfl) rfl #[.pointer (some ⟨g, 0, none⟩), .string t176, .string (⟨#[97, 65, 48, 32, 45, 46]⟩ : ByteArray)] rfl (by (try simp only [List.map_toArray, List.map_cons, List.map_nil]); first | done | rfl | (simp only [List.length_drop, List.length_take]; rfl)) ?_; (with_reducible refine (spec_l1Cur_spoilt.calls g s0_0 t180 t181 t176 (⟨#[97, 65, 48, 32, 45, 46]⟩ : ByteArray) t182 t183 t184 w0 _ ?side1 ?side2 A6.out).mono ?_); (case side1 => repeat (first | (with_reducible first | exact HI0.out | apply IsS40.alloc | apply IsS40.drewN | apply IsS40.drew | apply IsS40.set_1 | apply IsS40.set_2) | exact HI0.out)); (case side2 => repeat (first | (with_reducible first | exact HB.out | apply below_alloc | apply pw_below_drewN | apply below_drew1 | refine below_set ?_ (IsS40.ge HI0.out)) | exact HB.out)); rintro e w11 ⟨rfl, hi, hb, hk⟩; refine ⟨_, rfl, ?_⟩; have n0_ := Aside0.mk (Kd.R_mono (Kd.R_keep (IsS40.apart (show IsS40 w0 _ g s0_0 t180 t181 from by repeat (first | (with_reducible first | exact HI0.out | apply IsS40.alloc | apply IsS40.drewN | apply IsS40.drew | apply IsS40.set_1 | apply IsS40.set_2) | exact HI0.out)) (by (with_reducible repeat (first | apply Kd.R_alloc | apply Kd.R_drewN | apply Kd.R_drew)); exact HO175.out) (by decide)) hk (fun _ h => h.2)) (fun _ h => h.1)); have n1_ := Aside0.mk (KeepBut.trans (by repeat (first | (with_reducible first | exact HK.out | apply KeepBut.set_ | apply keep_drewN | apply keep_drew | apply keep_alloc) | exact HK.out)) hk (.inl rfl)); have n2_ := Aside0.mk (hb); have n3_ := Aside0.mk (hi); clear HO175; clear HK; clear HB; clear HI0; have HO175 := n0_; have HK := n1_; have HB := n2_; have HI0 := n3_; clear n0_ n1_ n2_ n3_; (try clear hb); (try clear hb2); (try clear hk); (try clear hi)))
    go_ret
    exact ⟨by first | rfl | (simp [errW_none, errW_some] <;> rfl) | (simp [*, errW_none, errW_some] <;> rfl) | (simp [errW_none, errW_some] <;> (apply Bool.eq_iff_iff.2; simp [List.isEmpty_iff])), by repeat (first | (with_reducible first | exact HI0.out | apply IsS40.alloc | apply IsS40.drewN | apply IsS40.drew | apply IsS40.set_1 | apply IsS40.set_2) | exact HI0.out), by repeat (first | (with_reducible first | exact HB.out | apply below_alloc | apply pw_below_drewN | apply below_drew1 | refine below_set ?_ (IsS40.ge HI0.out)) | exact HB.out), by repeat (first | (with_reducible first | exact HK.out | apply KeepBut.set_ | apply keep_drewN | apply keep_drew | apply keep_alloc) | exact HK.out)⟩
  · replace c5 := Bool.eq_false_iff.mpr c5
    subst c5
    have H1 : (some (t176, t180, t181)) = some (r1, r2, r3) := by rw [if_neg (show ¬ (false = true) by decide)] at H; exact H
    clear H
    have H := H1
    clear H1
    simp only [Option.some.injEq, Prod.mk.injEq] at H
    obtain ⟨rfl, rfl, rfl⟩ := H
    go_enter Tryd.func23, Tryd.ntmps23
    go_wp2_with (first | ((with_reducible refine gate_callee (f := 37) rfl ?_); refine goesL_ (some 5) rfl rfl Tryd.func37 (by kernel_rfl) rfl #[] rfl (by (try simp only [List.map_toArray, List.map_cons, List.map_nil]); first | done | rfl | (simp only [List.length_drop, List.length_take]; rfl)) ?_; (with_reducible refine (spec_l8Texts.calls  t173 _ A2.out).mono ?_); rintro e w12 ⟨v174, rfl, ho0, hb⟩; refine ⟨_, rfl, ?_⟩; have n0_ := Aside0.mk (Kd.R_lower ho0 (keep_size (w := w) (g := g) (row := none) (by repeat (first | (with_reducible first | exact HK.out | apply KeepBut.set_ | apply keep_drewN | apply keep_drew | apply keep_alloc) | exact HK.out)))); have n1_ := Aside0.mk (IsS40.below (by repeat (first | (with_reducible first | exact HI0.out | apply IsS40.alloc | apply IsS40.drewN | apply IsS40.drew | apply IsS40.set_1 | apply IsS40.set_2) | exact HI0.out)) hb); have n2_ := Aside0.mk (KeepBut.trans (by repeat (first | (with_reducible first | exact HK.out | apply KeepBut.set_ | apply keep_drewN | apply keep_drew | apply keep_alloc) | exact HK.out)) (KeepBut.of_below hb g none) (.inl rfl)); have n3_ := Aside0.mk (below_step (by repeat (first | (with_reducible first | exact HB.out | apply below_alloc | apply pw_below_drewN | apply below_drew1 | refine below_set ?_ (IsS40.ge HI0.out)) | exact HB.out)) hb); clear HI0; clear HK; clear HB; have HO175 := n0_; have HI0 := n1_; have HK := n2_; have HB := n3_; clear n0_ n1_ n2_ n3_; (try clear hb); (try clear hb2); (try clear hk); (try clear hi); (try clear ho0); obtain ⟨Ao13, co13, eo13⟩ := Kd.R_slice HO175.out; subst eo13) | ((with_reducible refine gate_callee (f := 36) rfl ?_); refine goesL_ (some 6) rfl rfl Tryd.func36 (by kernel_rfl) rfl #[.pointer (some ⟨g, 0, none⟩), .slice Ao13 t173.length co13] rfl (by (try simp only [List.map_toArray, List.map_cons, List.map_nil]); first | done | rfl | (simp only [List.length_drop, List.length_take]; rfl)) ?_; (with_reducible refine (spec_l1Cur_of.calls g s0_0 s0_1 s0_2 _ _ t173 t176 t177 t178 w0 _ ?side1 ?side2 ?side3 ?side4 ?side5 A3.out).mono ?_); (case side1 => repeat (first | (with_reducible first | exact HI0.out | apply IsS40.alloc | apply IsS40.drewN | apply IsS40.drew | apply IsS40.set_1 | apply IsS40.set_2) | exact HI0.out)); (case side2 => repeat (first | (with_reducible first | exact HB.out | apply below_alloc | apply pw_below_drewN | apply below_drew1 | refine below_set ?_ (IsS40.ge HI0.out)) | exact HB.out)); (case side3 => repeat (first | exact (Kd.R_reads' HO175.out).2.2 | (with_reducible refine Kd.C_alloc ?_ _) | (with_reducible refine Kd.C_drewN ?_ _) | (with_reducible refine Kd.C_drew ?_))); (case side4 => exact (Kd.R_reads' HO175.out).2.1); (case side5 => exact far_slice (IsS40.own_ne HI0.out HO175.out (by decide))); rintro e w14 ⟨rfl, hi, hb, hk⟩; refine ⟨_, rfl, ?_⟩; have n0_ := Aside0.mk (Kd.R_mono (Kd.R_keep (IsS40.apart (show IsS40 w0 _ g s0_0 s0_1 s0_2 from by repeat (first | (with_reducible first | exact HI0.out | apply IsS40.alloc | apply IsS40.drewN | apply IsS40.drew | apply IsS40.set_1 | apply IsS40.set_2) | exact HI0.out)) (by (with_reducible repeat (first | apply Kd.R_alloc | apply Kd.R_drewN | apply Kd.R_drew)); exact HO175.out) (by decide)) hk (fun _ h => h.2)) (fun _ h => h.1)); have n1_ := Aside0.mk (KeepBut.trans (by repeat (first | (with_reducible first | exact HK.out | apply KeepBut.set_ | apply keep_drewN | apply keep_drew | apply keep_alloc) | exact HK.out)) hk (.inl rfl)); have n2_ := Aside0.mk (hb); have n3_ := Aside0.mk (hi); clear HO175; clear HK; clear HB; clear HI0; have HO175 := n0_; have HK := n1_; have HB := n2_; have HI0 := n3_; clear n0_ n1_ n2_ n3_; (try clear hb); (try clear hb2); (try clear hk); (try clear hi)) | ((with_reducible refine gate_callee (f := 28) rfl ?_); refine goesL_ (some 8) rfl rfl Tryd.func28 (by kernel_rfl) rfl #[.pointer (some ⟨g, 0, none⟩), .int .i64 4] rfl (by (try simp only [List.map_toArray, List.map_cons, List.map_nil]); first | done | rfl | (simp only [List.length_drop, List.length_take]; rfl)) ?_; (with_reducible refine (spec_l1Cur_one.calls g s0_0 t177 t178 4 false t180 t181 w0 _ ?side1 ?side2 A4.out).mono ?_); (case side1 => repeat (first | (with_reducible first | exact HI0.out | apply IsS40.alloc | apply IsS40.drewN | apply IsS40.drew | apply IsS40.set_1 | apply IsS40.set_2) | exact HI0.out)); (case side2 => repeat (first | (with_reducible first | exact HB.out | apply below_alloc | apply pw_below_drewN | apply below_drew1 | refine below_set ?_ (IsS40.ge HI0.out)) | exact HB.out)); rintro e w15 ⟨rfl, hi, hb, hk⟩; refine ⟨_, rfl, ?_⟩; have n0_ := Aside0.mk (Kd.R_mono (Kd.R_keep (IsS40.apart (show IsS40 w0 _ g s0_0 t177 t178 from by repeat (first | (with_reducible first | exact HI0.out | apply IsS40.alloc | apply IsS40.drewN | apply IsS40.drew | apply IsS40.set_1 | apply IsS40.set_2) | exact HI0.out)) (by (with_reducible repeat (first | apply Kd.R_alloc | apply Kd.R_drewN | apply Kd.R_drew)); exact HO175.out) (by decide)) hk (fun _ h => h.2)) (fun _ h => h.1)); have n1_ := Aside0.mk (KeepBut.trans (by repeat (first | (with_reducible first | exact HK.out | apply KeepBut.set_ | apply keep_drewN | apply keep_drew | apply keep_alloc) | exact HK.out)) hk (.inl rfl)); have n2_ := Aside0.mk (hb); have n3_ := Aside0.mk (hi); clear HO175; clear HK; clear HB; clear HI0; have HO175 := n0_; have HK := n1_; have HB := n2_; have HI0 := n3_; clear n0_ n1_ n2_ n3_; (try clear hb); (try clear hb2); (try clear hk); (try clear hi)))
    go_ret
    exact ⟨by first | rfl | (simp [errW_none, errW_some] <;> rfl) | (simp [*, errW_none, errW_some] <;> rfl) | (simp [errW_none, errW_some] <;> (apply Bool.eq_iff_iff.2; simp [List.isEmpty_iff])), by repeat (first | (with_reducible first | exact HI0.out | apply IsS40.alloc | apply IsS40.drewN | apply IsS40.drew | apply IsS40.set_1 | apply IsS40.set_2) | exact HI0.out), by repeat (first | (with_reducible first | exact HB.out | apply below_alloc | apply pw_below_drewN | apply below_drew1 | refine below_set ?_ (IsS40.ge HI0.out)) | exact HB.out), by repeat (first | (with_reducible first | exact HK.out | apply KeepBut.set_ | apply keep_drewN | apply keep_drew | apply keep_alloc) | exact HK.out)⟩

/-! ### spec_DrawFoldText: function 8 -/
def spec_DrawFoldText.f (l0 : List Int) : Option (ByteArray) := (spec_l1Cur_sample.f l0 0 0).bind fun bt186 => (some bt186.1)
set_option maxHeartbeats 8000000 in
set_option maxRecDepth 100000 in
theorem spec_DrawFoldText.calls (A0 : Option Addr) (c0 : Nat) (l0 : List Int) (r : ByteArray) (w : World) (hr0 : Kd.C (Kd.int .u8) w A0 l0.length l0) (hc0 : l0.length ≤ c0) (h : spec_DrawFoldText.f l0 = some r) :
    Calls Tryd.prog 8 #[.slice A0 l0.length c0] w fun e w' => e = .returned (.string r) ∧ Below w.heap.size w w' := by
  have hu40 := Tryd.underlying40
  have HR0 := Aside0.mk hr0
  have HC0 := Aside0.mk hc0
  clear hr0 hc0
  have HB := Aside0.mk (Below.refl w.heap.size w)
  have H : ((spec_l1Cur_sample.f l0 0 0).bind fun bt186 => (some bt186.1)) = some r := h
  clear h
  replace H := Option.bind_eq_some_iff.mp H
  obtain ⟨⟨t186, t187, t188⟩, A20, H⟩ := H
  replace H : (some t186) = some r := H
  have A2 := Aside0.mk A20
  clear A20
  obtain rfl := Option.some.inj H
  go_enter Tryd.func8, Tryd.ntmps8
  go_wp2_with (first | ((with_reducible refine gate_dst (N := 6) rfl ?_); refine box_event ?hg (N := 6) ?hd (cs := #[.slice A0 l0.length c0, .int .i64 0, .int .u64 0]) (t := 40) ?hr ?_; (case hd => rfl); (case hg => rfl); (case hr => first | (go_simp; done) | (go_simp; rfl)); intro gb185 hg w3 hbox hb; have n0_ := Aside0.mk (below_step (by repeat (first | (with_reducible first | exact HB.out | apply below_alloc | apply pw_below_drewN | apply below_drew1) | exact HB.out)) hb); have n1_ := Aside0.mk (hbox); have n2_ := Aside0.mk ((by rw [hg]; exact (below_size (by repeat (first | (with_reducible first | exact HB.out | apply below_alloc | apply pw_below_drewN | apply below_drew1) | exact HB.out))) : w.heap.size ≤ gb185)); have n3_ := Aside0.mk ((by rw [hg]; exact (below_size (by repeat (first | (with_reducible first | exact HB.out | apply below_alloc | apply pw_below_drewN | apply below_drew1) | exact HB.out))) : w.heap.size ≤ gb185)); clear HB; have HB := n0_; have BK185 := n1_; have GW185 := n2_; have GE185 := n3_; clear n0_ n1_ n2_ n3_; clear hb hbox hg; have HI185 := Aside0.mk (show IsS40 w w3 gb185 l0 0 0 from ⟨A0, c0, BK185.out, GE185.out, HR0.out⟩); clear BK185) | ((with_reducible refine gate_callee (f := 23) rfl ?_); refine goesL_ (some 8) rfl rfl Tryd.func23 (by kernel_rfl) rfl #[.pointer (some ⟨gb185, 0, none⟩)] rfl (by (try simp only [List.map_toArray, List.map_cons, List.map_nil]); first | done | rfl | (simp only [List.length_drop, List.length_take]; rfl)) ?_; (with_reducible refine (spec_l1Cur_sample.calls gb185 l0 0 0 t186 t187 t188 w _ ?side1 ?side2 A2.out).mono ?_); (case side1 => repeat (first | (with_reducible first | exact HI185.out | apply IsS40.alloc | apply IsS40.drewN | apply IsS40.drew | apply IsS40.set_1 | apply IsS40.set_2) | exact HI185.out)); (case side2 => repeat (first | (with_reducible first | exact HB.out | apply below_alloc | apply pw_below_drewN | apply below_drew1 | refine below_set ?_ (IsS40.ge HI185.out)) | exact HB.out)); rintro e w4 ⟨rfl, hi, hb, hk⟩; refine ⟨_, rfl, ?_⟩; have n0_ := Aside0.mk (hb); have n1_ := Aside0.mk (hi); clear HB; clear HI185; have HB := n0_; have HI185 := n1_; clear n0_ n1_; (try clear hb); (try clear hb2); (try clear hk); (try clear hi)))
  go_ret
  exact ⟨by first | rfl | (simp [errW_none, errW_some] <;> rfl) | (simp [*, errW_none, errW_some] <;> rfl) | (simp [errW_none, errW_some] <;> (apply Bool.eq_iff_iff.2; simp [List.isEmpty_iff])), by repeat (first | (with_reducible first | exact HB.out | apply below_alloc | apply pw_below_drewN | apply below_drew1 | refine below_set ?_ (IsS40.ge HI185.out)) | exact HB.out)⟩

/-! ### impl_isUpper: function 50 -/
def impl_isUpper.f (a0 : Int) : Option (Bool) := if a0 ≥ 65 then (some (decide (a0 ≤ 90))) else (some false)
set_option maxHeartbeats 8000000 in
set_option maxRecDepth 100000 in
theorem impl_isUpper.calls (a0 : Int) (r : Bool) (w : World) (h : impl_isUpper.f a0 = some r) :
    Calls Tryd.prog 50 #[.int .u8 a0] w fun e w' => e = .returned (.bool r) ∧ Drawn0 w w' := by
  have H : (if a0 ≥ 65 then (some (decide (a0 ≤ 90))) else (some false)) = some r := h
  clear h
  by_cases c2 : a0 ≥ 65
  · rw [if_pos c2] at H
    have c2b0 : decide (65 ≤ a0) = true := decide_eq_true c2
    clear c2
    obtain rfl := Option.some.inj H
    go_enter Tryd.func50, Tryd.ntmps50
    go_wp2
    go_ret
    exact ⟨by first | rfl | (simp; done) | (simp [*]; done), by repeat (first | exact Drawn0.refl _ | apply Drawn0.step)⟩
  · rw [if_neg c2] at H
    have c2b0 : decide (65 ≤ a0) = false := decide_eq_false c2
    clear c2
    obtain rfl := Option.some.inj H
    go_enter Tryd.func50, Tryd.ntmps50
    go_wp2
    go_ret
    exact ⟨by first | rfl | (simp; done) | (simp [*]; done), by repeat (first | exact Drawn0.refl _ | apply Drawn0.step)⟩

end Go.Proofs.YtblcelelmjngfaaDoor.Px
