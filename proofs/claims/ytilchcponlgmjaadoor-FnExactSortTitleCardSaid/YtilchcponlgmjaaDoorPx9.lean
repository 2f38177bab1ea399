/- That calls of Go functions come to what the Lean functions beside them say; written by a program of this session (wip/xprint) over the printed words; no conditions. -/
import Derived.Test.YtilchcponlgmjaaDoorPx0
import Derived.Test.YtilchcponlgmjaaDoorPx5
import Derived.Test.YtilchcponlgmjaaDoorPx7
import Derived.Test.YtilchcponlgmjaaDoorPx8
namespace Go.Proofs.YtilchcponlgmjaaDoor.Px
open Go.RowKit Go.Proofs.YtilchcponlgmjaaDoorW.PrintWords Go.Proofs.YtilchcponlgmjaaDoorW.PrintLast Go.Proofs.YtilchcponlgmjaaDoorW.PrintMore
attribute [local go_sem] max2_int min2_int max_two min_two max_three min_three max_four min_four   -- for this text's walks alone
set_option linter.unusedVariables false
set_option linter.unusedSimpArgs false

/-! ### impl_IsValidTitle: function 22 -/
def impl_IsValidTitle.f (k : Nat) (a0 : ByteArray) : Option (Bool) := (impl_inside.f (a0.size : Int) 1 100).bind fun t172 => (if t172 = true then ((impl_isPrintable.f k a0).bind fun t173 => (if t173 = true then ((strings_Contains.f a0 (⟨#[32, 32]⟩ : ByteArray)).bind fun t174 => (if t174 = true then (some false) else ((impl_protected.f k a0).bind fun bt175 => (some bt175.2)))) else (some false))) else (some false))
theorem impl_IsValidTitle.mono : ∀ a0 k, LeO (impl_IsValidTitle.f k a0) (impl_IsValidTitle.f (k + 1) a0) := by
  intro a0 k
  unfold impl_IsValidTitle.f
  repeat' first
      | (with_reducible exact impl_isPrintable.mono _ _)
      | (with_reducible exact impl_protected.mono _ _)
      | (with_reducible exact LeO.refl _)
      | (with_reducible exact LeO.none _)
      | (with_reducible refine LeO.ite ?_ ?_)
      | (with_reducible refine LeO.bind ?_ (fun _ => ?_))
      | exact impl_isPrintable.mono _ _
      | exact impl_protected.mono _ _
      | exact LeO.none _
      | refine LeO.ite ?_ ?_
      | refine LeO.bind ?_ (fun _ => ?_)
set_option maxHeartbeats 8000000 in
set_option maxRecDepth 100000 in
theorem impl_IsValidTitle.calls (k : Nat) (a0 : ByteArray) (r : Bool) (w : World) (henv : Go.Proofs.YtilchcponlgmjaaDoorW.Envs.Env [0] w) (h : impl_IsValidTitle.f k a0 = some r) :
    Calls Tryd.prog 22 #[.string a0] w fun e w' => e = .returned (.bool r) ∧ Below w.heap.size w w' := by
  have HB := Aside0.mk (Below.refl w.heap.size w)
  have HENV := Aside0.mk henv
  clear henv
  have H : ((impl_inside.f (a0.size : Int) 1 100).bind fun t172 => (if t172 = true then ((impl_isPrintable.f k a0).bind fun t173 => (if t173 = true then ((strings_Contains.f a0 (⟨#[32, 32]⟩ : ByteArray)).bind fun t174 => (if t174 = true then (some false) else ((impl_protected.f k a0).bind fun bt175 => (some bt175.2)))) else (some false))) else (some false))) = some r := h
  clear h
  replace H := Option.bind_eq_some_iff.mp H
  obtain ⟨t172, A20, H⟩ := H
  replace H : (if t172 = true then ((impl_isPrintable.f k a0).bind fun t173 => (if t173 = true then ((strings_Contains.f a0 (⟨#[32, 32]⟩ : ByteArray)).bind fun t174 => (if t174 = true then (some false) else ((impl_protected.f k a0).bind fun bt175 => (some bt175.2)))) else (some false))) else (some false)) = some r := H
  have A2 := Aside0.mk A20
  clear A20
  by_cases c3 : t172 = true
  · subst c3
    have H1 : ((impl_isPrintable.f k a0).bind fun t173 => (if t173 = true then ((strings_Contains.f a0 (⟨#[32, 32]⟩ : ByteArray)).bind fun t174 => (if t174 = true then (some false) else ((impl_protected.f k a0).bind fun bt175 => (some bt175.2)))) else (some false))) = some r := by rw [if_pos rfl] at H; exact H
    clear H
    have H := H1
    clear H1
    replace H := Option.bind_eq_some_iff.mp H
    obtain ⟨t173, A40, H⟩ := H
    replace H : (if t173 = true then ((strings_Contains.f a0 (⟨#[32, 32]⟩ : ByteArray)).bind fun t174 => (if t174 = true then (some false) else ((impl_protected.f k a0).bind fun bt175 => (some bt175.2)))) else (some false)) = some r := H
    have A4 := Aside0.mk A40
    clear A40
    by_cases c5 : t173 = true
    · subst c5
      have H1 : ((strings_Contains.f a0 (⟨#[32, 32]⟩ : ByteArray)).bind fun t174 => (if t174 = true then (some false) else ((impl_protected.f k a0).bind fun bt175 => (some bt175.2)))) = some r := by rw [if_pos rfl] at H; exact H
      clear H
      have H := H1
      clear H1
      replace H := Option.bind_eq_some_iff.mp H
      obtain ⟨t174, A60, H⟩ := H
      replace H : (if t174 = true then (some false) else ((impl_protected.f k a0).bind fun bt175 => (some bt175.2))) = some r := H
      have A6 := Aside0.mk A60
      clear A60
      by_cases c7 : t174 = true
      · subst c7
        have H1 : (some false) = some r := by rw [if_pos rfl] at H; exact H
        clear H
        have H := H1
        clear H1
        obtain rfl := Option.some.inj H
        go_enter Tryd.func22, Tryd.ntmps22
        go_wp2_with (first | ((with_reducible refine gate_callee (f := 34) rfl ?_); refine goesL_ (some 7) rfl rfl Tryd.func34 (by kernel_rfl) rfl #[.int .i64 (a0.size : Int), .int .i64 1, .int .i64 100] rfl (by (try simp only [List.map_toArray, List.map_cons, List.map_nil]); first | done | rfl | (simp only [List.length_drop, List.length_take]; rfl)) ?_; (with_reducible refine (impl_inside.calls (a0.size : Int) 1 100 true _ A2.out).mono ?_); rintro e w' ⟨rfl, ⟨nd, rfl⟩⟩; refine ⟨_, rfl, ?_⟩) | (go_at_call 56; (with_reducible refine (impl_isPrintable.calls k a0 true _ A4.out).mono ?_); rintro e w' ⟨rfl, ⟨nd, rfl⟩⟩) | (go_at_call 57; (with_reducible refine (strings_Contains.calls a0 (⟨#[32, 32]⟩ : ByteArray) true _ ?side1 A6.out).mono ?_); (case side1 => exact Go.Proofs.YtilchcponlgmjaaDoorW.Envs.Env.below HENV.out (by repeat (first | (with_reducible first | exact HB.out | apply below_alloc | apply pw_below_drewN | apply below_drew1) | exact HB.out))); rintro e w8 ⟨rfl, hb⟩; have n0_ := Aside0.mk (below_step (by repeat (first | (with_reducible first | exact HB.out | apply below_alloc | apply pw_below_drewN | apply below_drew1) | exact HB.out)) hb); clear HB; have HB := n0_; clear n0_; (try clear hb); (try clear hb2); (try clear hk); (try clear hi)))
        go_ret
        exact ⟨by first | rfl | (simp [errW_none, errW_some] <;> rfl) | (simp [*, errW_none, errW_some] <;> rfl) | (simp [errW_none, errW_some] <;> (apply Bool.eq_iff_iff.2; simp [List.isEmpty_iff])), by repeat (first | (with_reducible first | exact HB.out | apply below_alloc | apply pw_below_drewN | apply below_drew1) | exact HB.out)⟩
      · replace c7 := Bool.eq_false_iff.mpr c7
        subst c7
        have H1 : ((impl_protected.f k a0).bind fun bt175 => (some bt175.2)) = some r := by rw [if_neg (show ¬ (false = true) by decide)] at H; exact H
        clear H
        have H := H1
        clear H1
        replace H := Option.bind_eq_some_iff.mp H
        obtain ⟨⟨t175, t176⟩, A90, H⟩ := H
        replace H : (some t176) = some r := H
        have A9 := Aside0.mk A90
        clear A90
        obtain rfl := Option.some.inj H
        go_enter Tryd.func22, Tryd.ntmps22
        go_wp2_with (first | ((with_reducible refine gate_callee (f := 34) rfl ?_); refine goesL_ (some 7) rfl rfl Tryd.func34 (by kernel_rfl) rfl #[.int .i64 (a0.size : Int), .int .i64 1, .int .i64 100] rfl (by (try simp only [List.map_toArray, List.map_cons, List.map_nil]); first | done | rfl | (simp only [List.length_drop, List.length_take]; rfl)) ?_; (with_reducible refine (impl_inside.calls (a0.size : Int) 1 100 true _ A2.out).mono ?_); rintro e w' ⟨rfl, ⟨nd, rfl⟩⟩; refine ⟨_, rfl, ?_⟩) | (go_at_call 56; (with_reducible refine (impl_isPrintable.calls k a0 true _ A4.out).mono ?_); rintro e w' ⟨rfl, ⟨nd, rfl⟩⟩) | (go_at_call 57; (with_reducible refine (strings_Contains.calls a0 (⟨#[32, 32]⟩ : ByteArray) false _ ?side1 A6.out).mono ?_); (case side1 => exact Go.Proofs.YtilchcponlgmjaaDoorW.Envs.Env.below HENV.out (by repeat (first | (with_reducible first | exact HB.out | apply below_alloc | apply pw_below_drewN | apply below_drew1) | exact HB.out))); rintro e w10 ⟨rfl, hb⟩; have n0_ := Aside0.mk (below_step (by repeat (first | (with_reducible first | exact HB.out | apply below_alloc | apply pw_below_drewN | apply below_drew1) | exact HB.out)) hb); clear HB; have HB := n0_; clear n0_; (try clear hb); (try clear hb2); (try clear hk); (try clear hi)) | ((with_reducible refine gate_callee (f := 58) rfl ?_); refine goesL_ (some 20) rfl rfl Tryd.func58 (by kernel_rfl) rfl #[.string a0] rfl (by (try simp only [List.map_toArray, List.map_cons, List.map_nil]); first | done | rfl | (simp only [List.length_drop, List.length_take]; rfl)) ?_; (with_reducible refine (impl_protected.calls k a0 t175 t176 _ A9.out).mono ?_); rintro e w11 ⟨v177, rfl, ho0, hb⟩; refine ⟨_, rfl, ?_⟩; have n0_ := Aside0.mk (Kd.R_lower ho0 (below_size (by repeat (first | (with_reducible first | exact HB.out | apply below_alloc | apply pw_below_drewN | apply below_drew1) | exact HB.out)))); have n1_ := Aside0.mk (below_step (by repeat (first | (with_reducible first | exact HB.out | apply below_alloc | apply pw_below_drewN | apply below_drew1) | exact HB.out)) hb); clear HB; have HO178 := n0_; have HB := n1_; clear n0_ n1_; (try clear hb); (try clear hb2); (try clear hk); (try clear hi); (try clear ho0)))
        go_ret
        exact ⟨by first | rfl | (simp [errW_none, errW_some] <;> rfl) | (simp [*, errW_none, errW_some] <;> rfl) | (simp [errW_none, errW_some] <;> (apply Bool.eq_iff_iff.2; simp [List.isEmpty_iff])), by repeat (first | (with_reducible first | exact HB.out | apply below_alloc | apply pw_below_drewN | apply below_drew1) | exact HB.out)⟩
    · replace c5 := Bool.eq_false_iff.mpr c5
      subst c5
      have H1 : (some false) = some r := by rw [if_neg (show ¬ (false = true) by decide)] at H; exact H
      clear H
      have H := H1
      clear H1
      obtain rfl := Option.some.inj H
      go_enter Tryd.func22, Tryd.ntmps22
      go_wp2_with (first | ((with_reducible refine gate_callee (f := 34) rfl ?_); refine goesL_ (some 7) rfl rfl Tryd.func34 (by kernel_rfl) rfl #[.int .i64 (a0.size : Int), .int .i64 1, .int .i64 100] rfl (by (try simp only [List.map_toArray, List.map_cons, List.map_nil]); first | done | rfl | (simp only [List.length_drop, List.length_take]; rfl)) ?_; (with_reducible refine (impl_inside.calls (a0.size : Int) 1 100 true _ A2.out).mono ?_); rintro e w' ⟨rfl, ⟨nd, rfl⟩⟩; refine ⟨_, rfl, ?_⟩) | (go_at_call 56; (with_reducible refine (impl_isPrintable.calls k a0 false _ A4.out).mono ?_); rintro e w' ⟨rfl, ⟨nd, rfl⟩⟩))
      go_ret
      exact ⟨by first | rfl | (simp [errW_none, errW_some] <;> rfl) | (simp [*, errW_none, errW_some] <;> rfl) | (simp [errW_none, errW_some] <;> (apply Bool.eq_iff_iff.2; simp [List.isEmpty_iff])), by repeat (first | (with_reducible first | exact HB.out | apply below_alloc | apply pw_below_drewN | apply below_drew1) | exact HB.out)⟩
  · replace c3 := Bool.eq_false_iff.mpr c3
    subst c3
    have H1 : (some false) = some r := by rw [if_neg (show ¬ (false = true) by decide)] at H; exact H
    clear H
    have H := H1
    clear H1
    obtain rfl := Option.some.inj H
    go_enter Tryd.func22, Tryd.ntmps22
    go_wp2_with (first | ((with_reducible refine gate_callee (f := 34) rfl ?_); refine goesL_ (some 7) rfl rfl Tryd.func34 (by kernel_rfl) rfl #[.int .i64 (a0.size : Int), .int .i64 1, .int .i64 100] rfl (by (try simp only [List.map_toArray, List.map_cons, List.map_nil]); first | done | rfl | (simp only [List.length_drop, List.length_take]; rfl)) ?_; (with_reducible refine (impl_inside.calls (a0.size : Int) 1 100 false _ A2.out).mono ?_); rintro e w' ⟨rfl, ⟨nd, rfl⟩⟩; refine ⟨_, rfl, ?_⟩))
    go_ret
    exact ⟨by first | rfl | (simp [errW_none, errW_some] <;> rfl) | (simp [*, errW_none, errW_some] <;> rfl) | (simp [errW_none, errW_some] <;> (apply Bool.eq_iff_iff.2; simp [List.isEmpty_iff])), by repeat (first | (with_reducible first | exact HB.out | apply below_alloc | apply pw_below_drewN | apply below_drew1) | exact HB.out)⟩

/-! ### strings_Join: function 37 -/
theorem strings_Join.extra : Builder.Extra Tryd.prog strings_Join.lays156_ren := { sizeBuilder := by kernel_rfl, liesBuilder := by kernel_rfl, t5 := by kernel_rfl, a5 := fun w => by kernel_rfl, z5 := fun w => by kernel_rfl, v5 := fun w => by kernel_rfl, infoByte := by kernel_rfl, cellsByte := by kernel_rfl, sizeByte := by kernel_rfl, neB5 := by decide }
def strings_Join.f (l0 : List ByteArray) (a1 : ByteArray) : Option (ByteArray) := if (Lib.join (l0.map (·.data.toList)) a1.data.toList).length ≤ 140737488355328 ∧ l0.length ≤ 140737488355328 then some ⟨(Lib.join (l0.map (·.data.toList)) a1.data.toList).toArray⟩ else none
set_option maxHeartbeats 2000000 in
set_option maxRecDepth 100000 in
theorem strings_Join.calls (A0 : Option Addr) (c0 : Nat) (l0 : List ByteArray) (a1 : ByteArray) (r : ByteArray) (w : World) (hr0 : Kd.C Kd.string w A0 l0.length l0) (hc0 : l0.length ≤ c0) (h : strings_Join.f l0 a1 = some r) :
    Calls Tryd.prog 37 #[.slice A0 l0.length c0, .string a1] w fun e w' => e = .returned (.string r) ∧ Below w.heap.size w w' := by
  unfold strings_Join.f at h
  by_cases hb : (Lib.join (l0.map (·.data.toList)) a1.data.toList).length ≤ 140737488355328 ∧ l0.length ≤ 140737488355328
  · rw [if_pos hb] at h
    obtain rfl := Option.some.inj h
    cases l0 with
    | nil =>
      exact (Any.strings_Join_none strings_Join.lays156 strings_Join.extra A0 c0 a1 w).mono fun e w' ⟨he, hw⟩ => ⟨he, hw ▸ Below.refl _ _⟩
    | cons x0 xs0 =>
      obtain ⟨ad, e0, hx0⟩ := Kd.at_string hr0 0 (by omega) (by simp)
      subst e0
      have hcell : ∀ (j : Nat) x, (x0 :: xs0)[j]? = some x → w.cell? (ad.add j) = some (.string x) := fun j x hj => by
        have hlt : j < (x0 :: xs0).length := (List.getElem?_eq_some_iff.1 hj).1
        obtain ⟨ad2, e2, hx2⟩ := Kd.at_string hr0 (j : Int) (by omega) (by exact_mod_cast hlt)
        cases e2
        rw [Int.toNat_natCast] at hx2
        rw [hx2]
        have : rdOf ByteArray.empty (x0 :: xs0) (j : Int) = x := by
          unfold rdOf
          rw [Int.toNat_natCast]
          simp [List.getD, hj]
        rw [this]
      obtain ⟨bk, o, el⟩ := ad
      have hblk := World.block_lt_of_cell? w _ hx0
      cases el with
      | none =>
        exact Any.strings_Join strings_Join.lays156 strings_Join.extra bk o c0 (x0 :: xs0) a1 w (fun j x hj => by have h := hcell j x hj; have ea : (⟨bk, o, none⟩ : Addr).add j = ⟨bk, o + j, none⟩ := (by unfold Addr.add; by_cases c : j = 0; (subst c; rfl); rw [if_neg c]); rw [ea] at h; exact h) hblk hb.2 hc0 hb.1
      | some z => exact absurd (World.cell?_spot hx0) (by simp [Addr.add])
  · rw [if_neg hb] at h
    exact absurd h (by simp)

/-! ### impl_isUpper: function 74 -/
def impl_isUpper.f (a0 : Int) : Option (Bool) := if a0 ≥ 65 then (some (decide (a0 ≤ 90))) else (some false)
set_option maxHeartbeats 8000000 in
set_option maxRecDepth 100000 in
theorem impl_isUpper.calls (a0 : Int) (r : Bool) (w : World) (h : impl_isUpper.f a0 = some r) :
    Calls Tryd.prog 74 #[.int .u8 a0] w fun e w' => e = .returned (.bool r) ∧ Drawn0 w w' := by
  have H : (if a0 ≥ 65 then (some (decide (a0 ≤ 90))) else (some false)) = some r := h
  clear h
  by_cases c2 : a0 ≥ 65
  · rw [if_pos c2] at H
    have c2b0 : decide (65 ≤ a0) = true := decide_eq_true c2
    clear c2
    obtain rfl := Option.some.inj H
    go_enter Tryd.func74, Tryd.ntmps74
    go_wp2
    go_ret
    exact ⟨by first | rfl | (simp; done) | (simp [*]; done), by repeat (first | exact Drawn0.refl _ | apply Drawn0.step)⟩
  · rw [if_neg c2] at H
    have c2b0 : decide (65 ≤ a0) = false := decide_eq_false c2
    clear c2
    obtain rfl := Option.some.inj H
    go_enter Tryd.func74, Tryd.ntmps74
    go_wp2
    go_ret
    exact ⟨by first | rfl | (simp; done) | (simp [*]; done), by repeat (first | exact Drawn0.refl _ | apply Drawn0.step)⟩

/-! ### impl_lower: function 51 -/
/-- A letter in lower case. -/
def impl_lower.isU (b : Int) : Bool := decide (b ≥ 65) && decide (b ≤ 90)
def impl_lower.low (b : Int) : Int := if impl_lower.isU b = true then b + 32 else b
def impl_lower.f (a0 : ByteArray) : Option (ByteArray) := if a0.size ≤ 140737488351232 then some (strOfNums ((bytesOf a0).map impl_lower.low)) else none
theorem impl_lower.isU_eq (b : Int) : impl_isUpper.f b = some (impl_lower.isU b) := by
  unfold impl_isUpper.f impl_lower.isU
  by_cases h : b ≥ 65
  · rw [if_pos h, decide_eq_true h]; rfl
  · rw [if_neg h, decide_eq_false h]; rfl
/-- The row half way. -/
def impl_lower.half (l : List Int) (j : Nat) : List Int := (l.take j).map impl_lower.low ++ l.drop j
theorem impl_lower.half_len (l : List Int) (j : Nat) : (impl_lower.half l j).length = l.length := by simp [impl_lower.half]; omega
theorem impl_lower.half_at (l : List Int) (j : Nat) (hj : j < l.length) : (impl_lower.half l j).getD j 0 = l.getD j 0 := by
  unfold impl_lower.half
  rw [List.getD_eq_getElem?_getD, List.getElem?_append_right (by simp; omega)]
  simp [List.getD, Nat.min_eq_left (Nat.le_of_lt hj)]
theorem impl_lower.half_next (l : List Int) (j : Nat) (hj : j < l.length) (v : Int) (hv : v = impl_lower.low (l.getD j 0)) : (impl_lower.half l j).set j v = impl_lower.half l (j + 1) := by
  subst hv
  unfold impl_lower.half
  rw [List.set_append_right _ _ (by simp; omega), List.take_succ_eq_append_getElem hj, List.map_append]
  have e : j - (List.map impl_lower.low (List.take j l)).length = 0 := by simp; omega
  have hg : l.getD j 0 = l[j] := by simp [List.getD, List.getElem?_eq_getElem hj]
  rw [e, List.drop_eq_getElem_cons hj, List.set_cons_zero, hg]
  simp only [List.map_cons, List.map_nil, List.append_assoc, List.singleton_append]
theorem impl_lower.half_all (l : List Int) (n : Nat) (hn : l.length = n) : impl_lower.half l n = l.map impl_lower.low := by
  unfold impl_lower.half
  rw [List.take_of_length_le (by omega), List.drop_of_length_le (by omega), List.append_nil]
theorem impl_lower.half_same (l : List Int) (j : Nat) (hj : j < l.length) (hv : impl_lower.low (l.getD j 0) = l.getD j 0) : impl_lower.half l (j + 1) = impl_lower.half l j := by
  have h := impl_lower.half_next l j hj _ hv.symm
  rw [← h]
  apply List.ext_getElem?
  intro i
  by_cases e : j = i
  · subst e
    rw [List.getElem?_set_self (by rw [impl_lower.half_len]; exact hj)]
    have := impl_lower.half_at l j hj
    rw [List.getD_eq_getElem?_getD, List.getElem?_eq_getElem (by rw [impl_lower.half_len]; exact hj)] at this
    rw [List.getElem?_eq_getElem (by rw [impl_lower.half_len]; exact hj)]
    exact congrArg some this.symm
  · rw [List.getElem?_set_ne e]
theorem impl_lower.bytes_lt (s : ByteArray) (j : Nat) : 0 ≤ (bytesOf s).getD j 0 ∧ (bytesOf s).getD j 0 ≤ 255 := by
  have h := rd_bytesOf s (j : Int)
  unfold rd at h
  rw [Int.toNat_natCast] at h
  rw [h]
  exact bt_range s _
set_option maxHeartbeats 4000000 in
set_option maxRecDepth 100000 in
theorem impl_lower.calls (a0 : ByteArray) (r : ByteArray) (w : World) (h : impl_lower.f a0 = some r) :
    Calls Tryd.prog 51 #[.string a0] w fun e w' => e = .returned (.string r) ∧ Below w.heap.size w w' := by
  unfold impl_lower.f at h
  by_cases hs : a0.size ≤ 140737488351232
  · rw [if_pos hs] at h
    obtain rfl := Option.some.inj h
    clear h
    obtain ⟨cap, W1, hconv, hB1, hbel1⟩ := Go.Proofs.YtilchcponlgmjaaDoorW.Buf.conv_buf (P := Tryd.prog) w 9 29 5 a0 Tryd.underlying9 Tryd.underlying29 Tryd.underlying5
    have hlen := bytesOf_length a0
    have HB1 := Aside0.mk hB1
    have HBEL1 := Aside0.mk hbel1
    have HLEN := Aside0.mk hlen
    clear hB1 hbel1 hlen
    go_enter Tryd.func51, Tryd.ntmps51
    go_wp2
    clear hconv
    go_loopw [10] (fun v wr => ∃ j : Nat, j ≤ a0.size ∧ v = .int .i64 j ∧ Aside0 (Go.Proofs.YtilchcponlgmjaaDoorW.Buf.Bf wr w.heap.size 5 (impl_lower.half (bytesOf a0) j)) ∧ Aside0 (Below w.heap.size w wr)) (fun v _ => a0.size - (intOf v).toNat)
    case atStart => exact ⟨0, Nat.zero_le _, rfl, ⟨by simpa [impl_lower.half] using HB1.out⟩, HBEL1⟩
    case round =>
      obtain ⟨j, hj, rfl, HB, HBEL⟩ := hrel
      by_cases hlt : j < a0.size
      · have hjl : j < (bytesOf a0).length := by rw [HLEN.out]; exact hlt
        have hjh : j < (impl_lower.half (bytesOf a0) j).length := by rw [impl_lower.half_len]; exact hjl
        have hcell := HB.out.cell j hjh
        rw [impl_lower.half_at _ _ hjl] at hcell
        have hfroz := HB.out.frozen j hjh
        have hrng := impl_lower.bytes_lt a0 j
        have HN := Aside0.mk (impl_lower.half_next (bytesOf a0) j hjl)
        have HS := Aside0.mk (impl_lower.half_same (bytesOf a0) j hjl)
        obtain ⟨b, hbdef⟩ : ∃ b, b = (bytesOf a0).getD j 0 := ⟨_, rfl⟩
        rw [← hbdef] at hcell hrng
        have HBD := Aside0.mk hbdef
        clear hbdef hjl
        have hb0 := hrng.1
        have hb1 := hrng.2
        clear hrng
        by_cases hu : impl_lower.isU b = true
        · go_wp2_with (go_at_call 74; (with_reducible refine (impl_isUpper.calls b true _ ((impl_lower.isU_eq b).trans (by rw [hu]))).mono ?_); rintro e w' ⟨rfl, ⟨nq, rfl⟩⟩)
          have hv : (b + 97 - 65) % 256 = impl_lower.low ((bytesOf a0).getD j 0) := by
            rw [← HBD.out]
            unfold impl_lower.low
            rw [if_pos hu]
            unfold impl_lower.isU at hu
            have := of_decide_eq_true (Bool.and_eq_true_iff.1 hu).1
            have := of_decide_eq_true (Bool.and_eq_true_iff.1 hu).2
            omega
          refine ⟨⟨j + 1, by omega, by go_num, ⟨?_⟩, ⟨(pw_below_drewN HBEL.out nq).setCell (Nat.le_refl _) _⟩⟩, by simp [intOf]; omega⟩
          rw [← HN.out _ hv]
          exact (HB.out.drewN nq).set j hjh _
        · go_wp2_with (go_at_call 74; (with_reducible refine (impl_isUpper.calls b false _ ((impl_lower.isU_eq b).trans (by rw [Bool.eq_false_iff.mpr hu]))).mono ?_); rintro e w' ⟨rfl, ⟨nq, rfl⟩⟩)
          refine ⟨⟨j + 1, by omega, by go_num, ⟨?_⟩, ⟨pw_below_drewN HBEL.out nq⟩⟩, by simp [intOf]; omega⟩
          rw [HS.out (by rw [← HBD.out]; unfold impl_lower.low; rw [if_neg hu])]
          exact HB.out.drewN nq
      · obtain rfl : j = a0.size := by omega
        have hback := Go.Proofs.YtilchcponlgmjaaDoorW.Buf.conv_back (P := Tryd.prog) HB.out 29 9 a0.size cap ((impl_lower.half_len _ _).trans HLEN.out) Tryd.underlying29 Tryd.underlying9 Tryd.underlying5
        rw [impl_lower.half_all _ _ HLEN.out] at hback
        go_wp2
        go_ret
        exact ⟨rfl, HBEL.out⟩
  · rw [if_neg hs] at h
    cases h

/-! ### strings_ReplaceAll: function 88 -/
theorem strings_ReplaceAll.extra : Builder.Extra Tryd.prog strings_ReplaceAll.lays_ren := { sizeBuilder := by kernel_rfl, liesBuilder := by kernel_rfl, t5 := by kernel_rfl, a5 := fun w => by kernel_rfl, z5 := fun w => by kernel_rfl, v5 := fun w => by kernel_rfl, infoByte := by kernel_rfl, cellsByte := by kernel_rfl, sizeByte := by kernel_rfl, neB5 := by decide }
def strings_ReplaceAll.f (a0 : ByteArray) (a1 : ByteArray) (a2 : ByteArray) : Option (ByteArray) := if a0.size < 4294967281 then (if 1 ≤ a1.size then (if a0.size + Lib.countB a0 a1 * a2.size ≤ 140737488355328 then some ⟨(Lib.replaceAll a0.data.toList a1.data.toList a2.data.toList).toArray⟩ else none) else none) else none
theorem strings_ReplaceAll.calls (a0 : ByteArray) (a1 : ByteArray) (a2 : ByteArray) (r : ByteArray) (w : World) (henv : Go.Proofs.YtilchcponlgmjaaDoorW.Envs.Env [0] w) (h : strings_ReplaceAll.f a0 a1 a2 = some r) :
    Calls Tryd.prog 88 #[.string a0, .string a1, .string a2] w fun e w' => e = .returned (.string r) ∧ Below w.heap.size w w' := by
  unfold strings_ReplaceAll.f at h
  by_cases h0 : a0.size < 4294967281
  · rw [if_pos h0] at h
    by_cases h1 : 1 ≤ a1.size
    · rw [if_pos h1] at h
      by_cases h2 : a0.size + Lib.countB a0 a1 * a2.size ≤ 140737488355328
      · rw [if_pos h2] at h
        obtain rfl := Option.some.inj h
        obtain ⟨m, hm⟩ := henv.int (by decide) (strings_ReplaceAll.lays.s1_3)
        exact Any.strings_ReplaceAll { strings_ReplaceAll.lays with } strings_ReplaceAll.extra a0 a1 a2 m w h0 hm h1 h2
      · rw [if_neg h2] at h
        exact absurd h (by simp)
    · rw [if_neg h1] at h
      exact absurd h (by simp)
  · rw [if_neg h0] at h
    exact absurd h (by simp)

/-! ### impl_plainTitle: function 65 -/
def impl_plainTitle.f (a0 : ByteArray) : Option (ByteArray) := (strings_ReplaceAll.f a0 (⟨#[123]⟩ : ByteArray) (⟨#[]⟩ : ByteArray)).bind fun t179 => ((strings_ReplaceAll.f t179 (⟨#[125]⟩ : ByteArray) (⟨#[]⟩ : ByteArray)).bind fun t180 => (some t180))
set_option maxHeartbeats 8000000 in
set_option maxRecDepth 100000 in
theorem impl_plainTitle.calls (a0 : ByteArray) (r : ByteArray) (w : World) (henv : Go.Proofs.YtilchcponlgmjaaDoorW.Envs.Env [0] w) (h : impl_plainTitle.f a0 = some r) :
    Calls Tryd.prog 65 #[.string a0] w fun e w' => e = .returned (.string r) ∧ Below w.heap.size w w' := by
  have HB := Aside0.mk (Below.refl w.heap.size w)
  have HENV := Aside0.mk henv
  clear henv
  have H : ((strings_ReplaceAll.f a0 (⟨#[123]⟩ : ByteArray) (⟨#[]⟩ : ByteArray)).bind fun t179 => ((strings_ReplaceAll.f t179 (⟨#[125]⟩ : ByteArray) (⟨#[]⟩ : ByteArray)).bind fun t180 => (some t180))) = some r := h
  clear h
  replace H := Option.bind_eq_some_iff.mp H
  obtain ⟨t179, A20, H⟩ := H
  replace H : ((strings_ReplaceAll.f t179 (⟨#[125]⟩ : ByteArray) (⟨#[]⟩ : ByteArray)).bind fun t180 => (some t180)) = some r := H
  have A2 := Aside0.mk A20
  clear A20
  replace H := Option.bind_eq_some_iff.mp H
  obtain ⟨t180, A30, H⟩ := H
  replace H : (some t180) = some r := H
  have A3 := Aside0.mk A30
  clear A30
  obtain rfl := Option.some.inj H
  go_enter Tryd.func65, Tryd.ntmps65
  go_wp2_with (first | ((with_reducible refine gate_callee (f := 88) rfl ?_); refine goesL_ (some 4) rfl rfl Tryd.func88 (by kernel_rfl) rfl #[.string a0, .string (⟨#[123]⟩ : ByteArray), .string (⟨#[]⟩ : ByteArray)] rfl (by (try simp only [List.map_toArray, List.map_cons, List.map_nil]); first | done | rfl | (simp only [List.length_drop, List.length_take]; rfl)) ?_; (with_reducible refine (strings_ReplaceAll.calls a0 (⟨#[123]⟩ : ByteArray) (⟨#[]⟩ : ByteArray) t179 _ ?side1 A2.out).mono ?_); (case side1 => exact Go.Proofs.YtilchcponlgmjaaDoorW.Envs.Env.below HENV.out (by repeat (first | (with_reducible first | exact HB.out | apply below_alloc | apply pw_below_drewN | apply below_drew1) | exact HB.out))); rintro e w4 ⟨rfl, hb⟩; refine ⟨_, rfl, ?_⟩; have n0_ := Aside0.mk (below_step (by repeat (first | (with_reducible first | exact HB.out | apply below_alloc | apply pw_below_drewN | apply below_drew1) | exact HB.out)) hb); clear HB; have HB := n0_; clear n0_; (try clear hb); (try clear hb2); (try clear hk); (try clear hi)) | ((with_reducible refine gate_callee (f := 88) rfl ?_); refine goesL_ (some 5) rfl rfl Tryd.func88 (by kernel_rfl) rfl #[.string t179, .string (⟨#[125]⟩ : ByteArray), .string (⟨#[]⟩ : ByteArray)] rfl (by (try simp only [List.map_toArray, List.map_cons, List.map_nil]); first | done | rfl | (simp only [List.length_drop, List.length_take]; rfl)) ?_; (with_reducible refine (strings_ReplaceAll.calls t179 (⟨#[125]⟩ : ByteArray) (⟨#[]⟩ : ByteArray) t180 _ ?side1 A3.out).mono ?_); (case side1 => exact Go.Proofs.YtilchcponlgmjaaDoorW.Envs.Env.below HENV.out (by repeat (first | (with_reducible first | exact HB.out | apply below_alloc | apply pw_below_drewN | apply below_drew1) | exact HB.out))); rintro e w5 ⟨rfl, hb⟩; refine ⟨_, rfl, ?_⟩; have n0_ := Aside0.mk (below_step (by repeat (first | (with_reducible first | exact HB.out | apply below_alloc | apply pw_below_drewN | apply below_drew1) | exact HB.out)) hb); clear HB; have HB := n0_; clear n0_; (try clear hb); (try clear hb2); (try clear hk); (try clear hi)))
  go_ret
  exact ⟨by first | rfl | (simp [errW_none, errW_some] <;> rfl) | (simp [*, errW_none, errW_some] <;> rfl) | (simp [errW_none, errW_some] <;> (apply Bool.eq_iff_iff.2; simp [List.isEmpty_iff])), by repeat (first | (with_reducible first | exact HB.out | apply below_alloc | apply pw_below_drewN | apply below_drew1) | exact HB.out)⟩

/-! ### impl_isLower: function 79 -/
def impl_isLower.f (a0 : Int) : Option (Bool) := if a0 ≥ 97 then (some (decide (a0 ≤ 122))) else (some false)
set_option maxHeartbeats 8000000 in
set_option maxRecDepth 100000 in
theorem impl_isLower.calls (a0 : Int) (r : Bool) (w : World) (h : impl_isLower.f a0 = some r) :
    Calls Tryd.prog 79 #[.int .u8 a0] w fun e w' => e = .returned (.bool r) ∧ Drawn0 w w' := by
  have H : (if a0 ≥ 97 then (some (decide (a0 ≤ 122))) else (some false)) = some r := h
  clear h
  by_cases c2 : a0 ≥ 97
  · rw [if_pos c2] at H
    have c2b0 : decide (97 ≤ a0) = true := decide_eq_true c2
    clear c2
    obtain rfl := Option.some.inj H
    go_enter Tryd.func79, Tryd.ntmps79
    go_wp2
    go_ret
    exact ⟨by first | rfl | (simp; done) | (simp [*]; done), by repeat (first | exact Drawn0.refl _ | apply Drawn0.step)⟩
  · rw [if_neg c2] at H
    have c2b0 : decide (97 ≤ a0) = false := decide_eq_false c2
    clear c2
    obtain rfl := Option.some.inj H
    go_enter Tryd.func79, Tryd.ntmps79
    go_wp2
    go_ret
    exact ⟨by first | rfl | (simp; done) | (simp [*]; done), by repeat (first | exact Drawn0.refl _ | apply Drawn0.step)⟩

/-! ### impl_isDigit: function 80 -/
def impl_isDigit.f (a0 : Int) : Option (Bool) := if a0 ≥ 48 then (some (decide (a0 ≤ 57))) else (some false)
set_option maxHeartbeats 8000000 in
set_option maxRecDepth 100000 in
theorem impl_isDigit.calls (a0 : Int) (r : Bool) (w : World) (h : impl_isDigit.f a0 = some r) :
    Calls Tryd.prog 80 #[.int .u8 a0] w fun e w' => e = .returned (.bool r) ∧ Drawn0 w w' := by
  have H : (if a0 ≥ 48 then (some (decide (a0 ≤ 57))) else (some false)) = some r := h
  clear h
  by_cases c2 : a0 ≥ 48
  · rw [if_pos c2] at H
    have c2b0 : decide (48 ≤ a0) = true := decide_eq_true c2
    clear c2
    obtain rfl := Option.some.inj H
    go_enter Tryd.func80, Tryd.ntmps80
    go_wp2
    go_ret
    exact ⟨by first | rfl | (simp; done) | (simp [*]; done), by repeat (first | exact Drawn0.refl _ | apply Drawn0.step)⟩
  · rw [if_neg c2] at H
    have c2b0 : decide (48 ≤ a0) = false := decide_eq_false c2
    clear c2
    obtain rfl := Option.some.inj H
    go_enter Tryd.func80, Tryd.ntmps80
    go_wp2
    go_ret
    exact ⟨by first | rfl | (simp; done) | (simp [*]; done), by repeat (first | exact Drawn0.refl _ | apply Drawn0.step)⟩

/-! ### impl_sortTitle_1: function 83 -/
def impl_sortTitle_1.f (a0 : ByteArray) : Option (Bool) := some (a0.toList == ([] : List UInt8))
set_option maxHeartbeats 8000000 in
set_option maxRecDepth 100000 in
theorem impl_sortTitle_1.calls (a0 : ByteArray) (r : Bool) (w : World) (h : impl_sortTitle_1.f a0 = some r) :
    Calls Tryd.prog 83 #[.string a0] w fun e w' => e = .returned (.bool r) ∧ Drawn0 w w' := by
  have H : (some (a0.toList == ([] : List UInt8))) = some r := h
  clear h
  obtain rfl := Option.some.inj H
  go_enter Tryd.func83, Tryd.ntmps83
  go_wp2
  go_ret
  exact ⟨by first | rfl | (simp; done) | (simp [*]; done), by repeat (first | exact Drawn0.refl _ | apply Drawn0.step)⟩

end Go.Proofs.YtilchcponlgmjaaDoor.Px
