/- That calls of Go functions come to what the Lean functions beside them say; written by a program of this session (wip/xprint) over the printed words; no conditions. -/
import Derived.Test.YtblcelelmjngfaaDoorPx0
import Derived.Test.YtblcelelmjngfaaDoorPx5
import Derived.Test.YtblcelelmjngfaaDoorPx11
namespace Go.Proofs.YtblcelelmjngfaaDoor.Px
open Go.RowKit Go.Proofs.YtblcelelmjngfaaDoorW.PrintWords Go.Proofs.YtblcelelmjngfaaDoorW.PrintLast Go.Proofs.YtblcelelmjngfaaDoorW.PrintMore
attribute [local go_sem] max2_int min2_int max_two min_two max_three min_three max_four min_four   -- for this text's walks alone
set_option linter.unusedVariables false
set_option linter.unusedSimpArgs false

/-! ### impl_lower: function 39 -/
/-- A letter in lower case. -/
def impl_lower.isU (b : Int) : Bool := decide (b ≥ 65) && decide (b ≤ 90)
def impl_lower.low (b : Int) : Int := if impl_lower.isU b = true then b + 32 else b
def impl_lower.f (a0 : ByteArray) : Option (ByteArray) := if a0.size ≤ 140737488351232 then some (strOfNums ((bytesOf a0).map impl_lower.low)) else none
theorem impl_lower.isU_eq (b : Int) : impl_isUpper.f b = some (impl_lower.isU b) := by
  unfold impl_isUpper.f impl_lower.isU
  by_cases h : b ≥ 65
  · rw [if_pos h, decide_eq_true h]; rfl
  · rw [if_neg h, decide_eq_false h]; rfl
/-- The row half way. -/
def impl_lower.half (l : List Int) (j : Nat) : List Int := (l.take j).map impl_lower.low ++ l.drop j
theorem impl_lower.half_len (l : List Int) (j : Nat) : (impl_lower.half l j).length = l.length := by simp [impl_lower.half]; omega
theorem impl_lower.half_at (l : List Int) (j : Nat) (hj : j < l.length) : (impl_lower.half l j).getD j 0 = l.getD j 0 := by
  unfold impl_lower.half
  rw [List.getD_eq_getElem?_getD, List.getElem?_append_right (by simp; omega)]
  simp [List.getD, Nat.min_eq_left (Nat.le_of_lt hj)]
theorem impl_lower.half_next (l : List Int) (j : Nat) (hj : j < l.length) (v : Int) (hv : v = impl_lower.low (l.getD j 0)) : (impl_lower.half l j).set j v = impl_lower.half l (j + 1) := by
  subst hv
  unfold impl_lower.half
  rw [List.set_append_right _ _ (by simp; omega), List.take_succ_eq_append_getElem hj, List.map_append]
  have e : j - (List.map impl_lower.low (List.take j l)).length = 0 := by simp; omega
  have hg : l.getD j 0 = l[j] := by simp [List.getD, List.getElem?_eq_getElem hj]
  rw [e, List.drop_eq_getElem_cons hj, List.set_cons_zero, hg]
  simp only [List.map_cons, List.map_nil, List.append_assoc, List.singleton_append]
theorem impl_lower.half_all (l : List Int) (n : Nat) (hn : l.length = n) : impl_lower.half l n = l.map impl_lower.low := by
  unfold impl_lower.half
  rw [List.take_of_length_le (by omega), List.drop_of_length_le (by omega), List.append_nil]
theorem impl_lower.half_same (l : List Int) (j : Nat) (hj : j < l.length) (hv : impl_lower.low (l.getD j 0) = l.getD j 0) : impl_lower.half l (j + 1) = impl_lower.half l j := by
  have h := impl_lower.half_next l j hj _ hv.symm
  rw [← h]
  apply List.ext_getElem?
  intro i
  by_cases e : j = i
  · subst e
    rw [List.getElem?_set_self (by rw [impl_lower.half_len]; exact hj)]
    have := impl_lower.half_at l j hj
    rw [List.getD_eq_getElem?_getD, List.getElem?_eq_getElem (by rw [impl_lower.half_len]; exact hj)] at this
    rw [List.getElem?_eq_getElem (by rw [impl_lower.half_len]; exact hj)]
    exact congrArg some this.symm
  · rw [List.getElem?_set_ne e]
theorem impl_lower.bytes_lt (s : ByteArray) (j : Nat) : 0 ≤ (bytesOf s).getD j 0 ∧ (bytesOf s).getD j 0 ≤ 255 := by
  have h := rd_bytesOf s (j : Int)
  unfold rd at h
  rw [Int.toNat_natCast] at h
  rw [h]
  exact bt_range s _
set_option maxHeartbeats 4000000 in
set_option maxRecDepth 100000 in
theorem impl_lower.calls (a0 : ByteArray) (r : ByteArray) (w : World) (h : impl_lower.f a0 = some r) :
    Calls Tryd.prog 39 #[.string a0] w fun e w' => e = .returned (.string r) ∧ Below w.heap.size w w' := by
  unfold impl_lower.f at h
  by_cases hs : a0.size ≤ 140737488351232
  · rw [if_pos hs] at h
    obtain rfl := Option.some.inj h
    clear h
    obtain ⟨cap, W1, hconv, hB1, hbel1⟩ := Go.Proofs.YtblcelelmjngfaaDoorW.Buf.conv_buf (P := Tryd.prog) w 9 25 5 a0 Tryd.underlying9 Tryd.underlying25 Tryd.underlying5
    have hlen := bytesOf_length a0
    have HB1 := Aside0.mk hB1
    have HBEL1 := Aside0.mk hbel1
    have HLEN := Aside0.mk hlen
    clear hB1 hbel1 hlen
    go_enter Tryd.func39, Tryd.ntmps39
    go_wp2
    clear hconv
    go_loopw [10] (fun v wr => ∃ j : Nat, j ≤ a0.size ∧ v = .int .i64 j ∧ Aside0 (Go.Proofs.YtblcelelmjngfaaDoorW.Buf.Bf wr w.heap.size 5 (impl_lower.half (bytesOf a0) j)) ∧ Aside0 (Below w.heap.size w wr)) (fun v _ => a0.size - (intOf v).toNat)
    case atStart => exact ⟨0, Nat.zero_le _, rfl, ⟨by simpa [impl_lower.half] using HB1.out⟩, HBEL1⟩
    case round =>
      obtain ⟨j, hj, rfl, HB, HBEL⟩ := hrel
      by_cases hlt : j < a0.size
      · have hjl : j < (bytesOf a0).length := by rw [HLEN.out]; exact hlt
        have hjh : j < (impl_lower.half (bytesOf a0) j).length := by rw [impl_lower.half_len]; exact hjl
        have hcell := HB.out.cell j hjh
        rw [impl_lower.half_at _ _ hjl] at hcell
        have hfroz := HB.out.frozen j hjh
        have hrng := impl_lower.bytes_lt a0 j
        have HN := Aside0.mk (impl_lower.half_next (bytesOf a0) j hjl)
        have HS := Aside0.mk (impl_lower.half_same (bytesOf a0) j hjl)
        obtain ⟨b, hbdef⟩ : ∃ b, b = (bytesOf a0).getD j 0 := ⟨_, rfl⟩
        rw [← hbdef] at hcell hrng
        have HBD := Aside0.mk hbdef
        clear hbdef hjl
        have hb0 := hrng.1
        have hb1 := hrng.2
        clear hrng
        by_cases hu : impl_lower.isU b = true
        · go_wp2_with (go_at_call 50; (with_reducible refine (impl_isUpper.calls b true _ ((impl_lower.isU_eq b).trans (by rw [hu]))).mono ?_); rintro e w' ⟨rfl, ⟨nq, rfl⟩⟩)
          have hv : (b + 97 - 65) % 256 = impl_lower.low ((bytesOf a0).getD j 0) := by
            rw [← HBD.out]
            unfold impl_lower.low
            rw [if_pos hu]
            unfold impl_lower.isU at hu
            have := of_decide_eq_true (Bool.and_eq_true_iff.1 hu).1
            have := of_decide_eq_true (Bool.and_eq_true_iff.1 hu).2
            omega
          refine ⟨⟨j + 1, by omega, by go_num, ⟨?_⟩, ⟨(pw_below_drewN HBEL.out nq).setCell (Nat.le_refl _) _⟩⟩, by simp [intOf]; omega⟩
          rw [← HN.out _ hv]
          exact (HB.out.drewN nq).set j hjh _
        · go_wp2_with (go_at_call 50; (with_reducible refine (impl_isUpper.calls b false _ ((impl_lower.isU_eq b).trans (by rw [Bool.eq_false_iff.mpr hu]))).mono ?_); rintro e w' ⟨rfl, ⟨nq, rfl⟩⟩)
          refine ⟨⟨j + 1, by omega, by go_num, ⟨?_⟩, ⟨pw_below_drewN HBEL.out nq⟩⟩, by simp [intOf]; omega⟩
          rw [HS.out (by rw [← HBD.out]; unfold impl_lower.low; rw [if_neg hu])]
          exact HB.out.drewN nq
      · obtain rfl : j = a0.size := by omega
        have hback := Go.Proofs.YtblcelelmjngfaaDoorW.Buf.conv_back (P := Tryd.prog) HB.out 25 9 a0.size cap ((impl_lower.half_len _ _).trans HLEN.out) Tryd.underlying25 Tryd.underlying9 Tryd.underlying5
        rw [impl_lower.half_all _ _ HLEN.out] at hback
        go_wp2
        go_ret
        exact ⟨rfl, HBEL.out⟩
  · rw [if_neg hs] at h
    cases h

/-! ### impl_isLower: function 40 -/
def impl_isLower.f (a0 : Int) : Option (Bool) := if a0 ≥ 97 then (some (decide (a0 ≤ 122))) else (some false)
set_option maxHeartbeats 8000000 in
set_option maxRecDepth 100000 in
theorem impl_isLower.calls (a0 : Int) (r : Bool) (w : World) (h : impl_isLower.f a0 = some r) :
    Calls Tryd.prog 40 #[.int .u8 a0] w fun e w' => e = .returned (.bool r) ∧ Drawn0 w w' := by
  have H : (if a0 ≥ 97 then (some (decide (a0 ≤ 122))) else (some false)) = some r := h
  clear h
  by_cases c2 : a0 ≥ 97
  · rw [if_pos c2] at H
    have c2b0 : decide (97 ≤ a0) = true := decide_eq_true c2
    clear c2
    obtain rfl := Option.some.inj H
    go_enter Tryd.func40, Tryd.ntmps40
    go_wp2
    go_ret
    exact ⟨by first | rfl | (simp; done) | (simp [*]; done), by repeat (first | exact Drawn0.refl _ | apply Drawn0.step)⟩
  · rw [if_neg c2] at H
    have c2b0 : decide (97 ≤ a0) = false := decide_eq_false c2
    clear c2
    obtain rfl := Option.some.inj H
    go_enter Tryd.func40, Tryd.ntmps40
    go_wp2
    go_ret
    exact ⟨by first | rfl | (simp; done) | (simp [*]; done), by repeat (first | exact Drawn0.refl _ | apply Drawn0.step)⟩

/-! ### impl_foldText: function 24 -/
def impl_foldText.isL (b : Int) : Bool := decide (b ≥ 97) && decide (b ≤ 122)
def impl_foldText.isD (b : Int) : Bool := decide (b ≥ 48) && decide (b ≤ 57)
theorem impl_foldText.isL_eq (b : Int) : impl_isLower.f b = some (impl_foldText.isL b) := by
  unfold impl_isLower.f impl_foldText.isL
  by_cases h : b ≥ 97
  · rw [if_pos h, decide_eq_true h]; rfl
  · rw [if_neg h, decide_eq_false h]; rfl
theorem impl_foldText.isD_eq (b : Int) : impl_isDigit.f b = some (impl_foldText.isD b) := by
  unfold impl_isDigit.f impl_foldText.isD
  by_cases h : b ≥ 48
  · rw [if_pos h, decide_eq_true h]; rfl
  · rw [if_neg h, decide_eq_false h]; rfl
/-- The folded form, byte by byte. -/
def impl_foldText.fold : List Int → Bool → List Int → List Int
  | out, _, [] => out
  | out, gap, b :: l => if (impl_foldText.isL b || impl_foldText.isD b) = true then impl_foldText.fold ((if (gap && decide (0 < out.length)) = true then out ++ [32] else out) ++ [b]) false l else impl_foldText.fold out (gap || b == 32) l
def impl_foldText.f (a0 : ByteArray) : Option (ByteArray) := (impl_lower.f a0).bind fun t => if t.size ≤ 1099511627776 then some (strOfNums (impl_foldText.fold [] false (bytesOf t))) else none
theorem impl_foldText.drop_at (l : List Int) (j : Nat) (hj : j < l.length) : l.drop j = l.getD j 0 :: l.drop (j + 1) := by
  rw [List.drop_eq_getElem_cons hj]
  simp [List.getD, List.getElem?_eq_getElem hj]
theorem impl_foldText.skip (out : List Int) (gap : Bool) (b : Int) (l : List Int) (h : (impl_foldText.isL b || impl_foldText.isD b) = false) : impl_foldText.fold out gap (b :: l) = impl_foldText.fold out (gap || b == 32) l := by
  rw [impl_foldText.fold, h, if_neg (by decide)]
theorem impl_foldText.take1 (out : List Int) (gap : Bool) (b : Int) (l : List Int) (h : (impl_foldText.isL b || impl_foldText.isD b) = true) (hg : (gap && decide (0 < out.length)) = true) : impl_foldText.fold out gap (b :: l) = impl_foldText.fold (out ++ [32] ++ [b]) false l := by
  rw [impl_foldText.fold, if_pos h, if_pos hg]
theorem impl_foldText.take0 (out : List Int) (gap : Bool) (b : Int) (l : List Int) (h : (impl_foldText.isL b || impl_foldText.isD b) = true) (hg : (gap && decide (0 < out.length)) = false) : impl_foldText.fold out gap (b :: l) = impl_foldText.fold (out ++ [b]) false l := by
  rw [impl_foldText.fold, if_pos h, hg, if_neg (by decide)]
set_option maxHeartbeats 8000000 in
set_option maxRecDepth 100000 in
theorem impl_foldText.calls (a0 : ByteArray) (r : ByteArray) (w : World) (h : impl_foldText.f a0 = some r) :
    Calls Tryd.prog 24 #[.string a0] w fun e w' => e = .returned (.string r) ∧ Below w.heap.size w w' := by
  unfold impl_foldText.f at h
  obtain ⟨t, ht, h⟩ := Option.bind_eq_some_iff.1 h
  by_cases hs : t.size ≤ 1099511627776
  · rw [if_pos hs] at h
    obtain rfl := Option.some.inj h
    clear h
    have HT := Aside0.mk ht
    clear ht
    have hconv : ∀ W : World, (convert 9 25 (.string t)).run Tryd.prog W = .ok (.slice (some ⟨W.heap.size, 0, none⟩) t.size (grownCap W t.size 0 5)) (Lib.bytesWorld W 5 t) := fun W => Lib.run_convert_string_bytes W _ _ _ t Tryd.underlying9 Tryd.underlying25 Tryd.underlying5
    have hlen := bytesOf_length t
    have HLEN := Aside0.mk hlen
    clear hlen
    obtain ⟨F, hF⟩ : ∃ F, F = impl_foldText.fold [] false (bytesOf t) := ⟨_, rfl⟩
    rw [← hF]
    have HF := Aside0.mk hF
    clear hF
    go_enter Tryd.func24, Tryd.ntmps24
    go_wp2_with (first | ((with_reducible refine gate_dst (N := 7) rfl ?_); refine Kd.R_lit (Kd.int .u8) _ 5 ?hg (N := 7) ?hd (xs := ([] : List Int)) (inner := []) (ok := fun _ => True) (okp := fun _ => True) ?hr ?hp (fun _ hk => hk) trivial (Below.refl _ _) (Nat.le_refl _) (by simp) ?_; (case hd => rfl); (case hg => rfl); (case hr => first | (go_simp; done) | (go_simp; rfl)); (case hp => exact (Reps.none _ _)); intro v0 w3 ho3 hb3 hg_ hnew_; have HO3 := Aside0.mk ho3; have HB3 := Aside0.mk hb3; clear ho3 hb3 hg_ hnew_) | (go_at_call 39; (with_reducible refine (impl_lower.calls a0 t _ HT.out).mono ?_); rintro e w5 ⟨rfl, hb5⟩; have HB5 := Aside0.mk hb5; clear hb5))
    clear hconv
    have hsz5 : w3.heap.size ≤ w5.heap.size := HB5.out.size
    have hb6 : Below w.heap.size w (Lib.bytesWorld w5 5 t) := below_then (below_then HB3.out HB3.out.size HB5.out) (by have := HB3.out.size; omega) (Go.Proofs.YtblcelelmjngfaaDoorW.Buf.below_buf w5 5 t)
    have ho6 : Kd.R (Kd.int .u8) 5 (Lib.bytesWorld w5 5 t) w.heap.size (fun k => k ≠ w5.heap.size) v0 [] := Kd.R_below (Kd.R_below (Kd.R_mono (Kd.R_bound HO3.out) (fun k hk => by have := hk.2.2.1; omega)) HB5.out) (Go.Proofs.YtblcelelmjngfaaDoorW.Buf.below_buf w5 5 t)
    have hf6 := Go.Proofs.YtblcelelmjngfaaDoorW.Buf.buf_new w5 5 t
    have HB6 := Aside0.mk hb6
    have HO6 := Aside0.mk ho6
    have HF6 := Aside0.mk hf6
    clear hb6 ho6 hf6
    go_loopw [3, 4, 12] (fun v3 v4 v12 wr => ∃ (j : Nat) (out : List Int) (gap : Bool), j ≤ t.size ∧ v4 = .bool gap ∧ v12 = .int .i64 j ∧ Aside0 (impl_foldText.fold out gap ((bytesOf t).drop j) = F) ∧ Aside0 (out.length ≤ 2 * j) ∧ Aside0 (Kd.R (Kd.int .u8) 5 wr w.heap.size (fun k => k ≠ w5.heap.size) v3 out) ∧ Aside0 (Go.Proofs.YtblcelelmjngfaaDoorW.Buf.Bf wr w5.heap.size 5 (bytesOf t)) ∧ Aside0 (Below w.heap.size w wr)) (fun _ _ v _ => t.size - (intOf v).toNat)
    case atStart => exact ⟨0, [], false, Nat.zero_le _, rfl, rfl, ⟨HF.out.symm⟩, ⟨by simp⟩, HO6, HF6, HB6⟩
    case round =>
      obtain ⟨j, out, gap, hj, rfl, rfl, HFO, HLO, HO, HF5, HB⟩ := hrel
      obtain ⟨A3, c3, hv3⟩ := own_slice (Kd.own_of_R HO.out)
      subst hv3
      by_cases hlt : j < t.size
      · have hjl : j < (bytesOf t).length := by rw [HLEN.out]; exact hlt
        have hcell := Go.Proofs.YtblcelelmjngfaaDoorW.Buf.Bf.cell HF5.out j hjl
        have hrng : 0 ≤ (bytesOf t).getD j 0 ∧ (bytesOf t).getD j 0 ≤ 255 := by
          have h := rd_bytesOf t (j : Int)
          unfold rd at h
          rw [Int.toNat_natCast] at h
          rw [h]
          exact bt_range t _
        have hdr := impl_foldText.drop_at (bytesOf t) j hjl
        have hfo := HFO.out
        rw [hdr] at hfo
        clear hdr HFO
        obtain ⟨b, hbdef⟩ : ∃ b, b = (bytesOf t).getD j 0 := ⟨_, rfl⟩
        rw [← hbdef] at hcell hrng hfo
        have HFO := Aside0.mk hfo
        clear hbdef hjl hfo
        have hb0 := hrng.1
        have hb1 := hrng.2
        clear hrng
        have hlo := HLO.out
        cases hL : impl_foldText.isL b with
        | true =>
          cases gap with
          | false =>
            have hfold := impl_foldText.take0 out false b ((bytesOf t).drop (j + 1)) (by rw [hL]; rfl) rfl
            go_wp2_with (first | (go_at_call 40; (with_reducible refine (impl_isLower.calls b true _ ((impl_foldText.isL_eq b).trans (by rw [hL]))).mono ?_); rintro e w' ⟨rfl, ⟨nq, rfl⟩⟩) | ((with_reducible refine gate_builtin (b := .append) (xs := #[.tmp 38, .tmp 40]) rfl ?_); at_builtin; refine Kd.R_append (Kd.int .u8) (w0 := w) w.heap.size rfl (.tmp 38) (.tmp 40) 25 5 (.int .u8 0) 1 rfl Tryd.underlying25 info5 rfl (by decide) (by omega) (.slice A3 out.length c3) out b [.int .u8 b] (fun k => k ≠ w5.heap.size) (fun _ => False) rfl rfl ?aP (fun _ hk => hk.elim) ?aF ?aO ?aB ?aS ?aL ?_; (case aP => exact rfl); (case aB => exact (by repeat (first | (with_reducible first | exact HB.out | apply below_alloc | apply pw_below_drewN | apply below_drew1) | exact HB.out))); (case aF => exact (fun k hk => Nat.ne_of_gt (Nat.lt_of_lt_of_le (Go.Proofs.YtblcelelmjngfaaDoorW.Buf.Bf.lt HF5.out) (by simpa using hk)))); (case aO => exact (by (with_reducible repeat (first | apply Kd.R_alloc | apply Kd.R_drewN | apply Kd.R_drew)); exact HO.out)); (case aS => exact (below_size (by repeat (first | (with_reducible first | exact HB.out | apply below_alloc | apply pw_below_drewN | apply below_drew1) | exact HB.out)))); (case aL => have := hlo; omega); intro v8 w8 ho hb hg hat; have n0_ := Aside0.mk hb; have n1_ := Aside0.mk ho; have n2_ := Aside0.mk (Go.Proofs.YtblcelelmjngfaaDoorW.Buf.Bf.grown (by first | exact HF5.out | (repeat (first | exact HF5.out | apply Go.Proofs.YtblcelelmjngfaaDoorW.Buf.Bf.alloc | apply Go.Proofs.YtblcelelmjngfaaDoorW.Buf.Bf.drewN | apply Go.Proofs.YtblcelelmjngfaaDoorW.Buf.Bf.drew))) hg (fun e => (HO.out.1 w5.heap.size e.symm) rfl)); clear HB HF5; have HB := n0_; have HOv8 := n1_; have HF5 := n2_; clear n0_ n1_ n2_ ho hb hg hat))
            refine ⟨⟨j + 1, out ++ [b], false, by omega, by first | rfl | (simp; done) | (simp [*]; done), by go_num, ⟨by rw [← hfold]; exact HFO.out⟩, ⟨by rw [List.length_append]; simp; omega⟩, ⟨by (with_reducible repeat (first | apply Kd.R_alloc | apply Kd.R_drewN | apply Kd.R_drew)); exact HOv8.out⟩, ⟨by repeat (first | exact HF5.out | apply Go.Proofs.YtblcelelmjngfaaDoorW.Buf.Bf.alloc | apply Go.Proofs.YtblcelelmjngfaaDoorW.Buf.Bf.drewN | apply Go.Proofs.YtblcelelmjngfaaDoorW.Buf.Bf.drew)⟩, ⟨by repeat (first | (with_reducible first | exact HB.out | apply below_alloc | apply pw_below_drewN | apply below_drew1) | exact HB.out)⟩⟩, by simp [intOf]; omega⟩
          | true =>
            by_cases hn : 0 < out.length
            · have hfold := impl_foldText.take1 out true b ((bytesOf t).drop (j + 1)) (by rw [hL]; rfl) (by rw [decide_eq_true hn]; rfl)
              go_wp2_with (first | (go_at_call 40; (with_reducible refine (impl_isLower.calls b true _ ((impl_foldText.isL_eq b).trans (by rw [hL]))).mono ?_); rintro e w' ⟨rfl, ⟨nq, rfl⟩⟩) | ((with_reducible refine gate_builtin (b := .append) (xs := #[.tmp 35, .tmp 36]) rfl ?_); at_builtin; refine Kd.R_append (Kd.int .u8) (w0 := w) w.heap.size rfl (.tmp 35) (.tmp 36) 25 5 (.int .u8 0) 1 rfl Tryd.underlying25 info5 rfl (by decide) (by omega) (.slice A3 out.length c3) out 32 [.int .u8 32] (fun k => k ≠ w5.heap.size) (fun _ => False) rfl rfl ?aP (fun _ hk => hk.elim) ?aF ?aO ?aB ?aS ?aL ?_; (case aP => exact rfl); (case aB => exact (by repeat (first | (with_reducible first | exact HB.out | apply below_alloc | apply pw_below_drewN | apply below_drew1) | exact HB.out))); (case aF => exact (fun k hk => Nat.ne_of_gt (Nat.lt_of_lt_of_le (Go.Proofs.YtblcelelmjngfaaDoorW.Buf.Bf.lt HF5.out) (by simpa using hk)))); (case aO => exact (by (with_reducible repeat (first | apply Kd.R_alloc | apply Kd.R_drewN | apply Kd.R_drew)); exact HO.out)); (case aS => exact (below_size (by repeat (first | (with_reducible first | exact HB.out | apply below_alloc | apply pw_below_drewN | apply below_drew1) | exact HB.out)))); (case aL => have := hlo; omega); intro v7 w7 ho hb hg hat; have n0_ := Aside0.mk hb; have n1_ := Aside0.mk ho; have n2_ := Aside0.mk (Go.Proofs.YtblcelelmjngfaaDoorW.Buf.Bf.grown (by first | exact HF5.out | (repeat (first | exact HF5.out | apply Go.Proofs.YtblcelelmjngfaaDoorW.Buf.Bf.alloc | apply Go.Proofs.YtblcelelmjngfaaDoorW.Buf.Bf.drewN | apply Go.Proofs.YtblcelelmjngfaaDoorW.Buf.Bf.drew))) hg (fun e => (HO.out.1 w5.heap.size e.symm) rfl)); clear HB HF5; have HB := n0_; have HOv7 := n1_; have HF5 := n2_; clear n0_ n1_ n2_ ho hb hg hat) | ((with_reducible refine gate_builtin (b := .append) (xs := #[.tmp 38, .tmp 40]) rfl ?_); at_builtin; refine Kd.R_append (Kd.int .u8) (w0 := w) w.heap.size rfl (.tmp 38) (.tmp 40) 25 5 (.int .u8 0) 1 rfl Tryd.underlying25 info5 rfl (by decide) (by omega) v7 (out ++ [32]) b [.int .u8 b] (fun k => k ≠ w5.heap.size) (fun _ => False) rfl rfl ?aP (fun _ hk => hk.elim) ?aF ?aO ?aB ?aS ?aL ?_; (case aP => exact rfl); (case aB => exact (by repeat (first | (with_reducible first | exact HB.out | apply below_alloc | apply pw_below_drewN | apply below_drew1) | exact HB.out))); (case aF => exact (fun k hk => Nat.ne_of_gt (Nat.lt_of_lt_of_le (Go.Proofs.YtblcelelmjngfaaDoorW.Buf.Bf.lt HF5.out) (by simpa using hk)))); (case aO => exact (by (with_reducible repeat (first | apply Kd.R_alloc | apply Kd.R_drewN | apply Kd.R_drew)); exact HOv7.out)); (case aS => exact (below_size (by repeat (first | (with_reducible first | exact HB.out | apply below_alloc | apply pw_below_drewN | apply below_drew1) | exact HB.out)))); (case aL => have := (show (out ++ [32]).length ≤ 2 * j + 1 from by rw [List.length_append]; have := hlo; simp; omega); omega); intro v8 w8 ho hb hg hat; have n0_ := Aside0.mk hb; have n1_ := Aside0.mk ho; have n2_ := Aside0.mk (Go.Proofs.YtblcelelmjngfaaDoorW.Buf.Bf.grown (by first | exact HF5.out | (repeat (first | exact HF5.out | apply Go.Proofs.YtblcelelmjngfaaDoorW.Buf.Bf.alloc | apply Go.Proofs.YtblcelelmjngfaaDoorW.Buf.Bf.drewN | apply Go.Proofs.YtblcelelmjngfaaDoorW.Buf.Bf.drew))) hg (fun e => (HOv7.out.1 w5.heap.size e.symm) rfl)); clear HB HF5; have HB := n0_; have HOv8 := n1_; have HF5 := n2_; clear n0_ n1_ n2_ ho hb hg hat))
              refine ⟨⟨j + 1, out ++ [32] ++ [b], false, by omega, by first | rfl | (simp; done) | (simp [*]; done), by go_num, ⟨by rw [← hfold]; exact HFO.out⟩, ⟨by rw [List.length_append, List.length_append]; simp; omega⟩, ⟨by (with_reducible repeat (first | apply Kd.R_alloc | apply Kd.R_drewN | apply Kd.R_drew)); exact HOv8.out⟩, ⟨by repeat (first | exact HF5.out | apply Go.Proofs.YtblcelelmjngfaaDoorW.Buf.Bf.alloc | apply Go.Proofs.YtblcelelmjngfaaDoorW.Buf.Bf.drewN | apply Go.Proofs.YtblcelelmjngfaaDoorW.Buf.Bf.drew)⟩, ⟨by repeat (first | (with_reducible first | exact HB.out | apply below_alloc | apply pw_below_drewN | apply below_drew1) | exact HB.out)⟩⟩, by simp [intOf]; omega⟩
            · have hfold := impl_foldText.take0 out true b ((bytesOf t).drop (j + 1)) (by rw [hL]; rfl) (by rw [decide_eq_false hn]; rfl)
              go_wp2_with (first | (go_at_call 40; (with_reducible refine (impl_isLower.calls b true _ ((impl_foldText.isL_eq b).trans (by rw [hL]))).mono ?_); rintro e w' ⟨rfl, ⟨nq, rfl⟩⟩) | ((with_reducible refine gate_builtin (b := .append) (xs := #[.tmp 38, .tmp 40]) rfl ?_); at_builtin; refine Kd.R_append (Kd.int .u8) (w0 := w) w.heap.size rfl (.tmp 38) (.tmp 40) 25 5 (.int .u8 0) 1 rfl Tryd.underlying25 info5 rfl (by decide) (by omega) (.slice A3 out.length c3) out b [.int .u8 b] (fun k => k ≠ w5.heap.size) (fun _ => False) rfl rfl ?aP (fun _ hk => hk.elim) ?aF ?aO ?aB ?aS ?aL ?_; (case aP => exact rfl); (case aB => exact (by repeat (first | (with_reducible first | exact HB.out | apply below_alloc | apply pw_below_drewN | apply below_drew1) | exact HB.out))); (case aF => exact (fun k hk => Nat.ne_of_gt (Nat.lt_of_lt_of_le (Go.Proofs.YtblcelelmjngfaaDoorW.Buf.Bf.lt HF5.out) (by simpa using hk)))); (case aO => exact (by (with_reducible repeat (first | apply Kd.R_alloc | apply Kd.R_drewN | apply Kd.R_drew)); exact HO.out)); (case aS => exact (below_size (by repeat (first | (with_reducible first | exact HB.out | apply below_alloc | apply pw_below_drewN | apply below_drew1) | exact HB.out)))); (case aL => have := hlo; omega); intro v8 w8 ho hb hg hat; have n0_ := Aside0.mk hb; have n1_ := Aside0.mk ho; have n2_ := Aside0.mk (Go.Proofs.YtblcelelmjngfaaDoorW.Buf.Bf.grown (by first | exact HF5.out | (repeat (first | exact HF5.out | apply Go.Proofs.YtblcelelmjngfaaDoorW.Buf.Bf.alloc | apply Go.Proofs.YtblcelelmjngfaaDoorW.Buf.Bf.drewN | apply Go.Proofs.YtblcelelmjngfaaDoorW.Buf.Bf.drew))) hg (fun e => (HO.out.1 w5.heap.size e.symm) rfl)); clear HB HF5; have HB := n0_; have HOv8 := n1_; have HF5 := n2_; clear n0_ n1_ n2_ ho hb hg hat))
              refine ⟨⟨j + 1, out ++ [b], false, by omega, by first | rfl | (simp; done) | (simp [*]; done), by go_num, ⟨by rw [← hfold]; exact HFO.out⟩, ⟨by rw [List.length_append]; simp; omega⟩, ⟨by (with_reducible repeat (first | apply Kd.R_alloc | apply Kd.R_drewN | apply Kd.R_drew)); exact HOv8.out⟩, ⟨by repeat (first | exact HF5.out | apply Go.Proofs.YtblcelelmjngfaaDoorW.Buf.Bf.alloc | apply Go.Proofs.YtblcelelmjngfaaDoorW.Buf.Bf.drewN | apply Go.Proofs.YtblcelelmjngfaaDoorW.Buf.Bf.drew)⟩, ⟨by repeat (first | (with_reducible first | exact HB.out | apply below_alloc | apply pw_below_drewN | apply below_drew1) | exact HB.out)⟩⟩, by simp [intOf]; omega⟩
        | false =>
          cases hD : impl_foldText.isD b with
          | true =>
            cases gap with
            | false =>
              have hfold := impl_foldText.take0 out false b ((bytesOf t).drop (j + 1)) (by rw [hL, hD]; rfl) rfl
              go_wp2_with (first | (go_at_call 40; (with_reducible refine (impl_isLower.calls b false _ ((impl_foldText.isL_eq b).trans (by rw [hL]))).mono ?_); rintro e w' ⟨rfl, ⟨nq, rfl⟩⟩) | (go_at_call 32; (with_reducible refine (impl_isDigit.calls b true _ ((impl_foldText.isD_eq b).trans (by rw [hD]))).mono ?_); rintro e w' ⟨rfl, ⟨nq2, rfl⟩⟩) | ((with_reducible refine gate_builtin (b := .append) (xs := #[.tmp 38, .tmp 40]) rfl ?_); at_builtin; refine Kd.R_append (Kd.int .u8) (w0 := w) w.heap.size rfl (.tmp 38) (.tmp 40) 25 5 (.int .u8 0) 1 rfl Tryd.underlying25 info5 rfl (by decide) (by omega) (.slice A3 out.length c3) out b [.int .u8 b] (fun k => k ≠ w5.heap.size) (fun _ => False) rfl rfl ?aP (fun _ hk => hk.elim) ?aF ?aO ?aB ?aS ?aL ?_; (case aP => exact rfl); (case aB => exact (by repeat (first | (with_reducible first | exact HB.out | apply below_alloc | apply pw_below_drewN | apply below_drew1) | exact HB.out))); (case aF => exact (fun k hk => Nat.ne_of_gt (Nat.lt_of_lt_of_le (Go.Proofs.YtblcelelmjngfaaDoorW.Buf.Bf.lt HF5.out) (by simpa using hk)))); (case aO => exact (by (with_reducible repeat (first | apply Kd.R_alloc | apply Kd.R_drewN | apply Kd.R_drew)); exact HO.out)); (case aS => exact (below_size (by repeat (first | (with_reducible first | exact HB.out | apply below_alloc | apply pw_below_drewN | apply below_drew1) | exact HB.out)))); (case aL => have := hlo; omega); intro v8 w8 ho hb hg hat; have n0_ := Aside0.mk hb; have n1_ := Aside0.mk ho; have n2_ := Aside0.mk (Go.Proofs.YtblcelelmjngfaaDoorW.Buf.Bf.grown (by first | exact HF5.out | (repeat (first | exact HF5.out | apply Go.Proofs.YtblcelelmjngfaaDoorW.Buf.Bf.alloc | apply Go.Proofs.YtblcelelmjngfaaDoorW.Buf.Bf.drewN | apply Go.Proofs.YtblcelelmjngfaaDoorW.Buf.Bf.drew))) hg (fun e => (HO.out.1 w5.heap.size e.symm) rfl)); clear HB HF5; have HB := n0_; have HOv8 := n1_; have HF5 := n2_; clear n0_ n1_ n2_ ho hb hg hat))
              refine ⟨⟨j + 1, out ++ [b], false, by omega, by first | rfl | (simp; done) | (simp [*]; done), by go_num, ⟨by rw [← hfold]; exact HFO.out⟩, ⟨by rw [List.length_append]; simp; omega⟩, ⟨by (with_reducible repeat (first | apply Kd.R_alloc | apply Kd.R_drewN | apply Kd.R_drew)); exact HOv8.out⟩, ⟨by repeat (first | exact HF5.out | apply Go.Proofs.YtblcelelmjngfaaDoorW.Buf.Bf.alloc | apply Go.Proofs.YtblcelelmjngfaaDoorW.Buf.Bf.drewN | apply Go.Proofs.YtblcelelmjngfaaDoorW.Buf.Bf.drew)⟩, ⟨by repeat (first | (with_reducible first | exact HB.out | apply below_alloc | apply pw_below_drewN | apply below_drew1) | exact HB.out)⟩⟩, by simp [intOf]; omega⟩
            | true =>
              by_cases hn : 0 < out.length
              · have hfold := impl_foldText.take1 out true b ((bytesOf t).drop (j + 1)) (by rw [hL, hD]; rfl) (by rw [decide_eq_true hn]; rfl)
                go_wp2_with (first | (go_at_call 40; (with_reducible refine (impl_isLower.calls b false _ ((impl_foldText.isL_eq b).trans (by rw [hL]))).mono ?_); rintro e w' ⟨rfl, ⟨nq, rfl⟩⟩) | (go_at_call 32; (with_reducible refine (impl_isDigit.calls b true _ ((impl_foldText.isD_eq b).trans (by rw [hD]))).mono ?_); rintro e w' ⟨rfl, ⟨nq2, rfl⟩⟩) | ((with_reducible refine gate_builtin (b := .append) (xs := #[.tmp 35, .tmp 36]) rfl ?_); at_builtin; refine Kd.R_append (Kd.int .u8) (w0 := w) w.heap.size rfl (.tmp 35) (.tmp 36) 25 5 (.int .u8 0) 1 rfl Tryd.underlying25 info5 rfl (by decide) (by omega) (.slice A3 out.length c3) out 32 [.int .u8 32] (fun k => k ≠ w5.heap.size) (fun _ => False) rfl rfl ?aP (fun _ hk => hk.elim) ?aF ?aO ?aB ?aS ?aL ?_; (case aP => exact rfl); (case aB => exact (by repeat (first | (with_reducible first | exact HB.out | apply below_alloc | apply pw_below_drewN | apply below_drew1) | exact HB.out))); (case aF => exact (fun k hk => Nat.ne_of_gt (Nat.lt_of_lt_of_le (Go.Proofs.YtblcelelmjngfaaDoorW.Buf.Bf.lt HF5.out) (by simpa using hk)))); (case aO => exact (by (with_reducible repeat (first | apply Kd.R_alloc | apply Kd.R_drewN | apply Kd.R_drew)); exact HO.out)); (case aS => exact (below_size (by repeat (first | (with_reducible first | exact HB.out | apply below_alloc | apply pw_below_drewN | apply below_drew1) | exact HB.out)))); (case aL => have := hlo; omega); intro v7 w7 ho hb hg hat; have n0_ := Aside0.mk hb; have n1_ := Aside0.mk ho; have n2_ := Aside0.mk (Go.Proofs.YtblcelelmjngfaaDoorW.Buf.Bf.grown (by first | exact HF5.out | (repeat (first | exact HF5.out | apply Go.Proofs.YtblcelelmjngfaaDoorW.Buf.Bf.alloc | apply Go.Proofs.YtblcelelmjngfaaDoorW.Buf.Bf.drewN | apply Go.Proofs.YtblcelelmjngfaaDoorW.Buf.Bf.drew))) hg (fun e => (HO.out.1 w5.heap.size e.symm) rfl)); clear HB HF5; have HB := n0_; have HOv7 := n1_; have HF5 := n2_; clear n0_ n1_ n2_ ho hb hg hat) | ((with_reducible refine gate_builtin (b := .append) (xs := #[.tmp 38, .tmp 40]) rfl ?_); at_builtin; refine Kd.R_append (Kd.int .u8) (w0 := w) w.heap.size rfl (.tmp 38) (.tmp 40) 25 5 (.int .u8 0) 1 rfl Tryd.underlying25 info5 rfl (by decide) (by omega) v7 (out ++ [32]) b [.int .u8 b] (fun k => k ≠ w5.heap.size) (fun _ => False) rfl rfl ?aP (fun _ hk => hk.elim) ?aF ?aO ?aB ?aS ?aL ?_; (case aP => exact rfl); (case aB => exact (by repeat (first | (with_reducible first | exact HB.out | apply below_alloc | apply pw_below_drewN | apply below_drew1) | exact HB.out))); (case aF => exact (fun k hk => Nat.ne_of_gt (Nat.lt_of_lt_of_le (Go.Proofs.YtblcelelmjngfaaDoorW.Buf.Bf.lt HF5.out) (by simpa using hk)))); (case aO => exact (by (with_reducible repeat (first | apply Kd.R_alloc | apply Kd.R_drewN | apply Kd.R_drew)); exact HOv7.out)); (case aS => exact (below_size (by repeat (first | (with_reducible first | exact HB.out | apply below_alloc | apply pw_below_drewN | apply below_drew1) | exact HB.out)))); (case aL => have := (show (out ++ [32]).length ≤ 2 * j + 1 from by rw [List.length_append]; have := hlo; simp; omega); omega); intro v8 w8 ho hb hg hat; have n0_ := Aside0.mk hb; have n1_ := Aside0.mk ho; have n2_ := Aside0.mk (Go.Proofs.YtblcelelmjngfaaDoorW.Buf.Bf.grown (by first | exact HF5.out | (repeat (first | exact HF5.out | apply Go.Proofs.YtblcelelmjngfaaDoorW.Buf.Bf.alloc | apply Go.Proofs.YtblcelelmjngfaaDoorW.Buf.Bf.drewN | apply Go.Proofs.YtblcelelmjngfaaDoorW.Buf.Bf.drew))) hg (fun e => (HOv7.out.1 w5.heap.size e.symm) rfl)); clear HB HF5; have HB := n0_; have HOv8 := n1_; have HF5 := n2_; clear n0_ n1_ n2_ ho hb hg hat))
                refine ⟨⟨j + 1, out ++ [32] ++ [b], false, by omega, by first | rfl | (simp; done) | (simp [*]; done), by go_num, ⟨by rw [← hfold]; exact HFO.out⟩, ⟨by rw [List.length_append, List.length_append]; simp; omega⟩, ⟨by (with_reducible repeat (first | apply Kd.R_alloc | apply Kd.R_drewN | apply Kd.R_drew)); exact HOv8.out⟩, ⟨by repeat (first | exact HF5.out | apply Go.Proofs.YtblcelelmjngfaaDoorW.Buf.Bf.alloc | apply Go.Proofs.YtblcelelmjngfaaDoorW.Buf.Bf.drewN | apply Go.Proofs.YtblcelelmjngfaaDoorW.Buf.Bf.drew)⟩, ⟨by repeat (first | (with_reducible first | exact HB.out | apply below_alloc | apply pw_below_drewN | apply below_drew1) | exact HB.out)⟩⟩, by simp [intOf]; omega⟩
              · have hfold := impl_foldText.take0 out true b ((bytesOf t).drop (j + 1)) (by rw [hL, hD]; rfl) (by rw [decide_eq_false hn]; rfl)
                go_wp2_with (first | (go_at_call 40; (with_reducible refine (impl_isLower.calls b false _ ((impl_foldText.isL_eq b).trans (by rw [hL]))).mono ?_); rintro e w' ⟨rfl, ⟨nq, rfl⟩⟩) | (go_at_call 32; (with_reducible refine (impl_isDigit.calls b true _ ((impl_foldText.isD_eq b).trans (by rw [hD]))).mono ?_); rintro e w' ⟨rfl, ⟨nq2, rfl⟩⟩) | ((with_reducible refine gate_builtin (b := .append) (xs := #[.tmp 38, .tmp 40]) rfl ?_); at_builtin; refine Kd.R_append (Kd.int .u8) (w0 := w) w.heap.size rfl (.tmp 38) (.tmp 40) 25 5 (.int .u8 0) 1 rfl Tryd.underlying25 info5 rfl (by decide) (by omega) (.slice A3 out.length c3) out b [.int .u8 b] (fun k => k ≠ w5.heap.size) (fun _ => False) rfl rfl ?aP (fun _ hk => hk.elim) ?aF ?aO ?aB ?aS ?aL ?_; (case aP => exact rfl); (case aB => exact (by repeat (first | (with_reducible first | exact HB.out | apply below_alloc | apply pw_below_drewN | apply below_drew1) | exact HB.out))); (case aF => exact (fun k hk => Nat.ne_of_gt (Nat.lt_of_lt_of_le (Go.Proofs.YtblcelelmjngfaaDoorW.Buf.Bf.lt HF5.out) (by simpa using hk)))); (case aO => exact (by (with_reducible repeat (first | apply Kd.R_alloc | apply Kd.R_drewN | apply Kd.R_drew)); exact HO.out)); (case aS => exact (below_size (by repeat (first | (with_reducible first | exact HB.out | apply below_alloc | apply pw_below_drewN | apply below_drew1) | exact HB.out)))); (case aL => have := hlo; omega); intro v8 w8 ho hb hg hat; have n0_ := Aside0.mk hb; have n1_ := Aside0.mk ho; have n2_ := Aside0.mk (Go.Proofs.YtblcelelmjngfaaDoorW.Buf.Bf.grown (by first | exact HF5.out | (repeat (first | exact HF5.out | apply Go.Proofs.YtblcelelmjngfaaDoorW.Buf.Bf.alloc | apply Go.Proofs.YtblcelelmjngfaaDoorW.Buf.Bf.drewN | apply Go.Proofs.YtblcelelmjngfaaDoorW.Buf.Bf.drew))) hg (fun e => (HO.out.1 w5.heap.size e.symm) rfl)); clear HB HF5; have HB := n0_; have HOv8 := n1_; have HF5 := n2_; clear n0_ n1_ n2_ ho hb hg hat))
                refine ⟨⟨j + 1, out ++ [b], false, by omega, by first | rfl | (simp; done) | (simp [*]; done), by go_num, ⟨by rw [← hfold]; exact HFO.out⟩, ⟨by rw [List.length_append]; simp; omega⟩, ⟨by (with_reducible repeat (first | apply Kd.R_alloc | apply Kd.R_drewN | apply Kd.R_drew)); exact HOv8.out⟩, ⟨by repeat (first | exact HF5.out | apply Go.Proofs.YtblcelelmjngfaaDoorW.Buf.Bf.alloc | apply Go.Proofs.YtblcelelmjngfaaDoorW.Buf.Bf.drewN | apply Go.Proofs.YtblcelelmjngfaaDoorW.Buf.Bf.drew)⟩, ⟨by repeat (first | (with_reducible first | exact HB.out | apply below_alloc | apply pw_below_drewN | apply below_drew1) | exact HB.out)⟩⟩, by simp [intOf]; omega⟩
          | false =>
            have hfold := impl_foldText.skip out gap b ((bytesOf t).drop (j + 1)) (by rw [hL, hD]; rfl)
            cases gap with
            | true =>
              go_wp2_with (first | (go_at_call 40; (with_reducible refine (impl_isLower.calls b false _ ((impl_foldText.isL_eq b).trans (by rw [hL]))).mono ?_); rintro e w' ⟨rfl, ⟨nq, rfl⟩⟩) | (go_at_call 32; (with_reducible refine (impl_isDigit.calls b false _ ((impl_foldText.isD_eq b).trans (by rw [hD]))).mono ?_); rintro e w' ⟨rfl, ⟨nq2, rfl⟩⟩))
              refine ⟨⟨j + 1, out, true, by omega, by first | rfl | (simp; done) | (simp [*]; done), by go_num, ⟨by rw [Bool.true_or] at hfold; rw [← hfold]; exact HFO.out⟩, ⟨by omega⟩, ⟨by (with_reducible repeat (first | apply Kd.R_alloc | apply Kd.R_drewN | apply Kd.R_drew)); exact HO.out⟩, ⟨by repeat (first | exact HF5.out | apply Go.Proofs.YtblcelelmjngfaaDoorW.Buf.Bf.alloc | apply Go.Proofs.YtblcelelmjngfaaDoorW.Buf.Bf.drewN | apply Go.Proofs.YtblcelelmjngfaaDoorW.Buf.Bf.drew)⟩, ⟨by repeat (first | (with_reducible first | exact HB.out | apply below_alloc | apply pw_below_drewN | apply below_drew1) | exact HB.out)⟩⟩, by simp [intOf]; omega⟩
            | false =>
              cases h32 : (b == 32) with
              | true =>
                go_wp2_with (first | (go_at_call 40; (with_reducible refine (impl_isLower.calls b false _ ((impl_foldText.isL_eq b).trans (by rw [hL]))).mono ?_); rintro e w' ⟨rfl, ⟨nq, rfl⟩⟩) | (go_at_call 32; (with_reducible refine (impl_isDigit.calls b false _ ((impl_foldText.isD_eq b).trans (by rw [hD]))).mono ?_); rintro e w' ⟨rfl, ⟨nq2, rfl⟩⟩))
                refine ⟨⟨j + 1, out, true, by omega, by first | rfl | (simp; done) | (simp [*]; done), by go_num, ⟨by rw [Bool.false_or, h32] at hfold; rw [← hfold]; exact HFO.out⟩, ⟨by omega⟩, ⟨by (with_reducible repeat (first | apply Kd.R_alloc | apply Kd.R_drewN | apply Kd.R_drew)); exact HO.out⟩, ⟨by repeat (first | exact HF5.out | apply Go.Proofs.YtblcelelmjngfaaDoorW.Buf.Bf.alloc | apply Go.Proofs.YtblcelelmjngfaaDoorW.Buf.Bf.drewN | apply Go.Proofs.YtblcelelmjngfaaDoorW.Buf.Bf.drew)⟩, ⟨by repeat (first | (with_reducible first | exact HB.out | apply below_alloc | apply pw_below_drewN | apply below_drew1) | exact HB.out)⟩⟩, by simp [intOf]; omega⟩
              | false =>
                go_wp2_with (first | (go_at_call 40; (with_reducible refine (impl_isLower.calls b false _ ((impl_foldText.isL_eq b).trans (by rw [hL]))).mono ?_); rintro e w' ⟨rfl, ⟨nq, rfl⟩⟩) | (go_at_call 32; (with_reducible refine (impl_isDigit.calls b false _ ((impl_foldText.isD_eq b).trans (by rw [hD]))).mono ?_); rintro e w' ⟨rfl, ⟨nq2, rfl⟩⟩))
                refine ⟨⟨j + 1, out, false, by omega, by first | rfl | (simp; done) | (simp [*]; done), by go_num, ⟨by rw [Bool.false_or, h32] at hfold; rw [← hfold]; exact HFO.out⟩, ⟨by omega⟩, ⟨by (with_reducible repeat (first | apply Kd.R_alloc | apply Kd.R_drewN | apply Kd.R_drew)); exact HO.out⟩, ⟨by repeat (first | exact HF5.out | apply Go.Proofs.YtblcelelmjngfaaDoorW.Buf.Bf.alloc | apply Go.Proofs.YtblcelelmjngfaaDoorW.Buf.Bf.drewN | apply Go.Proofs.YtblcelelmjngfaaDoorW.Buf.Bf.drew)⟩, ⟨by repeat (first | (with_reducible first | exact HB.out | apply below_alloc | apply pw_below_drewN | apply below_drew1) | exact HB.out)⟩⟩, by simp [intOf]; omega⟩
      · obtain rfl : j = t.size := by omega
        have hfo := HFO.out
        rw [List.drop_of_length_le (by rw [HLEN.out]; exact Nat.le_refl _), impl_foldText.fold] at hfo
        subst hfo
        have hback := own_string (P := Tryd.prog) Tryd.underlying25 Tryd.underlying5 Tryd.underlying9 (Kd.own_of_R HO.out)
        go_wp2
        go_ret
        exact ⟨rfl, HB.out⟩
  · rw [if_neg hs] at h
    cases h

end Go.Proofs.YtblcelelmjngfaaDoor.Px
