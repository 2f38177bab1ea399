/- That calls of Go functions come to what the Lean functions beside them say; written by a program of this session (wip/xprint) over the printed words; no conditions. -/
import Derived.Test.YtblcelelmjngfaaPx0
import Derived.Test.YtblcelelmjngfaaPx3
import Derived.Test.YtblcelelmjngfaaPx6
namespace Go.Proofs.Ytblcelelmjngfaa.Px
open Go.RowKit Go.Proofs.YtblcelelmjngfaaW.PrintWords Go.Proofs.YtblcelelmjngfaaW.PrintLast Go.Proofs.YtblcelelmjngfaaW.PrintMore
attribute [local go_sem] max2_int min2_int max_two min_two max_three min_three max_four min_four   -- for this text's walks alone
set_option linter.unusedVariables false
set_option linter.unusedSimpArgs false

/-! ### spec_FoldText: function 8 -/
def spec_FoldText.f (k : Nat) (a0 : ByteArray) : Option (ByteArray × Bool) := if (a0.size : Int) > 4000 then (some ((⟨#[]⟩ : ByteArray), false)) else ((spec_l8Fold.f k a0).bind fun t138 => (some (t138, true)))
theorem spec_FoldText.mono : ∀ a0 k, LeO (spec_FoldText.f k a0) (spec_FoldText.f (k + 1) a0) := by
  intro a0 k
  unfold spec_FoldText.f
  repeat' first
      | (with_reducible exact spec_l8Fold.mono _ _)
      | (with_reducible exact LeO.refl _)
      | (with_reducible exact LeO.none _)
      | (with_reducible refine LeO.ite ?_ ?_)
      | (with_reducible refine LeO.bind ?_ (fun _ => ?_))
      | exact spec_l8Fold.mono _ _
      | exact LeO.none _
      | refine LeO.ite ?_ ?_
      | refine LeO.bind ?_ (fun _ => ?_)
set_option maxHeartbeats 8000000 in
set_option maxRecDepth 100000 in
theorem spec_FoldText.calls (k : Nat) (a0 : ByteArray) (r1 : ByteArray) (r2 : Bool) (w : World) (h : spec_FoldText.f k a0 = some (r1, r2)) :
    Calls Try.prog 8 #[.string a0] w fun e w' => e = .returned (.tuple #[.string r1, .bool r2]) ∧ Below w.heap.size w w' := by
  have HB := Aside0.mk (Below.refl w.heap.size w)
  have H : (if (a0.size : Int) > 4000 then (some ((⟨#[]⟩ : ByteArray), false)) else ((spec_l8Fold.f k a0).bind fun t138 => (some (t138, true)))) = some (r1, r2) := h
  clear h
  by_cases c2 : (a0.size : Int) > 4000
  · rw [if_pos c2] at H
    have c2b0 : decide (4000 < (a0.size : Int)) = true := decide_eq_true c2
    have c2b1 : decide (4000 < a0.size) = true := decide_eq_true (by omega)
    clear c2
    simp only [Option.some.injEq, Prod.mk.injEq] at H
    obtain ⟨rfl, rfl⟩ := H
    go_enter Try.func8, Try.ntmps8
    go_wp2
    go_ret2
    exact ⟨by first | rfl | (simp [errW_none, errW_some] <;> rfl) | (simp [*, errW_none, errW_some] <;> rfl), by repeat (first | (with_reducible first | exact HB.out | apply below_alloc | apply pw_below_drewN | apply below_drew1) | exact HB.out)⟩
  · rw [if_neg c2] at H
    have c2b0 : decide (4000 < (a0.size : Int)) = false := decide_eq_false c2
    have c2b1 : decide (4000 < a0.size) = false := decide_eq_false (by omega)
    clear c2
    replace H := Option.bind_eq_some_iff.mp H
    obtain ⟨t138, A30, H⟩ := H
    replace H : (some (t138, true)) = some (r1, r2) := H
    have A3 := Aside0.mk A30
    clear A30
    simp only [Option.some.injEq, Prod.mk.injEq] at H
    obtain ⟨rfl, rfl⟩ := H
    go_enter Try.func8, Try.ntmps8
    go_wp2_with (first | ((with_reducible refine gate_callee (f := 14) rfl ?_); refine goesL_ (some 8) rfl rfl Try.func14 (by kernel_rfl) rfl #[.string a0] rfl (by (try simp only [List.map_toArray, List.map_cons, List.map_nil]); first | done | rfl | (simp only [List.length_drop, List.length_take]; rfl)) ?_; (with_reducible refine (spec_l8Fold.calls k a0 t138 _ A3.out).mono ?_); rintro e w4 ⟨rfl, hb⟩; refine ⟨_, rfl, ?_⟩; have n0_ := Aside0.mk (below_step (by repeat (first | (with_reducible first | exact HB.out | apply below_alloc | apply pw_below_drewN | apply below_drew1) | exact HB.out)) hb); clear HB; have HB := n0_; clear n0_; (try clear hb); (try clear hb2); (try clear hk); (try clear hi)))
    go_ret2
    exact ⟨by first | rfl | (simp [errW_none, errW_some] <;> rfl) | (simp [*, errW_none, errW_some] <;> rfl), by repeat (first | (with_reducible first | exact HB.out | apply below_alloc | apply pw_below_drewN | apply below_drew1) | exact HB.out)⟩

/-! ### impl_isLower: function 23 -/
def impl_isLower.f (a0 : Int) : Option (Bool) := if a0 ≥ 97 then (some (decide (a0 ≤ 122))) else (some false)
set_option maxHeartbeats 8000000 in
set_option maxRecDepth 100000 in
theorem impl_isLower.calls (a0 : Int) (r : Bool) (w : World) (h : impl_isLower.f a0 = some r) :
    Calls Try.prog 23 #[.int .u8 a0] w fun e w' => e = .returned (.bool r) ∧ Drawn0 w w' := by
  have H : (if a0 ≥ 97 then (some (decide (a0 ≤ 122))) else (some false)) = some r := h
  clear h
  by_cases c2 : a0 ≥ 97
  · rw [if_pos c2] at H
    have c2b0 : decide (97 ≤ a0) = true := decide_eq_true c2
    clear c2
    obtain rfl := Option.some.inj H
    go_enter Try.func23, Try.ntmps23
    go_wp2
    go_ret
    exact ⟨by first | rfl | (simp; done) | (simp [*]; done), by repeat (first | exact Drawn0.refl _ | apply Drawn0.step)⟩
  · rw [if_neg c2] at H
    have c2b0 : decide (97 ≤ a0) = false := decide_eq_false c2
    clear c2
    obtain rfl := Option.some.inj H
    go_enter Try.func23, Try.ntmps23
    go_wp2
    go_ret
    exact ⟨by first | rfl | (simp; done) | (simp [*]; done), by repeat (first | exact Drawn0.refl _ | apply Drawn0.step)⟩

/-! ### impl_isDigit: function 24 -/
def impl_isDigit.f (a0 : Int) : Option (Bool) := if a0 ≥ 48 then (some (decide (a0 ≤ 57))) else (some false)
set_option maxHeartbeats 8000000 in
set_option maxRecDepth 100000 in
theorem impl_isDigit.calls (a0 : Int) (r : Bool) (w : World) (h : impl_isDigit.f a0 = some r) :
    Calls Try.prog 24 #[.int .u8 a0] w fun e w' => e = .returned (.bool r) ∧ Drawn0 w w' := by
  have H : (if a0 ≥ 48 then (some (decide (a0 ≤ 57))) else (some false)) = some r := h
  clear h
  by_cases c2 : a0 ≥ 48
  · rw [if_pos c2] at H
    have c2b0 : decide (48 ≤ a0) = true := decide_eq_true c2
    clear c2
    obtain rfl := Option.some.inj H
    go_enter Try.func24, Try.ntmps24
    go_wp2
    go_ret
    exact ⟨by first | rfl | (simp; done) | (simp [*]; done), by repeat (first | exact Drawn0.refl _ | apply Drawn0.step)⟩
  · rw [if_neg c2] at H
    have c2b0 : decide (48 ≤ a0) = false := decide_eq_false c2
    clear c2
    obtain rfl := Option.some.inj H
    go_enter Try.func24, Try.ntmps24
    go_wp2
    go_ret
    exact ⟨by first | rfl | (simp; done) | (simp [*]; done), by repeat (first | exact Drawn0.refl _ | apply Drawn0.step)⟩

/-! ### impl_foldText: function 15 -/
def impl_foldText.isL (b : Int) : Bool := decide (b ≥ 97) && decide (b ≤ 122)
def impl_foldText.isD (b : Int) : Bool := decide (b ≥ 48) && decide (b ≤ 57)
theorem impl_foldText.isL_eq (b : Int) : impl_isLower.f b = some (impl_foldText.isL b) := by
  unfold impl_isLower.f impl_foldText.isL
  by_cases h : b ≥ 97
  · rw [if_pos h, decide_eq_true h]; rfl
  · rw [if_neg h, decide_eq_false h]; rfl
theorem impl_foldText.isD_eq (b : Int) : impl_isDigit.f b = some (impl_foldText.isD b) := by
  unfold impl_isDigit.f impl_foldText.isD
  by_cases h : b ≥ 48
  · rw [if_pos h, decide_eq_true h]; rfl
  · rw [if_neg h, decide_eq_false h]; rfl
/-- The folded form, byte by byte. -/
def impl_foldText.fold : List Int → Bool → List Int → List Int
  | out, _, [] => out
  | out, gap, b :: l => if (impl_foldText.isL b || impl_foldText.isD b) = true then impl_foldText.fold ((if (gap && decide (0 < out.length)) = true then out ++ [32] else out) ++ [b]) false l else impl_foldText.fold out (gap || b == 32) l
def impl_foldText.f (a0 : ByteArray) : Option (ByteArray) := (impl_lower.f a0).bind fun t => if t.size ≤ 1099511627776 then some (strOfNums (impl_foldText.fold [] false (bytesOf t))) else none
theorem impl_foldText.drop_at (l : List Int) (j : Nat) (hj : j < l.length) : l.drop j = l.getD j 0 :: l.drop (j + 1) := by
  rw [List.drop_eq_getElem_cons hj]
  simp [List.getD, List.getElem?_eq_getElem hj]
theorem impl_foldText.skip (out : List Int) (gap : Bool) (b : Int) (l : List Int) (h : (impl_foldText.isL b || impl_foldText.isD b) = false) : impl_foldText.fold out gap (b :: l) = impl_foldText.fold out (gap || b == 32) l := by
  rw [impl_foldText.fold, h, if_neg (by decide)]
theorem impl_foldText.take1 (out : List Int) (gap : Bool) (b : Int) (l : List Int) (h : (impl_foldText.isL b || impl_foldText.isD b) = true) (hg : (gap && decide (0 < out.length)) = true) : impl_foldText.fold out gap (b :: l) = impl_foldText.fold (out ++ [32] ++ [b]) false l := by
  rw [impl_foldText.fold, if_pos h, if_pos hg]
theorem impl_foldText.take0 (out : List Int) (gap : Bool) (b : Int) (l : List Int) (h : (impl_foldText.isL b || impl_foldText.isD b) = true) (hg : (gap && decide (0 < out.length)) = false) : impl_foldText.fold out gap (b :: l) = impl_foldText.fold (out ++ [b]) false l := by
  rw [impl_foldText.fold, if_pos h, hg, if_neg (by decide)]
set_option maxHeartbeats 8000000 in
set_option maxRecDepth 100000 in
theorem impl_foldText.calls (a0 : ByteArray) (r : ByteArray) (w : World) (h : impl_foldText.f a0 = some r) :
    Calls Try.prog 15 #[.string a0] w fun e w' => e = .returned (.string r) ∧ Below w.heap.size w w' := by
  unfold impl_foldText.f at h
  obtain ⟨t, ht, h⟩ := Option.bind_eq_some_iff.1 h
  by_cases hs : t.size ≤ 1099511627776
  · rw [if_pos hs] at h
    obtain rfl := Option.some.inj h
    clear h
    have HT := Aside0.mk ht
    clear ht
    have hconv : ∀ W : World, (convert 9 31 (.string t)).run Try.prog W = .ok (.slice (some ⟨W.heap.size, 0, none⟩) t.size (grownCap W t.size 0 5)) (Lib.bytesWorld W 5 t) := fun W => Lib.run_convert_string_bytes W _ _ _ t Try.underlying9 Try.underlying31 Try.underlying5
    have hlen := bytesOf_length t
    have HLEN := Aside0.mk hlen
    clear hlen
    obtain ⟨F, hF⟩ : ∃ F, F = impl_foldText.fold [] false (bytesOf t) := ⟨_, rfl⟩
    rw [← hF]
    have HF := Aside0.mk hF
    clear hF
    go_enter Try.func15, Try.ntmps15
    go_wp2_with (first | ((with_reducible refine gate_dst (N := 7) rfl ?_); refine Kd.R_lit (Kd.int .u8) _ 5 ?hg (N := 7) ?hd (xs := ([] : List Int)) (inner := []) (ok := fun _ => True) (okp := fun _ => True) ?hr ?hp (fun _ hk => hk) trivial (Below.refl _ _) (Nat.le_refl _) (by simp) ?_; (case hd => rfl); (case hg => rfl); (case hr => first | (go_simp; done) | (go_simp; rfl)); (case hp => exact (Reps.none _ _)); intro v0 w3 ho3 hb3 hg_ hnew_; have HO3 := Aside0.mk ho3; have HB3 := Aside0.mk hb3; clear ho3 hb3 hg_ hnew_) | (go_at_call 20; (with_reducible refine (impl_lower.calls a0 t _ HT.out).mono ?_); rintro e w5 ⟨rfl, hb5⟩; have HB5 := Aside0.mk hb5; clear hb5))
    clear hconv
    have hsz5 : w3.heap.size ≤ w5.heap.size := HB5.out.size
    have hb6 : Below w.heap.size w (Lib.bytesWorld w5 5 t) := below_then (below_then HB3.out HB3.out.size HB5.out) (by have := HB3.out.size; omega) (Go.Proofs.YtblcelelmjngfaaW.Buf.below_buf w5 5 t)
    have ho6 : Kd.R (Kd.int .u8) 5 (Lib.bytesWorld w5 5 t) w.heap.size (fun k => k ≠ w5.heap.size) v0 [] := Kd.R_below (Kd.R_below (Kd.R_mono (Kd.R_bound HO3.out) (fun k hk => by have := hk.2.2.1; omega)) HB5.out) (Go.Proofs.YtblcelelmjngfaaW.Buf.below_buf w5 5 t)
    have hf6 := Go.Proofs.YtblcelelmjngfaaW.Buf.buf_new w5 5 t
    have HB6 := Aside0.mk hb6
    have HO6 := Aside0.mk ho6
    have HF6 := Aside0.mk hf6
    clear hb6 ho6 hf6
    go_loopw [3, 4, 12] (fun v3 v4 v12 wr => ∃ (j : Nat) (out : List Int) (gap : Bool), j ≤ t.size ∧ v4 = .bool gap ∧ v12 = .int .i64 j ∧ Aside0 (impl_foldText.fold out gap ((bytesOf t).drop j) = F) ∧ Aside0 (out.length ≤ 2 * j) ∧ Aside0 (Kd.R (Kd.int .u8) 5 wr w.heap.size (fun k => k ≠ w5.heap.size) v3 out) ∧ Aside0 (Go.Proofs.YtblcelelmjngfaaW.Buf.Bf wr w5.heap.size 5 (bytesOf t)) ∧ Aside0 (Below w.heap.size w wr)) (fun _ _ v _ => t.size - (intOf v).toNat)
    case atStart => exact ⟨0, [], false, Nat.zero_le _, rfl, rfl, ⟨HF.out.symm⟩, ⟨by simp⟩, HO6, HF6, HB6⟩
    case round =>
      obtain ⟨j, out, gap, hj, rfl, rfl, HFO, HLO, HO, HF5, HB⟩ := hrel
      obtain ⟨A3, c3, hv3⟩ := own_slice (Kd.own_of_R HO.out)
      subst hv3
      by_cases hlt : j < t.size
      · have hjl : j < (bytesOf t).length := by rw [HLEN.out]; exact hlt
        have hcell := Go.Proofs.YtblcelelmjngfaaW.Buf.Bf.cell HF5.out j hjl
        have hrng : 0 ≤ (bytesOf t).getD j 0 ∧ (bytesOf t).getD j 0 ≤ 255 := by
          have h := rd_bytesOf t (j : Int)
          unfold rd at h
          rw [Int.toNat_natCast] at h
          rw [h]
          exact bt_range t _
        have hdr := impl_foldText.drop_at (bytesOf t) j hjl
        have hfo := HFO.out
        rw [hdr] at hfo
        clear hdr HFO
        obtain ⟨b, hbdef⟩ : ∃ b, b = (bytesOf t).getD j 0 := ⟨_, rfl⟩
        rw [← hbdef] at hcell hrng hfo
        have HFO := Aside0.mk hfo
        clear hbdef hjl hfo
        have hb0 := hrng.1
        have hb1 := hrng.2
        clear hrng
        have hlo := HLO.out
        cases hL : impl_foldText.isL b with
        | true =>
          cases gap with
          | false =>
            have hfold := impl_foldText.take0 out false b ((bytesOf t).drop (j + 1)) (by rw [hL]; rfl) rfl
            go_wp2_with (first | (go_at_call 23; (with_reducible refine (impl_isLower.calls b true _ ((impl_foldText.isL_eq b).trans (by rw [hL]))).mono ?_); rintro e w' ⟨rfl, ⟨nq, rfl⟩⟩) | ((with_reducible refine gate_builtin (b := .append) (xs := #[.tmp 38, .tmp 40]) rfl ?_); at_builtin; refine Kd.R_append (Kd.int .u8) (w0 := w) w.heap.size rfl (.tmp 38) (.tmp 40) 31 5 (.int .u8 0) 1 rfl Try.underlying31 info5 rfl (by decide) (by omega) (.slice A3 out.length c3) out b [.int .u8 b] (fun k => k ≠ w5.heap.size) (fun _ => False) rfl rfl ?aP (fun _ hk => hk.elim) ?aF ?aO ?aB ?aS ?aL ?_; (case aP => exact rfl); (case aB => exact (by repeat (first | (with_reducible first | exact HB.out | apply below_alloc | apply pw_below_drewN | apply below_drew1) | exact HB.out))); (case aF => exact (fun k hk => Nat.ne_of_gt (Nat.lt_of_lt_of_le (Go.Proofs.YtblcelelmjngfaaW.Buf.Bf.lt HF5.out) (by simpa using hk)))); (case aO => exact (by (with_reducible repeat (first | apply Kd.R_alloc | apply Kd.R_drewN | apply Kd.R_drew)); exact HO.out)); (case aS => exact (below_size (by repeat (first | (with_reducible first | exact HB.out | apply below_alloc | apply pw_below_drewN | apply below_drew1) | exact HB.out)))); (case aL => have := hlo; omega); intro v8 w8 ho hb hg hat; have n0_ := Aside0.mk hb; have n1_ := Aside0.mk ho; have n2_ := Aside0.mk (Go.Proofs.YtblcelelmjngfaaW.Buf.Bf.grown (by first | exact HF5.out | (repeat (first | exact HF5.out | apply Go.Proofs.YtblcelelmjngfaaW.Buf.Bf.alloc | apply Go.Proofs.YtblcelelmjngfaaW.Buf.Bf.drewN | apply Go.Proofs.YtblcelelmjngfaaW.Buf.Bf.drew))) hg (fun e => (HO.out.1 w5.heap.size e.symm) rfl)); clear HB HF5; have HB := n0_; have HOv8 := n1_; have HF5 := n2_; clear n0_ n1_ n2_ ho hb hg hat))
            refine ⟨⟨j + 1, out ++ [b], false, by omega, by first | rfl | (simp; done) | (simp [*]; done), by go_num, ⟨by rw [← hfold]; exact HFO.out⟩, ⟨by rw [List.length_append]; simp; omega⟩, ⟨by (with_reducible repeat (first | apply Kd.R_alloc | apply Kd.R_drewN | apply Kd.R_drew)); exact HOv8.out⟩, ⟨by repeat (first | exact HF5.out | apply Go.Proofs.YtblcelelmjngfaaW.Buf.Bf.alloc | apply Go.Proofs.YtblcelelmjngfaaW.Buf.Bf.drewN | apply Go.Proofs.YtblcelelmjngfaaW.Buf.Bf.drew)⟩, ⟨by repeat (first | (with_reducible first | exact HB.out | apply below_alloc | apply pw_below_drewN | apply below_drew1) | exact HB.out)⟩⟩, by simp [intOf]; omega⟩
          | true =>
            by_cases hn : 0 < out.length
            · have hfold := impl_foldText.take1 out true b ((bytesOf t).drop (j + 1)) (by rw [hL]; rfl) (by rw [decide_eq_true hn]; rfl)
              go_wp2_with (first | (go_at_call 23; (with_reducible refine (impl_isLower.calls b true _ ((impl_foldText.isL_eq b).trans (by rw [hL]))).mono ?_); rintro e w' ⟨rfl, ⟨nq, rfl⟩⟩) | ((with_reducible refine gate_builtin (b := .append) (xs := #[.tmp 35, .tmp 36]) rfl ?_); at_builtin; refine Kd.R_append (Kd.int .u8) (w0 := w) w.heap.size rfl (.tmp 35) (.tmp 36) 31 5 (.int .u8 0) 1 rfl Try.underlying31 info5 rfl (by decide) (by omega) (.slice A3 out.length c3) out 32 [.int .u8 32] (fun k => k ≠ w5.heap.size) (fun _ => False) rfl rfl ?aP (fun _ hk => hk.elim) ?aF ?aO ?aB ?aS ?aL ?_; (case aP => exact rfl); (case aB => exact (by repeat (first | (with_reducible first | exact HB.out | apply below_alloc | apply pw_below_drewN | apply below_drew1) | exact HB.out))); (case aF => exact (fun k hk => Nat.ne_of_gt (Nat.lt_of_lt_of_le (Go.Proofs.YtblcelelmjngfaaW.Buf.Bf.lt HF5.out) (by simpa using hk)))); (case aO => exact (by (with_reducible repeat (first | apply Kd.R_alloc | apply Kd.R_drewN | apply Kd.R_drew)); exact HO.out)); (case aS => exact (below_size (by repeat (first | (with_reducible first | exact HB.out | apply below_alloc | apply pw_below_drewN | apply below_drew1) | exact HB.out)))); (case aL => have := hlo; omega); intro v7 w7 ho hb hg hat; have n0_ := Aside0.mk hb; have n1_ := Aside0.mk ho; have n2_ := Aside0.mk (Go.Proofs.YtblcelelmjngfaaW.Buf.Bf.grown (by first | exact HF5.out | (repeat (first | exact HF5.out | apply Go.Proofs.YtblcelelmjngfaaW.Buf.Bf.alloc | apply Go.Proofs.YtblcelelmjngfaaW.Buf.Bf.drewN | apply Go.Proofs.YtblcelelmjngfaaW.Buf.Bf.drew))) hg (fun e => (HO.out.1 w5.heap.size e.symm) rfl)); clear HB HF5; have HB := n0_; have HOv7 := n1_; have HF5 := n2_; clear n0_ n1_ n2_ ho hb hg hat) | ((with_reducible refine gate_builtin (b := .append) (xs := #[.tmp 38, .tmp 40]) rfl ?_); at_builtin; refine Kd.R_append (Kd.int .u8) (w0 := w) w.heap.size rfl (.tmp 38) (.tmp 40) 31 5 (.int .u8 0) 1 rfl Try.underlying31 info5 rfl (by decide) (by omega) v7 (out ++ [32]) b [.int .u8 b] (fun k => k ≠ w5.heap.size) (fun _ => False) rfl rfl ?aP (fun _ hk => hk.elim) ?aF ?aO ?aB ?aS ?aL ?_; (case aP => exact rfl); (case aB => exact (by repeat (first | (with_reducible first | exact HB.out | apply below_alloc | apply pw_below_drewN | apply below_drew1) | exact HB.out))); (case aF => exact (fun k hk => Nat.ne_of_gt (Nat.lt_of_lt_of_le (Go.Proofs.YtblcelelmjngfaaW.Buf.Bf.lt HF5.out) (by simpa using hk)))); (case aO => exact (by (with_reducible repeat (first | apply Kd.R_alloc | apply Kd.R_drewN | apply Kd.R_drew)); exact HOv7.out)); (case aS => exact (below_size (by repeat (first | (with_reducible first | exact HB.out | apply below_alloc | apply pw_below_drewN | apply below_drew1) | exact HB.out)))); (case aL => have := (show (out ++ [32]).length ≤ 2 * j + 1 from by rw [List.length_append]; have := hlo; simp; omega); omega); intro v8 w8 ho hb hg hat; have n0_ := Aside0.mk hb; have n1_ := Aside0.mk ho; have n2_ := Aside0.mk (Go.Proofs.YtblcelelmjngfaaW.Buf.Bf.grown (by first | exact HF5.out | (repeat (first | exact HF5.out | apply Go.Proofs.YtblcelelmjngfaaW.Buf.Bf.alloc | apply Go.Proofs.YtblcelelmjngfaaW.Buf.Bf.drewN | apply Go.Proofs.YtblcelelmjngfaaW.Buf.Bf.drew))) hg (fun e => (HOv7.out.1 w5.heap.size e.symm) rfl)); clear HB HF5; have HB := n0_; have HOv8 := n1_; have HF5 := n2_; clear n0_ n1_ n2_ ho hb hg hat))
              refine ⟨⟨j + 1, out ++ [32] ++ [b], false, by omega, by first | rfl | (simp; done) | (simp [*]; done), by go_num, ⟨by rw [← hfold]; exact HFO.out⟩, ⟨by rw [List.length_append, List.length_append]; simp; omega⟩, ⟨by (with_reducible repeat (first | apply Kd.R_alloc | apply Kd.R_drewN | apply Kd.R_drew)); exact HOv8.out⟩, ⟨by repeat (first | exact HF5.out | apply Go.Proofs.YtblcelelmjngfaaW.Buf.Bf.alloc | apply Go.Proofs.YtblcelelmjngfaaW.Buf.Bf.drewN | apply Go.Proofs.YtblcelelmjngfaaW.Buf.Bf.drew)⟩, ⟨by repeat (first | (with_reducible first | exact HB.out | apply below_alloc | apply pw_below_drewN | apply below_drew1) | exact HB.out)⟩⟩, by simp [intOf]; omega⟩
            · have hfold := impl_foldText.take0 out true b ((bytesOf t).drop (j + 1)) (by rw [hL]; rfl) (by rw [decide_eq_false hn]; rfl)
              go_wp2_with (first | (go_at_call 23; (with_reducible refine (impl_isLower.calls b true _ ((impl_foldText.isL_eq b).trans (by rw [hL]))).mono ?_); rintro e w' ⟨rfl, ⟨nq, rfl⟩⟩) | ((with_reducible refine gate_builtin (b := .append) (xs := #[.tmp 38, .tmp 40]) rfl ?_); at_builtin; refine Kd.R_append (Kd.int .u8) (w0 := w) w.heap.size rfl (.tmp 38) (.tmp 40) 31 5 (.int .u8 0) 1 rfl Try.underlying31 info5 rfl (by decide) (by omega) (.slice A3 out.length c3) out b [.int .u8 b] (fun k => k ≠ w5.heap.size) (fun _ => False) rfl rfl ?aP (fun _ hk => hk.elim) ?aF ?aO ?aB ?aS ?aL ?_; (case aP => exact rfl); (case aB => exact (by repeat (first | (with_reducible first | exact HB.out | apply below_alloc | apply pw_below_drewN | apply below_drew1) | exact HB.out))); (case aF => exact (fun k hk => Nat.ne_of_gt (Nat.lt_of_lt_of_le (Go.Proofs.YtblcelelmjngfaaW.Buf.Bf.lt HF5.out) (by simpa using hk)))); (case aO => exact (by (with_reducible repeat (first | apply Kd.R_alloc | apply Kd.R_drewN | apply Kd.R_drew)); exact HO.out)); (case aS => exact (below_size (by repeat (first | (with_reducible first | exact HB.out | apply below_alloc | apply pw_below_drewN | apply below_drew1) | exact HB.out)))); (case aL => have := hlo; omega); intro v8 w8 ho hb hg hat; have n0_ := Aside0.mk hb; have n1_ := Aside0.mk ho; have n2_ := Aside0.mk (Go.Proofs.YtblcelelmjngfaaW.Buf.Bf.grown (by first | exact HF5.out | (repeat (first | exact HF5.out | apply Go.Proofs.YtblcelelmjngfaaW.Buf.Bf.alloc | apply Go.Proofs.YtblcelelmjngfaaW.Buf.Bf.drewN | apply Go.Proofs.YtblcelelmjngfaaW.Buf.Bf.drew))) hg (fun e => (HO.out.1 w5.heap.size e.symm) rfl)); clear HB HF5; have HB := n0_; have HOv8 := n1_; have HF5 := n2_; clear n0_ n1_ n2_ ho hb hg hat))
              refine ⟨⟨j + 1, out ++ [b], false, by omega, by first | rfl | (simp; done) | (simp [*]; done), by go_num, ⟨by rw [← hfold]; exact HFO.out⟩, ⟨by rw [List.length_append]; simp; omega⟩, ⟨by (with_reducible repeat (first | apply Kd.R_alloc | apply Kd.R_drewN | apply Kd.R_drew)); exact HOv8.out⟩, ⟨by repeat (first | exact HF5.out | apply Go.Proofs.YtblcelelmjngfaaW.Buf.Bf.alloc | apply Go.Proofs.YtblcelelmjngfaaW.Buf.Bf.drewN | apply Go.Proofs.YtblcelelmjngfaaW.Buf.Bf.drew)⟩, ⟨by repeat (first | (with_reducible first | exact HB.out | apply below_alloc | apply pw_below_drewN | apply below_drew1) | exact HB.out)⟩⟩, by simp [intOf]; omega⟩
        | false =>
          cases hD : impl_foldText.isD b with
          | true =>
            cases gap with
            | false =>
              have hfold := impl_foldText.take0 out false b ((bytesOf t).drop (j + 1)) (by rw [hL, hD]; rfl) rfl
              go_wp2_with (first | (go_at_call 23; (with_reducible refine (impl_isLower.calls b false _ ((impl_foldText.isL_eq b).trans (by rw [hL]))).mono ?_); rintro e w' ⟨rfl, ⟨nq, rfl⟩⟩) | (go_at_call 24; (with_reducible refine (impl_isDigit.calls b true _ ((impl_foldText.isD_eq b).trans (by rw [hD]))).mono ?_); rintro e w' ⟨rfl, ⟨nq2, rfl⟩⟩) | ((with_reducible refine gate_builtin (b := .append) (xs := #[.tmp 38, .tmp 40]) rfl ?_); at_builtin; refine Kd.R_append (Kd.int .u8) (w0 := w) w.heap.size rfl (.tmp 38) (.tmp 40) 31 5 (.int .u8 0) 1 rfl Try.underlying31 info5 rfl (by decide) (by omega) (.slice A3 out.length c3) out b [.int .u8 b] (fun k => k ≠ w5.heap.size) (fun _ => False) rfl rfl ?aP (fun _ hk => hk.elim) ?aF ?aO ?aB ?aS ?aL ?_; (case aP => exact rfl); (case aB => exact (by repeat (first | (with_reducible first | exact HB.out | apply below_alloc | apply pw_below_drewN | apply below_drew1) | exact HB.out))); (case aF => exact (fun k hk => Nat.ne_of_gt (Nat.lt_of_lt_of_le (Go.Proofs.YtblcelelmjngfaaW.Buf.Bf.lt HF5.out) (by simpa using hk)))); (case aO => exact (by (with_reducible repeat (first | apply Kd.R_alloc | apply Kd.R_drewN | apply Kd.R_drew)); exact HO.out)); (case aS => exact (below_size (by repeat (first | (with_reducible first | exact HB.out | apply below_alloc | apply pw_below_drewN | apply below_drew1) | exact HB.out)))); (case aL => have := hlo; omega); intro v8 w8 ho hb hg hat; have n0_ := Aside0.mk hb; have n1_ := Aside0.mk ho; have n2_ := Aside0.mk (Go.Proofs.YtblcelelmjngfaaW.Buf.Bf.grown (by first | exact HF5.out | (repeat (first | exact HF5.out | apply Go.Proofs.YtblcelelmjngfaaW.Buf.Bf.alloc | apply Go.Proofs.YtblcelelmjngfaaW.Buf.Bf.drewN | apply Go.Proofs.YtblcelelmjngfaaW.Buf.Bf.drew))) hg (fun e => (HO.out.1 w5.heap.size e.symm) rfl)); clear HB HF5; have HB := n0_; have HOv8 := n1_; have HF5 := n2_; clear n0_ n1_ n2_ ho hb hg hat))
              refine ⟨⟨j + 1, out ++ [b], false, by omega, by first | rfl | (simp; done) | (simp [*]; done), by go_num, ⟨by rw [← hfold]; exact HFO.out⟩, ⟨by rw [List.length_append]; simp; omega⟩, ⟨by (with_reducible repeat (first | apply Kd.R_alloc | apply Kd.R_drewN | apply Kd.R_drew)); exact HOv8.out⟩, ⟨by repeat (first | exact HF5.out | apply Go.Proofs.YtblcelelmjngfaaW.Buf.Bf.alloc | apply Go.Proofs.YtblcelelmjngfaaW.Buf.Bf.drewN | apply Go.Proofs.YtblcelelmjngfaaW.Buf.Bf.drew)⟩, ⟨by repeat (first | (with_reducible first | exact HB.out | apply below_alloc | apply pw_below_drewN | apply below_drew1) | exact HB.out)⟩⟩, by simp [intOf]; omega⟩
            | true =>
              by_cases hn : 0 < out.length
              · have hfold := impl_foldText.take1 out true b ((bytesOf t).drop (j + 1)) (by rw [hL, hD]; rfl) (by rw [decide_eq_true hn]; rfl)
                go_wp2_with (first | (go_at_call 23; (with_reducible refine (impl_isLower.calls b false _ ((impl_foldText.isL_eq b).trans (by rw [hL]))).mono ?_); rintro e w' ⟨rfl, ⟨nq, rfl⟩⟩) | (go_at_call 24; (with_reducible refine (impl_isDigit.calls b true _ ((impl_foldText.isD_eq b).trans (by rw [hD]))).mono ?_); rintro e w' ⟨rfl, ⟨nq2, rfl⟩⟩) | ((with_reducible refine gate_builtin (b := .append) (xs := #[.tmp 35, .tmp 36]) rfl ?_); at_builtin; refine Kd.R_append (Kd.int .u8) (w0 := w) w.heap.size rfl (.tmp 35) (.tmp 36) 31 5 (.int .u8 0) 1 rfl Try.underlying31 info5 rfl (by decide) (by omega) (.slice A3 out.length c3) out 32 [.int .u8 32] (fun k => k ≠ w5.heap.size) (fun _ => False) rfl rfl ?aP (fun _ hk => hk.elim) ?aF ?aO ?aB ?aS ?aL ?_; (case aP => exact rfl); (case aB => exact (by repeat (first | (with_reducible first | exact HB.out | apply below_alloc | apply pw_below_drewN | apply below_drew1) | exact HB.out))); (case aF => exact (fun k hk => Nat.ne_of_gt (Nat.lt_of_lt_of_le (Go.Proofs.YtblcelelmjngfaaW.Buf.Bf.lt HF5.out) (by simpa using hk)))); (case aO => exact (by (with_reducible repeat (first | apply Kd.R_alloc | apply Kd.R_drewN | apply Kd.R_drew)); exact HO.out)); (case aS => exact (below_size (by repeat (first | (with_reducible first | exact HB.out | apply below_alloc | apply pw_below_drewN | apply below_drew1) | exact HB.out)))); (case aL => have := hlo; omega); intro v7 w7 ho hb hg hat; have n0_ := Aside0.mk hb; have n1_ := Aside0.mk ho; have n2_ := Aside0.mk (Go.Proofs.YtblcelelmjngfaaW.Buf.Bf.grown (by first | exact HF5.out | (repeat (first | exact HF5.out | apply Go.Proofs.YtblcelelmjngfaaW.Buf.Bf.alloc | apply Go.Proofs.YtblcelelmjngfaaW.Buf.Bf.drewN | apply Go.Proofs.YtblcelelmjngfaaW.Buf.Bf.drew))) hg (fun e => (HO.out.1 w5.heap.size e.symm) rfl)); clear HB HF5; have HB := n0_; have HOv7 := n1_; have HF5 := n2_; clear n0_ n1_ n2_ ho hb hg hat) | ((with_reducible refine gate_builtin (b := .append) (xs := #[.tmp 38, .tmp 40]) rfl ?_); at_builtin; refine Kd.R_append (Kd.int .u8) (w0 := w) w.heap.size rfl (.tmp 38) (.tmp 40) 31 5 (.int .u8 0) 1 rfl Try.underlying31 info5 rfl (by decide) (by omega) v7 (out ++ [32]) b [.int .u8 b] (fun k => k ≠ w5.heap.size) (fun _ => False) rfl rfl ?aP (fun _ hk => hk.elim) ?aF ?aO ?aB ?aS ?aL ?_; (case aP => exact rfl); (case aB => exact (by repeat (first | (with_reducible first | exact HB.out | apply below_alloc | apply pw_below_drewN | apply below_drew1) | exact HB.out))); (case aF => exact (fun k hk => Nat.ne_of_gt (Nat.lt_of_lt_of_le (Go.Proofs.YtblcelelmjngfaaW.Buf.Bf.lt HF5.out) (by simpa using hk)))); (case aO => exact (by (with_reducible repeat (first | apply Kd.R_alloc | apply Kd.R_drewN | apply Kd.R_drew)); exact HOv7.out)); (case aS => exact (below_size (by repeat (first | (with_reducible first | exact HB.out | apply below_alloc | apply pw_below_drewN | apply below_drew1) | exact HB.out)))); (case aL => have := (show (out ++ [32]).length ≤ 2 * j + 1 from by rw [List.length_append]; have := hlo; simp; omega); omega); intro v8 w8 ho hb hg hat; have n0_ := Aside0.mk hb; have n1_ := Aside0.mk ho; have n2_ := Aside0.mk (Go.Proofs.YtblcelelmjngfaaW.Buf.Bf.grown (by first | exact HF5.out | (repeat (first | exact HF5.out | apply Go.Proofs.YtblcelelmjngfaaW.Buf.Bf.alloc | apply Go.Proofs.YtblcelelmjngfaaW.Buf.Bf.drewN | apply Go.Proofs.YtblcelelmjngfaaW.Buf.Bf.drew))) hg (fun e => (HOv7.out.1 w5.heap.size e.symm) rfl)); clear HB HF5; have HB := n0_; have HOv8 := n1_; have HF5 := n2_; clear n0_ n1_ n2_ ho hb hg hat))
                refine ⟨⟨j + 1, out ++ [32] ++ [b], false, by omega, by first | rfl | (simp; done) | (simp [*]; done), by go_num, ⟨by rw [← hfold]; exact HFO.out⟩, ⟨by rw [List.length_append, List.length_append]; simp; omega⟩, ⟨by (with_reducible repeat (first | apply Kd.R_alloc | apply Kd.R_drewN | apply Kd.R_drew)); exact HOv8.out⟩, ⟨by repeat (first | exact HF5.out | apply Go.Proofs.YtblcelelmjngfaaW.Buf.Bf.alloc | apply Go.Proofs.YtblcelelmjngfaaW.Buf.Bf.drewN | apply Go.Proofs.YtblcelelmjngfaaW.Buf.Bf.drew)⟩, ⟨by repeat (first | (with_reducible first | exact HB.out | apply below_alloc | apply pw_below_drewN | apply below_drew1) | exact HB.out)⟩⟩, by simp [intOf]; omega⟩
              · have hfold := impl_foldText.take0 out true b ((bytesOf t).drop (j + 1)) (by rw [hL, hD]; rfl) (by rw [decide_eq_false hn]; rfl)
                go_wp2_with (first | (go_at_call 23; (with_reducible refine (impl_isLower.calls b false _ ((impl_foldText.isL_eq b).trans (by rw [hL]))).mono ?_); rintro e w' ⟨rfl, ⟨nq, rfl⟩⟩) | (go_at_call 24; (with_reducible refine (impl_isDigit.calls b true _ ((impl_foldText.isD_eq b).trans (by rw [hD]))).mono ?_); rintro e w' ⟨rfl, ⟨nq2, rfl⟩⟩) | ((with_reducible refine gate_builtin (b := .append) (xs := #[.tmp 38, .tmp 40]) rfl ?_); at_builtin; refine Kd.R_append (Kd.int .u8) (w0 := w) w.heap.size rfl (.tmp 38) (.tmp 40) 31 5 (.int .u8 0) 1 rfl Try.underlying31 info5 rfl (by decide) (by omega) (.slice A3 out.length c3) out b [.int .u8 b] (fun k => k ≠ w5.heap.size) (fun _ => False) rfl rfl ?aP (fun _ hk => hk.elim) ?aF ?aO ?aB ?aS ?aL ?_; (case aP => exact rfl); (case aB => exact (by repeat (first | (with_reducible first | exact HB.out | apply below_alloc | apply pw_below_drewN | apply below_drew1) | exact HB.out))); (case aF => exact (fun k hk => Nat.ne_of_gt (Nat.lt_of_lt_of_le (Go.Proofs.YtblcelelmjngfaaW.Buf.Bf.lt HF5.out) (by simpa using hk)))); (case aO => exact (by (with_reducible repeat (first | apply Kd.R_alloc | apply Kd.R_drewN | apply Kd.R_drew)); exact HO.out)); (case aS => exact (below_size (by repeat (first | (with_reducible first | exact HB.out | apply below_alloc | apply pw_below_drewN | apply below_drew1) | exact HB.out)))); (case aL => have := hlo; omega); intro v8 w8 ho hb hg hat; have n0_ := Aside0.mk hb; have n1_ := Aside0.mk ho; have n2_ := Aside0.mk (Go.Proofs.YtblcelelmjngfaaW.Buf.Bf.grown (by first | exact HF5.out | (repeat (first | exact HF5.out | apply Go.Proofs.YtblcelelmjngfaaW.Buf.Bf.alloc | apply Go.Proofs.YtblcelelmjngfaaW.Buf.Bf.drewN | apply Go.Proofs.YtblcelelmjngfaaW.Buf.Bf.drew))) hg (fun e => (HO.out.1 w5.heap.size e.symm) rfl)); clear HB HF5; have HB := n0_; have HOv8 := n1_; have HF5 := n2_; clear n0_ n1_ n2_ ho hb hg hat))
                refine ⟨⟨j + 1, out ++ [b], false, by omega, by first | rfl | (simp; done) | (simp [*]; done), by go_num, ⟨by rw [← hfold]; exact HFO.out⟩, ⟨by rw [List.length_append]; simp; omega⟩, ⟨by (with_reducible repeat (first | apply Kd.R_alloc | apply Kd.R_drewN | apply Kd.R_drew)); exact HOv8.out⟩, ⟨by repeat (first | exact HF5.out | apply Go.Proofs.YtblcelelmjngfaaW.Buf.Bf.alloc | apply Go.Proofs.YtblcelelmjngfaaW.Buf.Bf.drewN | apply Go.Proofs.YtblcelelmjngfaaW.Buf.Bf.drew)⟩, ⟨by repeat (first | (with_reducible first | exact HB.out | apply below_alloc | apply pw_below_drewN | apply below_drew1) | exact HB.out)⟩⟩, by simp [intOf]; omega⟩
          | false =>
            have hfold := impl_foldText.skip out gap b ((bytesOf t).drop (j + 1)) (by rw [hL, hD]; rfl)
            cases gap with
            | true =>
              go_wp2_with (first | (go_at_call 23; (with_reducible refine (impl_isLower.calls b false _ ((impl_foldText.isL_eq b).trans (by rw [hL]))).mono ?_); rintro e w' ⟨rfl, ⟨nq, rfl⟩⟩) | (go_at_call 24; (with_reducible refine (impl_isDigit.calls b false _ ((impl_foldText.isD_eq b).trans (by rw [hD]))).mono ?_); rintro e w' ⟨rfl, ⟨nq2, rfl⟩⟩))
              refine ⟨⟨j + 1, out, true, by omega, by first | rfl | (simp; done) | (simp [*]; done), by go_num, ⟨by rw [Bool.true_or] at hfold; rw [← hfold]; exact HFO.out⟩, ⟨by omega⟩, ⟨by (with_reducible repeat (first | apply Kd.R_alloc | apply Kd.R_drewN | apply Kd.R_drew)); exact HO.out⟩, ⟨by repeat (first | exact HF5.out | apply Go.Proofs.YtblcelelmjngfaaW.Buf.Bf.alloc | apply Go.Proofs.YtblcelelmjngfaaW.Buf.Bf.drewN | apply Go.Proofs.YtblcelelmjngfaaW.Buf.Bf.drew)⟩, ⟨by repeat (first | (with_reducible first | exact HB.out | apply below_alloc | apply pw_below_drewN | apply below_drew1) | exact HB.out)⟩⟩, by simp [intOf]; omega⟩
            | false =>
              cases h32 : (b == 32) with
              | true =>
                go_wp2_with (first | (go_at_call 23; (with_reducible refine (impl_isLower.calls b false _ ((impl_foldText.isL_eq b).trans (by rw [hL]))).mono ?_); rintro e w' ⟨rfl, ⟨nq, rfl⟩⟩) | (go_at_call 24; (with_reducible refine (impl_isDigit.calls b false _ ((impl_foldText.isD_eq b).trans (by rw [hD]))).mono ?_); rintro e w' ⟨rfl, ⟨nq2, rfl⟩⟩))
                refine ⟨⟨j + 1, out, true, by omega, by first | rfl | (simp; done) | (simp [*]; done), by go_num, ⟨by rw [Bool.false_or, h32] at hfold; rw [← hfold]; exact HFO.out⟩, ⟨by omega⟩, ⟨by (with_reducible repeat (first | apply Kd.R_alloc | apply Kd.R_drewN | apply Kd.R_drew)); exact HO.out⟩, ⟨by repeat (first | exact HF5.out | apply Go.Proofs.YtblcelelmjngfaaW.Buf.Bf.alloc | apply Go.Proofs.YtblcelelmjngfaaW.Buf.Bf.drewN | apply Go.Proofs.YtblcelelmjngfaaW.Buf.Bf.drew)⟩, ⟨by repeat (first | (with_reducible first | exact HB.out | apply below_alloc | apply pw_below_drewN | apply below_drew1) | exact HB.out)⟩⟩, by simp [intOf]; omega⟩
              | false =>
                go_wp2_with (first | (go_at_call 23; (with_reducible refine (impl_isLower.calls b false _ ((impl_foldText.isL_eq b).trans (by rw [hL]))).mono ?_); rintro e w' ⟨rfl, ⟨nq, rfl⟩⟩) | (go_at_call 24; (with_reducible refine (impl_isDigit.calls b false _ ((impl_foldText.isD_eq b).trans (by rw [hD]))).mono ?_); rintro e w' ⟨rfl, ⟨nq2, rfl⟩⟩))
                refine ⟨⟨j + 1, out, false, by omega, by first | rfl | (simp; done) | (simp [*]; done), by go_num, ⟨by rw [Bool.false_or, h32] at hfold; rw [← hfold]; exact HFO.out⟩, ⟨by omega⟩, ⟨by (with_reducible repeat (first | apply Kd.R_alloc | apply Kd.R_drewN | apply Kd.R_drew)); exact HO.out⟩, ⟨by repeat (first | exact HF5.out | apply Go.Proofs.YtblcelelmjngfaaW.Buf.Bf.alloc | apply Go.Proofs.YtblcelelmjngfaaW.Buf.Bf.drewN | apply Go.Proofs.YtblcelelmjngfaaW.Buf.Bf.drew)⟩, ⟨by repeat (first | (with_reducible first | exact HB.out | apply below_alloc | apply pw_below_drewN | apply below_drew1) | exact HB.out)⟩⟩, by simp [intOf]; omega⟩
      · obtain rfl : j = t.size := by omega
        have hfo := HFO.out
        rw [List.drop_of_length_le (by rw [HLEN.out]; exact Nat.le_refl _), impl_foldText.fold] at hfo
        subst hfo
        have hback := own_string (P := Try.prog) Try.underlying31 Try.underlying5 Try.underlying9 (Kd.own_of_R HO.out)
        go_wp2
        go_ret
        exact ⟨rfl, HB.out⟩
  · rw [if_neg hs] at h
    cases h

end Go.Proofs.Ytblcelelmjngfaa.Px
