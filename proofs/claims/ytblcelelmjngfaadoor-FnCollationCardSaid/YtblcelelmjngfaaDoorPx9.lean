/- That calls of Go functions come to what the Lean functions beside them say; written by a program of this session (wip/xprint) over the printed words; no conditions. -/
import Derived.Test.YtblcelelmjngfaaDoorPx0
import Derived.Test.YtblcelelmjngfaaDoorPx5
import Derived.Test.YtblcelelmjngfaaDoorPx7
import Derived.Test.YtblcelelmjngfaaDoorPx8
namespace Go.Proofs.YtblcelelmjngfaaDoor.Px
open Go.RowKit Go.Proofs.YtblcelelmjngfaaDoorW.PrintWords Go.Proofs.YtblcelelmjngfaaDoorW.PrintLast Go.Proofs.YtblcelelmjngfaaDoorW.PrintMore
attribute [local go_sem] max2_int min2_int max_two min_two max_three min_three max_four min_four   -- for this text's walks alone
set_option linter.unusedVariables false
set_option linter.unusedSimpArgs false

/-! ### impl_NaturalCompare: function 6 -/
/-- slices.CompareFunc. -/
def impl_NaturalCompare.cmpL (cf : ByteArray → ByteArray → Int) : List ByteArray → List ByteArray → Int
  | [], [] => 0
  | [], _ :: _ => -1
  | _ :: _, [] => 1
  | x :: xs, y :: ys => if cf x y = 0 then impl_NaturalCompare.cmpL cf xs ys else cf x y
theorem impl_NaturalCompare.drop_rd (l : List ByteArray) (i : Int) (h0 : 0 ≤ i) (h1 : i < (l.length : Int)) : l.drop i.toNat = rdOf ByteArray.empty l i :: l.drop (i + 1).toNat := by
  have h : i.toNat < l.length := by omega
  rw [List.drop_eq_getElem_cons h, show (i + 1).toNat = i.toNat + 1 from by omega]
  unfold rdOf
  simp [List.getD, List.getElem?_eq_getElem h]
theorem impl_NaturalCompare.rd_mem (l : List ByteArray) (i : Int) (h0 : 0 ≤ i) (h1 : i < (l.length : Int)) : rdOf ByteArray.empty l i ∈ l := by
  have h : i.toNat < l.length := by omega
  unfold rdOf
  simp only [List.getD, List.getElem?_eq_getElem h, Option.getD_some]
  exact List.getElem_mem h
set_option maxHeartbeats 8000000 in
set_option maxRecDepth 100000 in
theorem impl_NaturalCompare.cmp (g : FuncId) (cf : ByteArray → ByteArray → Int) (A0 : Option Addr) (c0 : Nat) (l0 : List ByteArray) (A1 : Option Addr) (c1 : Nat) (l1 : List ByteArray) (w : World) (hr0 : Kd.C Kd.string w A0 l0.length l0) (hr1 : Kd.C Kd.string w A1 l1.length l1)
    (eg : ∀ args W, (callFunc g args).run Tryd.prog W = .ok (.enter g args) W)
    (hcl : ∀ (x y : ByteArray) (W : World), x ∈ l0 → y ∈ l1 → Below w.heap.size w W → Calls Tryd.prog g #[.string x, .string y] W fun e W' => e = .returned (.int .i64 (cf x y)) ∧ Below W.heap.size W W') :
    Calls Tryd.prog 19 #[.slice A0 l0.length c0, .slice A1 l1.length c1, .func (.func g) #[] #[]] w fun e w' => e = .returned (.int .i64 (impl_NaturalCompare.cmpL cf l0 l1)) ∧ Below w.heap.size w w' := by
  have HM0 := Aside0.mk (Kd.C_max hr0)
  have HR0 := Aside0.mk hr0
  have HR1 := Aside0.mk hr1
  have HCL := Aside0.mk hcl
  clear hr0 hr1 hcl
  obtain ⟨R, hR⟩ : ∃ R, impl_NaturalCompare.cmpL cf l0 l1 = R := ⟨_, rfl⟩
  rw [hR]
  have HRR := Aside0.mk hR
  clear hR
  go_enter Tryd.func19, Tryd.ntmps19
  go_wp2
  go_loopw [13] (fun v wr => ∃ (i : Int), 0 ≤ i ∧ i ≤ (l0.length : Int) ∧ v = .int .i64 i ∧ Aside0 (i ≤ (l1.length : Int)) ∧ Aside0 (impl_NaturalCompare.cmpL cf (l0.drop i.toNat) (l1.drop i.toNat) = R) ∧ Aside0 (Below w.heap.size w wr)) (fun v _ => l0.length - (intOf v).toNat)
  case atStart => exact ⟨0, Int.le_refl _, by omega, rfl, ⟨by omega⟩, ⟨HRR.out⟩, ⟨Below.refl _ _⟩⟩
  case round =>
    obtain ⟨i, hi0, hin, rfl, HI1, HC, HB⟩ := hrel
    by_cases hlt : i < (l0.length : Int)
    · obtain ⟨ad, e107, hx_0⟩ := Kd.at_string HR0.out i hi0 hlt
      cases e107
      replace hx_0 := (HB.out.cell (World.block_lt_of_cell? w _ hx_0)).trans hx_0
      have hd0 := impl_NaturalCompare.drop_rd l0 i hi0 hlt
      have HMEM := Aside0.mk (impl_NaturalCompare.rd_mem l0 i hi0 hlt)
      have hc := HC.out
      rw [hd0] at hc
      clear hd0 HC
      generalize rdOf ByteArray.empty l0 i = x at hx_0 hc HMEM
      have p107 : (0 ≤ i) = True := eq_true hi0
      have q107 : (i < (l0.length : Int)) = True := eq_true hlt
      have c2b0 : decide (i < (l0.length : Int)) = true := decide_eq_true hlt
      by_cases hl2 : i < (l1.length : Int)
      · obtain ⟨ad1, e108, hy_0⟩ := Kd.at_string HR1.out i hi0 hl2
        cases e108
        replace hy_0 := (HB.out.cell (World.block_lt_of_cell? w _ hy_0)).trans hy_0
        have hd1 := impl_NaturalCompare.drop_rd l1 i hi0 hl2
        have HMEM1 := Aside0.mk (impl_NaturalCompare.rd_mem l1 i hi0 hl2)
        rw [hd1] at hc
        clear hd1
        generalize rdOf ByteArray.empty l1 i = y at hy_0 hc HMEM1
        have q108 : (i < (l1.length : Int)) = True := eq_true hl2
        have c3b0 : decide ((l1.length : Int) ≤ i) = false := decide_eq_false (by omega)
        rw [impl_NaturalCompare.cmpL] at hc
        obtain ⟨c, hcd⟩ : ∃ c, cf x y = c := ⟨_, rfl⟩
        rw [hcd] at hc
        have HCD := Aside0.mk hcd
        have HCC := Aside0.mk hc
        clear hc hcd
        by_cases hz : c = 0
        · have hzb : (c != 0) = false := bne_eq_false_iff_eq.mpr hz
          have hze : (c == 0) = true := beq_iff_eq.mpr hz
          have HZ := Aside0.mk hz
          clear hz
          have HW := Aside0.mk (show wrap64 (i + 1) = i + 1 from by have := HM0.out; unfold wrap64; omega)
          go_wp2_with (go_at_fn g; refine (HCL.out x y _ HMEM.out HMEM1.out HB.out).mono ?_; rintro e w6 ⟨rfl, hb⟩; rw [HCD.out]; have HB6 := Aside0.mk hb; clear hb)
          refine ⟨⟨i + 1, by omega, by omega, by first | rfl | (simp only [HW.out]; done) | (simp [HW.out]; done) | go_num | (simp; done), ⟨by omega⟩, ⟨by have h := HCC.out; rw [if_pos HZ.out] at h; exact h⟩, ⟨below_then HB.out HB.out.size HB6.out⟩⟩, by simp [intOf, HW.out]; omega⟩
        · have hzb : (c != 0) = true := bne_iff_ne.mpr hz
          have hze : (c == 0) = false := beq_eq_false_iff_ne.mpr hz
          have HZ := Aside0.mk hz
          clear hz
          go_wp2_with (go_at_fn g; refine (HCL.out x y _ HMEM.out HMEM1.out HB.out).mono ?_; rintro e w6 ⟨rfl, hb⟩; rw [HCD.out]; have HB6 := Aside0.mk hb; clear hb)
          go_ret
          have h := HCC.out
          rw [if_neg HZ.out] at h
          subst h
          exact ⟨rfl, below_then HB.out HB.out.size HB6.out⟩
      · have c3b0 : decide ((l1.length : Int) ≤ i) = true := decide_eq_true (by omega)
        rw [show l1.drop i.toNat = [] from List.drop_of_length_le (by omega), impl_NaturalCompare.cmpL] at hc
        subst hc
        go_wp2
        go_ret
        exact ⟨rfl, HB.out⟩
    · have c2b0 : decide (i < (l0.length : Int)) = false := decide_eq_false hlt
      have hc := HC.out
      rw [show l0.drop i.toNat = [] from List.drop_of_length_le (by omega)] at hc
      by_cases hl2 : i < (l1.length : Int)
      · have c4 : decide ((l0.length : Int) < (l1.length : Int)) = true := decide_eq_true (by omega)
        have c4n : decide (l0.length < l1.length) = true := decide_eq_true (by omega)
        rw [impl_NaturalCompare.drop_rd l1 i hi0 hl2, impl_NaturalCompare.cmpL] at hc
        subst hc
        go_wp2
        go_ret
        exact ⟨rfl, HB.out⟩
      · have c4 : decide ((l0.length : Int) < (l1.length : Int)) = false := decide_eq_false (by omega)
        have c4n : decide (l0.length < l1.length) = false := decide_eq_false (by omega)
        rw [show l1.drop i.toNat = [] from List.drop_of_length_le (by omega), impl_NaturalCompare.cmpL] at hc
        subst hc
        go_wp2
        go_ret
        exact ⟨rfl, HB.out⟩
def impl_NaturalCompare.cf (x y : ByteArray) : Option Int := impl_compareRuns.f 1000 x y
def impl_NaturalCompare.f (a0 : ByteArray) (a1 : ByteArray) : Option (Int × Bool) := if (a0.size > 40 ∨ a1.size > 40) then some (0, false) else (impl_runsOf.f 1000 a0).bind fun X => (impl_runsOf.f 1000 a1).bind fun Y => if X.all (fun x => Y.all fun y => (impl_NaturalCompare.cf x y).isSome) = true then (strings_Compare.f a0 a1).bind fun d => (cmp_Or_int.f 1000 [impl_NaturalCompare.cmpL (fun x y => (impl_NaturalCompare.cf x y).getD 0) X Y, d]).bind fun r => some (r, true) else none
set_option maxHeartbeats 8000000 in
set_option maxRecDepth 100000 in
theorem impl_NaturalCompare.calls (a0 : ByteArray) (a1 : ByteArray) (r1 : Int) (r2 : Bool) (w : World) (h : impl_NaturalCompare.f a0 a1 = some (r1, r2)) :
    Calls Tryd.prog 6 #[.string a0, .string a1] w fun e w' => e = .returned (.tuple #[.int .i64 r1, .bool r2]) ∧ Below w.heap.size w w' := by
  unfold impl_NaturalCompare.f at h
  by_cases hs0 : a0.size > 40
  · rw [if_pos (.inl hs0)] at h
    obtain ⟨rfl, rfl⟩ := Prod.mk.inj (Option.some.inj h)
    clear h
    have c4b0 : decide (40 < (a0.size : Int)) = true := decide_eq_true (by omega)
    have c4b1 : decide (40 < a0.size) = true := decide_eq_true (by omega)
    go_enter Tryd.func6, Tryd.ntmps6
    go_wp2
    go_ret2
    exact ⟨rfl, by repeat (first | exact Below.refl _ _ | apply below_alloc | apply pw_below_drewN | apply below_drew)⟩
  have c4b0 : decide (40 < (a0.size : Int)) = false := decide_eq_false (by omega)
  have c4b1 : decide (40 < a0.size) = false := decide_eq_false (by omega)
  by_cases hs1 : a1.size > 40
  · rw [if_pos (.inr hs1)] at h
    obtain ⟨rfl, rfl⟩ := Prod.mk.inj (Option.some.inj h)
    clear h
    have c5b0 : decide (40 < (a1.size : Int)) = true := decide_eq_true (by omega)
    have c5b1 : decide (40 < a1.size) = true := decide_eq_true (by omega)
    go_enter Tryd.func6, Tryd.ntmps6
    go_wp2
    go_ret2
    exact ⟨rfl, by repeat (first | exact Below.refl _ _ | apply below_alloc | apply pw_below_drewN | apply below_drew)⟩
  have c5b0 : decide (40 < (a1.size : Int)) = false := decide_eq_false (by omega)
  have c5b1 : decide (40 < a1.size) = false := decide_eq_false (by omega)
  rw [if_neg (by omega)] at h
  obtain ⟨X, hX, h⟩ := Option.bind_eq_some_iff.1 h
  obtain ⟨Y, hY, h⟩ := Option.bind_eq_some_iff.1 h
  by_cases hall : X.all (fun x => Y.all fun y => (impl_NaturalCompare.cf x y).isSome) = true
  · rw [if_pos hall] at h
    obtain ⟨d, hd, h⟩ := Option.bind_eq_some_iff.1 h
    obtain ⟨r, hr, h⟩ := Option.bind_eq_some_iff.1 h
    obtain ⟨rfl, rfl⟩ := Prod.mk.inj (Option.some.inj h)
    clear h
    have hcf : ∀ (w0 : World) (x y : ByteArray) (W : World), x ∈ X → y ∈ Y → Below w0.heap.size w0 W → Calls Tryd.prog 21 #[.string x, .string y] W fun e W' => e = .returned (.int .i64 ((impl_NaturalCompare.cf x y).getD 0)) ∧ Below W.heap.size W W' := fun w0 x y W hx hy _ => by
      obtain ⟨c, hc⟩ := Option.isSome_iff_exists.1 (List.all_eq_true.1 (List.all_eq_true.1 hall x hx) y hy)
      rw [hc]
      exact impl_compareRuns.calls 1000 x y c W hc
    have HCF := fun w0 : World => Aside0.mk (hcf w0)
    obtain ⟨c, hc⟩ : ∃ c, impl_NaturalCompare.cmpL (fun x y => (impl_NaturalCompare.cf x y).getD 0) X Y = c := ⟨_, rfl⟩
    rw [hc] at hr
    have HCC := Aside0.mk hc
    have HX := Aside0.mk hX
    have HY := Aside0.mk hY
    have HD := Aside0.mk hd
    have HO := Aside0.mk hr
    have HB := Aside0.mk (Below.refl w.heap.size w)
    clear hcf hall hc hX hY hd hr hs0 hs1
    go_enter Tryd.func6, Tryd.ntmps6
    go_wp2_with (first | (go_at_call 20; (with_reducible refine (impl_runsOf.calls 1000 a0 X _ HX.out).mono ?_); rintro e w8 ⟨v8, rfl, ho, hb⟩; obtain ⟨AX, cX, rfl⟩ := Kd.R_slice ho; have HCX := Aside0.mk (Kd.R_reads' ho).2.2; have n0_ := Aside0.mk (below_step (by repeat (first | (with_reducible first | exact HB.out | apply below_alloc | apply pw_below_drewN | apply below_drew1) | exact HB.out)) hb); clear HB; have HB := n0_; clear n0_; clear hb ho) | (go_at_call 20; (with_reducible refine (impl_runsOf.calls 1000 a1 Y _ HY.out).mono ?_); rintro e w9 ⟨v9, rfl, ho, hb⟩; obtain ⟨AY, cY, rfl⟩ := Kd.R_slice ho; have HCY := Aside0.mk (Kd.R_reads' ho).2.2; have HCX2 := Aside0.mk (Kd.C_below HCX.out hb); have n0_ := Aside0.mk (below_step (by repeat (first | (with_reducible first | exact HB.out | apply below_alloc | apply pw_below_drewN | apply below_drew1) | exact HB.out)) hb); clear HB; have HB := n0_; clear n0_; clear hb ho) | (go_at_call 19; refine (impl_NaturalCompare.cmp 21 (fun x y => (impl_NaturalCompare.cf x y).getD 0) AX cX X AY cY Y _ HCX2.out HCY.out (enters_of Tryd.func21 (by kernel_rfl) rfl) (HCF _).out).mono ?_; rintro e w10 ⟨rfl, hb⟩; rw [HCC.out]; have n0_ := Aside0.mk (below_step (by repeat (first | (with_reducible first | exact HB.out | apply below_alloc | apply pw_below_drewN | apply below_drew1) | exact HB.out)) hb); clear HB; have HB := n0_; clear n0_; clear hb) | (go_at_call 22; (with_reducible refine (strings_Compare.calls a0 a1 d _ HD.out).mono ?_); rintro e w' ⟨rfl, ⟨nd, rfl⟩⟩) | ((with_reducible refine gate_dst (N := 22) rfl ?_); refine Kd.R_lit (Kd.int .i64) _ 3 ?hg (N := 22) ?hd (xs := ([c, d] : List Int)) (inner := [.int .i64 c, .int .i64 d]) (ok := fun _ => True) (okp := fun _ => True) ?hr ?hp (fun _ hk => hk) trivial (Below.refl _ _) (Nat.le_refl _) (by simp) ?_; (case hd => rfl); (case hg => rfl); (case hr => first | (go_simp; done) | (go_simp; rfl)); (case hp => exact (Reps.one (show Kd.M (Kd.int .i64) _ _ _ c [.int .i64 c] from rfl) (Reps.one (show Kd.M (Kd.int .i64) _ _ _ d [.int .i64 d] from rfl) (Reps.none _ _)))); intro v156 w12 ho hb hg_ hnew_; clear hg_ hnew_; obtain ⟨A2, c2, rfl⟩ := Kd.R_slice ho; have HC2 := Aside0.mk (Kd.R_reads' ho); have n0_ := Aside0.mk (below_step (by repeat (first | (with_reducible first | exact HB.out | apply below_alloc | apply pw_below_drewN | apply below_drew1) | exact HB.out)) hb); clear HB; have HB := n0_; clear n0_; clear hb ho) | (go_at_call 18; refine (cmp_Or_int.calls 1000 _ _ [c, d] r _ HC2.out.2.2 HC2.out.2.1 HO.out).mono ?_; rintro e w' ⟨rfl, ⟨nd2, rfl⟩⟩))
    go_ret2
    exact ⟨rfl, by repeat (first | (with_reducible first | exact HB.out | apply below_alloc | apply pw_below_drewN | apply below_drew1) | exact HB.out)⟩
  · rw [if_neg hall] at h
    exact absurd h (by simp)

/-! ### laws_vBig: function 7 -/
def laws_vBig.f (l0 : List Int) : Option (Bool) := some (decide ((l0.length : Int) > 65536))
set_option maxHeartbeats 8000000 in
set_option maxRecDepth 100000 in
theorem laws_vBig.calls (A0 : Option Addr) (c0 : Nat) (l0 : List Int) (r : Bool) (w : World) (hr0 : Kd.C (Kd.int .u8) w A0 l0.length l0) (hc0 : l0.length ≤ c0) (h : laws_vBig.f l0 = some r) :
    Calls Tryd.prog 7 #[.slice A0 l0.length c0] w fun e w' => e = .returned (.bool r) ∧ Drawn0 w w' := by
  have HR0 := Aside0.mk hr0
  have HC0 := Aside0.mk hc0
  clear hr0 hc0
  have H : (some (decide ((l0.length : Int) > 65536))) = some r := h
  clear h
  obtain rfl := Option.some.inj H
  go_enter Tryd.func7, Tryd.ntmps7
  go_wp2
  go_ret
  exact ⟨by first | rfl | (simp; done) | (simp [*]; done), by repeat (first | exact Drawn0.refl _ | apply Drawn0.step)⟩

end Go.Proofs.YtblcelelmjngfaaDoor.Px
