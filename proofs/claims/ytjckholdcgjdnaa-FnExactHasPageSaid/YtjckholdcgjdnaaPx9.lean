/- That calls of Go functions come to what the Lean functions beside them say; written by a program of this session (wip/xprint) over the printed words; no conditions. -/
import Derived.Test.YtjckholdcgjdnaaPx0
import Derived.Test.YtjckholdcgjdnaaPx1
import Derived.Test.YtjckholdcgjdnaaPx5
namespace Go.Proofs.Ytjckholdcgjdnaa.Px
open Go.RowKit Go.Proofs.YtjckholdcgjdnaaW.PrintWords Go.Proofs.YtjckholdcgjdnaaW.PrintLast Go.Proofs.YtjckholdcgjdnaaW.PrintMore
attribute [local go_sem] max2_int min2_int max_two min_two max_three min_three max_four min_four   -- for this text's walks alone
set_option linter.unusedVariables false
set_option linter.unusedSimpArgs false

/-! ### impl_HasPage: function 13 -/
def impl_HasPage.hit (a1 : ByteArray) (a2 : Int) (x : S40) : Bool := (x.f0.toList == a1.toList) && (decide (a2 ≥ x.f1) && decide (a2 ≤ x.f2))
theorem impl_HasPage.inside_eq (a b c : Int) : impl_inside.f a b c = some (decide (a ≥ b) && decide (a ≤ c)) := by
  unfold impl_inside.f
  by_cases h : a ≥ b
  · rw [if_pos h, decide_eq_true h]; rfl
  · rw [if_neg h, decide_eq_false h]; rfl
set_option maxHeartbeats 8000000 in
set_option maxRecDepth 100000 in
theorem impl_HasPage.clo (b1 b2 : Nat) (a1 : ByteArray) (a2 : Int) (x : S40) (W : World) (h1 : W.cell? ⟨b1, 0, none⟩ = some (.string a1)) (h2 : W.cell? ⟨b2, 0, none⟩ = some (.int .i64 a2)) :
    Calls Try.prog 31 #[.agg #[.string x.f0, .int .i64 x.f1, .int .i64 x.f2], .pointer (some ⟨b1, 0, none⟩), .pointer (some ⟨b2, 0, none⟩)] W fun e W' => e = .returned (.bool (impl_HasPage.hit a1 a2 x)) ∧ Below W.heap.size W W' := by
  have hu40 := Try.underlying40
  obtain ⟨f0, f1, f2⟩ := x
  simp only
  have k1 := fun o : Obj => (Below.cell (below_alloc (Below.refl W.heap.size W) o) (World.block_lt_of_cell? W _ h1)).trans h1
  have k2 := fun o : Obj => (Below.cell (below_alloc (Below.refl W.heap.size W) o) (World.block_lt_of_cell? W _ h2)).trans h2
  unfold impl_HasPage.hit
  simp only
  cases hs : (f0.toList == a1.toList) with
  | false =>
    go_enter Try.func31, Try.ntmps31
    go_wp2
    go_ret
    exact ⟨rfl, by repeat (first | exact Below.refl _ _ | apply below_alloc | apply pw_below_drewN | apply below_drew)⟩
  | true =>
    have HI := Aside0.mk (impl_HasPage.inside_eq a2 f1 f2)
    generalize (decide (a2 ≥ f1) && decide (a2 ≤ f2)) = q at HI ⊢
    go_enter Try.func31, Try.ntmps31
    go_wp2_with (go_at_call 23; (with_reducible refine (impl_inside.calls a2 f1 f2 q _ HI.out).mono ?_); rintro e w5 ⟨rfl, ⟨m5, rfl⟩⟩)
    go_ret
    exact ⟨rfl, by repeat (first | exact Below.refl _ _ | apply below_alloc | apply pw_below_drewN | apply below_drew)⟩
def impl_HasPage.f (l0 : List (S40)) (a1 : ByteArray) (a2 : Int) : Option (Bool × Bool) := (impl_IsValidPages.f l0).bind fun v => (impl_isPartLetter.f a1).bind fun t => (impl_inside.f a2 1 99999).bind fun u => if (v && (t && u)) = true then some (l0.any (impl_HasPage.hit a1 a2), true) else some (false, false)
set_option maxHeartbeats 8000000 in
set_option maxRecDepth 100000 in
theorem impl_HasPage.calls (A0 : Option Addr) (c0 : Nat) (l0 : List (S40)) (a1 : ByteArray) (a2 : Int) (r1 : Bool) (r2 : Bool) (w : World) (hr0 : Kd.C k40 w A0 l0.length l0) (hc0 : l0.length ≤ c0) (h : impl_HasPage.f l0 a1 a2 = some (r1, r2)) :
    Calls Try.prog 13 #[.slice A0 l0.length c0, .string a1, .int .i64 a2] w fun e w' => e = .returned (.tuple #[.bool r1, .bool r2]) ∧ Below w.heap.size w w' := by
  have HR0 := Aside0.mk hr0
  have HC0 := Aside0.mk hc0
  have hmax := Kd.C_max hr0
  have HMAX := Aside0.mk hmax
  clear hr0 hc0 hmax
  unfold impl_HasPage.f at h
  obtain ⟨v, hv, h⟩ := Option.bind_eq_some_iff.1 h
  obtain ⟨t, ht, h⟩ := Option.bind_eq_some_iff.1 h
  obtain ⟨u, hu, h⟩ := Option.bind_eq_some_iff.1 h
  have HV := Aside0.mk hv
  have HT := Aside0.mk ht
  have HU := Aside0.mk hu
  clear hv ht hu
  have hA : ((w.alloc (.cells #[.string a1] 9)).alloc (.cells #[.int .i64 a2] 3)).cell? ⟨w.heap.size, 0, none⟩ = some (.string a1) := by simp
  have hB : ((w.alloc (.cells #[.string a1] 9)).alloc (.cells #[.int .i64 a2] 3)).cell? ⟨w.heap.size + 1, 0, none⟩ = some (.int .i64 a2) := by simp
  have HA := Aside0.mk hA
  have HB := Aside0.mk hB
  clear hA hB
  have bel : Below w.heap.size w ((w.alloc (.cells #[.string a1] 9)).alloc (.cells #[.int .i64 a2] 3)) := below_alloc (below_alloc (Below.refl _ _) _) _
  have BEL := Aside0.mk bel
  clear bel
  have HQ : Aside0 (l0.any (impl_HasPage.hit a1 a2) = l0.any (impl_HasPage.hit a1 a2)) := ⟨rfl⟩
  generalize hq : l0.any (impl_HasPage.hit a1 a2) = q at h
  have HQ2 := Aside0.mk hq
  clear hq HQ
  have h' : r1 = (v && (t && u) && q) ∧ r2 = (v && (t && u)) := by
    cases hvt : (v && (t && u)) with
    | true => rw [hvt, if_pos rfl] at h; obtain ⟨rfl, rfl⟩ := Prod.mk.inj (Option.some.inj h); exact ⟨rfl, rfl⟩
    | false => rw [hvt, if_neg (by decide)] at h; obtain ⟨rfl, rfl⟩ := Prod.mk.inj (Option.some.inj h); exact ⟨rfl, rfl⟩
  clear h
  obtain ⟨rfl, rfl⟩ := h'
  cases v with
  | false =>
    go_enter Try.func13, Try.ntmps13
    go_wp2_with (go_at_call 10; (with_reducible refine (impl_IsValidPages.calls A0 c0 l0 false _ ?side1 HC0.out HV.out).mono ?_); (case side1 => exact Kd.C_alloc (Kd.C_alloc HR0.out _) _); rintro e w5 ⟨rfl, hb⟩; have HB5 := Aside0.mk hb; clear hb)
    go_ret2
    exact ⟨rfl, below_then BEL.out BEL.out.size HB5.out⟩
  | true =>
    cases t with
    | false =>
      go_enter Try.func13, Try.ntmps13
      go_wp2_with (first | (go_at_call 10; (with_reducible refine (impl_IsValidPages.calls A0 c0 l0 true _ ?side1 HC0.out HV.out).mono ?_); (case side1 => exact Kd.C_alloc (Kd.C_alloc HR0.out _) _); rintro e w5 ⟨rfl, hb⟩; have hc1 := (hb.cell (World.block_lt_of_cell? _ _ HA.out)).trans HA.out; have HB5 := Aside0.mk hb; clear hb) | (go_at_call 30; (with_reducible refine (impl_isPartLetter.calls a1 false _ HT.out).mono ?_); rintro e w6 ⟨rfl, ⟨m6, rfl⟩⟩))
      go_ret2
      exact ⟨rfl, by (try apply pw_below_drewN); exact below_then BEL.out BEL.out.size HB5.out⟩
    | true =>
      cases u with
      | false =>
        go_enter Try.func13, Try.ntmps13
        go_wp2_with (first | (go_at_call 10; (with_reducible refine (impl_IsValidPages.calls A0 c0 l0 true _ ?side1 HC0.out HV.out).mono ?_); (case side1 => exact Kd.C_alloc (Kd.C_alloc HR0.out _) _); rintro e w5 ⟨rfl, hb⟩; have hc1 := (hb.cell (World.block_lt_of_cell? _ _ HA.out)).trans HA.out; have hc2 := (hb.cell (World.block_lt_of_cell? _ _ HB.out)).trans HB.out; have HB5 := Aside0.mk hb; clear hb) | (go_at_call 30; (with_reducible refine (impl_isPartLetter.calls a1 true _ HT.out).mono ?_); rintro e w6 ⟨rfl, ⟨m6, rfl⟩⟩) | (go_at_call 23; (with_reducible refine (impl_inside.calls a2 1 99999 false _ HU.out).mono ?_); rintro e w7 ⟨rfl, ⟨m7, rfl⟩⟩))
        go_ret2
        exact ⟨rfl, by (repeat apply pw_below_drewN); exact below_then BEL.out BEL.out.size HB5.out⟩
      | true =>
        go_enter Try.func13, Try.ntmps13
        go_wp2_with (first | (go_at_call 10; (with_reducible refine (impl_IsValidPages.calls A0 c0 l0 true _ ?side1 HC0.out HV.out).mono ?_); (case side1 => exact Kd.C_alloc (Kd.C_alloc HR0.out _) _); rintro e w5 ⟨rfl, hb⟩; have hc1 := (hb.cell (World.block_lt_of_cell? _ _ HA.out)).trans HA.out; have hc2 := (hb.cell (World.block_lt_of_cell? _ _ HB.out)).trans HB.out; have HC5 := Aside0.mk (And.intro hc1 hc2); have HB5 := Aside0.mk hb; clear hb) | (go_at_call 30; (with_reducible refine (impl_isPartLetter.calls a1 true _ HT.out).mono ?_); rintro e w6 ⟨rfl, ⟨m6, rfl⟩⟩) | (go_at_call 23; (with_reducible refine (impl_inside.calls a2 1 99999 true _ HU.out).mono ?_); rintro e w7 ⟨rfl, ⟨m7, rfl⟩⟩) | (go_at_call 24; refine (impl_IsValidPages.contains 31 #[.pointer (some ⟨w.heap.size, 0, none⟩), .pointer (some ⟨w.heap.size + 1, 0, none⟩)] (impl_HasPage.hit a1 a2) A0 c0 l0 _ ?side3 HC0.out HMAX.out (enters_of Try.func31 (by kernel_rfl) rfl) ?side4).mono ?_; (case side3 => (repeat with_reducible refine Kd.C_drewN ?_ _); exact Kd.C_below (Kd.C_alloc (Kd.C_alloc HR0.out _) _) HB5.out); (case side4 => exact fun x W hx hW => impl_HasPage.clo w.heap.size (w.heap.size + 1) a1 a2 x W ((hW.cell (World.block_lt_of_cell? w5 _ HC5.out.1)).trans HC5.out.1) ((hW.cell (World.block_lt_of_cell? w5 _ HC5.out.2)).trans HC5.out.2)); rintro e w8 ⟨rfl, hb8⟩; rw [HQ2.out]; have HB8 := Aside0.mk hb8; clear hb8))
        go_ret2
        refine ⟨rfl, below_then (w1 := w5.drewN (m6 + m7)) ?_ ?_ HB8.out⟩
        · exact pw_below_drewN (below_then BEL.out BEL.out.size HB5.out) _
        · exact (below_then BEL.out BEL.out.size HB5.out).size

end Go.Proofs.Ytjckholdcgjdnaa.Px
