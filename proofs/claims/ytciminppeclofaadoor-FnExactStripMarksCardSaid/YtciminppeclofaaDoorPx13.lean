/- That calls of Go functions come to what the Lean functions beside them say; written by a program of this session (wip/xprint) over the printed words; no conditions. -/
import Derived.Test.YtciminppeclofaaDoorPx0
import Derived.Test.YtciminppeclofaaDoorPx5
namespace Go.Proofs.YtciminppeclofaaDoor.Px
open Go.RowKit Go.Proofs.YtciminppeclofaaDoorW.PrintWords Go.Proofs.YtciminppeclofaaDoorW.PrintLast Go.Proofs.YtciminppeclofaaDoorW.PrintMore
attribute [local go_sem] max2_int min2_int max_two min_two max_three min_three max_four min_four   -- for this text's walks alone
set_option linter.unusedVariables false
set_option linter.unusedSimpArgs false

/-! ### impl_StripMarks: function 9 -/
/-- A mark or a space. -/
def impl_StripMarks.inS (x : Int) : Bool := [(46 : UInt8), 44, 59, 58, 33, 63, 32].contains x.toNat.toUInt8
def impl_StripMarks.tl : Nat → ByteArray → Option ByteArray
  | 0, _ => none
  | k + 1, x0 => if (x0.size : Int) > 0 then (if impl_StripMarks.inS (bt x0 0) = true then impl_StripMarks.tl k (x0.extract 1 x0.size) else some x0) else some x0
def impl_StripMarks.tr : Nat → ByteArray → Option ByteArray
  | 0, _ => none
  | k + 1, x0 => if (x0.size : Int) > 0 then (if impl_StripMarks.inS (bt x0 (wrap64 ((x0.size : Int) - 1))) = true then impl_StripMarks.tr k (x0.extract 0 (wrap64 ((x0.size : Int) - 1)).toNat) else some x0) else some x0
theorem impl_StripMarks.tl_mono : ∀ k y, LeO (impl_StripMarks.tl k y) (impl_StripMarks.tl (k + 1) y)
  | 0, _ => fun r h => by simp [impl_StripMarks.tl] at h
  | k + 1, y => by
    unfold impl_StripMarks.tl
    exact LeO.ite (LeO.ite (impl_StripMarks.tl_mono k _) (LeO.refl _)) (LeO.refl _)
theorem impl_StripMarks.tr_mono : ∀ k y, LeO (impl_StripMarks.tr k y) (impl_StripMarks.tr (k + 1) y)
  | 0, _ => fun r h => by simp [impl_StripMarks.tr] at h
  | k + 1, y => by
    unfold impl_StripMarks.tr
    exact LeO.ite (LeO.ite (impl_StripMarks.tr_mono k _) (LeO.refl _)) (LeO.refl _)
def impl_StripMarks.f (k : Nat) (a0 : ByteArray) : Option (ByteArray × Bool) := (impl_isPart.f k a0).bind fun t => if t = true then (if a0.size ≤ 140737488351232 then (impl_StripMarks.tr k a0).bind fun u => (impl_StripMarks.tl k u).bind fun v => some (v, true) else none) else some ((⟨#[]⟩ : ByteArray), false)
theorem impl_StripMarks.mono : ∀ a0 k, LeO (impl_StripMarks.f k a0) (impl_StripMarks.f (k + 1) a0) := by
  intro a0 k
  unfold impl_StripMarks.f
  exact LeO.bind (impl_isPart.mono _ _) (fun _ => LeO.ite (LeO.ite (LeO.bind (impl_StripMarks.tr_mono k _) (fun _ => LeO.bind (impl_StripMarks.tl_mono k _) (fun _ => LeO.refl _))) (LeO.none _)) (LeO.refl _))
set_option maxHeartbeats 2000000 in
set_option maxRecDepth 100000 in
theorem impl_StripMarks.cont (b : Nat) (x : Int) (v : Bool) (w : World) (h0 : 0 ≤ x) (h1 : x ≤ 255) (hc : w.cell? ⟨b, x.toNat, none⟩ = some (.bool v)) :
    Calls Tryd.prog 36 #[.pointer (some ⟨b, 0, none⟩), .int .u8 x] w fun e w' => e = .returned (.bool v) ∧ w' = w := by
  have p1 : (0 ≤ x) = True := eq_true h0
  have p2 : (x < 256) = True := eq_true (by omega)
  go_enter Tryd.func36, Tryd.ntmps36
  go_wp2
  go_ret
  exact ⟨rfl, rfl⟩
theorem impl_StripMarks.make (w : World) : Calls Tryd.prog 26 #[.string ⟨#[46, 44, 59, 58, 33, 63, 32]⟩] w fun e w' => e = .returned (.tuple #[.agg (Lib.setCells [46, 44, 59, 58, 33, 63, 32]), .bool true]) ∧ w' = w.alloc (.cells (Lib.setCells [46, 44, 59, 58, 33, 63, 32]) 36) :=
  Any.strings_makeASCIISet impl_StripMarks.lays227 (fun w => by kernel_rfl) (by kernel_rfl) ⟨#[46, 44, 59, 58, 33, 63, 32]⟩ w (by decide) (fun j b h => (by decide : ∀ b ∈ [(46 : UInt8), 44, 59, 58, 33, 63, 32], b.toNat < 128) b (List.mem_of_getElem? h))
/-- The set lies in a block. -/
def impl_StripMarks.Set (w : World) (b : Nat) : Prop := ∀ x : Int, 0 ≤ x → x ≤ 255 → w.cell? ⟨b, x.toNat, none⟩ = some (.bool (impl_StripMarks.inS x))
set_option maxHeartbeats 8000000 in
set_option maxRecDepth 100000 in
theorem impl_StripMarks.left (k : Nat) (a0 : ByteArray) (b : Nat) (r : ByteArray) (w : World) (hs : impl_StripMarks.Set w b) (h : impl_StripMarks.tl k a0 = some r) :
    Calls Tryd.prog 31 #[.string a0, .pointer (some ⟨b, 0, none⟩)] w fun e w' => e = .returned (.string r) ∧ w' = w := by
  have H' := Aside0.mk h
  have HS := Aside0.mk hs
  clear h hs
  go_enter Tryd.func31, Tryd.ntmps31
  go_wp2
  go_loopg [0] k (fun kq v0 w' => ∃ (x : ByteArray), v0 = .string x ∧ Aside0 (impl_StripMarks.tl kq x = some r) ∧ Aside0 (kq ≤ k) ∧ w' = w)
  case atStart => exact ⟨a0, rfl, H', ⟨Nat.le_refl _⟩, rfl⟩
  case round =>
    clear H'
    obtain ⟨x, rfl, HA, HK1, rfl⟩ := hrel
    cases gk with
    | zero => exact absurd HA.out (by simp [impl_StripMarks.tl])
    | succ k1 =>
      have H := HA.out
      clear HA
      simp only [impl_StripMarks.tl] at H
      by_cases c3 : (x.size : Int) > 0
      · rw [if_pos c3] at H
        have c3b0 : decide (0 < (x.size : Int)) = true := decide_eq_true c3
        have c3b1 : decide (0 < x.size) = true := decide_eq_true (by omega)
        have hx7 : ∀ h : 0 < x.size, ((x[0].toNat : Nat) : Int) = bt x 0 := bt_at x 0
        have q7 : (0 < x.size) = True := eq_true (by omega)
        have c4b0 : decide (1 ≤ (x.size : Int)) = true := decide_eq_true (by omega)
        have hr := bt_range x 0
        have hcell := HS.out (bt x 0) hr.1 hr.2
        have HC := Aside0.mk hcell
        clear hcell
        have HR := Aside0.mk hr
        clear hr
        by_cases c8 : impl_StripMarks.inS (bt x 0) = true
        · rw [if_pos c8] at H
          rw [c8] at HC
          have H' := Aside0.mk H
          clear H c8
          go_wp2_with (go_at_call 36; (with_reducible refine (impl_StripMarks.cont b (bt x 0) true _ HR.out.1 HR.out.2 HC.out).mono ?_); rintro e w' ⟨rfl, rfl⟩)
          go_roundg k1
          case measure => have := HK1.out; omega
          case rel => exact ⟨x.extract 1 x.size, rfl, H', ⟨by have := HK1.out; omega⟩, rfl⟩
        · rw [if_neg c8] at H
          have c9 : impl_StripMarks.inS (bt x 0) = false := by simpa using c8
          rw [c9] at HC
          clear c8 c9
          obtain rfl := Option.some.inj H
          clear H
          go_wp2_with (go_at_call 36; (with_reducible refine (impl_StripMarks.cont b (bt x 0) false _ HR.out.1 HR.out.2 HC.out).mono ?_); rintro e w' ⟨rfl, rfl⟩)
          go_ret
          exact ⟨rfl, rfl⟩
      · rw [if_neg c3] at H
        have c3b0 : decide (0 < (x.size : Int)) = false := decide_eq_false c3
        have c3b1 : decide (0 < x.size) = false := decide_eq_false (by omega)
        obtain rfl := Option.some.inj H
        go_wp2
        go_ret
        exact ⟨rfl, rfl⟩
set_option maxHeartbeats 8000000 in
set_option maxRecDepth 100000 in
theorem impl_StripMarks.right (k : Nat) (a0 : ByteArray) (b : Nat) (r : ByteArray) (w : World) (hs : impl_StripMarks.Set w b) (hz : a0.size ≤ 140737488351232) (h : impl_StripMarks.tr k a0 = some r) :
    Calls Tryd.prog 27 #[.string a0, .pointer (some ⟨b, 0, none⟩)] w fun e w' => e = .returned (.string r) ∧ w' = w := by
  have H' := Aside0.mk h
  have HS := Aside0.mk hs
  clear h hs
  go_enter Tryd.func27, Tryd.ntmps27
  go_wp2
  go_loopg [0] k (fun kq v0 w' => ∃ (x : ByteArray), v0 = .string x ∧ Aside0 (impl_StripMarks.tr kq x = some r) ∧ Aside0 (kq ≤ k) ∧ Aside0 (x.size ≤ 140737488351232) ∧ w' = w)
  case atStart => exact ⟨a0, rfl, H', ⟨Nat.le_refl _⟩, ⟨hz⟩, rfl⟩
  case round =>
    clear H' hz
    obtain ⟨x, rfl, HA, HK1, HZ, rfl⟩ := hrel
    cases gk with
    | zero => exact absurd HA.out (by simp [impl_StripMarks.tr])
    | succ k1 =>
      have H := HA.out
      clear HA
      have hz := HZ.out
      simp only [impl_StripMarks.tr] at H
      by_cases c3 : (x.size : Int) > 0
      · rw [if_pos c3] at H
        have c3b0 : decide (0 < (x.size : Int)) = true := decide_eq_true c3
        have c3b1 : decide (0 < x.size) = true := decide_eq_true (by omega)
        obtain ⟨ji, hji⟩ : ∃ j_ : Int, wrap64 ((x.size : Int) - 1) = j_ := ⟨_, rfl⟩
        have hv : ji = (x.size : Int) - 1 := by rw [← hji]; unfold wrap64; omega
        rw [hji] at H
        have hjiw : (IntKind.i64.wrap ((x.size : Int) - 1)) = ji := (i64_w _).trans hji
        have p7 : (0 ≤ ji) = True := eq_true (by omega)
        have q7 : (ji < (x.size : Int)) = True := eq_true (by omega)
        have p8 : decide (0 ≤ ji) = true := decide_eq_true (by omega)
        have q8 : decide (ji ≤ (x.size : Int)) = true := decide_eq_true (by omega)
        have q9 : (ji ≤ (x.size : Int)) = True := eq_true (by omega)
        have hx7 := bt_at x ji
        have hr := bt_range x ji
        have hcell := HS.out (bt x ji) hr.1 hr.2
        have HC := Aside0.mk hcell
        clear hcell
        have HR := Aside0.mk hr
        clear hr
        have hez : (x.extract 0 ji.toNat).size ≤ 140737488351232 := by rw [ByteArray.size_extract]; omega
        have HE := Aside0.mk hez
        clear hez hz hv
        by_cases c8 : impl_StripMarks.inS (bt x ji) = true
        · rw [if_pos c8] at H
          rw [c8] at HC
          have H' := Aside0.mk H
          clear H c8
          go_wp2_with (go_at_call 36; (with_reducible refine (impl_StripMarks.cont b (bt x ji) true _ HR.out.1 HR.out.2 HC.out).mono ?_); rintro e w' ⟨rfl, rfl⟩)
          go_roundg k1
          case measure => have := HK1.out; omega
          case rel => exact ⟨x.extract 0 ji.toNat, by first | rfl | (simp only [← hji] <;> (first | rfl | simp)) | (simp [*]; done), H', ⟨by have := HK1.out; omega⟩, HE, rfl⟩
        · rw [if_neg c8] at H
          have c9 : impl_StripMarks.inS (bt x ji) = false := by simpa using c8
          rw [c9] at HC
          clear c8 c9
          obtain rfl := Option.some.inj H
          clear H
          go_wp2_with (go_at_call 36; (with_reducible refine (impl_StripMarks.cont b (bt x ji) false _ HR.out.1 HR.out.2 HC.out).mono ?_); rintro e w' ⟨rfl, rfl⟩)
          go_ret
          exact ⟨rfl, rfl⟩
      · rw [if_neg c3] at H
        have c3b0 : decide (0 < (x.size : Int)) = false := decide_eq_false c3
        have c3b1 : decide (0 < x.size) = false := decide_eq_false (by omega)
        obtain rfl := Option.some.inj H
        go_wp2
        go_ret
        exact ⟨rfl, rfl⟩
theorem impl_StripMarks.setW (w : World) : impl_StripMarks.Set ((w.alloc (.cells (Lib.setCells [46, 44, 59, 58, 33, 63, 32]) 36)).alloc (.cells (Lib.setCells [46, 44, 59, 58, 33, 63, 32]) 36)) (w.heap.size + 1) := by
  intro x h0 h1
  have e : x.toNat.toUInt8.toNat = x.toNat := by
    show x.toNat % 256 = x.toNat
    omega
  have h := Lib.setCells_at [46, 44, 59, 58, 33, 63, 32] x.toNat.toUInt8
  rw [e] at h
  show ((w.alloc (.cells (Lib.setCells [46, 44, 59, 58, 33, 63, 32]) 36)).alloc (.cells (Lib.setCells [46, 44, 59, 58, 33, 63, 32]) 36)).cell? ⟨w.heap.size + 1, x.toNat, none⟩ = _
  rw [World.cell?_alloc_at _ _ _ _ (by simp), h]
  rfl
theorem impl_StripMarks.tl0 (k : Nat) (a0 r : ByteArray) (h0 : a0.size = 0) (h : impl_StripMarks.tl k a0 = some r) : r = a0 := by
  cases k with
  | zero => simp [impl_StripMarks.tl] at h
  | succ k => simpa [impl_StripMarks.tl, h0] using h.symm
theorem impl_StripMarks.tr0 (k : Nat) (a0 r : ByteArray) (h0 : a0.size = 0) (h : impl_StripMarks.tr k a0 = some r) : r = a0 := by
  cases k with
  | zero => simp [impl_StripMarks.tr] at h
  | succ k => simpa [impl_StripMarks.tr, h0] using h.symm
set_option maxHeartbeats 8000000 in
set_option maxRecDepth 100000 in
theorem impl_StripMarks.trim (k : Nat) (a0 u v : ByteArray) (w : World) (hz : a0.size ≤ 140737488351232) (h1 : impl_StripMarks.tr k a0 = some u) (h2 : impl_StripMarks.tl k u = some v) :
    Calls Tryd.prog 19 #[.string a0, .string ⟨#[46, 44, 59, 58, 33, 63, 32]⟩] w fun e w' => e = .returned (.string v) ∧ Below w.heap.size w w' := by
  have H1 := Aside0.mk h1
  have H2 := Aside0.mk h2
  clear h1 h2
  by_cases h3 : a0.size = 0
  · have he : a0 = ByteArray.mk #[] := ByteArray.ext (Array.eq_empty_of_size_eq_zero h3)
    have hr := impl_StripMarks.tr0 k a0 u h3 H1.out
    subst hr
    have hr := impl_StripMarks.tl0 k u v h3 H2.out
    subst hr
    have hb0 : v.toList.isEmpty = true := by rw [he, Lib.toList_data]; rfl
    go_enter Tryd.func19, Tryd.ntmps19
    go_wp2
    go_ret
    exact ⟨rfl, Below.refl _ _⟩
  · have hz0 : ¬ a0.toList = [] := fun e => by
      have := congrArg List.length e
      rw [Lib.toList_data] at this
      simp at this
      rw [this] at h3
      simp at h3
    have hb0 : a0.toList.isEmpty = false := by simpa using hz0
    have hb1 : (⟨#[46, 44, 59, 58, 33, 63, 32]⟩ : ByteArray).toList.isEmpty = false := by rw [Lib.toList_data]; rfl
    have hz36 : ∀ W : World, (zeroValue 36).run Tryd.prog W = .ok (.agg (Array.replicate 256 (.bool false))) W := fun W => by kernel_rfl
    have hi36 : (Tryd.prog.info? 36).map (·.size) = some 256 := by kernel_rfl
    have hsc : (storeCells ⟨w.heap.size + 1, 0, none⟩ (Lib.setCells [46, 44, 59, 58, 33, 63, 32]).toList 0).run Tryd.prog ((w.alloc (.cells (Lib.setCells [46, 44, 59, 58, 33, 63, 32]) 36)).alloc (.cells (Array.replicate 256 (.bool false)) 36)) = .ok () ((w.alloc (.cells (Lib.setCells [46, 44, 59, 58, 33, 63, 32]) 36)).alloc (.cells (Lib.setCells [46, 44, 59, 58, 33, 63, 32]) 36)) := by
      have := run_storeCells_new (P := Tryd.prog) (w.alloc (.cells (Lib.setCells [46, 44, 59, 58, 33, 63, 32]) 36)) 36 (Array.replicate 256 (.bool false)) (Lib.setCells [46, 44, 59, 58, 33, 63, 32]) (by rw [Lib.setCells_size]; exact hi36) (by rw [Lib.setCells_size, Array.size_replicate]) (Lib.setCells_one _)
      simpa using this
    have hsz := Lib.setCells_size [46, 44, 59, 58, 33, 63, 32]
    have hM := impl_StripMarks.make w
    have HZ := Aside0.mk hz
    clear hz
    generalize hS : Lib.setCells [46, 44, 59, 58, 33, 63, 32] = S at hsc hsz hM
    have HSET : Aside0 (impl_StripMarks.Set ((w.alloc (.cells S 36)).alloc (.cells S 36)) (w.heap.size + 1)) := ⟨by rw [← hS]; exact impl_StripMarks.setW w⟩
    clear hS
    go_enter Tryd.func19, Tryd.ntmps19
    go_wp2_with (first | (go_at_call 26; refine hM.mono ?_; rintro e w' ⟨rfl, hw⟩; rw [hw]) | (go_at_call 27; (with_reducible refine (impl_StripMarks.right k a0 (w.heap.size + 1) u _ (HSET.out) HZ.out H1.out).mono ?_); rintro e w' ⟨rfl, rfl⟩) | (go_at_call 31; (with_reducible refine (impl_StripMarks.left k u (w.heap.size + 1) v _ (HSET.out) H2.out).mono ?_); rintro e w' ⟨rfl, rfl⟩))
    go_ret
    exact ⟨rfl, below_alloc (below_alloc (Below.refl _ _) _) _⟩
set_option maxHeartbeats 8000000 in
set_option maxRecDepth 100000 in
theorem impl_StripMarks.calls (k : Nat) (a0 : ByteArray) (r1 : ByteArray) (r2 : Bool) (w : World) (h : impl_StripMarks.f k a0 = some (r1, r2)) :
    Calls Tryd.prog 9 #[.string a0] w fun e w' => e = .returned (.tuple #[.string r1, .bool r2]) ∧ Below w.heap.size w w' := by
  unfold impl_StripMarks.f at h
  obtain ⟨t, ht, h⟩ := Option.bind_eq_some_iff.1 h
  have HT := Aside0.mk ht
  clear ht
  cases t with
  | false =>
    rw [if_neg (by decide)] at h
    obtain ⟨rfl, rfl⟩ := Prod.mk.inj (Option.some.inj h)
    clear h
    go_enter Tryd.func9, Tryd.ntmps9
    go_wp2_with (go_at_call 15; (with_reducible refine (impl_isPart.calls k a0 false _ HT.out).mono ?_); rintro e w5 ⟨rfl, ⟨m5, rfl⟩⟩)
    go_ret2
    exact ⟨rfl, by repeat (first | exact Below.refl _ _ | apply below_alloc | apply pw_below_drewN | apply below_drew)⟩
  | true =>
    rw [if_pos rfl] at h
    by_cases hz : a0.size ≤ 140737488351232
    · rw [if_pos hz] at h
      obtain ⟨u, hu, h⟩ := Option.bind_eq_some_iff.1 h
      obtain ⟨v, hv, h⟩ := Option.bind_eq_some_iff.1 h
      obtain ⟨rfl, rfl⟩ := Prod.mk.inj (Option.some.inj h)
      clear h
      have HZ := Aside0.mk hz
      have HU := Aside0.mk hu
      have HV := Aside0.mk hv
      clear hz hu hv
      go_enter Tryd.func9, Tryd.ntmps9
      go_wp2_with (first | (go_at_call 15; (with_reducible refine (impl_isPart.calls k a0 true _ HT.out).mono ?_); rintro e w5 ⟨rfl, ⟨m5, rfl⟩⟩) | (go_at_call 19; (with_reducible refine (impl_StripMarks.trim k a0 u v _ HZ.out HU.out HV.out).mono ?_); rintro e w6 ⟨rfl, hb6⟩; have HB6 := Aside0.mk hb6; clear hb6))
      go_ret2
      exact ⟨rfl, below_then (pw_below_drewN (Below.refl _ _) _) (Nat.le_refl _) HB6.out⟩
    · rw [if_neg hz] at h
      exact absurd h (by simp)

end Go.Proofs.YtciminppeclofaaDoor.Px
