/- That calls of Go functions come to what the Lean functions beside them say; written by a program of this session (wip/xprint) over the printed words; no conditions. -/
import Derived.Test.YtjckholdcgjdnaaDoorPx0
import Derived.Test.YtjckholdcgjdnaaDoorPx8
import Derived.Test.YtjckholdcgjdnaaDoorPx15
namespace Go.Proofs.YtjckholdcgjdnaaDoor.Px
open Go.RowKit Go.Proofs.YtjckholdcgjdnaaDoorW.PrintWords Go.Proofs.YtjckholdcgjdnaaDoorW.PrintLast Go.Proofs.YtjckholdcgjdnaaDoorW.PrintMore
attribute [local go_sem] max2_int min2_int max_two min_two max_three min_three max_four min_four   -- for this text's walks alone
set_option linter.unusedVariables false
set_option linter.unusedSimpArgs false

/-! ### impl_IsValidPages: function 43 -/
/-- slices.IndexFunc: it asks the function of each in its order. -/
def impl_IsValidPages.val (x : S27) : Value := .agg #[.string x.f0, .int .i64 x.f1, .int .i64 x.f2]
set_option maxHeartbeats 8000000 in
set_option maxRecDepth 100000 in
theorem impl_IsValidPages.index (g : FuncId) (cb : Array Value) (p : S27 → Bool) (A0 : Option Addr) (c0 : Nat) (l0 : List (S27)) (w : World) (hr0 : Kd.C k27 w A0 l0.length l0) (hc0 : l0.length ≤ c0) (hb0 : l0.length ≤ 9223372036854775807)
    (eg : ∀ args W, (callFunc g args).run Tryd.prog W = .ok (.enter g args) W)
    (hcl : ∀ (x : S27) (W : World), x ∈ l0 → Below w.heap.size w W → Calls Tryd.prog g (#[.agg #[.string x.f0, .int .i64 x.f1, .int .i64 x.f2]] ++ cb) W fun e W' => e = .returned (.bool (p x)) ∧ Below W.heap.size W W') :
    Calls Tryd.prog 85 #[.slice A0 l0.length c0, .func (.func g) #[] cb] w fun e w' => ∃ r : Int, e = .returned (.int .i64 r) ∧ decide (0 ≤ r) = l0.any p ∧ Below w.heap.size w w' := by
  have HR0 := Aside0.mk hr0
  have HCL := Aside0.mk hcl
  clear hr0 hcl
  go_enter Tryd.func85, Tryd.ntmps85
  go_wp2
  go_loopw [8] (fun v8 wr => ∃ (i : Int), 0 ≤ i ∧ i ≤ (l0.length : Int) ∧ v8 = .int .i64 i ∧ Aside0 (∀ x ∈ l0.take i.toNat, p x = false) ∧ Aside0 (Below w.heap.size w wr)) (fun v _ => l0.length - (intOf v).toNat)
  case atStart => exact ⟨0, Int.le_refl _, by omega, rfl, ⟨by simp⟩, ⟨Below.refl _ _⟩⟩
  case round =>
    obtain ⟨i, hi0, hin, rfl, HP, HB⟩ := hrel
    by_cases hlt : i < (l0.length : Int)
    · obtain ⟨ad, e107, hx_0, hx_1, hx_2⟩ := at_T27 HR0.out i hi0 hlt
      cases e107
      replace hx_0 := (HB.out.cell (World.block_lt_of_cell? w _ hx_0)).trans hx_0
      replace hx_1 := (HB.out.cell (World.block_lt_of_cell? w _ hx_1)).trans hx_1
      replace hx_2 := (HB.out.cell (World.block_lt_of_cell? w _ hx_2)).trans hx_2
      have hmem : rd_T27 l0 i ∈ l0 := by
        unfold rd_T27
        have hj : i.toNat < l0.length := by omega
        simp only [List.getD, List.getElem?_eq_getElem hj, Option.getD_some]
        exact List.getElem_mem hj
      have htk : l0.take (i + 1).toNat = l0.take i.toNat ++ [rd_T27 l0 i] := by
        unfold rd_T27
        have hj : i.toNat < l0.length := by omega
        have e : (i + 1).toNat = i.toNat + 1 := by omega
        rw [e, List.take_succ_eq_append_getElem hj]
        simp only [List.getD, List.getElem?_eq_getElem hj, Option.getD_some]
      have HMEM := Aside0.mk hmem
      have HTK := Aside0.mk htk
      clear hmem htk
      generalize rd_T27 l0 i = x at hx_0 hx_1 hx_2 HMEM HTK
      have p107 : (0 ≤ i) = True := eq_true hi0
      have q107 : (i < (l0.length : Int)) = True := eq_true hlt
      have c2b0 : decide (i < (l0.length : Int)) = true := decide_eq_true hlt
      cases hp : p x with
      | true =>
        have HPX := Aside0.mk hp
        clear hp
        go_wp2_with (go_at_fn g; refine (HCL.out x _ HMEM.out HB.out).mono ?_; rintro e w6 ⟨rfl, hb⟩; rw [HPX.out]; have HB6 := Aside0.mk hb; clear hb)
        go_ret
        refine ⟨i, rfl, ?_, below_then HB.out HB.out.size HB6.out⟩
        rw [decide_eq_true hi0]
        exact (List.any_eq_true.2 ⟨x, HMEM.out, HPX.out⟩).symm
      | false =>
        have HPX := Aside0.mk hp
        clear hp
        go_wp2_with (go_at_fn g; refine (HCL.out x _ HMEM.out HB.out).mono ?_; rintro e w6 ⟨rfl, hb⟩; rw [HPX.out]; have HB6 := Aside0.mk hb; clear hb)
        refine ⟨⟨i + 1, by omega, by omega, by first | rfl | go_num | (simp; done), ⟨?_⟩, ⟨below_then HB.out HB.out.size HB6.out⟩⟩, by simp [intOf]; omega⟩
        rw [HTK.out]
        intro y hy
        rcases List.mem_append.1 hy with hy | hy
        · exact HP.out y hy
        · rw [List.mem_singleton.1 hy]; exact HPX.out
    · have c2b0 : decide (i < (l0.length : Int)) = false := decide_eq_false hlt
      go_wp2
      go_ret
      refine ⟨-1, rfl, ?_, HB.out⟩
      have hall := HP.out
      rw [List.take_of_length_le (by omega)] at hall
      rw [show decide (0 ≤ (-1 : Int)) = false from rfl]
      refine (Bool.eq_false_iff.2 fun h => ?_).symm
      obtain ⟨y, hy, hpy⟩ := List.any_eq_true.1 h
      rw [hall y hy] at hpy
      cases hpy
set_option maxHeartbeats 8000000 in
set_option maxRecDepth 100000 in
theorem impl_IsValidPages.contains (g : FuncId) (cb : Array Value) (p : S27 → Bool) (A0 : Option Addr) (c0 : Nat) (l0 : List (S27)) (w : World) (hr0 : Kd.C k27 w A0 l0.length l0) (hc0 : l0.length ≤ c0) (hb0 : l0.length ≤ 9223372036854775807)
    (eg : ∀ args W, (callFunc g args).run Tryd.prog W = .ok (.enter g args) W)
    (hcl : ∀ (x : S27) (W : World), x ∈ l0 → Below w.heap.size w W → Calls Tryd.prog g (#[.agg #[.string x.f0, .int .i64 x.f1, .int .i64 x.f2]] ++ cb) W fun e W' => e = .returned (.bool (p x)) ∧ Below W.heap.size W W') :
    Calls Tryd.prog 59 #[.slice A0 l0.length c0, .func (.func g) #[] cb] w fun e w' => e = .returned (.bool (l0.any p)) ∧ Below w.heap.size w w' := by
  have hI := impl_IsValidPages.index g cb p A0 c0 l0 w hr0 hc0 hb0 eg hcl
  clear hcl
  go_enter Tryd.func59, Tryd.ntmps59
  go_wp2_with (go_at_call 85; refine hI.mono ?_; rintro e w6 ⟨r, rfl, hr, hb⟩; have HR6 := Aside0.mk hr; have HB6 := Aside0.mk hb; clear hr hb)
  go_ret
  refine ⟨?_, HB6.out⟩
  rw [← HR6.out]
  rfl
def impl_IsValidPages.bad (x : S27) : Option Bool := impl_IsValidPages_1.f x.f0 x.f1 x.f2
def impl_IsValidPages.f (l0 : List (S27)) : Option (Bool) := if l0.all (fun x => (impl_IsValidPages.bad x).isSome) = true then (impl_inside.f (l0.length : Int) 1 8).bind fun t => if t = true then some (!l0.any (fun x => (impl_IsValidPages.bad x).getD false)) else some false else none
set_option maxHeartbeats 8000000 in
set_option maxRecDepth 100000 in
theorem impl_IsValidPages.calls (A0 : Option Addr) (c0 : Nat) (l0 : List (S27)) (r : Bool) (w : World) (hr0 : Kd.C k27 w A0 l0.length l0) (hc0 : l0.length ≤ c0) (h : impl_IsValidPages.f l0 = some r) :
    Calls Tryd.prog 43 #[.slice A0 l0.length c0] w fun e w' => e = .returned (.bool r) ∧ Below w.heap.size w w' := by
  have HR0 := Aside0.mk hr0
  have HC0 := Aside0.mk hc0
  have hmax := Kd.C_max hr0
  clear hr0 hc0
  unfold impl_IsValidPages.f at h
  by_cases ha : l0.all (fun x => (impl_IsValidPages.bad x).isSome) = true
  · rw [if_pos ha] at h
    obtain ⟨t, ht, h⟩ := Option.bind_eq_some_iff.1 h
    have HT := Aside0.mk ht
    clear ht
    cases t with
    | false =>
      rw [if_neg (by decide)] at h
      obtain rfl := Option.some.inj h
      clear h ha
      go_enter Tryd.func43, Tryd.ntmps43
      go_wp2_with (go_at_call 58; (with_reducible refine (impl_inside.calls _ 1 8 false _ HT.out).mono ?_); rintro e w5 ⟨rfl, ⟨m5, rfl⟩⟩)
      go_ret
      exact ⟨rfl, by repeat (first | exact Below.refl _ _ | apply below_alloc | apply pw_below_drewN | apply below_drew)⟩
    | true =>
      rw [if_pos rfl] at h
      obtain rfl := Option.some.inj h
      clear h
      have hcon : ∀ m : Nat, _ := fun m => impl_IsValidPages.contains 73 #[] (fun x => (impl_IsValidPages.bad x).getD false) A0 c0 l0 (w.drewN m) (Kd.C_drewN HR0.out m) HC0.out hmax (enters_of Tryd.func73 (by kernel_rfl) rfl) (fun x W hx hW => by
        have hs := List.all_eq_true.1 ha x hx
        obtain ⟨b, hb⟩ := Option.isSome_iff_exists.1 hs
        show Calls Tryd.prog 73 #[.agg #[.string x.f0, .int .i64 x.f1, .int .i64 x.f2]] W _
        rw [hb]
        exact impl_IsValidPages_1.calls x.f0 x.f1 x.f2 b W hb)
      clear ha
      generalize l0.any (fun x => (impl_IsValidPages.bad x).getD false) = q at hcon ⊢
      have HCON := Aside0.mk hcon
      clear hcon
      go_enter Tryd.func43, Tryd.ntmps43
      go_wp2_with (first | (go_at_call 58; (with_reducible refine (impl_inside.calls _ 1 8 true _ HT.out).mono ?_); rintro e w5 ⟨rfl, ⟨m5, rfl⟩⟩) | (go_at_call 59; refine (HCON.out _).mono ?_; rintro e w6 ⟨rfl, hb⟩; have HB6 := Aside0.mk hb; clear hb))
      go_ret
      exact ⟨rfl, below_then (pw_below_drewN (Below.refl _ _) _) (Nat.le_refl _) HB6.out⟩
  · rw [if_neg ha] at h
    exact absurd h (by simp)

/-! ### strings_Join: function 74 -/
theorem strings_Join.extra : Builder.Extra Tryd.prog strings_Join.lays156_ren := { sizeBuilder := by kernel_rfl, liesBuilder := by kernel_rfl, t5 := by kernel_rfl, a5 := fun w => by kernel_rfl, z5 := fun w => by kernel_rfl, v5 := fun w => by kernel_rfl, infoByte := by kernel_rfl, cellsByte := by kernel_rfl, sizeByte := by kernel_rfl, neB5 := by decide }
def strings_Join.f (l0 : List ByteArray) (a1 : ByteArray) : Option (ByteArray) := if (Lib.join (l0.map (·.data.toList)) a1.data.toList).length ≤ 140737488355328 ∧ l0.length ≤ 140737488355328 then some ⟨(Lib.join (l0.map (·.data.toList)) a1.data.toList).toArray⟩ else none
set_option maxHeartbeats 2000000 in
set_option maxRecDepth 100000 in
theorem strings_Join.calls (A0 : Option Addr) (c0 : Nat) (l0 : List ByteArray) (a1 : ByteArray) (r : ByteArray) (w : World) (hr0 : Kd.C Kd.string w A0 l0.length l0) (hc0 : l0.length ≤ c0) (h : strings_Join.f l0 a1 = some r) :
    Calls Tryd.prog 74 #[.slice A0 l0.length c0, .string a1] w fun e w' => e = .returned (.string r) ∧ Below w.heap.size w w' := by
  unfold strings_Join.f at h
  by_cases hb : (Lib.join (l0.map (·.data.toList)) a1.data.toList).length ≤ 140737488355328 ∧ l0.length ≤ 140737488355328
  · rw [if_pos hb] at h
    obtain rfl := Option.some.inj h
    cases l0 with
    | nil =>
      exact (Any.strings_Join_none strings_Join.lays156 strings_Join.extra A0 c0 a1 w).mono fun e w' ⟨he, hw⟩ => ⟨he, hw ▸ Below.refl _ _⟩
    | cons x0 xs0 =>
      obtain ⟨ad, e0, hx0⟩ := Kd.at_string hr0 0 (by omega) (by simp)
      subst e0
      have hcell : ∀ (j : Nat) x, (x0 :: xs0)[j]? = some x → w.cell? (ad.add j) = some (.string x) := fun j x hj => by
        have hlt : j < (x0 :: xs0).length := (List.getElem?_eq_some_iff.1 hj).1
        obtain ⟨ad2, e2, hx2⟩ := Kd.at_string hr0 (j : Int) (by omega) (by exact_mod_cast hlt)
        cases e2
        rw [Int.toNat_natCast] at hx2
        rw [hx2]
        have : rdOf ByteArray.empty (x0 :: xs0) (j : Int) = x := by
          unfold rdOf
          rw [Int.toNat_natCast]
          simp [List.getD, hj]
        rw [this]
      obtain ⟨bk, o, el⟩ := ad
      have hblk := World.block_lt_of_cell? w _ hx0
      cases el with
      | none =>
        exact Any.strings_Join strings_Join.lays156 strings_Join.extra bk o c0 (x0 :: xs0) a1 w (fun j x hj => by have h := hcell j x hj; have ea : (⟨bk, o, none⟩ : Addr).add j = ⟨bk, o + j, none⟩ := (by unfold Addr.add; by_cases c : j = 0; (subst c; rfl); rw [if_neg c]); rw [ea] at h; exact h) hblk hb.2 hc0 hb.1
      | some z => exact absurd (World.cell?_spot hx0) (by simp [Addr.add])
  · rw [if_neg hb] at h
    exact absurd h (by simp)

end Go.Proofs.YtjckholdcgjdnaaDoor.Px
