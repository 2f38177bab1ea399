/- That calls of Go functions come to what the Lean functions beside them say; written by a program of this session (wip/xprint) over the printed words; no conditions. -/
import Derived.Test.YtciminppeclofaaPx0
import Derived.Test.YtciminppeclofaaPx1
import Derived.Test.YtciminppeclofaaPx6
namespace Go.Proofs.Ytciminppeclofaa.Px
open Go.RowKit Go.Proofs.YtciminppeclofaaW.PrintWords Go.Proofs.YtciminppeclofaaW.PrintLast Go.Proofs.YtciminppeclofaaW.PrintMore
attribute [local go_sem] max2_int min2_int max_two min_two max_three min_three max_four min_four   -- for this text's walks alone
set_option linter.unusedVariables false
set_option linter.unusedSimpArgs false

/-! ### spec_MoveIntoQuotes: function 10 -/
def spec_MoveIntoQuotes.midx (b : Int) : Int := if b = 46 then 0 else if b = 44 then 1 else if b = 59 then 2 else if b = 58 then 3 else if b = 33 then 4 else if b = 63 then 5 else -1
theorem spec_MoveIntoQuotes.mark_eq (b : Int) : spec_l11Mark.f 8 b = some (spec_MoveIntoQuotes.midx b) := by
  have e0 : bt (⟨#[46, 44, 59, 58, 33, 63]⟩ : ByteArray) 0 = 46 := by decide
  have e1 : bt (⟨#[46, 44, 59, 58, 33, 63]⟩ : ByteArray) 1 = 44 := by decide
  have e2 : bt (⟨#[46, 44, 59, 58, 33, 63]⟩ : ByteArray) 2 = 59 := by decide
  have e3 : bt (⟨#[46, 44, 59, 58, 33, 63]⟩ : ByteArray) 3 = 58 := by decide
  have e4 : bt (⟨#[46, 44, 59, 58, 33, 63]⟩ : ByteArray) 4 = 33 := by decide
  have e5 : bt (⟨#[46, 44, 59, 58, 33, 63]⟩ : ByteArray) 5 = 63 := by decide
  have s : ((⟨#[46, 44, 59, 58, 33, 63]⟩ : ByteArray).size : Int) = 6 := by decide
  have w1 : wrap64 (0 + 1) = 1 := by unfold wrap64; omega
  have w2 : wrap64 (1 + 1) = 2 := by unfold wrap64; omega
  have w3 : wrap64 (2 + 1) = 3 := by unfold wrap64; omega
  have w4 : wrap64 (3 + 1) = 4 := by unfold wrap64; omega
  have w5 : wrap64 (4 + 1) = 5 := by unfold wrap64; omega
  have w6 : wrap64 (5 + 1) = 6 := by unfold wrap64; omega
  show spec_l11Mark.l0 8 b _ 0 = _
  unfold spec_MoveIntoQuotes.midx
  simp only [spec_l11Mark.l0, s, e0, e1, e2, e3, e4, e5, w1, w2, w3, w4, w5, w6]
  simp only [eq_comm (b := b)]
  simp only [show ((0 : Int) < 6) = True from by simp, show ((1 : Int) < 6) = True from by simp, show ((2 : Int) < 6) = True from by simp, show ((3 : Int) < 6) = True from by simp, show ((4 : Int) < 6) = True from by simp, show ((5 : Int) < 6) = True from by simp, show ((6 : Int) < 6) = False from by simp, show (0 ≤ (0 : Int)) = True from by simp, show (0 ≤ (1 : Int)) = True from by simp, show (0 ≤ (2 : Int)) = True from by simp, show (0 ≤ (3 : Int)) = True from by simp, show (0 ≤ (4 : Int)) = True from by simp, show (0 ≤ (5 : Int)) = True from by simp, show (0 ≤ (6 : Int)) = True from by simp, if_true, if_false]
  repeat' split
  all_goals rfl
def spec_MoveIntoQuotes.mk (b : Int) : Bool := decide (spec_MoveIntoQuotes.midx b ≥ 0)
/-- Whether the quotation mark at a place changes places with what follows. -/
def spec_MoveIntoQuotes.test (l : List Int) (i : Int) : Bool := l.getD i.toNat 0 == 34 && (l.getD (i + 1).toNat 0 == 46 || l.getD (i + 1).toNat 0 == 44) && (decide (i ≤ 0) || !spec_MoveIntoQuotes.mk (l.getD (i - 1).toNat 0))
def spec_MoveIntoQuotes.swap (l : List Int) (i : Int) : List Int := (l.set i.toNat (l.getD (i + 1).toNat 0)).set (i + 1).toNat 34
def spec_MoveIntoQuotes.mv : Nat → List Int → Int → List Int
  | 0, l, _ => l
  | n + 1, l, i => if i + 1 < (l.length : Int) then spec_MoveIntoQuotes.mv n (if spec_MoveIntoQuotes.test l i = true then spec_MoveIntoQuotes.swap l i else l) (i + 1) else l
theorem spec_MoveIntoQuotes.mv_in (n : Nat) (l : List Int) (i : Int) (R : List Int) (m : Nat) (hm : (m : Int) = l.length - i) (hi : i + 1 < (l.length : Int)) (h : spec_MoveIntoQuotes.mv m l i = R) : spec_MoveIntoQuotes.mv (m - 1) (if spec_MoveIntoQuotes.test l i = true then spec_MoveIntoQuotes.swap l i else l) (i + 1) = R := by
  obtain ⟨d, rfl⟩ : ∃ d, m = d + 1 := ⟨m - 1, by omega⟩
  rw [spec_MoveIntoQuotes.mv, if_pos hi] at h
  exact h
theorem spec_MoveIntoQuotes.mv_out (l : List Int) (i : Int) (R : List Int) (m : Nat) (hi : ¬ i + 1 < (l.length : Int)) (h : spec_MoveIntoQuotes.mv m l i = R) : l = R := by
  cases m with
  | zero => exact h
  | succ d => rw [spec_MoveIntoQuotes.mv, if_neg hi] at h; exact h
theorem spec_MoveIntoQuotes.swap_len (l : List Int) (i : Int) : (spec_MoveIntoQuotes.swap l i).length = l.length := by simp [spec_MoveIntoQuotes.swap]
theorem spec_MoveIntoQuotes.range (l : List Int) (j : Nat) (h : ∀ x ∈ l, 0 ≤ x ∧ x ≤ 255) : 0 ≤ l.getD j 0 ∧ l.getD j 0 ≤ 255 := by
  by_cases hj : j < l.length
  · have e : l.getD j 0 = l[j] := by simp [List.getD, List.getElem?_eq_getElem hj]
    rw [e]
    exact h _ (List.getElem_mem hj)
  · have e : l.getD j 0 = 0 := by simp [List.getD, List.getElem?_eq_none (Nat.le_of_not_lt hj)]
    rw [e]; omega
theorem spec_MoveIntoQuotes.swap_range (l : List Int) (i : Int) (h : ∀ x ∈ l, 0 ≤ x ∧ x ≤ 255) : ∀ x ∈ spec_MoveIntoQuotes.swap l i, 0 ≤ x ∧ x ≤ 255 := by
  intro x hx
  unfold spec_MoveIntoQuotes.swap at hx
  rcases List.mem_or_eq_of_mem_set hx with hx | rfl
  · rcases List.mem_or_eq_of_mem_set hx with hx | rfl
    · exact h x hx
    · exact spec_MoveIntoQuotes.range l _ h
  · omega
theorem spec_MoveIntoQuotes.bytes_range (s : ByteArray) : ∀ x ∈ bytesOf s, 0 ≤ x ∧ x ≤ 255 := by
  intro x hx
  obtain ⟨b, _, rfl⟩ := List.mem_map.1 hx
  have := UInt8.toNat_lt b
  omega
def spec_MoveIntoQuotes.f (k : Nat) (a0 : ByteArray) : Option (ByteArray × Bool) := (spec_l11Text.f k a0).bind fun t => if t = true then (if a0.size ≤ 140737488351232 then some (strOfNums (spec_MoveIntoQuotes.mv a0.size (bytesOf a0) 0), true) else none) else some ((⟨#[]⟩ : ByteArray), false)
theorem spec_MoveIntoQuotes.mono : ∀ a0 k, LeO (spec_MoveIntoQuotes.f k a0) (spec_MoveIntoQuotes.f (k + 1) a0) := by
  intro a0 k
  unfold spec_MoveIntoQuotes.f
  exact LeO.bind (spec_l11Text.mono _ _) (fun _ => LeO.refl _)
set_option maxHeartbeats 8000000 in
set_option maxRecDepth 100000 in
theorem spec_MoveIntoQuotes.calls (k : Nat) (a0 : ByteArray) (r1 : ByteArray) (r2 : Bool) (w : World) (h : spec_MoveIntoQuotes.f k a0 = some (r1, r2)) :
    Calls Try.prog 10 #[.string a0] w fun e w' => e = .returned (.tuple #[.string r1, .bool r2]) ∧ Below w.heap.size w w' := by
  unfold spec_MoveIntoQuotes.f at h
  obtain ⟨t, ht, h⟩ := Option.bind_eq_some_iff.1 h
  have HT := Aside0.mk ht
  clear ht
  cases t with
  | false =>
    rw [if_neg (by decide)] at h
    obtain ⟨rfl, rfl⟩ := Prod.mk.inj (Option.some.inj h)
    clear h
    go_enter Try.func10, Try.ntmps10
    go_wp2_with (go_at_call 25; (with_reducible refine (spec_l11Text.calls k a0 false _ HT.out).mono ?_); rintro e w5 ⟨rfl, ⟨m5, rfl⟩⟩)
    go_ret2
    exact ⟨rfl, by repeat (first | exact Below.refl _ _ | apply below_alloc | apply pw_below_drewN | apply below_drew)⟩
  | true =>
    rw [if_pos rfl] at h
    by_cases hs : a0.size ≤ 140737488351232
    · rw [if_pos hs] at h
      have h' := Option.some.inj h
      clear h
      obtain ⟨R, hR⟩ : ∃ R, R = spec_MoveIntoQuotes.mv a0.size (bytesOf a0) 0 := ⟨_, rfl⟩
      rw [← hR] at h'
      obtain ⟨rfl, rfl⟩ := Prod.mk.inj h'
      clear h'
      have HR := Aside0.mk hR
      clear hR
      have hconv : ∀ W : World, (convert 9 40 (.string a0)).run Try.prog W = .ok (.slice (some ⟨W.heap.size, 0, none⟩) a0.size (grownCap W a0.size 0 5)) (Lib.bytesWorld W 5 a0) := fun W => Lib.run_convert_string_bytes W _ _ _ a0 Try.underlying9 Try.underlying40 Try.underlying5
      have hlen := bytesOf_length a0
      have HLEN := Aside0.mk hlen
      clear hlen
      go_enter Try.func10, Try.ntmps10
      go_wp2_with (go_at_call 25; (with_reducible refine (spec_l11Text.calls k a0 true _ HT.out).mono ?_); rintro e w5 ⟨rfl, ⟨m5, rfl⟩⟩)
      clear hconv
      have hf6 : Go.Proofs.YtciminppeclofaaW.Buf.Bf (Lib.bytesWorld (w.drewN m5) 5 a0) w.heap.size 5 (bytesOf a0) := Go.Proofs.YtciminppeclofaaW.Buf.buf_new (w.drewN m5) 5 a0
      have hb6 : Below w.heap.size w (Lib.bytesWorld (w.drewN m5) 5 a0) := below_then (pw_below_drewN (Below.refl _ _) m5) (Nat.le_refl _) (Go.Proofs.YtciminppeclofaaW.Buf.below_buf (w.drewN m5) 5 a0)
      have HF6 := Aside0.mk hf6
      have HB6 := Aside0.mk hb6
      clear hf6 hb6
      go_loopw [5] (fun v5 wr => ∃ (i : Int) (l : List Int), 0 ≤ i ∧ i ≤ (a0.size : Int) ∧ v5 = .int .i64 i ∧ Aside0 (spec_MoveIntoQuotes.mv (a0.size - i.toNat) l i = R) ∧ l.length = a0.size ∧ Aside0 (∀ x ∈ l, 0 ≤ x ∧ x ≤ 255) ∧ Aside0 (Go.Proofs.YtciminppeclofaaW.Buf.Bf wr w.heap.size 5 l) ∧ Aside0 (Below w.heap.size w wr)) (fun v _ => a0.size - (intOf v).toNat)
      case atStart => exact ⟨0, bytesOf a0, Int.le_refl _, by omega, rfl, ⟨HR.out.symm⟩, HLEN.out, ⟨spec_MoveIntoQuotes.bytes_range a0⟩, HF6, HB6⟩
      case round =>
        obtain ⟨i, l, hi0, hin, rfl, HM, hll, HRNG, HF, HB⟩ := hrel
        obtain ⟨J1, hJ1⟩ : ∃ J1 : Int, wrap64 (i + 1) = J1 := ⟨_, rfl⟩
        have hJ1v : J1 = i + 1 := by rw [← hJ1]; unfold wrap64; omega
        have hJ1w : (IntKind.i64.wrap (i + 1)) = J1 := (i64_w _).trans hJ1
        by_cases hlt : J1 < (a0.size : Int)
        · have hx := Go.Proofs.YtciminppeclofaaW.Buf.Bf.cell HF.out i.toNat (by omega)
          have hy := Go.Proofs.YtciminppeclofaaW.Buf.Bf.cell HF.out J1.toNat (by omega)
          have hfx := Go.Proofs.YtciminppeclofaaW.Buf.Bf.frozen HF.out i.toNat (by omega)
          have hfy := Go.Proofs.YtciminppeclofaaW.Buf.Bf.frozen HF.out J1.toNat (by omega)
          have hm := spec_MoveIntoQuotes.mv_in a0.size l i R (a0.size - i.toNat) (by omega) (by omega) HM.out
          rw [← hJ1v] at hm
          have HM2 := Aside0.mk hm
          clear hm HM
          have hrx := spec_MoveIntoQuotes.range l i.toNat HRNG.out
          have hry := spec_MoveIntoQuotes.range l J1.toNat HRNG.out
          have hrw := Aside0.mk (spec_MoveIntoQuotes.swap_range l i HRNG.out)
          have htest : spec_MoveIntoQuotes.test l i = (l.getD i.toNat 0 == 34 && (l.getD J1.toNat 0 == 46 || l.getD J1.toNat 0 == 44) && (decide (i ≤ 0) || !spec_MoveIntoQuotes.mk (l.getD (i - 1).toNat 0))) := by rw [hJ1v]; rfl
          have hswap : spec_MoveIntoQuotes.swap l i = (l.set i.toNat (l.getD J1.toNat 0)).set J1.toNat 34 := by rw [hJ1v]; rfl
          have HTEST := Aside0.mk htest
          have HSWAP := Aside0.mk hswap
          clear htest hswap
          have hil : i.toNat < l.length := by omega
          have hjl : J1.toNat < l.length := by omega
          have hne : i.toNat ≠ J1.toNat := by omega
          have hfy2 := fun v : Int => Go.Proofs.YtciminppeclofaaW.Buf.Bf.frozen (Go.Proofs.YtciminppeclofaaW.Buf.Bf.set HF.out i.toNat hil v) J1.toNat (by rw [List.length_set]; exact hjl)
          have HIL := Aside0.mk hil
          have HJL := Aside0.mk hjl
          have p0 : (0 ≤ i) = True := eq_true hi0
          have q0 : (i < (a0.size : Int)) = True := eq_true (by omega)
          have p1 : (0 ≤ J1) = True := eq_true (by omega)
          have q1 : (J1 < (a0.size : Int)) = True := eq_true hlt
          have d1 : decide (J1 < (a0.size : Int)) = true := decide_eq_true hlt
          have HJ1V := Aside0.mk hJ1v
          have HI := Aside0.mk (And.intro hi0 hin)
          have HLT := Aside0.mk hlt
          have HLL := Aside0.mk hll
          obtain ⟨Jm, hJm⟩ : ∃ Jm : Int, wrap64 (i - 1) = Jm := ⟨_, rfl⟩
          have hJmw : (IntKind.i64.wrap (i - 1)) = Jm := (i64_w _).trans hJm
          have hJmv : Jm = i - 1 := by rw [← hJm]; unfold wrap64; omega
          have hmeas : a0.size - J1.toNat < a0.size - i.toNat := by omega
          have HMEAS := Aside0.mk hmeas
          clear hmeas
          obtain ⟨x, hxd⟩ : ∃ x, x = l.getD i.toNat 0 := ⟨_, rfl⟩
          obtain ⟨y, hyd⟩ : ∃ y, y = l.getD J1.toNat 0 := ⟨_, rfl⟩
          rw [← hxd] at hx hrx
          rw [← hyd] at hy hry
          rw [← hxd, ← hyd] at HTEST
          rw [← hyd] at HSWAP
          have HXD := Aside0.mk hxd
          have HYD := Aside0.mk hyd
          clear hxd hyd
          have hrx0 := hrx.1
          have hrx1 := hrx.2
          have hry0 := hry.1
          have hry1 := hry.2
          clear hrx hry hJ1v hlt
          by_cases cx : x = 34
          · have cxb : (x == 34) = true := beq_iff_eq.mpr cx
            have cxn : (x != 34) = false := bne_eq_false_iff_eq.mpr cx
            have HCcx := Aside0.mk cx
            clear cx
            by_cases cy : y = 46
            · have cyb : (y == 46) = true := beq_iff_eq.mpr cy
              have cyn : (y != 46) = false := bne_eq_false_iff_eq.mpr cy
              have HCcy := Aside0.mk cy
              clear cy
              by_cases h0 : 0 < i
              · have h0d : decide (0 < i) = true := decide_eq_true h0
                have h0e : (i == 0) = false := beq_eq_false_iff_ne.mpr (by omega)
                have pm : (0 ≤ Jm) = True := eq_true (by omega)
                have qm : (Jm < (a0.size : Int)) = True := eq_true (by omega)
                have hzc := Go.Proofs.YtciminppeclofaaW.Buf.Bf.cell HF.out Jm.toNat (by have := HLL.out; omega)
                have hrz := spec_MoveIntoQuotes.range l Jm.toNat HRNG.out
                rw [← hJmv] at HTEST
                obtain ⟨z, hzd⟩ : ∃ z, z = l.getD Jm.toNat 0 := ⟨_, rfl⟩
                rw [← hzd] at hzc hrz HTEST
                have HZD := Aside0.mk hzd
                have HC0 := Aside0.mk (show ¬ i ≤ 0 from by omega)
                clear hzd h0 hJmv
                have hrz0 := hrz.1
                have hrz1 := hrz.2
                clear hrz
                cases hz : spec_MoveIntoQuotes.mk z with
                | true =>
                  have hzb : decide (0 ≤ spec_MoveIntoQuotes.midx z) = true := hz
                  have HZ := Aside0.mk hz
                  go_wp2_with (go_at_call 21; (with_reducible refine (spec_l11Mark.calls 8 z (spec_MoveIntoQuotes.midx z) _ (spec_MoveIntoQuotes.mark_eq z)).mono ?_); rintro e w' ⟨rfl, ⟨nq, rfl⟩⟩)
                  have ht : spec_MoveIntoQuotes.test l i = false := by rw [HTEST.out]; simp [HCcx.out, HCcy.out, HC0.out, HZ.out]
                  have hM := HM2.out
                  rw [ht, if_neg (by decide)] at hM
                  refine ⟨⟨J1, l, by have := HJ1V.out; have := HI.out; omega, by have := HLT.out; omega, by first | rfl | (simp; done) | (simp [*]; done), ⟨by rw [← hM]; congr 1; have := HJ1V.out; have := HI.out; omega⟩, HLL.out, HRNG, ⟨by first | exact HF.out | exact Go.Proofs.YtciminppeclofaaW.Buf.Bf.drewN HF.out _⟩, ⟨by first | exact HB.out | exact pw_below_drewN HB.out _⟩⟩, by simpa [intOf] using HMEAS.out⟩
                | false =>
                  have hzb : decide (0 ≤ spec_MoveIntoQuotes.midx z) = false := hz
                  have HZ := Aside0.mk hz
                  go_wp2_with (go_at_call 21; (with_reducible refine (spec_l11Mark.calls 8 z (spec_MoveIntoQuotes.midx z) _ (spec_MoveIntoQuotes.mark_eq z)).mono ?_); rintro e w' ⟨rfl, ⟨nq, rfl⟩⟩)
                  have ht : spec_MoveIntoQuotes.test l i = true := by rw [HTEST.out]; simp [HCcx.out, HCcy.out, HC0.out, HZ.out]
                  have hM := HM2.out
                  rw [if_pos ht] at hM
                  refine ⟨⟨J1, spec_MoveIntoQuotes.swap l i, by have := HJ1V.out; have := HI.out; omega, by have := HLT.out; omega, by first | rfl | (simp; done) | (simp [*]; done), ⟨by rw [← hM]; congr 1; have := HJ1V.out; have := HI.out; omega⟩, (spec_MoveIntoQuotes.swap_len l i).trans HLL.out, hrw, ⟨?_⟩, ⟨?_⟩⟩, by simpa [intOf] using HMEAS.out⟩
                  · rw [HSWAP.out]
                    first | exact Go.Proofs.YtciminppeclofaaW.Buf.Bf.set (Go.Proofs.YtciminppeclofaaW.Buf.Bf.set HF.out i.toNat HIL.out y) J1.toNat (by rw [List.length_set]; exact HJL.out) 34 | exact Go.Proofs.YtciminppeclofaaW.Buf.Bf.set (Go.Proofs.YtciminppeclofaaW.Buf.Bf.set (Go.Proofs.YtciminppeclofaaW.Buf.Bf.drewN HF.out _) i.toNat HIL.out y) J1.toNat (by rw [List.length_set]; exact HJL.out) 34 | exact Go.Proofs.YtciminppeclofaaW.Buf.Bf.set (Go.Proofs.YtciminppeclofaaW.Buf.Bf.drewN (Go.Proofs.YtciminppeclofaaW.Buf.Bf.set (Go.Proofs.YtciminppeclofaaW.Buf.Bf.drewN HF.out _) i.toNat HIL.out y) _) J1.toNat (by rw [List.length_set]; exact HJL.out) 34
                  · first | exact (HB.out.setCell (Nat.le_refl _) _).setCell (Nat.le_refl _) _ | exact ((pw_below_drewN HB.out _).setCell (Nat.le_refl _) _).setCell (Nat.le_refl _) _ | exact ((pw_below_drewN ((pw_below_drewN HB.out _).setCell (Nat.le_refl _) _) _).setCell (Nat.le_refl _) _)
              · have h0d : decide (0 < i) = false := decide_eq_false h0
                have h0e : (i == 0) = true := beq_iff_eq.mpr (by have := HI.out; omega)
                have HC0 := Aside0.mk (show i ≤ 0 from by omega)
                clear h0 hJmv
                go_wp2
                have ht : spec_MoveIntoQuotes.test l i = true := by rw [HTEST.out]; simp [HCcx.out, HCcy.out, HC0.out]
                have hM := HM2.out
                rw [if_pos ht] at hM
                refine ⟨⟨J1, spec_MoveIntoQuotes.swap l i, by have := HJ1V.out; have := HI.out; omega, by have := HLT.out; omega, by first | rfl | (simp; done) | (simp [*]; done), ⟨by rw [← hM]; congr 1; have := HJ1V.out; have := HI.out; omega⟩, (spec_MoveIntoQuotes.swap_len l i).trans HLL.out, hrw, ⟨?_⟩, ⟨?_⟩⟩, by simpa [intOf] using HMEAS.out⟩
                · rw [HSWAP.out]
                  first | exact Go.Proofs.YtciminppeclofaaW.Buf.Bf.set (Go.Proofs.YtciminppeclofaaW.Buf.Bf.set HF.out i.toNat HIL.out y) J1.toNat (by rw [List.length_set]; exact HJL.out) 34 | exact Go.Proofs.YtciminppeclofaaW.Buf.Bf.set (Go.Proofs.YtciminppeclofaaW.Buf.Bf.set (Go.Proofs.YtciminppeclofaaW.Buf.Bf.drewN HF.out _) i.toNat HIL.out y) J1.toNat (by rw [List.length_set]; exact HJL.out) 34 | exact Go.Proofs.YtciminppeclofaaW.Buf.Bf.set (Go.Proofs.YtciminppeclofaaW.Buf.Bf.drewN (Go.Proofs.YtciminppeclofaaW.Buf.Bf.set (Go.Proofs.YtciminppeclofaaW.Buf.Bf.drewN HF.out _) i.toNat HIL.out y) _) J1.toNat (by rw [List.length_set]; exact HJL.out) 34
                · first | exact (HB.out.setCell (Nat.le_refl _) _).setCell (Nat.le_refl _) _ | exact ((pw_below_drewN HB.out _).setCell (Nat.le_refl _) _).setCell (Nat.le_refl _) _ | exact ((pw_below_drewN ((pw_below_drewN HB.out _).setCell (Nat.le_refl _) _) _).setCell (Nat.le_refl _) _)
            · have cyb : (y == 46) = false := beq_eq_false_iff_ne.mpr cy
              have cyn : (y != 46) = true := bne_iff_ne.mpr cy
              have HCcy := Aside0.mk cy
              clear cy
              by_cases cw : y = 44
              · have cwb : (y == 44) = true := beq_iff_eq.mpr cw
                have cwn : (y != 44) = false := bne_eq_false_iff_eq.mpr cw
                have HCcw := Aside0.mk cw
                clear cw
                by_cases h0 : 0 < i
                · have h0d : decide (0 < i) = true := decide_eq_true h0
                  have h0e : (i == 0) = false := beq_eq_false_iff_ne.mpr (by omega)
                  have pm : (0 ≤ Jm) = True := eq_true (by omega)
                  have qm : (Jm < (a0.size : Int)) = True := eq_true (by omega)
                  have hzc := Go.Proofs.YtciminppeclofaaW.Buf.Bf.cell HF.out Jm.toNat (by have := HLL.out; omega)
                  have hrz := spec_MoveIntoQuotes.range l Jm.toNat HRNG.out
                  rw [← hJmv] at HTEST
                  obtain ⟨z, hzd⟩ : ∃ z, z = l.getD Jm.toNat 0 := ⟨_, rfl⟩
                  rw [← hzd] at hzc hrz HTEST
                  have HZD := Aside0.mk hzd
                  have HC0 := Aside0.mk (show ¬ i ≤ 0 from by omega)
                  clear hzd h0 hJmv
                  have hrz0 := hrz.1
                  have hrz1 := hrz.2
                  clear hrz
                  cases hz : spec_MoveIntoQuotes.mk z with
                  | true =>
                    have hzb : decide (0 ≤ spec_MoveIntoQuotes.midx z) = true := hz
                    have HZ := Aside0.mk hz
                    go_wp2_with (go_at_call 21; (with_reducible refine (spec_l11Mark.calls 8 z (spec_MoveIntoQuotes.midx z) _ (spec_MoveIntoQuotes.mark_eq z)).mono ?_); rintro e w' ⟨rfl, ⟨nq, rfl⟩⟩)
                    have ht : spec_MoveIntoQuotes.test l i = false := by rw [HTEST.out]; simp [HCcx.out, HCcy.out, HCcw.out, HC0.out, HZ.out]
                    have hM := HM2.out
                    rw [ht, if_neg (by decide)] at hM
                    refine ⟨⟨J1, l, by have := HJ1V.out; have := HI.out; omega, by have := HLT.out; omega, by first | rfl | (simp; done) | (simp [*]; done), ⟨by rw [← hM]; congr 1; have := HJ1V.out; have := HI.out; omega⟩, HLL.out, HRNG, ⟨by first | exact HF.out | exact Go.Proofs.YtciminppeclofaaW.Buf.Bf.drewN HF.out _⟩, ⟨by first | exact HB.out | exact pw_below_drewN HB.out _⟩⟩, by simpa [intOf] using HMEAS.out⟩
                  | false =>
                    have hzb : decide (0 ≤ spec_MoveIntoQuotes.midx z) = false := hz
                    have HZ := Aside0.mk hz
                    go_wp2_with (go_at_call 21; (with_reducible refine (spec_l11Mark.calls 8 z (spec_MoveIntoQuotes.midx z) _ (spec_MoveIntoQuotes.mark_eq z)).mono ?_); rintro e w' ⟨rfl, ⟨nq, rfl⟩⟩)
                    have ht : spec_MoveIntoQuotes.test l i = true := by rw [HTEST.out]; simp [HCcx.out, HCcy.out, HCcw.out, HC0.out, HZ.out]
                    have hM := HM2.out
                    rw [if_pos ht] at hM
                    refine ⟨⟨J1, spec_MoveIntoQuotes.swap l i, by have := HJ1V.out; have := HI.out; omega, by have := HLT.out; omega, by first | rfl | (simp; done) | (simp [*]; done), ⟨by rw [← hM]; congr 1; have := HJ1V.out; have := HI.out; omega⟩, (spec_MoveIntoQuotes.swap_len l i).trans HLL.out, hrw, ⟨?_⟩, ⟨?_⟩⟩, by simpa [intOf] using HMEAS.out⟩
                    · rw [HSWAP.out]
                      first | exact Go.Proofs.YtciminppeclofaaW.Buf.Bf.set (Go.Proofs.YtciminppeclofaaW.Buf.Bf.set HF.out i.toNat HIL.out y) J1.toNat (by rw [List.length_set]; exact HJL.out) 34 | exact Go.Proofs.YtciminppeclofaaW.Buf.Bf.set (Go.Proofs.YtciminppeclofaaW.Buf.Bf.set (Go.Proofs.YtciminppeclofaaW.Buf.Bf.drewN HF.out _) i.toNat HIL.out y) J1.toNat (by rw [List.length_set]; exact HJL.out) 34 | exact Go.Proofs.YtciminppeclofaaW.Buf.Bf.set (Go.Proofs.YtciminppeclofaaW.Buf.Bf.drewN (Go.Proofs.YtciminppeclofaaW.Buf.Bf.set (Go.Proofs.YtciminppeclofaaW.Buf.Bf.drewN HF.out _) i.toNat HIL.out y) _) J1.toNat (by rw [List.length_set]; exact HJL.out) 34
                    · first | exact (HB.out.setCell (Nat.le_refl _) _).setCell (Nat.le_refl _) _ | exact ((pw_below_drewN HB.out _).setCell (Nat.le_refl _) _).setCell (Nat.le_refl _) _ | exact ((pw_below_drewN ((pw_below_drewN HB.out _).setCell (Nat.le_refl _) _) _).setCell (Nat.le_refl _) _)
                · have h0d : decide (0 < i) = false := decide_eq_false h0
                  have h0e : (i == 0) = true := beq_iff_eq.mpr (by have := HI.out; omega)
                  have HC0 := Aside0.mk (show i ≤ 0 from by omega)
                  clear h0 hJmv
                  go_wp2
                  have ht : spec_MoveIntoQuotes.test l i = true := by rw [HTEST.out]; simp [HCcx.out, HCcy.out, HCcw.out, HC0.out]
                  have hM := HM2.out
                  rw [if_pos ht] at hM
                  refine ⟨⟨J1, spec_MoveIntoQuotes.swap l i, by have := HJ1V.out; have := HI.out; omega, by have := HLT.out; omega, by first | rfl | (simp; done) | (simp [*]; done), ⟨by rw [← hM]; congr 1; have := HJ1V.out; have := HI.out; omega⟩, (spec_MoveIntoQuotes.swap_len l i).trans HLL.out, hrw, ⟨?_⟩, ⟨?_⟩⟩, by simpa [intOf] using HMEAS.out⟩
                  · rw [HSWAP.out]
                    first | exact Go.Proofs.YtciminppeclofaaW.Buf.Bf.set (Go.Proofs.YtciminppeclofaaW.Buf.Bf.set HF.out i.toNat HIL.out y) J1.toNat (by rw [List.length_set]; exact HJL.out) 34 | exact Go.Proofs.YtciminppeclofaaW.Buf.Bf.set (Go.Proofs.YtciminppeclofaaW.Buf.Bf.set (Go.Proofs.YtciminppeclofaaW.Buf.Bf.drewN HF.out _) i.toNat HIL.out y) J1.toNat (by rw [List.length_set]; exact HJL.out) 34 | exact Go.Proofs.YtciminppeclofaaW.Buf.Bf.set (Go.Proofs.YtciminppeclofaaW.Buf.Bf.drewN (Go.Proofs.YtciminppeclofaaW.Buf.Bf.set (Go.Proofs.YtciminppeclofaaW.Buf.Bf.drewN HF.out _) i.toNat HIL.out y) _) J1.toNat (by rw [List.length_set]; exact HJL.out) 34
                  · first | exact (HB.out.setCell (Nat.le_refl _) _).setCell (Nat.le_refl _) _ | exact ((pw_below_drewN HB.out _).setCell (Nat.le_refl _) _).setCell (Nat.le_refl _) _ | exact ((pw_below_drewN ((pw_below_drewN HB.out _).setCell (Nat.le_refl _) _) _).setCell (Nat.le_refl _) _)
              · have cwb : (y == 44) = false := beq_eq_false_iff_ne.mpr cw
                have cwn : (y != 44) = true := bne_iff_ne.mpr cw
                have HCcw := Aside0.mk cw
                clear cw
                go_wp2
                have ht : spec_MoveIntoQuotes.test l i = false := by rw [HTEST.out]; simp [HCcx.out, HCcy.out, HCcw.out]
                have hM := HM2.out
                rw [ht, if_neg (by decide)] at hM
                refine ⟨⟨J1, l, by have := HJ1V.out; have := HI.out; omega, by have := HLT.out; omega, by first | rfl | (simp; done) | (simp [*]; done), ⟨by rw [← hM]; congr 1; have := HJ1V.out; have := HI.out; omega⟩, HLL.out, HRNG, ⟨by first | exact HF.out | exact Go.Proofs.YtciminppeclofaaW.Buf.Bf.drewN HF.out _⟩, ⟨by first | exact HB.out | exact pw_below_drewN HB.out _⟩⟩, by simpa [intOf] using HMEAS.out⟩
          · have cxb : (x == 34) = false := beq_eq_false_iff_ne.mpr cx
            have cxn : (x != 34) = true := bne_iff_ne.mpr cx
            have HCcx := Aside0.mk cx
            clear cx
            go_wp2
            have ht : spec_MoveIntoQuotes.test l i = false := by rw [HTEST.out]; simp [HCcx.out]
            have hM := HM2.out
            rw [ht, if_neg (by decide)] at hM
            refine ⟨⟨J1, l, by have := HJ1V.out; have := HI.out; omega, by have := HLT.out; omega, by first | rfl | (simp; done) | (simp [*]; done), ⟨by rw [← hM]; congr 1; have := HJ1V.out; have := HI.out; omega⟩, HLL.out, HRNG, ⟨by first | exact HF.out | exact Go.Proofs.YtciminppeclofaaW.Buf.Bf.drewN HF.out _⟩, ⟨by first | exact HB.out | exact pw_below_drewN HB.out _⟩⟩, by simpa [intOf] using HMEAS.out⟩
        · have hl := spec_MoveIntoQuotes.mv_out l i R (a0.size - i.toNat) (by omega) HM.out
          have HL := Aside0.mk hl
          clear hl HM
          have d1 : decide (J1 < (a0.size : Int)) = false := decide_eq_false hlt
          have hback := Go.Proofs.YtciminppeclofaaW.Buf.conv_back (P := Try.prog) HF.out 40 9 a0.size (grownCap (w.drewN m5) a0.size 0 5) hll Try.underlying40 Try.underlying9 Try.underlying5
          rw [HL.out] at hback
          go_wp2
          go_ret2
          exact ⟨rfl, HB.out⟩
    · rw [if_neg hs] at h
      exact absurd h (by simp)

end Go.Proofs.Ytciminppeclofaa.Px
