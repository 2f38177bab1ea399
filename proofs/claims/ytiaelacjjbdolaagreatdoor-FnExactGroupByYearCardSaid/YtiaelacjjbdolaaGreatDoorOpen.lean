/- That what a law is given reads as a list or a record of plain values (opened from the row's own reading); no conditions. -/
import Derived.Deep.Slices
import Derived.Deep.Fields
import Derived.ChangeSame
import Derived.ChangeArms
import Derived.WideShapes
import Derived.Test.YtiaelacjjbdolaaGreatDoorPx0
namespace Go.Proofs.YtiaelacjjbdolaaGreatDoorW.Opening
open Go.RowKit Go.ChangeShapes Go.WideShapes Go.Deep Go.Proofs.YtiaelacjjbdolaaGreatDoorW.PrintWords
section
variable {H : Type} {enc : TypeId × Value -> H} {P : Program} {w : World} {base : Nat} {spare : Nat -> Bool} {held : Bool}
/-- Whatever is read at type t is told by the kind d, and is in good form. -/
def d7 (enc : TypeId × Value -> H) (P : Program) (w : World) (base : Nat) (spare : Nat -> Bool) (held : Bool) (t : TypeId) {α : Type} (d : Kd α) (Wf : α -> Prop) : Prop :=
  P.cellsOf t = d.sz /\ ∀ (fuel : Nat) (cs : List Value) (x : DataW H × List MemPlace), DataW.trod enc P w base spare held fuel t cs = some x -> ∃ a, d.K w a cs /\ Wf a
theorem fX {t : TypeId} {k : IntKind} (ht : P.underlying t = some (.int k)) (hc : P.cellsOf t = 1) : d7 enc P w base spare held t (Kd.int k) (fun x => (Lit.int k x).wf = true) :=
  ⟨hc, fun fuel cs x h => by
    obtain ⟨n, rfl, _, hw⟩ := DataW.trod_int ht h
    exact ⟨n, rfl, hw⟩⟩
theorem kb {t : TypeId} (ht : P.underlying t = some .bool) (hc : P.cellsOf t = 1) : d7 enc P w base spare held t Kd.bool (fun _ => True) :=
  ⟨hc, fun fuel cs x h => by
    obtain ⟨b, rfl, _⟩ := DataW.trod_bool ht h
    exact ⟨b, rfl, trivial⟩⟩
theorem dL {t : TypeId} (ht : P.underlying t = some .string) (hc : P.cellsOf t = 1) : d7 enc P w base spare held t Kd.string (fun s => s.size <= 9223372036854775807) :=
  ⟨hc, fun fuel cs x h => by
    obtain ⟨s, rfl, _, hs⟩ := DataW.trod_string ht h
    exact ⟨s, rfl, by simpa [maxLen] using hs⟩⟩
theorem fE {t e : TypeId} {α : Type} [Inhabited α] {d : Kd α} {Wf : α -> Prop} (ht : P.underlying t = some (.slice e)) (hc : P.cellsOf t = 1) (ho : d7 enc P w base spare held e d Wf) :
    d7 enc P w base spare held t (Kd.slice e d) (fun l => l.length <= 9223372036854775807 /\ ∀ x ∈ l, Wf x) := by
  refine ⟨hc, fun fuel cs x h => ?_⟩
  rcases open_slice ht h with ⟨rfl, _⟩ | ⟨a, len, cap, m, n, D, Pl, rfl, _, hl, hm, hmm, _, hx⟩
  · exact ⟨[], ⟨none, 0, rfl, Nat.le_refl _, rfl, by simp, fun h => absurd h (by simp)⟩, by simp, by simp⟩
  · have hml : len <= m := by rw [hmm]; split <;> omega
    obtain ⟨f, hf⟩ := choose_lt (α := α) (p := fun i y => ∃ c, w.cells? base (a.add (i * P.cellsOf e)) (P.cellsOf e) = some c /\ d.K w y c /\ Wf y) (n := len) (fun i hi => by
      obtain ⟨c, h1, h2⟩ := hx i (by omega)
      obtain ⟨y, h3, h4⟩ := ho.2 _ _ _ h2
      exact ⟨y, c, h1, h3, h4⟩)
    have hlen : len <= 9223372036854775807 := by simp only [maxLen] at hm; omega
    refine ⟨(List.range len).map f, ⟨some a, cap, by simp, by simpa using hl, ?_⟩, by simpa using hlen, fun y hy => ?_⟩
    · refine ⟨rfl, by simpa using hlen, fun _ => ⟨a, rfl, fun j p hj => ?_⟩⟩
      obtain ⟨hjl, hp⟩ := List.getElem?_eq_some_iff.1 hj
      simp only [List.length_map, List.length_range] at hjl
      simp only [List.getElem_map, List.getElem_range] at hp
      subst hp
      obtain ⟨c, h1, h2, _⟩ := hf j hjl
      obtain ⟨_, hcl, hat⟩ := World.cells?_some h1
      rw [ho.1] at hcl hat
      refine ⟨c, hcl, h2, fun i u hu => ?_⟩
      have hi : i < c.length := (List.getElem?_eq_some_iff.1 hu).1
      rw [<- Go.Deep.add_add, hat i (by omega), hu]
    · obtain ⟨i, hi, rfl⟩ := List.mem_map.1 hy
      obtain ⟨c, _, _, h4⟩ := hf i (List.mem_range.1 hi)
      exact h4
/-- A list, parted in front. -/
theorem dS {β : Type} (cs : List β) (o s : Nat) : cs.drop o = (cs.drop o).take s ++ cs.drop (o + s) := by rw [<- List.drop_drop, List.take_append_drop]
/-- A record that a law is given. -/
theorem jy {r : Reach} {b0 : Nat} {t : TypeId} {fs : Array Field} {α : Type} {d : Kd α} {Wf : α -> Prop} {v : Value} {dt : DataW H} {p : List MemPlace} (ht : P.underlying t = some (.struct fs)) (ho : d7 enc P w base spare held t d Wf)
    (hv : Value.okWide P w r b0 t v) (h : DataW.Trod enc P w base spare held t v dt p) :
    ∃ (cs : List Value) (x : α), v = .agg cs.toArray /\ d.K w x cs /\ Wf x := by
  obtain ⟨cs, rfl, _⟩ := okWide_struct ht hv
  obtain ⟨fuel, hf⟩ := h
  obtain ⟨x, hK, hw⟩ := ho.2 _ _ _ hf
  exact ⟨_, x, by simp [Value.cells], hK, hw⟩
end
end Go.Proofs.YtiaelacjjbdolaaGreatDoorW.Opening
namespace Go.Proofs.YtiaelacjjbdolaaGreatDoor.Openers
open Go.RowKit Go.ChangeShapes Go.WideShapes Go.Deep Go.Proofs.YtiaelacjjbdolaaGreatDoorW.PrintWords Go.Proofs.YtiaelacjjbdolaaGreatDoorW.Opening
section
variable {H : Type} {enc : TypeId × Value -> H} {w : World} {base : Nat} {spare : Nat -> Bool} {held : Bool}
instance : Inhabited Px.eM := ⟨Px.z113⟩
theorem i2 : d7 enc Tryz.prog w base spare held 113 Px.fu Px.gS := by
  refine ⟨by kernel_rfl, fun fuel cs x h => ?_⟩
  obtain ⟨ys, n, _, _, hlen, hyl, hf⟩ := DataW.trod_struct Tryz.underlying113 h
  have hcs : cs.length = 4 := hlen.trans (by kernel_rfl)
  have hys : ys.length = 4 := hyl.trans rfl
  have g0 := hf 0 _ rfl
  rw [List.getElem?_eq_getElem (show 0 < ys.length by omega)] at g0
  have o0 : d7 enc Tryz.prog w base spare held 43 (Kd.slice 9 Kd.string) (fun x : List ByteArray => (x.length <= 9223372036854775807 /\ ∀ e700 ∈ x, e700.size <= 9223372036854775807)) := (fE (α := (ByteArray)) (d := Kd.string) (Wf := (fun x : ByteArray => x.size <= 9223372036854775807)) Tryz.underlying43 (by kernel_rfl) (dL Tryz.underlying9 (by kernel_rfl)))
  obtain ⟨a0, q0, w0⟩ := o0.2 _ _ _ g0
  have r0 : (Kd.slice 9 Kd.string).K w a0 ((cs.drop 0).take 1) := by
    have e := o0.1
    have hq : (Kd.slice 9 Kd.string).K w a0 ((cs.drop 0).take (Tryz.prog.cellsOf 43)) := q0
    rw [e] at hq
    exact hq
  have g1 := hf 1 _ rfl
  rw [List.getElem?_eq_getElem (show 1 < ys.length by omega)] at g1
  have o1 : d7 enc Tryz.prog w base spare held 9 Kd.string (fun x : ByteArray => x.size <= 9223372036854775807) := (dL Tryz.underlying9 (by kernel_rfl))
  obtain ⟨a1, q1, w1⟩ := o1.2 _ _ _ g1
  have r1 : Kd.string.K w a1 ((cs.drop 1).take 1) := by
    have e := o1.1
    have hq : Kd.string.K w a1 ((cs.drop 1).take (Tryz.prog.cellsOf 9)) := q1
    rw [e] at hq
    exact hq
  have g2 := hf 2 _ rfl
  rw [List.getElem?_eq_getElem (show 2 < ys.length by omega)] at g2
  have o2 : d7 enc Tryz.prog w base spare held 9 Kd.string (fun x : ByteArray => x.size <= 9223372036854775807) := (dL Tryz.underlying9 (by kernel_rfl))
  obtain ⟨a2, q2, w2⟩ := o2.2 _ _ _ g2
  have r2 : Kd.string.K w a2 ((cs.drop 2).take 1) := by
    have e := o2.1
    have hq : Kd.string.K w a2 ((cs.drop 2).take (Tryz.prog.cellsOf 9)) := q2
    rw [e] at hq
    exact hq
  have g3 := hf 3 _ rfl
  rw [List.getElem?_eq_getElem (show 3 < ys.length by omega)] at g3
  have o3 : d7 enc Tryz.prog w base spare held 9 Kd.string (fun x : ByteArray => x.size <= 9223372036854775807) := (dL Tryz.underlying9 (by kernel_rfl))
  obtain ⟨a3, q3, w3⟩ := o3.2 _ _ _ g3
  have r3 : Kd.string.K w a3 ((cs.drop 3).take 1) := by
    have e := o3.1
    have hq : Kd.string.K w a3 ((cs.drop 3).take (Tryz.prog.cellsOf 9)) := q3
    rw [e] at hq
    exact hq
  have z3 : Kd.string.K w a3 (cs.drop 3) := by
    have hz := r3
    rwa [List.take_of_length_le (by rw [List.length_drop]; omega)] at hz
  have hK : Px.fu.K w (⟨a0, a1, a2, a3⟩ : Px.eM) (cs.drop 0) := ⟨(cs.drop 0).take 1, cs.drop 1, dS cs 0 1, r0, ⟨(cs.drop 1).take 1, cs.drop 2, dS cs 1 1, r1, ⟨(cs.drop 2).take 1, cs.drop 3, dS cs 2 1, r2, z3⟩⟩⟩
  rw [List.drop_zero] at hK
  exact ⟨_, hK, ⟨w0, w1, w2, w3⟩⟩
instance : Inhabited Px.S62 := ⟨Px.z62⟩
theorem ml : d7 enc Tryz.prog w base spare held 62 Px.k62 Px.Wf62 := by
  refine ⟨by kernel_rfl, fun fuel cs x h => ?_⟩
  obtain ⟨ys, n, _, _, hlen, hyl, hf⟩ := DataW.trod_struct Tryz.underlying62 h
  have hcs : cs.length = 4 := hlen.trans (by kernel_rfl)
  have hys : ys.length = 4 := hyl.trans rfl
  have g0 := hf 0 _ rfl
  rw [List.getElem?_eq_getElem (show 0 < ys.length by omega)] at g0
  have o0 : d7 enc Tryz.prog w base spare held 3 (Kd.int .i64) (fun x : Int => (Lit.int .i64 x).wf = true) := (fX Tryz.underlying3 (by kernel_rfl))
  obtain ⟨a0, q0, w0⟩ := o0.2 _ _ _ g0
  have r0 : (Kd.int .i64).K w a0 ((cs.drop 0).take 1) := by
    have e := o0.1
    have hq : (Kd.int .i64).K w a0 ((cs.drop 0).take (Tryz.prog.cellsOf 3)) := q0
    rw [e] at hq
    exact hq
  have g1 := hf 1 _ rfl
  rw [List.getElem?_eq_getElem (show 1 < ys.length by omega)] at g1
  have o1 : d7 enc Tryz.prog w base spare held 3 (Kd.int .i64) (fun x : Int => (Lit.int .i64 x).wf = true) := (fX Tryz.underlying3 (by kernel_rfl))
  obtain ⟨a1, q1, w1⟩ := o1.2 _ _ _ g1
  have r1 : (Kd.int .i64).K w a1 ((cs.drop 1).take 1) := by
    have e := o1.1
    have hq : (Kd.int .i64).K w a1 ((cs.drop 1).take (Tryz.prog.cellsOf 3)) := q1
    rw [e] at hq
    exact hq
  have g2 := hf 2 _ rfl
  rw [List.getElem?_eq_getElem (show 2 < ys.length by omega)] at g2
  have o2 : d7 enc Tryz.prog w base spare held 3 (Kd.int .i64) (fun x : Int => (Lit.int .i64 x).wf = true) := (fX Tryz.underlying3 (by kernel_rfl))
  obtain ⟨a2, q2, w2⟩ := o2.2 _ _ _ g2
  have r2 : (Kd.int .i64).K w a2 ((cs.drop 2).take 1) := by
    have e := o2.1
    have hq : (Kd.int .i64).K w a2 ((cs.drop 2).take (Tryz.prog.cellsOf 3)) := q2
    rw [e] at hq
    exact hq
  have g3 := hf 3 _ rfl
  rw [List.getElem?_eq_getElem (show 3 < ys.length by omega)] at g3
  have o3 : d7 enc Tryz.prog w base spare held 4 Kd.bool (fun x : Bool => True) := (kb Tryz.underlying4 (by kernel_rfl))
  obtain ⟨a3, q3, w3⟩ := o3.2 _ _ _ g3
  have r3 : Kd.bool.K w a3 ((cs.drop 3).take 1) := by
    have e := o3.1
    have hq : Kd.bool.K w a3 ((cs.drop 3).take (Tryz.prog.cellsOf 4)) := q3
    rw [e] at hq
    exact hq
  have z3 : Kd.bool.K w a3 (cs.drop 3) := by
    have hz := r3
    rwa [List.take_of_length_le (by rw [List.length_drop]; omega)] at hz
  have hK : Px.k62.K w (⟨a0, a1, a2, a3⟩ : Px.S62) (cs.drop 0) := ⟨(cs.drop 0).take 1, cs.drop 1, dS cs 0 1, r0, ⟨(cs.drop 1).take 1, cs.drop 2, dS cs 1 1, r1, ⟨(cs.drop 2).take 1, cs.drop 3, dS cs 2 1, r2, z3⟩⟩⟩
  rw [List.drop_zero] at hK
  exact ⟨_, hK, ⟨w0, w1, w2, w3⟩⟩
instance : Inhabited Px.S64 := ⟨Px.z64⟩
theorem mo : d7 enc Tryz.prog w base spare held 64 Px.k64 Px.jP := by
  refine ⟨by kernel_rfl, fun fuel cs x h => ?_⟩
  obtain ⟨ys, n, _, _, hlen, hyl, hf⟩ := DataW.trod_struct Tryz.underlying64 h
  have hcs : cs.length = 14 := hlen.trans (by kernel_rfl)
  have hys : ys.length = 11 := hyl.trans rfl
  have g0 := hf 0 _ rfl
  rw [List.getElem?_eq_getElem (show 0 < ys.length by omega)] at g0
  have o0 : d7 enc Tryz.prog w base spare held 9 Kd.string (fun x : ByteArray => x.size <= 9223372036854775807) := (dL Tryz.underlying9 (by kernel_rfl))
  obtain ⟨a0, q0, w0⟩ := o0.2 _ _ _ g0
  have r0 : Kd.string.K w a0 ((cs.drop 0).take 1) := by
    have e := o0.1
    have hq : Kd.string.K w a0 ((cs.drop 0).take (Tryz.prog.cellsOf 9)) := q0
    rw [e] at hq
    exact hq
  have g1 := hf 1 _ rfl
  rw [List.getElem?_eq_getElem (show 1 < ys.length by omega)] at g1
  have o1 : d7 enc Tryz.prog w base spare held 3 (Kd.int .i64) (fun x : Int => (Lit.int .i64 x).wf = true) := (fX Tryz.underlying3 (by kernel_rfl))
  obtain ⟨a1, q1, w1⟩ := o1.2 _ _ _ g1
  have r1 : (Kd.int .i64).K w a1 ((cs.drop 1).take 1) := by
    have e := o1.1
    have hq : (Kd.int .i64).K w a1 ((cs.drop 1).take (Tryz.prog.cellsOf 3)) := q1
    rw [e] at hq
    exact hq
  have g2 := hf 2 _ rfl
  rw [List.getElem?_eq_getElem (show 2 < ys.length by omega)] at g2
  have o2 : d7 enc Tryz.prog w base spare held 61 (Kd.slice 113 Px.fu) (fun x : List (Px.eM) => (x.length <= 9223372036854775807 /\ ∀ e700 ∈ x, Px.gS e700)) := (fE (α := (Px.eM)) (d := Px.fu) (Wf := Px.gS) Tryz.underlying61 (by kernel_rfl) i2)
  obtain ⟨a2, q2, w2⟩ := o2.2 _ _ _ g2
  have r2 : (Kd.slice 113 Px.fu).K w a2 ((cs.drop 2).take 1) := by
    have e := o2.1
    have hq : (Kd.slice 113 Px.fu).K w a2 ((cs.drop 2).take (Tryz.prog.cellsOf 61)) := q2
    rw [e] at hq
    exact hq
  have g3 := hf 3 _ rfl
  rw [List.getElem?_eq_getElem (show 3 < ys.length by omega)] at g3
  have o3 : d7 enc Tryz.prog w base spare held 61 (Kd.slice 113 Px.fu) (fun x : List (Px.eM) => (x.length <= 9223372036854775807 /\ ∀ e700 ∈ x, Px.gS e700)) := (fE (α := (Px.eM)) (d := Px.fu) (Wf := Px.gS) Tryz.underlying61 (by kernel_rfl) i2)
  obtain ⟨a3, q3, w3⟩ := o3.2 _ _ _ g3
  have r3 : (Kd.slice 113 Px.fu).K w a3 ((cs.drop 3).take 1) := by
    have e := o3.1
    have hq : (Kd.slice 113 Px.fu).K w a3 ((cs.drop 3).take (Tryz.prog.cellsOf 61)) := q3
    rw [e] at hq
    exact hq
  have g4 := hf 4 _ rfl
  rw [List.getElem?_eq_getElem (show 4 < ys.length by omega)] at g4
  have o4 : d7 enc Tryz.prog w base spare held 9 Kd.string (fun x : ByteArray => x.size <= 9223372036854775807) := (dL Tryz.underlying9 (by kernel_rfl))
  obtain ⟨a4, q4, w4⟩ := o4.2 _ _ _ g4
  have r4 : Kd.string.K w a4 ((cs.drop 4).take 1) := by
    have e := o4.1
    have hq : Kd.string.K w a4 ((cs.drop 4).take (Tryz.prog.cellsOf 9)) := q4
    rw [e] at hq
    exact hq
  have g5 := hf 5 _ rfl
  rw [List.getElem?_eq_getElem (show 5 < ys.length by omega)] at g5
  have o5 : d7 enc Tryz.prog w base spare held 9 Kd.string (fun x : ByteArray => x.size <= 9223372036854775807) := (dL Tryz.underlying9 (by kernel_rfl))
  obtain ⟨a5, q5, w5⟩ := o5.2 _ _ _ g5
  have r5 : Kd.string.K w a5 ((cs.drop 5).take 1) := by
    have e := o5.1
    have hq : Kd.string.K w a5 ((cs.drop 5).take (Tryz.prog.cellsOf 9)) := q5
    rw [e] at hq
    exact hq
  have g6 := hf 6 _ rfl
  rw [List.getElem?_eq_getElem (show 6 < ys.length by omega)] at g6
  have o6 : d7 enc Tryz.prog w base spare held 9 Kd.string (fun x : ByteArray => x.size <= 9223372036854775807) := (dL Tryz.underlying9 (by kernel_rfl))
  obtain ⟨a6, q6, w6⟩ := o6.2 _ _ _ g6
  have r6 : Kd.string.K w a6 ((cs.drop 6).take 1) := by
    have e := o6.1
    have hq : Kd.string.K w a6 ((cs.drop 6).take (Tryz.prog.cellsOf 9)) := q6
    rw [e] at hq
    exact hq
  have g7 := hf 7 _ rfl
  rw [List.getElem?_eq_getElem (show 7 < ys.length by omega)] at g7
  have o7 : d7 enc Tryz.prog w base spare held 62 Px.k62 Px.Wf62 := ml
  obtain ⟨a7, q7, w7⟩ := o7.2 _ _ _ g7
  have r7 : Px.k62.K w a7 ((cs.drop 7).take 4) := by
    have e := o7.1
    have hq : Px.k62.K w a7 ((cs.drop 7).take (Tryz.prog.cellsOf 62)) := q7
    rw [e] at hq
    exact hq
  have g8 := hf 8 _ rfl
  rw [List.getElem?_eq_getElem (show 8 < ys.length by omega)] at g8
  have o8 : d7 enc Tryz.prog w base spare held 3 (Kd.int .i64) (fun x : Int => (Lit.int .i64 x).wf = true) := (fX Tryz.underlying3 (by kernel_rfl))
  obtain ⟨a8, q8, w8⟩ := o8.2 _ _ _ g8
  have r8 : (Kd.int .i64).K w a8 ((cs.drop 11).take 1) := by
    have e := o8.1
    have hq : (Kd.int .i64).K w a8 ((cs.drop 11).take (Tryz.prog.cellsOf 3)) := q8
    rw [e] at hq
    exact hq
  have g9 := hf 9 _ rfl
  rw [List.getElem?_eq_getElem (show 9 < ys.length by omega)] at g9
  have o9 : d7 enc Tryz.prog w base spare held 9 Kd.string (fun x : ByteArray => x.size <= 9223372036854775807) := (dL Tryz.underlying9 (by kernel_rfl))
  obtain ⟨a9, q9, w9⟩ := o9.2 _ _ _ g9
  have r9 : Kd.string.K w a9 ((cs.drop 12).take 1) := by
    have e := o9.1
    have hq : Kd.string.K w a9 ((cs.drop 12).take (Tryz.prog.cellsOf 9)) := q9
    rw [e] at hq
    exact hq
  have g10 := hf 10 _ rfl
  rw [List.getElem?_eq_getElem (show 10 < ys.length by omega)] at g10
  have o10 : d7 enc Tryz.prog w base spare held 9 Kd.string (fun x : ByteArray => x.size <= 9223372036854775807) := (dL Tryz.underlying9 (by kernel_rfl))
  obtain ⟨a10, q10, w10⟩ := o10.2 _ _ _ g10
  have r10 : Kd.string.K w a10 ((cs.drop 13).take 1) := by
    have e := o10.1
    have hq : Kd.string.K w a10 ((cs.drop 13).take (Tryz.prog.cellsOf 9)) := q10
    rw [e] at hq
    exact hq
  have z10 : Kd.string.K w a10 (cs.drop 13) := by
    have hz := r10
    rwa [List.take_of_length_le (by rw [List.length_drop]; omega)] at hz
  have hK : Px.k64.K w (⟨a0, a1, a2, a3, a4, a5, a6, a7, a8, a9, a10⟩ : Px.S64) (cs.drop 0) := ⟨(cs.drop 0).take 1, cs.drop 1, dS cs 0 1, r0, ⟨(cs.drop 1).take 1, cs.drop 2, dS cs 1 1, r1, ⟨(cs.drop 2).take 1, cs.drop 3, dS cs 2 1, r2, ⟨(cs.drop 3).take 1, cs.drop 4, dS cs 3 1, r3, ⟨(cs.drop 4).take 1, cs.drop 5, dS cs 4 1, r4, ⟨(cs.drop 5).take 1, cs.drop 6, dS cs 5 1, r5, ⟨(cs.drop 6).take 1, cs.drop 7, dS cs 6 1, r6, ⟨(cs.drop 7).take 4, cs.drop 11, dS cs 7 4, r7, ⟨(cs.drop 11).take 1, cs.drop 12, dS cs 11 1, r8, ⟨(cs.drop 12).take 1, cs.drop 13, dS cs 12 1, r9, z10⟩⟩⟩⟩⟩⟩⟩⟩⟩⟩
  rw [List.drop_zero] at hK
  exact ⟨_, hK, ⟨w0, w1, w2, w3, w4, w5, w6, w7, w8, w9, w10⟩⟩
instance : Inhabited Px.S24 := ⟨Px.z24⟩
theorem mg : d7 enc Tryz.prog w base spare held 24 Px.k24 Px.Wf24 := by
  refine ⟨by kernel_rfl, fun fuel cs x h => ?_⟩
  obtain ⟨ys, n, _, _, hlen, hyl, hf⟩ := DataW.trod_struct Tryz.underlying24 h
  have hcs : cs.length = 1 := hlen.trans (by kernel_rfl)
  have hys : ys.length = 1 := hyl.trans rfl
  have g0 := hf 0 _ rfl
  rw [List.getElem?_eq_getElem (show 0 < ys.length by omega)] at g0
  have o0 : d7 enc Tryz.prog w base spare held 22 (Kd.slice 64 Px.k64) (fun x : List (Px.S64) => (x.length <= 9223372036854775807 /\ ∀ e700 ∈ x, Px.jP e700)) := (fE (α := (Px.S64)) (d := Px.k64) (Wf := Px.jP) Tryz.underlying22 (by kernel_rfl) mo)
  obtain ⟨a0, q0, w0⟩ := o0.2 _ _ _ g0
  have r0 : (Kd.slice 64 Px.k64).K w a0 ((cs.drop 0).take 1) := by
    have e := o0.1
    have hq : (Kd.slice 64 Px.k64).K w a0 ((cs.drop 0).take (Tryz.prog.cellsOf 22)) := q0
    rw [e] at hq
    exact hq
  have z0 : (Kd.slice 64 Px.k64).K w a0 (cs.drop 0) := by
    have hz := r0
    rwa [List.take_of_length_le (by rw [List.length_drop]; omega)] at hz
  have hK : Px.k24.K w (⟨a0⟩ : Px.S24) (cs.drop 0) := z0
  rw [List.drop_zero] at hK
  exact ⟨_, hK, w0⟩
end
end Go.Proofs.YtiaelacjjbdolaaGreatDoor.Openers
