/- That what a law is given reads as a list or a record of plain values (opened from the row's own reading); no conditions. -/
import Derived.Deep.Slices
import Derived.Deep.Fields
import Derived.ChangeSame
import Derived.ChangeArms
import Derived.WideShapes
import Derived.Test.YtjckholdcgjdnaaDoorPx0
namespace Go.Proofs.YtjckholdcgjdnaaDoorW.Opening
open Go.RowKit Go.ChangeShapes Go.WideShapes Go.Deep Go.Proofs.YtjckholdcgjdnaaDoorW.PrintWords
section
variable {H : Type} {enc : TypeId × Value → H} {P : Program} {w : World} {base : Nat} {spare : Nat → Bool} {held : Bool}
/-- Whatever is read at type t is told by the kind d, and is in good form. -/
def Opens (enc : TypeId × Value → H) (P : Program) (w : World) (base : Nat) (spare : Nat → Bool) (held : Bool) (t : TypeId) {α : Type} (d : Kd α) (Wf : α → Prop) : Prop :=
  P.cellsOf t = d.sz ∧ ∀ (fuel : Nat) (cs : List Value) (x : DataW H × List MemPlace), DataW.trod enc P w base spare held fuel t cs = some x → ∃ a, d.K w a cs ∧ Wf a
theorem opens_int {t : TypeId} {k : IntKind} (ht : P.underlying t = some (.int k)) (hc : P.cellsOf t = 1) : Opens enc P w base spare held t (Kd.int k) (fun x => (Lit.int k x).wf = true) :=
  ⟨hc, fun fuel cs x h => by
    obtain ⟨n, rfl, _, hw⟩ := DataW.trod_int ht h
    exact ⟨n, rfl, hw⟩⟩
theorem opens_bool {t : TypeId} (ht : P.underlying t = some .bool) (hc : P.cellsOf t = 1) : Opens enc P w base spare held t Kd.bool (fun _ => True) :=
  ⟨hc, fun fuel cs x h => by
    obtain ⟨b, rfl, _⟩ := DataW.trod_bool ht h
    exact ⟨b, rfl, trivial⟩⟩
theorem opens_string {t : TypeId} (ht : P.underlying t = some .string) (hc : P.cellsOf t = 1) : Opens enc P w base spare held t Kd.string (fun s => s.size ≤ 9223372036854775807) :=
  ⟨hc, fun fuel cs x h => by
    obtain ⟨s, rfl, _, hs⟩ := DataW.trod_string ht h
    exact ⟨s, rfl, by simpa [maxLen] using hs⟩⟩
theorem opens_slice {t e : TypeId} {α : Type} [Inhabited α] {d : Kd α} {Wf : α → Prop} (ht : P.underlying t = some (.slice e)) (hc : P.cellsOf t = 1) (ho : Opens enc P w base spare held e d Wf) :
    Opens enc P w base spare held t (Kd.slice e d) (fun l => l.length ≤ 9223372036854775807 ∧ ∀ x ∈ l, Wf x) := by
  refine ⟨hc, fun fuel cs x h => ?_⟩
  rcases open_slice ht h with ⟨rfl, _⟩ | ⟨a, len, cap, m, n, D, Pl, rfl, _, hl, hm, hmm, _, hx⟩
  · exact ⟨[], ⟨none, 0, rfl, Nat.le_refl _, rfl, by simp, fun h => absurd h (by simp)⟩, by simp, by simp⟩
  · have hml : len ≤ m := by rw [hmm]; split <;> omega
    obtain ⟨f, hf⟩ := choose_lt (α := α) (p := fun i y => ∃ c, w.cells? base (a.add (i * P.cellsOf e)) (P.cellsOf e) = some c ∧ d.K w y c ∧ Wf y) (n := len) (fun i hi => by
      obtain ⟨c, h1, h2⟩ := hx i (by omega)
      obtain ⟨y, h3, h4⟩ := ho.2 _ _ _ h2
      exact ⟨y, c, h1, h3, h4⟩)
    have hlen : len ≤ 9223372036854775807 := by simp only [maxLen] at hm; omega
    refine ⟨(List.range len).map f, ⟨some a, cap, by simp, by simpa using hl, ?_⟩, by simpa using hlen, fun y hy => ?_⟩
    · refine ⟨rfl, by simpa using hlen, fun _ => ⟨a, rfl, fun j p hj => ?_⟩⟩
      obtain ⟨hjl, hp⟩ := List.getElem?_eq_some_iff.1 hj
      simp only [List.length_map, List.length_range] at hjl
      simp only [List.getElem_map, List.getElem_range] at hp
      subst hp
      obtain ⟨c, h1, h2, _⟩ := hf j hjl
      obtain ⟨_, hcl, hat⟩ := World.cells?_some h1
      rw [ho.1] at hcl hat
      refine ⟨c, hcl, h2, fun i u hu => ?_⟩
      have hi : i < c.length := (List.getElem?_eq_some_iff.1 hu).1
      rw [← Go.Deep.add_add, hat i (by omega), hu]
    · obtain ⟨i, hi, rfl⟩ := List.mem_map.1 hy
      obtain ⟨c, _, _, h4⟩ := hf i (List.mem_range.1 hi)
      exact h4
/-- A list, parted in front. -/
theorem split_at {β : Type} (cs : List β) (o s : Nat) : cs.drop o = (cs.drop o).take s ++ cs.drop (o + s) := by rw [← List.drop_drop, List.take_append_drop]
/-- A slice that a law is given. -/
theorem given_slice {r : Reach} {b0 : Nat} {t e : TypeId} {α : Type} [Inhabited α] {d : Kd α} {Wf : α → Prop} {v : Value} {dt : DataW H} {p : List MemPlace} (ht : P.underlying t = some (.slice e)) (hc : P.cellsOf t = 1) (ho : Opens enc P w base spare held e d Wf)
    (hv : Value.okWide P w r b0 t v) (h : DataW.Trod enc P w base spare held t v dt p) :
    ∃ (A : Option Addr) (c : Nat) (l : List α), v = .slice A l.length c ∧ l.length ≤ c ∧ Kd.C d w A l.length l ∧ (∀ x ∈ l, Wf x) := by
  obtain ⟨a, len, cap, rfl⟩ := okWide_slice ht hv
  obtain ⟨fuel, hf⟩ := h
  obtain ⟨l, ⟨A, c, hcs, hlc, hC⟩, _, hw⟩ := (opens_slice ht hc ho).2 _ _ _ hf
  simp only [Value.cells, List.cons.injEq, and_true] at hcs
  exact ⟨A, c, l, by simpa using hcs, hlc, hC, hw⟩
/-- A record that a law is given. -/
theorem given_struct {r : Reach} {b0 : Nat} {t : TypeId} {fs : Array Field} {α : Type} {d : Kd α} {Wf : α → Prop} {v : Value} {dt : DataW H} {p : List MemPlace} (ht : P.underlying t = some (.struct fs)) (ho : Opens enc P w base spare held t d Wf)
    (hv : Value.okWide P w r b0 t v) (h : DataW.Trod enc P w base spare held t v dt p) :
    ∃ (cs : List Value) (x : α), v = .agg cs.toArray ∧ d.K w x cs ∧ Wf x := by
  obtain ⟨cs, rfl, _⟩ := okWide_struct ht hv
  obtain ⟨fuel, hf⟩ := h
  obtain ⟨x, hK, hw⟩ := ho.2 _ _ _ hf
  exact ⟨_, x, by simp [Value.cells], hK, hw⟩
end
end Go.Proofs.YtjckholdcgjdnaaDoorW.Opening
namespace Go.Proofs.YtjckholdcgjdnaaDoor.Openers
open Go.RowKit Go.ChangeShapes Go.WideShapes Go.Deep Go.Proofs.YtjckholdcgjdnaaDoorW.PrintWords Go.Proofs.YtjckholdcgjdnaaDoorW.Opening
section
variable {H : Type} {enc : TypeId × Value → H} {w : World} {base : Nat} {spare : Nat → Bool} {held : Bool}
instance : Inhabited Px.S23 := ⟨Px.z23⟩
theorem opens_T23 : Opens enc Tryd.prog w base spare held 23 Px.k23 Px.Wf23 := by
  refine ⟨by kernel_rfl, fun fuel cs x h => ?_⟩
  obtain ⟨ys, n, _, _, hlen, hyl, hf⟩ := DataW.trod_struct Tryd.underlying23 h
  have hcs : cs.length = 3 := hlen.trans (by kernel_rfl)
  have hys : ys.length = 3 := hyl.trans rfl
  have g0 := hf 0 _ rfl
  rw [List.getElem?_eq_getElem (show 0 < ys.length by omega)] at g0
  have o0 : Opens enc Tryd.prog w base spare held 9 Kd.string (fun x : ByteArray => x.size ≤ 9223372036854775807) := (opens_string Tryd.underlying9 (by kernel_rfl))
  obtain ⟨a0, q0, w0⟩ := o0.2 _ _ _ g0
  have r0 : Kd.string.K w a0 ((cs.drop 0).take 1) := by
    have e := o0.1
    have hq : Kd.string.K w a0 ((cs.drop 0).take (Tryd.prog.cellsOf 9)) := q0
    rw [e] at hq
    exact hq
  have g1 := hf 1 _ rfl
  rw [List.getElem?_eq_getElem (show 1 < ys.length by omega)] at g1
  have o1 : Opens enc Tryd.prog w base spare held 3 (Kd.int .i64) (fun x : Int => (Lit.int .i64 x).wf = true) := (opens_int Tryd.underlying3 (by kernel_rfl))
  obtain ⟨a1, q1, w1⟩ := o1.2 _ _ _ g1
  have r1 : (Kd.int .i64).K w a1 ((cs.drop 1).take 1) := by
    have e := o1.1
    have hq : (Kd.int .i64).K w a1 ((cs.drop 1).take (Tryd.prog.cellsOf 3)) := q1
    rw [e] at hq
    exact hq
  have g2 := hf 2 _ rfl
  rw [List.getElem?_eq_getElem (show 2 < ys.length by omega)] at g2
  have o2 : Opens enc Tryd.prog w base spare held 3 (Kd.int .i64) (fun x : Int => (Lit.int .i64 x).wf = true) := (opens_int Tryd.underlying3 (by kernel_rfl))
  obtain ⟨a2, q2, w2⟩ := o2.2 _ _ _ g2
  have r2 : (Kd.int .i64).K w a2 ((cs.drop 2).take 1) := by
    have e := o2.1
    have hq : (Kd.int .i64).K w a2 ((cs.drop 2).take (Tryd.prog.cellsOf 3)) := q2
    rw [e] at hq
    exact hq
  have z2 : (Kd.int .i64).K w a2 (cs.drop 2) := by
    have hz := r2
    rwa [List.take_of_length_le (by rw [List.length_drop]; omega)] at hz
  have hK : Px.k23.K w (⟨a0, a1, a2⟩ : Px.S23) (cs.drop 0) := ⟨(cs.drop 0).take 1, cs.drop 1, split_at cs 0 1, r0, ⟨(cs.drop 1).take 1, cs.drop 2, split_at cs 1 1, r1, z2⟩⟩
  rw [List.drop_zero] at hK
  exact ⟨_, hK, ⟨w0, w1, w2⟩⟩
end
end Go.Proofs.YtjckholdcgjdnaaDoor.Openers
