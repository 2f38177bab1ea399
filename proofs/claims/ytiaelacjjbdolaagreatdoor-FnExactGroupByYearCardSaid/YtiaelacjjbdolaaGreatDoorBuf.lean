/- What a byte slice that was made out of a string holds, read and written (a block whose mark lies behind its cells); no conditions. -/
import Derived.Lib.ConvBytes
import Derived.WalkKit
import Derived.Below
import Derived.Laws.Rows
import Derived.Laws.BytesArg
import Derived.Test.YtiaelacjjbdolaaGreatDoorWLast
import Derived.Test.YtiaelacjjbdolaaGreatDoorWWords
namespace Go.Proofs.YtiaelacjjbdolaaGreatDoorW.Buf
open Go.RowKit Go.Proofs.YtiaelacjjbdolaaGreatDoorW.PrintWords
def Bf (W : World) (g : Nat) (e : TypeId) (l : List Int) : Prop :=
  ∃ (cs : Array Value) (lo hi : Nat), W.heap[g]? = some (.cells cs e (lo, hi)) /\ l.length <= cs.size /\ cs.size <= lo /\ ∀ j, j < l.length -> cs[j]? = some (.int .u8 (l.getD j 0))
theorem Bf.cell {W : World} {g : Nat} {e : TypeId} {l : List Int} (h : Bf W g e l) (j : Nat) (hj : j < l.length) : W.cell? ⟨g, j, none⟩ = some (.int .u8 (l.getD j 0)) := by
  obtain ⟨cs, lo, hi, hb, _, _, hc⟩ := h
  rw [cell_of_row W g j cs e (lo, hi) hb]
  exact hc j hj
theorem Bf.frozen {W : World} {g : Nat} {e : TypeId} {l : List Int} (h : Bf W g e l) (j : Nat) (hj : j < l.length) : W.frozen? ⟨g, j, none⟩ = false := by
  obtain ⟨cs, lo, hi, hb, h1, h2, _⟩ := h
  unfold World.frozen?
  simp only [hb]
  have : ¬ (lo <= j) := by omega
  simp [this]
theorem Bf.lt {W : World} {g : Nat} {e : TypeId} {l : List Int} (h : Bf W g e l) : g < W.heap.size := by
  obtain ⟨cs, lo, hi, hb, _⟩ := h
  exact (Array.getElem?_eq_some_iff.1 hb).1
theorem Bf.below {W W1 : World} {g : Nat} {e : TypeId} {l : List Int} (h : Bf W g e l) (hb : Below W.heap.size W W1) : Bf W1 g e l := by
  have hlt := h.lt
  obtain ⟨cs, lo, hi, hc, r⟩ := h
  exact ⟨cs, lo, hi, (hb.block g hlt).trans hc, r⟩
theorem Bf.grown {W W1 : World} {g : Nat} {e : TypeId} {l : List Int} (h : Bf W g e l) {row : Option Nat} (hg : W.grownBy W1 row) (hne : some g ≠ row) : Bf W1 g e l := by
  have hlt := h.lt
  obtain ⟨cs, lo, hi, hc, r⟩ := h
  exact ⟨cs, lo, hi, (hg.block g hlt hne).trans hc, r⟩
theorem Bf.alloc {W : World} {g : Nat} {e : TypeId} {l : List Int} (h : Bf W g e l) (o : Obj) : Bf (W.alloc o) g e l := h.below (below_alloc (Below.refl _ _) o)
theorem Bf.drewN {W : World} {g : Nat} {e : TypeId} {l : List Int} (h : Bf W g e l) (n : Nat) : Bf (W.drewN n) g e l := h
theorem Bf.drew {W : World} {g : Nat} {e : TypeId} {l : List Int} (h : Bf W g e l) : Bf W.drew g e l := h
theorem Bf.set {W : World} {g : Nat} {e : TypeId} {l : List Int} (h : Bf W g e l) (j : Nat) (hj : j < l.length) (v : Int) : Bf (W.setCell ⟨g, j, none⟩ (.int .u8 v)) g e (l.set j v) := by
  obtain ⟨cs, lo, hi, hb, h1, h2, hc⟩ := h
  refine ⟨cs.setIfInBounds j (.int .u8 v), lo, hi, by simp [World.setCell, Array.getElem?_modify, hb], by simpa using h1, by simpa using h2, fun i hi2 => ?_⟩
  rw [List.length_set] at hi2
  rw [Array.getElem?_setIfInBounds]
  by_cases e : j = i
  · subst e
    rw [if_pos rfl, if_pos (by omega)]
    simp [List.getD, List.getElem?_set_self hj]
  · rw [if_neg e, hc i hi2]
    simp [List.getD, List.getElem?_set_ne e]
theorem below_buf (w : World) (e : TypeId) (s : ByteArray) : Below w.heap.size w (Lib.bytesWorld w e s) :=
  ⟨by simp [Lib.bytesWorld, World.freeze, World.alloc, World.drew, -World.alloc_eq, -World.drew_eq], by simp [Lib.bytesWorld, World.freeze, World.alloc, World.drew, -World.alloc_eq, -World.drew_eq], by simp [Lib.bytesWorld, World.freeze, World.alloc, World.drew, -World.alloc_eq, -World.drew_eq],
   by rw [Lib.bytesWorld_size]; omega, fun k hk => Lib.bytesWorld_at_old w e s k hk⟩
theorem buf_new (w : World) (e : TypeId) (s : ByteArray) : Bf (Lib.bytesWorld w e s) w.heap.size e (aQ s) := by
  refine ⟨_, _, _, Lib.bytesWorld_at_new w e s, ?_, Nat.le_refl _, fun j hj => ?_⟩
  · rw [dG]
    simp only [Lib.bytesCells, Array.size_append, Array.size_map, Array.size_replicate]
    have : s.data.size = s.size := rfl
    omega
  · have h1 := Lib.bytesWorld_cell w e s j (by rw [dG] at hj; exact hj)
    rw [cell_of_row _ _ _ _ _ _ (Lib.bytesWorld_at_new w e s)] at h1
    rw [h1]
    rw [dG] at hj
    have hl : j < s.data.toList.length := by rw [cQ]; exact hj
    simp [aQ, List.getD, List.getElem?_eq_getElem hl]
/-- '[]byte(s)'. -/
theorem conv_buf {P : Program} (w : World) (src dst e : TypeId) (s : ByteArray) {u : TypeDesc} (hs : P.underlying src = some u) (hd : P.underlying dst = some (.slice e)) (he : P.underlying e = some (.int .u8)) :
    ∃ cap W1, (convert src dst (.string s)).run P w = .ok (.slice (some ⟨w.heap.size, 0, none⟩) s.size cap) W1 /\ Bf W1 w.heap.size e (aQ s) /\ Below w.heap.size w W1 :=
  ⟨_, _, Lib.run_convert_string_bytes w src dst e s hs hd he, buf_new w e s, below_buf w e s⟩
/-- 'string(b)'. -/
theorem conv_back {P : Program} {W : World} {g : Nat} {e : TypeId} {l : List Int} (h : Bf W g e l) (src dst : TypeId) (n cap : Nat) (hn : l.length = n) (hs : P.underlying src = some (.slice e)) (hd : P.underlying dst = some .string) (he : P.underlying e = some (.int .u8)) :
    (convert src dst (.slice (some ⟨g, 0, none⟩) n cap)).run P W = .ok (.string (strOfNums l)) W :=
  run_convert_bytes_arg (P := P) W src e hs he g 0 n cap l hn (fun i hi => by rw [Nat.zero_add]; exact h.cell i (by omega)) dst hd
section
variable {P : Program} {ops : Array Oper} {Q : Exit -> Act -> World -> Prop}
/-- A call through a function value, by its contract. -/
theorem goesV_ {oi : Oper} {N : Option Tmp} {a : Act} {w : World} {K : Act -> World -> Prop} {f : FuncId} {fn : Func} {x : Operand} {as : Array Operand} {ts : Array TypeId} (hf : P.funcs[f]? = some fn) (hname : (fn.name == "runtime.NumGoroutine") = false) (hb : fn.body.isSome = true) (args : Array Value)
    (hw : Region.wanted oi (yielded ops a.tmps) = true) (hN : oi.dst = N) (hop : oi.op = .call { callee := .value x, args := as, argTypes := ts }) (hx : a.eval x = .func (.func f) #[] #[]) (hargs : as.map a.eval = args)
    (h : Calls P f args w fun e w' => ∃ v, e = .returned v /\ K (a.put N v) w') : if Region.wanted oi (yielded ops a.tmps) = true then Oper.wp P oi a w K Q else K (a.put N undef) w := by
  refine Go.Proofs.YtiaelacjjbdolaaGreatDoorW.PrintLast.call_ f args hw hN ?_ h
  have he := Go.Proofs.YtiaelacjjbdolaaGreatDoorW.PrintLast.enters_ hf hname hb args w
  unfold execOp
  simp [hop, resolve, Deferred.ofValue, invoke, hx, hargs, he]
end
theorem setCell_drewN (w : World) (n : Nat) (a : Addr) (v : Value) : (w.drewN n).setCell a v = (w.setCell a v).drewN n := rfl
end Go.Proofs.YtiaelacjjbdolaaGreatDoorW.Buf
