/- What package variables of the library hold while a call runs: read once at the row's own world, and handed on (what lies below that world's size stays as it was); no conditions. -/
import Derived.Below
import Derived.Handed
import Derived.MakeChecks
import Derived.LaidSub
import Derived.Lib.SmallJoins
import Derived.Lib.ItoaMem
import Derived.Shelf.Vars
import Derived.Stop.LaidErr
import Derived.Test.YthcccgnhokncdaaGreatDoorProg
import Derived.Test.YthcccgnhokncdaaGreatDoorWWords
namespace Go.Proofs.YthcccgnhokncdaaGreatDoorW.Envs
open Go.RowKit Go.Proofs.YthcccgnhokncdaaGreatDoorW.PrintWords
def strs1 : List ByteArray := [⟨#[]⟩, ⟨#[74, 97, 110, 117, 97, 114, 121]⟩, ⟨#[70, 101, 98, 114, 117, 97, 114, 121]⟩, ⟨#[77, 97, 114, 99, 104]⟩, ⟨#[65, 112, 114, 105, 108]⟩, ⟨#[77, 97, 121]⟩, ⟨#[74, 117, 110, 101]⟩, ⟨#[74, 117, 108, 121]⟩, ⟨#[65, 117, 103, 117, 115, 116]⟩, ⟨#[83, 101, 112, 116, 101, 109, 98, 101, 114]⟩, ⟨#[79, 99, 116, 111, 98, 101, 114]⟩, ⟨#[78, 111, 118, 101, 109, 98, 101, 114]⟩, ⟨#[68, 101, 99, 101, 109, 98, 101, 114]⟩]
def strs0 : List ByteArray := [⟨#[97, 117, 116, 104, 111, 114, 115]⟩, ⟨#[101, 100, 105, 116, 111, 114, 115]⟩, ⟨#[116, 105, 116, 108, 101]⟩, ⟨#[99, 111, 110, 116, 97, 105, 110, 101, 114]⟩, ⟨#[112, 117, 98, 108, 105, 115, 104, 101, 114]⟩, ⟨#[100, 97, 116, 101]⟩, ⟨#[118, 111, 108, 117, 109, 101]⟩, ⟨#[112, 97, 103, 101, 115]⟩]
/-- Facts by their numbers. 10 + g: the table of texts in the variable g. 0: the world's shape (each variable holds some value of its type). -/
def Fact : Nat → World → Prop
  | 0, W => W.ShapedOpen Tryz.prog
  | 1, W => Lib.TabIs Tryz.prog W "internal/strconv.uint64pow10" .u64 Lib.pow10Tab
  | 11, W => W.var? Tryz.prog "loop.example/g00896/impl.monthNames" = some (strs1.map Value.string).toArray
  | 10, W => W.var? Tryz.prog "loop.example/g00896/impl.fieldWords" = some (strs0.map Value.string).toArray
  | _, _ => True
def Env (T : List Nat) (w : World) : Prop := ∃ W0, (∀ t ∈ T, Fact t W0) ∧ Below W0.heap.size W0 w
theorem Env.mk_ {T : List Nat} {W : World} (h : ∀ t ∈ T, Fact t W) : Env T W := ⟨W, h, Below.refl _ _⟩
theorem Env.below {T : List Nat} {w w' : World} (h : Env T w) (hb : Below w.heap.size w w') : Env T w' := by
  obtain ⟨W0, h0, h1⟩ := h
  exact ⟨W0, h0, h1.trans (hb.mono h1.size)⟩
theorem Env.sub {S T : List Nat} {w : World} (h : Env T w) (hs : ∀ t ∈ S, t ∈ T) : Env S w := by
  obtain ⟨W0, h0, h1⟩ := h
  exact ⟨W0, fun t ht => h0 t (hs t ht), h1⟩
/-- A variable's one cell, read at the first world, reads so now. -/
theorem Env.cell {T : List Nat} {w : World} (h : Env T w) {g : Nat} {v : Value → Prop} (hf : ∀ W, (∀ t ∈ T, Fact t W) → ∃ x, v x ∧ W.cell? ⟨g, 0, none⟩ = some x) : ∃ x, v x ∧ w.cell? ⟨g, 0, none⟩ = some x := by
  obtain ⟨W0, h0, h1⟩ := h
  obtain ⟨x, hx, hc⟩ := hf W0 h0
  exact ⟨x, hx, (h1.cell (World.block_lt_of_cell? _ _ hc)).trans hc⟩
theorem Env.int {T : List Nat} {w : World} (h : Env T w) (ht : 0 ∈ T) {g : Nat} {k : IntKind} (hf : ∀ W : World, W.ShapedOpen Tryz.prog → ∃ m, W.cell? ⟨g, 0, none⟩ = some (.int k m)) : ∃ m, w.cell? ⟨g, 0, none⟩ = some (.int k m) := by
  obtain ⟨x, ⟨m, rfl⟩, hc⟩ := Env.cell (v := fun x => ∃ m, x = .int k m) h (fun W hW => by
    obtain ⟨m, hm⟩ := hf W (hW 0 ht)
    exact ⟨_, ⟨m, rfl⟩, hm⟩)
  exact ⟨m, hc⟩
theorem Env.var {T : List Nat} {w : World} {n : String} {g : Nat} (hg : Tryz.prog.globalNamed n = some g) (h : Env T w) {v : Array Value → Prop} (hf : ∀ W, (∀ t ∈ T, Fact t W) → ∃ x, v x ∧ W.var? Tryz.prog n = some x) : ∃ x, v x ∧ w.var? Tryz.prog n = some x := by
  obtain ⟨W0, h0, h1⟩ := h
  obtain ⟨x, hx, hc⟩ := hf W0 h0
  exact ⟨x, hx, Go.Joins.var_stays hg hc h1 (Nat.le_refl _)⟩
theorem Env.pow10 {T : List Nat} {w : World} (h : Env T w) (ht : 1 ∈ T) : Lib.TabIs Tryz.prog w "internal/strconv.uint64pow10" .u64 Lib.pow10Tab := by obtain ⟨x, rfl, hc⟩ := Env.var (n := "internal/strconv.uint64pow10") (g := 3) (by kernel_rfl) h (v := fun x => x = (Lib.pow10Tab.map fun z => Value.int .u64 z).toArray) (fun W hW => ⟨_, rfl, hW 1 ht⟩); exact hc
/-- A variable whose cells are texts, read as a row of texts. -/
theorem strs_C {w : World} {n : String} {g : Nat} {xs : List ByteArray} (hg : Tryz.prog.globalNamed n = some g) (hl : xs.length ≤ 9223372036854775807) (h : w.var? Tryz.prog n = some (xs.map Value.string).toArray) : Kd.C Kd.string w (some ⟨g, 0, none⟩) xs.length xs := by
  refine Kd.C_of_reads (d := ByteArray.empty) (h1 := fun _ => rfl) ⟨rfl, hl, fun _ => ⟨_, rfl, fun j hj => ?_⟩⟩
  have ea : (⟨g, 0, none⟩ : Addr).add j = ⟨g, j, none⟩ := by
    unfold Addr.add
    by_cases c0 : j = 0
    · subst c0; rfl
    · rw [if_neg c0]
      simp
  rw [ea, World.var?_cell hg h j, List.getD_eq_getElem?_getD, List.getElem?_eq_getElem hj]
  simp [hj]
theorem cells_of_strs {H : Type} {enc : TypeId × Value → H} {P : Program} {w : World} {base : Nat} {sp : Nat → Bool} {held : Bool} {fuel : Nat} {t e : TypeId} {n : Nat} {cs : List Value} {zs : List (List UInt8)} {p : List MemPlace}
    (ht : P.underlying t = some (.array n e)) (he : P.underlying e = some .string) (hce : P.cellsOf e = 1) (hct : P.cellsOf t = n)
    (h : DataW.trod enc P w base sp held fuel t cs = some (.agg (zs.map fun z => .lit (.string z)), p)) : cs = zs.map fun z => Value.string ⟨z.toArray⟩ := by
  cases fuel with
  | zero => simp [DataW.trod] at h
  | succ fuel =>
    simp only [DataW.trod, ht, hce, hct, Nat.mul_one] at h
    split at h
    · rename_i hl
      obtain ⟨xs, hm, hx⟩ := Option.map_eq_some_iff.1 h
      have hxs : xs.map (·.1) = zs.map fun z => (DataW.lit (.string z) : DataW H) := by
        have := congrArg Prod.fst hx
        simpa using this
      have hxl : xs.length = n := by simpa using Lib.mapM_length hm
      have hzl : zs.length = n := by
        have := congrArg List.length hxs
        simp at this
        omega
      apply List.ext_getElem?
      intro i
      by_cases hi : i < n
      · obtain ⟨b, hb, hf⟩ := Lib.mapM_at hm i i (by simp [hi])
        obtain ⟨z, hc, rfl, _⟩ := DataW.trod_string he hf
        have h1 : cs[i]? = some (.string z) := by
          have := congrArg (·[0]?) hc
          simpa [List.getElem?_take, List.getElem?_drop] using this
        have h2 : (xs.map (·.1))[i]? = some (DataW.lit (.string z.data.toList) : DataW H) := by simp [hb]
        rw [hxs] at h2
        simp only [List.getElem?_map, Option.map_eq_some_iff, DataW.lit.injEq, Lit.string.injEq] at h2
        obtain ⟨z', hz', rfl⟩ := h2
        simp [h1, hz']
      · rw [List.getElem?_eq_none (by omega), List.getElem?_eq_none (by simp; omega)]
    · cases h
/-- From the row's condition: the table of texts stands first on the list. -/
theorem strs_of_head {P : Program} {W : World} {name : String} {zs : List (List UInt8)} {rest : List (String × DataW Unit)} {g : Nat} {t e : TypeId} {n : Nat}
    (hg : P.globalNamed name = some g) (hty : (P.globals[g]?).map (·.type) = some t) (ht : P.underlying t = some (.array n e)) (he : P.underlying e = some .string) (hce : P.cellsOf e = 1) (hct : P.cellsOf t = n)
    (h : laidMet P ((name, .agg (zs.map fun z => .lit (.string z))) :: rest) W) : W.var? P name = some (zs.map fun z => Value.string ⟨z.toArray⟩).toArray := by
  obtain ⟨ps, ⟨g', t', cs, fuel, p, q, hg', ht', hvar, hd, _, _⟩, _⟩ := h
  obtain rfl := Option.some.inj (hg.symm.trans hg')
  obtain rfl := Option.some.inj (hty.symm.trans ht')
  rw [hvar, ← cells_of_strs ht he hce hct hd]
theorem Env.rows1 {T : List Nat} {w : World} (h : Env T w) (ht : 11 ∈ T) : Kd.C Kd.string w (some ⟨1, 0, none⟩) strs1.length strs1 := by
  obtain ⟨x, rfl, hc⟩ := Env.var (n := "loop.example/g00896/impl.monthNames") (g := 1) (by kernel_rfl) h (v := fun x => x = (strs1.map Value.string).toArray) (fun W hW => ⟨_, rfl, hW 11 ht⟩)
  exact strs_C (by kernel_rfl) (by decide) hc
theorem Env.rows0 {T : List Nat} {w : World} (h : Env T w) (ht : 10 ∈ T) : Kd.C Kd.string w (some ⟨0, 0, none⟩) strs0.length strs0 := by
  obtain ⟨x, rfl, hc⟩ := Env.var (n := "loop.example/g00896/impl.fieldWords") (g := 0) (by kernel_rfl) h (v := fun x => x = (strs0.map Value.string).toArray) (fun W hW => ⟨_, rfl, hW 10 ht⟩)
  exact strs_C (by kernel_rfl) (by decide) hc
/-- The wrap of a row that lists variables, the world's shape kept. -/
theorem returns_shaped {H : Type} {enc : TypeId × Value → H} {a : Assume} {C : Checked} {os : Os} {f : FuncId} {fn : Func} {s : ChangeSpec} {conds : List PathCond} {apart fresh handsOn again : Bool} {X : World → Array Value → Prop}
    (hX : ∀ (w w' : World) (args : Array Value), w.heap = w'.heap → X w args → X w' args)
    (own : ownKnob C.prog.godebug = none) (started : os.Started) (noInit : C.prog.inits.idxOf? f = none) (hfn : C.prog.funcs[f]? = some fn)
    (witness : ∃ (w : World) (tape : Tape) (i : Input), w.os = os ∧ (w.forCall tape i).Shaped C.prog ∧ i.vars = [] ∧ Input.okWide C.prog (w.forCall tape i) .any w.heap.size f i ∧
      ((s.pre enc C.prog fn conds apart (w.forCall tape i).memory i.args ∧ X (w.forCall tape i).memory i.args) ∧ sizedMet enc C.prog fn (OpenSpec.ofChange s) apart (w.forCall tape i).memory i.args) ∧ a.holds C.prog (lone (Frame.enter C.prog f i.args .normal) [] (w.forCall tape i)))
    (contract : ∀ (W : World) (base : Nat) (args : Array Value) (ds gs : List (DataW H)) (before : List MemPlace),
      (∀ (j : Nat) t v, fn.params[j]? = some t → args[j]? = some v → Value.okWide C.prog W .any base t v) →
      DataW.Whole enc C.prog fn.params.toList s.vars apart W args.toList ds gs before →
      conds.all (PathCond.test C.prog ⟨fn.params.toList, ds, s.plain.varTypes C.prog, gs⟩) = true →
      (DataW.weightsEach C.prog (fn.params.toList ++ s.plain.varTypes C.prog) (ds ++ gs)).all (· ≤ reachBytes) = true → X W args → W.ShapedOpen C.prog →
      a.holds C.prog (lone (Frame.enter C.prog f args .normal) [] W) →
      Calls C.prog f args W fun e W' => ∃ v, e = .returned v ∧ s.post enc C.prog fn apart fresh handsOn again W args v W') :
    ReturnsInHanded a C os f .any (fun w args => (s.pre enc C.prog fn conds apart w args ∧ X w args) ∧ sizedMet enc C.prog fn (OpenSpec.ofChange s) apart w args) (s.post enc C.prog fn apart fresh handsOn again) := by
  refine returnsInHanded_of_calls own started noInit witness ?_
  intro w tape i _ hsh _ hok hpre hholds
  obtain ⟨_, _, _, fn', hfn', _, _, _, _, hval⟩ := hok
  obtain rfl : fn' = fn := Option.some.inj (hfn'.symm.trans hfn)
  obtain ⟨⟨⟨ds, gs, before, hw, hc⟩, hx⟩, hz⟩ := hpre
  refine (contract (w.forCall tape i) w.heap.size i.args ds gs before hval (DataW.Whole.of_heap (w' := w.forCall tape i) (by rfl) hw) hc (hz.weights hw) (hX _ _ _ (by rfl) hx) hsh hholds).mono fun e W' ⟨v, he, hp⟩ => ?_
  subst he
  exact ChangeSpec.post_blind hp
end Go.Proofs.YthcccgnhokncdaaGreatDoorW.Envs
