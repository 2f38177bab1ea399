/- What package variables of the library hold while a call runs: read once at the row's own world, and handed on (what lies below that world's size stays as it was); no conditions. -/
import Derived.Below
import Derived.Handed
import Derived.MakeChecks
import Derived.LaidSub
import Derived.Lib.SmallJoins
import Derived.Lib.ItoaMem
import Derived.Shelf.Vars
import Derived.Stop.LaidErr
import Derived.Test.YtiaelacjjbdolaaGreatDoorProg
import Derived.Test.YtiaelacjjbdolaaGreatDoorWWords
namespace Go.Proofs.YtiaelacjjbdolaaGreatDoorW.Envs
open Go.RowKit Go.Proofs.YtiaelacjjbdolaaGreatDoorW.PrintWords
/-- Facts by their numbers. 10 + g: the table of texts in the variable g. 0: the world's shape (each variable holds some value of its type). -/
def Fact : Nat -> World -> Prop
  | 0, W => W.ShapedOpen Tryz.prog
  | _, _ => True
def Env (T : List Nat) (w : World) : Prop := ∃ W0, (∀ t ∈ T, Fact t W0) /\ Below W0.heap.size W0 w
theorem Env.mk_ {T : List Nat} {W : World} (h : ∀ t ∈ T, Fact t W) : Env T W := ⟨W, h, Below.refl _ _⟩
theorem Env.below {T : List Nat} {w w' : World} (h : Env T w) (hb : Below w.heap.size w w') : Env T w' := by
  obtain ⟨W0, h0, h1⟩ := h
  exact ⟨W0, h0, h1.trans (hb.mono h1.size)⟩
theorem Env.sub {S T : List Nat} {w : World} (h : Env T w) (hs : ∀ t ∈ S, t ∈ T) : Env S w := by
  obtain ⟨W0, h0, h1⟩ := h
  exact ⟨W0, fun t ht => h0 t (hs t ht), h1⟩
/-- A variable's one cell, read at the first world, reads so now. -/
theorem Env.cell {T : List Nat} {w : World} (h : Env T w) {g : Nat} {v : Value -> Prop} (hf : ∀ W, (∀ t ∈ T, Fact t W) -> ∃ x, v x /\ W.cell? ⟨g, 0, none⟩ = some x) : ∃ x, v x /\ w.cell? ⟨g, 0, none⟩ = some x := by
  obtain ⟨W0, h0, h1⟩ := h
  obtain ⟨x, hx, hc⟩ := hf W0 h0
  exact ⟨x, hx, (h1.cell (World.block_lt_of_cell? _ _ hc)).trans hc⟩
theorem Env.int {T : List Nat} {w : World} (h : Env T w) (ht : 0 ∈ T) {g : Nat} {k : IntKind} (hf : ∀ W : World, W.ShapedOpen Tryz.prog -> ∃ m, W.cell? ⟨g, 0, none⟩ = some (.int k m)) : ∃ m, w.cell? ⟨g, 0, none⟩ = some (.int k m) := by
  obtain ⟨x, ⟨m, rfl⟩, hc⟩ := Env.cell (v := fun x => ∃ m, x = .int k m) h (fun W hW => by
    obtain ⟨m, hm⟩ := hf W (hW 0 ht)
    exact ⟨_, ⟨m, rfl⟩, hm⟩)
  exact ⟨m, hc⟩
/-- The wrap of a row that lists variables, the world's shape kept. -/
theorem returns_shaped {H : Type} {enc : TypeId × Value -> H} {a : Assume} {C : Checked} {os : Os} {f : FuncId} {fn : Func} {s : ChangeSpec} {conds : List PathCond} {apart fresh handsOn again : Bool} {X : World -> Array Value -> Prop}
    (hX : ∀ (w w' : World) (args : Array Value), w.heap = w'.heap -> X w args -> X w' args)
    (own : ownKnob C.prog.godebug = none) (started : os.Started) (noInit : C.prog.inits.idxOf? f = none) (hfn : C.prog.funcs[f]? = some fn)
    (witness : ∃ (w : World) (tape : Tape) (i : Input), w.os = os /\ (w.forCall tape i).Shaped C.prog /\ i.vars = [] /\ Input.okWide C.prog (w.forCall tape i) .any w.heap.size f i /\
      ((s.pre enc C.prog fn conds apart (w.forCall tape i).memory i.args /\ X (w.forCall tape i).memory i.args) /\ sizedMet enc C.prog fn (OpenSpec.ofChange s) apart (w.forCall tape i).memory i.args) /\ a.holds C.prog (lone (Frame.enter C.prog f i.args .normal) [] (w.forCall tape i)))
    (contract : ∀ (W : World) (base : Nat) (args : Array Value) (ds gs : List (DataW H)) (before : List MemPlace),
      (∀ (j : Nat) t v, fn.params[j]? = some t -> args[j]? = some v -> Value.okWide C.prog W .any base t v) ->
      DataW.Whole enc C.prog fn.params.toList s.vars apart W args.toList ds gs before ->
      conds.all (PathCond.test C.prog ⟨fn.params.toList, ds, s.plain.varTypes C.prog, gs⟩) = true ->
      (DataW.weightsEach C.prog (fn.params.toList ++ s.plain.varTypes C.prog) (ds ++ gs)).all (· <= reachBytes) = true -> X W args -> W.ShapedOpen C.prog ->
      a.holds C.prog (lone (Frame.enter C.prog f args .normal) [] W) ->
      Calls C.prog f args W fun e W' => ∃ v, e = .returned v /\ s.post enc C.prog fn apart fresh handsOn again W args v W') :
    ReturnsInHanded a C os f .any (fun w args => (s.pre enc C.prog fn conds apart w args /\ X w args) /\ sizedMet enc C.prog fn (OpenSpec.ofChange s) apart w args) (s.post enc C.prog fn apart fresh handsOn again) := by
  refine returnsInHanded_of_calls own started noInit witness ?_
  intro w tape i _ hsh _ hok hpre hholds
  obtain ⟨_, _, _, fn', hfn', _, _, _, _, hval⟩ := hok
  obtain rfl : fn' = fn := Option.some.inj (hfn'.symm.trans hfn)
  obtain ⟨⟨⟨ds, gs, before, hw, hc⟩, hx⟩, hz⟩ := hpre
  refine (contract (w.forCall tape i) w.heap.size i.args ds gs before hval (DataW.Whole.of_heap (w' := w.forCall tape i) (by rfl) hw) hc (hz.weights hw) (hX _ _ _ (by rfl) hx) hsh hholds).mono fun e W' ⟨v, he, hp⟩ => ?_
  subst he
  exact ChangeSpec.post_blind hp
end Go.Proofs.YtiaelacjjbdolaaGreatDoorW.Envs
