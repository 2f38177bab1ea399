/- Lemmas on the printed functions, without Go and memory. -/
import Derived.Test.YtiaelacjjbdolaaGreatDoorPx2
import Derived.Test.YtiaelacjjbdolaaGreatDoorPx4
import Derived.Test.YtiaelacjjbdolaaGreatDoorPx5
import Derived.Test.YtiaelacjjbdolaaGreatDoorQEntF
namespace Go.Proofs.YtiaelacjjbdolaaGreatDoor.Pure
open Go.RowKit Go.Proofs.YtiaelacjjbdolaaGreatDoor.Px Go.Proofs.YtiaelacjjbdolaaGreatDoorW.PrintWords Go.Proofs.YtiaelacjjbdolaaGreatDoorW.PrintLast
set_option linter.unusedVariables false
set_option linter.unusedSimpArgs false

def fb (e : En) : List Nm := if (e.au.length : Int) > 0 then e.au else e.ed
def mm (e f : En) : Int := orI (eI (fb e) (fb f)) (orI (dtC e f) (orI (mI (gt e.ti) (gt f.ti)) (orI (cmI e.vol f.vol) (cb e.key f.key))))
abbrev lC (k : Nat) (e f : En) := cu.f k e.key e.kind e.au e.ed e.ti e.co e.pu e.y e.m e.d e.c e.vol e.pg e.cr f.key f.kind f.au f.ed f.ti f.co f.pu f.y f.m f.d f.c f.vol f.pg f.cr
abbrev iC (k : Nat) (e f : En) := bc.f k e.key e.kind e.au e.ed e.ti e.co e.pu e.y e.m e.d e.c e.vol e.pg e.cr f.key f.kind f.au f.ed f.ti f.co f.pu f.y f.m f.d f.c f.vol f.pg f.cr
structure EnV (e : En) : Prop where
  o : gG e
  n : ∀ x ∈ fb e, NmL x
  l : (fb e).length <= 1048576
  dt : m9 e
theorem en_v (e : En) (o : gG e) (h : jZ e = true) : EnV e := by
  unfold jZ at h;simp only [Bool.and_eq_true] at h;obtain ⟨_, _, ha, hd, _, _, _, _, ht, _⟩ := h
  have nm : ∀ l : List Nm, iB l -> fQ l = true -> (∀ x ∈ l, NmL x) /\ l.length <= 1048576 := fun l ol hl => by
    unfold fQ at hl;rw [Bool.and_eq_true] at hl;exact ⟨fun x hx => nml x (ol.n x hx) (List.all_eq_true.1 hl.1 x hx), ol.l⟩
  obtain ⟨d1, d2, d3, d4, d5, d6⟩ := ko _ _ _ _ ht;refine ⟨o, ?_, ?_, ⟨d1, d2, d3, d4, d5, d6⟩⟩;(·unfold fb;(split);(·exact (nm _ o.au ha).1);(·exact (nm _ o.ed hd).1));(·unfold fb;(split);(·exact o.au.l);(·exact o.ed.l))
theorem mY (e : En) : ef.f e.key e.kind e.au e.ed e.ti e.co e.pu e.y e.m e.d e.c e.vol e.pg e.cr = some (fb e) := by
  unfold ef.f fb;(split <;> rfl)
theorem nL (e : En) : dD.f e.key e.kind e.au e.ed e.ti e.co e.pu e.y e.m e.d e.c e.vol e.pg e.cr = some (fb e) := by
  unfold dD.f fb;(split <;> rfl)
theorem cmp_E_s (e f : En) (ve : EnV e) (vf : EnV f) : Ev (fun k => lC k e f) (mm e f) := by
  have t1 := go e.ti l7;have t2 := go f.ti l7;have t3 := ve.o.ti;have t4 := vf.o.ti;have hn := nms_s (fb e) (fb f) ve.n vf.n ve.l vf.l (fb e).length 0 (by omega) (by omega);rw [List.drop_zero, List.drop_zero] at hn;unfold lC cu.f mm;rw [mY, mY];simp only [Option.bind_some];unfold aG.f;refine Ev.bind hn (gI (Ev.bind (dt_s e f ve.dt vf.dt) (gI (Ev.bind (iG e.ti t3).1 (Ev.bind (iG f.ti t4).1 (Ev.bind (mO (gt e.ti) (gt f.ti) (Nat.le_trans t1 t3) (Nat.le_trans t2 t4)).1 (gI ?_)))))));simp only [cmp_s, Option.bind_some];unfold orI cmI;refine Ev.congr (fun _ => ?_) (Ev.now _);by_cases c1 : e.vol < f.vol;(·(rw [if_pos c1, if_pos c1]; rfl));(·rw [if_neg c1, if_neg c1];by_cases c2 : f.vol < e.vol;(·(rw [if_pos c2, if_pos (show e.vol > f.vol from c2)]; rfl));(·(rw [if_neg c2, if_neg (show ¬ e.vol > f.vol from c2)]; rfl)))
theorem cmp_E_i (e f : En) (ve : EnV e) (vf : EnV f) : Ev (fun k => iC k e f) (mm e f) := by
  have t1 := go e.ti l7;have t2 := go f.ti l7;have t3 := ve.o.ti;have t4 := vf.o.ti;have hn := nms_i (fb e) (fb f) ve.n vf.n ve.l vf.l (fb e).length 0 (by omega) (by omega);rw [List.drop_zero, List.drop_zero] at hn;unfold iC bc.f mm;rw [nL, nL];simp only [Option.bind_some];unfold db.f;refine Ev.bind hn (Ev.bind (dt_i e f ve.dt vf.dt) (Ev.bind (iG e.ti t3).2 (Ev.bind (iG f.ti t4).2 (Ev.bind (mO (gt e.ti) (gt f.ti) (Nat.le_trans t1 t3) (Nat.le_trans t2 t4)).2 ?_))));simp only [cmI_i, mD, Option.bind_some];have := lh [eI (fb e) (fb f), dtC e f, mI (gt e.ti) (gt f.ti), cmI e.vol f.vol, cb e.key f.key] (by simp);simp only [orL, ij] at this;exact Ev.bind this (Ev.now _)
end Go.Proofs.YtiaelacjjbdolaaGreatDoor.Pure
