/- Lemmas on the printed functions, without Go and memory. -/
import Derived.Test.YthbcfjcmkngieaaGreatDoorPx2
import Derived.Test.YthbcfjcmkngieaaGreatDoorPx5
import Derived.Test.YthbcfjcmkngieaaGreatDoorQEntF
namespace Go.Proofs.YthbcfjcmkngieaaGreatDoor.Pure
open Go.RowKit Go.Proofs.YthbcfjcmkngieaaGreatDoor.Px Go.Proofs.YthbcfjcmkngieaaGreatDoorW.PrintWords Go.Proofs.YthbcfjcmkngieaaGreatDoorW.PrintLast
set_option linter.unusedVariables false
set_option linter.unusedSimpArgs false

def mainV (e : En) : List Nm := if (e.au.length : Int) > 0 then e.au else e.ed
def cmpE (e f : En) : Int := orI (namesC (mainV e) (mainV f)) (orI (dtC e f) (orI (colC (dropT e.ti) (dropT f.ti)) (orI (cmI e.vol f.vol) (cb e.key f.key))))
abbrev lC (k : Nat) (e f : En) := spec_l8Compare.f k e.key e.kind e.au e.ed e.ti e.co e.pu e.y e.m e.d e.c e.vol e.pg e.cr f.key f.kind f.au f.ed f.ti f.co f.pu f.y f.m f.d f.c f.vol f.pg f.cr
abbrev iC (k : Nat) (e f : En) := impl_compareEntries.f k e.key e.kind e.au e.ed e.ti e.co e.pu e.y e.m e.d e.c e.vol e.pg e.cr f.key f.kind f.au f.ed f.ti f.co f.pu f.y f.m f.d f.c f.vol f.pg f.cr
structure EnV (e : En) : Prop where
  o : EnOk e
  n : ∀ x ∈ mainV e, NmL x
  l : (mainV e).length ≤ 1048576
  dt : DtOk e
theorem en_v (e : En) (o : EnOk e) (h : valB e = true) : EnV e := by
  unfold valB at h;simp only [Bool.and_eq_true] at h;obtain ⟨_, _, ha, hd, _, _, _, _, ht, _⟩ := h
  have nm : ∀ l : List Nm, NsOk l → namesB l = true → (∀ x ∈ l, NmL x) ∧ l.length ≤ 1048576 := fun l ol hl => by
    unfold namesB at hl;rw [Bool.and_eq_true] at hl;exact ⟨fun x hx => nml x (ol.n x hx) (List.all_eq_true.1 hl.1 x hx), ol.l⟩
  obtain ⟨d1, d2, d3, d4, d5, d6⟩ := date_parts _ _ _ _ ht;refine ⟨o, ?_, ?_, ⟨d1, d2, d3, d4, d5, d6⟩⟩;(·unfold mainV;(split);(·exact (nm _ o.au ha).1);(·exact (nm _ o.ed hd).1));(·unfold mainV;(split);(·exact o.au.l);(·exact o.ed.l))
theorem main_s (e : En) : spec_l8Main.f e.key e.kind e.au e.ed e.ti e.co e.pu e.y e.m e.d e.c e.vol e.pg e.cr = some (mainV e) := by
  unfold spec_l8Main.f mainV;(split <;> rfl)
theorem main_i (e : En) : impl_mainNames.f e.key e.kind e.au e.ed e.ti e.co e.pu e.y e.m e.d e.c e.vol e.pg e.cr = some (mainV e) := by
  unfold impl_mainNames.f mainV;(split <;> rfl)
theorem cmp_E_s (e f : En) (ve : EnV e) (vf : EnV f) : Ev (fun k => lC k e f) (cmpE e f) := by
  have t1 := dropV_le e.ti arts;have t2 := dropV_le f.ti arts;have t3 := ve.o.ti;have t4 := vf.o.ti;have hn := nms_s (mainV e) (mainV f) ve.n vf.n ve.l vf.l (mainV e).length 0 (by omega) (by omega);rw [List.drop_zero, List.drop_zero] at hn;unfold lC spec_l8Compare.f cmpE;rw [main_s, main_s];simp only [Option.bind_some];unfold spec_l8Names.f;refine Ev.bind hn (ev_or (Ev.bind (dt_s e f ve.dt vf.dt) (ev_or (Ev.bind (drop_ev e.ti t3).1 (Ev.bind (drop_ev f.ti t4).1 (Ev.bind (col_ev (dropT e.ti) (dropT f.ti) (Nat.le_trans t1 t3) (Nat.le_trans t2 t4)).1 (ev_or ?_)))))));simp only [cmp_s, Option.bind_some];unfold orI cmI;refine Ev.congr (fun _ => ?_) (Ev.now _);by_cases c1 : e.vol < f.vol;(·(rw [if_pos c1, if_pos c1]; rfl));(·rw [if_neg c1, if_neg c1];by_cases c2 : f.vol < e.vol;(·(rw [if_pos c2, if_pos (show e.vol > f.vol from c2)]; rfl));(·(rw [if_neg c2, if_neg (show ¬ e.vol > f.vol from c2)]; rfl)))
theorem cmp_E_i (e f : En) (ve : EnV e) (vf : EnV f) : Ev (fun k => iC k e f) (cmpE e f) := by
  have t1 := dropV_le e.ti arts;have t2 := dropV_le f.ti arts;have t3 := ve.o.ti;have t4 := vf.o.ti;have hn := nms_i (mainV e) (mainV f) ve.n vf.n ve.l vf.l (mainV e).length 0 (by omega) (by omega);rw [List.drop_zero, List.drop_zero] at hn;unfold iC impl_compareEntries.f cmpE;rw [main_i, main_i];simp only [Option.bind_some];unfold impl_Name_54.f;refine Ev.bind hn (Ev.bind (dt_i e f ve.dt vf.dt) (Ev.bind (drop_ev e.ti t3).2 (Ev.bind (drop_ev f.ti t4).2 (Ev.bind (col_ev (dropT e.ti) (dropT f.ti) (Nat.le_trans t1 t3) (Nat.le_trans t2 t4)).2 ?_))));simp only [cmI_i, cmp_i, Option.bind_some];have := or_ev [namesC (mainV e) (mainV f), dtC e f, colC (dropT e.ti) (dropT f.ti), cmI e.vol f.vol, cb e.key f.key] (by simp);simp only [orL, orI_zero] at this;exact Ev.bind this (Ev.now _)
end Go.Proofs.YthbcfjcmkngieaaGreatDoor.Pure
