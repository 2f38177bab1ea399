/- Lemmas on the printed functions, without Go and memory. -/
import Derived.Test.YtiaelacjjbdolaaGreatDoorPx1
import Derived.Test.YtiaelacjjbdolaaGreatDoorPx3
import Derived.Test.YtiaelacjjbdolaaGreatDoorPx4
import Derived.Test.YtiaelacjjbdolaaGreatDoorQEntB
namespace Go.Proofs.YtiaelacjjbdolaaGreatDoor.Pure
open Go.RowKit Go.Proofs.YtiaelacjjbdolaaGreatDoor.Px Go.Proofs.YtiaelacjjbdolaaGreatDoorW.PrintWords Go.Proofs.YtiaelacjjbdolaaGreatDoorW.PrintLast
set_option linter.unusedVariables false
set_option linter.unusedSimpArgs false

def k5 (y : Int) : Int := if Int.tmod y 4 = 0 /\ (Int.tmod y 100 ≠ 0 \/ Int.tmod y 400 = 0) then 29 else 28
def gP (y m : Int) : Int := if m = 2 then k5 y else if m = 4 \/ m = 6 \/ m = 9 \/ m = 11 then 30 else 31
theorem ny (y m : Int) : 28 <= gP y m /\ gP y m <= 31 := by
  unfold gP k5
  (repeat' split) <;> omega
theorem days_s (y m : Int) (hy : 1 <= y) : Ev (fun k => cZ.f k y m) (gP y m) := by
  unfold cZ.f gP k5
  have j : ∀ b : Bool, Ev (fun k => cZ.j0 k b) (if b = true then 29 else 28) := fun b => by
    refine Ev.step (f := fun _ => some (if b = true then 29 else 28)) (fun k => ?_) (Ev.now _);simp only [cZ.j0];(cases b <;> rfl)
  by_cases c2 : m = 2;(·rw [show ∀ x y : Int, (if m = 2 then x else y) = x from fun _ _ => if_pos c2];refine Ev.congr (fun _ => if_pos c2) ?_;have e4 : Int.tmod y 4 = y % 4 := Int.tmod_eq_emod_of_nonneg (by omega);have e100 : Int.tmod y 100 = y % 100 := Int.tmod_eq_emod_of_nonneg (by omega);have e400 : Int.tmod y 400 = y % 400 := Int.tmod_eq_emod_of_nonneg (by omega);have jb := j (Int.tmod y 400 == 0);rw [e4, e100];rw [e400] at jb ⊢;by_cases a : y % 4 = 0;(·by_cases b : y % 100 = 0;(·refine Ev.congr (fun _ => (if_pos a).trans (if_pos b)) ?_;by_cases d : y % 400 = 0;(·rw [if_pos ⟨a, .inr d⟩];rw [beq_iff_eq.2 d] at jb ⊢;exact jb);(·rw [if_neg (fun h => h.2.elim (fun h => h b) d)];rw [beq_eq_false_iff_ne.2 d] at jb ⊢;exact jb));(·rw [if_pos ⟨a, .inl b⟩];exact Ev.congr (fun _ => (if_pos a).trans (if_neg b)) (j true)));(·rw [if_neg (fun h => a h.1)];rw [beq_eq_false_iff_ne.2 (show ¬ y % 400 = 0 by omega)] at jb ⊢;exact Ev.congr (fun _ => if_neg a) jb));(·rw [show ∀ x y : Int, (if m = 2 then x else y) = y from fun _ _ => if_neg c2];refine Ev.congr (fun _ => if_neg c2) ?_;by_cases c4 : m = 4;(·(rw [show (if m = 4 \/ m = 6 \/ m = 9 \/ m = 11 then (30 : Int) else 31) = 30 from if_pos (.inl c4)]; exact Ev.congr (fun _ => if_pos c4) (Ev.now _)));(·by_cases c6 : m = 6;(·(rw [show (if m = 4 \/ m = 6 \/ m = 9 \/ m = 11 then (30 : Int) else 31) = 30 from if_pos (.inr (.inl c6))]; exact Ev.congr (fun _ => (if_neg c4).trans (if_pos c6)) (Ev.now _)));(·by_cases c9 : m = 9;(·(rw [show (if m = 4 \/ m = 6 \/ m = 9 \/ m = 11 then (30 : Int) else 31) = 30 from if_pos (.inr (.inr (.inl c9)))]; exact Ev.congr (fun _ => (if_neg c4).trans ((if_neg c6).trans (if_pos c9))) (Ev.now _)));(·by_cases c11 : m = 11;(·(rw [show (if m = 4 \/ m = 6 \/ m = 9 \/ m = 11 then (30 : Int) else 31) = 30 from if_pos (.inr (.inr (.inr c11)))]; exact Ev.congr (fun _ => (if_neg c4).trans ((if_neg c6).trans ((if_neg c9).trans (if_pos c11)))) (Ev.now _)));(·(rw [show (if m = 4 \/ m = 6 \/ m = 9 \/ m = 11 then (30 : Int) else 31) = 31 from if_neg (by omega)]; exact Ev.congr (fun _ => (if_neg c4).trans ((if_neg c6).trans ((if_neg c9).trans (if_neg c11)))) (Ev.now _)))))))
theorem days_i (y m : Int) : dm.f y m = some (gP y m) := by
  unfold dm.f gP k5;by_cases c2 : m = 2;(·rw [if_pos c2, if_pos c2];by_cases a : Int.tmod y 4 = 0;(·by_cases b : Int.tmod y 100 = 0;(·by_cases d : Int.tmod y 400 = 0;(·rw [if_pos a, if_pos b, if_pos d, if_pos ⟨a, .inr d⟩]);(·rw [if_pos a, if_pos b, if_neg d, if_neg (fun h => h.2.elim (fun h => h b) d)]));(·rw [if_pos a, if_neg b, if_pos ⟨a, .inl b⟩]));(·rw [if_neg a, if_neg (fun h => a h.1)]));(·rw [if_neg c2, if_neg c2];by_cases c4 : m = 4;(·rw [if_pos c4, if_pos (.inl c4)]);(·by_cases c6 : m = 6;(·rw [if_neg c4, if_pos c6, if_pos (.inr (.inl c6))]);(·by_cases c9 : m = 9;(·rw [if_neg c4, if_neg c6, if_pos c9, if_pos (.inr (.inr (.inl c9)))]);(·by_cases c11 : m = 11;(·rw [if_neg c4, if_neg c6, if_neg c9, if_pos c11, if_pos (.inr (.inr (.inr c11)))]);(·rw [if_neg c4, if_neg c6, if_neg c9, if_neg c11, if_neg (by omega)])))))
def jt (y m d : Int) (c : Bool) : Bool := y == 0 && (m == 0 && (d == 0 && (!c)))
def gU (y m d : Int) (c : Bool) : Bool := jt y m d c || (inI y 1 2999 && (inI m 0 12 && (if m = 0 then d == 0 else (!c && inI d 0 (gP y m)))))
theorem date_s (y m d : Int) (c : Bool) : Ev (fun k => cP.f k y m d c) (gU y m d c) := by
  unfold cP.f gU
  show Ev (fun k => if jt y m d c = true then _ else _) _
  cases jt y m d c with
  | true => exact Ev.congr (fun _ => if_pos rfl) (Ev.now _)
  | false =>
    rw [Bool.false_or];refine Ev.congr (fun _ => if_neg (by decide)) ?_;simp only [mh, Option.bind_some];have bad : Ev (fun k => cP.j0 k true y m d c) false := Ev.step (f := fun _ => some false) (fun k => by simp only [cP.j0]; rw [if_pos trivial]) (Ev.now _)
    cases h1 : inI y 1 2999 with
    | false => exact Ev.congr (fun _ => if_neg (by decide)) bad
    | true =>
      have hy := eG _ _ _ h1;refine Ev.congr (fun _ => if_pos rfl) ?_
      cases inI m 0 12 with
      | false => exact bad
      | true =>
        rw [Bool.true_and, Bool.true_and];refine Ev.step (f := fun k => if c = true then (if m = 0 then (some (d == 0)) else (some false)) else (if m = 0 then (some (d == 0)) else ((cZ.f k y m).bind fun t151 => ((bm.f d 0 t151).bind fun t152 => (some t152))))) (fun k => ?_) ?_;(·simp only [cP.j0, Bool.not_true];rw [if_neg (by decide)])
        · by_cases z : m = 0
          · rw [show ∀ x y : Bool, (if m = 0 then x else y) = x from fun _ _ => if_pos z]
            cases c with
            | true => exact Ev.congr (fun _ => (if_pos rfl).trans (if_pos z)) (Ev.now _)
            | false => exact Ev.congr (fun _ => (if_neg (by decide)).trans (if_pos z)) (Ev.now _)
          · rw [show ∀ x y : Bool, (if m = 0 then x else y) = y from fun _ _ => if_neg z]
            cases c with
            | true => exact Ev.congr (fun _ => (if_pos rfl).trans (if_neg z)) (Ev.now _)
            | false =>
              refine Ev.congr (fun _ => (if_neg (by decide)).trans (if_neg z)) (Ev.bind (days_s y m hy.1) ?_);rw [mh];exact Ev.now _
theorem date_i (y m d : Int) (c : Bool) : Ev (fun k => ba.f k y m d c) (gU y m d c) := by
  unfold ba.f gU
  show Ev (fun k => if jt y m d c = true then _ else _) _
  cases jt y m d c with
  | true => exact Ev.congr (fun _ => if_pos rfl) (Ev.now _)
  | false =>
    rw [Bool.false_or];refine Ev.congr (fun _ => if_neg (by decide)) ?_;simp only [kB, Option.bind_some];have bad : Ev (fun k => ba.j0 k true y m d c) false := Ev.step (f := fun _ => some false) (fun k => by simp only [ba.j0]; rw [if_pos trivial]) (Ev.now _)
    have good : Ev (fun k => ba.j0 k false y m d c) (if m = 0 then d == 0 else inI d 0 (gP y m)) := by
      refine Ev.step (f := fun _ => some (if m = 0 then d == 0 else inI d 0 (gP y m))) (fun k => ?_) (Ev.now _);simp only [ba.j0, days_i, kB, Option.bind_some];rw [if_neg (by decide)];(split <;> rfl)
    cases inI y 1 2999 with
    | false => exact Ev.congr (fun _ => if_neg (by decide)) bad
    | true =>
      refine Ev.congr (fun _ => if_pos rfl) ?_
      cases inI m 0 12 with
      | false => exact Ev.congr (fun _ => if_neg (by decide)) bad
      | true =>
        rw [Bool.true_and, Bool.true_and];refine Ev.congr (fun _ => if_pos rfl) ?_
        cases c with
        | false => exact Ev.congr (fun _ => if_neg (by decide)) good
        | true =>
          refine Ev.congr (fun _ => if_pos rfl) ?_;by_cases z : m = 0;(·rw [show ∀ x y : Bool, (if m = 0 then x else y) = x from fun _ _ => if_pos z] at good ⊢;rw [show (m != 0) = false from by rw [z]; rfl];exact good);(·rw [show ∀ x y : Bool, (if m = 0 then x else y) = y from fun _ _ => if_neg z, bne_iff_ne.2 z];exact bad)
theorem ko (y m d : Int) (c : Bool) (h : gU y m d c = true) : 0 <= y /\ y <= 2999 /\ 0 <= m /\ m <= 12 /\ 0 <= d /\ d <= 31 := by
  have hd := ny y m;unfold gU jt at h;(rcases Bool.or_eq_true_iff.1 h with h | h);(·simp only [Bool.and_eq_true, beq_iff_eq] at h;omega);(·rw [Bool.and_eq_true, Bool.and_eq_true] at h;have h1 := eG _ _ _ h.1;have h2 := eG _ _ _ h.2.1;have h3 := h.2.2;by_cases z : m = 0;(·rw [if_pos z] at h3;have := beq_iff_eq.1 h3;omega);(·rw [if_neg z, Bool.and_eq_true] at h3;have := eG _ _ _ h3.2;omega))
structure En where
  key : ByteArray
  kind : Int
  au : List Nm
  ed : List Nm
  ti : ByteArray
  co : ByteArray
  pu : ByteArray
  y : Int
  m : Int
  d : Int
  c : Bool
  vol : Int
  pg : ByteArray
  cr : ByteArray
structure gG (e : En) : Prop where
  key : e.key.size <= 1048576
  au : iB e.au
  ed : iB e.ed
  ti : e.ti.size <= 1048576
  co : e.co.size <= 1048576
  pu : e.pu.size <= 1048576
  pg : e.pg.size <= 1048576
  cr : e.cr.size <= 1048576
def gc (e : En) : Bool := decide (e.cr.size = 0) || (j7 e.cr && (e.cr.toList != e.key.toList))
def jZ (e : En) : Bool := j7 e.key && (inI e.kind 1 4 && (fQ e.au && (fQ e.ed && (eY e.ti && (eY e.co && (eY e.pu && (eY e.pg && (gU e.y e.m e.d e.c && (inI e.vol 0 9999 && gc e)))))))))
theorem eQ {g T E : Nat -> Option Bool} {a b : Bool} (ha : Ev g a) (ht : Ev T b) (he : Ev E false) : Ev (fun k => (g k).bind fun t => if t = true then T k else E k) (a && b) := by
  refine Ev.bind ha ?_
  cases a with
  | false => exact Ev.congr (fun _ => if_neg (by decide)) he
  | true => exact Ev.congr (fun _ => if_pos rfl) ht
abbrev lE (k : Nat) (e : En) := aK.f k e.key e.kind e.au e.ed e.ti e.co e.pu e.y e.m e.d e.c e.vol e.pg e.cr
abbrev iE (k : Nat) (e : En) := aJ.f k e.key e.kind e.au e.ed e.ti e.co e.pu e.y e.m e.d e.c e.vol e.pg e.cr
theorem val_s (e : En) (h : gG e) : Ev (fun k => lE k e) (jZ e) := by
  unfold lE aK.f jZ;have bad1 : Ev (fun k => aK.j1 k true e.key e.kind e.au e.ed e.ti e.co e.pu e.y e.m e.d e.c e.vol e.pg e.cr) false := Ev.step (f := fun _ => some false) (fun k => by simp only [aK.j1]; rw [if_pos trivial]) (Ev.now _);have bad0 : Ev (fun k => aK.j0 k true e.key e.kind e.au e.ed e.ti e.co e.pu e.y e.m e.d e.c e.vol e.pg e.cr) false := Ev.step (f := fun _ => some false) (fun k => by simp only [aK.j0]; rw [if_pos trivial]) (Ev.now _)
  have cross : Ev (fun k => if e.cr.toList = ([] : List UInt8) then (some true) else ((bq.f k e.cr).bind fun t164 => (if t164 = true then (some (e.cr.toList != e.key.toList)) else (some false)))) (gc e) := by
    unfold gc;by_cases z : e.cr.size = 0;(·(rw [decide_eq_true z]; exact Ev.congr (fun _ => if_pos ((cW _).2 z)) (Ev.now _)));(·rw [decide_eq_false z, Bool.false_or];exact Ev.congr (fun _ => if_neg (fun x => z ((cW _).1 x))) (eQ (key_s e.cr h.cr) (Ev.now _) (Ev.now _)))
  have g1 : ∀ b : Bool, Ev (fun k => aK.j1 k (!b) e.key e.kind e.au e.ed e.ti e.co e.pu e.y e.m e.d e.c e.vol e.pg e.cr) (b && (gU e.y e.m e.d e.c && (inI e.vol 0 9999 && gc e))) := fun b => by
    cases b with
    | false => exact bad1
    | true =>
      rw [Bool.true_and];refine Ev.step (fun k => ?_) (eQ (date_s e.y e.m e.d e.c) (eQ (g := fun _ => bm.f e.vol 0 9999) (by rw [mh]; exact Ev.now _) cross (Ev.now _)) (Ev.now _));simp only [aK.j1, Bool.not_true];rw [if_neg (by decide)]
  have g0 : ∀ b : Bool, Ev (fun k => aK.j0 k (!b) e.key e.kind e.au e.ed e.ti e.co e.pu e.y e.m e.d e.c e.vol e.pg e.cr) (b && (eY e.ti && (eY e.co && (eY e.pu && (eY e.pg && (gU e.y e.m e.d e.c && (inI e.vol 0 9999 && gc e))))))) := fun b => by
    cases b with
    | false => exact bad0
    | true =>
      rw [Bool.true_and];refine Ev.step (fun k => ?_) (eQ (jK e.ti h.ti) (eQ (jK e.co h.co) (eQ (jK e.pu h.pu) (Ev.bind (f := fun k t => aK.j1 k (!t) e.key e.kind e.au e.ed e.ti e.co e.pu e.y e.m e.d e.c e.vol e.pg e.cr) (jK e.pg h.pg) (g1 _)) bad1) bad1) bad1);simp only [aK.j0, Bool.not_true];rw [if_neg (by decide)]
  exact eQ (key_s e.key h.key) (eQ (g := fun _ => bm.f e.kind 1 4) (by rw [mh]; exact Ev.now _) (eQ (lB e.au h.au) (Ev.bind (f := fun k t => aK.j0 k (!t) e.key e.kind e.au e.ed e.ti e.co e.pu e.y e.m e.d e.c e.vol e.pg e.cr) (lB e.ed h.ed) (g0 _)) bad0) bad0) bad0
theorem val_i (e : En) (h : gG e) : Ev (fun k => iE k e) (jZ e) := by
  have bad0 : Ev (fun k => aJ.j0 k true e.key e.kind e.au e.ed e.ti e.co e.pu e.y e.m e.d e.c e.vol e.pg e.cr) false := Ev.step (f := fun _ => some false) (fun k => by simp only [aJ.j0]; rw [if_pos trivial]) (Ev.now _)
  have cross : Ev (fun k => if e.cr.toList = ([] : List UInt8) then (some true) else ((be.f k e.cr).bind fun t164 => (if t164 = true then (some (e.cr.toList != e.key.toList)) else (some false)))) (gc e) := by
    unfold gc;by_cases z : e.cr.size = 0;(·(rw [decide_eq_true z]; exact Ev.congr (fun _ => if_pos ((cW _).2 z)) (Ev.now _)));(·rw [decide_eq_false z, Bool.false_or];exact Ev.congr (fun _ => if_neg (fun x => z ((cW _).1 x))) (eQ (key_i e.cr h.cr) (Ev.now _) (Ev.now _)))
  have g0 : ∀ b : Bool, Ev (fun k => aJ.j0 k (!b) e.key e.kind e.au e.ed e.ti e.co e.pu e.y e.m e.d e.c e.vol e.pg e.cr) (b && (eY e.ti && (eY e.co && (eY e.pu && (eY e.pg && gc e))))) := fun b => by
    cases b with
    | false => exact bad0
    | true =>
      rw [Bool.true_and];refine Ev.step (fun k => ?_) (eQ (jA e.ti h.ti) (eQ (jA e.co h.co) (eQ (jA e.pu h.pu) (eQ (jA e.pg h.pg) cross (Ev.now _)) (Ev.now _)) (Ev.now _)) (Ev.now _));simp only [aJ.j0, Bool.not_true];rw [if_neg (by decide)]
  have kd : Ev (fun _ => dI.f e.kind) (inI e.kind 1 4) := by
    unfold dI.f;rw [kB];exact Ev.now _
  have all := eQ (key_i e.key h.key) (eQ (g := fun _ => dI.f e.kind) kd (eQ (lI e.au h.au) (eQ (lI e.ed h.ed) (eQ (date_i e.y e.m e.d e.c) (Ev.bind (g := fun _ => av.f e.vol 0 9999) (f := fun k t => aJ.j0 k (!t) e.key e.kind e.au e.ed e.ti e.co e.pu e.y e.m e.d e.c e.vol e.pg e.cr) (a := inI e.vol 0 9999) (by rw [kB]; exact Ev.now _) (g0 _)) bad0) bad0) bad0) bad0) bad0
  have hv : jZ e = (j7 e.key && (inI e.kind 1 4 && (fQ e.au && (fQ e.ed && (gU e.y e.m e.d e.c && (inI e.vol 0 9999 && (eY e.ti && (eY e.co && (eY e.pu && (eY e.pg && gc e)))))))))) := by
    unfold jZ;(ac_rfl)
  rw [hv];exact all

end Go.Proofs.YtiaelacjjbdolaaGreatDoor.Pure
