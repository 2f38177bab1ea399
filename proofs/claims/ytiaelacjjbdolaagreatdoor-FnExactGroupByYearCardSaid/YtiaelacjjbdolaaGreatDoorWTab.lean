/- From the words that the kit's print lays; the lemmas that this claim does not name were taken out by a program of this session (wip/dead.py); no conditions. -/
import Derived.Test.YtiaelacjjbdolaaGreatDoorWLast
import Derived.Test.YtiaelacjjbdolaaGreatDoorWWords
namespace Go.Proofs.YtiaelacjjbdolaaGreatDoorW.PrintLast
open Go.Proofs.YtiaelacjjbdolaaGreatDoorW.PrintWords (Aside0)
def gA (md : Region.Mode) (o : Oper) : List Nat := (o.after.toList.filter (fun e => Region.binds md e)).map (fun e => e.on)
def jF (md : Region.Mode) (ops : Array Oper) (i : Nat) (oi : Oper) : List Nat := (List.range ops.size).filter fun j => !(j == i) && match ops[j]? with
  | some oj => !(oj.after.any (fun e => Region.binds md e && e.on == i) || oi.apart ops oj)
  | none => false
def d8 (md : Region.Mode) (ops : Array Oper) : Bool × List (List Nat × List Nat) := (Region.noSelect ops, (List.range ops.size).map fun i => match ops[i]? with
  | some o => (gA md o, jF md ops i o)
  | none => ([], []))
def fI (T : List (List Nat × List Nat)) (l : List Bool) (i : Nat) : Bool := !l.getD i true && match T[i]? with
  | some r => r.1.all (fun j => l.getD j false)
  | none => false
def gW (T : List (List Nat × List Nat)) (l : List Bool) : List Nat := (List.range T.length).filter (fI T l)
def jX (T : List (List Nat × List Nat)) (l : List Bool) (i : Nat) : Bool := match T[i]? with
  | some r => r.2.all (fun j => l.getD j true)
  | none => false
def iJ (T : List (List Nat × List Nat)) (l : List Bool) : Bool := (List.range T.length).all fun j => !l.getD j false || match T[j]? with
  | some r => r.1.all (fun k => l.getD k false)
  | none => true
def it (T : List (List Nat × List Nat)) (i : Nat) : Nat -> Nat -> Bool
  | 0, _ => false
  | fuel + 1, d => match T[d]? with
    | some r => r.1.any fun j => j == i || it T i fuel j
    | none => false
def kO (T : List (List Nat × List Nat)) (l : List Bool) (ds : List Nat) (i : Nat) : Bool := ds.all fun d => l.getD d true || it T i T.length d
section
variable {md : Region.Mode} {ops : Array Oper} {T : Bool × List (List Nat × List Nat)} {l l' li lj lk : Array Bool} {ds : List Nat} {i j k : Nat}
theorem gd (l : Array Bool) (j : Nat) (b : Bool) : l.getD j b = l.toList.getD j b := by simp [Array.getD_eq_getD_getElem?, List.getD_eq_getElem?_getD]
theorem js (o : Oper) (p : Nat -> Bool) : o.after.all (fun e => !Region.binds md e || p e.on) = (gA md o).all p := by
  unfold gA
  rw [<- Array.all_toList]
  induction o.after.toList with
  | nil => rfl
  | cons e r ih =>
    rw [List.all_cons, ih, List.filter_cons]
    cases h : Region.binds md e <;> simp
theorem mr (o : Oper) (p : Nat -> Bool) : o.after.any (fun e => Region.binds md e && p e.on) = (gA md o).any p := by
  unfold gA
  rw [<- Array.any_toList]
  induction o.after.toList with
  | nil => rfl
  | cons e r ih =>
    rw [List.any_cons, ih, List.filter_cons]
    cases h : Region.binds md e <;> simp
theorem fC : (d8 md ops).2.length = ops.size := by simp [d8]
theorem gy {o : Oper} (h : ops[i]? = some o) : (d8 md ops).2[i]? = some (gA md o, jF md ops i o) := by
  have hi := (Array.getElem?_eq_some_iff.1 h).1
  unfold d8
  rw [List.getElem?_map, List.getElem?_range hi, Option.map_some, h]
theorem gF (h : ops[i]? = none) : (d8 md ops).2[i]? = none := by
  have hi : ops.size <= i := Array.getElem?_eq_none_iff.1 h
  exact List.getElem?_eq_none (by rw [fC]; exact hi)
theorem kf : fI (d8 md ops).2 l.toList i = (!l.getD i true && ((ops[i]?).map (·.after.all fun e => !Region.binds md e || l.getD e.on false)).getD false) := by
  unfold fI
  rw [gd]
  cases h : ops[i]? with
  | none => rw [gF h]; rfl
  | some o =>
    rw [gy h]
    simp only [Option.map_some, Option.getD_some]
    rw [<- js]
    simp only [gd]
theorem ic : Region.ready md ops l = gW (d8 md ops).2 l.toList := by
  unfold Region.ready gW
  rw [fC]
  refine List.filter_congr (fun i _ => ?_)
  rw [kf]
theorem kM : Region.free md ops l i = jX (d8 md ops).2 l.toList i := by
  unfold Region.free jX
  cases h : ops[i]? with
  | none => rw [gF h]
  | some oi =>
    rw [gy h]
    simp only [jF]
    rw [List.all_filter]
    congr 1
    funext j
    rw [gd]
    cases hj : ops[j]? with
    | none => cases (j == i) <;> cases (l.toList.getD j true) <;> simp
    | some oj =>
      cases (j == i) <;> cases (l.toList.getD j true) <;> cases (oj.after.any (fun e => Region.binds md e && e.on == i) || oi.apart ops oj) <;> simp_all
theorem l5 : Region.closedB md ops l = iJ (d8 md ops).2 l.toList := by
  unfold Region.closedB iJ
  rw [fC]
  congr 1
  funext j
  rw [gd]
  cases h : ops[j]? with
  | none => rw [gF h]
  | some o =>
    rw [gy h]
    simp only
    rw [<- js]
    simp only [gd]
theorem j4 : ∀ (fuel d : Nat), Region.reachB md ops i fuel d = it (d8 md ops).2 i fuel d
  | 0, _ => rfl
  | fuel + 1, d => by
    unfold Region.reachB it
    cases h : ops[d]? with
    | none => rw [gF h]
    | some o =>
      rw [gy h]
      simp only
      rw [<- mr]
      congr 1
      funext e
      rw [j4 fuel]
theorem last_eq : Region.lastB md ops l ds i = kO (d8 md ops).2 l.toList ds i := by
  unfold Region.lastB kO
  rw [fC]
  congr 1
  funext d
  rw [gd, j4]
theorem ix (h : fI T.2 l.toList i = true) (hT : d8 md ops = T) : (Region.ready md ops l).contains i = true := by
  subst hT
  rw [ic]
  unfold gW
  rw [List.contains_iff_mem, List.mem_filter, List.mem_range]
  refine ⟨?_, h⟩
  unfold fI at h
  rw [Bool.and_eq_true] at h
  cases hq : (d8 md ops).2[i]? with
  | none => rw [hq] at h; simp at h
  | some r => exact (List.getElem?_eq_some_iff.1 hq).1
theorem iR (h : (l.toList.set i true == l'.toList) = true) : (l.setIfInBounds i true == l') = true := by
  rw [beq_iff_eq] at h ⊢
  apply Array.ext'
  rw [Array.toList_setIfInBounds]
  exact h
def anyT (T : Bool × List (List Nat × List Nat)) (l l' : List Bool) (i : Nat) : Bool := T.1 && jX T.2 l i && fI T.2 l i && (l.set i true == l')
theorem mZ (hT : d8 md ops = T) (h : anyT T l.toList l'.toList i = true) : anyB md ops l l' i = true := by
  simp only [anyT, Bool.and_eq_true] at h
  obtain ⟨⟨⟨h1, h2⟩, h3⟩, h4⟩ := h
  have h5 := ix h3 hT
  have h6 := iR h4
  subst hT
  simp only [anyB, Bool.and_eq_true]
  exact ⟨⟨⟨h1, by rw [kM]; exact h2⟩, h5⟩, h6⟩
def mM (T : Bool × List (List Nat × List Nat)) (ds : List Nat) (l l' : List Bool) (i : Nat) : Bool := T.1 && jX T.2 l i && fI T.2 l i && iJ T.2 l && kO T.2 l ds i && (l.set i true == l')
theorem take_of (hT : d8 md ops = T) (h : mM T ds l.toList l'.toList i = true) : jW md ops ds l l' i = true := by
  simp only [mM, Bool.and_eq_true] at h
  obtain ⟨⟨⟨⟨⟨h1, h2⟩, h3⟩, h4⟩, h5⟩, h6⟩ := h
  have h7 := ix h3 hT
  have h8 := iR h6
  subst hT
  simp only [jW, Bool.and_eq_true]
  exact ⟨⟨⟨⟨⟨h1, by rw [kM]; exact h2⟩, h7⟩, by rw [l5]; exact h4⟩, by rw [last_eq]; exact h5⟩, h8⟩
theorem km (hT : d8 md ops = T) (h : (gW T.2 l.toList == [i] && l.toList.set i true == l'.toList) = true) : ir md ops l l' i = true := by
  simp only [Bool.and_eq_true] at h
  obtain ⟨h1, h2⟩ := h
  subst hT
  simp only [ir, Bool.and_eq_true]
  exact ⟨by rw [ic]; exact h1, iR h2⟩
theorem jO (hT : d8 md ops = T) (h : (gW T.2 l.toList == [i, j] && l.toList.set i true == li.toList && l.toList.set j true == lj.toList) = true) : (Region.ready md ops l == [i, j] && l.setIfInBounds i true == li && l.setIfInBounds j true == lj) = true := by
  simp only [Bool.and_eq_true] at h ⊢
  obtain ⟨⟨h1, h2⟩, h3⟩ := h
  subst hT
  exact ⟨⟨by rw [ic]; exact h1, iR h2⟩, iR h3⟩
theorem du (hT : d8 md ops = T) (h : (gW T.2 l.toList == []) = true) : (Region.ready md ops l == []) = true := by
  subst hT
  rw [ic]
  exact h
def upM (B : List Nat) (d : Nat) : List Nat -> Nat
  | [] => 0
  | n :: r => (2 ^ n ||| (if n < d then B.getD n 0 else 0)) ||| upM B d r
def dz (T : List (List Nat × List Nat)) (B : List Nat) : Bool := (List.range T.length).all fun d => match T[d]? with
  | some r => (B.getD d 0 ||| upM B d r.1) == upM B d r.1
  | none => false
theorem kQ {B : List Nat} {d i : Nat} : ∀ {ns : List Nat}, (upM B d ns).testBit i = true -> ∃ n ∈ ns, n = i \/ (n < d /\ (B.getD n 0).testBit i = true)
  | [], h => by simp [upM] at h
  | n :: r, h => by
    unfold upM at h
    rw [Nat.testBit_or, Nat.testBit_or, Bool.or_eq_true, Bool.or_eq_true] at h
    rcases h with (h | h) | h
    · rw [Nat.testBit_two_pow] at h
      exact ⟨n, List.mem_cons_self, .inl (by simpa using h)⟩
    · by_cases hn : n < d
      · rw [if_pos hn] at h
        exact ⟨n, List.mem_cons_self, .inr ⟨hn, h⟩⟩
      · rw [if_neg hn] at h
        simp at h
    · obtain ⟨m, hm, h2⟩ := kQ h
      exact ⟨m, List.mem_cons_of_mem _ hm, h2⟩
theorem jp {T : List (List Nat × List Nat)} {B : List Nat} (hB : dz T B = true) : ∀ (fuel d : Nat), d < fuel -> d < T.length -> (B.getD d 0).testBit i = true -> it T i fuel d = true
  | 0, d, h, _, _ => by omega
  | fuel + 1, d, h, hd, hb => by
    have h1 := List.all_eq_true.1 hB d (List.mem_range.2 hd)
    cases hr : T[d]? with
    | none => rw [hr] at h1; simp at h1
    | some r =>
      rw [hr] at h1
      simp only [beq_iff_eq] at h1
      have h2 : (upM B d r.1).testBit i = true := by rw [<- h1, Nat.testBit_or, hb, Bool.true_or]
      obtain ⟨n, hn, h3⟩ := kQ h2
      unfold it
      rw [hr]
      simp only
      rw [List.any_eq_true]
      refine ⟨n, hn, ?_⟩
      rcases h3 with rfl | ⟨h4, h5⟩
      · simp
      · rw [jp hB fuel n (by omega) (by omega) h5, Bool.or_true]
def lastW (T : List (List Nat × List Nat)) (B : List Nat) (l : List Bool) (ds : List Nat) (i : Nat) : Bool := ds.all fun d => l.getD d true || (decide (d < T.length) && (B.getD d 0).testBit i)
def nT (T : Bool × List (List Nat × List Nat)) (B : List Nat) (ds : List Nat) (l l' : List Bool) (i : Nat) : Bool := T.1 && jX T.2 l i && fI T.2 l i && iJ T.2 l && lastW T.2 B l ds i && (l.set i true == l')
theorem iL {B : List Nat} (hT : d8 md ops = T) (hB : dz T.2 B = true) (h : nT T B ds l.toList l'.toList i = true) : jW md ops ds l l' i = true := by
  refine take_of hT ?_
  simp only [nT, mM, Bool.and_eq_true] at h ⊢
  obtain ⟨⟨⟨⟨⟨h1, h2⟩, h3⟩, h4⟩, h5⟩, h6⟩ := h
  refine ⟨⟨⟨⟨⟨h1, h2⟩, h3⟩, h4⟩, ?_⟩, h6⟩
  unfold lastW at h5
  unfold kO
  rw [List.all_eq_true] at h5 ⊢
  intro d hd
  have h7 := h5 d hd
  rw [Bool.or_eq_true, Bool.and_eq_true, decide_eq_true_eq] at h7
  rcases h7 with h7 | ⟨h8, h9⟩
  · rw [h7, Bool.true_or]
  · rw [jp hB _ d h8 h8 h9, Bool.or_true]
theorem cL {P : Program} {Q : Exit -> Act -> World -> Prop} {S : World -> Prop} {n : Nat} {a : Act} {w : World} {B : List Nat} (hT : d8 md ops = T) (hB : dz T.2 B = true) (h : Aside0 (d8 md ops = T) -> Aside0 (dz T.2 B = true) -> aM P md ops Q S ds n l a w) : aM P md ops Q S ds n l a w := h ⟨hT⟩ ⟨hB⟩
end
def gM : Code -> Nat -> Option (Array Oper)
  | .region id ops _, k => if id == k then some ops else none
  | .seq a b, k => match gM a k with
    | some o => some o
    | none => gM b k
  | .cond _ a b, k => match gM a k with
    | some o => some o
    | none => gM b k
  | .block _ c, k => gM c k
  | .loop c, k => gM c k
  | .scope c, k => gM c k
  | .rangeFunc _ _ a b, k => match gM a k with
    | some o => some o
    | none => gM b k
  | _, _ => none
def eU (f : Func) (k : Nat) : Array Oper := ((f.body.bind fun c => gM c k)).getD #[]
end Go.Proofs.YtiaelacjjbdolaaGreatDoorW.PrintLast
