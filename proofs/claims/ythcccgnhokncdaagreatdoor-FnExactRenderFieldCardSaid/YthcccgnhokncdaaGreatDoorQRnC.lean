/- Lemmas on the printed functions, without Go and memory. -/
import Derived.Test.YthcccgnhokncdaaGreatDoorPx4
import Derived.Test.YthcccgnhokncdaaGreatDoorPx9
import Derived.Test.YthcccgnhokncdaaGreatDoorQRnB
namespace Go.Proofs.YthcccgnhokncdaaGreatDoor.Pure
open Go.RowKit Go.Proofs.YthcccgnhokncdaaGreatDoor.Px Go.Proofs.YthcccgnhokncdaaGreatDoorW.PrintWords Go.Proofs.YthcccgnhokncdaaGreatDoorW.PrintLast
set_option linter.unusedVariables false
set_option linter.unusedSimpArgs false

abbrev etal : ByteArray := ⟨#[32, 101, 116, 32, 97, 108, 46]⟩
abbrev andw : ByteArray := ⟨#[32, 97, 110, 100, 32]⟩
abbrev comw : ByteArray := ⟨#[44, 32]⟩
theorem andw_z : andw.size = 5 := rfl
theorem comw_z : comw.size = 2 := rfl
def spV (n : Nat) (lim : Int) : List ByteArray → Nat → ByteArray → ByteArray
  | [], _, acc => acc
  | x :: r, i, acc => if i = 1 ∧ (n : Int) > lim then acc ++ etal else if 0 < i ∧ i = n - 1 then spV n lim r (i + 1) ((acc ++ andw) ++ x) else if 0 < i then spV n lim r (i + 1) ((acc ++ comw) ++ x) else spV n lim r (i + 1) (acc ++ x)
structure NsV (L : List Nm) : Prop where
  l : L.length ≤ 4
  n : ∀ x ∈ L, ShV x
theorem ns_v (l : List Nm) (o : NsOk l) (h : namesB l = true) : NsV l := by
  unfold namesB at h
  rw [Bool.and_eq_true] at h
  exact ⟨of_decide_eq_true h.2, fun n hn => sh_v n (o.n n hn) (List.all_eq_true.1 h.1 n hn)⟩
theorem names_ls (l : List Nm) (v : NsV l) (lim : Int) : ∀ (d i : Nat) (acc : ByteArray), i + d = l.length → acc.size ≤ 4000000 * i → Ev (fun k => spec_l2Names.l0 k l lim acc (i : Int)) (spV l.length lim ((l.drop i).map shV) i acc)
  | 0, i, acc, hi, ha => by
    rw [List.drop_of_length_le (by omega)]
    refine Ev.step (f := fun _ => some acc) (fun k => ?_) (Ev.now _)
    simp only [spec_l2Names.l0]
    rw [if_neg (by omega)]
  | d + 1, i, acc, hi, ha => by
    have hl := v.l
    have hlt : i < l.length := by omega
    have hv := v.n _ (List.getElem_mem hlt)
    have hz := sh_le _ hv
    have sh := short_s l[i] hv
    have hn : wrap64 ((i : Int) + 1) = ((i + 1 : Nat) : Int) := next_i i l.length hlt (by omega)
    have hw : wrap64 ((l.length : Int) - 1) = (l.length : Int) - 1 := wrap_small (by omega) (by omega)
    rw [List.drop_eq_getElem_cons hlt, List.map_cons, spV]
    have fst : ∀ (b : Bool) R, Ev (fun k => spec_l2Names.j1 k l lim acc (i : Int) b) R → b = decide (i = 1 ∧ (l.length : Int) > lim) → Ev (fun k => spec_l2Names.l0 k l lim acc (i : Int)) R := fun b R h hb => by
      refine Ev.step (fun k => ?_) h
      simp only [spec_l2Names.l0]
      rw [if_pos (by omega)]
      by_cases c : i = 1
      · rw [if_pos (by omega), hb]
        congr 1
        rw [decide_eq_decide]
        exact ⟨fun h => ⟨c, h⟩, fun h => h.2⟩
      · rw [if_neg (by omega), hb, decide_eq_false (fun h => c h.1)]
    by_cases c1 : i = 1 ∧ (l.length : Int) > lim
    · rw [if_pos c1]
      refine fst true _ (Ev.step (f := fun _ => some (acc ++ etal)) (fun k => ?_) (Ev.now _)) (decide_eq_true c1).symm
      simp only [spec_l2Names.j1]
      rw [if_pos trivial, if_pos (by omega)]
    · rw [if_neg c1]
      refine fst false _ ?_ (decide_eq_false c1).symm
      have snd : ∀ (b : Bool) R, Ev (fun k => spec_l2Names.j2 k l lim acc (i : Int) b) R → b = decide (0 < i ∧ i = l.length - 1) → Ev (fun k => spec_l2Names.j1 k l lim acc (i : Int) false) R := fun b R h hb => by
        refine Ev.step (fun k => ?_) h
        simp only [spec_l2Names.j1]
        rw [if_neg (by decide)]
        by_cases c : 0 < i
        · rw [if_pos (by omega), hb, hw]
          congr 1
          by_cases e : i = l.length - 1
          · rw [decide_eq_true ⟨c, e⟩, beq_iff_eq.2 (show (i : Int) = (l.length : Int) - 1 from by omega)]
          · rw [decide_eq_false (fun h => e h.2), beq_eq_false_iff_ne.2 (show (i : Int) ≠ (l.length : Int) - 1 from by omega)]
        · rw [if_neg (by omega), hb, decide_eq_false (fun h => c h.1)]
      by_cases c2 : 0 < i ∧ i = l.length - 1
      · rw [if_pos c2]
        refine snd true _ ?_ (decide_eq_true c2).symm
        have z1 : (acc ++ andw).size = acc.size + 5 := by rw [ByteArray.size_append, andw_z]
        have ih := names_ls l v lim d (i + 1) ((acc ++ andw) ++ shV l[i]) (by omega) (by rw [ByteArray.size_append, z1]; omega)
        refine Ev.step (f := fun k => (spec_l2Short.f k l[i].f0 l[i].f1 l[i].f2 l[i].f3).bind fun t => if (acc ++ andw).size + t.size ≤ 9223372036854775807 then spec_l2Names.l0 k l lim ((acc ++ andw) ++ t) ((i + 1 : Nat) : Int) else none) (fun k => ?_) (Ev.bind sh (Ev.congr (fun _ => if_pos (by omega)) ih))
        simp only [spec_l2Names.j2, rdN l i hlt, hn]
        rw [if_pos trivial, if_pos (by omega), if_pos (by omega), if_pos (by omega)]
      · rw [if_neg c2]
        refine snd false _ ?_ (decide_eq_false c2).symm
        by_cases c3 : 0 < i
        · rw [if_pos c3]
          have z1 : (acc ++ comw).size = acc.size + 2 := by rw [ByteArray.size_append, comw_z]
          have ih := names_ls l v lim d (i + 1) ((acc ++ comw) ++ shV l[i]) (by omega) (by rw [ByteArray.size_append, z1]; omega)
          refine Ev.step (f := fun k => (spec_l2Short.f k l[i].f0 l[i].f1 l[i].f2 l[i].f3).bind fun t => if (acc ++ comw).size + t.size ≤ 9223372036854775807 then spec_l2Names.l0 k l lim ((acc ++ comw) ++ t) ((i + 1 : Nat) : Int) else none) (fun k => ?_) (Ev.bind sh (Ev.congr (fun _ => if_pos (by omega)) ih))
          simp only [spec_l2Names.j2, rdN l i hlt, hn]
          rw [if_neg (by decide), if_pos (by omega), if_pos (by omega), if_pos (by omega), if_pos (by omega)]
        · rw [if_neg c3]
          have ih := names_ls l v lim d (i + 1) (acc ++ shV l[i]) (by omega) (by rw [ByteArray.size_append]; omega)
          refine Ev.step (f := fun k => (spec_l2Short.f k l[i].f0 l[i].f1 l[i].f2 l[i].f3).bind fun t => if acc.size + t.size ≤ 9223372036854775807 then spec_l2Names.l0 k l lim (acc ++ t) ((i + 1 : Nat) : Int) else none) (fun k => ?_) (Ev.bind sh (Ev.congr (fun _ => if_pos (by omega)) ih))
          simp only [spec_l2Names.j2, rdN l i hlt, hn]
          rw [if_neg (by decide), if_neg (by omega), if_pos (by omega), if_pos (by omega)]
def nmV (l : List Nm) (lim : Int) : ByteArray := spV l.length lim (l.map shV) 0 (⟨#[]⟩ : ByteArray)
theorem names_sV (l : List Nm) (v : NsV l) (lim : Int) : Ev (fun k => spec_l2Names.f k l lim) (nmV l lim) := by
  have := names_ls l v lim l.length 0 (⟨#[]⟩ : ByteArray) (by omega) (by decide)
  rw [List.drop_zero] at this
  exact this
def imT (V : List ByteArray) (lim : Int) : Option ByteArray := (if (V.length : Int) = 0 then (some (⟨#[]⟩ : ByteArray)) else (if (V.length : Int) > lim then (if 0 < (V.length : Int) then (if (rdOf ByteArray.empty V 0).size + 7 ≤ 9223372036854775807 then (some ((rdOf ByteArray.empty V 0) ++ etal)) else (none)) else (none)) else (if (V.length : Int) = 1 then (if 0 < (V.length : Int) then (some (rdOf ByteArray.empty V 0)) else (none)) else (if 0 ≤ (wrap64 ((V.length : Int) - 1)) then (if (wrap64 ((V.length : Int) - 1)) ≤ (V.length : Int) then ((strings_Join.f (V.take ((wrap64 ((V.length : Int) - 1)) : Int).toNat) comw).bind fun t380 => (if t380.size + 5 ≤ 9223372036854775807 then (if (wrap64 ((V.length : Int) - 1)) < (V.length : Int) then (if (t380 ++ andw).size + (rdOf ByteArray.empty V (wrap64 ((V.length : Int) - 1))).size ≤ 9223372036854775807 then (some ((t380 ++ andw) ++ (rdOf ByteArray.empty V (wrap64 ((V.length : Int) - 1))))) else (none)) else (none)) else (none))) else (none)) else (none)))))
theorem names_li (l : List Nm) (v : NsV l) (lim : Int) (R : ByteArray) (hR : imT (l.map shV) lim = some R) : ∀ (d i : Nat), i + d = l.length → Ev (fun k => impl_joinNames.l0 k lim ((l.map shV).take i) l (l.length : Int) (i : Int)) R
  | 0, i, hi => by
    rw [List.take_of_length_le (by rw [List.length_map]; omega)]
    refine Ev.step (f := fun _ => imT (l.map shV) lim) (fun k => ?_) (by rw [hR]; exact Ev.now _)
    simp only [impl_joinNames.l0]
    rw [if_neg (by omega)]
    rfl
  | d + 1, i, hi => by
    have hl := v.l
    have hlt : i < l.length := by omega
    have ih := names_li l v lim R hR d (i + 1) (by omega)
    rw [take_map_succ shV l i hlt] at ih
    refine Ev.step (f := fun k => (impl_shortForm.f k l[i].f0 l[i].f1 l[i].f2 l[i].f3).bind fun t => if ((l.map shV).take i).length < 8796093022208 then impl_joinNames.l0 k lim ((l.map shV).take i ++ [t]) l (l.length : Int) ((i + 1 : Nat) : Int) else none) (fun k => ?_) (Ev.bind (short_i l[i] (v.n _ (List.getElem_mem hlt))) (Ev.congr (fun _ => if_pos (by rw [List.length_take, List.length_map]; omega)) ih))
    simp only [impl_joinNames.l0, rdN l i hlt]
    rw [if_pos (by omega), if_pos (by omega), if_pos (by omega), next_i i l.length hlt (by omega)]
theorem join_c (ps : List ByteArray) (hl : ps.length ≤ 4) (hs : (Lib.join (ps.map (·.data.toList)) comw.data.toList).length ≤ 140737488355328) : strings_Join.f ps comw = some (ofL (Lib.join (ps.map (·.data.toList)) [44, 32])) := by
  unfold strings_Join.f
  rw [if_pos ⟨hs, by omega⟩]
  rfl
theorem imT_V (V : List ByteArray) (lim : Int) (h1 : 1 ≤ lim) (hl : V.length ≤ 4) (hs : ∀ x ∈ V, x.size ≤ 3145731) : imT V lim = some (spV V.length lim V 0 (⟨#[]⟩ : ByteArray)) := by
  have e0 : ∀ x : ByteArray, (⟨#[]⟩ : ByteArray) ++ x = x := fun x => ba_ext _ _ (by rw [app_data]; rfl)
  match V, hl, hs with
  | [], _, _ => rfl
  | [a], _, hs =>
    unfold imT
    rw [if_neg (by simp), if_neg (by simp only [List.length_cons, List.length_nil]; omega), if_pos (by simp), if_pos (by simp)]
    rw [spV, if_neg (by omega), if_neg (by omega), if_neg (by omega), spV, e0]
    rfl
  | [a, b], _, hs =>
    have ha := hs a (by simp)
    have hb := hs b (by simp)
    have hw : wrap64 ((([a, b] : List ByteArray).length : Int) - 1) = 1 := by show wrap64 (((2 : Nat) : Int) - 1) = 1; rw [wrap_small (by omega) (by omega)]; rfl
    unfold imT
    rw [if_neg (by simp)]
    by_cases c : (([a, b] : List ByteArray).length : Int) > lim
    · rw [if_pos c, if_pos (by simp), if_pos (show (rdOf ByteArray.empty [a, b] 0).size + 7 ≤ _ from (by show a.size + 7 ≤ _; omega)), spV, if_neg (by omega), if_neg (by omega), if_neg (by omega), spV, if_pos ⟨rfl, c⟩, e0]
      rfl
    · have hj := join_c [a] (by simp) (by rw [show Lib.join (([a] : List ByteArray).map (·.data.toList)) comw.data.toList = a.data.toList from by rw [List.map_cons, List.map_nil, Lib.join_one]]; rw [data_length]; omega)
      have hj2 : ofL (Lib.join (([a] : List ByteArray).map (·.data.toList)) [44, 32]) = a := by rw [List.map_cons, List.map_nil, Lib.join_one, ofL_data]
      rw [hj2] at hj
      rw [if_neg c, if_neg (by simp), hw, if_pos (by decide), if_pos (by simp), show ([a, b] : List ByteArray).take (1 : Int).toNat = [a] from rfl, hj, Option.bind_some, if_pos (by omega), if_pos (by simp), if_pos (show (a ++ andw).size + (rdOf ByteArray.empty [a, b] 1).size ≤ _ from (by show (a ++ andw).size + b.size ≤ _; rw [ByteArray.size_append, andw_z]; omega))]
      rw [spV, if_neg (by omega), if_neg (by omega), if_neg (by omega), spV, if_neg (fun h => c h.2), if_pos (by simp), spV, e0]
      rfl
  | [a, b, d], _, hs =>
    have ha := hs a (by simp)
    have hb := hs b (by simp)
    have hd := hs d (by simp)
    have hw : wrap64 ((([a, b, d] : List ByteArray).length : Int) - 1) = 2 := by show wrap64 (((3 : Nat) : Int) - 1) = 2; rw [wrap_small (by omega) (by omega)]; rfl
    unfold imT
    rw [if_neg (by simp)]
    by_cases c : (([a, b, d] : List ByteArray).length : Int) > lim
    · rw [if_pos c, if_pos (by simp), if_pos (show (rdOf ByteArray.empty [a, b, d] 0).size + 7 ≤ _ from (by show a.size + 7 ≤ _; omega)), spV, if_neg (by omega), if_neg (by omega), if_neg (by omega), spV, if_pos ⟨rfl, c⟩, e0]
      rfl
    · have hj2 : ofL (Lib.join (([a, b] : List ByteArray).map (·.data.toList)) [44, 32]) = (a ++ comw) ++ b := by
        rw [List.map_cons, List.map_cons, List.map_nil, Lib.join_cons]
        exact ba_ext _ _ (by simp [app_data, ofL, Lib.joinTail])
      have hj := join_c [a, b] (by simp) (by
        have : (ofL (Lib.join (([a, b] : List ByteArray).map (·.data.toList)) [44, 32])).size ≤ 140737488355328 := by rw [hj2]; simp only [ByteArray.size_append, comw_z]; omega
        rw [ofL_size] at this
        exact this)
      rw [hj2] at hj
      rw [if_neg c, if_neg (by simp), hw, if_pos (by decide), if_pos (by simp), show ([a, b, d] : List ByteArray).take (2 : Int).toNat = [a, b] from rfl, hj, Option.bind_some, if_pos (by simp only [ByteArray.size_append, comw_z]; omega), if_pos (by simp), if_pos (show (((a ++ comw) ++ b) ++ andw).size + (rdOf ByteArray.empty [a, b, d] 2).size ≤ _ from (by show (((a ++ comw) ++ b) ++ andw).size + d.size ≤ _; simp only [ByteArray.size_append, andw_z, comw_z]; omega))]
      rw [spV, if_neg (by omega), if_neg (by omega), if_neg (by omega), spV, if_neg (fun h => c h.2), if_neg (by simp), if_pos (by omega), spV, if_neg (by omega), if_pos (by simp), spV, e0]
      rfl
  | [a, b, d, e], _, hs =>
    have ha := hs a (by simp)
    have hb := hs b (by simp)
    have hd := hs d (by simp)
    have he := hs e (by simp)
    have hw : wrap64 ((([a, b, d, e] : List ByteArray).length : Int) - 1) = 3 := by show wrap64 (((4 : Nat) : Int) - 1) = 3; rw [wrap_small (by omega) (by omega)]; rfl
    unfold imT
    rw [if_neg (by simp)]
    by_cases c : (([a, b, d, e] : List ByteArray).length : Int) > lim
    · rw [if_pos c, if_pos (by simp), if_pos (show (rdOf ByteArray.empty [a, b, d, e] 0).size + 7 ≤ _ from (by show a.size + 7 ≤ _; omega)), spV, if_neg (by omega), if_neg (by omega), if_neg (by omega), spV, if_pos ⟨rfl, c⟩, e0]
      rfl
    · have hj2 : ofL (Lib.join (([a, b, d] : List ByteArray).map (·.data.toList)) [44, 32]) = (((a ++ comw) ++ b) ++ comw) ++ d := by
        rw [List.map_cons, List.map_cons, List.map_cons, List.map_nil, Lib.join_cons]
        exact ba_ext _ _ (by simp [app_data, ofL, Lib.joinTail])
      have hj := join_c [a, b, d] (by simp) (by
        have : (ofL (Lib.join (([a, b, d] : List ByteArray).map (·.data.toList)) [44, 32])).size ≤ 140737488355328 := by rw [hj2]; simp only [ByteArray.size_append, comw_z]; omega
        rw [ofL_size] at this
        exact this)
      rw [hj2] at hj
      rw [if_neg c, if_neg (by simp), hw, if_pos (by decide), if_pos (by simp), show ([a, b, d, e] : List ByteArray).take (3 : Int).toNat = [a, b, d] from rfl, hj, Option.bind_some, if_pos (by simp only [ByteArray.size_append, comw_z]; omega), if_pos (by simp), if_pos (show (((((a ++ comw) ++ b) ++ comw) ++ d) ++ andw).size + (rdOf ByteArray.empty [a, b, d, e] 3).size ≤ _ from (by show (((((a ++ comw) ++ b) ++ comw) ++ d) ++ andw).size + e.size ≤ _; simp only [ByteArray.size_append, andw_z, comw_z]; omega))]
      rw [spV, if_neg (by omega), if_neg (by omega), if_neg (by omega), spV, if_neg (fun h => c h.2), if_neg (by simp), if_pos (by omega), spV, if_neg (by omega), if_neg (by simp), if_pos (by omega), spV, if_neg (by omega), if_pos (by simp), spV, e0]
      rfl
  | _ :: _ :: _ :: _ :: _ :: _, hl, _ => simp at hl
theorem names_iV (l : List Nm) (v : NsV l) (lim : Int) (h1 : 1 ≤ lim) : Ev (fun k => impl_joinNames.f k l lim) (nmV l lim) := by
  have hR := imT_V (l.map shV) lim h1 (by rw [List.length_map]; exact v.l) (fun x hx => by
    obtain ⟨n, hn, rfl⟩ := List.mem_map.1 hx
    exact sh_le n (v.n n hn))
  rw [List.length_map] at hR
  exact names_li l v lim _ hR l.length 0 (by omega)

end Go.Proofs.YthcccgnhokncdaaGreatDoor.Pure
