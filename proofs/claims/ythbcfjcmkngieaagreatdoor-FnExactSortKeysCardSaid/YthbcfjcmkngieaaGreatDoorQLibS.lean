/- Lemmas on the printed functions, without Go and memory. -/
import Derived.Test.YthbcfjcmkngieaaGreatDoorPx3
import Derived.Test.YthbcfjcmkngieaaGreatDoorPx5
import Derived.Test.YthbcfjcmkngieaaGreatDoorPx6
import Derived.Test.YthbcfjcmkngieaaGreatDoorQLibC
namespace Go.Proofs.YthbcfjcmkngieaaGreatDoor.Pure
open Go.RowKit Go.Proofs.YthbcfjcmkngieaaGreatDoor.Px Go.Proofs.YthbcfjcmkngieaaGreatDoorW.PrintWords Go.Proofs.YthbcfjcmkngieaaGreatDoorW.PrintLast
set_option linter.unusedVariables false
set_option linter.unusedSimpArgs false

theorem srt_len (c : ByteArray → ByteArray → Int) : ∀ (K out : List ByteArray), (K.foldl (insK c) out).length = K.length + out.length
  | [], out => by simp
  | x :: K, out => by rw [List.foldl_cons, srt_len c K, insK_len, List.length_cons]; omega

theorem both (L : List E2) (o : LOk L) (K : List ByteArray) (hk : K.length ≤ 1048576) : ∃ R : List ByteArray × Bool, R.1.length ≤ 1048576 ∧ Ev (fun k => spec_SortKeys.f k L K) R ∧ Ev (fun k => impl_SortKeys.f k L K) R := by
  unfold spec_SortKeys.f impl_SortKeys.f;have es := keys_s L o K (by omega);have ei := keys_i L o K (by omega);by_cases c : keysB L K = true
  · have c2 := c
    unfold keysB at c2;rw [Bool.and_eq_true] at c2;have v := lib_v L o c2.1;have kv := keys_v L K v c2.2;refine ⟨(srtK (cmpK L) K, true), ?_, Ev.bind es (Ev.congr (fun _ => if_pos c) (Ev.bind (sort_s L v _ kv) (Ev.now _))), Ev.bind ei (Ev.congr (fun _ => if_pos c) (Ev.bind (sort_i L v _ kv) (Ev.now _)))⟩;have h := srt_len (cmpK L) K []
    show (srtK _ _).length ≤ _
    unfold srtK;rw [List.length_nil] at h;omega
  · exact ⟨([], false), by simp, Ev.bind es (Ev.congr (fun _ => if_neg c) (Ev.now _)), Ev.bind ei (Ev.congr (fun _ => if_neg c) (Ev.now _))⟩

theorem mtx_ev (n : Int) (h : n < 4611686018427387904) : Ev (fun k => laws_markText.f k n) (MN.mtx n) := ⟨20, fun k hk => MN.mtx_k n h k hk⟩
noncomputable def mkd (n : Int) : List ByteArray → List ByteArray
  | [] => []
  | _ :: l => MN.mtx n :: mkd (n + 1) l
theorem mkd_len : ∀ (l : List ByteArray) (n : Int), (mkd n l).length = l.length
  | [], _ => rfl
  | _ :: l, n => by rw [mkd, List.length_cons, mkd_len l, List.length_cons]
theorem mark_l : ∀ (r o : List ByteArray) (n : Int), 0 ≤ n → n + r.length ≤ 4611686018427387903 → o.length + r.length ≤ 1048576 → Ev (fun k => laws_markStringS.l0 k (o ++ r) n (o.length : Int)) (n + (r.length : Int), o ++ mkd n r)
  | [], o, n, h0, h1, hl => by
    refine Ev.step (f := fun _ => some (n, o)) (fun k => ?_) (by rw [mkd, List.append_nil, List.length_nil, show n + ((0 : Nat) : Int) = n from by omega]; exact Ev.now _);simp only [laws_markStringS.l0, List.append_nil];rw [if_neg (by omega)]
  | x :: r, o, n, h0, h1, hl => by
    rw [List.length_cons] at h1 hl;have ih := mark_l r (o ++ [MN.mtx n]) (n + 1) (by omega) (by omega) (by rw [List.length_append, List.length_singleton]; omega);rw [List.append_assoc, List.append_assoc, List.length_append, List.length_singleton, show n + 1 + (r.length : Int) = n + ((r.length + 1 : Nat) : Int) from by omega] at ih;rw [mkd, List.length_cons];refine Ev.step (f := fun k => (laws_markText.f k n).bind fun t => laws_markStringS.l0 k (o ++ ([t] ++ r)) (n + 1) ((o.length + 1 : Nat) : Int)) (fun k => ?_) (Ev.bind (mtx_ev n (by omega)) ih);(have hlt : o.length < (o ++ x :: r).length := by rw [List.length_append, List.length_cons]; omega);simp only [laws_markStringS.l0, next_i o.length (o ++ x :: r).length hlt (by rw [List.length_append, List.length_cons]; omega), wrap_small (x := n + 1) (by omega) (by omega)];rw [if_pos (by omega)];(congr 1);(funext t);rw [if_pos (by omega), Int.toNat_natCast, List.set_append_right _ _ (Nat.le_refl _), Nat.sub_self];rfl
theorem held_l : ∀ (r o : List ByteArray) (n : Int), 0 ≤ n → n + r.length ≤ 4611686018427387903 → o.length + r.length ≤ 1048576 → Ev (fun k => laws_heldStringS.l0 k (o ++ mkd n r) n (o.length : Int)) (n + (r.length : Int))
  | [], o, n, h0, h1, hl => by
    refine Ev.step (f := fun _ => some n) (fun k => ?_) (by rw [List.length_nil, show n + ((0 : Nat) : Int) = n from by omega]; exact Ev.now _);simp only [laws_heldStringS.l0, mkd, List.append_nil];rw [if_neg (by omega)]
  | x :: r, o, n, h0, h1, hl => by
    rw [List.length_cons] at h1 hl;have ih := held_l r (o ++ [MN.mtx n]) (n + 1) (by omega) (by omega) (by rw [List.length_append, List.length_singleton]; omega);rw [List.append_assoc, List.length_append, List.length_singleton, show n + 1 + (r.length : Int) = n + ((r.length + 1 : Nat) : Int) from by omega] at ih;rw [mkd, List.length_cons];(have hz : (o ++ MN.mtx n :: mkd (n + 1) r).length = o.length + (r.length + 1) := by rw [List.length_append, List.length_cons, mkd_len]);(have hlt : o.length < (o ++ MN.mtx n :: mkd (n + 1) r).length := by omega)
    have hw : rdOf ByteArray.empty (o ++ MN.mtx n :: mkd (n + 1) r) (o.length : Int) = MN.mtx n := by
      rw [word_in _ o.length hlt, List.getElem_append_right (Nat.le_refl _)];simp
    refine Ev.step (f := fun k => (laws_markText.f k n).bind fun t => if (MN.mtx n).toList = t.toList then laws_heldStringS.l0 k (o ++ MN.mtx n :: mkd (n + 1) r) (n + 1) ((o.length + 1 : Nat) : Int) else some (-1)) (fun k => ?_) (Ev.bind (mtx_ev n (by omega)) (Ev.congr (fun _ => if_pos rfl) ih));simp only [laws_heldStringS.l0, next_i o.length _ hlt (by omega), wrap_small (x := n + 1) (by omega) (by omega), hw];rw [if_pos (by omega), if_pos (by omega)]
theorem markS (l : List ByteArray) (h : l.length ≤ 1048576) : Ev (fun k => laws_markStringS.f k l 1) (1 + (l.length : Int), mkd 1 l) := mark_l l [] 1 (by omega) (by omega) (by simpa using h)
theorem markN (l : List ByteArray) (h : l.length ≤ 1048576) (n : Int) (h0 : 0 ≤ n) (h1 : n ≤ 2400000000000000000) : Ev (fun k => laws_markStringS.f k l n) (n + (l.length : Int), mkd n l) := mark_l l [] n h0 (by omega) (by simpa using h)
theorem heldS (l : List ByteArray) (h : l.length ≤ 1048576) : Ev (fun k => laws_heldStringS.f k (mkd 1 l) 1) (1 + (l.length : Int)) := held_l l [] 1 (by omega) (by omega) (by simpa using h)
theorem cn_b : ∀ (l : List Nat), (∀ n ∈ l, n ≤ 1048576) → MN.cn l ≤ l.length * 1048579
  | [], _ => by simp [MN.cn]
  | n :: l, h => by
    have h1 := h n List.mem_cons_self;have h2 := cn_b l (fun m hm => h m (List.mem_cons_of_mem _ hm));simp only [MN.cn, List.length_cons];omega
theorem cn_n (l : List Nm) (h : NsOk l) : MN.cn (l.map MN.c1) ≤ 1099514773504 := by
  have := cn_b (l.map MN.c1) (fun n hn => by
    obtain ⟨x, hx, rfl⟩ := List.mem_map.1 hn
    exact (h.2 x hx).l)
  have h1 := h.1;rw [List.length_map] at this;omega
theorem ce_b : ∀ (L : List E2), (∀ x ∈ L, EnOk (en x)) → ME.ce (L.map ME.c2) ≤ L.length * 2199029547020
  | [], _ => by simp [ME.ce]
  | x :: L, h => by
    have h1 := cn_n x.f2 (h x List.mem_cons_self).au;have h3 := cn_n x.f3 (h x List.mem_cons_self).ed;have h2 := ce_b L (fun m hm => h m (List.mem_cons_of_mem _ hm));simp only [List.map_cons, ME.ce, ME.c2, List.length_cons];omega
theorem markL (L : List E2) (o : LOk L) : ∃ m : Int, 0 ≤ m ∧ m ≤ 2400000000000000000 ∧ Ev (fun k => laws_markLibrary.f k L 1) m := by
  have h1 := ce_b L o.e;have h2 := o.l;refine ⟨1 + (ME.ce (L.map ME.c2) : Nat), by omega, by omega, 20, fun k hk => ?_⟩
  show laws_markLibrary.f k L 1 = _
  unfold laws_markLibrary.f laws_markEntryS.f;rw [if_pos ⟨⟨by omega, by omega⟩, hk⟩];rfl

end Go.Proofs.YthbcfjcmkngieaaGreatDoor.Pure
