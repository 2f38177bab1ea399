/- Lemmas on the printed functions, without Go and memory. -/
import Derived.Test.YtffolbeijanidaaGreatDoorPx2
import Derived.Test.YtffolbeijanidaaGreatDoorPx5
import Derived.Test.YtffolbeijanidaaGreatDoorPx6
import Derived.Test.YtffolbeijanidaaGreatDoorQLibC
namespace Go.Proofs.YtffolbeijanidaaGreatDoor.Pure
open Go.RowKit Go.Proofs.YtffolbeijanidaaGreatDoor.Px Go.Proofs.YtffolbeijanidaaGreatDoorW.PrintWords Go.Proofs.YtffolbeijanidaaGreatDoorW.PrintLast
set_option linter.unusedVariables false
set_option linter.unusedSimpArgs false

theorem all_s (L : List E2) (hl : L.length ≤ 1048576) : ∀ (d i : Nat), i + d = L.length → Ev (fun k => spec_l8All.l0 k ((L.take i).map (·.f0)) (i : Int) L) (L.map (·.f0))
  | 0, i, hi => by
    refine Ev.step (f := fun _ => some (L.map (·.f0))) (fun k => ?_) (Ev.now _);simp only [spec_l8All.l0];rw [if_neg (by omega), List.take_of_length_le (by omega)]
  | d + 1, i, hi => by
    (have hlt : i < L.length := by omega);refine Ev.step (fun k => ?_) (all_s L hl d (i + 1) (by omega));simp only [spec_l8All.l0, rdE_at L i hlt];rw [if_pos (by omega), if_pos (by omega), if_pos (by rw [List.length_map, List.length_take]; omega), next_i i L.length hlt hl, List.take_succ_eq_append_getElem hlt, List.map_append];rfl
theorem all_i (L : List E2) (hl : L.length ≤ 1048576) : ∀ (d i : Nat), i + d = L.length → Ev (fun k => impl_allKeys.l0 k ((L.take i).map (·.f0)) L (L.length : Int) (i : Int)) (L.map (·.f0))
  | 0, i, hi => by
    refine Ev.step (f := fun _ => some (L.map (·.f0))) (fun k => ?_) (Ev.now _);simp only [impl_allKeys.l0];rw [if_neg (by omega), List.take_of_length_le (by omega)]
  | d + 1, i, hi => by
    (have hlt : i < L.length := by omega);refine Ev.step (fun k => ?_) (all_i L hl d (i + 1) (by omega));simp only [impl_allKeys.l0, rdE_at L i hlt];rw [if_pos (by omega), if_pos (by omega), if_pos (by omega), if_pos (by rw [List.length_map, List.length_take]; omega), next_i i L.length hlt hl, List.take_succ_eq_append_getElem hlt, List.map_append];rfl
theorem all_v (L : List E2) (v : LV L) : KV L (L.map (·.f0)) := by
  refine ⟨by rw [List.length_map]; exact v.l, fun a ha => ?_⟩;obtain ⟨x, hx, rfl⟩ := List.mem_map.1 ha
  show 0 ≤ impl_entryIndex.idx (impl_entryIndex.is x.f0) L
  unfold impl_entryIndex.idx
  cases hf : L.findIdx? (impl_entryIndex.is x.f0) with
  | none =>
    have := List.findIdx?_eq_none_iff.1 hf x hx;unfold impl_entryIndex.is at this;exact absurd (beq_iff_eq.2 rfl) (by rw [this]; decide)
  | some i => exact Int.natCast_nonneg i
theorem srt_len (c : ByteArray → ByteArray → Int) : ∀ (K out : List ByteArray), (K.foldl (insK c) out).length = K.length + out.length
  | [], out => by simp
  | x :: K, out => by rw [List.foldl_cons, srt_len c K, insK_len, List.length_cons]; omega
theorem both (L : List E2) (o : LOk L) : ∃ R : List ByteArray × Bool, R.1.length ≤ 1048576 ∧ Ev (fun k => spec_SortLibrary.f k L) R ∧ Ev (fun k => impl_SortLibrary.f k L) R := by
  unfold spec_SortLibrary.f impl_SortLibrary.f;by_cases c : libB L = true
  · have v := lib_v L o c
    have kv := all_v L v;refine ⟨(srtK (cmpK L) (L.map (·.f0)), true), ?_, Ev.bind (lib_s L o) (Ev.congr (fun _ => if_pos c) (Ev.bind (all_s L o.l L.length 0 (by omega)) (Ev.bind (sort_s L v _ kv) (Ev.now _)))), Ev.bind (lib_i L o) (Ev.congr (fun _ => if_pos c) (Ev.bind (all_i L o.l L.length 0 (by omega)) (Ev.bind (sort_i L v _ kv) (Ev.now _))))⟩;have := srt_len (cmpK L) (L.map (·.f0)) [];have := kv.l
    show (srtK _ _).length ≤ _
    unfold srtK;rw [List.length_nil] at *;omega
  · exact ⟨([], false), by simp, Ev.bind (lib_s L o) (Ev.congr (fun _ => if_neg c) (Ev.now _)), Ev.bind (lib_i L o) (Ev.congr (fun _ => if_neg c) (Ev.now _))⟩

noncomputable def mtx (n : Int) : ByteArray := if h : n < 4611686018427387904 then Classical.choose (laws_markNameS.mt n h) else ⟨#[]⟩
theorem mtx_ev (n : Int) (h : n < 4611686018427387904) : Ev (fun k => laws_markText.f k n) (mtx n) := ⟨20, fun k hk => by
  unfold mtx
  rw [dif_pos h]
  exact Classical.choose_spec (laws_markNameS.mt n h) k hk⟩
noncomputable def mkd (n : Int) : List ByteArray → List ByteArray
  | [] => []
  | _ :: l => mtx n :: mkd (n + 1) l
theorem mkd_len : ∀ (l : List ByteArray) (n : Int), (mkd n l).length = l.length
  | [], _ => rfl
  | _ :: l, n => by rw [mkd, List.length_cons, mkd_len l, List.length_cons]
theorem mark_l : ∀ (r o : List ByteArray) (n : Int), 0 ≤ n → n + r.length ≤ 1000000000 → o.length + r.length ≤ 1048576 → Ev (fun k => laws_markStringS.l0 k (o ++ r) n (o.length : Int)) (n + (r.length : Int), o ++ mkd n r)
  | [], o, n, h0, h1, hl => by
    refine Ev.step (f := fun _ => some (n, o)) (fun k => ?_) (by rw [mkd, List.append_nil, List.length_nil, show n + ((0 : Nat) : Int) = n from by omega]; exact Ev.now _);simp only [laws_markStringS.l0, List.append_nil];rw [if_neg (by omega)]
  | x :: r, o, n, h0, h1, hl => by
    rw [List.length_cons] at h1 hl;have ih := mark_l r (o ++ [mtx n]) (n + 1) (by omega) (by omega) (by rw [List.length_append, List.length_singleton]; omega);rw [List.append_assoc, List.append_assoc, List.length_append, List.length_singleton, show n + 1 + (r.length : Int) = n + ((r.length + 1 : Nat) : Int) from by omega] at ih;rw [mkd, List.length_cons];refine Ev.step (f := fun k => (laws_markText.f k n).bind fun t => laws_markStringS.l0 k (o ++ ([t] ++ r)) (n + 1) ((o.length + 1 : Nat) : Int)) (fun k => ?_) (Ev.bind (mtx_ev n (by omega)) ih);(have hlt : o.length < (o ++ x :: r).length := by rw [List.length_append, List.length_cons]; omega);simp only [laws_markStringS.l0, next_i o.length (o ++ x :: r).length hlt (by rw [List.length_append, List.length_cons]; omega), wrap_small (x := n + 1) (by omega) (by omega)];rw [if_pos (by omega)];(congr 1);(funext t);rw [if_pos (by omega), Int.toNat_natCast, List.set_append_right _ _ (Nat.le_refl _), Nat.sub_self];rfl
theorem held_l : ∀ (r o : List ByteArray) (n : Int), 0 ≤ n → n + r.length ≤ 1000000000 → o.length + r.length ≤ 1048576 → Ev (fun k => laws_heldStringS.l0 k (o ++ mkd n r) n (o.length : Int)) (n + (r.length : Int))
  | [], o, n, h0, h1, hl => by
    refine Ev.step (f := fun _ => some n) (fun k => ?_) (by rw [List.length_nil, show n + ((0 : Nat) : Int) = n from by omega]; exact Ev.now _);simp only [laws_heldStringS.l0, mkd, List.append_nil];rw [if_neg (by omega)]
  | x :: r, o, n, h0, h1, hl => by
    rw [List.length_cons] at h1 hl;have ih := held_l r (o ++ [mtx n]) (n + 1) (by omega) (by omega) (by rw [List.length_append, List.length_singleton]; omega);rw [List.append_assoc, List.length_append, List.length_singleton, show n + 1 + (r.length : Int) = n + ((r.length + 1 : Nat) : Int) from by omega] at ih;rw [mkd, List.length_cons];(have hz : (o ++ mtx n :: mkd (n + 1) r).length = o.length + (r.length + 1) := by rw [List.length_append, List.length_cons, mkd_len]);(have hlt : o.length < (o ++ mtx n :: mkd (n + 1) r).length := by omega)
    have hw : rdOf ByteArray.empty (o ++ mtx n :: mkd (n + 1) r) (o.length : Int) = mtx n := by
      rw [word_in _ o.length hlt, List.getElem_append_right (Nat.le_refl _)];simp
    refine Ev.step (f := fun k => (laws_markText.f k n).bind fun t => if (mtx n).toList = t.toList then laws_heldStringS.l0 k (o ++ mtx n :: mkd (n + 1) r) (n + 1) ((o.length + 1 : Nat) : Int) else some (-1)) (fun k => ?_) (Ev.bind (mtx_ev n (by omega)) (Ev.congr (fun _ => if_pos rfl) ih));simp only [laws_heldStringS.l0, next_i o.length _ hlt (by omega), wrap_small (x := n + 1) (by omega) (by omega), hw];rw [if_pos (by omega), if_pos (by omega)]
theorem markS (l : List ByteArray) (h : l.length ≤ 1048576) : Ev (fun k => laws_markStringS.f k l 1) (1 + (l.length : Int), mkd 1 l) := mark_l l [] 1 (by omega) (by omega) (by simpa using h)
theorem heldS (l : List ByteArray) (h : l.length ≤ 1048576) : Ev (fun k => laws_heldStringS.f k (mkd 1 l) 1) (1 + (l.length : Int)) := held_l l [] 1 (by omega) (by omega) (by simpa using h)
theorem cn_b : ∀ (l : List Nat), (∀ n ∈ l, n ≤ 1048576) → laws_markNameS.cn l ≤ l.length * 1048579
  | [], _ => by simp [laws_markNameS.cn]
  | n :: l, h => by
    have h1 := h n List.mem_cons_self;have h2 := cn_b l (fun m hm => h m (List.mem_cons_of_mem _ hm));simp only [laws_markNameS.cn, List.length_cons];omega
theorem cn_n (l : List Nm) (h : NsOk l) : laws_markNameS.cn (l.map laws_markNameS.c1) ≤ 1099514773504 := by
  have := cn_b (l.map laws_markNameS.c1) (fun n hn => by
    obtain ⟨x, hx, rfl⟩ := List.mem_map.1 hn
    exact (h.2 x hx).l)
  have h1 := h.1;rw [List.length_map] at this;omega
theorem ce_b : ∀ (L : List E2), (∀ x ∈ L, EnOk (en x)) → laws_markEntryS.ce (L.map laws_markEntryS.c2) ≤ L.length * 2199029547020
  | [], _ => by simp [laws_markEntryS.ce]
  | x :: L, h => by
    have h1 := cn_n x.f2 (h x List.mem_cons_self).au;have h3 := cn_n x.f3 (h x List.mem_cons_self).ed;have h2 := ce_b L (fun m hm => h m (List.mem_cons_of_mem _ hm));simp only [List.map_cons, laws_markEntryS.ce, laws_markEntryS.c2, List.length_cons];omega
theorem markL (L : List E2) (o : LOk L) : ∃ m : Int, 0 ≤ m ∧ Ev (fun k => laws_markLibrary.f k L 1) m := by
  have h1 := ce_b L o.e;have h2 := o.l;refine ⟨1 + (laws_markEntryS.ce (L.map laws_markEntryS.c2) : Nat), by omega, 20, fun k hk => ?_⟩
  show laws_markLibrary.f k L 1 = _
  unfold laws_markLibrary.f laws_markEntryS.f;rw [if_pos ⟨⟨by omega, by omega⟩, hk⟩];rfl

end Go.Proofs.YtffolbeijanidaaGreatDoor.Pure
