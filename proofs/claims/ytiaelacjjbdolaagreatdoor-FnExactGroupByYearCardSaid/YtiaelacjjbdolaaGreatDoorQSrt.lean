/- Lemmas on the printed functions, without Go and memory. -/
import Derived.Test.YtiaelacjjbdolaaGreatDoorQLibB
namespace Go.Proofs.YtiaelacjjbdolaaGreatDoor.Pure
open Go.RowKit Go.Proofs.YtiaelacjjbdolaaGreatDoor.Px Go.Proofs.YtiaelacjjbdolaaGreatDoorW.PrintWords Go.Proofs.YtiaelacjjbdolaaGreatDoorW.PrintLast
set_option linter.unusedVariables false
set_option linter.unusedSimpArgs false

theorem lM : ∀ a b : List UInt8, Lib.compareBytes b a = - Lib.compareBytes a b
  | [], [] => rfl
  | [], _ :: _ => rfl
  | _ :: _, [] => rfl
  | x :: a, y :: b => by
    have ih := lM a b;have hx : x < y ↔ x.toNat < y.toNat := UInt8.lt_iff_toNat_lt;have hy : y < x ↔ y.toNat < x.toNat := UInt8.lt_iff_toNat_lt;simp only [Lib.compareBytes, hx, hy];by_cases h : x.toNat < y.toNat;(·(rw [if_neg (by omega), if_pos h, if_pos h]; rfl));(·by_cases h2 : y.toNat < x.toNat;(·rw [if_pos h2, if_neg h, if_pos h2]);(·(rw [if_neg h2, if_neg h, if_neg h, if_neg h2]; exact ih)))
theorem kS : ∀ a b : List UInt8, Lib.compareBytes a b = 0 -> a = b
  | [], [], _ => rfl
  | [], _ :: _, h => by simp [Lib.compareBytes] at h
  | _ :: _, [], h => by simp [Lib.compareBytes] at h
  | x :: a, y :: b, h => by
    have hx : x < y ↔ x.toNat < y.toNat := UInt8.lt_iff_toNat_lt;have hy : y < x ↔ y.toNat < x.toNat := UInt8.lt_iff_toNat_lt;simp only [Lib.compareBytes, hx, hy] at h;by_cases c : x.toNat < y.toNat;(·(rw [if_pos c] at h; cases h));(·by_cases c2 : y.toNat < x.toNat;(·(rw [if_neg c, if_pos c2] at h; cases h));(·rw [if_neg c, if_neg c2] at h;rw [kS a b h, UInt8.toNat_inj.1 (show x.toNat = y.toNat from by omega)]))
theorem ba_eq (a b : ByteArray) (h : a.data.toList = b.data.toList) : a = b := by
  apply ByteArray.ext;exact Array.toList_inj.1 h
structure Sg {α : Type} (c : α -> α -> Int) : Prop where
  a : ∀ x y, c y x = - c x y
  t : ∀ x y z, c x y <= 0 -> c y z <= 0 -> c x z <= 0
theorem or_t {α : Type} {c : α -> α -> Int} (h : Sg c) {x y z : α} {p q r : Int} (hp : p <= 0 -> q <= 0 -> r <= 0) (h1 : orI (c x y) p <= 0) (h2 : orI (c y z) q <= 0) : orI (c x z) r <= 0 := by
  have a1 := h.a x y;have a2 := h.a y z;have a3 := h.a x z;have t1 := h.t x y z;have t2 := h.t z x y;have t3 := h.t y z x;have t4 := h.t z y x;unfold orI at *
  split at h1 <;> split at h2 <;> split <;> first | omega | (rename_i c1 c2 c3; exact hp h1 h2) | (rename_i c1 c2 c3; exfalso; omega)
theorem Sg.or {α : Type} {c d : α -> α -> Int} (h : Sg c) (k : Sg d) : Sg fun x y => orI (c x y) (d x y) where
  a x y := by
    show orI (c y x) (d y x) = - orI (c x y) (d x y)
    unfold orI;rw [h.a x y, k.a x y];(split <;> split <;> omega)
  t x y z h1 h2 := or_t h (k.t x y z) h1 h2
theorem Sg.on {α β : Type} {c : β -> β -> Int} (h : Sg c) (f : α -> β) : Sg fun x y => c (f x) (f y) := ⟨fun x y => h.a _ _, fun x y z => h.t _ _ _⟩
theorem sg_i : Sg cmI := ⟨fun x y => by unfold cmI; split <;> split <;> omega, fun x y z h1 h2 => by unfold cmI at *; split at h1 <;> split at h2 <;> split <;> omega⟩
theorem cb_t : ∀ a b c : List UInt8, Lib.compareBytes a b <= 0 -> Lib.compareBytes b c <= 0 -> Lib.compareBytes a c <= 0
  | [], _, [], _, _ => by simp [Lib.compareBytes]
  | [], _, _ :: _, _, _ => by simp [Lib.compareBytes]
  | _ :: _, [], _, h, _ => by simp [Lib.compareBytes] at h
  | _ :: _, _ :: _, [], _, h => by simp [Lib.compareBytes] at h
  | x :: a, y :: b, z :: c, h1, h2 => by
    have ih := cb_t a b c;simp only [Lib.compareBytes, UInt8.lt_iff_toNat_lt] at *;(split at h1 <;> split at h2 <;> (try split at h1) <;> (try split at h2) <;> split <;> (try split) <;> first | omega | exact ih h1 h2)
theorem kD : Sg cb := ⟨fun x y => lM _ _, fun x y z => cb_t _ _ _⟩
theorem sg_nm : Sg nmC := (kD.on fun a : Nm => gn a.f2).or ((kD.on fun a : Nm => a.f1).or ((kD.on fun a : Nm => gn (gh a)).or (kD.on jx)))
theorem nms_a : ∀ l m : List Nm, eI m l = - eI l m
  | [], [] => rfl
  | [], _ :: _ => rfl
  | _ :: _, [] => rfl
  | a :: l, b :: m => by
    have h := sg_nm.a a b;have k := nms_a l m;simp only [eI];unfold orI;rw [h, k];(split <;> split <;> omega)
theorem nms_t : ∀ l m n : List Nm, eI l m <= 0 -> eI m n <= 0 -> eI l n <= 0
  | [], _, [], _, _ => by simp [eI]
  | [], _, _ :: _, _, _ => by simp [eI]
  | _ :: _, [], _, h, _ => by simp [eI] at h
  | _ :: _, _ :: _, [], _, h => by simp [eI] at h
  | x :: a, y :: b, z :: c, h1, h2 => or_t sg_nm (nms_t a b c) h1 h2
theorem sg_nms : Sg eI := ⟨nms_a, nms_t⟩
theorem sg_dt : Sg dtC := by
  have e : dtC = fun x y => orI (cmI (dtK x) (dtK y)) (cmI (if x.c = true then 1 else 0) (if y.c = true then 1 else 0)) := by
    (funext x y);unfold dtC orI cmI;(cases x.c <;> cases y.c <;> simp <;> (split <;> simp_all) <;> (split <;> simp_all))
  rw [e];exact (sg_i.on dtK).or (sg_i.on fun x : En => if x.c = true then 1 else 0)
theorem sg_col : Sg mI := (kD.on gR).or kD
theorem sg_E : Sg mm := (sg_nms.on fb).or (sg_dt.or ((sg_col.on fun e : En => gt e.ti).or ((sg_i.on En.vol).or (kD.on En.key))))

theorem mW (f : ByteArray -> Bool) (out : List ByteArray) : ∀ n, n <= out.length -> (∀ i (h : i < out.length), fV f out n <= i -> i < n -> f out[i] = true) /\ (∀ (h : fV f out n - 1 < out.length), 0 < fV f out n -> f out[fV f out n - 1] = false)
  | 0, _ => ⟨fun i _ _ h => by omega, fun _ h => by simp [fV] at h⟩
  | n + 1, hn => by
    obtain ⟨h1, h2⟩ := mW f out n (by omega);rw [fV, dW out n (by omega)];by_cases c : f out[n] = true;(·rw [if_pos c];refine ⟨fun i h ha hb => ?_, h2⟩;by_cases e : i = n;(·(subst e; exact c));(·exact h1 i h ha (by omega)));(·rw [if_neg c];exact ⟨fun i h ha hb => by omega, fun _ _ => by simpa using c⟩)
theorem ins_pw {c : ByteArray -> ByteArray -> Int} (g : Sg c) (out : List ByteArray) (x : ByteArray) (ho : out.Pairwise (fun a b => c a b <= 0)) : (ft c out x).Pairwise (fun a b => c a b <= 0) := by
  obtain ⟨h1, h2⟩ := mW (fun y => decide (c x y < 0)) out out.length (Nat.le_refl _);have hp := jM (fun y => decide (c x y < 0)) out out.length;unfold ft;generalize fV (fun y => decide (c x y < 0)) out out.length = p at h1 h2 hp;have hs := List.pairwise_append.1 ((List.take_append_drop p out).symm ▸ ho);refine List.pairwise_append.2 ⟨hs.1, List.pairwise_cons.2 ⟨fun y hy => ?_, hs.2.1⟩, fun a ha b hb => ?_⟩;(·obtain ⟨i, hi, rfl⟩ := List.mem_iff_getElem.1 hy;rw [List.length_drop] at hi;rw [List.getElem_drop];have := of_decide_eq_true (h1 (p + i) (by omega) (by omega) (by omega));omega)
  · rcases List.mem_cons.1 hb with rfl | hb
    · obtain ⟨i, hi, rfl⟩ := List.mem_iff_getElem.1 ha
      rw [List.length_take] at hi;rw [List.getElem_take];have h3 := of_decide_eq_false (h2 (by omega) (by omega));have a3 := g.a out[p - 1] b
      have h4 : c out[i] out[p - 1] <= 0 := by
        by_cases e : i = p - 1;(·have := g.a out[i] out[i];simp only [e] at this ⊢;omega);(·exact List.pairwise_iff_getElem.1 ho i (p - 1) (by omega) (by omega) (by omega))
      exact g.t _ _ _ h4 (by omega)
    · exact hs.2.2 a ha b hb
theorem mF {c : ByteArray -> ByteArray -> Int} (g : Sg c) : ∀ (K out : List ByteArray), out.Pairwise (fun a b => c a b <= 0) -> (K.foldl (ft c) out).Pairwise (fun a b => c a b <= 0)
  | [], out, h => h
  | x :: K, out, h => mF g K _ (ins_pw g out x h)
theorem lq {c : ByteArray -> ByteArray -> Int} (g : Sg c) : ∀ (S T : List ByteArray), S.Pairwise (fun a b => c a b < 0) -> T.Pairwise (fun a b => c a b < 0) -> (∀ x, x ∈ S ↔ x ∈ T) -> S = T
  | [], [], _, _, _ => rfl
  | [], y :: T, _, _, h => absurd ((h y).2 List.mem_cons_self) (by simp)
  | x :: S, [], _, _, h => absurd ((h x).1 List.mem_cons_self) (by simp)
  | x :: S, y :: T, hS, hT, h => by
    obtain ⟨s1, s2⟩ := List.pairwise_cons.1 hS;obtain ⟨t1, t2⟩ := List.pairwise_cons.1 hT
    have e : x = y := by
      (rcases List.mem_cons.1 ((h x).1 List.mem_cons_self) with e | hx);(·exact e);(·(rcases List.mem_cons.1 ((h y).2 List.mem_cons_self) with e | hy);(·exact e.symm);(·have a1 := t1 x hx;have a2 := s1 y hy;have := g.a x y;omega))
    subst e;(have z : ∀ a, ¬ c a a < 0 := fun a ha => by have := g.a a a; omega);rw [lq g S T s2 t2 fun a => ⟨fun ha => ?_, fun ha => ?_⟩];(·(rcases List.mem_cons.1 ((h a).1 (List.mem_cons_of_mem _ ha)) with rfl | hb);(·exact absurd (s1 a ha) (z a));(·exact hb));(·(rcases List.mem_cons.1 ((h a).2 (List.mem_cons_of_mem _ ha)) with rfl | hb);(·exact absurd (t1 a ha) (z a));(·exact hb))

theorem ins_nd (c : ByteArray -> ByteArray -> Int) (out : List ByteArray) (x : ByteArray) (ho : out.Nodup) (hx : x ∉ out) : (ft c out x).Nodup := by
  unfold ft;rw [List.perm_middle.nodup_iff, List.take_append_drop];exact List.nodup_cons.2 ⟨hx, ho⟩
theorem nU (c : ByteArray -> ByteArray -> Int) : ∀ K out : List ByteArray, K.Nodup -> out.Nodup -> (∀ x ∈ K, x ∉ out) -> (K.foldl (ft c) out).Nodup
  | [], out, _, h, _ => h
  | x :: K, out, hk, ho, hd => by
    obtain ⟨h1, h2⟩ := List.nodup_cons.1 hk;(refine nU c K _ h2 (ins_nd c out x ho (hd x List.mem_cons_self)) fun y hy hm => ?_);(rcases (ib c out x y).1 hm with rfl | hm);(·exact h1 hy);(·exact hd y (List.mem_cons_of_mem _ hy) hm)
theorem nf {c : ByteArray -> ByteArray -> Int} (g : Sg c) (K : List ByteArray) (hk : K.Nodup) (hz : ∀ a ∈ K, ∀ b ∈ K, c a b = 0 -> a = b) : (eN c K).Pairwise (fun a b => c a b < 0) := by
  have h1 := mF g K [] List.Pairwise.nil;have h2 := nU c K [] hk List.nodup_nil (by simp);(have hm : ∀ y ∈ eN c K, y ∈ K := fun y hy => by simpa using (fT c y K []).1 hy);(refine List.pairwise_iff_getElem.2 fun i j hi hj hij => ?_);have a1 := List.pairwise_iff_getElem.1 h1 i j hi hj hij;have a2 := List.pairwise_iff_getElem.1 h2 i j hi hj hij;by_cases e : c (eN c K)[i] (eN c K)[j] = 0;(·exact absurd (hz _ (hm _ (List.getElem_mem hi)) _ (hm _ (List.getElem_mem hj)) e) a2)
  · show c (eN c K)[i] (eN c K)[j] < 0
    have a3 : c (eN c K)[i] (eN c K)[j] <= 0 := a1;omega
theorem nN {c : ByteArray -> ByteArray -> Int} (g : Sg c) (K : List ByteArray) (hk : K.Nodup) (hz : ∀ a ∈ K, ∀ b ∈ K, c a b = 0 -> a = b) (p : ByteArray -> Bool) : (eN c K).filter p = eN c (K.filter p) := by
  (have hm : ∀ (K : List ByteArray) y, y ∈ eN c K ↔ y ∈ K := fun K y => by unfold eN; simpa using fT c y K []);(refine lq g _ _ ((nf g K hk hz).filter p) (nf g _ (hk.filter p) fun a ha b hb => hz a (List.mem_filter.1 ha).1 b (List.mem_filter.1 hb).1) fun x => ?_);rw [List.mem_filter, hm, hm, List.mem_filter]

end Go.Proofs.YtiaelacjjbdolaaGreatDoor.Pure
