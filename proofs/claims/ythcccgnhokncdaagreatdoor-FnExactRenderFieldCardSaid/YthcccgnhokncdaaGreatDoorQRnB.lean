/- Lemmas on the printed functions, without Go and memory. -/
import Derived.Test.YthcccgnhokncdaaGreatDoorPx3
import Derived.Test.YthcccgnhokncdaaGreatDoorPx4
import Derived.Test.YthcccgnhokncdaaGreatDoorPx9
import Derived.Test.YthcccgnhokncdaaGreatDoorQRnA
namespace Go.Proofs.YthcccgnhokncdaaGreatDoor.Pure
open Go.RowKit Go.Proofs.YthcccgnhokncdaaGreatDoor.Px Go.Proofs.YthcccgnhokncdaaGreatDoorW.PrintWords Go.Proofs.YthcccgnhokncdaaGreatDoorW.PrintLast
set_option linter.unusedVariables false
set_option linter.unusedSimpArgs false

abbrev dsh : ByteArray := ⟨#[45]⟩
abbrev dot : ByteArray := ⟨#[46]⟩
def upC (c : Int) : Int := if isLw c = true then c - 32 else c
def sg (c : Int) : ByteArray := strOfNums [c]
theorem sg_size (c : Int) : (sg c).size = 1 := rfl
theorem dsh_z : dsh.size = 1 := rfl
theorem dot_z : dot.size = 1 := rfl
theorem enc_fin : ∀ i : Fin 128, Utf8.encode (i.val : Int) = strOfNums [(i.val : Int)] := by decide +kernel
theorem enc_sg (c : Int) (h0 : 0 ≤ c) (h1 : c < 128) : Utf8.encode c = sg c := by
  have := enc_fin ⟨c.toNat, by omega⟩
  rwa [show ((c.toNat : Nat) : Int) = c from by omega] at this
theorem isLt_b (c : Int) (h : isLt c = true) : 65 ≤ c ∧ c ≤ 122 := by
  unfold isLt isUp isLw at h
  simp only [Bool.or_eq_true, Bool.and_eq_true, decide_eq_true_eq] at h
  omega
theorem isLw_b (c : Int) (h : isLw c = true) : 97 ≤ c ∧ c ≤ 122 := by
  unfold isLw at h
  simp only [Bool.and_eq_true, decide_eq_true_eq] at h
  omega
theorem upC_b (c : Int) (h : isLt c = true) : 0 ≤ upC c ∧ upC c < 128 := by
  have := isLt_b c h
  unfold upC
  split <;> omega
theorem up_b (c : Int) (h : isLt c = true) : impl_upperByte.f c = some (upC c) := by
  unfold impl_upperByte.f upC
  rw [lw_i, Option.bind_some]
  by_cases d : isLw c = true
  · have := isLw_b c d
    rw [if_pos d, if_pos d, show (c - 32) % 256 = c - 32 from by omega]
  · rw [if_neg d, if_neg d]
structure WdV (w : ByteArray) : Prop where
  n1 : 1 ≤ w.size
  n12 : w.size ≤ 12
  a : isLt (bt w 0) = true
  z : isLt (bt w ((w.size : Int) - 1)) = true
  nx : ∀ j : Nat, j < w.size → bt w (j : Int) = 45 → j + 1 < w.size ∧ isLt (bt w ((j : Int) + 1)) = true
theorem lt45 (c : Int) (h : isLt c = true) : c ≠ 45 := by
  have := isLt_b c h
  omega
theorem wd_v (w : ByteArray) (h : greatB w = true) : WdV w := by
  unfold greatB at h
  rw [Bool.and_eq_true] at h
  have hw := h.1
  have hp := word_pos w hw
  unfold wordB at hw
  rw [Bool.and_eq_true, Bool.and_eq_true, Bool.and_eq_true] at hw
  obtain ⟨_, h0, h1, h2⟩ := hw
  have ha := allI_true (wdP w) _ _ h2
  refine ⟨hp.1, hp.2, h0, h1, fun j hj e => ?_⟩
  have hne : (j : Int) ≠ (w.size : Int) - 1 := fun e1 => lt45 _ h1 (by rw [← e1]; exact e)
  have hlt : j + 1 < w.size := by omega
  refine ⟨hlt, ?_⟩
  have := ha (j + 1) (by omega) (by omega)
  unfold wdP at this
  rw [show (((j + 1 : Nat) : Int) - 1) = (j : Int) from by omega, e, show isLt 45 = false from by decide, Bool.and_false, Bool.or_false] at this
  exact this
def stp (w : ByteArray) (i : Nat) (acc : ByteArray) : ByteArray := if bt w (i : Int) = 45 then ((acc ++ dsh) ++ sg (upC (bt w ((i : Int) + 1)))) ++ dot else acc
def iniV (w : ByteArray) : Nat → Nat → ByteArray → ByteArray
  | _, 0, acc => acc
  | i, d + 1, acc => iniV w (i + 1) d (stp w i acc)
theorem stp_size (w : ByteArray) (i : Nat) (acc : ByteArray) : acc.size ≤ (stp w i acc).size ∧ (stp w i acc).size ≤ acc.size + 3 := by
  unfold stp
  split
  · simp only [ByteArray.size_append, sg_size, dsh_z, dot_z]; omega
  · omega
theorem ini_size (w : ByteArray) : ∀ (d i : Nat) (acc : ByteArray), acc.size ≤ (iniV w i d acc).size ∧ (iniV w i d acc).size ≤ acc.size + 3 * d
  | 0, _, acc => ⟨Nat.le_refl _, Nat.le_refl _⟩
  | d + 1, i, acc => by
    have h1 := stp_size w i acc
    have h2 := ini_size w d (i + 1) (stp w i acc)
    rw [iniV]
    omega
theorem ini_end (w : ByteArray) : ∀ (d i : Nat) (acc : ByteArray), bt w ((i + d : Nat) : Int) ≠ 45 → iniV w i (d + 1) acc = iniV w i d acc
  | 0, i, acc, h => by
    rw [iniV, iniV, iniV]
    exact if_neg h
  | d + 1, i, acc, h => by
    rw [iniV, iniV]
    exact ini_end w d (i + 1) _ (by rw [show i + 1 + d = i + (d + 1) from by omega]; exact h)
def ini0 (w : ByteArray) : ByteArray := w.extract 0 1 ++ dot
def INI (w : ByteArray) : ByteArray := iniV w 0 (w.size - 1) (ini0 w)
theorem ini0_size (w : ByteArray) (h : 1 ≤ w.size) : (ini0 w).size = 2 := by
  unfold ini0
  rw [ByteArray.size_append, ByteArray.size_extract, dot_z]
  omega
theorem INI_b (w : ByteArray) (v : WdV w) : 1 ≤ (INI w).size ∧ (INI w).size ≤ 35 := by
  have h := ini_size w (w.size - 1) 0 (ini0 w)
  rw [ini0_size w v.n1] at h
  have := v.n12
  unfold INI
  omega
theorem INI_1 (w : ByteArray) (v : WdV w) : iniV w 1 (w.size - 1) (ini0 w) = INI w := by
  have h0 := lt45 _ v.a
  have h1 := lt45 _ v.z
  have hn := v.n1
  unfold INI
  by_cases c : w.size = 1
  · rw [c]; rfl
  · obtain ⟨m, hm⟩ : ∃ m, w.size = m + 2 := ⟨w.size - 2, by omega⟩
    rw [show w.size - 1 = m + 1 from by omega, ini_end w m 1 _ (by rw [show ((1 + m : Nat) : Int) = (w.size : Int) - 1 from by omega]; exact h1)]
    rw [iniV]
    congr 1
    exact (if_neg h0).symm
theorem ini_li (w : ByteArray) (v : WdV w) (xs ws : List ByteArray) (n i0 : Int) (hx : xs.length ≤ 1048576) (R : ByteArray) : ∀ (d i : Nat) (acc : ByteArray), i + d = w.size → acc.size ≤ 2 + 3 * i → Ev (fun k => impl_initialsOf.l0 k (xs ++ [iniV w i d acc]) ws n (wrap64 (i0 + 1))) R → Ev (fun k => impl_initialsOf.l1 k xs w acc (i : Int) ws n i0) R
  | 0, i, acc, hi, ha, h => by
    refine Ev.step (fun k => ?_) h
    simp only [impl_initialsOf.l1]
    rw [if_neg (by omega), if_pos (by omega)]
    rfl
  | d + 1, i, acc, hi, ha, h => by
    have hw := v.n12
    have hz := stp_size w i acc
    have ih := ini_li w v xs ws n i0 hx R d (i + 1) (stp w i acc) (by omega) (by omega) h
    have hn : wrap64 ((i : Int) + 1) = ((i + 1 : Nat) : Int) := next_i i w.size (by omega) (by omega)
    by_cases c : bt w (i : Int) = 45
    · obtain ⟨h1, h2⟩ := v.nx i (by omega) c
      have hb := upC_b _ h2
      have h2' : isLt (bt w ((i + 1 : Nat) : Int)) = true := h2
      have hu := up_b _ h2'
      have hw32 : wrap32 (upC (bt w ((i + 1 : Nat) : Int))) = upC (bt w ((i + 1 : Nat) : Int)) := by
        have hb' : 0 ≤ upC (bt w ((i + 1 : Nat) : Int)) ∧ upC (bt w ((i + 1 : Nat) : Int)) < 128 := hb
        unfold wrap32
        omega
      have he : Utf8.encode (upC (bt w ((i + 1 : Nat) : Int))) = sg (upC (bt w ((i + 1 : Nat) : Int))) := enc_sg _ hb.1 hb.2
      have e : stp w i acc = acc ++ ((dsh ++ sg (upC (bt w ((i + 1 : Nat) : Int)))) ++ dot) := by
        unfold stp
        rw [if_pos c]
        exact ba_ext _ _ (by simp only [app_data, List.append_assoc]; rfl)
      rw [e] at ih
      refine Ev.step (fun k => ?_) ih
      simp only [impl_initialsOf.l1, hn, hu, Option.bind_some, hw32, he]
      rw [if_pos (by omega), if_pos (by omega), if_pos c, if_pos (by omega), if_pos (by omega), if_pos (by rw [sg_size]; omega), if_pos (by rw [ByteArray.size_append, sg_size, dsh_z]; omega), if_pos (by simp only [ByteArray.size_append, sg_size, dsh_z, dot_z]; omega)]
    · rw [show stp w i acc = acc from if_neg c] at ih
      refine Ev.step (fun k => ?_) ih
      simp only [impl_initialsOf.l1, hn]
      rw [if_pos (by omega), if_pos (by omega), if_neg c]
theorem ini_ls (w : ByteArray) (v : WdV w) (xs ws : List ByteArray) (a1 a2 a3 : ByteArray) (i0 : Int) (hx : xs.length ≤ 1048576) (R : ByteArray) : ∀ (d i : Nat) (acc : ByteArray), i + 1 + d = w.size → acc.size ≤ 2 + 3 * i → Ev (fun k => spec_l2Initials.l0 k (xs ++ [iniV w i d acc]) (wrap64 (i0 + 1)) ws a1 a2 a3) R → Ev (fun k => spec_l2Initials.l1 k xs i0 w acc ((i + 1 : Nat) : Int) ws a1 a2 a3) R
  | 0, i, acc, hi, ha, h => by
    refine Ev.step (fun k => ?_) h
    simp only [spec_l2Initials.l1]
    rw [if_neg (by omega), if_pos (by omega)]
    rfl
  | d + 1, i, acc, hi, ha, h => by
    have hw := v.n12
    have hz := stp_size w i acc
    have ih := ini_ls w v xs ws a1 a2 a3 i0 hx R d (i + 1) (stp w i acc) (by omega) (by omega) h
    have hn : wrap64 (((i + 1 : Nat) : Int) + 1) = ((i + 1 + 1 : Nat) : Int) := next_i (i + 1) w.size (by omega) (by omega)
    have hp : wrap64 (((i + 1 : Nat) : Int) - 1) = (i : Int) := by rw [wrap_small (by omega) (by omega)]; omega
    by_cases c : bt w (i : Int) = 45
    · obtain ⟨h1, h2⟩ := v.nx i (by omega) c
      have h2' : isLt (bt w ((i + 1 : Nat) : Int)) = true := h2
      have z1 : (acc ++ dsh).size = acc.size + 1 := by rw [ByteArray.size_append, dsh_z]
      have go : ∀ x : Int, x = upC (bt w ((i + 1 : Nat) : Int)) → ∀ k, (if acc.size + 1 ≤ 9223372036854775807 then ((some ([x] : List Int)).bind fun y => if (acc ++ dsh).size + (strOfNums y).size ≤ 9223372036854775807 then (if ((acc ++ dsh) ++ strOfNums y).size + 1 ≤ 9223372036854775807 then spec_l2Initials.l1 k xs i0 w (((acc ++ dsh) ++ strOfNums y) ++ dot) ((i + 1 + 1 : Nat) : Int) ws a1 a2 a3 else none) else none) else none) = spec_l2Initials.l1 k xs i0 w (stp w i acc) ((i + 1 + 1 : Nat) : Int) ws a1 a2 a3 := fun x hx k => by
        have zs : (strOfNums [x]).size = 1 := rfl
        have z2 : ((acc ++ dsh) ++ strOfNums [x]).size = acc.size + 1 + 1 := by rw [ByteArray.size_append, z1, zs]
        rw [if_pos (by omega), Option.bind_some, if_pos (by omega), if_pos (by omega), hx]
        congr 1
        exact (if_pos c).symm
      refine Ev.step (fun k => ?_) ih
      simp only [spec_l2Initials.l1, hn, hp, lw_s]
      rw [if_pos (by omega), if_pos (by omega), if_pos (by omega), if_pos c, if_pos (by omega), Option.bind_some]
      have hb := isLt_b _ h2'
      by_cases dd : isLw (bt w ((i + 1 : Nat) : Int)) = true
      · have := isLw_b _ dd
        rw [if_pos dd]
        exact go _ (by unfold upC; rw [if_pos dd]; omega) k
      · rw [if_neg dd]
        exact go _ (by unfold upC; rw [if_neg dd]) k
    · rw [show stp w i acc = acc from if_neg c] at ih
      refine Ev.step (fun k => ?_) ih
      simp only [spec_l2Initials.l1, hn, hp]
      rw [if_pos (by omega), if_pos (by omega), if_pos (by omega), if_neg c]
theorem all_i (ws : List ByteArray) (hl : ws.length ≤ 1000) (hv : ∀ w ∈ ws, WdV w) : ∀ (d i : Nat), i + d = ws.length → Ev (fun k => impl_initialsOf.l0 k ((ws.take i).map INI) ws (ws.length : Int) (i : Int)) (JV (ws.map INI))
  | 0, i, hi => by
    rw [List.take_of_length_le (by omega)]
    have hm : ∀ p ∈ ws.map INI, 1 ≤ p.size ∧ p.size ≤ 35 := fun p hp => by
      obtain ⟨w, hw, rfl⟩ := List.mem_map.1 hp
      exact INI_b w (hv w hw)
    refine Ev.step (f := fun _ => some (JV (ws.map INI))) (fun k => ?_) (Ev.now _)
    simp only [impl_initialsOf.l0]
    rw [if_neg (by omega), join_i _ (by rw [List.length_map]; omega) (fun p hp => by have := (hm p hp).2; omega) (fun p hp => (hm p hp).1)]
    rfl
  | d + 1, i, hi => by
    have hlt : i < ws.length := by omega
    have v := hv _ (List.getElem_mem hlt)
    have ih := all_i ws hl hv d (i + 1) (by omega)
    have hz := ini0_size ws[i] v.n1
    have h1 := v.n1
    rw [List.map_take, take_map_succ INI ws i hlt, ← INI_1 ws[i] v] at ih
    rw [List.map_take]
    have := ini_li ws[i] v ((ws.map INI).take i) ws (ws.length : Int) (i : Int) (by rw [List.length_take, List.length_map]; omega) _ (ws[i].size - 1) 1 (ini0 ws[i]) (by omega) (by omega) (by rw [next_i i ws.length hlt (by omega)]; exact ih)
    refine Ev.step (fun k => ?_) this
    simp only [impl_initialsOf.l0, word_in ws i hlt]
    rw [if_pos (by omega), if_pos (by omega), if_pos (by omega), if_pos (by omega), if_pos (by omega), if_pos (by rw [ByteArray.size_extract]; omega)]
    rfl
theorem all_s (ws : List ByteArray) (a1 a2 a3 : ByteArray) (hl : ws.length ≤ 1000) (hv : ∀ w ∈ ws, WdV w) : ∀ (d i : Nat), i + d = ws.length → Ev (fun k => spec_l2Initials.l0 k ((ws.take i).map INI) (i : Int) ws a1 a2 a3) (JV (ws.map INI))
  | 0, i, hi => by
    rw [List.take_of_length_le (by omega)]
    refine Ev.step (f := fun k => (spec_l2Join.f k (ws.map INI)).bind fun t => some t) (fun k => ?_) (Ev.bind (join_s _ (by rw [List.length_map]; omega) (fun p hp => by
      obtain ⟨w, hw, rfl⟩ := List.mem_map.1 hp
      have := (INI_b w (hv w hw)).2
      omega)) (Ev.now _))
    simp only [spec_l2Initials.l0]
    rw [if_neg (by omega)]
  | d + 1, i, hi => by
    have hlt : i < ws.length := by omega
    have v := hv _ (List.getElem_mem hlt)
    have ih := all_s ws a1 a2 a3 hl hv d (i + 1) (by omega)
    have hz := ini0_size ws[i] v.n1
    have h1 := v.n1
    rw [List.map_take, take_map_succ INI ws i hlt] at ih
    rw [List.map_take]
    have := ini_ls ws[i] v ((ws.map INI).take i) ws a1 a2 a3 (i : Int) (by rw [List.length_take, List.length_map]; omega) _ (ws[i].size - 1) 0 (ini0 ws[i]) (by omega) (by omega) (by rw [next_i i ws.length hlt (by omega)]; exact ih)
    refine Ev.step (fun k => ?_) this
    simp only [spec_l2Initials.l0, word_in ws i hlt]
    rw [if_pos (by omega), if_pos (by omega), if_pos (by omega), if_pos (by omega), if_pos (by rw [ByteArray.size_extract]; omega)]
    rfl
def shV (n : Nm) : ByteArray := JV [JV (n.f0.map INI), n.f1, n.f2]
structure ShV (n : Nm) : Prop where
  l : n.f0.length ≤ 3
  w : ∀ w ∈ n.f0, WdV w
  p : n.f1.size ≤ 1048576
  f : n.f2.size ≤ 12
theorem sh_v (n : Nm) (o : NmOk n) (h : nameB n = true) : ShV n := by
  have v := nm_v n o h
  unfold nameB at h
  simp only [Bool.and_eq_true, decide_eq_true_eq] at h
  exact ⟨v.gl, fun w hw => wd_v w (List.all_eq_true.1 h.1.1 w hw), v.p1, v.f.2⟩
theorem sh_mem (n : Nm) (v : ShV n) : ∀ p ∈ [JV (n.f0.map INI), n.f1, n.f2], p.size ≤ 1048576 := fun p hp => by
  have h0 := JV_le 35 (n.f0.map INI) (fun q hq => by
    obtain ⟨w, hw, rfl⟩ := List.mem_map.1 hq
    exact (INI_b w (v.w w hw)).2)
  rw [List.length_map] at h0
  have := Nat.mul_le_mul_left 36 v.l
  have h1 := v.p
  have h2 := v.f
  simp only [List.mem_cons, List.not_mem_nil, or_false] at hp
  rcases hp with rfl | rfl | rfl <;> omega
theorem sh_le (n : Nm) (v : ShV n) : (shV n).size ≤ 3145731 := JV_le 1048576 _ (sh_mem n v)
theorem short_s (n : Nm) (v : ShV n) : Ev (fun k => spec_l2Short.f k n.f0 n.f1 n.f2 n.f3) (shV n) := by
  have h := all_s n.f0 n.f1 n.f2 n.f3 (by have := v.l; omega) v.w n.f0.length 0 (by omega)
  unfold spec_l2Short.f
  exact Ev.bind h (Ev.bind (join_s _ (by simp) (fun p hp => Nat.le_trans (sh_mem n v p hp) (by omega))) (Ev.now _))
theorem short_i (n : Nm) (v : ShV n) : Ev (fun k => impl_shortForm.f k n.f0 n.f1 n.f2 n.f3) (shV n) := by
  have h := all_i n.f0 (by have := v.l; omega) v.w n.f0.length 0 (by omega)
  unfold impl_shortForm.f
  refine Ev.bind h ?_
  rw [spaced_i _ (by simp) (by simp) (fun p hp => Nat.le_trans (sh_mem n v p hp) (by omega))]
  exact Ev.now _

end Go.Proofs.YthcccgnhokncdaaGreatDoor.Pure
