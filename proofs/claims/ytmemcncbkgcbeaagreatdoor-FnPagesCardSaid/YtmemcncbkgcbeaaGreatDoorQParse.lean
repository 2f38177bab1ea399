/- Lemmas on the printed functions, without Go and memory. -/
import Derived.Lib.Atoi
import Derived.Lib.IndexMore
import Derived.Lib.IndexBytes
import Derived.Lib.IndexLaws
import Derived.Test.YtmemcncbkgcbeaaGreatDoorPx3
import Derived.Test.YtmemcncbkgcbeaaGreatDoorPx4
import Derived.Test.YtmemcncbkgcbeaaGreatDoorPx5
import Derived.Test.YtmemcncbkgcbeaaGreatDoorQList
namespace Go.Proofs.YtmemcncbkgcbeaaGreatDoor.Pure
open Go.RowKit Go.Proofs.YtmemcncbkgcbeaaGreatDoor.Px Go.Proofs.YtmemcncbkgcbeaaGreatDoorW.PrintWords Go.Proofs.YtmemcncbkgcbeaaGreatDoorW.PrintLast
set_option linter.unusedVariables false
set_option linter.unusedSimpArgs false

def Dig (b : UInt8) : Prop := 48 ≤ b.toNat ∧ b.toNat ≤ 57
theorem dec_dig (u : Nat) : ∀ b ∈ Lib.decDigits u, Dig b := by
  induction u using Nat.strongRecOn with
  | _ u ih =>
    rw [Lib.decDigits.eq_def]
    by_cases h : u < 10
    · rw [dif_pos h]
      intro b hb
      rw [List.mem_singleton] at hb
      subst hb
      unfold Dig
      rw [UInt8.toNat_ofNat']
      omega
    · rw [dif_neg h]
      intro b hb
      rcases List.mem_append.1 hb with hb | hb
      · exact ih (u / 10) (by omega) b hb
      · rw [List.mem_singleton] at hb
        subst hb
        unfold Dig
        rw [UInt8.toNat_ofNat']
        omega
theorem num_dig (n : Int) (h : 0 ≤ n) : ∀ b ∈ (numT n).data.toList, Dig b := by
  rw [numT_list, show n = ((n.toNat : Nat) : Int) from by omega, Lib.itoa_nonneg]
  exact dec_dig _
theorem val_num (n : Int) (h : 0 ≤ n) : (valD (numT n).data.toList : Int) = n := by
  rw [numT_list, show Lib.itoa n = Lib.decDigits n.toNat from by rw [← Lib.itoa_nonneg]; congr 1; omega, valD_dec]
  omega
theorem decFrom_all : ∀ (l : List UInt8) (acc : Nat), (∀ b ∈ l, Dig b) → Lib.decFrom acc l = some (l.foldl (fun acc b => acc * 10 + (b.toNat - 48)) acc)
  | [], _, _ => rfl
  | b :: l, acc, h => by
    unfold Lib.decFrom
    have hb := h b (by simp)
    have : Lib.digitVal b = some (b.toNat - 48) := by unfold Lib.digitVal; exact if_pos hb
    rw [this]
    exact decFrom_all l _ (fun c hc => h c (List.mem_cons_of_mem _ hc))
theorem val_lt (l : List UInt8) (h : ∀ b ∈ l, Dig b) : valD l < 10 ^ l.length := by
  have := Lib.decFrom_lt l 0 _ (decFrom_all l 0 h)
  simpa [valD] using this
theorem atoi_num (n : Int) (h : 0 ≤ n) : Lib.atoi (numT n).data.toList = some n := by
  have hd := num_dig n h
  have hv := val_num n h
  have hp : (numT n).data.toList ≠ [] := fun e => by
    have := numT_pos n
    rw [← data_length, e] at this
    simp at this
  cases hl : (numT n).data.toList with
  | nil => exact absurd hl hp
  | cons b r =>
    rw [hl] at hd hv
    have hb := hd b (by simp)
    unfold Dig at hb
    have n1 : (b == 45) = false := beq_eq_false_iff_ne.2 (fun e => by subst e; simp at hb)
    have n2 : (b == 43) = false := beq_eq_false_iff_ne.2 (fun e => by subst e; simp at hb)
    simp only [Lib.atoi, n1, n2, Bool.false_eq_true, if_false]
    unfold Lib.decNat
    rw [if_neg (by simp), decFrom_all _ _ hd]
    show some ((valD (b :: r) : Nat) : Int) = some n
    rw [hv]
theorem nd_le : ∀ (k u : Nat), u < 10 ^ (k + 1) → Lib.nDigits u ≤ k + 1
  | 0, u, h => by rw [Lib.nDigits_small (by simpa using h)]; omega
  | k + 1, u, h => by
    by_cases c : u < 10
    · rw [Lib.nDigits_small c]; omega
    · rw [Lib.nDigits_big c]
      have := nd_le k (u / 10) (by rw [Nat.pow_succ] at h; omega)
      omega
theorem num_le5 (n : Int) (h0 : 0 ≤ n) (h1 : n ≤ 99999) : (numT n).size ≤ 5 := by
  rw [numT_size, show Lib.itoa n = Lib.decDigits n.toNat from by rw [← Lib.itoa_nonneg]; congr 1; omega, Lib.decDigits_length]
  exact nd_le 4 _ (by omega)
theorem num_of5 (n : Int) (h0 : 0 ≤ n) (hs : (numT n).size ≤ 5) : n ≤ 99999 := by
  have h := val_lt _ (num_dig n h0)
  have v := val_num n h0
  rw [data_length] at h
  have : 10 ^ (numT n).size ≤ 10 ^ 5 := Nat.pow_le_pow_right (by omega) hs
  omega
theorem parse_int (t : ByteArray) : ∃ R : Int × Bool, impl_ParseInt.f t = some R ∧ (R.2 = true → t = numT R.1) ∧ (R.2 = false → ∀ n, 0 ≤ n → n ≤ 99999 → t ≠ numT n) := by
  unfold impl_ParseInt.f
  by_cases c : t.size > 7
  · rw [if_pos c]
    refine ⟨_, rfl, fun h => (by cases h), fun _ n h0 h1 e => ?_⟩
    have := num_le5 n h0 h1
    rw [← e] at this
    omega
  rw [if_neg c]
  cases ha : Lib.atoi t.data.toList with
  | none =>
    refine ⟨_, rfl, fun h => (by cases h), fun _ n h0 h1 e => ?_⟩
    rw [e, atoi_num n h0] at ha
    cases ha
  | some m =>
    have key : ∀ n, 0 ≤ n → t = numT n → m = n := fun n h0 e => by
      rw [e, atoi_num n h0] at ha
      exact (Option.some.inj ha).symm
    show ∃ R : Int × Bool, (if -999999 ≤ m ∧ m ≤ 999999 then (if Lib.itoa m = t.data.toList then some (m, true) else some (0, false)) else some (0, false)) = some R ∧ _
    by_cases c1 : -999999 ≤ m ∧ m ≤ 999999
    · rw [if_pos c1]
      by_cases c2 : Lib.itoa m = t.data.toList
      · rw [if_pos c2]
        exact ⟨_, rfl, fun _ => ext_list _ _ (by rw [numT_list]; exact c2.symm), fun h => by cases h⟩
      · rw [if_neg c2]
        refine ⟨_, rfl, fun h => (by cases h), fun _ n h0 h1 e => c2 ?_⟩
        rw [key n h0 e, e, numT_list]
    · rw [if_neg c1]
      refine ⟨_, rfl, fun h => (by cases h), fun _ n h0 h1 e => c1 ?_⟩
      have := key n h0 e
      omega
theorem neg_ev (u : Nat) (hu : u ≤ 1000000) : Ev (fun k => spec_l1Num.f k (-(u : Int))) (numT (-(u : Int))) := by
  by_cases h : u = 0
  · subst h
    exact num_ev 0 (by omega)
  · have hs := numT_le (u : Int) (by omega) (by omega)
    refine Ev.step (f := fun k => (spec_l1Num.f k (u : Int)).bind fun t => if 1 + t.size ≤ 9223372036854775807 then some ((⟨#[45]⟩ : ByteArray) ++ t) else none) (fun k => ?_) (Ev.bind (num_ev u hu) (Ev.congr (fun _ => if_pos (by omega)) ?_))
    · simp only [spec_l1Num.f]
      rw [if_pos (by omega), wrap_small (by omega) (by omega), Int.neg_neg]
    · have : (⟨#[45]⟩ : ByteArray) ++ numT (u : Int) = numT (-(u : Int)) := by
        apply ext_list
        rw [app_list, numT_list, numT_list, Lib.itoa_nonneg, Lib.itoa_neg u (by omega)]
        rfl
      rw [this]
      exact Ev.now _
theorem read_loop (t x : ByteArray) (hx : x.size ≤ 6) (hneg : x.size < t.size → ∀ n, 0 ≤ n → t ≠ numT n) (heq : ¬ x.size < t.size → x = t) :
    ∀ (d i : Nat), i + d = x.size → (∀ b ∈ x.data.toList.take i, Dig b) →
      ∃ R : Int × Bool, Ev (fun k => spec_l1Read.l0 k t x (valD (x.data.toList.take i) : Int) (i : Int)) R ∧ (R.2 = true → t = numT R.1) ∧ (R.2 = false → ∀ n, 0 ≤ n → n ≤ 99999 → t ≠ numT n)
  | 0, i, hi, hd => by
    have hb : valD (x.data.toList.take i) < 1000000 := by
      have := val_lt _ hd
      rw [List.length_take, data_length] at this
      have h2 : 10 ^ min i x.size ≤ 10 ^ 6 := Nat.pow_le_pow_right (by omega) (by omega)
      omega
    by_cases c : (x.size : Int) < (t.size : Int)
    · by_cases e : (numT (-(valD (x.data.toList.take i) : Int))).toList = t.toList
      · refine ⟨(-(valD (x.data.toList.take i) : Int), true), ?_, fun _ => (str_inj _ _ e).symm, fun h => by cases h⟩
        refine Ev.step (fun k => ?_) (Ev.bind (neg_ev (valD (x.data.toList.take i)) (by omega)) (f := fun _ t204 => if t204.toList = t.toList then some (-(valD (x.data.toList.take i) : Int), true) else some (0, false)) (Ev.congr (fun _ => if_pos e) (Ev.now _)))
        simp only [spec_l1Read.l0]
        rw [if_neg (by omega), if_pos c, wrap_small (by omega) (by omega)]
      · refine ⟨(0, false), ?_, fun h => (by cases h), fun _ n h0 _ => hneg (by omega) n h0⟩
        refine Ev.step (fun k => ?_) (Ev.bind (neg_ev (valD (x.data.toList.take i)) (by omega)) (f := fun _ t204 => if t204.toList = t.toList then some (-(valD (x.data.toList.take i) : Int), true) else some (0, false)) (Ev.congr (fun _ => if_neg e) (Ev.now _)))
        simp only [spec_l1Read.l0]
        rw [if_neg (by omega), if_pos c, wrap_small (by omega) (by omega)]
    · have hxt := heq (by omega)
      by_cases e : (numT (valD (x.data.toList.take i) : Int)).toList = t.toList
      · refine ⟨((valD (x.data.toList.take i) : Int), true), ?_, fun _ => (str_inj _ _ e).symm, fun h => by cases h⟩
        refine Ev.step (fun k => ?_) (Ev.bind (num_ev (valD (x.data.toList.take i)) (by omega)) (f := fun _ t204 => if t204.toList = t.toList then some ((valD (x.data.toList.take i) : Int), true) else some (0, false)) (Ev.congr (fun _ => if_pos e) (Ev.now _)))
        simp only [spec_l1Read.l0]
        rw [if_neg (by omega), if_neg c]
      · refine ⟨(0, false), ?_, fun h => (by cases h), fun _ n h0 _ he => e ?_⟩
        · refine Ev.step (fun k => ?_) (Ev.bind (num_ev (valD (x.data.toList.take i)) (by omega)) (f := fun _ t204 => if t204.toList = t.toList then some ((valD (x.data.toList.take i) : Int), true) else some (0, false)) (Ev.congr (fun _ => if_neg e) (Ev.now _)))
          simp only [spec_l1Read.l0]
          rw [if_neg (by omega), if_neg c]
        · rw [List.take_of_length_le (by rw [data_length]; omega), hxt, he, val_num n h0]
  | d + 1, i, hi, hd => by
    have hlt : i < x.data.toList.length := by rw [data_length]; omega
    have hbt := bt_nat x i (by omega)
    have hb : valD (x.data.toList.take i) < 100000 := by
      have := val_lt _ hd
      rw [List.length_take, data_length] at this
      have h2 : 10 ^ min i x.size ≤ 10 ^ 5 := Nat.pow_le_pow_right (by omega) (by omega)
      omega
    by_cases c : Dig (x.data.toList[i])
    · have c' := c
      unfold Dig at c'
      have hv : valD (x.data.toList.take (i + 1)) = valD (x.data.toList.take i) * 10 + ((x.data.toList[i]).toNat - 48) := by
        rw [List.take_succ_eq_append_getElem hlt]
        simp [valD, List.foldl_append]
      obtain ⟨R, e, h1, h2⟩ := read_loop t x hx hneg heq d (i + 1) (by omega) (by
        rw [List.take_succ_eq_append_getElem hlt]
        intro b hb
        rcases List.mem_append.1 hb with hb | hb
        · exact hd b hb
        · rw [List.mem_singleton] at hb
          subst hb
          exact c)
      refine ⟨R, Ev.step (fun k => ?_) e, h1, h2⟩
      simp only [spec_l1Read.l0]
      rw [if_pos (by omega), if_pos (by omega), if_neg (by omega), if_neg (by omega), hbt, wrap_small (x := 10 * (valD (x.data.toList.take i) : Int)) (by omega) (by omega), wrap_small (x := (i : Int) + 1) (by omega) (by omega), wrap_small (by omega) (by omega), hv]
      congr 1
      omega
    · refine ⟨(0, false), ?_, fun h => (by cases h), fun _ n h0 _ he => ?_⟩
      · refine Ev.step (f := fun _ => some (0, false)) (fun k => ?_) (Ev.now _)
        simp only [spec_l1Read.l0]
        rw [if_pos (by omega), if_pos (by omega)]
        by_cases c1 : bt x (i : Int) < 48
        · rw [if_pos c1]
        · rw [if_neg c1, if_pos (by unfold Dig at c; omega)]
      · by_cases c1 : x.size < t.size
        · exact hneg c1 n h0 he
        · have hxt := heq c1
          subst hxt
          apply c
          have := num_dig n h0
          rw [← he] at this
          exact this _ (List.getElem_mem hlt)
theorem first_dig (n : Int) (h : 0 ≤ n) : Dig ((numT n).data.toList[0]'(by rw [data_length]; exact numT_pos n)) := num_dig n h _ (List.getElem_mem _)
theorem spec_read (t : ByteArray) (hs : t.size ≤ 5) : ∃ R : Int × Bool, Ev (fun k => spec_l1Read.f k t) R ∧ (R.2 = true → t = numT R.1) ∧ (R.2 = false → ∀ n, 0 ≤ n → n ≤ 99999 → t ≠ numT n) := by
  have main : ∀ x : ByteArray, x.size ≤ 6 → (x.size < t.size → ∀ n, 0 ≤ n → t ≠ numT n) → (¬ x.size < t.size → x = t) → (x.size = 0 → t.size ≤ 1 ∧ (t.size = 1 → False)) → ∃ R : Int × Bool, Ev (fun k => spec_l1Read.j1 k t x) R ∧ (R.2 = true → t = numT R.1) ∧ (R.2 = false → ∀ n, 0 ≤ n → n ≤ 99999 → t ≠ numT n) := fun x hx hneg heq h0 => by
    by_cases c : x.size = 0
    · refine ⟨(0, false), ?_, fun h => (by cases h), fun _ n hn _ he => ?_⟩
      · refine Ev.step (f := fun _ => some (0, false)) (fun k => ?_) (Ev.now _)
        simp only [spec_l1Read.j1, spec_l1In.f]
        rw [if_neg (by omega)]
        rfl
      · have := numT_pos n
        rw [← he] at this
        obtain ⟨a, b⟩ := h0 c
        exact b (by omega)
    · obtain ⟨R, e, r⟩ := read_loop t x hx hneg heq x.size 0 (by omega) (by simp)
      refine ⟨R, Ev.step (fun k => ?_) e, r⟩
      simp only [spec_l1Read.j1, spec_l1In.f]
      rw [if_pos (by omega), Option.bind_some, decide_eq_true (by omega : (x.size : Int) ≤ 6), if_pos rfl]
      rfl
  have same : ∃ R : Int × Bool, Ev (fun k => spec_l1Read.j0 k t t false) R ∧ (R.2 = true → t = numT R.1) ∧ (R.2 = false → ∀ n, 0 ≤ n → n ≤ 99999 → t ≠ numT n) := by
    obtain ⟨R, e, r⟩ := main t (by omega) (fun h => by omega) (fun _ => rfl) (fun h => by omega)
    refine ⟨R, Ev.step (fun k => ?_) e, r⟩
    simp only [spec_l1Read.j0, Bool.false_eq_true, if_false]
  unfold spec_l1Read.f
  by_cases c : (t.size : Int) > 1
  · simp only [if_pos c, if_pos (by omega : 0 < (t.size : Int))]
    by_cases m : bt t 0 = 45
    · have hz : (t.extract 1 t.size).size = t.size - 1 := by rw [ByteArray.size_extract]; omega
      obtain ⟨R, e, r⟩ := main (t.extract 1 t.size) (by omega) (fun _ n h0 he => by
        have hd := first_dig n h0
        have hb := bt_nat t 0 (by omega)
        subst he
        rw [show bt (numT n) ((0 : Nat) : Int) = 45 from m] at hb
        unfold Dig at hd
        omega) (fun h => by omega) (fun h => by omega)
      refine ⟨R, ?_, r⟩
      rw [m]
      refine Ev.step (fun k => ?_) e
      simp only [spec_l1Read.j0]
      rw [if_pos (by decide), if_pos (by omega)]
    · rw [show (bt t 0 == 45) = false from beq_eq_false_iff_ne.2 m]
      exact same
  · simp only [if_neg c]
    exact same
def isL (t : ByteArray) : Prop := 0 < t.size ∧ 65 ≤ bt t 0 ∧ bt t 0 ≤ 90
instance (t : ByteArray) : Decidable (isL t) := by unfold isL; exact inferInstance
def lt (t : ByteArray) : ByteArray := if isL t then t.extract 0 1 else ⟨#[]⟩
def rs (t : ByteArray) : ByteArray := if isL t then t.extract 1 t.size else t
theorem spec_page (t : ByteArray) : ∃ R : ByteArray × Int × Bool, Ev (fun k => spec_l7Page.f k t) R ∧ (R.2.2 = true → R.1 = lt t ∧ 1 ≤ R.2.1 ∧ R.2.1 ≤ 99999 ∧ rs t = numT R.2.1) ∧ (R.2.2 = false → ∀ n, 1 ≤ n → n ≤ 99999 → rs t ≠ numT n) := by
  have fin : ∀ (x : ByteArray) (L : ByteArray) (b : Bool) (g : Nat → Option (ByteArray × Int × Bool)), x = rs t → L = lt t →
      (∀ k, g k = if (x.size : Int) > 5 then (some ((⟨#[]⟩ : ByteArray), 0, false)) else ((spec_l1Read.f k x).bind fun bt206 => (if bt206.2 = true then (some (L, bt206.1, decide (bt206.1 > 0))) else (some (L, bt206.1, false))))) →
      ∃ R : ByteArray × Int × Bool, Ev g R ∧ (R.2.2 = true → R.1 = lt t ∧ 1 ≤ R.2.1 ∧ R.2.1 ≤ 99999 ∧ rs t = numT R.2.1) ∧ (R.2.2 = false → ∀ n, 1 ≤ n → n ≤ 99999 → rs t ≠ numT n) := fun x L b g hx hL hg => by
    by_cases c : (x.size : Int) > 5
    · refine ⟨(⟨#[]⟩, 0, false), Ev.congr hg (Ev.congr (fun _ => if_pos c) (Ev.now _)), fun h => (by cases h), fun _ n h0 h1 he => ?_⟩
      have := num_le5 n (by omega) h1
      rw [← he, ← hx] at this
      omega
    · obtain ⟨R, e, r1, r2⟩ := spec_read x (by omega)
      cases hR : R.2 with
      | false =>
        refine ⟨(L, R.1, false), Ev.congr hg (Ev.congr (fun _ => if_neg c) (Ev.bind e (Ev.congr (fun _ => if_neg (by rw [hR]; decide)) (Ev.now _)))), fun h => (by cases h), fun _ n h0 h1 => ?_⟩
        rw [← hx]
        exact r2 hR n (by omega) h1
      | true =>
        have r := r1 hR
        refine ⟨(L, R.1, decide (R.1 > 0)), Ev.congr hg (Ev.congr (fun _ => if_neg c) (Ev.bind e (Ev.congr (fun _ => if_pos hR) (Ev.now _)))), fun h => ?_, fun h n h0 h1 he => ?_⟩
        · have h := of_decide_eq_true h
          refine ⟨hL, by show 1 ≤ R.1; omega, ?_, by rw [← hx]; exact r⟩
          refine num_of5 R.1 (by omega) ?_
          rw [← r]
          omega
        · have h := of_decide_eq_false h
          rw [← hx, r] at he
          by_cases z : 0 ≤ R.1
          · have := numT_inj R.1 n z (by omega) he
            omega
          · have hd := first_dig n (by omega)
            have hl : (numT n).data.toList = Lib.itoa R.1 := by rw [← he, numT_list]
            have hm : (numT n).data.toList[0]'(by rw [data_length]; exact numT_pos n) = 45 := by
              have : (numT n).data.toList = 45 :: Lib.decDigits R.1.natAbs := by rw [hl]; unfold Lib.itoa; rw [if_pos (by omega)]
              simp only [this, List.getElem_cons_zero]
            rw [hm] at hd
            unfold Dig at hd
            exact absurd hd.1 (by decide)
  by_cases h : isL t
  · obtain ⟨h0, h1, h2⟩ := h
    have h : isL t := ⟨h0, h1, h2⟩
    obtain ⟨R, e, r⟩ := fin (t.extract 1 t.size) (t.extract 0 1) true (fun k => if ((t.extract 1 t.size).size : Int) > 5 then (some ((⟨#[]⟩ : ByteArray), 0, false)) else ((spec_l1Read.f k (t.extract 1 t.size)).bind fun bt206 => (if bt206.2 = true then (some (t.extract 0 1, bt206.1, decide (bt206.1 > 0))) else (some (t.extract 0 1, bt206.1, false))))) (by unfold rs; rw [if_pos h]) (by unfold lt; rw [if_pos h]) (fun _ => rfl)
    refine ⟨R, ?_, r⟩
    unfold spec_l7Page.f
    simp only [if_neg (fun e => (Nat.ne_of_gt h0) ((toList_nil t).1 e)), if_pos (by omega : 0 < (t.size : Int)), if_pos (show bt t 0 ≥ 65 from h1)]
    rw [decide_eq_true h2]
    refine Ev.step (fun k => ?_) e
    simp only [spec_l7Page.j0]
    rw [if_pos trivial, if_pos (by omega), if_pos (by omega)]
  · obtain ⟨R, e, r⟩ := fin t (⟨#[]⟩) false (fun k => if (t.size : Int) > 5 then (some ((⟨#[]⟩ : ByteArray), 0, false)) else ((spec_l1Read.f k t).bind fun bt208 => (if bt208.2 = true then (some ((⟨#[]⟩ : ByteArray), bt208.1, decide (bt208.1 > 0))) else (some ((⟨#[]⟩ : ByteArray), bt208.1, false))))) (by unfold rs; rw [if_neg h]) (by unfold lt; rw [if_neg h]) (fun _ => rfl)
    refine ⟨R, ?_, r⟩
    have e0 : Ev (fun k => spec_l7Page.j0 k t (⟨#[]⟩ : ByteArray) false) R := by
      refine Ev.step (fun k => ?_) e
      simp only [spec_l7Page.j0]
      rw [if_neg (by decide)]
    unfold spec_l7Page.f
    by_cases z : t.size = 0
    · simp only [if_pos ((toList_nil t).2 z)]
      exact e0
    · simp only [if_neg (fun e => z ((toList_nil t).1 e)), if_pos (by omega : 0 < (t.size : Int))]
      by_cases c1 : bt t 0 ≥ 65
      · simp only [if_pos c1]
        rw [decide_eq_false (fun c2 => h ⟨by omega, c1, c2⟩)]
        exact e0
      · simp only [if_neg c1]
        exact e0

end Go.Proofs.YtmemcncbkgcbeaaGreatDoor.Pure
