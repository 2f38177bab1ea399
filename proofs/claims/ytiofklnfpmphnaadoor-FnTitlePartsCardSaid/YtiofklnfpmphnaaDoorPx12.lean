/- That calls of Go functions come to what the Lean functions beside them say; written by a program of this session (wip/xprint) over the printed words; no conditions. -/
import Derived.Test.YtiofklnfpmphnaaDoorPx0
namespace Go.Proofs.YtiofklnfpmphnaaDoor.Px
open Go.RowKit Go.Proofs.YtiofklnfpmphnaaDoorW.PrintWords Go.Proofs.YtiofklnfpmphnaaDoorW.PrintLast Go.Proofs.YtiofklnfpmphnaaDoorW.PrintMore
attribute [local go_sem] max2_int min2_int max_two min_two max_three min_three max_four min_four   -- for this text's walks alone
set_option linter.unusedVariables false
set_option linter.unusedSimpArgs false

/-! ### strings_ContainsAny: function 33 -/
theorem strings_ContainsAny.b_drew {B : Nat} {a w : World} (h : Below B a w) : Below B a w.drew := h.trans ⟨rfl, rfl, rfl, Nat.le_refl _, fun _ _ => rfl⟩
/-- The text of a space and the braces. -/
abbrev strings_ContainsAny.spb : ByteArray := ⟨#[32, 123, 125]⟩
theorem strings_ContainsAny.enc_size (r : Int) (h : 128 ≤ r) : 2 ≤ (Utf8.encode r).size ∧ (Utf8.encode r).size ≤ 4 := by
  unfold Utf8.encode Utf8.runeError
  simp only
  have : ¬ (if Utf8.valid r = true then r.toNat else 65533) < 128 := by split <;> omega
  rw [if_neg this]
  repeat' split
  all_goals simp [ByteArray.size]
theorem strings_ContainsAny.enc_last (r : Int) (h : 128 ≤ r) : ∃ u : UInt8, (Utf8.encode r)[(Utf8.encode r).size - 1]? = some u ∧ 128 ≤ u.toNat := by
  unfold Utf8.encode Utf8.runeError
  simp only
  generalize hc : (if Utf8.valid r = true then r.toNat else 65533) = c
  have : ¬ c < 128 := by rw [← hc]; split <;> omega
  rw [if_neg this]
  have key : 128 ≤ (UInt8.ofNat (128 + c % 64)).toNat := by rw [UInt8.toNat_ofNat']; omega
  split
  · exact ⟨UInt8.ofNat (128 + c % 64), rfl, key⟩
  · split
    · exact ⟨UInt8.ofNat (128 + c % 64), rfl, key⟩
    · exact ⟨UInt8.ofNat (128 + c % 64), rfl, key⟩
theorem strings_ContainsAny.spb_small (i : Nat) (h : i < strings_ContainsAny.spb.size) : (strings_ContainsAny.spb[i]'h).toNat < 128 := by
  have h3 : i < 3 := h
  rcases (show i = 0 ∨ i = 1 ∨ i = 2 from by omega) with e | e | e
  · subst e; exact (by decide : (32 : UInt8).toNat < 128)
  · subst e; exact (by decide : (123 : UInt8).toNat < 128)
  · subst e; exact (by decide : (125 : UInt8).toNat < 128)
set_option maxHeartbeats 8000000 in
set_option maxRecDepth 1000000 in
theorem strings_ContainsAny.IndexRune_high {P : Program} {ρ : Go.Shelf.Ren} (L : Lays.n152 P ρ) (r : Int) (w : World) (h0 : 128 ≤ r) (h1 : r ≤ 1114111) :
    Calls P (ρ.f 152) #[.string strings_ContainsAny.spb, .int .i32 r] w fun e w' => e = .returned (.int .i64 (-1)) ∧ Below w.heap.size w w' := by
  have mixed := L.mixed
  have u4 := run_underlying L.t4; have u21 := run_underlying L.t21; have u9 := run_underlying L.t9; have u3 := run_underlying L.t3; have u5 := run_underlying L.t5
  have t3 := L.t3; have a3 := L.a3; have z3 := L.z3; have v3 := L.v3
  have t4 := L.t4; have a4 := L.a4; have z4 := L.z4; have v4 := L.v4
  have t5 := L.t5; have a5 := L.a5; have z5 := L.z5; have v5 := L.v5
  have t9 := L.t9; have a9 := L.a9; have z9 := L.z9; have v9 := L.v9
  have t21 := L.t21; have a21 := L.a21; have z21 := L.z21; have v21 := L.v21
  have e137 : ∀ args w, (callFunc (ρ.f 137) args).run P w = .ok (.enter (ρ.f 137) args) w := enters_of L.f137 (by kernel_rfl) rfl
  have e119 : ∀ args w, (callFunc (ρ.f 119) args).run P w = .ok (.enter (ρ.f 119) args) w := enters_of L.f119 (by kernel_rfl) rfl
  have c0 : decide (r < (128 : Int)) = false := decide_eq_false (by omega)
  have c1 : decide ((0 : Int) ≤ r) = true := decide_eq_true (by omega)
  have hE := strings_ContainsAny.enc_size r h0
  obtain ⟨u, hu1, hu2⟩ := strings_ContainsAny.enc_last r h0
  by_cases hr : r = 65533
  · subst hr
    go_enter L.f152, Body.n152_ntmps ρ
    go_wp2
    go_loopg [5, 6] 3 (fun g _ _ wx => ∃ i : Nat, i + g = 3 ∧ wx = w.iter strings_ContainsAny.spb i)
    case atStart => exact ⟨0, by omega, rfl⟩
    case round =>
      obtain ⟨i, hig, rfl⟩ := hrel
      cases gk with
      | zero =>
        obtain rfl : i = 3 := by omega
        have hnx : ∀ ty, (Instr.next (.pointer (some ⟨w.heap.size, 0, none⟩)) true ty).run P (w.iter strings_ContainsAny.spb 3) = .ok (.tuple #[.bool false]) (w.iter strings_ContainsAny.spb 3) := fun ty => run_next_end (P := P) w strings_ContainsAny.spb 3 ty (by decide)
        go_wp2
        go_ret
        exact ⟨rfl, (Below.refl _ _).alloc (Nat.le_refl _) _⟩
      | succ g =>
        have hi : i < strings_ContainsAny.spb.size := by show i < 3; omega
        obtain ⟨x, hx⟩ : ∃ x : UInt8, strings_ContainsAny.spb[i]'hi = x := ⟨_, rfl⟩
        have hx128 : x.toNat < 128 := by rw [← hx]; exact strings_ContainsAny.spb_small i hi
        have hnx := fun ty => run_next_ascii (P := P) w strings_ContainsAny.spb i ty hi (by rw [hx]; exact hx128)
        rw [hx] at hnx
        have hne : ((x.toNat : Int) == 65533) = false := beq_eq_false_iff_ne.2 (by omega)
        go_wp2
        go_roundg g
        case measure => omega
        case rel => exact ⟨i + 1, by omega, rfl⟩
  · have hrb : (r == (65533 : Int)) = false := beq_eq_false_iff_ne.2 hr
    by_cases hv : Lib.validRune r = true
    · go_enter L.f152, Body.n152_ntmps ρ
      go_wp2_with (go_at_fn (ρ.f 119); refine (Any.utf8_ValidRune { L with } _ _).mono ?_; rintro e w' ⟨rfl, hw⟩; rw [hw, hv]; clear hw)
      have i21 : (P.underlying (ρ.t 21)).isSome = true := by rw [t21]; rfl
      have hconv : ∀ W : World, (convert (ρ.t 21) (ρ.t 9) (.int .i32 r)).run P W = .ok (.string (Utf8.encode r)) W := fun W => run_convert_int_string W _ _ _ _ i21 t9
      generalize Utf8.encode r = E at *
      have hib1 : Lib.indexByte [125] u = -1 := by
        have hu : ((125 : UInt8) == u) = false := beq_eq_false_iff_ne.2 (fun e => by subst e; revert hu2; decide)
        simp only [Lib.indexByte, hu]
        rfl
      have hib0 : Lib.indexByte [] u = -1 := rfl
      have hub : (u.toNat : Int) < 256 := by have := u.toNat_lt; omega
      rcases (show E.size = 2 ∨ E.size = 3 ∨ E.size = 4 from by omega) with hz | hz | hz
      · have hi1 : ∀ h, E[1]'h = u := fun h => by rw [hz] at hu1; exact (getElem?_eq_some_iff.1 hu1).2
        have hne : (((strings_ContainsAny.spb[1]'(by decide)).toNat : Int) != (u.toNat : Int)) = true := by show ((123 : Int) != (u.toNat : Int)) = true; exact bne_iff_ne.2 (by omega)
        go_wp2
        go_step3
        go_wp2
        go_loopg [9, 10] 1 (fun g s9 _ wx => s9 = .int .i64 1 ∧ wx = w)
        case atStart => exact ⟨rfl, rfl⟩
        case round =>
          obtain ⟨rfl, rfl⟩ := hrel
          go_wp2
          go_step3
          go_wp2
          go_region_o
          go_wp2
          go_region_with_o (go_at_fn (ρ.f 137); refine (Any.strings_IndexByte { L with } _ _ _).mono ?_; rintro e w' ⟨rfl, hw⟩; rw [hw])
          all_goals (go_wp2; simp only [Exit.noGoto, Exit.then, Exit.inBlock]; go_ret; exact ⟨rfl, strings_ContainsAny.b_drew (strings_ContainsAny.b_drew (Below.refl _ _))⟩)
      · have hi1 : ∀ h, E[2]'h = u := fun h => by rw [hz] at hu1; exact (getElem?_eq_some_iff.1 hu1).2
        have hne : (((strings_ContainsAny.spb[2]'(by decide)).toNat : Int) != (u.toNat : Int)) = true := by show ((125 : Int) != (u.toNat : Int)) = true; exact bne_iff_ne.2 (by omega)
        go_wp2
        go_step3
        go_wp2
        go_loopg [9, 10] 1 (fun g s9 _ wx => s9 = .int .i64 2 ∧ wx = w)
        case atStart => exact ⟨rfl, rfl⟩
        case round =>
          obtain ⟨rfl, rfl⟩ := hrel
          go_wp2
          go_step3
          go_wp2
          go_region_o
          go_wp2
          go_region_with_o (go_at_fn (ρ.f 137); refine (Any.strings_IndexByte { L with } _ _ _).mono ?_; rintro e w' ⟨rfl, hw⟩; rw [hw])
          all_goals (go_wp2; simp only [Exit.noGoto, Exit.then, Exit.inBlock]; go_ret; exact ⟨rfl, strings_ContainsAny.b_drew (strings_ContainsAny.b_drew (Below.refl _ _))⟩)
      · go_wp2
        go_step3
        go_wp2
        go_loopg [9, 10] 1 (fun g s9 _ wx => s9 = .int .i64 3 ∧ wx = w)
        case atStart => exact ⟨rfl, rfl⟩
        case round =>
          obtain ⟨rfl, rfl⟩ := hrel
          go_wp2
          rw [Exit.noGoto_ret]
          go_ret
          exact ⟨rfl, Below.refl _ _⟩
    · have hv' : Lib.validRune r = false := by simpa using hv
      go_enter L.f152, Body.n152_ntmps ρ
      go_wp2_with (go_at_fn (ρ.f 119); refine (Any.utf8_ValidRune { L with } _ _).mono ?_; rintro e w' ⟨rfl, hw⟩; rw [hw, hv'])
      go_ret
      exact ⟨rfl, Below.refl _ _⟩
/-- A byte that a rune skips is none of the ASCII ones. -/
theorem strings_ContainsAny.dec_skip (s : ByteArray) (i : Nat) (h : i < s.size) (ha : 128 ≤ (s[i]'h).toNat) (j : Nat) (hj : j < (Utf8.decode s i).2) (hs : i + j < s.size) : 128 ≤ (s[i + j]'hs).toNat := by
  have hg : ∀ m (hm : m < s.size), s.get! m = s[m]'hm := fun m hm => by
    show s.data[m]! = s.data[m]'hm
    exact getElem!_pos s.data m hm
  by_cases j0 : j = 0
  · subst j0; exact ha
  have hk : ∀ m, i + m < s.size → (s.get! (i + m)).toNat / 64 = 2 → ∀ (q : i + m < s.size), 128 ≤ (s[i + m]'q).toNat := fun m hm e q => by rw [hg _ hm] at e; omega
  rw [Go.Lib.decode_at] at hj
  unfold Go.Lib.decodeN at hj
  rw [hg i h, if_neg (by omega)] at hj
  repeat' split at hj
  all_goals first
    | (exfalso; simp only at hj; omega)
    | (simp only at hj; rcases (show j = 1 ∨ j = 2 ∨ j = 3 from by omega) with rfl | rfl | rfl <;> first | (exfalso; omega) | exact hk _ (by omega) (by omega) hs)
theorem strings_ContainsAny.spb_no (x : UInt8) (h : 128 ≤ x.toNat) : strings_ContainsAny.spb.data.toList.contains x = false := by
  have key : ∀ v ∈ strings_ContainsAny.spb.data.toList, v.toNat < 128 := by decide
  rw [List.contains_eq_any_beq, List.any_eq_false]
  intro v hv e
  have := key v hv
  rw [beq_iff_eq] at e
  subst e
  omega
theorem strings_ContainsAny.noAny_skip (s : ByteArray) (i : Nat) (h : i < s.size) (ha : 128 ≤ (s[i]'h).toNat) (hn : Lib.NoAny s.data.toList strings_ContainsAny.spb.data.toList i) : ∀ d, d ≤ (Utf8.decode s i).2 → Lib.NoAny s.data.toList strings_ContainsAny.spb.data.toList (i + d) := fun d hd j b hj hb => by
  by_cases c : j < i
  · exact hn j b c hb
  · obtain ⟨m, rfl⟩ : ∃ m, j = i + m := ⟨j - i, by omega⟩
    obtain ⟨q, e⟩ := List.getElem?_eq_some_iff.1 hb
    have q' : i + m < s.size := by rw [Lib.size_eq]; exact q
    have := strings_ContainsAny.dec_skip s i h ha m (by omega) q'
    exact strings_ContainsAny.spb_no b (by rw [← e]; exact this)
theorem strings_ContainsAny.iter_below (w : World) (s : ByteArray) (pos : Nat) : Below w.heap.size w (w.iter s pos) := (Below.refl _ _).alloc (Nat.le_refl _) _
set_option maxHeartbeats 8000000 in
set_option maxRecDepth 1000000 in
/-- strings.IndexAny of a short text of any bytes, at a space and the braces. -/
theorem strings_ContainsAny.IndexAny_any {P : Program} {ρ : Go.Shelf.Ren} (L : Lays.n153 P ρ) (s : ByteArray) (w : World) (h8 : s.size ≤ 8) :
    Calls P (ρ.f 153) #[.string s, .string strings_ContainsAny.spb] w fun e w' => e = .returned (.int .i64 (Lib.indexAny s.data.toList strings_ContainsAny.spb.data.toList)) ∧ Below w.heap.size w w' := by
  have h8z : decide ((8 : Int) < (s.size : Int)) = false := decide_eq_false (by omega)
  have t3 := L.t3; have a3 := L.a3; have z3 := L.z3; have v3 := L.v3
  have t4 := L.t4; have a4 := L.a4; have z4 := L.z4; have v4 := L.v4
  have t5 := L.t5; have a5 := L.a5; have z5 := L.z5; have v5 := L.v5
  have t9 := L.t9; have a9 := L.a9; have z9 := L.z9; have v9 := L.v9
  have t21 := L.t21; have a21 := L.a21; have z21 := L.z21; have v21 := L.v21
  have e152 : ∀ args w, (callFunc (ρ.f 152) args).run P w = .ok (.enter (ρ.f 152) args) w := enters_of L.f152 (by kernel_rfl) rfl
  have e226 : ∀ args w, (callFunc (ρ.f 226) args).run P w = .ok (.enter (ρ.f 226) args) w := enters_of L.f226 (by kernel_rfl) rfl
  go_enter L.f153, Body.n153_ntmps ρ
  go_wp2_with (go_at_fn (ρ.f 226); refine (Any.strings_shouldUseASCIISet { L with } _ _).mono ?_; rintro e w' ⟨rfl, hw⟩; rw [hw, h8z])
  go_loopg [9, 10] s.size (fun g _ _ wx => ∃ i : Nat, s.size ≤ i + g ∧ wx.heap[w.heap.size]? = some (.stringIter s i) ∧ Below w.heap.size w wx ∧ Lib.NoAny s.data.toList strings_ContainsAny.spb.data.toList i)
  case atStart => exact ⟨0, by omega, World.iter_heap _ _ _, strings_ContainsAny.iter_below w s 0, Lib.NoAny.zero _ _⟩
  case round =>
    obtain ⟨i, hig, hit, hbw, hno⟩ := hrel
    have HN : Aside (Lib.NoAny s.data.toList strings_ContainsAny.spb.data.toList i) := hno
    clear hno
    by_cases hi : i < s.size
    · obtain ⟨g, rfl⟩ : ∃ g, gk = g + 1 := ⟨gk - 1, by omega⟩
      have hit2 := Lib.iterAt_heap wr w.heap.size s i (i + (Utf8.decode s i).2) hit
      have hbw2 : Below w.heap.size w (wr.iterAt w.heap.size s (i + (Utf8.decode s i).2)) := Lib.below_iterAt hbw (Nat.le_refl _) s (i + (Utf8.decode s i).2)
      have hwd := Lib.width_pos s i
      have hrl := Lib.rune_le s i
      by_cases ha : (s[i]'hi).toNat < 128
      · have hd := decode_ascii s i hi ha
        rw [hd] at hit2 hbw2
        have hnx := fun ty => Go.Lib.run_next_ascii_at (P := P) wr w.heap.size s i ty hit hi ha
        clear hwd hrl hit hbw hd
        obtain ⟨x, hx⟩ : ∃ x : UInt8, s[i]'hi = x := ⟨_, rfl⟩
        have hxl : s.data.toList[i]? = some x := by rw [← hx]; exact Lib.data_getElem? s i hi
        rw [hx] at hnx ha
        have Hx : Aside (s.data.toList[i]? = some x) := hxl
        clear hxl hx
        have hcon := Lib.contains_iff_indexByte strings_ContainsAny.spb.data.toList x
        have hback : ((x.toNat : Int)).toNat.toUInt8 = x := by simp
        cases hin : strings_ContainsAny.spb.data.toList.contains x
        · rw [hin] at hcon
          have hlt : ¬ ((0 : Int) ≤ Lib.indexByte strings_ContainsAny.spb.data.toList x) := of_decide_eq_false hcon.symm
          clear hcon
          go_wp2_with (go_at_fn (ρ.f 152); refine (Any.strings_IndexRune_ascii { L with } _ _ _ (by omega) (by omega)).mono ?_; rintro e w' ⟨rfl, hw⟩; rw [hw, hback])
          go_roundg g
          case measure => omega
          case rel => exact ⟨i + 1, by omega, hit2, hbw2, HN.out.succ Hx.out hin⟩
        · rw [hin] at hcon
          have hge : (0 : Int) ≤ Lib.indexByte strings_ContainsAny.spb.data.toList x := of_decide_eq_true hcon.symm
          clear hcon
          go_wp2_with (go_at_fn (ρ.f 152); refine (Any.strings_IndexRune_ascii { L with } _ _ _ (by omega) (by omega)).mono ?_; rintro e w' ⟨rfl, hw⟩; rw [hw, hback])
          go_ret
          exact ⟨by rw [Lib.indexAny_hit HN.out Hx.out hin]; rfl, hbw2⟩
      · have hnx := fun ty => Go.Lib.run_next_any_at (P := P) wr w.heap.size s i ty hit hi
        have hh := (decode_high s i hi (by omega)).1
        have hns := strings_ContainsAny.noAny_skip s i hi (by omega) HN.out _ (Nat.le_refl _)
        have HNS : Aside (Lib.NoAny s.data.toList strings_ContainsAny.spb.data.toList (i + (Utf8.decode s i).2)) := hns
        clear hns
        generalize Utf8.decode s i = D at *
        obtain ⟨r, d⟩ := D
        simp only at *
        go_wp2_with (go_at_fn (ρ.f 152); refine (strings_ContainsAny.IndexRune_high { L with } _ _ (by omega) (by omega)).mono ?_; rintro e w' ⟨rfl, hw⟩)
        go_roundg g
        case measure => omega
        case rel =>
          have hsz := (Array.getElem?_eq_some_iff.1 hit2).1
          exact ⟨i + d, by omega, (hw.block _ hsz).trans hit2, hbw2.trans (hw.mono (Nat.le_of_lt hsz)), HNS.out⟩
    · have hnx := fun ty => Go.Lib.run_next_end_at (P := P) wr w.heap.size s i ty hit hi
      go_wp2
      go_ret
      exact ⟨by rw [Lib.indexAny_none (fun j b hj hb => HN.out j b (by rw [← Lib.size_eq] at hj; omega) hb)]; rfl, hbw⟩
set_option maxHeartbeats 1000000 in
theorem strings_ContainsAny.ContainsAny_any {P : Program} {ρ : Go.Shelf.Ren} (L : Lays.n150 P ρ) (h116 : (P.info? (ρ.t 116)).map (fun i => (i.zero, i.size)) = some (some (.agg (Array.replicate 256 (.bool false))), 256)) (s : ByteArray) (w : World) (hs : s.size < 4294967281) :
    Calls P (ρ.f 150) #[.string s, .string strings_ContainsAny.spb] w fun e w' => e = .returned (.bool (Lib.containsAny s.data.toList strings_ContainsAny.spb.data.toList)) ∧ Below w.heap.size w w' := by
  have c : Calls P (ρ.f 153) #[.string s, .string strings_ContainsAny.spb] w fun e w' => e = .returned (.int .i64 (Lib.indexAny s.data.toList strings_ContainsAny.spb.data.toList)) ∧ Below w.heap.size w w' := by
    by_cases h8 : s.size ≤ 8
    · exact strings_ContainsAny.IndexAny_any { L with } s w h8
    · refine (Any.strings_IndexAny_long { L with } (zero_of_info h116).1 (zero_of_info h116).2 s strings_ContainsAny.spb w (by decide) (by omega) hs (by decide) (fun j b hb => ?_)).mono fun e w' ⟨h1, h2⟩ => ⟨h1, ?_⟩
      · exact (by decide : ∀ v ∈ strings_ContainsAny.spb.data.toList, v.toNat < 128) b (by obtain ⟨q, e⟩ := List.getElem?_eq_some_iff.1 hb; rw [← e]; exact List.getElem_mem q)
      · rw [h2]
        exact ((Below.refl _ _).alloc (Nat.le_refl _) _).alloc (by simp) _
  have t3 := L.t3; have a3 := L.a3; have z3 := L.z3; have v3 := L.v3
  have t4 := L.t4; have a4 := L.a4; have z4 := L.z4; have v4 := L.v4
  have t9 := L.t9; have a9 := L.a9; have z9 := L.z9; have v9 := L.v9
  have e153 : ∀ args w, (callFunc (ρ.f 153) args).run P w = .ok (.enter (ρ.f 153) args) w := enters_of L.f153 (by kernel_rfl) rfl
  go_enter L.f150, Body.n150_ntmps ρ
  go_wp2_with (go_at_fn (ρ.f 153); refine c.mono ?_; rintro e w' ⟨rfl, hw⟩)
  go_ret
  exact ⟨rfl, hw⟩
def strings_ContainsAny.asc (s : ByteArray) : Bool := s.data.toList.all fun b => decide (b.toNat < 128)
theorem strings_ContainsAny.asc_at {s : ByteArray} (h : strings_ContainsAny.asc s = true) (j : Nat) (b : UInt8) (hj : s.data.toList[j]? = some b) : b.toNat < 128 := by
  unfold strings_ContainsAny.asc at h
  obtain ⟨h1, h2⟩ := List.getElem?_eq_some_iff.1 hj
  have := List.all_eq_true.1 h b (by rw [← h2]; exact List.getElem_mem h1)
  exact of_decide_eq_true this
def strings_ContainsAny.f (a0 : ByteArray) (a1 : ByteArray) : Option (Bool) := if a0.size < 4294967281 then (if a1.size < 4294967281 then (if (strings_ContainsAny.asc a0 || decide (a1 = strings_ContainsAny.spb)) = true then (if strings_ContainsAny.asc a1 = true then some (Lib.containsAny a0.data.toList a1.data.toList) else none) else none) else none) else none
theorem strings_ContainsAny.calls (a0 : ByteArray) (a1 : ByteArray) (r : Bool) (w : World) (h : strings_ContainsAny.f a0 a1 = some r) :
    Calls Tryd.prog 33 #[.string a0, .string a1] w fun e w' => e = .returned (.bool r) ∧ Below w.heap.size w w' := by
  unfold strings_ContainsAny.f at h
  by_cases h0 : a0.size < 4294967281
  · rw [if_pos h0] at h
    by_cases h1 : a1.size < 4294967281
    · rw [if_pos h1] at h
      by_cases h2 : (strings_ContainsAny.asc a0 || decide (a1 = strings_ContainsAny.spb)) = true
      · rw [if_pos h2] at h
        by_cases h3 : strings_ContainsAny.asc a1 = true
        · rw [if_pos h3] at h
          obtain rfl := Option.some.inj h
          by_cases hb : a1 = strings_ContainsAny.spb
          · subst hb
            exact strings_ContainsAny.ContainsAny_any strings_ContainsAny.lays (by kernel_rfl) a0 w h0
          · rw [decide_eq_false hb, Bool.or_false] at h2
            exact Any.strings_ContainsAny_laid strings_ContainsAny.lays (by kernel_rfl) a0 a1 w h0 h1 (fun j b => strings_ContainsAny.asc_at h2 j b) (fun j b => strings_ContainsAny.asc_at h3 j b)
        · rw [if_neg h3] at h
          exact absurd h (by simp)
      · rw [if_neg h2] at h
        exact absurd h (by simp)
    · rw [if_neg h1] at h
      exact absurd h (by simp)
  · rw [if_neg h0] at h
    exact absurd h (by simp)

end Go.Proofs.YtiofklnfpmphnaaDoor.Px
