/- Calls of Go functions come to what the Lean functions beside them say; written by a program of this session (wip/xprint); no conditions. -/
import Derived.Test.YtiaelacjjbdolaaGreatDoorPx0
namespace Go.Proofs.YtiaelacjjbdolaaGreatDoor.Px
open Go.RowKit Go.Proofs.YtiaelacjjbdolaaGreatDoorW.PrintWords Go.Proofs.YtiaelacjjbdolaaGreatDoorW.PrintLast Go.Proofs.YtiaelacjjbdolaaGreatDoorW.PrintMore
open Go.Value renaming int -> vI, string -> vS, slice -> vL, bool -> vB
open Go.Proofs.YtiaelacjjbdolaaGreatDoorW.PrintWords renaming pw_below_drewN -> pN, below_drew1 -> p1, below_alloc -> pA, below_set -> pS, gate_callee -> gC, below_step -> bS
open Go.Proofs.YtiaelacjjbdolaaGreatDoorW.PrintWords.Aside0 renaming mk -> AM
open Go.Proofs.YtiaelacjjbdolaaGreatDoorW.PrintWords.Kd renaming R_slice -> rS, C_alloc -> cA, C_drewN -> cN, C_drew -> cD, C_below -> cB
open Option.some renaming inj -> oI
open Go.IntKind renaming i64 -> iK
open List renaming map_toArray -> mT, map_cons -> mC, map_nil -> mN, setIfInBounds_toArray -> lT, set_cons_zero -> lZ, set_cons_succ -> lS
open Go.Ending renaming returned -> eR
open Option renaming bind_eq_some_iff -> oB
attribute [local go_sem] fm fj fO fF eV fa fg fh
set_option maxHeartbeats 8000000
set_option maxRecDepth 100000
set_option linter.unusedVariables false
set_option linter.unusedSimpArgs false
def aN.l0 : Nat -> Int -> ByteArray -> Option (ByteArray)
 | 0, _, _ => none
 | k + 1, x0, x3 => if x0 > 0 then ((some (([(wrap64 (48 + (Int.tmod x0 10))) % 256] : List Int) : List Int)).bind fun y635 => (if (strOfNums y635).size + x3.size <= 9223372036854775807 then (aN.l0 k (wrap64 (Int.tdiv x0 10)) ((strOfNums y635) ++ x3)) else (none))) else (if 1 + x3.size <= 9223372036854775807 then (some ((⟨#[109]⟩ : ByteArray) ++ x3)) else (none))
def aN.f (k : Nat) (a0 : Int) : Option (ByteArray) := if a0 <= 0 then (some (⟨#[109, 48]⟩ : ByteArray)) else (aN.l0 k a0 (⟨#[]⟩ : ByteArray))
theorem aN.calls (k : Nat) (a0 : Int) (r : ByteArray) (w : World) (h : aN.f k a0 = some r) :
  Calls Tryz.prog 45 #[vI .i64 a0] w fun e w' => e = .returned (.string r) /\ Below w.heap.size w w' := by
 have HB := AM (Below.refl w.heap.size w);have H := h;unfold aN.f at H;clear h;by_cases c2 : a0 <= 0;(·rw [if_pos c2] at H;have c2b0 := dT c2;clear c2;obtain rfl := oI H;(go_enter Tryz.func45, Tryz.ntmps45);(go_wp2);(go_ret);exact ⟨rfl, bb⟩)
 ·rw [if_neg c2] at H
  have c2b0 := dF c2;clear c2;have H' := AM H;clear H;(go_enter Tryz.func45, Tryz.ntmps45);(go_wp2);(go_loopg [0, 3] k (fun kq v0 v3 w' => ∃ (x0_1 : Int) (x3_1 : ByteArray), v0 = vI .i64 x0_1 /\ v3 = .string x3_1 /\ Aside0 (aN.l0 kq x0_1 x3_1 = some r) /\ Aside0 (kq <= k) /\ Aside0 (Below w.heap.size w w')))
  case atStart => exact ⟨(a0), ((⟨#[]⟩ : ByteArray)), rf, rf, H', ⟨Nat.le_refl _⟩, ⟨bb⟩⟩
  case round =>
   clear H';obtain ⟨x0_1, x3_1, rfl, rfl, HA, HK1, HB⟩ := hrel
   cases gk with
   | zero => exact absurd HA.out (by simp [aN.l0])
   | succ k1 =>
    have H := HA.out;clear HA;simp only [aN.l0] at H;by_cases c3 : x0_1 > 0
    ·rw [if_pos c3] at H
     have c3b0 : decide (0 < x0_1) = true := dT c3;clear c3;obtain ⟨y635, Ny635, H⟩ := yB H;(try dsimp only at H);obtain ⟨c4, H⟩ := nI H;have c4b0 := eq_true c4;have c4b1 := dT c4;(try have c4b2 : (9223372036854775807 < (strOfNums y635).size + x3_1.size) = False := eq_false (Nat.not_lt.2 c4));have H' := AM H;clear H
     go_wp2_with (first | ((with_reducible refine gate_dst (N := 12) rfl ?_); refine rK (Kd.int .u8) 5 12 ([(wrap64 (48 + (Int.tmod x0_1 10))) % 256] : List Int) [vI .u8 ((wrap64 (48 + (Int.tmod x0_1 10))) % 256)] (aZ.one (show Kd.M (Kd.int .u8) _ _ _ ((wrap64 (48 + (Int.tmod x0_1 10))) % 256) [vI .u8 ((wrap64 (48 + (Int.tmod x0_1 10))) % 256)] from rfl) (aZ.none _ _)) ?_; intro v636 w5 ho6 hb hg_ hnew_; clear hg_ hnew_; (first | rw [<- Ny635.out] at ho6 | (simp only [Int.reduceToNat] at ho6; rw [<- Ny635.out] at ho6)); have HO637 := AM (Kd.R_lower ho6 (below_size bb)); replace HB := bH hb; clear hb ho6; have hcv7 := hO (P := Tryz.prog) Tryz.underlying111 Tryz.underlying5 Tryz.underlying9 (Kd.own_of_R HO637.out)))
     go_roundg k1
     case measure => have := HK1.out; omega
     case rel => exact ⟨(wrap64 (Int.tdiv x0_1 10)), ((strOfNums y635) ++ x3_1), rf, rf, H', ⟨by have := HK1.out; omega⟩, ⟨bb⟩⟩
    ·rw [if_neg c3] at H
     have c3b0 : decide (0 < x0_1) = false := dF c3;clear c3;obtain ⟨c8, H⟩ := nI H;have c8b0 := eq_true c8;have c8b1 := dT c8;(try have c8b2 : (9223372036854775807 < 1 + x3_1.size) = False := eq_false (Nat.not_lt.2 c8));obtain rfl := oI H;(go_wp2);(go_ret);exact ⟨rfl, bb⟩
def cl.l0 : Nat -> List ByteArray -> Int -> Int -> Option (Int × List ByteArray)
 | 0, _, _, _ => none
 | k + 1, x0, x1, x5 => if x5 < (x0.length : Int) then ((aN.f k x1).bind fun t638 => (if 0 <= x5 then (cl.l0 k (x0.set (x5 : Int).toNat t638) (wrap64 (x1 + 1)) (wrap64 (x5 + 1))) else (none))) else (some (x1, x0))
def cl.f (k : Nat) (l0 : List ByteArray) (a1 : Int) : Option (Int × List ByteArray) := cl.l0 k l0 a1 0
theorem cl.calls (k : Nat) (P0_ : Nat -> Prop) (u9000_ : Value) (l0 : List ByteArray) (a1 r1 : Int) (r2 : List ByteArray) (w0 w : World) (hB : Below w0.heap.size w0 w) (ho0 : Kd.R Kd.string 9 w w0.heap.size P0_ u9000_ l0) (h : cl.f k l0 a1 = some (r1, r2)) :
  Calls Tryz.prog 31 #[u9000_, vI .i64 a1] w fun e w' => e = .returned (vI .i64 r1) /\ Kd.R Kd.string 9 w' w0.heap.size (fun k_ => (P0_ k_ \/ w.heap.size <= k_)) u9000_ r2 /\ Below w0.heap.size w0 w' /\ Kept w w' (fun k_ => P0_ k_) := by
 have HO0 := AM (show Kd.R Kd.string 9 w w0.heap.size (fun k_ => (P0_ k_ \/ w.heap.size <= k_)) u9000_ l0 from Kd.R_mono ho0 (fun k_ hk => (.inl hk)));have HK := AM (Kept.refl w (fun k_ => P0_ k_));have HW0 := AM hB.size;have HB := AM hB;clear hB;have H := h;unfold cl.f at H;clear h;have H' := AM H;clear H;(go_enter Tryz.func31, Tryz.ntmps31);(go_wp2);(go_loopg [1, 5] k (fun kq v1 v5 w' => ∃ (x0_1 : List ByteArray) (x1_1 x5_1 : Int), v1 = vI .i64 x1_1 /\ v5 = vI .i64 x5_1 /\ Aside0 (cl.l0 kq x0_1 x1_1 x5_1 = some (r1, r2)) /\ Aside0 (kq <= k) /\ Aside0 (Kd.R Kd.string 9 w' w0.heap.size (fun k_ => (P0_ k_ \/ w.heap.size <= k_)) u9000_ x0_1) /\ Aside0 (Kept w w' (fun k_ => P0_ k_)) /\ Aside0 (Below w0.heap.size w0 w')))
 case atStart => exact ⟨(l0), (a1), (0), rf, rf, H', ⟨Nat.le_refl _⟩, ⟨qR HO0⟩, ⟨kp⟩, ⟨bb⟩⟩
 case round =>
  clear H';obtain ⟨x0_1, x1_1, x5_1, rfl, rfl, HA, HK1, HO_0, HK, HB⟩ := hrel
  cases gk with
  | zero => exact absurd HA.out (by simp [cl.l0])
  | succ k1 =>
   have H := HA.out;clear HA;simp only [cl.l0] at H;by_cases c3 : x5_1 < (x0_1.length : Int)
   ·rw [if_pos c3] at H
    have c3b0 := dT c3;clear c3;obtain ⟨t638, A4, H⟩ := oA H;obtain ⟨c5, H⟩ := nI H;have c5b0 := dT c5;clear c5;generalize hy639 : (x0_1.set (x5_1 : Int).toNat t638) = y639 at H;have Ny639 := AM hy639.symm;clear hy639;have H' := AM H;clear H;obtain ⟨Ao7, co7, eo7⟩ := rS HO_0.out;subst eo7
    go_wp2_with (first | ((with_reducible refine gate_callee (f := 45) rfl ?_); refine goesL_ (some 15) rfl rfl Tryz.func45 (by kernel_rfl) rfl #[vI .i64 x1_1] rfl (by (try simp only [List.map_toArray, List.map_cons, List.map_nil]); try rfl) ?_; (with_reducible refine (aN.calls k1 x1_1 t638 _ A4.out).mono ?_); rintro e w8 ⟨rfl, hb⟩; refine ⟨_, rfl, ?_⟩; replace HO_0 := AM (Kd.R_below (qR HO_0) hb); replace HK := AM (Kept.below (S := (fun k_ => P0_ k_)) kp hb); replace HB := bH hb; (try clear hb); have p6 := pz x5_1; have q6 : (x5_1 : Int) < ((x0_1.length : Int) : Int) := oD (by assumption); obtain ⟨go6, co6, eo6, gb6, gl6, cl6, HG6⟩ := Kd.R_form HO_0.out (by omega); (first | cases eo6 | (injection eo6 with ea_ en_ ec_; (first | subst ea_ | (injection ea_ with ea_; subst ea_)); subst ec_; clear en_)); have GB6 := AM gb6; have GG6 := AM HG6; clear gb6 gl6 HG6; have HMgo6 := AM (show (P0_ go6 \/ w.heap.size <= go6) from (HO_0.out.1 _ rfl)); obtain ⟨hx6_0, hf6_0⟩ := Kd.R_celln (⟨#[]⟩ : ByteArray) HO_0.out (x5_1 : Int) p6 q6; replace p6 := eq_true p6; replace q6 := eq_true q6; obtain ⟨hy9_, hz9_⟩ := Kd.R_celln (⟨#[]⟩ : ByteArray) HO_0.out (x5_1 : Int) (oD (by assumption)) (oD (by assumption)); have HP9 := Kd.R_putg HO_0.out (x5_1 : Int) t638) | ((with_reducible refine fz (t := 9) (p := 16) rfl ?_); refine eZ (t := 9) (p := 16) (v := ?vo_w10) (w1 := (w8.setCell ⟨go6, (x5_1 : Int).toNat, none⟩ (.string t638))) ?hg ?ho ?hn ?hr ?_; (case ho => rfl); (case hg => rfl); (case hn => rfl); (case hr => first | (go_simp; done) | (go_simp; rfl)); intro w10 hw; have hg : w8.grownBy w10 (some go6) := (by rw [hw]; exact HP9.2); have hp_ : Kd.R Kd.string 9 w10 w0.heap.size (fun k_ => (P0_ k_ \/ w.heap.size <= k_)) (.slice (some ⟨go6, 0, none⟩) x0_1.length co7) y639 := (by rw [hw, Ny639.out]; exact HP9.1); clear HP9; replace HB := AM ((by rw [hw]; exact below_set (HB.out) GB6.out : Below w0.heap.size w0 w10)); replace HK := AM (Kept.of_grown (S := (fun k_ => P0_ k_)) hg kp (fun k_ e_ => (HO_0.out.1 k_ e_))); replace HO_0 := AM (hp_); clear hg hw hp_))
    go_roundg k1
    case measure => have := HK1.out; omega
    case rel => exact ⟨(y639), (wrap64 (x1_1 + 1)), (wrap64 (x5_1 + 1)), rf, rf, H', ⟨by have := HK1.out; omega⟩, ⟨qR HO_0⟩, ⟨kp⟩, ⟨bb⟩⟩
   ·rw [if_neg c3] at H
    have c3b0 := dF c3;clear c3;simp only [Option.some.injEq, Prod.mk.injEq] at H;obtain ⟨rfl, rfl⟩ := H;obtain ⟨Ao11, co11, eo11⟩ := rS HO_0.out;subst eo11;(go_wp2);(go_ret);exact ⟨rfl, by (with_reducible repeat (first | apply Kd.R_alloc | apply Kd.R_drewN | apply Kd.R_drew)); exact HO_0.out, bb, kp⟩
/-- A text stays a text, a number a number, a truth a truth; what else stays as it is. -/
def MN.sk (v u : Value) : Prop := u = v \/ (∃ a b, v = vS a /\ u = vS b) \/ (∃ a b, v = vI iK a /\ u = vI iK b) \/ ∃ a b, v = vB a /\ u = vB b
theorem MN.sk_trans {a b c : Value} (h : MN.sk a b) (k : MN.sk b c) : MN.sk a c := by
  rcases h with rfl | ⟨x, y, rfl, rfl⟩ | ⟨x, y, rfl, rfl⟩ | ⟨x, y, rfl, rfl⟩
  · exact k
  all_goals
    rcases k with rfl | ⟨x1, y1, h1, rfl⟩ | ⟨x1, y1, h1, rfl⟩ | ⟨x1, y1, h1, rfl⟩ <;> first | cases h1 | skip
  (·exact .inr (.inl ⟨_, _, rfl, rfl⟩));(·exact .inr (.inl ⟨_, _, rfl, rfl⟩));(·exact .inr (.inr (.inl ⟨_, _, rfl, rfl⟩)));(·exact .inr (.inr (.inl ⟨_, _, rfl, rfl⟩)));(·exact .inr (.inr (.inr ⟨_, _, rfl, rfl⟩)));(·exact .inr (.inr (.inr ⟨_, _, rfl, rfl⟩)))
/-- Every block keeps its type, its size and the sort of each of its cells. -/
def MN.Sim (w W : World) : Prop := w.heap.size <= W.heap.size /\ ∀ (k : Nat) (cs : Array Value) (t : TypeId), w.heap[k]? = some (Obj.cells cs t (0, 0)) -> ∃ ds : Array Value, W.heap[k]? = some (Obj.cells ds t (0, 0)) /\ ds.size = cs.size /\ ∀ (i : Nat) v, cs[i]? = some v -> ∃ u, ds[i]? = some u /\ MN.sk v u
theorem MN.Sim.trans {a b c : World} (h : MN.Sim a b) (k : MN.Sim b c) : MN.Sim a c := by
  refine ⟨Nat.le_trans h.1 k.1, fun j cs t hj => ?_⟩;obtain ⟨ds, h1, h2, h3⟩ := h.2 j cs t hj;obtain ⟨es, k1, k2, k3⟩ := k.2 j ds t h1;refine ⟨es, k1, by omega, fun i v hv => ?_⟩;obtain ⟨u, hu, hs⟩ := h3 i v hv;obtain ⟨x, hx, hr⟩ := k3 i u hu;exact ⟨x, hx, MN.sk_trans hs hr⟩
theorem MN.Sim.below {w W : World} (h : Below w.heap.size w W) : MN.Sim w W :=
  ⟨h.size, fun k cs t hk => ⟨cs, (h.block k (by rw [Array.getElem?_eq_some_iff] at hk; exact hk.1)).trans hk, rfl, fun i v hv => ⟨v, hv, .inl rfl⟩⟩⟩
theorem MN.Sim.set {w : World} {g o : Nat} {c u : Value} (hc : w.cell? ⟨g, o, none⟩ = some c) (hs : MN.sk c u) : MN.Sim w (w.setCell ⟨g, o, none⟩ u) := by
  refine ⟨by simp [World.setCell], fun k cs t hk => ?_⟩;by_cases hg : k = g
  · subst hg
    refine ⟨cs.setIfInBounds o u, by simp [World.setCell, Array.getElem?_modify, hk], by simp, fun i v hv => ?_⟩;by_cases ho : o = i
    · subst ho
      simp only [World.cell?, hk] at hc
      have : c = v := by
        have := hc.symm.trans (by simpa using hv);exact oI this
      subst this;(have hb : o < cs.size := by rw [Array.getElem?_eq_some_iff] at hv; exact hv.1);exact ⟨u, by rw [Array.getElem?_setIfInBounds, if_pos rfl, if_pos hb], hs⟩
    · exact ⟨v, by rw [Array.getElem?_setIfInBounds, if_neg ho]; exact hv, .inl rfl⟩
  · exact ⟨cs, by rw [Below.heap_setCell _ _ _ _ hg]; exact hk, rfl, fun i v hv => ⟨v, hv, .inl rfl⟩⟩
/-- A row within a world whose blocks keep their sorts: a row of as many elements, each of its old count. -/
theorem MN.row {α β : Type} {d : Kd α} {e : Nat} {w W : World} {base : Nat} {ok : Nat -> Prop} {v : Value} {xs : List α} (c : α -> β)
    (hel : ∀ okp x cs ds, d.M w base okp x cs -> ds.length = cs.length -> (∀ (i : Nat) v, cs[i]? = some v -> ∃ u, ds[i]? = some u /\ MN.sk v u) -> ∃ y, c y = c x /\ d.M W base okp y ds)
    (h : d.R e w base ok v xs) (hs : MN.Sim w W) : ∃ ys, ys.map c = xs.map c /\ d.R e W base ok v ys := by
  obtain ⟨h0, inner, ⟨hl, ho⟩, hr⟩ := h
  rcases ho with ⟨rfl, hn⟩ | ⟨g, cap, cur, rfl, hg, hh, hnc, hcap, hsz, htk⟩
  · obtain rfl := List.length_eq_zero_iff.1 hn
    exact ⟨[], rfl, Kd.R_nil _ _ _ _ _⟩
  · obtain ⟨ds, k1, k2, k3⟩ := hs.2 g cur _ hh
    have hle : xs.length * d.sz <= cur.size := by rw [hsz]; exact Nat.mul_le_mul_right _ hnc
    have hget : ∀ (i : Nat) v, inner[i]? = some v -> ∃ u, (ds.toList.take (xs.length * d.sz))[i]? = some u /\ MN.sk v u := fun i v hv => by
      rw [<- htk, List.getElem?_take] at hv;by_cases hi : i < xs.length * d.sz;(·rw [if_pos hi] at hv;obtain ⟨u, hu, hk⟩ := k3 i v (by simpa using hv);exact ⟨u, by rw [List.getElem?_take, if_pos hi]; simpa using hu, hk⟩);(·(rw [if_neg hi] at hv; cases hv))
    have hdl : (ds.toList.take (xs.length * d.sz)).length = xs.length * d.sz := by simp; omega
    obtain ⟨dn, hdn⟩ : ∃ dn, dn = ds.toList.take (xs.length * d.sz) := ⟨_, rfl⟩
    rw [<- hdn] at hget hdl
    have key : ∀ j : Fin xs.length, ∃ y, c y = c xs[j.1] /\ d.M W base (fun k => ok k /\ some k ≠ (Value.slice (some ⟨g, 0, none⟩) xs.length cap).ownBlock) y ((dn.drop (j.1 * d.sz)).take d.sz) := fun j => by
      (refine hel _ _ _ _ (hr.2 j.1 _ (List.getElem?_eq_getElem j.2)) (by simp [hl, hdl]) fun i v hv => ?_);rw [List.getElem?_take] at hv ⊢;by_cases hi : i < d.sz;(·rw [if_pos hi, List.getElem?_drop] at hv;obtain ⟨u, hu, hk⟩ := hget _ v hv;exact ⟨u, by rw [if_pos hi, List.getElem?_drop]; exact hu, hk⟩);(·(rw [if_neg hi] at hv; cases hv))
    refine ⟨List.ofFn fun j => Classical.choose (key j), ?_, h0, dn, ?_, ?_⟩;(·(refine List.ext_getElem (by simp) fun i h1 h2 => ?_);simp only [List.getElem_map, List.getElem_ofFn];exact (Classical.choose_spec (key ⟨i, by simpa using h2⟩)).1);(·rw [List.length_ofFn];exact ⟨hdl, .inr ⟨g, cap, ds, rfl, hg, k1, hnc, hcap, by omega, hdn.symm⟩⟩);(·refine ⟨by simpa using hdl, fun j p hp => ?_⟩;rw [List.getElem?_ofFn] at hp;by_cases hj : j < xs.length;(·rw [dif_pos hj] at hp;obtain rfl := oI hp;(simpa using (Classical.choose_spec (key ⟨j, hj⟩)).2));(·(rw [dif_neg hj] at hp; cases hp)))
theorem MN.sk_str {a : ByteArray} {u : Value} (h : MN.sk (vS a) u) : ∃ b, u = vS b := by
  rcases h with rfl | ⟨x, y, _, rfl⟩ | ⟨x, y, h, _⟩ | ⟨x, y, h, _⟩ <;> first | exact ⟨_, rfl⟩ | cases h
theorem MN.sk_int {a : Int} {u : Value} (h : MN.sk (vI iK a) u) : ∃ b, u = vI iK b := by
  rcases h with rfl | ⟨x, y, h, _⟩ | ⟨x, y, _, rfl⟩ | ⟨x, y, h, _⟩ <;> first | exact ⟨_, rfl⟩ | cases h
theorem MN.sk_bool {a : Bool} {u : Value} (h : MN.sk (vB a) u) : ∃ b, u = vB b := by
  rcases h with rfl | ⟨x, y, h, _⟩ | ⟨x, y, h, _⟩ | ⟨x, y, _, rfl⟩ <;> first | exact ⟨_, rfl⟩ | cases h
theorem MN.sk_sl {A : Option Addr} {n c : Nat} {u : Value} (h : MN.sk (vL A n c) u) : u = vL A n c := by
  rcases h with rfl | ⟨x, y, h, _⟩ | ⟨x, y, h, _⟩ | ⟨x, y, h, _⟩ <;> first | rfl | cases h
theorem MN.strs {w W : World} {base : Nat} {ok : Nat -> Prop} {v : Value} {xs : List ByteArray} (h : Kd.R Kd.string 9 w base ok v xs) (hs : MN.Sim w W) : ∃ ys, ys.length = xs.length /\ Kd.R Kd.string 9 W base ok v ys := by
  obtain ⟨ys, h1, h2⟩ := MN.row (fun _ => ()) (fun okp x cs ds hm hl hc => by
    subst hm;obtain ⟨u, hu, hk⟩ := hc 0 _ rfl;obtain ⟨b, rfl⟩ := MN.sk_str hk;obtain ⟨q, rfl⟩ := List.length_eq_one_iff.1 hl
    exact ⟨b, rfl, show [q] = [Value.string b] from by rw [oI hu]⟩) h hs
  exact ⟨ys, by simpa using congrArg List.length h1, h2⟩
def MN.c1 (x : cg) : Nat := x.f0.length
theorem MN.names {w W : World} {base : Nat} {ok : Nat -> Prop} {v : Value} {xs : List cg} (h : Kd.R dl 105 w base ok v xs) (hs : MN.Sim w W) : ∃ ys, ys.map MN.c1 = xs.map MN.c1 /\ Kd.R dl 105 W base ok v ys := by
  refine MN.row MN.c1 (fun okp x cs ds hm hl hc => ?_) h hs;obtain ⟨v0, rfl, h0⟩ := fZ hm;obtain ⟨A, c, rfl⟩ := rS h0;obtain ⟨u0, e0, s0⟩ := hc 0 _ rfl;obtain ⟨u1, e1, s1⟩ := hc 1 _ rfl;obtain ⟨u2, e2, s2⟩ := hc 2 _ rfl;obtain ⟨u3, e3, s3⟩ := hc 3 _ rfl;obtain rfl := MN.sk_sl s0;obtain ⟨b1, rfl⟩ := MN.sk_str s1;obtain ⟨b2, rfl⟩ := MN.sk_str s2;obtain ⟨b3, rfl⟩ := MN.sk_str s3;obtain ⟨ys, hy, hr⟩ := MN.strs h0 hs
  have hd : ds = [vL A x.f0.length c, vS b1, vS b2, vS b3] := by
    refine List.ext_getElem? fun i => ?_
    match i with
    | 0 => exact e0
    | 1 => exact e1
    | 2 => exact e2
    | 3 => exact e3
    | n + 4 => rw [List.getElem?_eq_none (by simp at hl; omega)]; rfl
  rw [hd];exact ⟨⟨ys, b1, b2, b3⟩, hy, i1 _ _ _ ⟨ys, b1, b2, b3⟩ hr⟩
theorem MN.td (x : Int) (h : 0 < x) : Int.tdiv x 10 = x / 10 := Int.tdiv_eq_ediv_of_nonneg (by omega)
theorem MN.m0 (d : Nat) : ∀ (k : Nat) (x : Int) (o : ByteArray), 0 <= x -> x < 10 ^ d -> x < 4611686018427387904 -> d < k -> o.size + d <= 40 -> ∃ t, aN.l0 k x o = some t /\ ∀ k', d < k' -> aN.l0 k' x o = some t := by
  induction d with
  | zero =>
    intro k x o h0 h1 hd hk ho;(have : x = 0 := by simp at h1; omega);subst this;refine ⟨(⟨#[109]⟩ : ByteArray) ++ o, ?_, fun k' hk' => ?_⟩
    · obtain ⟨k, rfl⟩ : ∃ m, k = m + 1 := ⟨k - 1, by omega⟩
      simp only [aN.l0];rw [if_neg (by omega), if_pos (by omega)]
    · obtain ⟨k', rfl⟩ : ∃ m, k' = m + 1 := ⟨k' - 1, by omega⟩
      simp only [aN.l0];rw [if_neg (by omega), if_pos (by omega)]
  | succ d ih =>
    intro k x o h0 h1 hd hk ho;by_cases c : x > 0
    · have hx : x / 10 < 10 ^ d := by
        (have e : (10 : Int) ^ (d + 1) = 10 ^ d * 10 := by rw [Int.pow_succ]);rw [e] at h1;omega
      have hq : wrap64 (Int.tdiv x 10) = x / 10 := by
        rw [MN.td x c];(unfold wrap64; omega)
      (have hs : (strOfNums [(wrap64 (48 + (Int.tmod x 10))) % 256]).size = 1 := by rw [strOfNums_size]; rfl);obtain ⟨t, _, ht⟩ := ih (d + 1) (x / 10) (strOfNums [(wrap64 (48 + (Int.tmod x 10))) % 256] ++ o) (by omega) hx (by omega) (by omega) (by rw [ByteArray.size_append, hs]; omega);refine ⟨t, ?_, fun k' hk' => ?_⟩
      · obtain ⟨k, rfl⟩ : ∃ m, k = m + 1 := ⟨k - 1, by omega⟩
        simp only [aN.l0, Option.bind_some];rw [if_pos c, if_pos (by rw [hs]; omega), hq];exact ht k (by omega)
      · obtain ⟨k', rfl⟩ : ∃ m, k' = m + 1 := ⟨k' - 1, by omega⟩
        simp only [aN.l0, Option.bind_some];rw [if_pos c, if_pos (by rw [hs]; omega), hq];exact ht k' (by omega)
    · refine ⟨(⟨#[109]⟩ : ByteArray) ++ o, ?_, fun k' hk' => ?_⟩
      · obtain ⟨k, rfl⟩ : ∃ m, k = m + 1 := ⟨k - 1, by omega⟩
        simp only [aN.l0];rw [if_neg c, if_pos (by omega)]
      · obtain ⟨k', rfl⟩ : ∃ m, k' = m + 1 := ⟨k' - 1, by omega⟩
        simp only [aN.l0];rw [if_neg c, if_pos (by omega)]
theorem MN.mt (n : Int) (h1 : n < 4611686018427387904) : ∃ t, ∀ k, 20 <= k -> aN.f k n = some t := by
  by_cases c : n <= 0;(·exact ⟨(⟨#[109, 48]⟩ : ByteArray), fun k _ => by unfold aN.f; rw [if_pos c]⟩);(·obtain ⟨t, _, ht⟩ := MN.m0 19 20 n (⟨#[]⟩ : ByteArray) (by omega) (by omega) h1 (by omega) (by decide);exact ⟨t, fun k hk => by unfold aN.f; rw [if_neg c]; exact ht k (by omega)⟩)
theorem MN.apS {α : Type} {d : Kd α} {e : Nat} {W : World} {base : Nat} {ok S : Nat -> Prop} {v : Value} {xs : List α} (hE : d.E = []) (h : d.R e W base ok v xs) (hS : ∀ k, some k = v.ownBlock -> ¬ S k) : d.R e W base (fun k => ok k /\ ¬ S k) v xs := Kd.R_mono (Kd.R_tight2 hE h) (fun k hk => ⟨hk.2, hS k hk.1⟩)
noncomputable def MN.mtx (n : Int) : ByteArray := if h : n < 4611686018427387904 then Classical.choose (MN.mt n h) else ⟨#[]⟩
theorem MN.mtx_k (n : Int) (h : n < 4611686018427387904) (k : Nat) (hk : 20 <= k) : aN.f k n = some (MN.mtx n) := by
  unfold MN.mtx;rw [dif_pos h];exact Classical.choose_spec (MN.mt n h) k hk
/-- A number counted on. -/
def MN.W : Nat -> Int -> Int
  | 0, x => x
  | j + 1, x => wrap64 (MN.W j x + 1)
theorem MN.W_eq : ∀ (j : Nat) (x : Int), 0 <= x -> x + j < 4611686018427387904 -> MN.W j x = x + j
  | 0, x, _, _ => by simp [MN.W]
  | j + 1, x, h0, h1 => by rw [MN.W, MN.W_eq j x h0 (by omega)]; unfold wrap64; omega
theorem MN.skS {a b : ByteArray} : MN.sk (vS a) (vS b) := .inr (.inl ⟨_, _, rfl, rfl⟩)
theorem MN.skI {a b : Int} : MN.sk (vI iK a) (vI iK b) := .inr (.inr (.inl ⟨_, _, rfl, rfl⟩))
theorem MN.skB {a b : Bool} : MN.sk (vB a) (vB b) := .inr (.inr (.inr ⟨_, _, rfl, rfl⟩))
/-- What such a call leaves: the world below the base as it was, all blocks but those of ok, and the sort of every cell. -/
def MN.Mk (w0 : World) (ok : Nat -> Prop) (w W : World) : Prop := Below w0.heap.size w0 W /\ Kept w W ok /\ MN.Sim w W
theorem MN.Mk.refl {w0 w : World} (ok : Nat -> Prop) (h : Below w0.heap.size w0 w) : MN.Mk w0 ok w w := ⟨h, Kept.refl _ _, .below (Below.refl _ _)⟩
theorem MN.Mk.below {w0 w W W2 : World} {ok : Nat -> Prop} (h : MN.Mk w0 ok w W) (hb : Below W.heap.size W W2) : MN.Mk w0 ok w W2 := ⟨dJ h.1 h.1.size hb, Kept.below h.2.1 hb, h.2.2.trans (.below hb)⟩
theorem MN.Mk.call {w0 w W W2 : World} {ok ok' : Nat -> Prop} (h : MN.Mk w0 ok w W) (hs : ∀ k, ok' k -> ok k) (k : MN.Mk w0 ok' W W2) : MN.Mk w0 ok w W2 := ⟨k.1, h.2.1.then_ k.2.1 (fun j hj => .inl (hs j hj)), h.2.2.trans k.2.2⟩
theorem MN.Mk.set {w0 w W : World} {ok : Nat -> Prop} (h : MN.Mk w0 ok w W) {g o : Nat} {c u : Value} (hg : w0.heap.size <= g) (ho : ok g) (hc : W.cell? ⟨g, o, none⟩ = some c) (hs : MN.sk c u) : MN.Mk w0 ok w (W.setCell ⟨g, o, none⟩ u) :=
  ⟨h.1.setCell hg u, Kept.setCell h.2.1 (.inl ho) u, h.2.2.trans (.set hc hs)⟩
/-- A call of markText, and a store into a block that may be written. -/
theorem MN.ZT {k : Nat} {ops : Array Oper} {Q : Exit -> Act -> World -> Prop} {rest : List Oper} {oi : Oper} {a : Act} {w0 w W : World} {ok : Nat -> Prop} {az : Array Operand} {ts : Array TypeId} (N : Tmp) (x : Int) (hk : Aside0 (20 <= k)) (hx : x < 4611686018427387904) (HR : Aside0 (MN.Mk w0 ok w W)) (h : ∀ W', Aside0 (MN.Mk w0 ok w W') -> wpList Tryz.prog ops Q rest (a.put (some N) (vS (MN.mtx x))) W') (hd : oi.dst = some N := by exact rfl) (hg : oi.guard = none := by exact rfl) (hop : oi.op = .call { callee := .value (.func 45), args := az, argTypes := ts } := by exact rfl) (hargs : az.map a.eval = #[vI iK x] := by (try simp only [mT, mC, mN]); rfl) : wpList Tryz.prog ops Q (oi :: rest) a W := by
  refine goesL_ (some N) hd hg Tryz.func45 (by kernel_rfl) rfl #[vI iK x] hop hargs ?_;refine (aN.calls k x _ _ (MN.mtx_k x hx k hk.out)).mono ?_;rintro e w' ⟨rfl, hb⟩;exact ⟨_, rfl, h _ ⟨HR.out.below hb⟩⟩
theorem MN.ZS {P : Program} {ops : Array Oper} {Q : Exit -> Act -> World -> Prop} {rest : List Oper} {o : Oper} {a : Act} {w0 w W : World} {ok : Nat -> Prop} {g : Nat} {c : Value} {v : Operand} (t : TypeId) (p : Tmp) (off : Nat) (u : Value) (HR : Aside0 (MN.Mk w0 ok w W)) (HG : Aside0 (w0.heap.size <= g)) (HK : Aside0 (ok g)) (HX : Aside0 (W.cell? ⟨g, off, none⟩ = some c)) (hs : MN.sk c u) (h : ∀ W', Aside0 (MN.Mk w0 ok w W') -> wpList P ops Q rest a W') (hgd : o.guard = none := by exact rfl) (ho : o.op = .store t (.tmp p) v := by exact rfl) (hN : o.dst = none := by exact rfl) (hrun : (execOp a.eval o).run P W = .ok .skip (W.setCell ⟨g, off, none⟩ u) := by first | (go_simp; done) | (go_simp; rfl)) : wpList P ops Q (o :: rest) a W := eZ hgd ho hN hrun fun _ hw => h _ ⟨hw ▸ HR.out.set HG.out HK.out HX.out hs⟩
theorem MN.ms (k : Nat) (ok : Nat -> Prop) (u : Value) (xs : List ByteArray) (a : Int) (w0 w : World) (hB : Below w0.heap.size w0 w) (ho : Kd.R Kd.string 9 w w0.heap.size ok u xs) (h0 : 0 < a) (h1 : a + xs.length < 4611686018427387904) (hm : Aside0 (20 <= k)) :
    Calls Tryz.prog 31 #[u, vI iK a] w fun e w' => e = .returned (vI iK (a + xs.length)) /\ MN.Mk w0 ok w w' := by
  have HO := AM ho;have HM := AM (MN.Mk.refl ok hB);obtain ⟨A, c, rfl⟩ := rS ho;clear ho hB;(go_enter Tryz.func31, Tryz.ntmps31);(go_wp2);(go_loopw [1, 5] (fun v1 v5 wr => ∃ (i : Int), 0 <= i /\ i <= (xs.length : Int) /\ v1 = vI iK (a + i) /\ v5 = vI iK i /\ Aside0 (MN.Mk w0 ok w wr)) (fun _ v _ => xs.length - (intOf v).toNat))
  case atStart => exact ⟨0, Int.le_refl _, by omega, by simp, rfl, HM⟩
  case round =>
    obtain ⟨i, hi0, hin, rfl, rfl, HR⟩ := hrel;by_cases hlt : i < (xs.length : Int)
    · skip
      have p6 := eq_true hi0;have q6 := eq_true hlt;have c2b0 : decide (i < (xs.length : Int)) = true := dT hlt;have c3b0 : decide (0 <= i) = true := dT hi0;have HL := AM hlt;have H0 := AM hi0;have HB := AM (show a + i < 4611686018427387904 from by omega);clear hlt
      go_wp2_with (first | (refine MN.ZT 15 (a + i) hm HB.out HR ?_; clear HR; intro w8 HR; obtain ⟨ys, hy, hr⟩ := MN.strs HO.out HR.out.2.2; obtain ⟨g, c1, e1, hg, _⟩ := Kd.R_form hr (by have := HL.out; have := H0.out; omega); rw [hy] at e1; cases e1; obtain ⟨hx, hf⟩ := Kd.R_celln ByteArray.empty hr i H0.out (by have := HL.out; omega); have HX := AM hx; have HG := AM hg; have HK := AM (hr.1 g rfl); clear hr hg) | (refine MN.ZS 9 16 i.toNat (vS (MN.mtx (a + i))) HR HG HK HX MN.skS ?_; clear HR; intro w10 HR))
      refine ⟨⟨i + 1, by omega, by have := HL.out; omega, by congr 1; omega, rfl, HR⟩, by have := HL.out; simp [intOf]; omega⟩
    · have c2b0 : decide (i < (xs.length : Int)) = false := dF hlt
      (have e : i = xs.length := by omega);(go_wp2);(go_ret);exact ⟨rfl, HR.out⟩
abbrev MN.NM := cg
abbrev MN.RN (w : World) (base : Nat) (ok : Nat -> Prop) (v : Value) (xs : List MN.NM) : Prop := Kd.R dl 105 w base ok v xs
/-- How many marks a list of names takes: as the lengths of their first parts say. -/
def MN.cn : List Nat -> Nat
  | [] => 0
  | n :: l => n + 3 + MN.cn l
theorem MN.cn_app (l m : List Nat) : MN.cn (l ++ m) = MN.cn l + MN.cn m := by
  induction l with
  | nil => simp [MN.cn]
  | cons a l ih => simp only [List.cons_append, MN.cn, ih]; omega
theorem MN.cn_len (l : List Nat) : l.length <= MN.cn l := by
  induction l with
  | nil => simp
  | cons a l ih => simp only [List.length_cons, MN.cn]; omega
theorem MN.form {α : Type} {d : Kd α} {e : Nat} {w : World} {base : Nat} {ok : Nat -> Prop} {A : Option Addr} {n c : Nat} {xs : List α} (h : d.R e w base ok (vL A n c) xs) (hp : 0 < xs.length) : ∃ g, A = some ⟨g, 0, none⟩ /\ base <= g /\ ok g := by
  obtain ⟨g, c1, e1, hg, _⟩ := Kd.R_form h hp;cases e1;exact ⟨g, rfl, hg, h.1 g rfl⟩
/-- An element's cells in a world whose blocks keep their sorts. -/
theorem MN.el {w W : World} {base g c : Nat} {ok : Nat -> Prop} {xs : List MN.NM} (ho : MN.RN w base ok (vL (some ⟨g, 0, none⟩) xs.length c) xs) (hs : MN.Sim w W) (i : Int) (h0 : 0 <= i) (h1 : i < (xs.length : Int)) :
    (∀ j, W.frozen? ⟨g, i.toNat * 4 + j, none⟩ = false) /\ ∃ (ys : List ByteArray) (B : Option Addr) (b : Nat) (s1 s2 s3 : ByteArray), (xs.map MN.c1)[i.toNat]? = some ys.length /\ (∀ (j : Nat) u, [Value.slice B ys.length b, vS s1, vS s2, vS s3][j]? = some u -> W.cell? ⟨g, i.toNat * 4 + j, none⟩ = some u) /\ Kd.R Kd.string 9 W base ok (vL B ys.length b) ys := by
  obtain ⟨zs, hz, hr⟩ := MN.names ho hs;(have hl : zs.length = xs.length := by simpa using congrArg List.length hz);rw [<- hl] at hr h1;obtain ⟨cs, _, hM, hc, hf⟩ := Kd.R_elem hr ⟨[], ByteArray.empty, ByteArray.empty, ByteArray.empty⟩ i h0 h1;obtain ⟨v0, rfl, hv⟩ := fZ hM;obtain ⟨B, b, rfl⟩ := rS hv;refine ⟨hf, _, B, b, _, _, _, ?_, hc, Kd.R_mono hv (fun k hk => hk.1)⟩;(have hi : i.toNat < zs.length := by omega);rw [<- hz, List.getElem?_map, List.getD_eq_getElem?_getD, List.getElem?_eq_getElem hi];rfl
theorem MN.st {w0 w W : World} {base g c : Nat} {ok ok' : Nat -> Prop} {xs : List MN.NM} (ho : Aside0 (MN.RN w base ok (vL (some ⟨g, 0, none⟩) xs.length c) xs)) (hs : Aside0 (MN.Mk w0 ok' w W)) {i : Int} (h0 : Aside0 (0 <= i)) (h1 : Aside0 (i < (xs.length : Int))) (o : Nat) (h : o = 1 \/ o = 2 \/ o = 3) :
    W.frozen? ⟨g, i.toNat * 4 + o, none⟩ = false /\ ∃ s, W.cell? ⟨g, i.toNat * 4 + o, none⟩ = some (vS s) /\ Aside0 (W.cell? ⟨g, i.toNat * 4 + o, none⟩ = some (vS s)) := by
  obtain ⟨hf, ys, B, b, s1, s2, s3, _, hc, _⟩ := MN.el ho.out hs.out.2.2 i h0.out h1.out;(rcases h with rfl | rfl | rfl);(·exact ⟨hf 1, s1, hc 1 _ rfl, ⟨hc 1 _ rfl⟩⟩);(·exact ⟨hf 2, s2, hc 2 _ rfl, ⟨hc 2 _ rfl⟩⟩);(·exact ⟨hf 3, s3, hc 3 _ rfl, ⟨hc 3 _ rfl⟩⟩)
theorem gp.calls (k : Nat) (ok : Nat -> Prop) (u : Value) (xs : List MN.NM) (a : Int) (w0 w : World) (hB : Below w0.heap.size w0 w) (ho : MN.RN w w0.heap.size ok u xs) (h0 : 0 < a) (h1 : a + (MN.cn (xs.map MN.c1) : Nat) < 4611686018427387904) (hm : Aside0 (20 <= k)) :
    Calls Tryz.prog 46 #[u, vI iK a] w fun e w' => e = .returned (vI iK (a + (MN.cn (xs.map MN.c1) : Nat))) /\ MN.Mk w0 ok w w' := by
  have HM := AM (MN.Mk.refl ok hB);obtain ⟨A, c, rfl⟩ := rS ho;have HO := AM ho
  obtain ⟨C, hC⟩ : ∃ C, C = MN.cn (xs.map MN.c1) := ⟨_, rfl⟩
  rw [<- hC] at h1 ⊢;have HC := AM hC;have HH := AM h0;have H1 := AM h1;clear ho hB hC h0 h1;(go_enter Tryz.func46, Tryz.ntmps46);(go_wp2);(go_loopw [1, 5] (fun v1 v5 wr => ∃ (i q : Int), 0 <= i /\ i <= (xs.length : Int) /\ v1 = vI iK q /\ v5 = vI iK i /\ Aside0 (∃ M, q = a + (MN.cn M : Nat) /\ M ++ (xs.map MN.c1).drop i.toNat = xs.map MN.c1) /\ Aside0 (MN.Mk w0 ok w wr)) (fun _ v _ => xs.length - (intOf v).toNat))
  case atStart => exact ⟨0, a, Int.le_refl _, by omega, rfl, rfl, ⟨[], by simp [MN.cn], rfl⟩, HM⟩
  case round =>
    obtain ⟨i, q, hi0, hin, rfl, rfl, HQ, HR⟩ := hrel;by_cases hlt : i < (xs.length : Int)
    · obtain ⟨g, rfl, hg, hk⟩ := MN.form HO.out (by omega)
      have HL := AM hlt;have H0 := AM hi0;have HG := AM hg;have HK := AM hk;clear hg hk;have p6 := eq_true hi0;have q6 := eq_true hlt;have c2b0 : decide (i < (xs.length : Int)) = true := dT hlt;have c3b0 : decide (0 <= i) = true := dT hi0;clear hlt;obtain ⟨_, ys, B, b, _, _, _, hn, hc, hr⟩ := MN.el HO.out HR.out.2.2 i H0.out HL.out;have hc0 : wr.cell? ⟨g, i.toNat * 4, none⟩ = some (vL B ys.length b) := hc 0 _ rfl;have HRR := AM hr
      obtain ⟨n, hnn⟩ : ∃ n, n = ys.length := ⟨_, rfl⟩
      rw [<- hnn] at hc0 hn;have HY := AM hnn
      have HN : Aside0 ((∃ M, q + n + 1 + 1 + 1 = a + (MN.cn M : Nat) /\ M ++ (xs.map MN.c1).drop (i + 1).toNat = xs.map MN.c1) /\ 0 < q /\ q + n + 1 + 1 + 1 < 4611686018427387904) := by
        obtain ⟨M, e1, e2⟩ := HQ.out;have hil := (List.getElem?_eq_some_iff.1 hn).1;have e3 : (xs.map MN.c1)[i.toNat] = n := (List.getElem?_eq_some_iff.1 hn).2;have e4 := congrArg MN.cn e2;rw [List.drop_eq_getElem_cons hil, e3] at e2 e4;rw [MN.cn_app, <- HC.out] at e4;simp only [MN.cn] at e4;have := H1.out;have := HH.out;refine ⟨⟨M ++ [n], ?_, ?_⟩, by omega, by omega⟩;(·(rw [MN.cn_app]; simp only [MN.cn]; omega));(·(rw [show (i + 1).toNat = i.toNat + 1 from by omega, List.append_assoc]; exact e2))
      clear hr hc hn hnn
      have HB : Aside0 (∀ j : Nat, j <= 3 -> MN.W j (q + n) < 4611686018427387904) := ⟨fun j hj => by have := HN.out.2; rw [MN.W_eq j _ (by omega) (by omega)]; omega⟩
      have E4 := AM (MN.W_eq 1 i H0.out (by have := HL.out; have h := MN.cn_len (xs.map MN.c1); have := H1.out; have := HH.out; rw [<- HC.out, List.length_map] at h; omega))
      go_wp2_with (first | ((with_reducible refine gate_callee (f := 31) rfl ?_); refine gX (some 18) Tryz.func31 #[vL B n b, vI iK q] ?_; (refine (MN.ms k ok _ ys q w0 _ HR.out.1 (HY.out ▸ HRR.out) (by have := HN.out.2; omega) (by have := HN.out.2; have := HY.out; omega) hm).mono ?_); rintro e w8 ⟨rfl, hb⟩; refine ⟨_, rfl, ?_⟩; rw [<- HY.out]; replace HR := AM (HR.out.call (fun _ h => h) hb); clear hb HRR HY hc0) | (refine MN.ZT 22 (q + n) hm (HB.out 0 (by decide)) HR ?_; clear HR; intro w10 HR; obtain ⟨hf, s0, hx, HX⟩ := MN.st HO HR H0 HL 1 (by decide)) | (refine MN.ZS 9 24 (i.toNat * 4 + 1) (vS (MN.mtx (q + n))) HR HG HK HX MN.skS ?_; clear HR hx hf HX; intro w11 HR) | (refine MN.ZT 30 (MN.W 1 (q + n)) hm (HB.out 1 (by decide)) HR ?_; clear HR; intro w12 HR; obtain ⟨hf, s0, hx, HX⟩ := MN.st HO HR H0 HL 2 (by decide)) | (refine MN.ZS 9 32 (i.toNat * 4 + 2) (vS (MN.mtx (MN.W 1 (q + n)))) HR HG HK HX MN.skS ?_; clear HR hx hf HX; intro w13 HR) | (refine MN.ZT 38 (MN.W 2 (q + n)) hm (HB.out 2 (by decide)) HR ?_; clear HR; intro w14 HR; obtain ⟨hf, s0, hx, HX⟩ := MN.st HO HR H0 HL 3 (by decide)) | (refine MN.ZS 9 40 (i.toNat * 4 + 3) (vS (MN.mtx (MN.W 2 (q + n)))) HR HG HK HX MN.skS ?_; clear HR hx hf HX; intro w15 HR))
      exact ⟨⟨MN.W 1 i, MN.W 3 (q + n), by rw [E4.out]; omega, by have := HL.out; rw [E4.out]; omega, rfl, rfl, ⟨by rw [E4.out, MN.W_eq 3 _ (by have := HN.out.2; omega) (by have := HN.out.2; omega)]; obtain ⟨M, e1, e2⟩ := HN.out.1; exact ⟨M, by omega, e2⟩⟩, HR⟩, by have := HL.out; have h := E4.out; simp only [MN.W] at h; simp [intOf, h]; omega⟩
    · have c2b0 : decide (i < (xs.length : Int)) = false := dF hlt
      have hq : q = a + (C : Int) := by
        obtain ⟨M, e1, e2⟩ := HQ.out;rw [List.drop_of_length_le (by rw [List.length_map]; omega), List.append_nil] at e2;rw [e1, e2, HC.out]
      clear HQ;subst hq;(go_wp2);(go_ret);exact ⟨rfl, HR.out⟩
abbrev ME.EN := S51
abbrev ME.RE (w : World) (base : Nat) (ok : Nat -> Prop) (v : Value) (xs : List ME.EN) : Prop := Kd.R k51 51 w base ok v xs
def ME.c2 (x : ME.EN) : List Nat × List Nat := (x.f2.map MN.c1, x.f3.map MN.c1)
def ME.ce : List (List Nat × List Nat) -> Nat
  | [] => 0
  | p :: l => MN.cn p.1 + MN.cn p.2 + 12 + ME.ce l
theorem ME.ce_app (l m : List (List Nat × List Nat)) : ME.ce (l ++ m) = ME.ce l + ME.ce m := by
  induction l with
  | nil => simp [ME.ce]
  | cons a l ih => simp only [List.cons_append, ME.ce, ih]; omega
theorem ME.ce_len (l : List (List Nat × List Nat)) : l.length <= ME.ce l := by
  induction l with
  | nil => simp
  | cons a l ih => simp only [List.length_cons, ME.ce]; omega
theorem ME.entries {w W : World} {base : Nat} {ok : Nat -> Prop} {v : Value} {xs : List ME.EN} (h : ME.RE w base ok v xs) (hs : MN.Sim w W) : ∃ ys, ys.map ME.c2 = xs.map ME.c2 /\ ME.RE W base ok v ys := by
  refine MN.row ME.c2 (fun okp x cs ds hm hl hc => ?_) h hs;obtain ⟨v2, v3, rfl, h2, h3⟩ := gx hm;obtain ⟨A2, n2, rfl⟩ := rS h2;obtain ⟨A3, n3, rfl⟩ := rS h3;obtain ⟨u0, e0, s0⟩ := hc 0 _ rfl;obtain ⟨u1, e1, s1⟩ := hc 1 _ rfl;obtain ⟨u2, e2, s2⟩ := hc 2 _ rfl;obtain ⟨u3, e3, s3⟩ := hc 3 _ rfl;obtain ⟨u4, e4, s4⟩ := hc 4 _ rfl;obtain ⟨u5, e5, s5⟩ := hc 5 _ rfl;obtain ⟨u6, e6, s6⟩ := hc 6 _ rfl;obtain ⟨u7, e7, s7⟩ := hc 7 _ rfl;obtain ⟨u8, e8, s8⟩ := hc 8 _ rfl;obtain ⟨u9, e9, s9⟩ := hc 9 _ rfl;obtain ⟨u10, e10, s10⟩ := hc 10 _ rfl;obtain ⟨u11, e11, s11⟩ := hc 11 _ rfl;obtain ⟨u12, e12, s12⟩ := hc 12 _ rfl;obtain ⟨u13, e13, s13⟩ := hc 13 _ rfl;obtain ⟨b0, rfl⟩ := MN.sk_str s0;obtain ⟨b1, rfl⟩ := MN.sk_int s1;obtain rfl := MN.sk_sl s2;obtain rfl := MN.sk_sl s3;obtain ⟨b4, rfl⟩ := MN.sk_str s4;obtain ⟨b5, rfl⟩ := MN.sk_str s5;obtain ⟨b6, rfl⟩ := MN.sk_str s6;obtain ⟨b7, rfl⟩ := MN.sk_int s7;obtain ⟨b8, rfl⟩ := MN.sk_int s8;obtain ⟨b9, rfl⟩ := MN.sk_int s9;obtain ⟨b10, rfl⟩ := MN.sk_bool s10;obtain ⟨b11, rfl⟩ := MN.sk_int s11;obtain ⟨b12, rfl⟩ := MN.sk_str s12;obtain ⟨b13, rfl⟩ := MN.sk_str s13;obtain ⟨y2, hy2, hr2⟩ := MN.names h2 hs;obtain ⟨y3, hy3, hr3⟩ := MN.names h3 hs
  have hd : ds = [vS b0, vI iK b1, vL A2 x.f2.length n2, vL A3 x.f3.length n3, vS b4, vS b5, vS b6, vI iK b7, vI iK b8, vI iK b9, .bool b10, vI iK b11, vS b12, vS b13] := by
    refine List.ext_getElem? fun i => ?_
    match i with
    | 0 => exact e0
    | 1 => exact e1
    | 2 => exact e2
    | 3 => exact e3
    | 4 => exact e4
    | 5 => exact e5
    | 6 => exact e6
    | 7 => exact e7
    | 8 => exact e8
    | 9 => exact e9
    | 10 => exact e10
    | 11 => exact e11
    | 12 => exact e12
    | 13 => exact e13
    | n + 14 => rw [List.getElem?_eq_none (by simp at hl; omega)]; rfl
  rw [hd];(have l2 : y2.length = x.f2.length := by simpa using congrArg List.length hy2);(have l3 : y3.length = x.f3.length := by simpa using congrArg List.length hy3);exact ⟨⟨b0, b1, y2, y3, b4, b5, b6, ⟨b7, b8, b9, b10⟩, b11, b12, b13⟩, by unfold ME.c2; rw [hy2, hy3], jH _ _ _ ⟨b0, b1, y2, y3, b4, b5, b6, ⟨b7, b8, b9, b10⟩, b11, b12, b13⟩ hr2 hr3⟩
theorem ME.el {w W : World} {base g c : Nat} {ok : Nat -> Prop} {xs : List ME.EN} (ho : ME.RE w base ok (vL (some ⟨g, 0, none⟩) xs.length c) xs) (hs : MN.Sim w W) (i : Int) (h0 : 0 <= i) (h1 : i < (xs.length : Int)) :
    (∀ j, W.frozen? ⟨g, i.toNat * 14 + j, none⟩ = false) /\ ∃ (x : ME.EN) (v2 v3 : Value), (xs.map ME.c2)[i.toNat]? = some (ME.c2 x) /\ (∀ (j : Nat) u, [Value.string x.f0, vI iK x.f1, v2, v3, vS x.f4, vS x.f5, vS x.f6, vI iK x.f7.f0, vI iK x.f7.f1, vI iK x.f7.f2, .bool x.f7.f3, vI iK x.f8, vS x.f9, vS x.f10][j]? = some u -> W.cell? ⟨g, i.toNat * 14 + j, none⟩ = some u) /\ MN.RN W base ok v2 x.f2 /\ MN.RN W base ok v3 x.f3 := by
  obtain ⟨zs, hz, hr⟩ := ME.entries ho hs;(have hl : zs.length = xs.length := by simpa using congrArg List.length hz);rw [<- hl] at hr h1;obtain ⟨cs, _, hM, hc, hf⟩ := Kd.R_elem hr ⟨ByteArray.empty, 0, [], [], ByteArray.empty, ByteArray.empty, ByteArray.empty, ⟨0, 0, 0, false⟩, 0, ByteArray.empty, ByteArray.empty⟩ i h0 h1;obtain ⟨v2, v3, rfl, r2, r3⟩ := gx hM;refine ⟨hf, _, v2, v3, ?_, hc, Kd.R_mono r2 (fun k hk => hk.1), Kd.R_mono r3 (fun k hk => hk.1)⟩;(have hi : i.toNat < zs.length := by omega);rw [<- hz, List.getElem?_map, List.getD_eq_getElem?_getD, List.getElem?_eq_getElem hi];rfl
theorem ME.st {w0 w W : World} {base g c : Nat} {ok ok' : Nat -> Prop} {xs : List ME.EN} (ho : Aside0 (ME.RE w base ok (vL (some ⟨g, 0, none⟩) xs.length c) xs)) (hs : Aside0 (MN.Mk w0 ok' w W)) {i : Int} (h0 : Aside0 (0 <= i)) (h1 : Aside0 (i < (xs.length : Int))) (o : Nat) (h : o = 0 \/ o = 4 \/ o = 5 \/ o = 6 \/ o = 12 \/ o = 13) :
    W.frozen? ⟨g, i.toNat * 14 + o, none⟩ = false /\ ∃ s, W.cell? ⟨g, i.toNat * 14 + o, none⟩ = some (vS s) /\ Aside0 (W.cell? ⟨g, i.toNat * 14 + o, none⟩ = some (vS s)) := by
  obtain ⟨hf, x, v2, v3, _, hc, _⟩ := ME.el ho.out hs.out.2.2 i h0.out h1.out;refine ⟨hf o, ?_⟩;(rcases h with rfl | rfl | rfl | rfl | rfl | rfl <;> exact ⟨_, hc _ _ rfl, ⟨hc _ _ rfl⟩⟩)
theorem ME.nu {w0 w W : World} {base g c : Nat} {ok ok' : Nat -> Prop} {xs : List ME.EN} (ho : Aside0 (ME.RE w base ok (vL (some ⟨g, 0, none⟩) xs.length c) xs)) (hs : Aside0 (MN.Mk w0 ok' w W)) {i : Int} (h0 : Aside0 (0 <= i)) (h1 : Aside0 (i < (xs.length : Int))) (o : Nat) (h : o = 1 \/ o = 7 \/ o = 8 \/ o = 9 \/ o = 11) :
    W.frozen? ⟨g, i.toNat * 14 + o, none⟩ = false /\ ∃ s, W.cell? ⟨g, i.toNat * 14 + o, none⟩ = some (vI iK s) /\ Aside0 (W.cell? ⟨g, i.toNat * 14 + o, none⟩ = some (vI iK s)) := by
  obtain ⟨hf, x, v2, v3, _, hc, _⟩ := ME.el ho.out hs.out.2.2 i h0.out h1.out;refine ⟨hf o, ?_⟩;(rcases h with rfl | rfl | rfl | rfl | rfl <;> exact ⟨_, hc _ _ rfl, ⟨hc _ _ rfl⟩⟩)
theorem ME.bo {w0 w W : World} {base g c : Nat} {ok ok' : Nat -> Prop} {xs : List ME.EN} (ho : Aside0 (ME.RE w base ok (vL (some ⟨g, 0, none⟩) xs.length c) xs)) (hs : Aside0 (MN.Mk w0 ok' w W)) {i : Int} (h0 : Aside0 (0 <= i)) (h1 : Aside0 (i < (xs.length : Int))) (o : Nat) (h : o = 10) :
    W.frozen? ⟨g, i.toNat * 14 + o, none⟩ = false /\ ∃ s, W.cell? ⟨g, i.toNat * 14 + o, none⟩ = some (.bool s) /\ Aside0 (W.cell? ⟨g, i.toNat * 14 + o, none⟩ = some (.bool s)) := by
  obtain ⟨hf, x, v2, v3, _, hc, _⟩ := ME.el ho.out hs.out.2.2 i h0.out h1.out;refine ⟨hf o, ?_⟩;(subst h; exact ⟨_, hc _ _ rfl, ⟨hc _ _ rfl⟩⟩)
theorem ME.na {w W : World} {base g c : Nat} {ok : Nat -> Prop} {xs : List ME.EN} (ho : ME.RE w base ok (vL (some ⟨g, 0, none⟩) xs.length c) xs) (hs : MN.Sim w W) (i : Int) (h0 : 0 <= i) (h1 : i < (xs.length : Int)) {L : List Nat × List Nat} (hL : (xs.map ME.c2)[i.toNat]? = some L) :
    (∃ (ys : List MN.NM) (B : Option Addr) (b : Nat), ys.map MN.c1 = L.1 /\ W.cell? ⟨g, i.toNat * 14 + 2, none⟩ = some (vL B ys.length b) /\ MN.RN W base ok (vL B ys.length b) ys) /\ ∃ (ys : List MN.NM) (B : Option Addr) (b : Nat), ys.map MN.c1 = L.2 /\ W.cell? ⟨g, i.toNat * 14 + 3, none⟩ = some (vL B ys.length b) /\ MN.RN W base ok (vL B ys.length b) ys := by
  obtain ⟨hf, x, v2, v3, hn, hc, r2, r3⟩ := ME.el ho hs i h0 h1;obtain ⟨A2, n2, rfl⟩ := rS r2;obtain ⟨A3, n3, rfl⟩ := rS r3;obtain rfl := oI (hn.symm.trans hL);exact ⟨⟨_, A2, n2, rfl, hc 2 _ rfl, r2⟩, _, A3, n3, rfl, hc 3 _ rfl, r3⟩
/-- The marks' count. -/
def eb.f (k : Nat) (l0 : List ME.EN) (a1 : Int) : Option Int := if (0 < a1 /\ a1 + (ME.ce (l0.map ME.c2) : Nat) < 4611686018427387904) /\ 20 <= k then some (a1 + (ME.ce (l0.map ME.c2) : Nat)) else none
theorem eb.calls (k : Nat) (ok : Nat -> Prop) (u : Value) (xs : List ME.EN) (a r : Int) (w0 w : World) (hB : Below w0.heap.size w0 w) (ho : ME.RE w w0.heap.size ok u xs) (h : eb.f k xs a = some r) :
    Calls Tryz.prog 30 #[u, vI iK a] w fun e w' => e = eR (vI iK r) /\ Below w0.heap.size w0 w' /\ Kept w w' ok := by
  have HM := AM (MN.Mk.refl ok hB);obtain ⟨A, c, rfl⟩ := rS ho;have HO := AM ho
  obtain ⟨C, hC⟩ : ∃ C, C = ME.ce (xs.map ME.c2) := ⟨_, rfl⟩
  unfold eb.f at h;rw [<- hC] at h;by_cases hc : (0 < a /\ a + (C : Int) < 4611686018427387904) /\ 20 <= k;rotate_left;(·(rw [if_neg hc] at h; cases h));rw [if_pos hc] at h;obtain rfl := oI h;have HC := AM hC;have HH := AM hc.1;have hm := AM hc.2;clear ho hB hC hc h;(go_enter Tryz.func30, Tryz.ntmps30);(go_wp2);(go_loopw [1, 5] (fun v1 v5 wr => ∃ (i q : Int), 0 <= i /\ i <= (xs.length : Int) /\ v1 = vI iK q /\ v5 = vI iK i /\ Aside0 (∃ N, q = a + (ME.ce N : Nat) /\ N ++ (xs.map ME.c2).drop i.toNat = xs.map ME.c2) /\ Aside0 (MN.Mk w0 ok w wr)) (fun _ v _ => xs.length - (intOf v).toNat))
  case atStart => exact ⟨0, a, Int.le_refl _, by omega, rfl, rfl, ⟨[], by simp [ME.ce], rfl⟩, HM⟩
  case round =>
    obtain ⟨i, q, hi0, hin, rfl, rfl, HQ, HR⟩ := hrel;by_cases hlt : i < (xs.length : Int)
    · obtain ⟨g, rfl, hg, hk⟩ := MN.form HO.out (by omega)
      have HL := AM hlt;have H0 := AM hi0;have HG := AM hg;have HK := AM hk;clear hg hk;have p6 := eq_true hi0;have q6 := eq_true hlt;have c2b0 : decide (i < (xs.length : Int)) = true := dT hlt;have c3b0 : decide (0 <= i) = true := dT hi0;(have hil : i.toNat < (xs.map ME.c2).length := by rw [List.length_map]; omega);have HI := AM (List.getElem?_eq_getElem hil)
      obtain ⟨L, hLL⟩ : ∃ L, L = (xs.map ME.c2)[i.toNat] := ⟨_, rfl⟩
      rw [<- hLL] at HI
      have HN : Aside0 ((∃ N, q + (MN.cn L.1 : Nat) + (MN.cn L.2 : Nat) + 12 = a + (ME.ce N : Nat) /\ N ++ (xs.map ME.c2).drop (i + 1).toNat = xs.map ME.c2) /\ 0 < q /\ q + (MN.cn L.1 : Nat) + (MN.cn L.2 : Nat) + 12 < 4611686018427387904 /\ i + 1 < 4611686018427387904) := by
        obtain ⟨N, e1, e2⟩ := HQ.out;have e4 := congrArg ME.ce e2;rw [List.drop_eq_getElem_cons hil, <- hLL] at e2 e4;rw [ME.ce_app, <- HC.out] at e4;simp only [ME.ce] at e4;have h5 := ME.ce_len (xs.map ME.c2);rw [<- HC.out, List.length_map] at h5;have := HH.out;refine ⟨⟨N ++ [L], ?_, ?_⟩, by omega, by omega, by omega⟩;(·(rw [ME.ce_app]; simp only [ME.ce]; omega));(·(rw [show (i + 1).toNat = i.toNat + 1 from by omega, List.append_assoc]; exact e2))
      clear hlt hil hLL
      obtain ⟨m1, hm1⟩ : ∃ m, m = MN.cn L.1 := ⟨_, rfl⟩
      obtain ⟨m2, hm2⟩ : ∃ m, m = MN.cn L.2 := ⟨_, rfl⟩
      rw [<- hm1, <- hm2] at HN;have HM1 := AM hm1;have HM2 := AM hm2;clear hm1 hm2;have E0 := AM (MN.W_eq 1 i H0.out (by have := HN.out.2; omega));have HA := AM (MN.W_eq 2 q (by have := HN.out.2; omega) (by have := HN.out.2; omega))
      have HW : Aside0 (∀ j : Nat, j <= 10 -> MN.W j (MN.W 2 q + m1 + m2) = q + 2 + m1 + m2 + j) := ⟨fun j hj => by have := HN.out.2; rw [HA.out, MN.W_eq j _ (by omega) (by omega)]; omega⟩
      have HB : Aside0 (∀ j : Nat, j <= 10 -> MN.W j (MN.W 2 q + m1 + m2) < 4611686018427387904) := ⟨fun j hj => by have := HN.out.2; rw [HW.out j hj]; omega⟩
      go_wp2_with (first | (refine MN.ZT 15 q hm (by have := HN.out.2; omega) HR ?_; clear HR; intro w8 HR; obtain ⟨hf, s0, hx, HX⟩ := ME.st HO HR H0 HL 0 (by decide); rw [Nat.add_zero] at hf hx HX) | (refine MN.ZS 9 17 (i.toNat * 14) (vS (MN.mtx q)) HR HG HK HX MN.skS ?_; clear HR hx hf HX; intro w9 HR; obtain ⟨hf, s0, hx, HX⟩ := ME.nu HO HR H0 HL 1 (by decide)) | (refine MN.ZS 3 24 (i.toNat * 14 + 1) (vI iK (MN.W 1 q)) HR HG HK HX MN.skI ?_; clear HR hx hf HX; intro w10 HR; obtain ⟨ys, B, b, hy, hc, hr⟩ := (ME.na HO.out HR.out.2.2 i H0.out HL.out HI.out).1; have HY := AM hy; have HRR := AM hr; clear hy hr) | ((with_reducible refine gC (f := 46) rfl ?_); refine gX (some 33) Tryz.func46 #[vL B ys.length b, vI iK (MN.W 2 q)] ?_; (refine (gp.calls k ok _ ys (MN.W 2 q) w0 _ HR.out.1 HRR.out (by rw [HA.out]; have := HN.out.2; omega) (by rw [HY.out, <- HM1.out, HA.out]; have := HN.out.2; omega) hm).mono ?_); rintro e w11 ⟨rfl, hb⟩; refine ⟨_, rfl, ?_⟩; rw [HY.out, <- HM1.out]; replace HR := AM (HR.out.call (fun _ h => h) hb); clear hb HRR HY hc; obtain ⟨ys, B, b, hy, hc, hr⟩ := (ME.na HO.out HR.out.2.2 i H0.out HL.out HI.out).2; have HY := AM hy; have HRR := AM hr; clear hy hr) | ((with_reducible refine gC (f := 46) rfl ?_); refine gX (some 40) Tryz.func46 #[vL B ys.length b, vI iK (MN.W 2 q + m1)] ?_; (refine (gp.calls k ok _ ys (MN.W 2 q + m1) w0 _ HR.out.1 HRR.out (by rw [HA.out]; have := HN.out.2; omega) (by rw [HY.out, <- HM2.out, HA.out]; have := HN.out.2; omega) hm).mono ?_); rintro e w12 ⟨rfl, hb⟩; refine ⟨_, rfl, ?_⟩; rw [HY.out, <- HM2.out]; replace HR := AM (HR.out.call (fun _ h => h) hb); clear hb HRR HY hc) | (refine MN.ZT 44 (MN.W 2 q + m1 + m2) hm (HB.out 0 (by decide)) HR ?_; clear HR; intro w13 HR; obtain ⟨hf, s0, hx, HX⟩ := ME.st HO HR H0 HL 4 (by decide)) | (refine MN.ZS 9 46 (i.toNat * 14 + 4) (vS (MN.mtx (MN.W 2 q + m1 + m2))) HR HG HK HX MN.skS ?_; clear HR hx hf HX; intro w14 HR) | (refine MN.ZT 52 (MN.W 1 (MN.W 2 q + m1 + m2)) hm (HB.out 1 (by decide)) HR ?_; clear HR; intro w15 HR; obtain ⟨hf, s0, hx, HX⟩ := ME.st HO HR H0 HL 5 (by decide)) | (refine MN.ZS 9 54 (i.toNat * 14 + 5) (vS (MN.mtx (MN.W 1 (MN.W 2 q + m1 + m2)))) HR HG HK HX MN.skS ?_; clear HR hx hf HX; intro w16 HR) | (refine MN.ZT 60 (MN.W 2 (MN.W 2 q + m1 + m2)) hm (HB.out 2 (by decide)) HR ?_; clear HR; intro w17 HR; obtain ⟨hf, s0, hx, HX⟩ := ME.st HO HR H0 HL 6 (by decide)) | (refine MN.ZS 9 62 (i.toNat * 14 + 6) (vS (MN.mtx (MN.W 2 (MN.W 2 q + m1 + m2)))) HR HG HK HX MN.skS ?_; clear HR hx hf HX; intro w18 HR; obtain ⟨hf, s0, hx, HX⟩ := ME.nu HO HR H0 HL 7 (by decide)) | (refine MN.ZS 3 70 (i.toNat * 14 + 7) (vI iK (MN.W 3 (MN.W 2 q + m1 + m2))) HR HG HK HX MN.skI ?_; clear HR hx hf HX; intro w19 HR; obtain ⟨hf, s0, hx, HX⟩ := ME.nu HO HR H0 HL 8 (by decide)) | (refine MN.ZS 3 78 (i.toNat * 14 + 8) (vI iK (MN.W 4 (MN.W 2 q + m1 + m2))) HR HG HK HX MN.skI ?_; clear HR hx hf HX; intro w20 HR; obtain ⟨hf, s0, hx, HX⟩ := ME.nu HO HR H0 HL 9 (by decide)) | (refine MN.ZS 3 86 (i.toNat * 14 + 9) (vI iK (MN.W 5 (MN.W 2 q + m1 + m2))) HR HG HK HX MN.skI ?_; clear HR hx hf HX; intro w21 HR; obtain ⟨hf, s0, hx, HX⟩ := ME.bo HO HR H0 HL 10 (by decide)) | (refine MN.ZS 4 96 (i.toNat * 14 + 10) (.bool (Int.tmod (MN.W 6 (MN.W 2 q + m1 + m2)) 3 == 0)) HR HG HK HX MN.skB ?_; clear HR hx hf HX; intro w22 HR; obtain ⟨hf, s0, hx, HX⟩ := ME.nu HO HR H0 HL 11 (by decide)) | (refine MN.ZS 3 103 (i.toNat * 14 + 11) (vI iK (MN.W 7 (MN.W 2 q + m1 + m2))) HR HG HK HX MN.skI ?_; clear HR hx hf HX; intro w23 HR) | (refine MN.ZT 109 (MN.W 8 (MN.W 2 q + m1 + m2)) hm (HB.out 8 (by decide)) HR ?_; clear HR; intro w24 HR; obtain ⟨hf, s0, hx, HX⟩ := ME.st HO HR H0 HL 12 (by decide)) | (refine MN.ZS 9 111 (i.toNat * 14 + 12) (vS (MN.mtx (MN.W 8 (MN.W 2 q + m1 + m2)))) HR HG HK HX MN.skS ?_; clear HR hx hf HX; intro w25 HR) | (refine MN.ZT 117 (MN.W 9 (MN.W 2 q + m1 + m2)) hm (HB.out 9 (by decide)) HR ?_; clear HR; intro w26 HR; obtain ⟨hf, s0, hx, HX⟩ := ME.st HO HR H0 HL 13 (by decide)) | (refine MN.ZS 9 119 (i.toNat * 14 + 13) (vS (MN.mtx (MN.W 9 (MN.W 2 q + m1 + m2)))) HR HG HK HX MN.skS ?_; clear HR hx hf HX; intro w27 HR))
      exact ⟨⟨MN.W 1 i, MN.W 10 (MN.W 2 q + m1 + m2), by rw [E0.out]; omega, by have := HL.out; rw [E0.out]; omega, rfl, rfl, ⟨by rw [E0.out, HW.out 10 (by decide)]; obtain ⟨N, e1, e2⟩ := HN.out.1; exact ⟨N, by omega, e2⟩⟩, HR⟩, by have := HL.out; have h := E0.out; simp only [MN.W] at h; simp [intOf, h]; omega⟩
    · have c2b0 : decide (i < (xs.length : Int)) = false := dF hlt
      have hq : q = a + (C : Int) := by
        obtain ⟨N, e1, e2⟩ := HQ.out;rw [List.drop_of_length_le (by rw [List.length_map]; omega), List.append_nil] at e2;rw [e1, e2, HC.out]
      clear HQ;subst hq;(go_wp2);(go_ret);exact ⟨rfl, HR.out.1, HR.out.2.1⟩
def dj.f (k : Nat) (l0_0 : List (S51)) (a1 : Int) : Option (Int) := (eb.f k l0_0 a1).bind fun t641 => (some t641)
theorem dj.calls (k : Nat) (P0_0_ : Nat -> Prop) (u9000_ : Value) (l0_0 : List (S51)) (a1 r : Int) (w0 w : World) (hB : Below w0.heap.size w0 w) (ho0_0 : Kd.R k51 51 w w0.heap.size P0_0_ u9000_ l0_0) (h : dj.f k l0_0 a1 = some r) :
  Calls Tryz.prog 11 #[.agg #[u9000_], vI iK a1] w fun e w' => e = eR (vI iK r) /\ Below w0.heap.size w0 w' /\ Kept w w' (fun k_ => P0_0_ k_) := by
 have hu32 := Tryz.underlying32;have HO0_0 := AM (show Kd.R k51 51 w w0.heap.size (fun k_ => (P0_0_ k_ \/ w.heap.size <= k_)) u9000_ l0_0 from Kd.R_mono ho0_0 (fun k_ hk => (.inl hk)));have HK := AM (Kept.refl w (fun k_ => P0_0_ k_));have HW0 := AM hB.size;have HB := AM hB;clear hB;have H := h;unfold dj.f at H;clear h;obtain ⟨t641, A3, H⟩ := oA H;obtain rfl := oI H;obtain ⟨Ao4, co4, eo4⟩ := rS HO0_0.out;subst eo4;(go_enter Tryz.func11, Tryz.ntmps11)
 go_wp2_with (first | ((with_reducible refine gate_dst (N := 2) rfl ?_); refine bX (N := 2) (cs := #[vL Ao4 l0_0.length co4]) (t := 32) ?_; intro gb640 hg w5 hbox hb; replace HO0_0 := AM (Kd.R_below (qR HO0_0) hb); have BK640 := AM (hbox); have GW640 := AM ((by rw [hg]; exact kq : w.heap.size <= gb640)); replace HK := AM (Kept.below (S := (fun k_ => P0_0_ k_)) kp hb); have GE640 := AM ((by rw [hg]; exact (below_size bb) : w0.heap.size <= gb640)); replace HB := bH hb; clear hb hbox hg; have z6_0 : w5.cell? ⟨gb640, 0, none⟩ = some (vL Ao4 l0_0.length co4) := (blk_cell BK640.out 0).trans rfl) | ((with_reducible refine gC (f := 30) rfl ?_); refine gX (some 8) Tryz.func30 #[vL Ao4 l0_0.length co4, vI iK a1] ?_; (with_reducible refine (eb.calls k (fun k_ => (((P0_0_ k_ \/ w.heap.size <= k_))) /\ w0.heap.size <= k_ /\ k_ ≠ gb640) (vL Ao4 l0_0.length co4) l0_0 a1 t641 w0 _ ?side1 ?side2 A3.out).mono ?_); (case side1 => repeat (first | (with_reducible first | exact HB.out | apply pA | apply pN | apply p1 | refine pS ?_ GE640.out))); (case side2 => (with_reducible repeat (first | apply Kd.R_alloc | apply Kd.R_drewN | apply Kd.R_drew)); exact Kd.R_mono (Kd.R_bound (Kd.R_types HO0_0.out (by (with_reducible repeat first | apply blk_drewN | apply blk_drew | apply blk_alloc); exact BK640.out) (by decide))) (fun k_ hk => ⟨by simpa only [true_and, and_true, and_assoc] using hk.1.1, hk.2.1, hk.1.2⟩)); rintro e w7 ⟨rfl, hb, hkp⟩; refine ⟨_, rfl, ?_⟩; replace BK640 := AM (fo (by (with_reducible repeat first | apply blk_drewN | apply blk_drew | apply blk_alloc); exact BK640.out) hkp (fun hs_ => (fun e_ => e_.2.2 rfl) hs_)); replace HK := AM (Kept.then_ (S := (fun k_ => P0_0_ k_)) (by repeat (first | (with_reducible first | exact HK.out | apply Kept.alloc | apply Kept.drewN | apply Kept.drew | refine Kept.setCell ?_ (.inr GW640.out) _) | exact HK.out)) hkp (fun k_ hs_ => (fun e_ => e_.1) hs_)); replace HB := AM (hb); clear HO0_0; (try clear hb);(try clear hkp)))
 (go_ret);exact ⟨rfl, bb, by repeat (first | (with_reducible first | exact HK.out | apply Kept.alloc | apply Kept.drewN | apply Kept.drew | refine Kept.setCell ?_ (.inr GW640.out) _) | exact HK.out)⟩
def de.l0 : Nat -> List Int -> Int -> Int -> Option (Int × List Int)
 | 0, _, _, _ => none
 | k + 1, x0, x1, x5 => if x5 < (x0.length : Int) then (if 0 <= x5 then (de.l0 k (x0.set (x5 : Int).toNat x1) (wrap64 (x1 + 1)) (wrap64 (x5 + 1))) else (none)) else (some (x1, x0))
def de.f (k : Nat) (l0 : List Int) (a1 : Int) : Option (Int × List Int) := de.l0 k l0 a1 0
theorem de.calls (k : Nat) (P0_ : Nat -> Prop) (u9000_ : Value) (l0 : List Int) (a1 r1 : Int) (r2 : List Int) (w0 w : World) (hB : Below w0.heap.size w0 w) (ho0 : Kd.R (Kd.int iK) 3 w w0.heap.size P0_ u9000_ l0) (h : de.f k l0 a1 = some (r1, r2)) :
  Calls Tryz.prog 12 #[u9000_, vI iK a1] w fun e w' => e = eR (vI iK r1) /\ Kd.R (Kd.int iK) 3 w' w0.heap.size (fun k_ => (P0_ k_ \/ w.heap.size <= k_)) u9000_ r2 /\ Below w0.heap.size w0 w' /\ Kept w w' (fun k_ => P0_ k_) := by
 have HO0 := AM (show Kd.R (Kd.int iK) 3 w w0.heap.size (fun k_ => (P0_ k_ \/ w.heap.size <= k_)) u9000_ l0 from Kd.R_mono ho0 (fun k_ hk => (.inl hk)));have HK := AM (Kept.refl w (fun k_ => P0_ k_));have HW0 := AM hB.size;have HB := AM hB;clear hB;have H := h;unfold de.f at H;clear h;have H' := AM H;clear H;(go_enter Tryz.func12, Tryz.ntmps12);(go_wp2);(go_loopg [1, 5] k (fun kq v1 v5 w' => ∃ (x0_1 : List Int) (x1_1 x5_1 : Int), v1 = vI iK x1_1 /\ v5 = vI iK x5_1 /\ Aside0 (de.l0 kq x0_1 x1_1 x5_1 = some (r1, r2)) /\ Aside0 (kq <= k) /\ Aside0 (Kd.R (Kd.int iK) 3 w' w0.heap.size (fun k_ => (P0_ k_ \/ w.heap.size <= k_)) u9000_ x0_1) /\ Aside0 (Kept w w' (fun k_ => P0_ k_)) /\ Aside0 (Below w0.heap.size w0 w')))
 case atStart => exact ⟨(l0), (a1), (0), rf, rf, H', ⟨Nat.le_refl _⟩, ⟨qR HO0⟩, ⟨kp⟩, ⟨bb⟩⟩
 case round =>
  clear H';obtain ⟨x0_1, x1_1, x5_1, rfl, rfl, HA, HK1, HO_0, HK, HB⟩ := hrel
  cases gk with
  | zero => exact absurd HA.out (by simp [de.l0])
  | succ k1 =>
   have H := HA.out;clear HA;simp only [de.l0] at H;by_cases c3 : x5_1 < (x0_1.length : Int)
   ·rw [if_pos c3] at H
    have c3b0 := dT c3;clear c3;obtain ⟨c4, H⟩ := nI H;have c4b0 := dT c4;clear c4;generalize hy642 : (x0_1.set (x5_1 : Int).toNat x1_1) = y642 at H;have Ny642 := AM hy642.symm;clear hy642;have H' := AM H;clear H;obtain ⟨Ao6, co6, eo6⟩ := rS HO_0.out;subst eo6;have p5 := pz x5_1;have q5 : (x5_1 : Int) < ((x0_1.length : Int) : Int) := oD (by assumption);obtain ⟨go5, co5, eo5, gb5, gl5, cl5, HG5⟩ := Kd.R_form HO_0.out (by omega);(first | cases eo5 | (injection eo5 with ea_ en_ ec_; (first | subst ea_ | (injection ea_ with ea_; subst ea_)); subst ec_; clear en_));have GB5 := AM gb5;have GG5 := AM HG5;clear gb5 gl5 HG5;have HMgo5 := AM (show (P0_ go5 \/ w.heap.size <= go5) from (HO_0.out.1 _ rfl));obtain ⟨hx5_0, hf5_0⟩ := Kd.R_celln 0 HO_0.out (x5_1 : Int) p5 q5;replace p5 := eq_true p5;replace q5 := eq_true q5;have HP7 := Kd.R_putg HO_0.out (x5_1 : Int) x1_1
    go_wp2_with (first | ((with_reducible refine fz (t := 3) (p := 15) rfl ?_); refine eZ (t := 3) (p := 15) (v := ?vo_w8) (w1 := (wr.setCell ⟨go5, (x5_1 : Int).toNat, none⟩ (vI iK x1_1))) ?hg ?ho ?hn ?hr ?_; (case ho => rfl); (case hg => rfl); (case hn => rfl); (case hr => first | (go_simp; done) | (go_simp; rfl)); intro w8 hw; have hg : wr.grownBy w8 (some go5) := (by rw [hw]; exact HP7.2); have hp_ : Kd.R (Kd.int iK) 3 w8 w0.heap.size (fun k_ => (P0_ k_ \/ w.heap.size <= k_)) (vL (some ⟨go5, 0, none⟩) x0_1.length co6) y642 := (by rw [hw, Ny642.out]; exact HP7.1); clear HP7; replace HB := AM ((by rw [hw]; exact pS (HB.out) GB5.out : Below w0.heap.size w0 w8)); replace HK := AM (Kept.of_grown (S := (fun k_ => P0_ k_)) hg kp (fun k_ e_ => (HO_0.out.1 k_ e_))); replace HO_0 := AM (hp_); clear hg hw hp_))
    go_roundg k1
    case measure => have := HK1.out; omega
    case rel => exact ⟨(y642), (wrap64 (x1_1 + 1)), (wrap64 (x5_1 + 1)), rf, rf, H', ⟨by have := HK1.out; omega⟩, ⟨qR HO_0⟩, ⟨kp⟩, ⟨bb⟩⟩
   ·rw [if_neg c3] at H
    have c3b0 := dF c3;clear c3;simp only [Option.some.injEq, Prod.mk.injEq] at H;obtain ⟨rfl, rfl⟩ := H;obtain ⟨Ao9, co9, eo9⟩ := rS HO_0.out;subst eo9;(go_wp2);(go_ret);exact ⟨rfl, by (with_reducible repeat (first | apply Kd.R_alloc | apply Kd.R_drewN | apply Kd.R_drew)); exact HO_0.out, bb, kp⟩
abbrev MS.kd : Kd (List ByteArray) := Kd.slice 9 Kd.string
/-- A row of rows whose outer cells are 'inner' all along. -/
def MS.RI (e : Nat) (W : World) (base : Nat) (ok : Nat -> Prop) (u : Value) (inner : List Value) (ys : List (List ByteArray)) : Prop :=
  W.ownsRow base e 1 u ys.length inner /\ ∀ (j : Nat) v x, inner[j]? = some v -> ys[j]? = some x -> Kd.R Kd.string 9 W base (fun k => ok k /\ some k ≠ u.ownBlock) v x
section
variable {e base : Nat} {ok : Nat -> Prop} {W W' : World} {u v : Value} {inner : List Value} {ys : List (List ByteArray)}
theorem MS.len (h : MS.RI e W base ok u inner ys) : inner.length = ys.length := by
  have := h.1.1;omega
theorem MS.opn (h : Kd.R MS.kd e W base ok u ys) : ∃ inner, MS.RI e W base ok u inner ys := by
  obtain ⟨h0, inner, ho, hr⟩ := h;refine ⟨inner, ho, fun j v x hv hx => ?_⟩;obtain ⟨v', e1, h1⟩ := hr.2 j x hx
  have e2 : some v = some v' := by
    (have e3 : ((inner.drop (j * 1)).take 1)[0]? = some v' := by rw [show (inner.drop (j * 1)).take 1 = [v'] from e1]; rfl);rw [List.getElem?_take, if_pos (by omega), List.getElem?_drop, Nat.mul_one, Nat.add_zero, hv] at e3;exact e3
  rw [oI e2];exact h1
theorem MS.shut (h0 : ∀ k, u.ownBlock = some k -> ok k) (h : MS.RI e W base ok u inner ys) : Kd.R MS.kd e W base ok u ys := by
  have hl := MS.len h;refine ⟨h0, inner, h.1, by rw [hl]; exact (Nat.mul_one _).symm, fun j x hx => ?_⟩
  have hj : j < inner.length := by
    have := (List.getElem?_eq_some_iff.1 hx).1;omega
  refine ⟨inner[j], ?_, h.2 j _ x (List.getElem?_eq_getElem hj) hx⟩
  show (inner.drop (j * 1)).take 1 = [inner[j]]
  rw [Nat.mul_one, List.drop_eq_getElem_cons hj];rfl
/-- Rows that begin differently lie in different blocks. -/
theorem MS.sep (h : MS.RI e W base ok u inner ys) (hn : (ys.map (·.head?)).Nodup) (h0 : none ∉ ys.map (·.head?)) (i j : Nat) (v v' : Value) (k : Nat) (hij : i ≠ j) (hi : inner[i]? = some v) (hj : inner[j]? = some v') (hv : v.ownBlock = some k) : v'.ownBlock ≠ some k := by
  intro hv';have hl := MS.len h;have li := (List.getElem?_eq_some_iff.1 hi).1;have lj := (List.getElem?_eq_some_iff.1 hj).1
  have key : ∀ (a : Nat) (ha : a < ys.length) (va : Value), inner[a]? = some va -> va.ownBlock = some k -> ∃ s, (ys.map (·.head?))[a]? = some (some s) /\ W.cell? ⟨k, 0, none⟩ = some (.string s) := fun a ha va h1 h2 => by
    have hx := h.2 a va ys[a] h1 (List.getElem?_eq_getElem ha);(have hm : (ys.map (·.head?))[a]? = some ys[a].head? := by rw [List.getElem?_map, List.getElem?_eq_getElem ha]; rfl)
    cases hc : ys[a] with
    | nil => exact absurd (List.mem_of_getElem? (hm.trans (by rw [hc]; rfl))) h0
    | cons s l =>
      rw [hc] at hx hm;obtain ⟨g, c, rfl, _, _⟩ := Kd.R_form hx (by simp);have : g = k := oI (show some g = some k from h2);subst this;exact ⟨s, hm, (Kd.R_cell ByteArray.empty hx 0 (by omega) (by rw [List.length_cons]; omega)).1⟩
  obtain ⟨s, a1, a2⟩ := key i (by omega) v hi hv;obtain ⟨t, b1, b2⟩ := key j (by omega) v' hj hv';have e3 : s = t := Value.string.inj (oI (a2.symm.trans b2));subst e3;obtain ⟨c1, c2⟩ := List.getElem?_eq_some_iff.1 a1;obtain ⟨d1, d2⟩ := List.getElem?_eq_some_iff.1 b1;have hp := List.pairwise_iff_getElem.1 hn;(rcases Nat.lt_or_gt_of_ne hij with h1 | h1);(·exact hp i j c1 d1 h1 (c2.trans d2.symm));(·exact hp j i d1 c1 h1 (d2.trans c2.symm))
theorem MS.step {ok' : Nat -> Prop} {z : List ByteArray} (h : MS.RI e W base ok u inner ys) (i : Nat) (hv : inner[i]? = some v) (hs : ∀ (j : Nat) v' k, i ≠ j -> inner[j]? = some v' -> v.ownBlock = some k -> v'.ownBlock ≠ some k) (hk : Kept W W' (fun k => some k = v.ownBlock)) (hr : Kd.R Kd.string 9 W' base ok' v z) : MS.RI e W' base ok u inner (ys.set i z) := by
  have hl := MS.len h;have li := (List.getElem?_eq_some_iff.1 hv).1;have hx := h.2 i v _ hv (List.getElem?_eq_getElem (by omega));refine ⟨by rw [List.length_set]; exact j3 h.1 (fun k hk' => hk.2 k (j8 h.1 k hk') (fun e => (hx.1 k e.symm).2 hk'.symm)), fun j v1 x hv1 hx1 => ?_⟩;rw [List.getElem?_set] at hx1;by_cases hji : i = j;(·subst hji;rw [if_pos rfl, if_pos (by omega)] at hx1;obtain rfl := oI hx1;obtain rfl := oI (hv.symm.trans hv1);exact Kd.R_reok rfl hr hx.1);(·rw [if_neg hji] at hx1;have hy := h.2 j v1 x hv1 hx1;exact Kd.R_mono (Kd.R_kept (Kd.R_tight rfl hy) hk (fun k h1 h2 => hs j v1 k hji hv1 h2.symm h1.symm)) (fun k hk => hy.1 k hk.symm))
theorem MS.cell {g c : Nat} (h : MS.RI e W base ok (vL (some ⟨g, 0, none⟩) ys.length c) inner ys) (i : Nat) (hv : inner[i]? = some v) : W.cell? ⟨g, i, none⟩ = some v := by
  have li := (List.getElem?_eq_some_iff.1 hv).1;have hl := MS.len h
  rcases h.1.2 with ⟨he, _⟩ | ⟨g', cap, cur, he, hg, hb, hcap, hmax, hsz, htk⟩
  (·cases he);(·cases he;simp only [World.cell?, hb];rw [<- htk, List.getElem?_take, if_pos (by omega)] at hv;(simpa using hv))
end
/-- The rows marked, one behind the other. -/
def bj.g (k : Nat) : List (List ByteArray) -> Int -> Option (Int × List (List ByteArray))
  | [], a => some (a, [])
  | x :: l, a => (cl.f k x a).bind fun p => (bj.g k l p.1).bind fun s => some (s.1, p.2 :: s.2)
noncomputable def bj.f (k : Nat) (l0 : List (List ByteArray)) (a1 : Int) : Option (Int × List (List ByteArray)) := @ite _ ((l0.map (·.head?)).Nodup /\ none ∉ l0.map (·.head?)) (Classical.propDecidable _) (bj.g k l0 a1) none
theorem bj.calls (k : Nat) (P0_ : Nat -> Prop) (u9000_ : Value) (l0 : List (List ByteArray)) (a1 r1 : Int) (r2 : List (List ByteArray)) (w0 w : World) (hB : Below w0.heap.size w0 w) (ho0 : Kd.R (Kd.slice 9 Kd.string) 43 w w0.heap.size P0_ u9000_ l0) (h : bj.f k l0 a1 = some (r1, r2)) :
    Calls Tryz.prog 13 #[u9000_, vI iK a1] w fun e w' => e = .returned (vI iK r1) /\ Kd.R (Kd.slice 9 Kd.string) 43 w' w0.heap.size (fun k_ => (P0_ k_ \/ w.heap.size <= k_)) u9000_ r2 /\ Below w0.heap.size w0 w' /\ Kept w w' (fun k_ => P0_ k_) := by
  unfold bj.f at h;by_cases hc : (l0.map (·.head?)).Nodup /\ none ∉ l0.map (·.head?);rotate_left;(·(rw [if_neg hc] at h; cases h));rw [if_pos hc] at h;obtain ⟨A, c, rfl⟩ := rS ho0;obtain ⟨inner, hI⟩ := MS.opn ho0;have hs := MS.sep hI hc.1 hc.2;have hlen := MS.len hI;(have hmx : l0.length <= 9223372036854775807 := (Kd.R_reads ho0).elim fun _ h => h.elim fun _ h => h.2.2.2.1);have h00 := ho0.1;have HO := AM h00;have HS := AM hs;have HL := AM hlen;have HX := AM hmx
  have HI : Aside0 (∃ (done rest : List (List ByteArray)), (done.length : Int) = 0 /\ bj.g k (l0.drop (0 : Int).toNat) a1 = some (r1, rest) /\ r2 = done ++ rest /\ MS.RI 43 w w0.heap.size P0_ (vL A l0.length c) inner (done ++ l0.drop (0 : Int).toNat)) := ⟨[], r2, rfl, h, rfl, hI⟩
  have HK := AM (show Below w0.heap.size w0 w /\ Kept w w P0_ from ⟨hB, Kept.refl _ _⟩);clear ho0 hI hs hlen hmx h00 hB h hc;(go_enter Tryz.func13, Tryz.ntmps13);(go_wp2);(go_loopw [1, 5] (fun v1 v5 wr => ∃ (i q : Int), 0 <= i /\ i <= (l0.length : Int) /\ v1 = vI iK q /\ v5 = vI iK i /\ Aside0 (∃ (done rest : List (List ByteArray)), (done.length : Int) = i /\ bj.g k (l0.drop i.toNat) q = some (r1, rest) /\ r2 = done ++ rest /\ MS.RI 43 wr w0.heap.size P0_ (vL A l0.length c) inner (done ++ l0.drop i.toNat)) /\ Aside0 (Below w0.heap.size w0 wr /\ Kept w wr P0_)) (fun _ v _ => l0.length - (intOf v).toNat))
  case atStart => exact ⟨0, a1, Int.le_refl _, by omega, rfl, rfl, HI, HK⟩
  case round =>
    obtain ⟨i, q, hi0, hin, rfl, rfl, HQ, HR⟩ := hrel;clear HI HK;by_cases hlt : i < (l0.length : Int)
    · have hil : i.toNat < l0.length := by omega
      obtain ⟨done, rest, hd, hg, hr2, hI⟩ := HQ.out;(have hli : i.toNat < inner.length := by rw [HL.out]; exact hil);(have hdl : (done ++ l0.drop i.toNat).length = l0.length := by rw [List.length_append, List.length_drop]; omega)
      have hat : (done ++ l0.drop i.toNat)[i.toNat]? = some l0[i.toNat] := by
        rw [List.getElem?_append_right (by omega), show i.toNat - done.length = 0 from by omega, List.drop_eq_getElem_cons hil];rfl
      have hv := List.getElem?_eq_getElem hli;have hx := hI.2 i.toNat _ _ hv hat;obtain ⟨B, b, hB1⟩ := rS hx;rw [hB1] at hv hx;obtain ⟨g, eA, ng1, ng2⟩ := MN.form (MS.shut HO.out hI) (by omega);subst eA;have hc0 : wr.cell? ⟨g, i.toNat, none⟩ = some (vL B l0[i.toNat].length b) := MS.cell (by rw [hdl]; exact hI) i.toNat hv;rw [List.drop_eq_getElem_cons hil] at hg;simp only [bj.g] at hg;obtain ⟨p, hp, hg2⟩ := oB.1 hg;obtain ⟨s, hs1, hg3⟩ := oB.1 hg2;have hg1 : (s.1, p.2 :: s.2) = (r1, rest) := oI hg3;clear hg hg2 hg3;obtain ⟨p1, p2⟩ := p
      have hset : (done ++ l0.drop i.toNat).set i.toNat p2 = (done ++ [p2]) ++ l0.drop (i + 1).toNat := by
        rw [List.drop_eq_getElem_cons hil, List.set_append_right _ _ (by omega), show i.toNat - done.length = 0 from by omega, List.append_assoc, show (i + 1).toNat = i.toNat + 1 from by omega];rfl
      have HN : Aside0 (∀ W', Kd.R Kd.string 9 W' w0.heap.size (fun k_ => (some k_ = (Value.slice B l0[i.toNat].length b).ownBlock \/ wr.heap.size <= k_)) (vL B l0[i.toNat].length b) p2 -> Below w0.heap.size w0 W' -> Kept wr W' (fun k_ => some k_ = (Value.slice B l0[i.toNat].length b).ownBlock) -> (∃ (done rest : List (List ByteArray)), (done.length : Int) = i + 1 /\ bj.g k (l0.drop (i + 1).toNat) p1 = some (r1, rest) /\ r2 = done ++ rest /\ MS.RI 43 W' w0.heap.size P0_ (vL (some ⟨g, 0, none⟩) l0.length c) inner (done ++ l0.drop (i + 1).toNat)) /\ Below w0.heap.size w0 W' /\ Kept w W' P0_) := ⟨fun W' k1 k2 k3 => by
        have h1 := MS.step hI i.toNat hv (fun j v' k' hne hj hb => HS.out i.toNat j _ v' k' hne hv hj hb) k3 k1;rw [hset] at h1;refine ⟨⟨done ++ [p2], s.2, by rw [List.length_append, List.length_singleton]; omega, ?_, ?_, h1⟩, k2, HR.out.2.then_ k3 (fun j hj => .inl (hx.1 j hj.symm).1)⟩;(·rw [show (i + 1).toNat = i.toNat + 1 from by omega, <- (Prod.mk.inj hg1).1];exact hs1)
        · rw [hr2, <- (Prod.mk.inj hg1).2, List.append_assoc]
          rfl⟩
      have HP := AM hp;have HXX := AM (Kd.R_tight rfl hx);have HLT := AM hlt
      have E : Aside0 (wrap64 (i + 1) = i + 1) := ⟨by have := HX.out; unfold wrap64; omega⟩
      generalize l0[i.toNat] = X at hc0 HN HP HXX;clear hd hg1 hr2 hI ng1 ng2 hli hdl hat hv hx hp hs1 hset hB1 HQ hil;have p6 := eq_true hi0;have q6 := eq_true hlt;have c2b0 : decide (i < (l0.length : Int)) = true := dT hlt;have c3b0 : decide (0 <= i) = true := dT hi0;clear hlt
      go_wp2_with (first | ((with_reducible refine gate_callee (f := 31) rfl ?_); refine goesL_ (some _) rfl rfl Tryz.func31 (by kernel_rfl) rfl #[vL B X.length b, vI iK q] rfl (by (try simp only [List.map_toArray, List.map_cons, List.map_nil]); first | done | rfl) ?_; (refine (cl.calls k _ _ X q p1 p2 w0 _ HR.out.1 HXX.out HP.out).mono ?_); rintro e w8 ⟨rfl, k1, k2, k3⟩; refine ⟨_, rfl, ?_⟩; have HZ := AM (HN.out w8 k1 k2 k3); clear k1 k2 k3 HN HP HXX hc0))
      refine ⟨⟨_, _, ?_, ?_, rfl, rfl, ?_, ⟨HZ.out.2⟩⟩, ?_⟩
      · first | omega | (rw [E.out]; omega)
      · have := HLT.out
        first | omega | (rw [E.out]; omega)
      · first | exact ⟨HZ.out.1⟩ | (rw [E.out]; exact ⟨HZ.out.1⟩)
      · have := HLT.out
        have h := E.out;simp [intOf];(try simp only [h]);omega
    · have c2b0 : decide (i < (l0.length : Int)) = false := dF hlt
      have hfin : q = r1 /\ Kd.R (Kd.slice 9 Kd.string) 43 wr w0.heap.size (fun k_ => (P0_ k_ \/ w.heap.size <= k_)) (vL A l0.length c) r2 := by
        obtain ⟨done, rest, hd, hg, hr2, hI⟩ := HQ.out;rw [List.drop_of_length_le (by omega)] at hg hI;have hg1 : (q, ([] : List (List ByteArray))) = (r1, rest) := oI hg;rw [List.append_nil] at hI;rw [<- (Prod.mk.inj hg1).2, List.append_nil] at hr2;rw [hr2];exact ⟨(Prod.mk.inj hg1).1, Kd.R_mono (MS.shut HO.out hI) (fun k hk => .inl hk)⟩
      obtain ⟨e1, hf⟩ := hfin;subst e1;have HF := AM hf;clear HQ hf;(go_wp2);(go_ret);exact ⟨rfl, HF.out, HR.out.1, HR.out.2⟩
def cT.l0 : Nat -> List Int -> Int -> Int -> Option (Int)
 | 0, _, _, _ => none
 | k + 1, x0, x1, x5 => if x5 < (x0.length : Int) then (if 0 <= x5 then (if (rd x0 x5) = x1 then (cT.l0 k x0 (wrap64 (x1 + 1)) (wrap64 (x5 + 1))) else (some (-1))) else (none)) else (some x1)
def cT.f (k : Nat) (l0 : List Int) (a1 : Int) : Option (Int) := cT.l0 k l0 a1 0
theorem cT.calls (k : Nat) (A0 : Option Addr) (c0 : Nat) (l0 : List Int) (a1 r : Int) (w : World) (hr0 : Kd.C (Kd.int iK) w A0 l0.length l0) (hc0 : l0.length <= c0) (h : cT.f k l0 a1 = some r) :
  Calls Tryz.prog 14 #[vL A0 l0.length c0, vI iK a1] w fun e w' => e = .returned (vI iK r) /\ aT w w' := by
 have HR0 := AM hr0;have HC0 := AM hc0;clear hr0 hc0;have H := h;unfold cT.f at H;clear h;have H' := AM H;clear H;(go_enter Tryz.func14, Tryz.ntmps14);(go_wp2);(go_loopg [1, 5] k (fun kq v1 v5 w' => ∃ (x1_1 x5_1 : Int), v1 = vI iK x1_1 /\ v5 = vI iK x5_1 /\ Aside0 (cT.l0 kq l0 x1_1 x5_1 = some r) /\ Aside0 (kq <= k) /\ aT w w'))
 case atStart => exact ⟨(a1), (0), rf, rf, H', ⟨Nat.le_refl _⟩, dR⟩
 case round =>
  clear H';obtain ⟨x1_1, x5_1, rfl, rfl, HA, HK1, ⟨m1, rfl⟩⟩ := hrel
  cases gk with
  | zero => exact absurd HA.out (by simp [cT.l0])
  | succ k1 =>
   have H := HA.out;clear HA;simp only [cT.l0] at H;by_cases c3 : x5_1 < (l0.length : Int)
   ·rw [if_pos c3] at H
    have c3b0 := dT c3;clear c3;obtain ⟨c4, H⟩ := nI H;have c4b0 := dT c4;clear c4;by_cases c5 : (rd l0 x5_1) = x1_1
    ·rw [if_pos c5] at H
     have c5b0 : ((rd l0 x5_1) == x1_1) = true := beq_iff_eq.mpr c5;have c5b1 : ((rd l0 x5_1) != x1_1) = false := bne_eq_false_iff_eq.mpr c5;clear c5;have H' := AM H;clear H;have p643 := pz x5_1;have q643 := qz x5_1 (l0.length : Int);obtain ⟨ad643, e643, hx643_0⟩ := Kd.at_int HR0.out x5_1 p643 q643;cases e643;replace p643 := eq_true p643;replace q643 := eq_true q643;(go_wp2);(go_roundg k1)
     case measure => have := HK1.out; omega
     case rel => exact ⟨(wrap64 (x1_1 + 1)), (wrap64 (x5_1 + 1)), rf, rf, H', ⟨by have := HK1.out; omega⟩, dR⟩
    ·rw [if_neg c5] at H
     have c5b0 : ((rd l0 x5_1) == x1_1) = false := beq_eq_false_iff_ne.mpr c5;have c5b1 : ((rd l0 x5_1) != x1_1) = true := bne_iff_ne.mpr c5;obtain rfl := oI H;have p643 := pz x5_1;have q643 := qz x5_1 (l0.length : Int);obtain ⟨ad643, e643, hx643_0⟩ := Kd.at_int HR0.out x5_1 p643 q643;cases e643;replace p643 := eq_true p643;replace q643 := eq_true q643;(go_wp2);(go_ret);exact ⟨rf, dR⟩
   ·rw [if_neg c3] at H
    have c3b0 := dF c3;clear c3;obtain rfl := oI H;(go_wp2);(go_ret);exact ⟨rf, dR⟩
def bM.l0 : Nat -> List ByteArray -> Int -> Int -> Option (Int)
 | 0, _, _, _ => none
 | k + 1, x0, x1, x5 => if x5 < (x0.length : Int) then (if 0 <= x5 then ((aN.f k x1).bind fun t645 => (if (aC ByteArray.empty x0 x5).toList = t645.toList then (bM.l0 k x0 (wrap64 (x1 + 1)) (wrap64 (x5 + 1))) else (some (-1)))) else (none)) else (some x1)
def bM.f (k : Nat) (l0 : List ByteArray) (a1 : Int) : Option (Int) := bM.l0 k l0 a1 0
theorem bM.calls (k : Nat) (A0 : Option Addr) (c0 : Nat) (l0 : List ByteArray) (a1 r : Int) (w : World) (hr0 : Kd.C Kd.string w A0 l0.length l0) (hc0 : l0.length <= c0) (h : bM.f k l0 a1 = some r) :
  Calls Tryz.prog 32 #[.slice A0 l0.length c0, vI iK a1] w fun e w' => e = .returned (vI iK r) /\ Below w.heap.size w w' := by
 have HR0 := AM hr0;have HC0 := AM hc0;clear hr0 hc0;have HB := AM (Below.refl w.heap.size w);have H := h;unfold bM.f at H;clear h;have H' := AM H;clear H;(go_enter Tryz.func32, Tryz.ntmps32);(go_wp2);(go_loopg [1, 5] k (fun kq v1 v5 w' => ∃ (x1_1 x5_1 : Int), v1 = vI iK x1_1 /\ v5 = vI iK x5_1 /\ Aside0 (bM.l0 kq l0 x1_1 x5_1 = some r) /\ Aside0 (kq <= k) /\ Aside0 (Below w.heap.size w w')))
 case atStart => exact ⟨(a1), (0), rf, rf, H', ⟨Nat.le_refl _⟩, ⟨bb⟩⟩
 case round =>
  clear H';obtain ⟨x1_1, x5_1, rfl, rfl, HA, HK1, HB⟩ := hrel
  cases gk with
  | zero => exact absurd HA.out (by simp [bM.l0])
  | succ k1 =>
   have H := HA.out;clear HA;simp only [bM.l0] at H;by_cases c3 : x5_1 < (l0.length : Int)
   ·rw [if_pos c3] at H
    have c3b0 := dT c3;clear c3;obtain ⟨c4, H⟩ := nI H;have c4b0 := dT c4;clear c4;obtain ⟨t645, A5, H⟩ := oA H;have HC6 := AM H;clear H;(try go_wp2);replace HB := AM (p1 HB.out);have p644 := pz x5_1;have q644 := qz x5_1 (l0.length : Int);obtain ⟨ad644, e644, hx644_0⟩ := Kd.at_string HR0.out x5_1 p644 q644;have hw644_0 := hx644_0;cases e644;replace hx644_0 := cU hx644_0;replace p644 := eq_true p644;replace q644 := eq_true q644;refine dv (n := 7) (S := fun w' => w'.cell? (ad644.add (x5_1).toNat) = some (.string (aC ByteArray.empty l0 x5_1))) (ds := []) (bA 7 0) (by kernel_rfl) rfl rfl ((cU hw644_0)) (fun hHeld => ?_);generalize wr.drew = w7 at HB hx644_0 hHeld ⊢;refine fc (i := 0) (N := some 12) (v := ?_) (a' := ?_) (bA 7 1) rfl rfl (by kernel_rfl) (fun _ _ _ h => h) (Or.inl ⟨by rfl, ?_⟩) ?_ ?_;rotate_left;(·intro w';go_simp;(with_reducible rfl));rotate_left;(·simp only [Act.put, lT, lZ, lS, aq, aA];rfl);refine fc (i := 1) (N := some 13) (v := ?_) (a' := ?_) (bA 7 3) rfl rfl (by kernel_rfl) (fun _ _ _ h => h) (Or.inl ⟨by rfl, ?_⟩) ?_ ?_;rotate_left;(·intro w';go_simp;(with_reducible rfl));rotate_left;(·simp only [Act.put, lT, lZ, lS, aq, aA];rfl);refine fc (i := 2) (N := some 14) (v := ?_) (a' := ?_) (bA 7 7) rfl rfl (by kernel_rfl) (fun _ _ _ h => h) (Or.inl ⟨by rfl, ?_⟩) ?_ ?_;rotate_left;(·intro w';go_simp;(with_reducible rfl));rotate_left;(·simp only [Act.put, lT, lZ, lS, aq, aA];rfl);refine fc (i := 4) (N := some 16) (v := ?_) (a' := ?_) (bA 7 23) rfl rfl (by kernel_rfl) (fun _ _ _ h => h) (Or.inl ⟨by rfl, ?_⟩) ?_ ?_;rotate_left;(·intro w';go_simp;(with_reducible rfl));rotate_left;(·simp only [Act.put, lT, lZ, lS, aq, aA];rfl);refine take_ (i := 3) (N := some 15) (v := ?_) (a' := ?_) (bA 7 31) rfl rfl (by kernel_rfl) (fun _ _ _ h => h) (Or.inl ⟨by rfl, ?_⟩) hHeld ?_ ?_;rotate_left;(·intro w' s0;go_simp;(with_reducible rfl));rotate_left;(·simp only [Act.put, lT, lZ, lS, aq, aA];rfl);refine gY (i := 5) (N := some 17) (bA 7 63) rfl rfl (by kernel_rfl) (by decide) (fun K hK => ?_);refine gV Tryz.func45 #[vI iK x1_1] ?_;(with_reducible refine (aN.calls k1 x1_1 t645 _ A5.out).mono ?_);rintro e w8 ⟨rfl, hb⟩;refine ⟨_, rfl, ?_⟩;replace HB := bH hb;(try clear hb);refine hK.out _ _ ((cU hw644_0)) (fun hHeld => ?_);clear hK K;refine nP ?_;refine fc (i := 6) (N := some 18) (v := ?_) (a' := ?_) (bA 7 127) rfl rfl (by kernel_rfl) (fun _ _ _ h => h) (Or.inl ⟨by rfl, ?_⟩) ?_ ?_;rotate_left;(·intro w';go_simp;(with_reducible rfl));rotate_left;(·simp only [Act.put, lT, lZ, lS, aq, aA];rfl);refine dV (by kernel_rfl) ?_
    go_upto_if 18 with (fail)
    have H := HC6.out;clear HC6;by_cases c9 : (aC ByteArray.empty l0 x5_1).toList = t645.toList
    ·rw [if_pos c9] at H
     have c9b0 : ((aC ByteArray.empty l0 x5_1).toList == t645.toList) = true := beq_iff_eq.mpr c9;have c9b1 : ((aC ByteArray.empty l0 x5_1).toList != t645.toList) = false := bne_eq_false_iff_eq.mpr c9;clear c9;(first | rw [c9b0] | rw [c9b1] | (simp only [aq, aA]; rw [c9b0]) | skip);have H' := AM H;clear H;(go_wp2);(go_roundg k1)
     case measure => have := HK1.out; omega
     case rel => exact ⟨(wrap64 (x1_1 + 1)), (wrap64 (x5_1 + 1)), rf, rf, H', ⟨by have := HK1.out; omega⟩, ⟨bb⟩⟩
    ·rw [if_neg c9] at H
     have c9b0 : ((aC ByteArray.empty l0 x5_1).toList == t645.toList) = false := beq_eq_false_iff_ne.mpr c9;have c9b1 : ((aC ByteArray.empty l0 x5_1).toList != t645.toList) = true := bne_iff_ne.mpr c9;(first | rw [c9b0] | rw [c9b1] | (simp only [aq, aA]; rw [c9b0]) | skip);obtain rfl := oI H;(go_wp2);(go_ret);exact ⟨rfl, bb⟩
   ·rw [if_neg c3] at H
    have c3b0 := dF c3;clear c3;obtain rfl := oI H;(go_wp2);(go_ret);exact ⟨rfl, bb⟩
def bu.l0 : Nat -> List (List ByteArray) -> Int -> Int -> Option (Int)
 | 0, _, _, _ => none
 | k + 1, x0, x1, x5 => if x5 < (x0.length : Int) then (if 0 <= x5 then ((bM.f k (ex x0 x5) x1).bind fun t647 => (if t647 < 0 then (some (-1)) else (bu.l0 k x0 t647 (wrap64 (x5 + 1))))) else (none)) else (some x1)
def bu.f (k : Nat) (l0 : List (List ByteArray)) (a1 : Int) : Option (Int) := bu.l0 k l0 a1 0
theorem bu.calls (k : Nat) (A0 : Option Addr) (c0 : Nat) (l0 : List (List ByteArray)) (a1 r : Int) (w : World) (hr0 : Kd.C (Kd.slice 9 Kd.string) w A0 l0.length l0) (hc0 : l0.length <= c0) (h : bu.f k l0 a1 = some r) :
  Calls Tryz.prog 15 #[.slice A0 l0.length c0, vI iK a1] w fun e w' => e = .returned (vI iK r) /\ Below w.heap.size w w' := by
 have HR0 := AM hr0;have HC0 := AM hc0;clear hr0 hc0;have HB := AM (Below.refl w.heap.size w);have H := h;unfold bu.f at H;clear h;have H' := AM H;clear H;(go_enter Tryz.func15, Tryz.ntmps15);(go_wp2);(go_loopg [1, 5] k (fun kq v1 v5 w' => ∃ (x1_1 x5_1 : Int), v1 = vI iK x1_1 /\ v5 = vI iK x5_1 /\ Aside0 (bu.l0 kq l0 x1_1 x5_1 = some r) /\ Aside0 (kq <= k) /\ Aside0 (Below w.heap.size w w')))
 case atStart => exact ⟨(a1), (0), rf, rf, H', ⟨Nat.le_refl _⟩, ⟨bb⟩⟩
 case round =>
  clear H';obtain ⟨x1_1, x5_1, rfl, rfl, HA, HK1, HB⟩ := hrel
  cases gk with
  | zero => exact absurd HA.out (by simp [bu.l0])
  | succ k1 =>
   have H := HA.out;clear HA;simp only [bu.l0] at H;by_cases c3 : x5_1 < (l0.length : Int)
   ·rw [if_pos c3] at H
    have c3b0 := dT c3;clear c3;obtain ⟨c4, H⟩ := nI H;have c4b0 := dT c4;clear c4;obtain ⟨t647, A5, H⟩ := oA H;by_cases c6 : t647 < 0
    ·rw [if_pos c6] at H
     have c6b0 := dT c6;clear c6;obtain rfl := oI H;have p646 := pz x5_1;have q646 := qz x5_1 (l0.length : Int);obtain ⟨ad646, A646_0, c646_0, e646, hx646_0, hl646_0, hi646_0⟩ := jq HR0.out x5_1 p646 q646;cases e646;replace hx646_0 := cU hx646_0;have HR646_0 := AM hi646_0;have HC646_0 := AM hl646_0;clear hi646_0 hl646_0;replace p646 := eq_true p646;replace q646 := eq_true q646
     go_wp2_with (first | ((with_reducible refine gate_callee (f := 32) rfl ?_); refine gZ (some 17) Tryz.func32 #[.slice A646_0 (ex l0 x5_1).length c646_0, vI iK x1_1] (bM.calls k1 _ _ (ex l0 x5_1) x1_1 t647 _ (cX HR646_0) HC646_0.out A5.out) ?_; intro w7 hb; replace HB := bH hb; (try clear hb)))
     (go_ret);exact ⟨rfl, bb⟩
    ·rw [if_neg c6] at H
     have c6b0 := dF c6;clear c6;have H' := AM H;clear H;have p646 := pz x5_1;have q646 := qz x5_1 (l0.length : Int);obtain ⟨ad646, A646_0, c646_0, e646, hx646_0, hl646_0, hi646_0⟩ := jq HR0.out x5_1 p646 q646;cases e646;replace hx646_0 := cU hx646_0;have HR646_0 := AM hi646_0;have HC646_0 := AM hl646_0;clear hi646_0 hl646_0;replace p646 := eq_true p646;replace q646 := eq_true q646
     go_wp2_with (first | ((with_reducible refine gate_callee (f := 32) rfl ?_); refine gZ (some 17) Tryz.func32 #[.slice A646_0 (ex l0 x5_1).length c646_0, vI iK x1_1] (bM.calls k1 _ _ (ex l0 x5_1) x1_1 t647 _ (cX HR646_0) HC646_0.out A5.out) ?_; intro w8 hb; replace HB := bH hb; (try clear hb)))
     go_roundg k1
     case measure => have := HK1.out; omega
     case rel => exact ⟨(t647), (wrap64 (x5_1 + 1)), rf, rf, H', ⟨by have := HK1.out; omega⟩, ⟨bb⟩⟩
   ·rw [if_neg c3] at H
    have c3b0 := dF c3;clear c3;obtain rfl := oI H;(go_wp2);(go_ret);exact ⟨rfl, bb⟩
end Go.Proofs.YtiaelacjjbdolaaGreatDoor.Px
