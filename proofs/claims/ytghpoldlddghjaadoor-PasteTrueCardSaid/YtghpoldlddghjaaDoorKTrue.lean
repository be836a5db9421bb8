/- The law PasteTrue: its walk, its row and its card. Conditions: none. -/
import Derived.Test.YtghpoldlddghjaaDoorM4
import Derived.Test.YtghpoldlddghjaaDoorMY
import Derived.Test.YtghpoldlddghjaaDoorMX
import Derived.Test.YtghpoldlddghjaaDoorM3
import Derived.Test.YtghpoldlddghjaaDoorCards
import Derived.Test.YtghpoldlddghjaaDoorTie
import Derived.WalkKit
import Derived.ProofKit
import Derived.OpenShut
import Derived.Deep.DeepHandedRow
import Derived.Deep.DeepWitnessRowRef
set_option linter.unusedVariables false
set_option linter.unusedSimpArgs false
namespace Go.Proofs.YtghpoldlddghjaaDoor
open Go Go.RowKit
open Go.Proofs.YtghpoldlddghjaaDoorW.PrintWords Go.Proofs.YtghpoldlddghjaaDoorW.PrintMore Go.Proofs.YtghpoldlddghjaaDoor.PPasteTrue
theorem mx_le {a b c : Int} : mx a b ≤ c ↔ a ≤ c ∧ b ≤ c := by unfold mx; split <;> omega
theorem le_mn {a b c : Int} : c ≤ mn a b ↔ c ≤ a ∧ c ≤ b := by unfold mn; split <;> omega
theorem right_iff (b : Bk) (p : Int) : rightB b p = true ↔ ∀ j, j < b.surfs.length → (rubs b j p).1 ≤ (rubs b j p).2 := by
  unfold rightB
  rw [List.all_eq_true]
  simp
end Go.Proofs.YtghpoldlddghjaaDoor
namespace Go.Proofs.YtghpoldlddghjaaDoor
open Go Go.RowKit
open Go.Proofs.YtghpoldlddghjaaDoorW.PrintWords Go.Proofs.YtghpoldlddghjaaDoorW.PrintMore Go.Proofs.YtghpoldlddghjaaDoor.PPasteTrue
section
variable {w : World} {h : Hd} {b : Bk} {l : List (Nat × Int × Int)} {hx h' : Hd} {t : S59} {g : Nat} {r : Int × Int} {wq w1 : World} {b3 b4 b8 b9 : Bool}
end
theorem right_at {h : Hd} {x : Bk} {w : World} (hb : BkIn w h x) (hsa : Sane x) {y : Bool} (h1 : decide (askE x true = 0) = y) (h2 : eRight x = 0) : Calls Tryd.prog 15 #[.agg (h.cells x)] w fun e w' => e = .returned (.tuple #[.bool y, .int .i64 0]) ∧ Below w.heap.size w w' := by
  have h3 := Right_calls hb hsa (w := w)
  rw [h1, h2] at h3
  exact h3
theorem power_at {h : Hd} {x : Bk} {w : World} (hb : BkIn w h x) (hsa : Sane x) {r : Int × Int} {ey : Int} (h1 : kR x = r) (h2 : askE x true = ey) : Calls Tryd.prog 17 #[.agg (h.cells x)] w fun e w' => e = .returned (.tuple #[.agg #[.int .i64 r.1, .int .i64 r.2], .int .i64 ey]) ∧ Below w.heap.size w w' := by
  rw [← h1, ← h2]
  exact Power_calls hb hsa
end Go.Proofs.YtghpoldlddghjaaDoor
namespace Go.Proofs.YtghpoldlddghjaaDoor
open Go Go.RowKit
open Go.Proofs.YtghpoldlddghjaaDoorW.PrintWords Go.Proofs.YtghpoldlddghjaaDoorW.PrintMore Go.Proofs.YtghpoldlddghjaaDoor.PPasteTrue
def itemI (l : List Int) (n : Int) : Int := (luciferref00_Item.f l n).getD 0
theorem item_f (l : List Int) (n : Int) (hl : l.length ≤ 9223372036854775807) : luciferref00_Item.f l n = some (itemI l n) := by
  have key : ∃ x, luciferref00_Item.f l n = some x := by
    unfold luciferref00_Item.f
    by_cases h : (l.length : Int) = 0
    · exact ⟨0, by rw [if_pos h]⟩
    · obtain ⟨h1, h2, h3⟩ := spin_f n l.length (by omega) (by omega)
      exact ⟨_, by rw [if_neg h, h1, Option.bind_some, if_pos h2, if_pos h3]⟩
  obtain ⟨x, hx⟩ := key
  unfold itemI
  rw [hx]
  rfl
def drawnI (lo hi n : Int) : Int := (luciferref00_Drawn.f lo hi n).getD 0
theorem drawn_f (lo hi n : Int) (h0 : 0 ≤ lo) (h1 : lo ≤ hi) (h2 : hi ≤ 1000) : luciferref00_Drawn.f lo hi n = some (drawnI lo hi n) ∧ lo ≤ drawnI lo hi n ∧ drawnI lo hi n ≤ hi := by
  have e1 : wrap64 (wrap64 (hi - lo) + 1) = hi - lo + 1 := by
    rw [show wrap64 (hi - lo) = hi - lo by unfold wrap64; omega]
    unfold wrap64
    omega
  obtain ⟨h3, h4, h5⟩ := spin_f n (hi - lo + 1) (by omega) (by omega)
  have key : luciferref00_Drawn.f lo hi n = some (lo + spinI n (hi - lo + 1)) := by
    unfold luciferref00_Drawn.f
    rw [e1, h3, Option.bind_some, show wrap64 (lo + spinI n (hi - lo + 1)) = lo + spinI n (hi - lo + 1) by unfold wrap64; omega]
  unfold drawnI
  rw [key]
  exact ⟨rfl, by simp only [Option.getD_some]; omega, by simp only [Option.getD_some]; omega⟩
def partsN (bits : List Int) (ss : List S68) (n : Nat) : List Int := (List.range n).map fun (i : Nat) => drawnI (rd_T68 ss i).f1.f0 (rd_T68 ss i).f1.f1 (itemI bits i)
def partsOf (b : Bk) (bits : List Int) : List Int := partsN bits b.salts b.salts.length
theorem partsN_succ (bits : List Int) (ss : List S68) (n : Nat) : partsN bits ss (n + 1) = partsN bits ss n ++ [drawnI (rd_T68 ss n).f1.f0 (rd_T68 ss n).f1.f1 (itemI bits n)] := by
  unfold partsN
  rw [List.range_succ, List.map_append]
  rfl
theorem partsN_len (bits : List Int) (ss : List S68) (n : Nat) : (partsN bits ss n).length = n := by simp [partsN]
theorem fit_iff : ∀ (ss : List S68) (xs : List Int), Fit ss xs ↔ xs.length = ss.length ∧ ∀ i, i < ss.length → (rd_T68 ss (i : Int)).f1.f0 ≤ rd xs (i : Int) ∧ rd xs (i : Int) ≤ (rd_T68 ss (i : Int)).f1.f1
  | [], [] => by simp [Fit]
  | [], x :: xs => by simp [Fit]
  | s :: ss, [] => by simp [Fit]
  | s :: ss, x :: xs => by
    simp only [Fit, fit_iff ss xs, List.length_cons]
    constructor
    · rintro ⟨h1, h2, h3, h4⟩
      refine ⟨by omega, fun i hi => ?_⟩
      rcases i with _ | i
      · exact ⟨h1, h2⟩
      · have := h4 i (by omega)
        simpa [rd_T68, rd] using this
    · rintro ⟨h1, h2⟩
      have h0 := h2 0 (by omega)
      refine ⟨by simpa [rd_T68, rd] using h0.1, by simpa [rd_T68, rd] using h0.2, by omega, fun i hi => ?_⟩
      have := h2 (i + 1) (by omega)
      simpa [rd_T68, rd] using this
theorem rd_partsN {bits : List Int} {ss : List S68} {n i : Nat} (h : i < n) : rd (partsN bits ss n) (i : Int) = drawnI (rd_T68 ss i).f1.f0 (rd_T68 ss i).f1.f1 (itemI bits i) := by
  unfold rd partsN
  rw [List.getD_eq_getElem?_getD, Int.toNat_natCast, List.getElem?_eq_getElem (by simpa using h)]
  simp
theorem fit_parts {b : Bk} (hs : SP b) (bits : List Int) : Fit b.salts (partsOf b bits) := by
  rw [fit_iff]
  refine ⟨partsN_len _ _ _, fun i hi => ?_⟩
  unfold partsOf
  rw [rd_partsN hi]
  have h1 := hs.s _ (rd68_mem hi)
  exact (drawn_f _ _ _ (by omega) (by omega) (by omega)).2
def saltTo (b : Bk) (xs : List Int) (n : Nat) : Int := ((List.range n).map (saltVal b xs)).sum
def pairTo (ps : List S77) (xs : List Int) (n : Nat) : Int := ((ps.take n).map (pairVal xs)).sum
theorem sum_snoc (l : List Int) (x : Int) : (l ++ [x]).sum = l.sum + x := by simp
theorem saltTo_succ (b : Bk) (xs : List Int) (n : Nat) : saltTo b xs (n + 1) = saltTo b xs n + saltVal b xs n := by
  unfold saltTo
  rw [List.range_succ, List.map_append]
  exact sum_snoc _ _
theorem pairTo_succ (ps : List S77) (xs : List Int) {n : Nat} (h : n < ps.length) : pairTo ps xs (n + 1) = pairTo ps xs n + pairVal xs (rd_T77 ps n) := by
  unfold pairTo
  rw [List.take_succ_eq_append_getElem h, List.map_append]
  have : ps[n] = rd_T77 ps (n : Int) := by
    unfold rd_T77
    rw [List.getD_eq_getElem?_getD, Int.toNat_natCast, List.getElem?_eq_getElem h]
    rfl
  rw [this]
  exact sum_snoc _ _
theorem power_to (b : Bk) (xs : List Int) (h : xs.length = b.salts.length) : powerI b xs = saltTo b xs b.salts.length + pairTo b.pairs xs b.pairs.length := by
  unfold powerI saltTo pairTo
  rw [h, List.take_length]
theorem mul_range {a c : Int} (h0 : 0 ≤ a) (h1 : a ≤ 9) (h2 : 0 ≤ c) (h3 : c ≤ 9) : 0 ≤ a * c ∧ a * c ≤ 81 := ⟨Int.mul_nonneg h0 h2, by have := Int.mul_le_mul h1 h3 h2 (by decide : (0 : Int) ≤ 9); omega⟩
theorem saltVal_range {b : Bk} (hs : SP b) {xs : List Int} (hx : ∀ x ∈ xs, 0 ≤ x ∧ x ≤ 9) (i : Nat) : 0 ≤ saltVal b xs i ∧ saltVal b xs i ≤ 81 := by
  unfold saltVal
  have h1 : 0 ≤ rd xs (i : Int) ∧ rd xs (i : Int) ≤ 9 := by
    unfold rd
    rw [List.getD_eq_getElem?_getD]
    cases h : xs[(i : Int).toNat]? with
    | none => simp
    | some x => exact hx x (List.mem_of_getElem? h)
  have h2 : 0 ≤ (rd_T68 b.salts (i : Int)).f0 ∧ (rd_T68 b.salts (i : Int)).f0 ≤ 9 := by
    by_cases hi : i < b.salts.length
    · have := hs.s _ (rd68_mem hi)
      omega
    · unfold rd_T68
      rw [List.getD_eq_getElem?_getD, Int.toNat_natCast, List.getElem?_eq_none (by omega)]
      decide
  exact mul_range h1.1 h1.2 h2.1 h2.2
theorem saltTo_range {b : Bk} (hs : SP b) {xs : List Int} (hx : ∀ x ∈ xs, 0 ≤ x ∧ x ≤ 9) : ∀ n : Nat, 0 ≤ saltTo b xs n ∧ saltTo b xs n ≤ 81 * n
  | 0 => by simp [saltTo]
  | n + 1 => by
    have h1 := saltTo_range hs hx n
    have h2 := saltVal_range hs hx n
    rw [saltTo_succ]
    omega
theorem pairVal_range {b : Bk} (hs : SP b) (xs : List Int) {p : S77} (hp : p ∈ b.pairs) : 0 ≤ pairVal xs p ∧ pairVal xs p ≤ 30 := by
  have := hs.p p hp
  unfold pairVal
  split <;> omega
theorem pairTo_range {b : Bk} (hs : SP b) (xs : List Int) : ∀ n : Nat, n ≤ b.pairs.length → 0 ≤ pairTo b.pairs xs n ∧ pairTo b.pairs xs n ≤ 30 * n
  | 0, _ => by simp [pairTo]
  | n + 1, h => by
    have h1 := pairTo_range hs xs n (by omega)
    have h2 := pairVal_range hs xs (rd77_mem (show n < b.pairs.length by omega))
    rw [pairTo_succ _ _ (by omega)]
    omega
theorem rd_nonneg {xs : List Int} (hx : ∀ x ∈ xs, 0 ≤ x ∧ x ≤ 9) (i : Int) : 0 ≤ rd xs i ∧ rd xs i ≤ 9 := by
  unfold rd
  rw [List.getD_eq_getElem?_getD]
  cases h : xs[i.toNat]? with
  | none => simp
  | some x => exact hx x (List.mem_of_getElem? h)
theorem wrap_id {n m : Int} (h : n = m) (h0 : -1000000 ≤ m) (h1 : m ≤ 1000000) : wrap64 n = m := by subst h; unfold wrap64; omega
theorem mn_pos {a b : Int} (h0 : 0 ≤ a) (h1 : 0 ≤ b) : mn a b > 0 ↔ ¬ (a = 0 ∨ b = 0) := by
  unfold mn
  split <;> omega
theorem mixed_l1 {b : Bk} (hs : SP b) {xs : List Int} (hx : ∀ x ∈ xs, 0 ≤ x ∧ x ≤ 9) (hl : xs.length = b.salts.length) (l2 : List S47) (nd : Int) (l4 : List S59) : ∀ (d m k : Nat) (acc : Int), b.pairs.length = m + d → d < k → 0 ≤ acc → acc ≤ 1000 →
    luciferlaw02_mixed.l1 k (acc + pairTo b.pairs xs m) xs m b.salts b.pairs l2 nd l4 = some (acc + pairTo b.pairs xs b.pairs.length) := by
  intro d
  induction d with
  | zero =>
    intro m k acc hm hk h0 h1
    obtain ⟨k, rfl⟩ : ∃ q, k = q + 1 := ⟨k - 1, by omega⟩
    obtain rfl : m = b.pairs.length := by omega
    simp only [luciferlaw02_mixed.l1]
    rw [if_neg (Int.lt_irrefl _)]
  | succ d ih =>
    intro m k acc hm hk h0 h1
    obtain ⟨k, rfl⟩ : ∃ q, k = q + 1 := ⟨k - 1, by omega⟩
    have hml : m < b.pairs.length := by omega
    have hp := hs.p _ (rd77_mem hml)
    have g1 : (m : Int) < (b.pairs.length : Int) := Int.ofNat_lt.2 hml
    have g2 : 0 ≤ (m : Int) := Int.natCast_nonneg m
    have g3 : (rd_T77 b.pairs (m : Int)).f0 < (xs.length : Int) := by rw [hl]; exact hp.2.1
    have g4 : (rd_T77 b.pairs (m : Int)).f1 < (xs.length : Int) := by rw [hl]; exact hp.2.2.2.1
    have e1 : wrap64 ((m : Int) + 1) = ((m + 1 : Nat) : Int) := wrap_id rfl (by omega) (by have := hs.p1; omega)
    have hmn := mn_pos (rd_nonneg hx (rd_T77 b.pairs (m : Int)).f0).1 (rd_nonneg hx (rd_T77 b.pairs (m : Int)).f1).1
    have := ih (m + 1) k acc (by omega) (by omega) h0 h1
    rw [pairTo_succ b.pairs xs hml] at this
    simp only [luciferlaw02_mixed.l1]
    rw [if_pos g1, if_pos g2, if_pos hp.1, if_pos g3, if_pos hp.2.2.1, if_pos g4, e1]
    by_cases hc : mn (rd xs (rd_T77 b.pairs (m : Int)).f0) (rd xs (rd_T77 b.pairs (m : Int)).f1) > 0
    · rw [if_pos hc]
      have hpv : pairVal xs (rd_T77 b.pairs (m : Int)) = (rd_T77 b.pairs (m : Int)).f2 := by unfold pairVal; rw [if_neg (hmn.1 hc)]
      rw [hpv] at this
      have hw : wrap64 (acc + pairTo b.pairs xs m + (rd_T77 b.pairs (m : Int)).f2) = acc + (pairTo b.pairs xs m + (rd_T77 b.pairs (m : Int)).f2) := by
        have hr := pairTo_range hs xs m (by omega)
        have hp1 := hs.p1
        clear this hmn hc hpv e1 ih
        exact wrap_id (Int.add_assoc _ _ _) (by omega) (by omega)
      rw [hw]
      exact this
    · rw [if_neg hc]
      have hpv : pairVal xs (rd_T77 b.pairs (m : Int)) = 0 := by
        unfold pairVal
        rw [if_pos]
        exact Classical.byContradiction fun h => hc (hmn.2 h)
      rw [hpv, Int.add_zero] at this
      exact this
theorem mixed_l0 {b : Bk} (hs : SP b) (bits : List Int) (hb : bits.length ≤ 9223372036854775807) (l2 : List S47) (nd : Int) (l4 : List S59) : ∀ (d m k : Nat), b.salts.length = m + d → d + b.pairs.length + 1 < k →
    luciferlaw02_mixed.l0 k bits (saltTo b (partsOf b bits) m) (partsN bits b.salts m) m b.salts b.pairs l2 nd l4 = some (powerI b (partsOf b bits)) := by
  have hfit := fit_parts hs bits
  have hx := hfit.small hs.s
  have hln : (partsOf b bits).length = b.salts.length := partsN_len _ _ _
  intro d
  induction d with
  | zero =>
    intro m k hm hk
    obtain ⟨k, rfl⟩ : ∃ q, k = q + 1 := ⟨k - 1, by omega⟩
    have hr := saltTo_range hs hx m
    have hs1 := hs.s1
    have := mixed_l1 hs hx hln l2 nd l4 b.pairs.length 0 k (saltTo b (partsOf b bits) m) (by omega) (by omega) hr.1 (by omega)
    rw [show pairTo b.pairs (partsOf b bits) 0 = 0 by simp [pairTo], Int.add_zero] at this
    obtain rfl : m = b.salts.length := by omega
    simp only [luciferlaw02_mixed.l0]
    rw [if_neg (Int.lt_irrefl _), power_to b _ hln]
    exact this
  | succ d ih =>
    intro m k hm hk
    obtain ⟨k, rfl⟩ : ∃ q, k = q + 1 := ⟨k - 1, by omega⟩
    have hml : m < b.salts.length := by omega
    have hsm := hs.s _ (rd68_mem hml)
    have g1 : (m : Int) < (b.salts.length : Int) := Int.ofNat_lt.2 hml
    have g2 : 0 ≤ (m : Int) := Int.natCast_nonneg m
    have hle : (partsN bits b.salts m).length < 17592186044416 := by rw [partsN_len]; have := hs.s1; omega
    have hv := saltVal_range hs hx m
    have hd := (drawn_f (rd_T68 b.salts (m : Int)).f1.f0 (rd_T68 b.salts (m : Int)).f1.f1 (itemI bits m) hsm.2.2.1 hsm.2.2.2.1 (by have := hsm.2.2.2.2; omega)).1
    have hsv : drawnI (rd_T68 b.salts (m : Int)).f1.f0 (rd_T68 b.salts (m : Int)).f1.f1 (itemI bits m) * (rd_T68 b.salts (m : Int)).f0 = saltVal b (partsOf b bits) m := by
      unfold saltVal partsOf
      rw [rd_partsN hml]
    have w1 : wrap64 (saltVal b (partsOf b bits) m) = saltVal b (partsOf b bits) m := by
      clear hd hsv ih
      exact wrap_id rfl (by omega) (by omega)
    have w2 : wrap64 (saltTo b (partsOf b bits) m + saltVal b (partsOf b bits) m) = saltTo b (partsOf b bits) (m + 1) := by
      clear hd hsv ih w1
      rw [saltTo_succ]
      have hr := saltTo_range hs hx m
      have hs1 := hs.s1
      exact wrap_id rfl (by omega) (by omega)
    have := ih (m + 1) k (by clear w1 w2 hd hsv ih; omega) (by clear w1 w2 hd hsv ih; omega)
    have e1 : wrap64 ((m : Int) + 1) = ((m + 1 : Nat) : Int) := wrap_id rfl (by clear w1 w2 hd hsv ih this; omega) (by clear w1 w2 hd hsv ih this; have := hs.s1; omega)
    simp only [luciferlaw02_mixed.l0]
    rw [if_pos g1, if_pos g2, item_f bits m hb, Option.bind_some, hd, Option.bind_some, if_pos hle, hsv, e1, ← partsN_succ, w1, w2]
    exact this
theorem mixed_f {b : Bk} (hs : SP b) (bits : List Int) (hb : bits.length ≤ 9223372036854775807) : luciferlaw02_mixed.f 12 b.salts b.pairs b.surfs b.need b.trials bits = some (powerI b (partsOf b bits)) := by
  have h1 := hs.s1
  have h2 := hs.p1
  have := mixed_l0 hs bits hb b.surfs b.need b.trials b.salts.length 0 12 (by omega) (by omega)
  unfold luciferlaw02_mixed.f
  rw [show saltTo b (partsOf b bits) 0 = 0 by simp [saltTo], show partsN bits b.salts 0 = [] by simp [partsN]] at this
  exact this
theorem mixed_calls {h : Hd} {b : Bk} {w : World} (hb : BkIn w h b) (hs : SP b) {A : Option Addr} {c : Nat} {l : List Int} (hr : Kd.C (Kd.int .i64) w A l.length l) (hc : l.length ≤ c) (hl : l.length ≤ 9223372036854775807) :
    Calls Tryd.prog 14 #[.agg (h.cells b), .slice A l.length c] w fun e w' => e = .returned (.int .i64 (powerI b (partsOf b l))) ∧ Below w.heap.size w w' :=
  luciferlaw02_mixed.calls 12 _ _ _ _ _ _ _ _ _ _ _ _ _ _ _ _ _ w hb.r0 hb.l0 hb.r1 hb.l1 hb.r2 hb.l2 hb.r4 hb.l4 hr hc (mixed_f hs l hl)
def Spans (b : Bk) : Prop := ∀ x ∈ b.surfs, 0 ≤ x.f0.f0 ∧ x.f0.f0 ≤ x.f0.f1 ∧ x.f0.f1 ≤ 200 ∧ 0 ≤ x.f1.f0 ∧ x.f1.f0 ≤ x.f1.f1 ∧ x.f1.f1 ≤ 200
theorem surf_in {b : Bk} (hu : b.surfs.length ≤ 4) {k : Nat} (hk : k < b.surfs.length) : isSurfB b k = true := by
  unfold isSurfB
  rw [inB_iff, show wrap64 ((b.surfs.length : Int) - 1) = (b.surfs.length : Int) - 1 by unfold wrap64; omega]
  omega
theorem lights_two (b : Bk) (k : Nat) : lightsL b k = 2 ↔ mayL b k = true ∧ sureL b k = true := by
  unfold lightsL
  cases mayL b k <;> cases sureL b k <;> decide
theorem lights_zero (b : Bk) (k : Nat) : lightsL b k = 0 ↔ ¬ mayL b k = true := by
  unfold lightsL
  cases mayL b k <;> cases sureL b k <;> decide
end Go.Proofs.YtghpoldlddghjaaDoor
namespace Go.Proofs.YtghpoldlddghjaaDoor.PPasteTrue
open Go.RowKit Go.Proofs.YtghpoldlddghjaaDoorW.PrintWords Go.Proofs.YtghpoldlddghjaaDoorW.PrintLast Go.Proofs.YtghpoldlddghjaaDoorW.PrintMore
attribute [local go_sem] max2_int min2_int max_two min_two max_three min_three max_four min_four   -- for this text's walks alone
def luciferlaw02_tried.l0 : Nat → List Int → Int → Int → List (S68) → List (S77) → List (S47) → Int → List (S59) → List (S68) → List (S77) → List (S47) → Int → List (S59) → Option ((List (S68)) × (List (S77)) × (List (S47)) × Int × (List (S59)))
  | 0, _, _, _, _, _, _, _, _, _, _, _, _, _ => none
  | k + 1, x1, x6, x7, x330000, x330001, x330002, x330003, x330004, x332000, x332001, x332002, x332003, x332004 => if x7 < (x330004.length : Int) then (if 0 ≤ x7 then (if 0 ≤ ((rd_T59 x330004 x7).f0) then (if ((rd_T59 x330004 x7).f0) < (x330002.length : Int) then ((luciferref00_Item.f x1 (wrap64 (x7 + 7))).bind fun t335 => ((luciferref00_Drawn.f ((rd_T47 x330002 ((rd_T59 x330004 x7).f0)).f1.f0) ((rd_T47 x330002 ((rd_T59 x330004 x7).f0)).f1.f1) t335).bind fun t336 => ((luciferlaw02_rub.f x330000 x330001 x330002 x330003 x330004 ((rd_T59 x330004 x7).f0) x1).bind fun t337 => (if x332004.length < 8796093022208 then (luciferlaw02_tried.l0 k x1 x6 (wrap64 (x7 + 1)) x330000 x330001 x330002 x330003 x330004 x332000 x332001 x332002 x332003 (x332004 ++ [(⟨(rd_T59 x330004 x7).f0, decide ((wrap64 ((wrap64 (x6 + t337)) - t336)) ≥ x330003)⟩ : S59)])) else (none))))) else (none)) else (none)) else (none)) else (some (x332000, x332001, x332002, x332003, x332004))
def luciferlaw02_tried.f (k : Nat) (l0_0 : List (S68)) (l0_1 : List (S77)) (l0_2 : List (S47)) (a0_3 : Int) (l0_4 : List (S59)) (l1 : List Int) : Option ((List (S68)) × (List (S77)) × (List (S47)) × Int × (List (S59))) := (luciferlaw02_mixed.f k l0_0 l0_1 l0_2 a0_3 l0_4 l1).bind fun t332 => (luciferlaw02_tried.l0 k l1 t332 0 l0_0 l0_1 l0_2 a0_3 l0_4 l0_0 l0_1 l0_2 a0_3 ([] : List (S59)))
def luciferlaw02_tried.T8 : Bool × List (List Nat × List Nat) := (true, [([], []), ([0], [0]), ([], []), ([1, 2], [1, 2]), ([3], [3]), ([4], [4]), ([], []), ([], []), ([7], [7]), ([6, 8], [6, 8]), ([5, 9, 9], [5, 9]), ([10, 10, 0, 1, 2, 3, 4, 5, 6, 7, 8, 9, 10], [10])])
def luciferlaw02_tried.B8 : List Nat := [0, 1, 0, 7, 15, 31, 0, 0, 128, 448, 1023, 2047]
theorem luciferlaw02_tried.tab8 : rtab .any (opsOf Tryd.f13 8) = luciferlaw02_tried.T8 := by kernel_rfl
theorem luciferlaw02_tried.bits8 : waitsOk luciferlaw02_tried.T8.2 luciferlaw02_tried.B8 = true := by kernel_rfl
def luciferlaw02_tried.T9 : Bool × List (List Nat × List Nat) := (true, [([], []), ([0], [0]), ([], []), ([], []), ([], []), ([], []), ([], []), ([4, 5, 6], [4, 5, 6]), ([3, 7], [3, 7]), ([], []), ([8, 9], [8, 9]), ([], []), ([11], [11]), ([10, 12], [10, 12]), ([2, 13], [2, 13]), ([14], [14]), ([1, 15, 7], [1, 15]), ([0, 1, 2, 3, 4, 5, 6, 7, 8, 9, 10, 11, 12, 13, 14, 15, 16], []), ([17, 16, 16, 0, 1, 2, 3, 4, 5, 6, 7, 8, 9, 10, 11, 12, 13, 14, 15, 16], [16, 17])])
def luciferlaw02_tried.B9 : List Nat := [0, 1, 0, 0, 0, 0, 0, 112, 248, 0, 1016, 0, 2048, 8184, 16380, 32764, 65535, 131071, 262143]
theorem luciferlaw02_tried.tab9 : rtab .any (opsOf Tryd.f13 9) = luciferlaw02_tried.T9 := by kernel_rfl
theorem luciferlaw02_tried.bits9 : waitsOk luciferlaw02_tried.T9.2 luciferlaw02_tried.B9 = true := by kernel_rfl
set_option maxHeartbeats 8000000 in
set_option maxRecDepth 100000 in
theorem luciferlaw02_tried.calls (k : Nat) (P0_0_ : Nat → Prop) (Ao4 : Option Addr) (co4 : Nat) (l0_0 : List (S68)) (P0_1_ : Nat → Prop) (Ao5 : Option Addr) (co5 : Nat) (l0_1 : List (S77)) (P0_2_ : Nat → Prop) (Ao6 : Option Addr) (co6 : Nat) (l0_2 : List (S47)) (a0_3 : Int) (A0_4 : Option Addr) (c0_4 : Nat) (l0_4 : List (S59)) (A1 : Option Addr) (c1 : Nat) (l1 : List Int) (r1 : List (S68)) (r2 : List (S77)) (r3 : List (S47)) (r4 : Int) (r5 : List (S59)) (w0 w : World) (hB : Below w0.heap.size w0 w) (hr0_0 : ∀ W_, Kept w W_ (fun k_ => P0_0_ k_ ∨ P0_1_ k_ ∨ P0_2_ k_) → Kd.C k68 W_ Ao4 l0_0.length l0_0) (hc0_0 : l0_0.length ≤ co4) (hr0_1 : ∀ W_, Kept w W_ (fun k_ => P0_0_ k_ ∨ P0_1_ k_ ∨ P0_2_ k_) → Kd.C k77 W_ Ao5 l0_1.length l0_1) (hc0_1 : l0_1.length ≤ co5) (hr0_2 : ∀ W_, Kept w W_ (fun k_ => P0_0_ k_ ∨ P0_1_ k_ ∨ P0_2_ k_) → Kd.C k47 W_ Ao6 l0_2.length l0_2) (hc0_2 : l0_2.length ≤ co6) (hr0_4 : ∀ W_, Kept w W_ (fun k_ => P0_0_ k_ ∨ P0_1_ k_ ∨ P0_2_ k_) → Kd.C k59 W_ A0_4 l0_4.length l0_4) (hc0_4 : l0_4.length ≤ c0_4) (hr1 : ∀ W_, Kept w W_ (fun k_ => P0_0_ k_ ∨ P0_1_ k_ ∨ P0_2_ k_) → Kd.C (Kd.int .i64) W_ A1 l1.length l1) (hc1 : l1.length ≤ c1) (h : luciferlaw02_tried.f k l0_0 l0_1 l0_2 a0_3 l0_4 l1 = some (r1, r2, r3, r4, r5)) :
    Calls Tryd.prog 13 #[.agg #[.slice Ao4 l0_0.length co4, .slice Ao5 l0_1.length co5, .slice Ao6 l0_2.length co6, .int .i64 a0_3, .slice A0_4 l0_4.length c0_4], .slice A1 l1.length c1] w fun e w' => ∃ v0_ v1_ v2_ v4_ : Value, e = .returned (.agg #[v0_, v1_, v2_, .int .i64 r4, v4_]) ∧ v0_ = .slice Ao4 l0_0.length co4 ∧ v1_ = .slice Ao5 l0_1.length co5 ∧ v2_ = .slice Ao6 l0_2.length co6 ∧ Kd.R k59 59 w' w0.heap.size (fun k_ => ((P0_0_ k_ ∨ P0_1_ k_ ∨ P0_2_ k_) ∨ w.heap.size ≤ k_)) v4_ r5 ∧ Below w0.heap.size w0 w' ∧ Kept w w' (fun k_ => P0_0_ k_ ∨ P0_1_ k_ ∨ P0_2_ k_) := by
  have hu27 := Tryd.underlying27
  have hu39 := Tryd.underlying39
  have hu59 := Tryd.underlying59
  have HRA0 := Aside0.mk hr0_0
  have HCA0 := Aside0.mk hc0_0
  clear hr0_0 hc0_0
  have HO0_0 := Aside0.mk (show Kd.R k68 68 w w0.heap.size (fun k_ => ((P0_0_ k_ ∨ P0_1_ k_ ∨ P0_2_ k_) ∨ w.heap.size ≤ k_)) (.slice none 0 0) ([] : List S68) from Kd.R_nil _ _ _ _ _)
  have HRA1 := Aside0.mk hr0_1
  have HCA1 := Aside0.mk hc0_1
  clear hr0_1 hc0_1
  have HO0_1 := Aside0.mk (show Kd.R k77 77 w w0.heap.size (fun k_ => ((P0_0_ k_ ∨ P0_1_ k_ ∨ P0_2_ k_) ∨ w.heap.size ≤ k_)) (.slice none 0 0) ([] : List S77) from Kd.R_nil _ _ _ _ _)
  have HRA2 := Aside0.mk hr0_2
  have HCA2 := Aside0.mk hc0_2
  clear hr0_2 hc0_2
  have HO0_2 := Aside0.mk (show Kd.R k47 47 w w0.heap.size (fun k_ => ((P0_0_ k_ ∨ P0_1_ k_ ∨ P0_2_ k_) ∨ w.heap.size ≤ k_)) (.slice none 0 0) ([] : List S47) from Kd.R_nil _ _ _ _ _)
  have HR0_4 := Aside0.mk hr0_4
  have HC0_4 := Aside0.mk hc0_4
  clear hr0_4 hc0_4
  have HR1 := Aside0.mk hr1
  have HC1 := Aside0.mk hc1
  clear hr1 hc1
  have HK := Aside0.mk (Kept.refl w (fun k_ => P0_0_ k_ ∨ P0_1_ k_ ∨ P0_2_ k_))
  have HW0 := Aside0.mk hB.size
  have HB := Aside0.mk hB
  clear hB
  have H : ((luciferlaw02_mixed.f k l0_0 l0_1 l0_2 a0_3 l0_4 l1).bind fun t332 => (luciferlaw02_tried.l0 k l1 t332 0 l0_0 l0_1 l0_2 a0_3 l0_4 l0_0 l0_1 l0_2 a0_3 ([] : List (S59)))) = some (r1, r2, r3, r4, r5) := h
  clear h
  replace H := Option.bind_eq_some_iff.mp H
  obtain ⟨t332, A30, H⟩ := H
  replace H : (luciferlaw02_tried.l0 k l1 t332 0 l0_0 l0_1 l0_2 a0_3 l0_4 l0_0 l0_1 l0_2 a0_3 ([] : List (S59))) = some (r1, r2, r3, r4, r5) := H
  have A3 := Aside0.mk A30
  clear A30
  have H' := Aside0.mk H
  clear H
  go_enter Tryd.func13, Tryd.ntmps13
  go_wp2_with (first | ((with_reducible refine gate_dst (N := 2) rfl ?_); refine box_event ?hg (N := 2) ?hd (cs := #[.slice Ao4 l0_0.length co4, .slice Ao5 l0_1.length co5, .slice Ao6 l0_2.length co6, .int .i64 a0_3, .slice A0_4 l0_4.length c0_4]) (t := 27) ?hr ?_; (case hd => rfl); (case hg => rfl); (case hr => first | (go_simp; done) | (go_simp; rfl)); intro gb329 hg w7 hbox hb; have n0_ := Aside0.mk (Kd.R_below (by (with_reducible repeat (first | apply Kd.R_alloc | apply Kd.R_drewN | apply Kd.R_drew)); exact HO0_0.out) hb); have n1_ := Aside0.mk (Kd.R_below (by (with_reducible repeat (first | apply Kd.R_alloc | apply Kd.R_drewN | apply Kd.R_drew)); exact HO0_1.out) hb); have n2_ := Aside0.mk (Kd.R_below (by (with_reducible repeat (first | apply Kd.R_alloc | apply Kd.R_drewN | apply Kd.R_drew)); exact HO0_2.out) hb); have n3_ := Aside0.mk (Kept.below (S := (fun k_ => P0_0_ k_ ∨ P0_1_ k_ ∨ P0_2_ k_)) (by repeat (first | (with_reducible first | exact HK.out | apply Kept.alloc | apply Kept.drewN | apply Kept.drew) | exact HK.out)) hb); have n4_ := Aside0.mk (below_step (by repeat (first | (with_reducible first | exact HB.out | apply below_alloc | apply pw_below_drewN | apply below_drew1) | exact HB.out)) hb); have n5_ := Aside0.mk (hbox); have n6_ := Aside0.mk ((by rw [hg]; exact (by first | exact HK.out.1 | exact (show Kept w _ (fun k_ => P0_0_ k_ ∨ P0_1_ k_ ∨ P0_2_ k_) from by repeat (first | (with_reducible first | exact HK.out | apply Kept.alloc | apply Kept.drewN | apply Kept.drew) | exact HK.out)).1) : w.heap.size ≤ gb329)); have n7_ := Aside0.mk ((by rw [hg]; exact (below_size (by repeat (first | (with_reducible first | exact HB.out | apply below_alloc | apply pw_below_drewN | apply below_drew1) | exact HB.out))) : w0.heap.size ≤ gb329)); clear HO0_0; clear HO0_1; clear HO0_2; clear HK; clear HB; have HO0_0 := n0_; have HO0_1 := n1_; have HO0_2 := n2_; have HK := n3_; have HB := n4_; have BK329 := n5_; have GW329 := n6_; have GE329 := n7_; clear n0_ n1_ n2_ n3_ n4_ n5_ n6_ n7_; clear hb hbox hg) | ((with_reducible refine gate_dst (N := 4) rfl ?_); refine box_event ?hg (N := 4) ?hd (cs := #[.slice none 0 0, .slice none 0 0, .slice none 0 0, .int .i64 0, .slice none 0 0]) (t := 27) ?hr ?_; (case hd => rfl); (case hg => rfl); (case hr => first | (go_simp; done) | (go_simp; rfl)); intro gb330 hg w8 hbox hb; have n0_ := Aside0.mk (Kd.R_below (by (with_reducible repeat (first | apply Kd.R_alloc | apply Kd.R_drewN | apply Kd.R_drew)); exact HO0_0.out) hb); have n1_ := Aside0.mk (Kd.R_below (by (with_reducible repeat (first | apply Kd.R_alloc | apply Kd.R_drewN | apply Kd.R_drew)); exact HO0_1.out) hb); have n2_ := Aside0.mk (Kd.R_below (by (with_reducible repeat (first | apply Kd.R_alloc | apply Kd.R_drewN | apply Kd.R_drew)); exact HO0_2.out) hb); have n3_ := Aside0.mk (blk_below (g := gb329) (o := .cells #[.slice Ao4 l0_0.length co4, .slice Ao5 l0_1.length co5, .slice Ao6 l0_2.length co6, .int .i64 a0_3, .slice A0_4 l0_4.length c0_4] 27 (0, 0)) (by (with_reducible repeat (first | refine blk_drewN ?_ _ | refine blk_drew ?_ | refine blk_alloc ?_ _)); exact BK329.out) hb); have n4_ := Aside0.mk (Kept.below (S := (fun k_ => P0_0_ k_ ∨ P0_1_ k_ ∨ P0_2_ k_)) (by repeat (first | (with_reducible first | exact HK.out | apply Kept.alloc | apply Kept.drewN | apply Kept.drew | refine Kept.setCell ?_ (.inr GW329.out) _) | exact HK.out)) hb); have n5_ := Aside0.mk (below_step (by repeat (first | (with_reducible first | exact HB.out | apply below_alloc | apply pw_below_drewN | apply below_drew1 | refine below_set ?_ GE329.out) | exact HB.out)) hb); have n6_ := Aside0.mk (hbox); have n7_ := Aside0.mk ((by rw [hg]; exact (by first | exact HK.out.1 | exact (show Kept w _ (fun k_ => P0_0_ k_ ∨ P0_1_ k_ ∨ P0_2_ k_) from by repeat (first | (with_reducible first | exact HK.out | apply Kept.alloc | apply Kept.drewN | apply Kept.drew | refine Kept.setCell ?_ (.inr GW329.out) _) | exact HK.out)).1) : w.heap.size ≤ gb330)); have n8_ := Aside0.mk ((by rw [hg]; exact (below_size (by repeat (first | (with_reducible first | exact HB.out | apply below_alloc | apply pw_below_drewN | apply below_drew1 | refine below_set ?_ GE329.out) | exact HB.out))) : w0.heap.size ≤ gb330)); have n9_ := Aside0.mk ((by rw [hg]; exact Nat.ne_of_lt (blk_lt (g := gb329) (o := .cells #[.slice Ao4 l0_0.length co4, .slice Ao5 l0_1.length co5, .slice Ao6 l0_2.length co6, .int .i64 a0_3, .slice A0_4 l0_4.length c0_4] 27 (0, 0)) (by (with_reducible repeat (first | refine blk_drewN ?_ _ | refine blk_drew ?_ | refine blk_alloc ?_ _)); exact BK329.out)) : gb329 ≠ gb330)); have n10_ := Aside0.mk ((by rw [hg]; exact Nat.ne_of_gt (blk_lt (g := gb329) (o := .cells #[.slice Ao4 l0_0.length co4, .slice Ao5 l0_1.length co5, .slice Ao6 l0_2.length co6, .int .i64 a0_3, .slice A0_4 l0_4.length c0_4] 27 (0, 0)) (by (with_reducible repeat (first | refine blk_drewN ?_ _ | refine blk_drew ?_ | refine blk_alloc ?_ _)); exact BK329.out)) : gb330 ≠ gb329)); clear HO0_0; clear HO0_1; clear HO0_2; clear BK329; clear HK; clear HB; have HO0_0 := n0_; have HO0_1 := n1_; have HO0_2 := n2_; have BK329 := n3_; have HK := n4_; have HB := n5_; have BK330 := n6_; have GW330 := n7_; have GE330 := n8_; have NB329_330 := n9_; have NB330_329 := n10_; clear n0_ n1_ n2_ n3_ n4_ n5_ n6_ n7_ n8_ n9_ n10_; clear hb hbox hg; have hnb9 := NB329_330.out; have hnc9 := NB330_329.out; have hcz10_0 : w8.cell? ⟨gb329, 0, none⟩ = some (.slice Ao4 l0_0.length co4) := (blk_cell BK329.out 0).trans rfl; have hcz10_1 : w8.cell? ⟨gb329, 1, none⟩ = some (.slice Ao5 l0_1.length co5) := (blk_cell BK329.out 1).trans rfl; have hcz10_2 : w8.cell? ⟨gb329, 2, none⟩ = some (.slice Ao6 l0_2.length co6) := (blk_cell BK329.out 2).trans rfl; have hcz10_3 : w8.cell? ⟨gb329, 3, none⟩ = some (.int .i64 a0_3) := (blk_cell BK329.out 3).trans rfl; have hcz10_4 : w8.cell? ⟨gb329, 4, none⟩ = some (.slice A0_4 l0_4.length c0_4) := (blk_cell BK329.out 4).trans rfl; have hfz10_0 := blk_frozen BK329.out 0; have hfz10_1 := blk_frozen BK329.out 1; have hfz10_2 := blk_frozen BK329.out 2; have hfz10_3 := blk_frozen BK329.out 3; have hfz10_4 := blk_frozen BK329.out 4) | ((with_reducible refine gate_dst (N := 5) rfl ?_); refine box_event ?hg (N := 5) ?hd (cs := #[.slice none 0 0, .slice none 0 0, .slice none 0 0, .int .i64 0, .slice none 0 0]) (t := 27) ?hr ?_; (case hd => rfl); (case hg => rfl); (case hr => first | (go_simp; done) | (go_simp; rfl)); intro gb331 hg w11 hbox hb; have n0_ := Aside0.mk (Kd.R_below (by (with_reducible repeat (first | apply Kd.R_alloc | apply Kd.R_drewN | apply Kd.R_drew)); exact HO0_0.out) hb); have n1_ := Aside0.mk (Kd.R_below (by (with_reducible repeat (first | apply Kd.R_alloc | apply Kd.R_drewN | apply Kd.R_drew)); exact HO0_1.out) hb); have n2_ := Aside0.mk (Kd.R_below (by (with_reducible repeat (first | apply Kd.R_alloc | apply Kd.R_drewN | apply Kd.R_drew)); exact HO0_2.out) hb); have n3_ := Aside0.mk (blk_below (g := gb329) (o := .cells #[.slice Ao4 l0_0.length co4, .slice Ao5 l0_1.length co5, .slice Ao6 l0_2.length co6, .int .i64 a0_3, .slice A0_4 l0_4.length c0_4] 27 (0, 0)) (by (with_reducible repeat (first | refine blk_drewN ?_ _ | refine blk_drew ?_ | refine blk_alloc ?_ _)); exact BK329.out) hb); have n4_ := Aside0.mk (blk_below (g := gb330) (o := .cells #[.slice none 0 0, .slice none 0 0, .slice none 0 0, .int .i64 0, .slice none 0 0] 27 (0, 0)) (by (with_reducible repeat (first | refine blk_drewN ?_ _ | refine blk_drew ?_ | refine blk_alloc ?_ _)); exact BK330.out) hb); have n5_ := Aside0.mk (Kept.below (S := (fun k_ => P0_0_ k_ ∨ P0_1_ k_ ∨ P0_2_ k_)) (by repeat (first | (with_reducible first | exact HK.out | apply Kept.alloc | apply Kept.drewN | apply Kept.drew | refine Kept.setCell ?_ (.inr GW329.out) _ | refine Kept.setCell ?_ (.inr GW330.out) _) | exact HK.out)) hb); have n6_ := Aside0.mk (below_step (by repeat (first | (with_reducible first | exact HB.out | apply below_alloc | apply pw_below_drewN | apply below_drew1 | refine below_set ?_ GE329.out | refine below_set ?_ GE330.out) | exact HB.out)) hb); have n7_ := Aside0.mk (hbox); have n8_ := Aside0.mk ((by rw [hg]; exact (by first | exact HK.out.1 | exact (show Kept w _ (fun k_ => P0_0_ k_ ∨ P0_1_ k_ ∨ P0_2_ k_) from by repeat (first | (with_reducible first | exact HK.out | apply Kept.alloc | apply Kept.drewN | apply Kept.drew | refine Kept.setCell ?_ (.inr GW329.out) _ | refine Kept.setCell ?_ (.inr GW330.out) _) | exact HK.out)).1) : w.heap.size ≤ gb331)); have n9_ := Aside0.mk ((by rw [hg]; exact (below_size (by repeat (first | (with_reducible first | exact HB.out | apply below_alloc | apply pw_below_drewN | apply below_drew1 | refine below_set ?_ GE329.out | refine below_set ?_ GE330.out) | exact HB.out))) : w0.heap.size ≤ gb331)); have n10_ := Aside0.mk ((by rw [hg]; exact Nat.ne_of_lt (blk_lt (g := gb329) (o := .cells #[.slice Ao4 l0_0.length co4, .slice Ao5 l0_1.length co5, .slice Ao6 l0_2.length co6, .int .i64 a0_3, .slice A0_4 l0_4.length c0_4] 27 (0, 0)) (by (with_reducible repeat (first | refine blk_drewN ?_ _ | refine blk_drew ?_ | refine blk_alloc ?_ _)); exact BK329.out)) : gb329 ≠ gb331)); have n11_ := Aside0.mk ((by rw [hg]; exact Nat.ne_of_gt (blk_lt (g := gb329) (o := .cells #[.slice Ao4 l0_0.length co4, .slice Ao5 l0_1.length co5, .slice Ao6 l0_2.length co6, .int .i64 a0_3, .slice A0_4 l0_4.length c0_4] 27 (0, 0)) (by (with_reducible repeat (first | refine blk_drewN ?_ _ | refine blk_drew ?_ | refine blk_alloc ?_ _)); exact BK329.out)) : gb331 ≠ gb329)); have n12_ := Aside0.mk ((by rw [hg]; exact Nat.ne_of_lt (blk_lt (g := gb330) (o := .cells #[.slice none 0 0, .slice none 0 0, .slice none 0 0, .int .i64 0, .slice none 0 0] 27 (0, 0)) (by (with_reducible repeat (first | refine blk_drewN ?_ _ | refine blk_drew ?_ | refine blk_alloc ?_ _)); exact BK330.out)) : gb330 ≠ gb331)); have n13_ := Aside0.mk ((by rw [hg]; exact Nat.ne_of_gt (blk_lt (g := gb330) (o := .cells #[.slice none 0 0, .slice none 0 0, .slice none 0 0, .int .i64 0, .slice none 0 0] 27 (0, 0)) (by (with_reducible repeat (first | refine blk_drewN ?_ _ | refine blk_drew ?_ | refine blk_alloc ?_ _)); exact BK330.out)) : gb331 ≠ gb330)); clear HO0_0; clear HO0_1; clear HO0_2; clear BK329; clear BK330; clear HK; clear HB; have HO0_0 := n0_; have HO0_1 := n1_; have HO0_2 := n2_; have BK329 := n3_; have BK330 := n4_; have HK := n5_; have HB := n6_; have BK331 := n7_; have GW331 := n8_; have GE331 := n9_; have NB329_331 := n10_; have NB331_329 := n11_; have NB330_331 := n12_; have NB331_330 := n13_; clear n0_ n1_ n2_ n3_ n4_ n5_ n6_ n7_ n8_ n9_ n10_ n11_ n12_ n13_; clear hb hbox hg; have hnb12 := NB331_329.out; have hnc12 := NB329_331.out; have hnb13 := NB331_330.out; have hnc13 := NB330_331.out; have hcz14_0 : w11.cell? ⟨gb331, 0, none⟩ = some (.slice none 0 0) := (blk_cell BK331.out 0).trans rfl; have hcz14_1 : w11.cell? ⟨gb331, 1, none⟩ = some (.slice none 0 0) := (blk_cell BK331.out 1).trans rfl; have hcz14_2 : w11.cell? ⟨gb331, 2, none⟩ = some (.slice none 0 0) := (blk_cell BK331.out 2).trans rfl; have hcz14_3 : w11.cell? ⟨gb331, 3, none⟩ = some (.int .i64 0) := (blk_cell BK331.out 3).trans rfl; have hcz14_4 : w11.cell? ⟨gb331, 4, none⟩ = some (.slice none 0 0) := (blk_cell BK331.out 4).trans rfl; have hfz14_0 := blk_frozen BK331.out 0; have hfz14_1 := blk_frozen BK331.out 1; have hfz14_2 := blk_frozen BK331.out 2; have hfz14_3 := blk_frozen BK331.out 3; have hfz14_4 := blk_frozen BK331.out 4; have hcz15_0 : w11.cell? ⟨gb329, 0, none⟩ = some (.slice Ao4 l0_0.length co4) := (blk_cell BK329.out 0).trans rfl; have hcz15_1 : w11.cell? ⟨gb329, 1, none⟩ = some (.slice Ao5 l0_1.length co5) := (blk_cell BK329.out 1).trans rfl; have hcz15_2 : w11.cell? ⟨gb329, 2, none⟩ = some (.slice Ao6 l0_2.length co6) := (blk_cell BK329.out 2).trans rfl; have hcz15_3 : w11.cell? ⟨gb329, 3, none⟩ = some (.int .i64 a0_3) := (blk_cell BK329.out 3).trans rfl; have hcz15_4 : w11.cell? ⟨gb329, 4, none⟩ = some (.slice A0_4 l0_4.length c0_4) := (blk_cell BK329.out 4).trans rfl; have hfz15_0 := blk_frozen BK329.out 0; have hfz15_1 := blk_frozen BK329.out 1; have hfz15_2 := blk_frozen BK329.out 2; have hfz15_3 := blk_frozen BK329.out 3; have hfz15_4 := blk_frozen BK329.out 4) | ((with_reducible refine gate_callee (f := 14) rfl ?_); refine goesL_ (some 14) rfl rfl Tryd.func14 (by kernel_rfl) rfl #[.agg #[.slice Ao4 l0_0.length co4, .slice Ao5 l0_1.length co5, .slice Ao6 l0_2.length co6, .int .i64 a0_3, .slice A0_4 l0_4.length c0_4], .slice A1 l1.length c1] rfl (by (try simp only [List.map_toArray, List.map_cons, List.map_nil]); first | done | rfl | (simp only [List.length_drop, List.length_take]; rfl)) ?_; (with_reducible refine (luciferlaw02_mixed.calls k _ _ l0_0 _ _ l0_1 _ _ l0_2 a0_3 _ _ l0_4 _ _ l1 t332 _ ?side1 ?side2 ?side3 ?side4 ?side5 ?side6 ?side7 ?side8 ?side9 ?side10 A3.out).mono ?_); (case side1 => exact Kd.C_kept_now HRA0.out (by repeat (first | (with_reducible first | exact HK.out | apply Kept.alloc | apply Kept.drewN | apply Kept.drew | refine Kept.setCell ?_ (.inr GW329.out) _ | refine Kept.setCell ?_ (.inr GW330.out) _ | refine Kept.setCell ?_ (.inr GW331.out) _) | exact HK.out))); (case side2 => exact HCA0.out); (case side3 => exact Kd.C_kept_now HRA1.out (by repeat (first | (with_reducible first | exact HK.out | apply Kept.alloc | apply Kept.drewN | apply Kept.drew | refine Kept.setCell ?_ (.inr GW329.out) _ | refine Kept.setCell ?_ (.inr GW330.out) _ | refine Kept.setCell ?_ (.inr GW331.out) _) | exact HK.out))); (case side4 => exact HCA1.out); (case side5 => exact Kd.C_kept_now HRA2.out (by repeat (first | (with_reducible first | exact HK.out | apply Kept.alloc | apply Kept.drewN | apply Kept.drew | refine Kept.setCell ?_ (.inr GW329.out) _ | refine Kept.setCell ?_ (.inr GW330.out) _ | refine Kept.setCell ?_ (.inr GW331.out) _) | exact HK.out))); (case side6 => exact HCA2.out); (case side7 => exact Kd.C_kept_now HR0_4.out (by repeat (first | (with_reducible first | exact HK.out | apply Kept.alloc | apply Kept.drewN | apply Kept.drew | refine Kept.setCell ?_ (.inr GW329.out) _ | refine Kept.setCell ?_ (.inr GW330.out) _ | refine Kept.setCell ?_ (.inr GW331.out) _) | exact HK.out))); (case side8 => exact HC0_4.out); (case side9 => exact Kd.C_kept_now HR1.out (by repeat (first | (with_reducible first | exact HK.out | apply Kept.alloc | apply Kept.drewN | apply Kept.drew | refine Kept.setCell ?_ (.inr GW329.out) _ | refine Kept.setCell ?_ (.inr GW330.out) _ | refine Kept.setCell ?_ (.inr GW331.out) _) | exact HK.out))); (case side10 => exact HC1.out); rintro e w16 ⟨rfl, hb⟩; refine ⟨_, rfl, ?_⟩; have n0_ := Aside0.mk (Kd.R_below (by (with_reducible repeat (first | apply Kd.R_alloc | apply Kd.R_drewN | apply Kd.R_drew)); exact (Kd.R_mono (Kd.R_far (p := ⟨gb331, 4, none⟩) (Kd.R_far (p := ⟨gb331, 4, none⟩) (Kd.R_far (p := ⟨gb331, 3, none⟩) (Kd.R_far (p := ⟨gb331, 2, none⟩) (Kd.R_far (p := ⟨gb331, 1, none⟩) (Kd.R_far (p := ⟨gb331, 0, none⟩) (Kd.R_types HO0_0.out BK331.out (by decide)) (fun _ hk => hk.2) (.slice Ao4 l0_0.length co4)) (fun _ hk => hk.2) (.slice Ao5 l0_1.length co5)) (fun _ hk => hk.2) (.slice Ao6 l0_2.length co6)) (fun _ hk => hk.2) (.int .i64 a0_3)) (fun _ hk => hk.2) (.slice A0_4 l0_4.length c0_4)) (fun _ hk => hk.2) (.slice none 0 0)) (fun _ h_ => h_.1))) hb); have n1_ := Aside0.mk (Kd.R_below (by (with_reducible repeat (first | apply Kd.R_alloc | apply Kd.R_drewN | apply Kd.R_drew)); exact (Kd.R_mono (Kd.R_far (p := ⟨gb331, 4, none⟩) (Kd.R_far (p := ⟨gb331, 4, none⟩) (Kd.R_far (p := ⟨gb331, 3, none⟩) (Kd.R_far (p := ⟨gb331, 2, none⟩) (Kd.R_far (p := ⟨gb331, 1, none⟩) (Kd.R_far (p := ⟨gb331, 0, none⟩) (Kd.R_types HO0_1.out BK331.out (by decide)) (fun _ hk => hk.2) (.slice Ao4 l0_0.length co4)) (fun _ hk => hk.2) (.slice Ao5 l0_1.length co5)) (fun _ hk => hk.2) (.slice Ao6 l0_2.length co6)) (fun _ hk => hk.2) (.int .i64 a0_3)) (fun _ hk => hk.2) (.slice A0_4 l0_4.length c0_4)) (fun _ hk => hk.2) (.slice none 0 0)) (fun _ h_ => h_.1))) hb); have n2_ := Aside0.mk (Kd.R_below (by (with_reducible repeat (first | apply Kd.R_alloc | apply Kd.R_drewN | apply Kd.R_drew)); exact (Kd.R_mono (Kd.R_far (p := ⟨gb331, 4, none⟩) (Kd.R_far (p := ⟨gb331, 4, none⟩) (Kd.R_far (p := ⟨gb331, 3, none⟩) (Kd.R_far (p := ⟨gb331, 2, none⟩) (Kd.R_far (p := ⟨gb331, 1, none⟩) (Kd.R_far (p := ⟨gb331, 0, none⟩) (Kd.R_types HO0_2.out BK331.out (by decide)) (fun _ hk => hk.2) (.slice Ao4 l0_0.length co4)) (fun _ hk => hk.2) (.slice Ao5 l0_1.length co5)) (fun _ hk => hk.2) (.slice Ao6 l0_2.length co6)) (fun _ hk => hk.2) (.int .i64 a0_3)) (fun _ hk => hk.2) (.slice A0_4 l0_4.length c0_4)) (fun _ hk => hk.2) (.slice none 0 0)) (fun _ h_ => h_.1))) hb); have n3_ := Aside0.mk (blk_below (g := gb329) (o := .cells #[.slice Ao4 l0_0.length co4, .slice Ao5 l0_1.length co5, .slice Ao6 l0_2.length co6, .int .i64 a0_3, .slice A0_4 l0_4.length c0_4] 27 (0, 0)) (by (with_reducible repeat (first | refine blk_drewN ?_ _ | refine blk_drew ?_ | refine blk_alloc ?_ _)); refine blk_far ?_ NB329_331.out _; (with_reducible repeat (first | refine blk_drewN ?_ _ | refine blk_drew ?_ | refine blk_alloc ?_ _)); refine blk_far ?_ NB329_331.out _; (with_reducible repeat (first | refine blk_drewN ?_ _ | refine blk_drew ?_ | refine blk_alloc ?_ _)); refine blk_far ?_ NB329_331.out _; (with_reducible repeat (first | refine blk_drewN ?_ _ | refine blk_drew ?_ | refine blk_alloc ?_ _)); refine blk_far ?_ NB329_331.out _; (with_reducible repeat (first | refine blk_drewN ?_ _ | refine blk_drew ?_ | refine blk_alloc ?_ _)); refine blk_far ?_ NB329_331.out _; (with_reducible repeat (first | refine blk_drewN ?_ _ | refine blk_drew ?_ | refine blk_alloc ?_ _)); refine blk_far ?_ NB329_331.out _; (with_reducible repeat (first | refine blk_drewN ?_ _ | refine blk_drew ?_ | refine blk_alloc ?_ _)); exact BK329.out) hb); have n4_ := Aside0.mk (blk_below (g := gb330) (o := .cells #[.slice none 0 0, .slice none 0 0, .slice none 0 0, .int .i64 0, .slice none 0 0] 27 (0, 0)) (by (with_reducible repeat (first | refine blk_drewN ?_ _ | refine blk_drew ?_ | refine blk_alloc ?_ _)); refine blk_far ?_ NB330_331.out _; (with_reducible repeat (first | refine blk_drewN ?_ _ | refine blk_drew ?_ | refine blk_alloc ?_ _)); refine blk_far ?_ NB330_331.out _; (with_reducible repeat (first | refine blk_drewN ?_ _ | refine blk_drew ?_ | refine blk_alloc ?_ _)); refine blk_far ?_ NB330_331.out _; (with_reducible repeat (first | refine blk_drewN ?_ _ | refine blk_drew ?_ | refine blk_alloc ?_ _)); refine blk_far ?_ NB330_331.out _; (with_reducible repeat (first | refine blk_drewN ?_ _ | refine blk_drew ?_ | refine blk_alloc ?_ _)); refine blk_far ?_ NB330_331.out _; (with_reducible repeat (first | refine blk_drewN ?_ _ | refine blk_drew ?_ | refine blk_alloc ?_ _)); refine blk_far ?_ NB330_331.out _; (with_reducible repeat (first | refine blk_drewN ?_ _ | refine blk_drew ?_ | refine blk_alloc ?_ _)); exact BK330.out) hb); have n5_ := Aside0.mk (blk_below (g := gb331) (o := .cells #[.slice Ao4 l0_0.length co4, .slice Ao5 l0_1.length co5, .slice Ao6 l0_2.length co6, .int .i64 a0_3, .slice none 0 0] 27 (0, 0)) (by (with_reducible repeat (first | refine blk_drewN ?_ _ | refine blk_drew ?_ | refine blk_alloc ?_ _)); refine blk_put (cs := #[.slice Ao4 l0_0.length co4, .slice Ao5 l0_1.length co5, .slice Ao6 l0_2.length co6, .int .i64 a0_3, .slice A0_4 l0_4.length c0_4]) ?_ 4 _ rfl; (with_reducible repeat (first | refine blk_drewN ?_ _ | refine blk_drew ?_ | refine blk_alloc ?_ _)); refine blk_put (cs := #[.slice Ao4 l0_0.length co4, .slice Ao5 l0_1.length co5, .slice Ao6 l0_2.length co6, .int .i64 a0_3, .slice none 0 0]) ?_ 4 _ rfl; (with_reducible repeat (first | refine blk_drewN ?_ _ | refine blk_drew ?_ | refine blk_alloc ?_ _)); refine blk_put (cs := #[.slice Ao4 l0_0.length co4, .slice Ao5 l0_1.length co5, .slice Ao6 l0_2.length co6, .int .i64 0, .slice none 0 0]) ?_ 3 _ rfl; (with_reducible repeat (first | refine blk_drewN ?_ _ | refine blk_drew ?_ | refine blk_alloc ?_ _)); refine blk_put (cs := #[.slice Ao4 l0_0.length co4, .slice Ao5 l0_1.length co5, .slice none 0 0, .int .i64 0, .slice none 0 0]) ?_ 2 _ rfl; (with_reducible repeat (first | refine blk_drewN ?_ _ | refine blk_drew ?_ | refine blk_alloc ?_ _)); refine blk_put (cs := #[.slice Ao4 l0_0.length co4, .slice none 0 0, .slice none 0 0, .int .i64 0, .slice none 0 0]) ?_ 1 _ rfl; (with_reducible repeat (first | refine blk_drewN ?_ _ | refine blk_drew ?_ | refine blk_alloc ?_ _)); refine blk_put (cs := #[.slice none 0 0, .slice none 0 0, .slice none 0 0, .int .i64 0, .slice none 0 0]) ?_ 0 _ rfl; (with_reducible repeat (first | refine blk_drewN ?_ _ | refine blk_drew ?_ | refine blk_alloc ?_ _)); exact BK331.out) hb); have n6_ := Aside0.mk (Kept.below (S := (fun k_ => P0_0_ k_ ∨ P0_1_ k_ ∨ P0_2_ k_)) (by repeat (first | (with_reducible first | exact HK.out | apply Kept.alloc | apply Kept.drewN | apply Kept.drew | refine Kept.setCell ?_ (.inr GW329.out) _ | refine Kept.setCell ?_ (.inr GW330.out) _ | refine Kept.setCell ?_ (.inr GW331.out) _) | exact HK.out)) hb); have n7_ := Aside0.mk (below_step (by repeat (first | (with_reducible first | exact HB.out | apply below_alloc | apply pw_below_drewN | apply below_drew1 | refine below_set ?_ GE329.out | refine below_set ?_ GE330.out | refine below_set ?_ GE331.out) | exact HB.out)) hb); clear HO0_0; clear HO0_1; clear HO0_2; clear BK329; clear BK330; clear BK331; clear HK; clear HB; have HO0_0 := n0_; have HO0_1 := n1_; have HO0_2 := n2_; have BK329 := n3_; have BK330 := n4_; have BK331 := n5_; have HK := n6_; have HB := n7_; clear n0_ n1_ n2_ n3_ n4_ n5_ n6_ n7_; (try clear hb); (try clear hb2); (try clear hk); (try clear hi)))
  go_loopg [7] k (fun kq v7 w' => ∃ (x7_1 : Int) (x332004_1 : List (S59)) (u332004 : Value), v7 = .int .i64 x7_1 ∧ Aside0 (luciferlaw02_tried.l0 kq l1 t332 x7_1 l0_0 l0_1 l0_2 a0_3 l0_4 l0_0 l0_1 l0_2 a0_3 x332004_1 = some (r1, r2, r3, r4, r5)) ∧ Aside0 (kq ≤ k) ∧ Aside0 (Kd.R k68 68 w' w0.heap.size (fun k_ => ((P0_0_ k_ ∨ P0_1_ k_ ∨ P0_2_ k_) ∨ w.heap.size ≤ k_)) (.slice none 0 0) ([] : List S68)) ∧ Aside0 (Kd.R k77 77 w' w0.heap.size (fun k_ => ((P0_0_ k_ ∨ P0_1_ k_ ∨ P0_2_ k_) ∨ w.heap.size ≤ k_)) (.slice none 0 0) ([] : List S77)) ∧ Aside0 (Kd.R k47 47 w' w0.heap.size (fun k_ => ((P0_0_ k_ ∨ P0_1_ k_ ∨ P0_2_ k_) ∨ w.heap.size ≤ k_)) (.slice none 0 0) ([] : List S47)) ∧ Aside0 (Kd.R k68 68 w' w0.heap.size (fun k_ => ((P0_0_ k_ ∨ P0_1_ k_ ∨ P0_2_ k_) ∨ w.heap.size ≤ k_)) (.slice none 0 0) ([] : List S68)) ∧ Aside0 (Kd.R k77 77 w' w0.heap.size (fun k_ => ((P0_0_ k_ ∨ P0_1_ k_ ∨ P0_2_ k_) ∨ w.heap.size ≤ k_)) (.slice none 0 0) ([] : List S77)) ∧ Aside0 (Kd.R k47 47 w' w0.heap.size (fun k_ => ((P0_0_ k_ ∨ P0_1_ k_ ∨ P0_2_ k_) ∨ w.heap.size ≤ k_)) (.slice none 0 0) ([] : List S47)) ∧ Aside0 (Kd.R k59 59 w' w0.heap.size (fun k_ => ((P0_0_ k_ ∨ P0_1_ k_ ∨ P0_2_ k_) ∨ w.heap.size ≤ k_)) u332004 x332004_1) ∧ Aside0 (w'.heap[gb329]? = some (.cells #[(.slice Ao4 l0_0.length co4), (.slice Ao5 l0_1.length co5), (.slice Ao6 l0_2.length co6), .int .i64 a0_3, (.slice A0_4 l0_4.length c0_4)] 27 (0, 0))) ∧ Aside0 (w'.heap[gb330]? = some (.cells #[(.slice none 0 0), (.slice none 0 0), (.slice none 0 0), .int .i64 0, (.slice none 0 0)] 27 (0, 0))) ∧ Aside0 (w'.heap[gb331]? = some (.cells #[(.slice Ao4 l0_0.length co4), (.slice Ao5 l0_1.length co5), (.slice Ao6 l0_2.length co6), .int .i64 a0_3, u332004] 27 (0, 0))) ∧ Aside0 (Kept w w' (fun k_ => P0_0_ k_ ∨ P0_1_ k_ ∨ P0_2_ k_)) ∧ Aside0 (Below w0.heap.size w0 w'))
  case atStart => exact ⟨(0), (([] : List (S59))), (.slice none 0 0), (by first | rfl | (simp; done) | (simp [*]; done)), H', ⟨Nat.le_refl _⟩, ⟨by (with_reducible repeat (first | apply Kd.R_alloc | apply Kd.R_drewN | apply Kd.R_drew)); exact HO0_0.out⟩, ⟨by (with_reducible repeat (first | apply Kd.R_alloc | apply Kd.R_drewN | apply Kd.R_drew)); exact HO0_1.out⟩, ⟨by (with_reducible repeat (first | apply Kd.R_alloc | apply Kd.R_drewN | apply Kd.R_drew)); exact HO0_2.out⟩, ⟨by (with_reducible repeat (first | apply Kd.R_alloc | apply Kd.R_drewN | apply Kd.R_drew)); exact HO0_0.out⟩, ⟨by (with_reducible repeat (first | apply Kd.R_alloc | apply Kd.R_drewN | apply Kd.R_drew)); exact HO0_1.out⟩, ⟨by (with_reducible repeat (first | apply Kd.R_alloc | apply Kd.R_drewN | apply Kd.R_drew)); exact HO0_2.out⟩, ⟨by first | exact Kd.R_nil _ _ _ _ _ | exact Kd.N_nil _ _ _ _ _ | exact Kd.V_nil _ _ _ _ _ | exact Kd.Q_nil _ _ _ _ _ | exact Kd.S_nil _ _ _ _ _⟩, ⟨by (with_reducible repeat (first | refine blk_drewN ?_ _ | refine blk_drew ?_ | refine blk_alloc ?_ _)); exact BK329.out⟩, ⟨by (with_reducible repeat (first | refine blk_drewN ?_ _ | refine blk_drew ?_ | refine blk_alloc ?_ _)); exact BK330.out⟩, ⟨by (with_reducible repeat (first | refine blk_drewN ?_ _ | refine blk_drew ?_ | refine blk_alloc ?_ _)); exact BK331.out⟩, ⟨by repeat (first | (with_reducible first | exact HK.out | apply Kept.alloc | apply Kept.drewN | apply Kept.drew | refine Kept.setCell ?_ (.inr GW329.out) _ | refine Kept.setCell ?_ (.inr GW330.out) _ | refine Kept.setCell ?_ (.inr GW331.out) _) | exact HK.out)⟩, ⟨by repeat (first | (with_reducible first | exact HB.out | apply below_alloc | apply pw_below_drewN | apply below_drew1 | refine below_set ?_ GE329.out | refine below_set ?_ GE330.out | refine below_set ?_ GE331.out) | exact HB.out)⟩⟩
  case round =>
    clear H'
    try clear c1
    try clear p2
    try clear c9
    try clear c12
    try clear c13
    try clear c14
    try clear hcz10_0
    try clear hcz10_1
    try clear hcz10_2
    try clear hcz10_3
    try clear hcz10_4
    try clear hcz14_0
    try clear hcz14_1
    try clear hcz14_2
    try clear hcz14_3
    try clear hcz14_4
    try clear hcz15_0
    try clear hcz15_1
    try clear hcz15_2
    try clear hcz15_3
    try clear hcz15_4
    try clear hfz10_0
    try clear hfz10_1
    try clear hfz10_2
    try clear hfz10_3
    try clear hfz10_4
    try clear hfz14_0
    try clear hfz14_1
    try clear hfz14_2
    try clear hfz14_3
    try clear hfz14_4
    try clear hfz15_0
    try clear hfz15_1
    try clear hfz15_2
    try clear hfz15_3
    try clear hfz15_4
    obtain ⟨x7_1, x332004_1, u332004, rfl, HA, HK1, HO_330000, HO_330001, HO_330002, HO_332000, HO_332001, HO_332002, HO_332004, BK329, BK330, BK331, HK, HB⟩ := hrel
    cases gk with
    | zero => exact absurd HA.out (by simp [luciferlaw02_tried.l0])
    | succ k1 =>
      have H := HA.out
      clear HA
      simp only [luciferlaw02_tried.l0] at H
      by_cases c17 : x7_1 < (l0_4.length : Int)
      · rw [if_pos c17] at H
        have c17b0 : decide (x7_1 < (l0_4.length : Int)) = true := decide_eq_true c17
        clear c17
        by_cases c18 : 0 ≤ x7_1
        · rw [if_pos c18] at H
          have c18b0 : decide (0 ≤ x7_1) = true := decide_eq_true c18
          clear c18
          by_cases c19 : 0 ≤ ((rd_T59 l0_4 x7_1).f0)
          · rw [if_pos c19] at H
            have c19b0 : decide (0 ≤ ((rd_T59 l0_4 x7_1).f0)) = true := decide_eq_true c19
            clear c19
            by_cases c20 : ((rd_T59 l0_4 x7_1).f0) < (l0_2.length : Int)
            · rw [if_pos c20] at H
              have c20b0 : decide (((rd_T59 l0_4 x7_1).f0) < (l0_2.length : Int)) = true := decide_eq_true c20
              clear c20
              replace H := Option.bind_eq_some_iff.mp H
              obtain ⟨t335, A210, H⟩ := H
              replace H : ((luciferref00_Drawn.f ((rd_T47 l0_2 ((rd_T59 l0_4 x7_1).f0)).f1.f0) ((rd_T47 l0_2 ((rd_T59 l0_4 x7_1).f0)).f1.f1) t335).bind fun t336 => ((luciferlaw02_rub.f l0_0 l0_1 l0_2 a0_3 l0_4 ((rd_T59 l0_4 x7_1).f0) l1).bind fun t337 => (if x332004_1.length < 8796093022208 then (luciferlaw02_tried.l0 k1 l1 t332 (wrap64 (x7_1 + 1)) l0_0 l0_1 l0_2 a0_3 l0_4 l0_0 l0_1 l0_2 a0_3 (x332004_1 ++ [(⟨(rd_T59 l0_4 x7_1).f0, decide ((wrap64 ((wrap64 (t332 + t337)) - t336)) ≥ a0_3)⟩ : S59)])) else (none)))) = some (r1, r2, r3, r4, r5) := H
              have A21 := Aside0.mk A210
              clear A210
              replace H := Option.bind_eq_some_iff.mp H
              obtain ⟨t336, A220, H⟩ := H
              replace H : ((luciferlaw02_rub.f l0_0 l0_1 l0_2 a0_3 l0_4 ((rd_T59 l0_4 x7_1).f0) l1).bind fun t337 => (if x332004_1.length < 8796093022208 then (luciferlaw02_tried.l0 k1 l1 t332 (wrap64 (x7_1 + 1)) l0_0 l0_1 l0_2 a0_3 l0_4 l0_0 l0_1 l0_2 a0_3 (x332004_1 ++ [(⟨(rd_T59 l0_4 x7_1).f0, decide ((wrap64 ((wrap64 (t332 + t337)) - t336)) ≥ a0_3)⟩ : S59)])) else (none))) = some (r1, r2, r3, r4, r5) := H
              have A22 := Aside0.mk A220
              clear A220
              replace H := Option.bind_eq_some_iff.mp H
              obtain ⟨t337, A230, H⟩ := H
              replace H : (if x332004_1.length < 8796093022208 then (luciferlaw02_tried.l0 k1 l1 t332 (wrap64 (x7_1 + 1)) l0_0 l0_1 l0_2 a0_3 l0_4 l0_0 l0_1 l0_2 a0_3 (x332004_1 ++ [(⟨(rd_T59 l0_4 x7_1).f0, decide ((wrap64 ((wrap64 (t332 + t337)) - t336)) ≥ a0_3)⟩ : S59)])) else (none)) = some (r1, r2, r3, r4, r5) := H
              have A23 := Aside0.mk A230
              clear A230
              by_cases c24 : x332004_1.length < 8796093022208
              · rw [if_pos c24] at H
                have LMc24 := Aside0.mk c24
                clear c24
                obtain ⟨y338, hy338⟩ : ∃ y_ : List (S59), y_ = (x332004_1 ++ [(⟨(rd_T59 l0_4 x7_1).f0, decide ((wrap64 ((wrap64 (t332 + t337)) - t336)) ≥ a0_3)⟩ : S59)]) := ⟨_, rfl⟩
                replace H : (luciferlaw02_tried.l0 k1 l1 t332 (wrap64 (x7_1 + 1)) l0_0 l0_1 l0_2 a0_3 l0_4 l0_0 l0_1 l0_2 a0_3 y338) = some (r1, r2, r3, r4, r5) := by first | (rw [hy338]; with_reducible exact H) | (have H2_ := (Option.bind_some _ _).symm.trans H; rw [hy338]; with_reducible exact H2_) | (have H2_ := (Option.bind_some _ _).symm.trans H; with_reducible exact H2_) | with_reducible exact H | (rw [hy338]; exact H) | exact H
                have Ny338 := Aside0.mk hy338
                clear hy338
                have H' := Aside0.mk H
                clear H
                have hnb25 := NB329_330.out
                have hnc25 := NB330_329.out
                have hnb26 := NB329_331.out
                have hnc26 := NB331_329.out
                have hcz27_0 : wr.cell? ⟨gb329, 0, none⟩ = some (.slice Ao4 l0_0.length co4) := (blk_cell BK329.out 0).trans rfl
                have hcz27_1 : wr.cell? ⟨gb329, 1, none⟩ = some (.slice Ao5 l0_1.length co5) := (blk_cell BK329.out 1).trans rfl
                have hcz27_2 : wr.cell? ⟨gb329, 2, none⟩ = some (.slice Ao6 l0_2.length co6) := (blk_cell BK329.out 2).trans rfl
                have hcz27_3 : wr.cell? ⟨gb329, 3, none⟩ = some (.int .i64 a0_3) := (blk_cell BK329.out 3).trans rfl
                have hcz27_4 : wr.cell? ⟨gb329, 4, none⟩ = some (.slice A0_4 l0_4.length c0_4) := (blk_cell BK329.out 4).trans rfl
                have hfz27_0 := blk_frozen BK329.out 0
                have hfz27_1 := blk_frozen BK329.out 1
                have hfz27_2 := blk_frozen BK329.out 2
                have hfz27_3 := blk_frozen BK329.out 3
                have hfz27_4 := blk_frozen BK329.out 4
                have p333 : 0 ≤ (x7_1 : Int) := of_decide_eq_true (by first | (with_reducible assumption) | assumption)
                have q333 : x7_1 < (l0_4.length : Int) := of_decide_eq_true (by first | (with_reducible assumption) | assumption)
                obtain ⟨ad333, e333, hx333_0, hx333_1⟩ := at_T59 (Kd.C_kept_now HR0_4.out HK.out) x7_1 p333 q333
                cases e333
                replace p333 := eq_true p333
                replace q333 := eq_true q333
                try go_wp2
                have n0_ := Aside0.mk (Kd.R_drew HO_330000.out)
                have n1_ := Aside0.mk (Kd.R_drew HO_330001.out)
                have n2_ := Aside0.mk (Kd.R_drew HO_330002.out)
                have n3_ := Aside0.mk (Kd.R_drew HO_332000.out)
                have n4_ := Aside0.mk (Kd.R_drew HO_332001.out)
                have n5_ := Aside0.mk (Kd.R_drew HO_332002.out)
                have n6_ := Aside0.mk (Kd.R_drew HO_332004.out)
                have n7_ := Aside0.mk (blk_drew BK329.out)
                have n8_ := Aside0.mk (blk_drew BK330.out)
                have n9_ := Aside0.mk (blk_drew BK331.out)
                have n10_ := Aside0.mk (Kept.drew HK.out)
                have n11_ := Aside0.mk (below_drew1 HB.out)
                clear HO_330000
                clear HO_330001
                clear HO_330002
                clear HO_332000
                clear HO_332001
                clear HO_332002
                clear HO_332004
                clear BK329
                clear BK330
                clear BK331
                clear HK
                clear HB
                have HO_330000 := n0_
                have HO_330001 := n1_
                have HO_330002 := n2_
                have HO_332000 := n3_
                have HO_332001 := n4_
                have HO_332002 := n5_
                have HO_332004 := n6_
                have BK329 := n7_
                have BK330 := n8_
                have BK331 := n9_
                have HK := n10_
                have HB := n11_
                clear n0_ n1_ n2_ n3_ n4_ n5_ n6_ n7_ n8_ n9_ n10_ n11_
                have p334 : 0 ≤ (((rd_T59 l0_4 x7_1).f0) : Int) := of_decide_eq_true (by first | (with_reducible assumption) | assumption)
                have q334 : ((rd_T59 l0_4 x7_1).f0) < (l0_2.length : Int) := of_decide_eq_true (by first | (with_reducible assumption) | assumption)
                obtain ⟨ad334, e334, hx334_0, hx334_1, hx334_2, hx334_3⟩ := at_T47 (Kd.C_kept_now HRA2.out HK.out) ((rd_T59 l0_4 x7_1).f0) p334 q334
                cases e334
                replace p334 := eq_true p334
                replace q334 := eq_true q334
                refine start_ (n := 12) (S := fun w' => w'.cell? ⟨gb329, 0, none⟩ = some (.slice Ao4 l0_0.length co4) ∧ w'.cell? ⟨gb329, 1, none⟩ = some (.slice Ao5 l0_1.length co5) ∧ w'.cell? ⟨gb329, 2, none⟩ = some (.slice (some ad334) l0_2.length co6) ∧ w'.cell? ⟨gb329, 3, none⟩ = some (.int .i64 a0_3) ∧ w'.cell? ⟨gb329, 4, none⟩ = some (.slice (some ad333) l0_4.length c0_4) ∧ w'.cell? (ad334.add ((((rd_T59 l0_4 x7_1).f0)).toNat * 4)) = some (.int .i64 ((rd_T47 l0_2 ((rd_T59 l0_4 x7_1).f0)).f0.f0)) ∧ w'.cell? ⟨(ad334.add ((((rd_T59 l0_4 x7_1).f0)).toNat * 4)).block, (ad334.add ((((rd_T59 l0_4 x7_1).f0)).toNat * 4)).off + 1, none⟩ = some (.int .i64 ((rd_T47 l0_2 ((rd_T59 l0_4 x7_1).f0)).f0.f1)) ∧ w'.cell? ⟨(ad334.add ((((rd_T59 l0_4 x7_1).f0)).toNat * 4)).block, (ad334.add ((((rd_T59 l0_4 x7_1).f0)).toNat * 4)).off + 2, none⟩ = some (.int .i64 ((rd_T47 l0_2 ((rd_T59 l0_4 x7_1).f0)).f1.f0)) ∧ w'.cell? ⟨(ad334.add ((((rd_T59 l0_4 x7_1).f0)).toNat * 4)).block, (ad334.add ((((rd_T59 l0_4 x7_1).f0)).toNat * 4)).off + 3, none⟩ = some (.int .i64 ((rd_T47 l0_2 ((rd_T59 l0_4 x7_1).f0)).f1.f1))) (ds := []) #[false, false, false, false, false, false, false, false, false, false, false, false] (by kernel_rfl) rfl rfl ⟨(blk_cell BK329.out 0).trans rfl, (blk_cell BK329.out 1).trans rfl, (blk_cell BK329.out 2).trans rfl, (blk_cell BK329.out 3).trans rfl, (blk_cell BK329.out 4).trans rfl, hx334_0, hx334_1, hx334_2, hx334_3⟩ (fun hHeld => ?_); refine with_tabW luciferlaw02_tried.tab8 luciferlaw02_tried.bits8 (fun HT_ HW_ => ?_)
                generalize wr.drew = w28 at HO_330000 HO_330001 HO_330002 HO_332000 HO_332001 HO_332002 HO_332004 BK329 BK330 BK331 HK HB hx334_0 hx334_1 hx334_2 hx334_3 hHeld ⊢
                refine pure_ (i := 0) (N := some 28) (v := ?_) (a' := ?_) #[true, false, false, false, false, false, false, false, false, false, false, false] rfl rfl (any_of HT_.out (by kernel_rfl)) (fun _ _ _ h => h) (Or.inl ⟨by rfl, ?_⟩) ?_ ?_
                rotate_left
                · intro w'
                  go_simp
                  with_reducible rfl
                rotate_left
                · simp only [Act.put, List.setIfInBounds_toArray, List.set_cons_zero, List.set_cons_succ, i64_w, i32_w]
                  rfl
                refine pure_ (i := 2) (N := some 30) (v := ?_) (a' := ?_) #[true, false, true, false, false, false, false, false, false, false, false, false] rfl rfl (any_of HT_.out (by kernel_rfl)) (fun _ _ _ h => h) (Or.inl ⟨by rfl, ?_⟩) ?_ ?_
                rotate_left
                · intro w'
                  go_simp
                  with_reducible rfl
                rotate_left
                · simp only [Act.put, List.setIfInBounds_toArray, List.set_cons_zero, List.set_cons_succ, i64_w, i32_w]
                  rfl
                refine pure_ (i := 6) (N := some 34) (v := ?_) (a' := ?_) #[true, false, true, false, false, false, true, false, false, false, false, false] rfl rfl (any_of HT_.out (by kernel_rfl)) (fun _ _ _ h => h) (Or.inl ⟨by rfl, ?_⟩) ?_ ?_
                rotate_left
                · intro w'
                  go_simp
                  with_reducible rfl
                rotate_left
                · simp only [Act.put, List.setIfInBounds_toArray, List.set_cons_zero, List.set_cons_succ, i64_w, i32_w]
                  rfl
                refine pure_ (i := 7) (N := some 35) (v := ?_) (a' := ?_) #[true, false, true, false, false, false, true, true, false, false, false, false] rfl rfl (any_of HT_.out (by kernel_rfl)) (fun _ _ _ h => h) (Or.inl ⟨by rfl, ?_⟩) ?_ ?_
                rotate_left
                · intro w'
                  go_simp
                  with_reducible rfl
                rotate_left
                · simp only [Act.put, List.setIfInBounds_toArray, List.set_cons_zero, List.set_cons_succ, i64_w, i32_w]
                  rfl
                refine pure_ (i := 8) (N := some 36) (v := ?_) (a' := ?_) #[true, false, true, false, false, false, true, true, true, false, false, false] rfl rfl (any_of HT_.out (by kernel_rfl)) (fun _ _ _ h => h) (Or.inl ⟨by rfl, ?_⟩) ?_ ?_
                rotate_left
                · intro w'
                  go_simp
                  with_reducible rfl
                rotate_left
                · simp only [Act.put, List.setIfInBounds_toArray, List.set_cons_zero, List.set_cons_succ, i64_w, i32_w]
                  rfl
                refine take_ (i := 1) (N := some 29) (v := ?_) (a' := ?_) #[true, true, true, false, false, false, true, true, true, false, false, false] rfl rfl (take_ofW HT_.out HW_.out (by kernel_rfl)) (fun _ _ _ h => h) (Or.inl ⟨by rfl, ?_⟩) hHeld ?_ ?_
                rotate_left
                · rintro w' ⟨s0, s1, s2, s3, s4, s5, s6, s7, s8⟩
                  go_simp
                  with_reducible rfl
                rotate_left
                · simp only [Act.put, List.setIfInBounds_toArray, List.set_cons_zero, List.set_cons_succ, i64_w, i32_w]
                  rfl
                refine pure_ (i := 3) (N := some 31) (v := ?_) (a' := ?_) #[true, true, true, true, false, false, true, true, true, false, false, false] rfl rfl (any_of HT_.out (by kernel_rfl)) (fun _ _ _ h => h) (Or.inl ⟨by rfl, ?_⟩) ?_ ?_
                rotate_left
                · intro w'
                  go_simp
                  with_reducible rfl
                rotate_left
                · simp only [Act.put, List.setIfInBounds_toArray, List.set_cons_zero, List.set_cons_succ, i64_w, i32_w]
                  rfl
                refine pure_ (i := 4) (N := some 32) (v := ?_) (a' := ?_) #[true, true, true, true, true, false, true, true, true, false, false, false] rfl rfl (any_of HT_.out (by kernel_rfl)) (fun _ _ _ h => h) (Or.inl ⟨by rfl, ?_⟩) ?_ ?_
                rotate_left
                · intro w'
                  go_simp
                  with_reducible rfl
                rotate_left
                · simp only [Act.put, List.setIfInBounds_toArray, List.set_cons_zero, List.set_cons_succ, i64_w, i32_w]
                  rfl
                refine take_ (i := 5) (N := some 33) (v := ?_) (a' := ?_) #[true, true, true, true, true, true, true, true, true, false, false, false] rfl rfl (take_ofW HT_.out HW_.out (by kernel_rfl)) (fun _ _ _ h => h) (Or.inl ⟨by rfl, ?_⟩) hHeld ?_ ?_
                rotate_left
                · rintro w' ⟨s0, s1, s2, s3, s4, s5, s6, s7, s8⟩
                  go_simp
                  with_reducible rfl
                rotate_left
                · simp only [Act.put, List.setIfInBounds_toArray, List.set_cons_zero, List.set_cons_succ, i64_w, i32_w]
                  rfl
                refine one_ (i := 9) (N := some 37) #[true, true, true, true, true, true, true, true, true, true, false, false] rfl rfl (one_of HT_.out (by kernel_rfl)) (by decide) (fun K hK => ?_)
                refine goes_ Tryd.func22 (by kernel_rfl) rfl #[.slice A1 l1.length c1, .int .i64 (wrap64 (x7_1 + 7))] (by rfl) rfl rfl (by (try simp only [List.map_toArray, List.map_cons, List.map_nil]); first | done | rfl | (simp only [List.length_drop, List.length_take]; rfl)) ?_
                with_reducible refine (luciferref00_Item.calls _ _ l1 (wrap64 (x7_1 + 7)) t335 _ ?side1 ?side2 A21.out).mono ?_
                (case side1 => exact Kd.C_kept_now HR1.out (by repeat (first | (with_reducible first | exact HK.out | apply Kept.alloc | apply Kept.drewN | apply Kept.drew | refine Kept.setCell ?_ (.inr GW329.out) _ | refine Kept.setCell ?_ (.inr GW330.out) _ | refine Kept.setCell ?_ (.inr GW331.out) _) | exact HK.out)))
                (case side2 => exact HC1.out)
                rintro e w' ⟨rfl, ⟨nd, rfl⟩⟩
                refine ⟨_, rfl, ?_⟩
                refine hK.out _ _ ⟨(blk_cell BK329.out 0).trans rfl, (blk_cell BK329.out 1).trans rfl, (blk_cell BK329.out 2).trans rfl, (blk_cell BK329.out 3).trans rfl, (blk_cell BK329.out 4).trans rfl, hHeld.2.2.2.2.2.1, hHeld.2.2.2.2.2.2.1, hHeld.2.2.2.2.2.2.2.1, hHeld.2.2.2.2.2.2.2.2⟩ (fun hHeld => ?_)
                clear hK K
                refine norm_ (a' := ?_) ?_ ?_
                rotate_left
                · show Act.put _ (some 37) _ = _
                  simp only [Act.put, List.setIfInBounds_toArray, List.set_cons_zero, List.set_cons_succ, i64_w, i32_w]
                  rfl
                refine one_ (i := 10) (N := some 38) #[true, true, true, true, true, true, true, true, true, true, true, false] rfl rfl (one_of HT_.out (by kernel_rfl)) (by decide) (fun K hK => ?_)
                refine goes_ Tryd.func21 (by kernel_rfl) rfl #[.agg #[.int .i64 ((rd_T47 l0_2 ((rd_T59 l0_4 x7_1).f0)).f1.f0), .int .i64 ((rd_T47 l0_2 ((rd_T59 l0_4 x7_1).f0)).f1.f1)], .int .i64 t335] (by rfl) rfl rfl (by (try simp only [List.map_toArray, List.map_cons, List.map_nil]); first | done | rfl | (simp only [List.length_drop, List.length_take]; rfl)) ?_
                with_reducible refine (luciferref00_Drawn.calls ((rd_T47 l0_2 ((rd_T59 l0_4 x7_1).f0)).f1.f0) ((rd_T47 l0_2 ((rd_T59 l0_4 x7_1).f0)).f1.f1) t335 t336 _ A22.out).mono ?_
                rintro e w29 ⟨rfl, hb⟩
                have HS5_ := (hb.cell (World.block_lt_of_cell? _ _ (hHeld.2.2.2.2.2.1))).trans (hHeld.2.2.2.2.2.1)
                have HS6_ := (hb.cell (World.block_lt_of_cell? _ _ (hHeld.2.2.2.2.2.2.1))).trans (hHeld.2.2.2.2.2.2.1)
                have HS7_ := (hb.cell (World.block_lt_of_cell? _ _ (hHeld.2.2.2.2.2.2.2.1))).trans (hHeld.2.2.2.2.2.2.2.1)
                have HS8_ := (hb.cell (World.block_lt_of_cell? _ _ (hHeld.2.2.2.2.2.2.2.2))).trans (hHeld.2.2.2.2.2.2.2.2)
                refine ⟨_, rfl, ?_⟩
                have n0_ := Aside0.mk (Kd.R_below (by (with_reducible repeat (first | apply Kd.R_alloc | apply Kd.R_drewN | apply Kd.R_drew)); exact HO_330000.out) hb)
                have n1_ := Aside0.mk (Kd.R_below (by (with_reducible repeat (first | apply Kd.R_alloc | apply Kd.R_drewN | apply Kd.R_drew)); exact HO_330001.out) hb)
                have n2_ := Aside0.mk (Kd.R_below (by (with_reducible repeat (first | apply Kd.R_alloc | apply Kd.R_drewN | apply Kd.R_drew)); exact HO_330002.out) hb)
                have n3_ := Aside0.mk (Kd.R_below (by (with_reducible repeat (first | apply Kd.R_alloc | apply Kd.R_drewN | apply Kd.R_drew)); exact HO_332000.out) hb)
                have n4_ := Aside0.mk (Kd.R_below (by (with_reducible repeat (first | apply Kd.R_alloc | apply Kd.R_drewN | apply Kd.R_drew)); exact HO_332001.out) hb)
                have n5_ := Aside0.mk (Kd.R_below (by (with_reducible repeat (first | apply Kd.R_alloc | apply Kd.R_drewN | apply Kd.R_drew)); exact HO_332002.out) hb)
                have n6_ := Aside0.mk (Kd.R_below (by (with_reducible repeat (first | apply Kd.R_alloc | apply Kd.R_drewN | apply Kd.R_drew)); exact HO_332004.out) hb)
                have n7_ := Aside0.mk (blk_below (g := gb329) (o := .cells #[.slice Ao4 l0_0.length co4, .slice Ao5 l0_1.length co5, .slice (some ad334) l0_2.length co6, .int .i64 a0_3, .slice (some ad333) l0_4.length c0_4] 27 (0, 0)) (by (with_reducible repeat (first | refine blk_drewN ?_ _ | refine blk_drew ?_ | refine blk_alloc ?_ _)); exact BK329.out) hb)
                have n8_ := Aside0.mk (blk_below (g := gb330) (o := .cells #[.slice none 0 0, .slice none 0 0, .slice none 0 0, .int .i64 0, .slice none 0 0] 27 (0, 0)) (by (with_reducible repeat (first | refine blk_drewN ?_ _ | refine blk_drew ?_ | refine blk_alloc ?_ _)); exact BK330.out) hb)
                have n9_ := Aside0.mk (blk_below (g := gb331) (o := .cells #[.slice Ao4 l0_0.length co4, .slice Ao5 l0_1.length co5, .slice (some ad334) l0_2.length co6, .int .i64 a0_3, u332004] 27 (0, 0)) (by (with_reducible repeat (first | refine blk_drewN ?_ _ | refine blk_drew ?_ | refine blk_alloc ?_ _)); exact BK331.out) hb)
                have n10_ := Aside0.mk (Kept.below (S := (fun k_ => P0_0_ k_ ∨ P0_1_ k_ ∨ P0_2_ k_)) (by repeat (first | (with_reducible first | exact HK.out | apply Kept.alloc | apply Kept.drewN | apply Kept.drew | refine Kept.setCell ?_ (.inr GW329.out) _ | refine Kept.setCell ?_ (.inr GW330.out) _ | refine Kept.setCell ?_ (.inr GW331.out) _) | exact HK.out)) hb)
                have n11_ := Aside0.mk (below_step (by repeat (first | (with_reducible first | exact HB.out | apply below_alloc | apply pw_below_drewN | apply below_drew1 | refine below_set ?_ GE329.out | refine below_set ?_ GE330.out | refine below_set ?_ GE331.out) | exact HB.out)) hb)
                clear HO_330000
                clear HO_330001
                clear HO_330002
                clear HO_332000
                clear HO_332001
                clear HO_332002
                clear HO_332004
                clear BK329
                clear BK330
                clear BK331
                clear HK
                clear HB
                have HO_330000 := n0_
                have HO_330001 := n1_
                have HO_330002 := n2_
                have HO_332000 := n3_
                have HO_332001 := n4_
                have HO_332002 := n5_
                have HO_332004 := n6_
                have BK329 := n7_
                have BK330 := n8_
                have BK331 := n9_
                have HK := n10_
                have HB := n11_
                clear n0_ n1_ n2_ n3_ n4_ n5_ n6_ n7_ n8_ n9_ n10_ n11_
                (try clear hb)
                (try clear hb2)
                (try clear hk)
                (try clear hi)
                refine hK.out _ _ ⟨(blk_cell BK329.out 0).trans rfl, (blk_cell BK329.out 1).trans rfl, (blk_cell BK329.out 2).trans rfl, (blk_cell BK329.out 3).trans rfl, (blk_cell BK329.out 4).trans rfl, HS5_, HS6_, HS7_, HS8_⟩ (fun hHeld => ?_)
                clear hK K
                refine norm_ (a' := ?_) ?_ ?_
                rotate_left
                · show Act.put _ (some 38) _ = _
                  simp only [Act.put, List.setIfInBounds_toArray, List.set_cons_zero, List.set_cons_succ, i64_w, i32_w]
                  rfl
                refine pure_ (i := 11) (N := some 9) (v := ?_) (a' := ?_) #[true, true, true, true, true, true, true, true, true, true, true, true] rfl rfl (any_of HT_.out (by kernel_rfl)) (fun _ _ _ h => h) (Or.inl ⟨by rfl, ?_⟩) ?_ ?_
                rotate_left
                · intro w'
                  go_simp
                  with_reducible rfl
                rotate_left
                · simp only [Act.put, List.setIfInBounds_toArray, List.set_cons_zero, List.set_cons_succ, i64_w, i32_w]
                  rfl
                refine done_ (done_of HT_.out (by kernel_rfl)) ?_
                try go_wp2
                have n0_ := Aside0.mk (Kd.R_drew HO_330000.out)
                have n1_ := Aside0.mk (Kd.R_drew HO_330001.out)
                have n2_ := Aside0.mk (Kd.R_drew HO_330002.out)
                have n3_ := Aside0.mk (Kd.R_drew HO_332000.out)
                have n4_ := Aside0.mk (Kd.R_drew HO_332001.out)
                have n5_ := Aside0.mk (Kd.R_drew HO_332002.out)
                have n6_ := Aside0.mk (Kd.R_drew HO_332004.out)
                have n7_ := Aside0.mk (blk_drew BK329.out)
                have n8_ := Aside0.mk (blk_drew BK330.out)
                have n9_ := Aside0.mk (blk_drew BK331.out)
                have n10_ := Aside0.mk (Kept.drew HK.out)
                have n11_ := Aside0.mk (below_drew1 HB.out)
                clear HO_330000
                clear HO_330001
                clear HO_330002
                clear HO_332000
                clear HO_332001
                clear HO_332002
                clear HO_332004
                clear BK329
                clear BK330
                clear BK331
                clear HK
                clear HB
                have HO_330000 := n0_
                have HO_330001 := n1_
                have HO_330002 := n2_
                have HO_332000 := n3_
                have HO_332001 := n4_
                have HO_332002 := n5_
                have HO_332004 := n6_
                have BK329 := n7_
                have BK330 := n8_
                have BK331 := n9_
                have HK := n10_
                have HB := n11_
                clear n0_ n1_ n2_ n3_ n4_ n5_ n6_ n7_ n8_ n9_ n10_ n11_
                refine start_ (n := 19) (S := fun w' => w'.cell? ⟨gb331, 0, none⟩ = some (.slice Ao4 l0_0.length co4) ∧ w'.cell? ⟨gb331, 1, none⟩ = some (.slice Ao5 l0_1.length co5) ∧ w'.cell? ⟨gb331, 2, none⟩ = some (.slice (some ad334) l0_2.length co6) ∧ w'.cell? ⟨gb331, 3, none⟩ = some (.int .i64 a0_3) ∧ w'.cell? ⟨gb331, 4, none⟩ = some (u332004) ∧ w'.cell? ⟨gb329, 0, none⟩ = some (.slice Ao4 l0_0.length co4) ∧ w'.cell? ⟨gb329, 1, none⟩ = some (.slice Ao5 l0_1.length co5) ∧ w'.cell? ⟨gb329, 2, none⟩ = some (.slice (some ad334) l0_2.length co6) ∧ w'.cell? ⟨gb329, 3, none⟩ = some (.int .i64 a0_3) ∧ w'.cell? ⟨gb329, 4, none⟩ = some (.slice (some ad333) l0_4.length c0_4)) (ds := [18]) #[false, false, false, false, false, false, false, false, false, false, false, false, false, false, false, false, false, false, false] (by kernel_rfl) rfl rfl ⟨(blk_cell BK331.out 0).trans rfl, (blk_cell BK331.out 1).trans rfl, (blk_cell BK331.out 2).trans rfl, (blk_cell BK331.out 3).trans rfl, (blk_cell BK331.out 4).trans rfl, (blk_cell BK329.out 0).trans rfl, (blk_cell BK329.out 1).trans rfl, (blk_cell BK329.out 2).trans rfl, (blk_cell BK329.out 3).trans rfl, (blk_cell BK329.out 4).trans rfl⟩ (fun hHeld => ?_); refine with_tabW luciferlaw02_tried.tab9 luciferlaw02_tried.bits9 (fun HT_ HW_ => ?_)
                generalize w29.drew = w30 at HO_330000 HO_330001 HO_330002 HO_332000 HO_332001 HO_332002 HO_332004 BK329 BK330 BK331 HK HB hHeld ⊢
                refine pure_ (i := 0) (N := some 39) (v := ?_) (a' := ?_) #[true, false, false, false, false, false, false, false, false, false, false, false, false, false, false, false, false, false, false] rfl rfl (any_of HT_.out (by kernel_rfl)) (fun _ _ _ h => h) (Or.inl ⟨by rfl, ?_⟩) ?_ ?_
                rotate_left
                · intro w'
                  go_simp
                  with_reducible rfl
                rotate_left
                · simp only [Act.put, List.setIfInBounds_toArray, List.set_cons_zero, List.set_cons_succ, i64_w, i32_w]
                  rfl
                refine pure_ (i := 2) (N := some 41) (v := ?_) (a' := ?_) #[true, false, true, false, false, false, false, false, false, false, false, false, false, false, false, false, false, false, false] rfl rfl (any_of HT_.out (by kernel_rfl)) (fun _ _ _ h => h) (Or.inl ⟨by rfl, ?_⟩) ?_ ?_
                rotate_left
                · intro w'
                  go_simp
                  with_reducible rfl
                rotate_left
                · simp only [Act.put, List.setIfInBounds_toArray, List.set_cons_zero, List.set_cons_succ, i64_w, i32_w]
                  rfl
                refine pure_ (i := 3) (N := some 42) (v := ?_) (a' := ?_) #[true, false, true, true, false, false, false, false, false, false, false, false, false, false, false, false, false, false, false] rfl rfl (any_of HT_.out (by kernel_rfl)) (fun _ _ _ h => h) (Or.inl ⟨by rfl, ?_⟩) ?_ ?_
                rotate_left
                · intro w'
                  go_simp
                  with_reducible rfl
                rotate_left
                · simp only [Act.put, List.setIfInBounds_toArray, List.set_cons_zero, List.set_cons_succ, i64_w, i32_w]
                  rfl
                refine pure_ (i := 5) (N := some 44) (v := ?_) (a' := ?_) #[true, false, true, true, false, true, false, false, false, false, false, false, false, false, false, false, false, false, false] rfl rfl (any_of HT_.out (by kernel_rfl)) (fun _ _ _ h => h) (Or.inl ⟨by rfl, ?_⟩) ?_ ?_
                rotate_left
                · intro w'
                  go_simp
                  with_reducible rfl
                rotate_left
                · simp only [Act.put, List.setIfInBounds_toArray, List.set_cons_zero, List.set_cons_succ, i64_w, i32_w]
                  rfl
                refine pure_ (i := 6) (N := some 45) (v := ?_) (a' := ?_) #[true, false, true, true, false, true, true, false, false, false, false, false, false, false, false, false, false, false, false] rfl rfl (any_of HT_.out (by kernel_rfl)) (fun _ _ _ h => h) (Or.inl ⟨by rfl, ?_⟩) ?_ ?_
                rotate_left
                · intro w'
                  go_simp
                  with_reducible rfl
                rotate_left
                · simp only [Act.put, List.setIfInBounds_toArray, List.set_cons_zero, List.set_cons_succ, i64_w, i32_w]
                  rfl
                refine pure_ (i := 9) (N := some 48) (v := ?_) (a' := ?_) #[true, false, true, true, false, true, true, false, false, true, false, false, false, false, false, false, false, false, false] rfl rfl (any_of HT_.out (by kernel_rfl)) (fun _ _ _ h => h) (Or.inl ⟨by rfl, ?_⟩) ?_ ?_
                rotate_left
                · intro w'
                  go_simp
                  with_reducible rfl
                rotate_left
                · simp only [Act.put, List.setIfInBounds_toArray, List.set_cons_zero, List.set_cons_succ, i64_w, i32_w]
                  rfl
                refine pure_ (i := 11) (N := some 50) (v := ?_) (a' := ?_) #[true, false, true, true, false, true, true, false, false, true, false, true, false, false, false, false, false, false, false] rfl rfl (any_of HT_.out (by kernel_rfl)) (fun _ _ _ h => h) (Or.inl ⟨by rfl, ?_⟩) ?_ ?_
                rotate_left
                · intro w'
                  go_simp
                  with_reducible rfl
                rotate_left
                · simp only [Act.put, List.setIfInBounds_toArray, List.set_cons_zero, List.set_cons_succ, i64_w, i32_w]
                  rfl
                refine take_ (i := 1) (N := some 40) (v := ?_) (a' := ?_) #[true, true, true, true, false, true, true, false, false, true, false, true, false, false, false, false, false, false, false] rfl rfl (take_ofW HT_.out HW_.out (by kernel_rfl)) (fun _ _ _ h => h) (Or.inl ⟨by rfl, ?_⟩) hHeld ?_ ?_
                rotate_left
                · rintro w' ⟨s0, s1, s2, s3, s4, s5, s6, s7, s8, s9⟩
                  go_simp
                  with_reducible rfl
                rotate_left
                · simp only [Act.put, List.setIfInBounds_toArray, List.set_cons_zero, List.set_cons_succ, i64_w, i32_w]
                  rfl
                refine take_ (i := 4) (N := some 43) (v := ?_) (a' := ?_) #[true, true, true, true, true, true, true, false, false, true, false, true, false, false, false, false, false, false, false] rfl rfl (take_ofW HT_.out HW_.out (by kernel_rfl)) (fun _ _ _ h => h) (Or.inl ⟨by rfl, ?_⟩) hHeld ?_ ?_
                rotate_left
                · rintro w' ⟨s0, s1, s2, s3, s4, s5, s6, s7, s8, s9⟩
                  go_simp
                  with_reducible rfl
                rotate_left
                · simp only [Act.put, List.setIfInBounds_toArray, List.set_cons_zero, List.set_cons_succ, i64_w, i32_w]
                  rfl
                refine take_ (i := 12) (N := some 51) (v := ?_) (a' := ?_) #[true, true, true, true, true, true, true, false, false, true, false, true, true, false, false, false, false, false, false] rfl rfl (take_ofW HT_.out HW_.out (by kernel_rfl)) (fun _ _ _ h => h) (Or.inl ⟨by rfl, ?_⟩) hHeld ?_ ?_
                rotate_left
                · rintro w' ⟨s0, s1, s2, s3, s4, s5, s6, s7, s8, s9⟩
                  go_simp
                  with_reducible rfl
                rotate_left
                · simp only [Act.put, List.setIfInBounds_toArray, List.set_cons_zero, List.set_cons_succ, i64_w, i32_w]
                  rfl
                refine one_ (i := 7) (N := some 46) #[true, true, true, true, true, true, true, true, false, true, false, true, true, false, false, false, false, false, false] rfl rfl (one_of HT_.out (by kernel_rfl)) (by decide) (fun K hK => ?_)
                refine goes_ Tryd.func23 (by kernel_rfl) rfl #[.agg #[.slice Ao4 l0_0.length co4, .slice Ao5 l0_1.length co5, .slice (some ad334) l0_2.length co6, .int .i64 a0_3, .slice (some ad333) l0_4.length c0_4], .int .i64 ((rd_T59 l0_4 x7_1).f0), .slice A1 l1.length c1] (by rfl) rfl rfl (by (try simp only [List.map_toArray, List.map_cons, List.map_nil]); first | done | rfl | (simp only [List.length_drop, List.length_take]; rfl)) ?_
                with_reducible refine (luciferlaw02_rub.calls _ _ l0_0 _ _ l0_1 _ _ l0_2 a0_3 _ _ l0_4 ((rd_T59 l0_4 x7_1).f0) _ _ l1 t337 _ ?side1 ?side2 ?side3 ?side4 ?side5 ?side6 ?side7 ?side8 ?side9 ?side10 A23.out).mono ?_
                (case side1 => repeat (first | exact (Kd.C_kept_now HRA0.out HK.out) | (with_reducible refine Kd.C_alloc ?_ _) | (with_reducible refine Kd.C_drewN ?_ _) | (with_reducible refine Kd.C_drew ?_)))
                (case side2 => exact HCA0.out)
                (case side3 => repeat (first | exact (Kd.C_kept_now HRA1.out HK.out) | (with_reducible refine Kd.C_alloc ?_ _) | (with_reducible refine Kd.C_drewN ?_ _) | (with_reducible refine Kd.C_drew ?_)))
                (case side4 => exact HCA1.out)
                (case side5 => repeat (first | exact (Kd.C_kept_now HRA2.out HK.out) | (with_reducible refine Kd.C_alloc ?_ _) | (with_reducible refine Kd.C_drewN ?_ _) | (with_reducible refine Kd.C_drew ?_)))
                (case side6 => exact HCA2.out)
                (case side7 => exact Kd.C_kept_now HR0_4.out (by repeat (first | (with_reducible first | exact HK.out | apply Kept.alloc | apply Kept.drewN | apply Kept.drew | refine Kept.setCell ?_ (.inr GW329.out) _ | refine Kept.setCell ?_ (.inr GW330.out) _ | refine Kept.setCell ?_ (.inr GW331.out) _) | exact HK.out)))
                (case side8 => exact HC0_4.out)
                (case side9 => exact Kd.C_kept_now HR1.out (by repeat (first | (with_reducible first | exact HK.out | apply Kept.alloc | apply Kept.drewN | apply Kept.drew | refine Kept.setCell ?_ (.inr GW329.out) _ | refine Kept.setCell ?_ (.inr GW330.out) _ | refine Kept.setCell ?_ (.inr GW331.out) _) | exact HK.out)))
                (case side10 => exact HC1.out)
                rintro e w31 ⟨rfl, hb⟩
                refine ⟨_, rfl, ?_⟩
                have n0_ := Aside0.mk (Kd.R_below (by (with_reducible repeat (first | apply Kd.R_alloc | apply Kd.R_drewN | apply Kd.R_drew)); exact HO_330000.out) hb)
                have n1_ := Aside0.mk (Kd.R_below (by (with_reducible repeat (first | apply Kd.R_alloc | apply Kd.R_drewN | apply Kd.R_drew)); exact HO_330001.out) hb)
                have n2_ := Aside0.mk (Kd.R_below (by (with_reducible repeat (first | apply Kd.R_alloc | apply Kd.R_drewN | apply Kd.R_drew)); exact HO_330002.out) hb)
                have n3_ := Aside0.mk (Kd.R_below (by (with_reducible repeat (first | apply Kd.R_alloc | apply Kd.R_drewN | apply Kd.R_drew)); exact HO_332000.out) hb)
                have n4_ := Aside0.mk (Kd.R_below (by (with_reducible repeat (first | apply Kd.R_alloc | apply Kd.R_drewN | apply Kd.R_drew)); exact HO_332001.out) hb)
                have n5_ := Aside0.mk (Kd.R_below (by (with_reducible repeat (first | apply Kd.R_alloc | apply Kd.R_drewN | apply Kd.R_drew)); exact HO_332002.out) hb)
                have n6_ := Aside0.mk (Kd.R_below (by (with_reducible repeat (first | apply Kd.R_alloc | apply Kd.R_drewN | apply Kd.R_drew)); exact HO_332004.out) hb)
                have n7_ := Aside0.mk (blk_below (g := gb329) (o := .cells #[.slice Ao4 l0_0.length co4, .slice Ao5 l0_1.length co5, .slice (some ad334) l0_2.length co6, .int .i64 a0_3, .slice (some ad333) l0_4.length c0_4] 27 (0, 0)) (by (with_reducible repeat (first | refine blk_drewN ?_ _ | refine blk_drew ?_ | refine blk_alloc ?_ _)); exact BK329.out) hb)
                have n8_ := Aside0.mk (blk_below (g := gb330) (o := .cells #[.slice none 0 0, .slice none 0 0, .slice none 0 0, .int .i64 0, .slice none 0 0] 27 (0, 0)) (by (with_reducible repeat (first | refine blk_drewN ?_ _ | refine blk_drew ?_ | refine blk_alloc ?_ _)); exact BK330.out) hb)
                have n9_ := Aside0.mk (blk_below (g := gb331) (o := .cells #[.slice Ao4 l0_0.length co4, .slice Ao5 l0_1.length co5, .slice (some ad334) l0_2.length co6, .int .i64 a0_3, u332004] 27 (0, 0)) (by (with_reducible repeat (first | refine blk_drewN ?_ _ | refine blk_drew ?_ | refine blk_alloc ?_ _)); exact BK331.out) hb)
                have n10_ := Aside0.mk (Kept.below (S := (fun k_ => P0_0_ k_ ∨ P0_1_ k_ ∨ P0_2_ k_)) (by repeat (first | (with_reducible first | exact HK.out | apply Kept.alloc | apply Kept.drewN | apply Kept.drew | refine Kept.setCell ?_ (.inr GW329.out) _ | refine Kept.setCell ?_ (.inr GW330.out) _ | refine Kept.setCell ?_ (.inr GW331.out) _) | exact HK.out)) hb)
                have n11_ := Aside0.mk (below_step (by repeat (first | (with_reducible first | exact HB.out | apply below_alloc | apply pw_below_drewN | apply below_drew1 | refine below_set ?_ GE329.out | refine below_set ?_ GE330.out | refine below_set ?_ GE331.out) | exact HB.out)) hb)
                clear HO_330000
                clear HO_330001
                clear HO_330002
                clear HO_332000
                clear HO_332001
                clear HO_332002
                clear HO_332004
                clear BK329
                clear BK330
                clear BK331
                clear HK
                clear HB
                have HO_330000 := n0_
                have HO_330001 := n1_
                have HO_330002 := n2_
                have HO_332000 := n3_
                have HO_332001 := n4_
                have HO_332002 := n5_
                have HO_332004 := n6_
                have BK329 := n7_
                have BK330 := n8_
                have BK331 := n9_
                have HK := n10_
                have HB := n11_
                clear n0_ n1_ n2_ n3_ n4_ n5_ n6_ n7_ n8_ n9_ n10_ n11_
                (try clear hb)
                (try clear hb2)
                (try clear hk)
                (try clear hi)
                refine hK.out _ _ ⟨(blk_cell BK331.out 0).trans rfl, (blk_cell BK331.out 1).trans rfl, (blk_cell BK331.out 2).trans rfl, (blk_cell BK331.out 3).trans rfl, (blk_cell BK331.out 4).trans rfl, (blk_cell BK329.out 0).trans rfl, (blk_cell BK329.out 1).trans rfl, (blk_cell BK329.out 2).trans rfl, (blk_cell BK329.out 3).trans rfl, (blk_cell BK329.out 4).trans rfl⟩ (fun hHeld => ?_)
                clear hK K
                refine norm_ (a' := ?_) ?_ ?_
                rotate_left
                · show Act.put _ (some 46) _ = _
                  simp only [Act.put, List.setIfInBounds_toArray, List.set_cons_zero, List.set_cons_succ, i64_w, i32_w]
                  rfl
                refine pure_ (i := 8) (N := some 47) (v := ?_) (a' := ?_) #[true, true, true, true, true, true, true, true, true, true, false, true, true, false, false, false, false, false, false] rfl rfl (any_of HT_.out (by kernel_rfl)) (fun _ _ _ h => h) (Or.inl ⟨by rfl, ?_⟩) ?_ ?_
                rotate_left
                · intro w'
                  go_simp
                  with_reducible rfl
                rotate_left
                · simp only [Act.put, List.setIfInBounds_toArray, List.set_cons_zero, List.set_cons_succ, i64_w, i32_w]
                  rfl
                refine pure_ (i := 10) (N := some 49) (v := ?_) (a' := ?_) #[true, true, true, true, true, true, true, true, true, true, true, true, true, false, false, false, false, false, false] rfl rfl (any_of HT_.out (by kernel_rfl)) (fun _ _ _ h => h) (Or.inl ⟨by rfl, ?_⟩) ?_ ?_
                rotate_left
                · intro w'
                  go_simp
                  with_reducible rfl
                rotate_left
                · simp only [Act.put, List.setIfInBounds_toArray, List.set_cons_zero, List.set_cons_succ, i64_w, i32_w]
                  rfl
                refine pure_ (i := 13) (N := some 52) (v := ?_) (a' := ?_) #[true, true, true, true, true, true, true, true, true, true, true, true, true, true, false, false, false, false, false] rfl rfl (any_of HT_.out (by kernel_rfl)) (fun _ _ _ h => h) (Or.inl ⟨by rfl, ?_⟩) ?_ ?_
                rotate_left
                · intro w'
                  go_simp
                  with_reducible rfl
                rotate_left
                · simp only [Act.put, List.setIfInBounds_toArray, List.set_cons_zero, List.set_cons_succ, i64_w, i32_w]
                  rfl
                refine pure_ (i := 14) (N := some 53) (v := ?_) (a' := ?_) #[true, true, true, true, true, true, true, true, true, true, true, true, true, true, true, false, false, false, false] rfl rfl (any_of HT_.out (by kernel_rfl)) (fun _ _ _ h => h) (Or.inl ⟨by rfl, ?_⟩) ?_ ?_
                rotate_left
                · intro w'
                  go_simp
                  with_reducible rfl
                rotate_left
                · simp only [Act.put, List.setIfInBounds_toArray, List.set_cons_zero, List.set_cons_succ, i64_w, i32_w]
                  rfl
                refine one_ (i := 15) (N := some 54) #[true, true, true, true, true, true, true, true, true, true, true, true, true, true, true, true, false, false, false] rfl rfl (one_of HT_.out (by kernel_rfl)) (by decide) (fun K hK => ?_)
                refine value_ (w1 := ?_) (v := ?_) (by rfl) rfl ?_ ?_
                rotate_left 2
                · go_simp
                  constructor
                  · rfl
                  · rfl
                refine hK.out _ _ ⟨(blk_cell (blk_alloc BK331.out _) 0).trans rfl, (blk_cell (blk_alloc BK331.out _) 1).trans rfl, (blk_cell (blk_alloc BK331.out _) 2).trans rfl, (blk_cell (blk_alloc BK331.out _) 3).trans rfl, (blk_cell (blk_alloc BK331.out _) 4).trans rfl, (blk_cell (blk_alloc BK329.out _) 0).trans rfl, (blk_cell (blk_alloc BK329.out _) 1).trans rfl, (blk_cell (blk_alloc BK329.out _) 2).trans rfl, (blk_cell (blk_alloc BK329.out _) 3).trans rfl, (blk_cell (blk_alloc BK329.out _) 4).trans rfl⟩ (fun hHeld => ?_)
                clear hK K
                refine norm_ (a' := ?_) ?_ ?_
                rotate_left
                · show Act.put _ (some 54) _ = _
                  simp only [Act.put, List.setIfInBounds_toArray, List.set_cons_zero, List.set_cons_succ, i64_w, i32_w]
                  rfl
                refine one_ (i := 16) (N := some 55) #[true, true, true, true, true, true, true, true, true, true, true, true, true, true, true, true, true, false, false] rfl rfl (one_of HT_.out (by kernel_rfl)) (by decide) (fun K hK => ?_)
                refine Kd.R_append_step k59 (w0 := w0) w0.heap.size (by rfl) (.tmp 40) (.tmp 54) 25 59 (.agg #[(.int .i64 0), (.bool false)]) 16 rfl Tryd.underlying25 info59 rfl (by decide) (by omega) u332004 x332004_1 (⟨(rd_T59 l0_4 x7_1).f0, decide ((wrap64 ((wrap64 (t332 + t337)) - t336)) ≥ a0_3)⟩ : S59) [.int .i64 ((rd_T59 l0_4 x7_1).f0), .bool (decide ((wrap64 ((wrap64 (t332 + t337)) - t336)) ≥ a0_3))] (fun k_ => ((P0_0_ k_ ∨ P0_1_ k_ ∨ P0_2_ k_) ∨ w.heap.size ≤ k_)) (fun _ => False) rfl rfl ?aP (fun _ hk => hk.elim) ?aF ?aO ?aB ?aS ?aL ?_
                (case aP => exact k59_mkM _ _ _ (⟨(rd_T59 l0_4 x7_1).f0, decide ((wrap64 ((wrap64 (t332 + t337)) - t336)) ≥ a0_3)⟩ : S59))
                (case aB => exact (by repeat (first | (with_reducible first | exact HB.out | apply below_alloc | apply pw_below_drewN | apply below_drew1 | refine below_set ?_ GE329.out | refine below_set ?_ GE330.out | refine below_set ?_ GE331.out) | exact HB.out)))
                (case aF => exact (fun k_ hk => (.inr (Nat.le_trans (by first | exact HK.out.1 | exact (show Kept w _ (fun k_ => P0_0_ k_ ∨ P0_1_ k_ ∨ P0_2_ k_) from by repeat (first | (with_reducible first | exact HK.out | apply Kept.alloc | apply Kept.drewN | apply Kept.drew | refine Kept.setCell ?_ (.inr GW329.out) _ | refine Kept.setCell ?_ (.inr GW330.out) _ | refine Kept.setCell ?_ (.inr GW331.out) _) | exact HK.out)).1) hk))))
                (case aO => exact (by (with_reducible repeat (first | apply Kd.R_alloc | apply Kd.R_drewN | apply Kd.R_drew)); exact HO_332004.out))
                (case aS => exact (below_size (by repeat (first | (with_reducible first | exact HB.out | apply below_alloc | apply pw_below_drewN | apply below_drew1 | refine below_set ?_ GE329.out | refine below_set ?_ GE330.out | refine below_set ?_ GE331.out) | exact HB.out))))
                (case aL => have := LMc24.out; omega)
                intro v339 w32 ho hb hg hat
                rw [← Ny338.out] at ho
                have n0_ := Aside0.mk (Kd.R_over' (by (with_reducible repeat (first | apply Kd.R_alloc | apply Kd.R_drewN | apply Kd.R_drew)); exact HO_330000.out) (Kd.R_typed (by (with_reducible repeat (first | apply Kd.R_alloc | apply Kd.R_drewN | apply Kd.R_drew)); exact HO_332004.out)) (by decide) hg)
                have n1_ := Aside0.mk (Kd.R_over' (by (with_reducible repeat (first | apply Kd.R_alloc | apply Kd.R_drewN | apply Kd.R_drew)); exact HO_330001.out) (Kd.R_typed (by (with_reducible repeat (first | apply Kd.R_alloc | apply Kd.R_drewN | apply Kd.R_drew)); exact HO_332004.out)) (by decide) hg)
                have n2_ := Aside0.mk (Kd.R_over' (by (with_reducible repeat (first | apply Kd.R_alloc | apply Kd.R_drewN | apply Kd.R_drew)); exact HO_330002.out) (Kd.R_typed (by (with_reducible repeat (first | apply Kd.R_alloc | apply Kd.R_drewN | apply Kd.R_drew)); exact HO_332004.out)) (by decide) hg)
                have n3_ := Aside0.mk (Kd.R_over' (by (with_reducible repeat (first | apply Kd.R_alloc | apply Kd.R_drewN | apply Kd.R_drew)); exact HO_332000.out) (Kd.R_typed (by (with_reducible repeat (first | apply Kd.R_alloc | apply Kd.R_drewN | apply Kd.R_drew)); exact HO_332004.out)) (by decide) hg)
                have n4_ := Aside0.mk (Kd.R_over' (by (with_reducible repeat (first | apply Kd.R_alloc | apply Kd.R_drewN | apply Kd.R_drew)); exact HO_332001.out) (Kd.R_typed (by (with_reducible repeat (first | apply Kd.R_alloc | apply Kd.R_drewN | apply Kd.R_drew)); exact HO_332004.out)) (by decide) hg)
                have n5_ := Aside0.mk (Kd.R_over' (by (with_reducible repeat (first | apply Kd.R_alloc | apply Kd.R_drewN | apply Kd.R_drew)); exact HO_332002.out) (Kd.R_typed (by (with_reducible repeat (first | apply Kd.R_alloc | apply Kd.R_drewN | apply Kd.R_drew)); exact HO_332004.out)) (by decide) hg)
                have n6_ := Aside0.mk (blk_grown (g := gb329) (o := .cells #[.slice Ao4 l0_0.length co4, .slice Ao5 l0_1.length co5, .slice (some ad334) l0_2.length co6, .int .i64 a0_3, .slice (some ad333) l0_4.length c0_4] 27 (0, 0)) (by (with_reducible repeat (first | refine blk_drewN ?_ _ | refine blk_drew ?_ | refine blk_alloc ?_ _)); exact BK329.out) hg (Kd.R_ne HO_332004.out BK329.out (by decide)))
                have n7_ := Aside0.mk (blk_grown (g := gb330) (o := .cells #[.slice none 0 0, .slice none 0 0, .slice none 0 0, .int .i64 0, .slice none 0 0] 27 (0, 0)) (by (with_reducible repeat (first | refine blk_drewN ?_ _ | refine blk_drew ?_ | refine blk_alloc ?_ _)); exact BK330.out) hg (Kd.R_ne HO_332004.out BK330.out (by decide)))
                have n8_ := Aside0.mk (blk_grown (g := gb331) (o := .cells #[.slice Ao4 l0_0.length co4, .slice Ao5 l0_1.length co5, .slice (some ad334) l0_2.length co6, .int .i64 a0_3, u332004] 27 (0, 0)) (by (with_reducible repeat (first | refine blk_drewN ?_ _ | refine blk_drew ?_ | refine blk_alloc ?_ _)); exact BK331.out) hg (Kd.R_ne HO_332004.out BK331.out (by decide)))
                have n9_ := Aside0.mk (hb)
                have n10_ := Aside0.mk (Kept.of_grown (S := (fun k_ => P0_0_ k_ ∨ P0_1_ k_ ∨ P0_2_ k_)) hg (by repeat (first | (with_reducible first | exact HK.out | apply Kept.alloc | apply Kept.drewN | apply Kept.drew | refine Kept.setCell ?_ (.inr GW329.out) _ | refine Kept.setCell ?_ (.inr GW330.out) _ | refine Kept.setCell ?_ (.inr GW331.out) _) | exact HK.out)) (fun k_ e_ => (HO_332004.out.1 k_ e_)))
                have n11_ := Aside0.mk (ho)
                clear HO_330000
                clear HO_330001
                clear HO_330002
                clear HO_332000
                clear HO_332001
                clear HO_332002
                clear BK329
                clear BK330
                clear BK331
                clear HB
                clear HK
                clear HO_332004
                have HO_330000 := n0_
                have HO_330001 := n1_
                have HO_330002 := n2_
                have HO_332000 := n3_
                have HO_332001 := n4_
                have HO_332002 := n5_
                have BK329 := n6_
                have BK330 := n7_
                have BK331 := n8_
                have HB := n9_
                have HK := n10_
                have HO340 := n11_
                clear n0_ n1_ n2_ n3_ n4_ n5_ n6_ n7_ n8_ n9_ n10_ n11_
                clear ho hb hg hat
                obtain ⟨Ao33, co33, eo33⟩ := Kd.R_slice HO340.out
                (first | subst eo33 | (injection eo33 with f1_ f2_ f3_; have f4_ := f1_.symm; have f5_ := f3_.symm; clear f1_ f2_ f3_; subst f4_; subst f5_))
                refine hK.out _ _ ⟨(blk_cell BK331.out 0).trans rfl, (blk_cell BK331.out 1).trans rfl, (blk_cell BK331.out 2).trans rfl, (blk_cell BK331.out 3).trans rfl, (blk_cell BK331.out 4).trans rfl, (blk_cell BK329.out 0).trans rfl, (blk_cell BK329.out 1).trans rfl, (blk_cell BK329.out 2).trans rfl, (blk_cell BK329.out 3).trans rfl, (blk_cell BK329.out 4).trans rfl⟩ (fun hHeld => ?_)
                clear hK K
                refine norm_ (a' := ?_) ?_ ?_
                rotate_left
                · show Act.put _ (some 55) _ = _
                  simp only [Act.put, List.setIfInBounds_toArray, List.set_cons_zero, List.set_cons_succ, i64_w, i32_w]
                  rfl
                refine pure_ (i := 17) (N := some 56) (v := ?_) (a' := ?_) #[true, true, true, true, true, true, true, true, true, true, true, true, true, true, true, true, true, true, false] rfl rfl (any_of HT_.out (by kernel_rfl)) (fun _ _ _ h => h) (Or.inl ⟨by rfl, ?_⟩) ?_ ?_
                rotate_left
                · intro w'
                  go_simp
                  with_reducible rfl
                rotate_left
                · simp only [Act.put, List.setIfInBounds_toArray, List.set_cons_zero, List.set_cons_succ, i64_w, i32_w]
                  rfl
                refine last_ (i := 18) (N := none) #[true, true, true, true, true, true, true, true, true, true, true, true, true, true, true, true, true, true, true] rfl rfl (one_of HT_.out (by kernel_rfl)) (by decide) (fun K hK => ?_)
                have hs34 : w32.cell? ⟨gb331, 4, none⟩ = some (u332004) := (blk_cell BK331.out 4).trans rfl
                have hfs34 := blk_frozen BK331.out 4
                have hns34_0 := NB329_331.out
                have hns34_1 := NB330_331.out
                have hms34_0 := NB331_329.out
                have hms34_1 := NB331_330.out
                refine skip_ (w1 := ?_) (by rfl) rfl ?_ ?_
                rotate_left
                · go_simp
                  rfl
                refine hK.out _ _ ?_
                clear hK K
                refine done_ (done_of HT_.out (by kernel_rfl)) ?_
                try go_wp2
                go_roundg k1
                case measure => have := HK1.out; omega
                case rel => exact ⟨(wrap64 (x7_1 + 1)), (y338), (.slice Ao33 y338.length co33), (by first | rfl | (simp; done) | (simp [*]; done)), H', ⟨by have := HK1.out; omega⟩, ⟨by (with_reducible repeat (first | apply Kd.R_alloc | apply Kd.R_drewN | apply Kd.R_drew)); exact Kd.R_mono (Kd.R_far (p := ⟨gb331, 4, none⟩) (Kd.R_types HO_330000.out BK331.out (by decide)) (fun _ hk => hk.2) (.slice Ao33 y338.length co33)) (fun _ hk => hk.1)⟩, ⟨by (with_reducible repeat (first | apply Kd.R_alloc | apply Kd.R_drewN | apply Kd.R_drew)); exact Kd.R_mono (Kd.R_far (p := ⟨gb331, 4, none⟩) (Kd.R_types HO_330001.out BK331.out (by decide)) (fun _ hk => hk.2) (.slice Ao33 y338.length co33)) (fun _ hk => hk.1)⟩, ⟨by (with_reducible repeat (first | apply Kd.R_alloc | apply Kd.R_drewN | apply Kd.R_drew)); exact Kd.R_mono (Kd.R_far (p := ⟨gb331, 4, none⟩) (Kd.R_types HO_330002.out BK331.out (by decide)) (fun _ hk => hk.2) (.slice Ao33 y338.length co33)) (fun _ hk => hk.1)⟩, ⟨by (with_reducible repeat (first | apply Kd.R_alloc | apply Kd.R_drewN | apply Kd.R_drew)); exact Kd.R_mono (Kd.R_far (p := ⟨gb331, 4, none⟩) (Kd.R_types HO_332000.out BK331.out (by decide)) (fun _ hk => hk.2) (.slice Ao33 y338.length co33)) (fun _ hk => hk.1)⟩, ⟨by (with_reducible repeat (first | apply Kd.R_alloc | apply Kd.R_drewN | apply Kd.R_drew)); exact Kd.R_mono (Kd.R_far (p := ⟨gb331, 4, none⟩) (Kd.R_types HO_332001.out BK331.out (by decide)) (fun _ hk => hk.2) (.slice Ao33 y338.length co33)) (fun _ hk => hk.1)⟩, ⟨by (with_reducible repeat (first | apply Kd.R_alloc | apply Kd.R_drewN | apply Kd.R_drew)); exact Kd.R_mono (Kd.R_far (p := ⟨gb331, 4, none⟩) (Kd.R_types HO_332002.out BK331.out (by decide)) (fun _ hk => hk.2) (.slice Ao33 y338.length co33)) (fun _ hk => hk.1)⟩, ⟨by (with_reducible repeat (first | apply Kd.R_alloc | apply Kd.R_drewN | apply Kd.R_drew)); exact Kd.R_mono (Kd.R_far (p := ⟨gb331, 4, none⟩) (Kd.R_types HO340.out BK331.out (by decide)) (fun _ hk => hk.2) (.slice Ao33 y338.length co33)) (fun _ hk => hk.1)⟩, ⟨by (with_reducible repeat (first | refine blk_drewN ?_ _ | refine blk_drew ?_ | refine blk_alloc ?_ _)); refine blk_far ?_ NB329_331.out _; (with_reducible repeat (first | refine blk_drewN ?_ _ | refine blk_drew ?_ | refine blk_alloc ?_ _)); exact BK329.out⟩, ⟨by (with_reducible repeat (first | refine blk_drewN ?_ _ | refine blk_drew ?_ | refine blk_alloc ?_ _)); refine blk_far ?_ NB330_331.out _; (with_reducible repeat (first | refine blk_drewN ?_ _ | refine blk_drew ?_ | refine blk_alloc ?_ _)); exact BK330.out⟩, ⟨by (with_reducible repeat (first | refine blk_drewN ?_ _ | refine blk_drew ?_ | refine blk_alloc ?_ _)); refine blk_put (cs := #[.slice Ao4 l0_0.length co4, .slice Ao5 l0_1.length co5, .slice (some ad334) l0_2.length co6, .int .i64 a0_3, u332004]) ?_ 4 _ rfl; (with_reducible repeat (first | refine blk_drewN ?_ _ | refine blk_drew ?_ | refine blk_alloc ?_ _)); exact BK331.out⟩, ⟨by repeat (first | (with_reducible first | exact HK.out | apply Kept.alloc | apply Kept.drewN | apply Kept.drew | refine Kept.setCell ?_ (.inr GW329.out) _ | refine Kept.setCell ?_ (.inr GW330.out) _ | refine Kept.setCell ?_ (.inr GW331.out) _) | exact HK.out)⟩, ⟨by repeat (first | (with_reducible first | exact HB.out | apply below_alloc | apply pw_below_drewN | apply below_drew1 | refine below_set ?_ GE329.out | refine below_set ?_ GE330.out | refine below_set ?_ GE331.out) | exact HB.out)⟩⟩
              · rw [if_neg c24] at H
                exact absurd H (by simp)
            · rw [if_neg c20] at H
              exact absurd H (by simp)
          · rw [if_neg c19] at H
            exact absurd H (by simp)
        · rw [if_neg c18] at H
          exact absurd H (by simp)
      · rw [if_neg c17] at H
        have c17b0 : decide (x7_1 < (l0_4.length : Int)) = false := decide_eq_false c17
        clear c17
        simp only [Option.some.injEq, Prod.mk.injEq] at H
        obtain ⟨rfl, rfl, rfl, rfl, rfl⟩ := H
        have hnb35 := NB329_330.out
        have hnc35 := NB330_329.out
        have hnb36 := NB329_331.out
        have hnc36 := NB331_329.out
        have hcz37_0 : wr.cell? ⟨gb329, 0, none⟩ = some (.slice Ao4 l0_0.length co4) := (blk_cell BK329.out 0).trans rfl
        have hcz37_1 : wr.cell? ⟨gb329, 1, none⟩ = some (.slice Ao5 l0_1.length co5) := (blk_cell BK329.out 1).trans rfl
        have hcz37_2 : wr.cell? ⟨gb329, 2, none⟩ = some (.slice Ao6 l0_2.length co6) := (blk_cell BK329.out 2).trans rfl
        have hcz37_3 : wr.cell? ⟨gb329, 3, none⟩ = some (.int .i64 a0_3) := (blk_cell BK329.out 3).trans rfl
        have hcz37_4 : wr.cell? ⟨gb329, 4, none⟩ = some (.slice A0_4 l0_4.length c0_4) := (blk_cell BK329.out 4).trans rfl
        have hfz37_0 := blk_frozen BK329.out 0
        have hfz37_1 := blk_frozen BK329.out 1
        have hfz37_2 := blk_frozen BK329.out 2
        have hfz37_3 := blk_frozen BK329.out 3
        have hfz37_4 := blk_frozen BK329.out 4
        have hnb38 := NB331_330.out
        have hnc38 := NB330_331.out
        have hcz39_0 : wr.cell? ⟨gb331, 0, none⟩ = some (.slice Ao4 l0_0.length co4) := (blk_cell BK331.out 0).trans rfl
        have hcz39_1 : wr.cell? ⟨gb331, 1, none⟩ = some (.slice Ao5 l0_1.length co5) := (blk_cell BK331.out 1).trans rfl
        have hcz39_2 : wr.cell? ⟨gb331, 2, none⟩ = some (.slice Ao6 l0_2.length co6) := (blk_cell BK331.out 2).trans rfl
        have hcz39_3 : wr.cell? ⟨gb331, 3, none⟩ = some (.int .i64 a0_3) := (blk_cell BK331.out 3).trans rfl
        have hcz39_4 : wr.cell? ⟨gb331, 4, none⟩ = some (u332004) := (blk_cell BK331.out 4).trans rfl
        have hfz39_0 := blk_frozen BK331.out 0
        have hfz39_1 := blk_frozen BK331.out 1
        have hfz39_2 := blk_frozen BK331.out 2
        have hfz39_3 := blk_frozen BK331.out 3
        have hfz39_4 := blk_frozen BK331.out 4
        have hcz40_0 : wr.cell? ⟨gb330, 0, none⟩ = some (.slice none 0 0) := (blk_cell BK330.out 0).trans rfl
        have hcz40_1 : wr.cell? ⟨gb330, 1, none⟩ = some (.slice none 0 0) := (blk_cell BK330.out 1).trans rfl
        have hcz40_2 : wr.cell? ⟨gb330, 2, none⟩ = some (.slice none 0 0) := (blk_cell BK330.out 2).trans rfl
        have hcz40_3 : wr.cell? ⟨gb330, 3, none⟩ = some (.int .i64 0) := (blk_cell BK330.out 3).trans rfl
        have hcz40_4 : wr.cell? ⟨gb330, 4, none⟩ = some (.slice none 0 0) := (blk_cell BK330.out 4).trans rfl
        have hfz40_0 := blk_frozen BK330.out 0
        have hfz40_1 := blk_frozen BK330.out 1
        have hfz40_2 := blk_frozen BK330.out 2
        have hfz40_3 := blk_frozen BK330.out 3
        have hfz40_4 := blk_frozen BK330.out 4
        obtain ⟨Ao41, co41, eo41⟩ := Kd.R_slice HO_332004.out
        subst eo41
        go_wp2
        refine bodyPost_ret (results_cell_row rfl _ _ gb330 27 #[.slice Ao4 l0_0.length co4, .slice Ao5 l0_1.length co5, .slice Ao6 l0_2.length co6, .int .i64 a0_3, .slice Ao41 x332004_1.length co41] (0, 0) _ rfl (by (with_reducible repeat (first | refine blk_drewN ?_ _ | refine blk_drew ?_ | refine blk_alloc ?_ _)); refine blk_put (cs := #[.slice Ao4 l0_0.length co4, .slice Ao5 l0_1.length co5, .slice Ao6 l0_2.length co6, .int .i64 a0_3, .slice none 0 0]) ?_ 4 _ rfl; (with_reducible repeat (first | refine blk_drewN ?_ _ | refine blk_drew ?_ | refine blk_alloc ?_ _)); refine blk_put (cs := #[.slice Ao4 l0_0.length co4, .slice Ao5 l0_1.length co5, .slice Ao6 l0_2.length co6, .int .i64 0, .slice none 0 0]) ?_ 3 _ rfl; (with_reducible repeat (first | refine blk_drewN ?_ _ | refine blk_drew ?_ | refine blk_alloc ?_ _)); refine blk_put (cs := #[.slice Ao4 l0_0.length co4, .slice Ao5 l0_1.length co5, .slice none 0 0, .int .i64 0, .slice none 0 0]) ?_ 2 _ rfl; (with_reducible repeat (first | refine blk_drewN ?_ _ | refine blk_drew ?_ | refine blk_alloc ?_ _)); refine blk_put (cs := #[.slice Ao4 l0_0.length co4, .slice none 0 0, .slice none 0 0, .int .i64 0, .slice none 0 0]) ?_ 1 _ rfl; (with_reducible repeat (first | refine blk_drewN ?_ _ | refine blk_drew ?_ | refine blk_alloc ?_ _)); refine blk_put (cs := #[.slice none 0 0, .slice none 0 0, .slice none 0 0, .int .i64 0, .slice none 0 0]) ?_ 0 _ rfl; (with_reducible repeat (first | refine blk_drewN ?_ _ | refine blk_drew ?_ | refine blk_alloc ?_ _)); exact BK330.out) Tryd.underlying27 rfl (by kernel_rfl)) rfl ?_
        exact ⟨_, _, _, _, by first | rfl | (simp [errW_none, errW_some] <;> rfl) | (simp [*, errW_none, errW_some] <;> rfl), rfl, rfl, rfl, by (with_reducible repeat (first | apply Kd.R_alloc | apply Kd.R_drewN | apply Kd.R_drew)); exact Kd.R_mono (Kd.R_far (p := ⟨gb330, 4, none⟩) (Kd.R_far (p := ⟨gb330, 3, none⟩) (Kd.R_far (p := ⟨gb330, 2, none⟩) (Kd.R_far (p := ⟨gb330, 1, none⟩) (Kd.R_far (p := ⟨gb330, 0, none⟩) (Kd.R_types HO_332004.out BK330.out (by decide)) (fun _ hk => hk.2) (.slice Ao4 l0_0.length co4)) (fun _ hk => hk.2) (.slice Ao5 l0_1.length co5)) (fun _ hk => hk.2) (.slice Ao6 l0_2.length co6)) (fun _ hk => hk.2) (.int .i64 a0_3)) (fun _ hk => hk.2) (.slice Ao41 x332004_1.length co41)) (fun _ hk => hk.1), by repeat (first | (with_reducible first | exact HB.out | apply below_alloc | apply pw_below_drewN | apply below_drew1 | refine below_set ?_ GE329.out | refine below_set ?_ GE330.out | refine below_set ?_ GE331.out) | exact HB.out), by repeat (first | (with_reducible first | exact HK.out | apply Kept.alloc | apply Kept.drewN | apply Kept.drew | refine Kept.setCell ?_ (.inr GW329.out) _ | refine Kept.setCell ?_ (.inr GW330.out) _ | refine Kept.setCell ?_ (.inr GW331.out) _) | exact HK.out)⟩
def luciferref00_Has.f (a0_0 : Int) (a0_1 : Int) (a1 : Int) : Option (Bool) := (luciferref00_Fits.f a1 a0_0 a0_1).bind fun t342 => (some t342)
set_option maxHeartbeats 8000000 in
set_option maxRecDepth 100000 in
theorem luciferref00_Has.calls (a0_0 : Int) (a0_1 : Int) (a1 : Int) (r : Bool) (w : World) (h : luciferref00_Has.f a0_0 a0_1 a1 = some r) :
    Calls Tryd.prog 19 #[.agg #[.int .i64 a0_0, .int .i64 a0_1], .int .i64 a1] w fun e w' => e = .returned (.bool r) ∧ Below w.heap.size w w' := by
  have hu39 := Tryd.underlying39
  have HB := Aside0.mk (Below.refl w.heap.size w)
  have H : ((luciferref00_Fits.f a1 a0_0 a0_1).bind fun t342 => (some t342)) = some r := h
  clear h
  replace H := Option.bind_eq_some_iff.mp H
  obtain ⟨t342, A30, H⟩ := H
  replace H : (some t342) = some r := H
  have A3 := Aside0.mk A30
  clear A30
  obtain rfl := Option.some.inj H
  go_enter Tryd.func19, Tryd.ntmps19
  go_wp2_with (first | ((with_reducible refine gate_dst (N := 2) rfl ?_); refine box_event ?hg (N := 2) ?hd (cs := #[.int .i64 a0_0, .int .i64 a0_1]) (t := 39) ?hr ?_; (case hd => rfl); (case hg => rfl); (case hr => first | (go_simp; done) | (go_simp; rfl)); intro gb341 hg w4 hbox hb; have n0_ := Aside0.mk (below_step (by repeat (first | (with_reducible first | exact HB.out | apply below_alloc | apply pw_below_drewN | apply below_drew1) | exact HB.out)) hb); have n1_ := Aside0.mk (hbox); have n2_ := Aside0.mk ((by rw [hg]; exact (below_size (by repeat (first | (with_reducible first | exact HB.out | apply below_alloc | apply pw_below_drewN | apply below_drew1) | exact HB.out))) : w.heap.size ≤ gb341)); have n3_ := Aside0.mk ((by rw [hg]; exact (below_size (by repeat (first | (with_reducible first | exact HB.out | apply below_alloc | apply pw_below_drewN | apply below_drew1) | exact HB.out))) : w.heap.size ≤ gb341)); clear HB; have HB := n0_; have BK341 := n1_; have GW341 := n2_; have GE341 := n3_; clear n0_ n1_ n2_ n3_; clear hb hbox hg; have hcz5_0 : w4.cell? ⟨gb341, 0, none⟩ = some (.int .i64 a0_0) := (blk_cell BK341.out 0).trans rfl; have hcz5_1 : w4.cell? ⟨gb341, 1, none⟩ = some (.int .i64 a0_1) := (blk_cell BK341.out 1).trans rfl; have hfz5_0 := blk_frozen BK341.out 0; have hfz5_1 := blk_frozen BK341.out 1) | ((with_reducible refine gate_callee (f := 24) rfl ?_); refine goesL_ (some 10) rfl rfl Tryd.func24 (by kernel_rfl) rfl #[.int .i64 a1, .int .i64 a0_0, .int .i64 a0_1] rfl (by (try simp only [List.map_toArray, List.map_cons, List.map_nil]); first | done | rfl | (simp only [List.length_drop, List.length_take]; rfl)) ?_; (with_reducible refine (luciferref00_Fits.calls a1 a0_0 a0_1 t342 _ A3.out).mono ?_); rintro e w' ⟨rfl, ⟨nd, rfl⟩⟩; refine ⟨_, rfl, ?_⟩))
  go_ret
  exact ⟨by first | rfl | (simp [errW_none, errW_some] <;> rfl) | (simp [*, errW_none, errW_some] <;> rfl), by repeat (first | (with_reducible first | exact HB.out | apply below_alloc | apply pw_below_drewN | apply below_drew1 | refine below_set ?_ GE341.out) | exact HB.out)⟩
end Go.Proofs.YtghpoldlddghjaaDoor.PPasteTrue
namespace Go.Proofs.YtghpoldlddghjaaDoor
open Go Go.RowKit
open Go.Proofs.YtghpoldlddghjaaDoorW.PrintWords Go.Proofs.YtghpoldlddghjaaDoorW.PrintMore Go.Proofs.YtghpoldlddghjaaDoor.PPasteTrue
def rubN (b : Bk) (bits : List Int) (k : Int) : Int := drawnI (rd_T47 b.surfs k).f0.f0 (rd_T47 b.surfs k).f0.f1 (itemI bits (k + 4))
def dampN (b : Bk) (k : Int) (n : Int) : Int := drawnI (rd_T47 b.surfs k).f1.f0 (rd_T47 b.surfs k).f1.f1 n
def truthP (b : Bk) (bits : List Int) : Int := powerI b (partsOf b bits)
def triedOne (b : Bk) (bits : List Int) (i : Nat) : S59 := ⟨(rd_T59 b.trials i).f0, decide (truthP b bits + rubN b bits (rd_T59 b.trials i).f0 - dampN b (rd_T59 b.trials i).f0 (itemI bits (i + 7)) ≥ b.need)⟩
def triedN (b : Bk) (bits : List Int) (n : Nat) : List S59 := (List.range n).map (triedOne b bits)
def triedB (b : Bk) (bits : List Int) : Bk := { b with trials := triedN b bits b.trials.length }
theorem triedN_succ (b : Bk) (bits : List Int) (n : Nat) : triedN b bits (n + 1) = triedN b bits n ++ [triedOne b bits n] := by
  unfold triedN
  rw [List.range_succ, List.map_append]
  rfl
theorem triedN_len (b : Bk) (bits : List Int) (n : Nat) : (triedN b bits n).length = n := by simp [triedN]
theorem truthP_range {b : Bk} (hs : SP b) (bits : List Int) : 0 ≤ truthP b bits ∧ truthP b bits < 512 := by
  have h := fit_parts hs bits
  exact power_range hs (h.small hs.s) h.len
theorem rubN_range {b : Bk} (hx : Spans b) (bits : List Int) {k : Int} (h0 : 0 ≤ k) (h1 : k < b.surfs.length) : (rd_T47 b.surfs k).f0.f0 ≤ rubN b bits k ∧ rubN b bits k ≤ (rd_T47 b.surfs k).f0.f1 := by
  have h := hx _ (rd47_mem h0 h1)
  exact (drawn_f _ _ _ h.1 h.2.1 (by omega)).2
theorem dampN_range {b : Bk} (hx : Spans b) (n : Int) {k : Int} (h0 : 0 ≤ k) (h1 : k < b.surfs.length) : (rd_T47 b.surfs k).f1.f0 ≤ dampN b k n ∧ dampN b k n ≤ (rd_T47 b.surfs k).f1.f1 := by
  have h := hx _ (rd47_mem h0 h1)
  exact (drawn_f _ _ _ h.2.2.2.1 h.2.2.2.2.1 (by omega)).2
theorem rub_f {b : Bk} (hx : Spans b) (bits : List Int) (hb : bits.length ≤ 9223372036854775807) {k : Int} (h0 : 0 ≤ k) (h1 : k < b.surfs.length) (hu : b.surfs.length ≤ 4) : luciferlaw02_rub.f b.salts b.pairs b.surfs b.need b.trials k bits = some (rubN b bits k) := by
  have h := hx _ (rd47_mem h0 h1)
  have hd := (drawn_f (rd_T47 b.surfs k).f0.f0 (rd_T47 b.surfs k).f0.f1 (itemI bits (k + 4)) h.1 h.2.1 (by omega)).1
  have hw : wrap64 (k + 4) = k + 4 := wrap_id rfl (by omega) (by omega)
  unfold luciferlaw02_rub.f
  rw [if_pos h0, if_pos h1, hw, item_f bits _ hb, Option.bind_some, hd, Option.bind_some]
  rfl
theorem rub_calls {h : Hd} {b : Bk} {w : World} (hb : BkIn w h b) (hx : Spans b) (hu : b.surfs.length ≤ 4) {A : Option Addr} {c : Nat} {l : List Int} (hr : Kd.C (Kd.int .i64) w A l.length l) (hc : l.length ≤ c) {k : Int} (h0 : 0 ≤ k) (h1 : k < b.surfs.length) :
    Calls Tryd.prog 23 #[.agg (h.cells b), .int .i64 k, .slice A l.length c] w fun e w' => e = .returned (.int .i64 (rubN b l k)) ∧ Below w.heap.size w w' :=
  luciferlaw02_rub.calls _ _ _ _ _ _ _ _ _ _ _ _ _ _ _ _ _ _ w hb.r0 hb.l0 hb.r1 hb.l1 hb.r2 hb.l2 hb.r4 hb.l4 hr hc (rub_f hx l (Kd.C_max hr) h0 h1 hu)
theorem item_calls {w : World} {A : Option Addr} {c : Nat} {l : List Int} (hr : Kd.C (Kd.int .i64) w A l.length l) (hc : l.length ≤ c) (n : Int) : Calls Tryd.prog 22 #[.slice A l.length c, .int .i64 n] w fun e w' => e = .returned (.int .i64 (itemI l n)) ∧ Below w.heap.size w w' := by
  refine (luciferref00_Item.calls A c l n _ w hr hc (item_f l n (Kd.C_max hr))).mono ?_
  rintro e w' ⟨he, hd⟩
  exact ⟨he, hd.below⟩
theorem drawn_calls {lo hi n : Int} (h0 : 0 ≤ lo) (h1 : lo ≤ hi) (h2 : hi ≤ 1000) (w : World) : Calls Tryd.prog 21 #[.agg #[.int .i64 lo, .int .i64 hi], .int .i64 n] w fun e w' => e = .returned (.int .i64 (drawnI lo hi n)) ∧ Below w.heap.size w w' :=
  luciferref00_Drawn.calls lo hi n _ w (drawn_f lo hi n h0 h1 h2).1
theorem has_calls (lo hi n : Int) (w : World) : Calls Tryd.prog 19 #[.agg #[.int .i64 lo, .int .i64 hi], .int .i64 n] w fun e w' => e = .returned (.bool (inB n lo hi)) ∧ Below w.heap.size w w' := by
  refine luciferref00_Has.calls lo hi n _ w ?_
  unfold luciferref00_Has.f luciferref00_Fits.f inB
  by_cases h : lo ≤ n
  · rw [if_pos h, Option.bind_some, decide_eq_true h, Bool.true_and]
  · rw [if_neg h, Option.bind_some, decide_eq_false h, Bool.false_and]
theorem tried_l0 {b : Bk} (hg : Good b) (bits : List Int) (hb : bits.length ≤ 9223372036854775807) : ∀ (d m k : Nat), b.trials.length = m + d → d < k →
    luciferlaw02_tried.l0 k bits (truthP b bits) m b.salts b.pairs b.surfs b.need b.trials b.salts b.pairs b.surfs b.need (triedN b bits m) = some (b.salts, b.pairs, b.surfs, b.need, triedN b bits b.trials.length) := by
  have hx : Spans b := hg.sr
  intro d
  induction d with
  | zero =>
    intro m k hm hk
    obtain ⟨k, rfl⟩ : ∃ q, k = q + 1 := ⟨k - 1, by omega⟩
    obtain rfl : m = b.trials.length := by omega
    simp only [luciferlaw02_tried.l0]
    rw [if_neg (Int.lt_irrefl _)]
  | succ d ih =>
    intro m k hm hk
    obtain ⟨k, rfl⟩ : ∃ q, k = q + 1 := ⟨k - 1, by omega⟩
    have hml : m < b.trials.length := by omega
    have ht1 := hg.t1
    have g1 : (m : Int) < (b.trials.length : Int) := Int.ofNat_lt.2 hml
    have g2 : 0 ≤ (m : Int) := Int.natCast_nonneg m
    have hmem : rd_T59 b.trials (m : Int) ∈ b.trials := by
      unfold rd_T59
      rw [List.getD_eq_getElem?_getD, Int.toNat_natCast, List.getElem?_eq_getElem hml]
      exact List.getElem_mem _
    obtain ⟨q0, q1⟩ := hg.tt _ hmem
    have h := hx _ (rd47_mem q0 q1)
    have hle : (triedN b bits m).length < 8796093022208 := by rw [triedN_len]; omega
    have hpr := truthP_range hg.sp bits
    have hrr := rubN_range hx bits q0 q1
    have hdr := dampN_range hx (itemI bits ((m : Int) + 7)) q0 q1
    have hd : luciferref00_Drawn.f (rd_T47 b.surfs (rd_T59 b.trials (m : Int)).f0).f1.f0 (rd_T47 b.surfs (rd_T59 b.trials (m : Int)).f0).f1.f1 (itemI bits ((m : Int) + 7)) = some (dampN b (rd_T59 b.trials (m : Int)).f0 (itemI bits ((m : Int) + 7))) := (drawn_f _ _ _ h.2.2.2.1 h.2.2.2.2.1 (by omega)).1
    have hrf := rub_f hx bits hb q0 q1 hg.u1
    have := ih (m + 1) k (by omega) (by omega)
    rw [triedN_succ] at this
    have w1 : wrap64 (truthP b bits + rubN b bits (rd_T59 b.trials (m : Int)).f0) = truthP b bits + rubN b bits (rd_T59 b.trials (m : Int)).f0 := by
      clear this hrf hd ih
      exact wrap_id rfl (by omega) (by omega)
    have w2 : wrap64 (truthP b bits + rubN b bits (rd_T59 b.trials (m : Int)).f0 - dampN b (rd_T59 b.trials (m : Int)).f0 (itemI bits ((m : Int) + 7))) = truthP b bits + rubN b bits (rd_T59 b.trials (m : Int)).f0 - dampN b (rd_T59 b.trials (m : Int)).f0 (itemI bits ((m : Int) + 7)) := by
      clear this hrf hd ih w1
      exact wrap_id rfl (by omega) (by omega)
    have e7 : wrap64 ((m : Int) + 7) = (m : Int) + 7 := by
      clear this hrf hd ih w1 w2 hpr hrr hdr h
      exact wrap_id rfl (by omega) (by omega)
    have e1 : wrap64 ((m : Int) + 1) = ((m + 1 : Nat) : Int) := by
      clear this hrf hd ih w1 w2 hpr hrr hdr h e7
      exact wrap_id rfl (by omega) (by omega)
    simp only [luciferlaw02_tried.l0]
    rw [if_pos g1, if_pos g2, if_pos q0, if_pos q1, e7, item_f bits _ hb, Option.bind_some, hd, Option.bind_some, hrf, Option.bind_some, if_pos hle, w1, w2, e1]
    exact this
theorem tried_f {b : Bk} (hg : Good b) (bits : List Int) (hb : bits.length ≤ 9223372036854775807) : luciferlaw02_tried.f 12 b.salts b.pairs b.surfs b.need b.trials bits = some (b.salts, b.pairs, b.surfs, b.need, triedN b bits b.trials.length) := by
  have ht := hg.t1
  have := tried_l0 hg bits hb b.trials.length 0 12 (by omega) (by omega)
  unfold luciferlaw02_tried.f
  rw [mixed_f hg.sp bits hb, Option.bind_some]
  exact this
def Hd.tw (h : Hd) (A : Option Addr) (c : Nat) : Hd := { h with A4 := A, c4 := c }
theorem tried_rows {h : Hd} {b : Bk} {w : World} (hb : BkIn w h b) (hg : Good b) {A : Option Addr} {c : Nat} {l : List Int} (hr : Kd.C (Kd.int .i64) w A l.length l) (hc : l.length ≤ c) :
    Calls Tryd.prog 13 #[.agg (h.cells b), .slice A l.length c] w fun e w' => ∃ A4 c4, e = .returned (.agg ((h.tw A4 c4).cells (triedB b l))) ∧ k59.R 59 w' w.heap.size (fun _ => True) (.slice A4 (triedN b l b.trials.length).length c4) (triedN b l b.trials.length) ∧ Below w.heap.size w w' := by
  have hno : ∀ k : Nat, ((fun _ : Nat => False) k ∨ (fun _ : Nat => False) k ∨ (fun _ : Nat => False) k) → w.heap.size ≤ k := fun _ hk => by rcases hk with h | h | h <;> exact h.elim
  have hp39 : Kd.Heap k39 := Kd.heap_iso _ (Kd.heap_pair (Kd.heap_int _) (Kd.heap_int _))
  have hp68 : Kd.Heap k68 := Kd.heap_iso _ (Kd.heap_pair (Kd.heap_int _) hp39)
  have hp47 : Kd.Heap k47 := Kd.heap_iso _ (Kd.heap_pair hp39 hp39)
  have hp59 : Kd.Heap k59 := Kd.heap_iso _ (Kd.heap_pair (Kd.heap_int _) Kd.heap_bool)
  have hp77 : Kd.Heap k77 := Kd.heap_iso _ (Kd.heap_pair (Kd.heap_int _) (Kd.heap_pair (Kd.heap_int _) (Kd.heap_int _)))
  refine (luciferlaw02_tried.calls 12 (fun _ => False) h.A0 h.c0 b.salts (fun _ => False) h.A1 h.c1 b.pairs (fun _ => False) h.A2 h.c2 b.surfs b.need h.A4 h.c4 b.trials A c l _ _ _ _ _ w w (Below.refl _ _) (Kd.C_kept_came hp68 hb.r0 (Below.refl _ _) hno) hb.l0 (Kd.C_kept_came hp77 hb.r1 (Below.refl _ _) hno) hb.l1 (Kd.C_kept_came hp47 hb.r2 (Below.refl _ _) hno) hb.l2 (Kd.C_kept_came hp59 hb.r4 (Below.refl _ _) hno) hb.l4 (Kd.C_kept_came (Kd.heap_int _) hr (Below.refl _ _) hno) hc (tried_f hg l (Kd.C_max hr))).mono ?_
  rintro e w' ⟨v0, v1, v2, v4, rfl, rfl, rfl, rfl, q4, hbel, _⟩
  obtain ⟨A4, c4, e4, l4, r4⟩ := Kd.R_reads q4
  subst e4
  exact ⟨A4, c4, rfl, Kd.R_mono q4 (fun _ _ => trivial), hbel⟩
theorem rub_between {need p s : Int} {x : S47} {r : Int} : ∀ (ts : List S59) (a : Int × Int), a.1 ≤ r → r ≤ a.2 → (∀ t ∈ ts, t.f0 = s → (t.f1 = true → need - p + x.f1.f0 ≤ r) ∧ (t.f1 = false → r ≤ need - p + x.f1.f1 - 1)) → (ts.foldl (rubStep need p s x) a).1 ≤ r ∧ r ≤ (ts.foldl (rubStep need p s x) a).2
  | [], a, h1, h2, _ => ⟨h1, h2⟩
  | t :: ts, a, h1, h2, h3 => by
    rw [List.foldl_cons]
    have ht := h3 t (by simp)
    refine rub_between ts _ ?_ ?_ (fun u hu => h3 u (by simp [hu]))
    · unfold rubStep
      by_cases e : t.f0 = s
      · rw [if_pos e]
        cases e1 : t.f1 with
        | true => rw [if_pos rfl]; exact mx_le.2 ⟨h1, (ht e).1 e1⟩
        | false => rw [if_neg Bool.false_ne_true]; exact h1
      · rw [if_neg e]; exact h1
    · unfold rubStep
      by_cases e : t.f0 = s
      · rw [if_pos e]
        cases e1 : t.f1 with
        | true => rw [if_pos rfl]; exact h2
        | false => rw [if_neg Bool.false_ne_true]; exact le_mn.2 ⟨h2, (ht e).2 e1⟩
      · rw [if_neg e]; exact h2
theorem tried_rubs {b : Bk} (hg : Good b) (bits : List Int) {j : Nat} (hj : j < b.surfs.length) : (rubs (triedB b bits) j (truthP b bits)).1 ≤ rubN b bits j ∧ rubN b bits j ≤ (rubs (triedB b bits) j (truthP b bits)).2 := by
  have hx : Spans b := hg.sr
  have hr := rubN_range hx bits (k := (j : Int)) (by omega) (by omega)
  refine rub_between (triedN b bits b.trials.length) _ hr.1 hr.2 (fun t ht e => ?_)
  unfold triedN at ht
  obtain ⟨i, hi, rfl⟩ := List.mem_map.1 ht
  have e' : (rd_T59 b.trials (i : Int)).f0 = (j : Int) := e
  have hd := dampN_range hx (itemI bits ((i : Int) + 7)) (k := (j : Int)) (by omega) (by omega)
  have hl : (triedOne b bits i).f1 = decide (truthP b bits + rubN b bits j - dampN b j (itemI bits ((i : Int) + 7)) ≥ b.need) := by
    unfold triedOne
    rw [e']
  rw [hl]
  show (_ → b.need - truthP b bits + (rd_T47 b.surfs (j : Int)).f1.f0 ≤ rubN b bits j) ∧ (_ → rubN b bits j ≤ b.need - truthP b bits + (rd_T47 b.surfs (j : Int)).f1.f1 - 1)
  constructor
  · intro h
    have := of_decide_eq_true h
    omega
  · intro h
    have := of_decide_eq_false h
    omega
theorem tried_true {b : Bk} (hg : Good b) (bits : List Int) : truthP b bits ∈ trs (triedB b bits) := by
  rw [mem_trs]
  refine ⟨mem_pws.2 ⟨_, fit_parts hg.sp bits, rfl⟩, ?_⟩
  rw [right_iff]
  intro j hj
  have := tried_rubs hg bits (show j < b.surfs.length from hj)
  omega
theorem sp_tried {b : Bk} (h : SP b) (bits : List Int) : SP (triedB b bits) := ⟨h.s1, h.p1, h.s, h.p, h.d⟩
theorem check_tried {b : Bk} (hc : checkB b = true) (hg : Good b) (bits : List Int) : checkB (triedB b bits) = true := by
  have hu := hg.u1
  have hu0 := hg.u0
  have htt := hg.tt
  have hln := triedN_len b bits b.trials.length
  unfold checkB headB at hc ⊢
  simp only [Bool.and_eq_true, decide_eq_true_eq, List.all_eq_true, List.mem_range] at hc ⊢
  obtain ⟨⟨⟨⟨⟨a1, a2, a3, a4, a5⟩, hs⟩, hp⟩, hx⟩, ht⟩ := hc
  refine ⟨⟨⟨⟨⟨a1, a2, a3, a4, by show ((triedN b bits b.trials.length).length : Int) ≤ 6; rw [hln]; exact a5⟩, hs⟩, hp⟩, hx⟩, ?_⟩
  intro x hm
  have hm' : x ∈ triedN b bits b.trials.length := hm
  unfold triedN at hm'
  obtain ⟨i, hi, rfl⟩ := List.mem_map.1 hm'
  have hmem : rd_T59 b.trials (i : Int) ∈ b.trials := by
    unfold rd_T59
    rw [List.getD_eq_getElem?_getD, Int.toNat_natCast, List.getElem?_eq_getElem (List.mem_range.1 hi)]
    exact List.getElem_mem _
  show trialB b (rd_T59 b.trials (i : Int)) = true
  exact ht _ hmem
theorem outTo_zero (n : Nat) : outTo 0 n = [] := by
  unfold outTo
  rw [List.map_eq_nil_iff, List.filter_eq_nil_iff]
  intro k _
  unfold bitB
  simp
theorem wo_zero (b : Bk) : woB b 0 = b := by
  unfold woB restTo
  have : ((List.range b.trials.length).filter fun i => !bitB 0 i) = List.range b.trials.length := by
    rw [List.filter_eq_self]
    intro k _
    unfold bitB
    simp
  rw [this]
  have e : ((List.range b.trials.length).map fun (i : Nat) => rd_T59 b.trials i) = b.trials := by
    apply List.ext_getElem
    · simp
    · intro i h1 h2
      simp [rd_T59, List.getD_eq_getElem?_getD, List.getElem?_eq_getElem h2]
  rw [e]
theorem wrong_none {b : Bk} (hcan : canB b = true) : wrongL b = [] := by
  have key : ∀ n, wrongF b (n + 1) = ([], true) := by
    intro n
    induction n with
    | zero =>
      rw [wrongF_succ]
      unfold wStep
      rw [if_neg (by show ¬ ((false : Bool) = true ∧ _); simp), show canW b 0 = canB (woB b 0) from rfl, wo_zero, if_pos hcan, outTo_zero]
    | succ n ih =>
      rw [wrongF_succ, ih]
      unfold wStep
      rw [if_pos]
      refine ⟨rfl, ?_⟩
      by_cases h : (outTo (n + 1) b.trials.length).length = 0
      · refine .inr ⟨h, ?_⟩
        rw [List.length_eq_zero_iff.1 h]
        exact (by decide : (0 : Int) ≤ cmpI [] [])
      · exact .inl (by show 0 < _; omega)
  unfold wrongL
  split
  · obtain ⟨m, hm⟩ : ∃ m, 2 ^ b.trials.length = m + 1 := ⟨2 ^ b.trials.length - 1, by have := Nat.two_pow_pos b.trials.length; omega⟩
    rw [hm, key]
  · rfl
theorem true_facts {b : Bk} (hck : checkB b = true) (hg : Good b) (bits : List Int) :
    askE (triedB b bits) true = 0 ∧ eRight (triedB b bits) = 0 ∧ wrongL (triedB b bits) = [] ∧ wrongE (triedB b bits) = 0 ∧ inB (truthP b bits) (kR (triedB b bits)).1 (kR (triedB b bits)).2 = true := by
  have hcx := check_tried hck hg bits
  have hsx := sp_tried hg.sp bits
  have hcan : canB (triedB b bits) = true := (can_iff hsx).2 ⟨_, tried_true hg bits⟩
  have a0 : askE (triedB b bits) true = 0 := by
    unfold askE
    rw [if_pos hcx, if_pos rfl, if_pos hcan]
  refine ⟨a0, ?_, wrong_none hcan, ?_, ?_⟩
  · unfold eRight
    rw [a0]
    rfl
  · unfold wrongE
    rw [if_pos hcx]
  · unfold kR
    rw [if_pos a0]
    obtain ⟨lo, hi, e, h1, h2, h3⟩ := known_some hsx hcan
    rw [e, inB_iff]
    exact h3 _ (tried_true hg bits)
theorem true_lights {b : Bk} (hck : checkB b = true) (hg : Good b) (bits : List Int) {k : Nat} (hk : k < b.surfs.length) (n : Int) :
    eL (triedB b bits) k = 0 ∧ (lR (triedB b bits) k = 0 ∨ lR (triedB b bits) k = 1 ∨ lR (triedB b bits) k = 2) ∧
      (lR (triedB b bits) k = 2 → b.need ≤ truthP b bits + rubN b bits k - dampN b k n) ∧ (lR (triedB b bits) k = 0 → ¬ b.need ≤ truthP b bits + rubN b bits k - dampN b k n) ∧
      (safeR (triedB b bits) = true → (k = 0 → lR (triedB b bits) k = 2) ∧ (k ≠ 0 → lR (triedB b bits) k = 0)) := by
  have hx : Spans b := hg.sr
  have hsx := sp_tried hg.sp bits
  have a0 := (true_facts hck hg bits).1
  have f0 : eL (triedB b bits) k = 0 := eL_of a0 (surf_in (b := triedB b bits) hg.u1 hk)
  have l0 : ∀ j : Nat, j < b.surfs.length → lR (triedB b bits) j = lightsL (triedB b bits) j := fun j hj => (lR_of (eL_of a0 (surf_in (b := triedB b bits) hg.u1 hj)) hsx).trans rfl
  have hd := dampN_range hx n (k := (k : Int)) (by omega) (by omega)
  have hr := tried_rubs hg bits hk
  have hp := tried_true hg bits
  refine ⟨f0, ?_, ?_, ?_, ?_⟩
  · rw [l0 k hk]
    unfold lightsL
    cases mayL (triedB b bits) k <;> cases sureL (triedB b bits) k <;> simp
  · rw [l0 k hk, lights_two]
    rintro ⟨_, h⟩
    unfold sureL at h
    rw [List.all_eq_true] at h
    have h1 := h _ hp
    simp only [decide_eq_true_eq] at h1
    unfold lowI at h1
    have h2 : b.need ≤ truthP b bits + (rubs (triedB b bits) k (truthP b bits)).1 - (rd_T47 b.surfs (k : Int)).f1.f1 := h1
    omega
  · rw [l0 k hk, lights_zero]
    intro h h1
    refine h ?_
    unfold mayL
    rw [List.any_eq_true]
    refine ⟨_, hp, ?_⟩
    simp only [decide_eq_true_eq]
    unfold highI
    show b.need ≤ truthP b bits + (rubs (triedB b bits) k (truthP b bits)).2 - (rd_T47 b.surfs (k : Int)).f1.f0
    omega
  · intro h
    rw [safeR_of a0 hsx] at h
    unfold safeL othersL at h
    simp only [Bool.and_eq_true, decide_eq_true_eq, List.all_eq_true, List.mem_range, Bool.or_eq_true, beq_iff_eq] at h
    refine ⟨fun e => ?_, fun e => ?_⟩
    · rw [l0 k hk, e]
      exact h.1
    · rw [l0 k hk]
      exact (h.2 k hk).resolve_left e
end Go.Proofs.YtghpoldlddghjaaDoor
namespace Go.Proofs.YtghpoldlddghjaaDoor.Ops
open Go Go.RowKit Go.Proofs.YtghpoldlddghjaaDoor
open Go.Proofs.YtghpoldlddghjaaDoorW.PrintWords Go.Proofs.YtghpoldlddghjaaDoorW.PrintMore Go.Proofs.YtghpoldlddghjaaDoor.PPasteTrue
section
variable {ρ : Operand → Value} {o : Oper} {w : World}
theorem fld27_2 {x : Operand} (ho : o.op = .fieldAddr 27 x 2) {g : Nat} (hx : ρ x = .pointer (some ⟨g, 0, none⟩)) : (execOp ρ o).run Tryd.prog w = .ok (.value (.pointer (some ⟨g, 2, none⟩))) w := by
  unfold execOp
  simp only [ho, hx]
  go_simp
theorem fld27_3 {x : Operand} (ho : o.op = .fieldAddr 27 x 3) {g : Nat} (hx : ρ x = .pointer (some ⟨g, 0, none⟩)) : (execOp ρ o).run Tryd.prog w = .ok (.value (.pointer (some ⟨g, 3, none⟩))) w := by
  unfold execOp
  simp only [ho, hx]
  go_simp
theorem fldA47_1 {x : Operand} (ho : o.op = .fieldAddr 47 x 1) {ad : Addr} (hx : ρ x = .pointer (some ad)) : (execOp ρ o).run Tryd.prog w = .ok (.value (.pointer (some (ad.add 2)))) w := by
  obtain ⟨g, off, e⟩ := ad
  unfold execOp
  simp only [ho, hx]
  go_simp
theorem ld24 {x : Operand} (ho : o.op = .load 24 x) {ad : Addr} {A : Option Addr} {n c : Nat} (hx : ρ x = .pointer (some ad)) (hc : w.cell? ad = some (.slice A n c)) : (execOp ρ o).run Tryd.prog w = .ok (.value (.slice A n c)) w := by
  unfold execOp
  simp only [ho, hx]
  go_simp
theorem idx24 {x y : Operand} (ho : o.op = .indexAddr 24 x y) {ad : Addr} {n c : Nat} {i : Int} (hx : ρ x = .slice (some ad) n c) (hy : ρ y = .int .i64 i) (h0 : 0 ≤ i) (h1 : i < n) : (execOp ρ o).run Tryd.prog w = .ok (.value (.pointer (some (ad.add (i.toNat * 4))))) w := by
  unfold execOp
  simp only [ho, hx, hy]
  go_simp
theorem ld3 {x : Operand} (ho : o.op = .load 3 x) {ad : Addr} {v : Int} (hx : ρ x = .pointer (some ad)) (hc : w.cell? ad = some (.int .i64 v)) : (execOp ρ o).run Tryd.prog w = .ok (.value (.int .i64 v)) w := by
  unfold execOp
  simp only [ho, hx]
  go_simp
theorem ld39 {x : Operand} (ho : o.op = .load 39 x) {ad : Addr} {u v : Int} (hx : ρ x = .pointer (some ad)) (c0 : w.cell? ad = some (.int .i64 u)) (c1 : w.cell? ⟨ad.block, ad.off + 1, none⟩ = some (.int .i64 v)) : (execOp ρ o).run Tryd.prog w = .ok (.value (.agg #[.int .i64 u, .int .i64 v])) w := by
  unfold execOp
  simp only [ho, hx]
  go_simp
theorem ge3 {x y : Operand} {t' : TypeId} (ho : o.op = .binOp .geq 3 x y t') {i j : Int} (hx : ρ x = .int .i64 i) (hy : ρ y = .int .i64 j) : (execOp ρ o).run Tryd.prog w = .ok (.value (.bool (decide (j ≤ i)))) w := by
  unfold execOp
  simp only [ho, hx, hy]
  go_simp
theorem mul3 {x y : Operand} {t' : TypeId} (ho : o.op = .binOp .mul 3 x y t') {i j : Int} (hx : ρ x = .int .i64 i) (hy : ρ y = .int .i64 j) (h0 : -9223372036854775808 ≤ i * j) (h1 : i * j ≤ 9223372036854775807) : (execOp ρ o).run Tryd.prog w = .ok (.value (.int .i64 (i * j))) w := by
  unfold execOp
  simp only [ho, hx, hy]
  go_simp
  exact IntWalk.i64_in _ ⟨h0, h1⟩
end
end Go.Proofs.YtghpoldlddghjaaDoor.Ops
namespace Go.Proofs.YtghpoldlddghjaaDoor
open Go Go.RowKit
open Go.Proofs.YtghpoldlddghjaaDoorW.PrintWords Go.Proofs.YtghpoldlddghjaaDoorW.PrintMore Go.Proofs.YtghpoldlddghjaaDoor.PPasteTrue
structure TrSt (w : World) (h : Hd) (b : Bk) (l : List Int) (A4 : Option Addr) (c4 : Nat) (g5 : Nat) (wq : World) (b2 b6 b7 : Bool) : Prop where
  o : One w (h.cells b) 27 wq
  r : b2 = true → k59.R 59 wq (w.heap.size + 1) (fun _ => True) (.slice A4 (triedN b l b.trials.length).length c4) (triedN b l b.trials.length)
  v5 : b6 = true → w.heap.size + 1 ≤ g5 ∧ wq.heap[g5]? = some (.cells (if b7 then (h.tw A4 c4).cells (triedB b l) else z27) 27 (0, 0))
  i7 : b7 = true → b6 = true ∧ b2 = true
section
variable {w : World} {h : Hd} {b : Bk} {l : List Int} {A4 A : Option Addr} {c4 c g5 : Nat} {wq w1 : World} {b2 b6 b7 : Bool}
theorem TrSt.on (s : TrSt w h b l A4 c4 g5 wq b2 b6 b7) (hb : Below wq.heap.size wq w1) : TrSt w h b l A4 c4 g5 w1 b2 b6 b7 :=
  ⟨s.o.on hb, fun e => Kd.R_below (s.r e) hb, fun e => ⟨(s.v5 e).1, blk_below (s.v5 e).2 hb⟩, s.i7⟩
theorem TrSt.made (s : TrSt w h b l A4 c4 g5 wq false b6 b7) (hb : Below wq.heap.size wq w1) (hk : k59.R 59 w1 wq.heap.size (fun _ => True) (.slice A (triedN b l b.trials.length).length c) (triedN b l b.trials.length)) : b7 = false ∧ TrSt w h b l A c g5 w1 true b6 b7 := by
  have e9 : b7 = false := false_of (fun e => (s.i7 e).2) rfl
  subst e9
  have s1 := s.on hb
  have hz := blk_lt s.o.b1
  exact ⟨rfl, s1.o, fun _ => Kd.R_lower hk (by omega), fun e => by simpa using s1.v5 e, fun e => (by cases e)⟩
theorem TrSt.var (s : TrSt w h b l A4 c4 g5 wq b2 false b7) : b7 = false ∧ TrSt w h b l A4 c4 wq.heap.size (wq.alloc (.cells z27 27)) b2 true b7 := by
  have e8 : b7 = false := false_of (fun e => (s.i7 e).1) rfl
  subst e8
  have hz := blk_lt s.o.b1
  have s1 := s.on (below_alloc (Below.refl _ _) (.cells z27 27))
  exact ⟨rfl, s1.o, s1.r, fun _ => ⟨by omega, by simpa using (new_at rfl : (wq.alloc (.cells z27 27)).heap[wq.heap.size]? = _)⟩, fun e => (by cases e)⟩
theorem TrSt.set (s : TrSt w h b l A4 c4 g5 wq true true false) : TrSt w h b l A4 c4 g5 (wq.setRow g5 ((h.tw A4 c4).cells (triedB b l))) true true true := by
  obtain ⟨n5, h5⟩ := s.v5 rfl
  have h5' : wq.heap[g5]? = some (.cells z27 27 (0, 0)) := by simpa using h5
  exact ⟨⟨below_row s.o.below (by omega) _, (setRow_other wq g5 _ _ (by omega)).trans s.o.b1⟩, fun e => R_setRow (s.r e) h5' (by decide) _, fun _ => ⟨n5, by simpa using setRow_heap wq g5 _ _ 27 _ h5'⟩, fun _ => ⟨rfl, rfl⟩⟩
end
structure TrEnd (w : World) (h : Hd) (b : Bk) (hx : Hd) (bx : Bk) (g5 : Nat) (wq : World) : Prop where
  o : One w (h.cells b) 27 wq
  h5 : wq.heap[g5]? = some (.cells (hx.cells bx) 27 (0, 0))
  bx : BkIn wq hx bx
theorem TrEnd.on {w : World} {h : Hd} {b : Bk} {hx : Hd} {bx : Bk} {g5 : Nat} {wq w1 : World} (s : TrEnd w h b hx bx g5 wq) (hb : Below wq.heap.size wq w1) : TrEnd w h b hx bx g5 w1 :=
  ⟨s.o.on hb, blk_below s.h5 hb, s.bx.below hb⟩
theorem TrSt.ready {w : World} {h : Hd} {b : Bk} {l : List Int} {A4 : Option Addr} {c4 g5 : Nat} {wq : World} (s : TrSt w h b l A4 c4 g5 wq true true true) (hb : BkIn w h b) : TrEnd w h b (h.tw A4 c4) (triedB b l) g5 wq := by
  have hq := hb.below s.o.below
  obtain ⟨p1, p2, p3⟩ := Kd.R_reads' (s.r rfl)
  exact ⟨s.o, by simpa using (s.v5 rfl).2, ⟨hq.r0, hq.r1, hq.r2, p3, hq.l0, hq.l1, hq.l2, p2⟩⟩
theorem rub_at {h : Hd} {b : Bk} {w : World} (hb : BkIn w h b) (hx : Spans b) (hu : b.surfs.length ≤ 4) {A : Option Addr} {c : Nat} {l : List Int} (hr : Kd.C (Kd.int .i64) w A l.length l) (hc : l.length ≤ c) {k : Int} (h0 : 0 ≤ k) (h1 : k < b.surfs.length) {r : Int} (e : r = rubN b l k) :
    Calls Tryd.prog 23 #[.agg (h.cells b), .int .i64 k, .slice A l.length c] w fun e w' => e = .returned (.int .i64 r) ∧ Below w.heap.size w w' := by
  rw [e]
  exact rub_calls hb hx hu hr hc h0 h1
theorem item_at {w : World} {A : Option Addr} {c : Nat} {l : List Int} (hr : Kd.C (Kd.int .i64) w A l.length l) (hc : l.length ≤ c) (n : Int) {r : Int} (e : r = itemI l n) : Calls Tryd.prog 22 #[.slice A l.length c, .int .i64 n] w fun e w' => e = .returned (.int .i64 r) ∧ Below w.heap.size w w' := by
  rw [e]
  exact item_calls hr hc n
theorem damp_at {b : Bk} (hx : Spans b) {k : Int} (h0 : 0 ≤ k) (h1 : k < b.surfs.length) {n d u v : Int} (w : World) (e : d = dampN b k n) (eu : u = (rd_T47 b.surfs k).f1.f0) (ev : v = (rd_T47 b.surfs k).f1.f1) : Calls Tryd.prog 21 #[.agg #[.int .i64 u, .int .i64 v], .int .i64 n] w fun e w' => e = .returned (.int .i64 d) ∧ Below w.heap.size w w' := by
  subst e eu ev
  have h := hx _ (rd47_mem h0 h1)
  exact drawn_calls h.2.2.2.1 h.2.2.2.2.1 (by omega) w
theorem surf_at {w wq : World} {h : Hd} {b : Bk} (hb : BkIn w h b) (hbel : Below w.heap.size w wq) {ad : Addr} (ha : h.A2 = some ad) (i : Nat) (hi : i < b.surfs.length) :
    wq.cell? ((ad.add (i * 4)).add 2) = some (.int .i64 (rd_T47 b.surfs i).f1.f0) ∧ wq.cell? ⟨((ad.add (i * 4)).add 2).block, ((ad.add (i * 4)).add 2).off + 1, none⟩ = some (.int .i64 (rd_T47 b.surfs i).f1.f1) := by
  obtain ⟨ad2, h2, t0, t1, t2, t3⟩ := at_T47 (hb.below hbel).r2 i (by omega) (by omega)
  obtain rfl : ad = ad2 := by rw [ha] at h2; exact Option.some.inj h2
  simp only [Int.toNat_natCast] at t2 t3
  exact ⟨t2, t3⟩
end Go.Proofs.YtghpoldlddghjaaDoor
namespace Go.Proofs.YtghpoldlddghjaaDoor
open Go Go.RowKit
open Go.Proofs.YtghpoldlddghjaaDoorW.PrintWords Go.Proofs.YtghpoldlddghjaaDoorW.PrintMore Go.Proofs.YtghpoldlddghjaaDoor.PPasteTrue
set_option maxRecDepth 20000 in
set_option maxHeartbeats 4000000 in
theorem pasteTrue_calls {h : Hd} {b : Bk} {w : World} (hg : Asks w) (hb : BkIn w h b) {A : Option Addr} {c : Nat} {l : List Int} (hr : Kd.C (Kd.int .i64) w A l.length l) (hc : l.length ≤ c) : Calls Tryd.prog 3 #[.agg (h.cells b), .slice A l.length c] w fun e w' => e = .returned (.bool true) ∧ Below w.heap.size w w' := by
  have HG := Lib.hid hg
  clear hg
  have HO := Lib.hid (One.start w (h.cells b) 27)
  cases hsd : soundB b with
  | false =>
    have HS := Lib.hid hsd
    clear hsd
    go_enter Tryd.func3, Tryd.ntmps3
    go_wp2_with (first | (with_reducible refine b_box (t := 27) rfl rfl rfl ?_) | ((with_reducible refine gate_dst (N := 20) rfl ?_); refine wpList_load_row rfl 27 _ rfl w.heap.size rfl 27 (h.cells b) (0, 0) _ HO.out.b1 Tryd.underlying27 rfl i27 ?_) | (go_at_call 11; refine (sound_calls (hb.below HO.out.below)).mono ?_; rintro e w1 ⟨rfl, hb1⟩; rw [HS.out]; have HB1 := Lib.hid (below_step HO.out.below hb1); clear hb1) | (go_at_call 12; refine (rubbed_calls (HG.out.below HB1.out)).mono ?_; rintro e w2 ⟨rfl, hb2⟩; have HB2 := Lib.hid (below_step HB1.out hb2); clear hb2))
    go_ret
    exact ⟨rfl, HB2.out⟩
  | true =>
    have HS := Lib.hid hsd
    obtain ⟨hck, hsa, hgd⟩ := sound_good hsd
    have HSA := Lib.hid hsa
    have hu0 := hgd.u0
    have hu1 := hgd.u1
    have HCK := Lib.hid hck
    have HGD := Lib.hid hgd
    have HLR := Lib.hid hr
    have HLC := Lib.hid hc
    clear hsd hck hsa hgd hr hc
    go_enter Tryd.func3, Tryd.ntmps3
    go_upto_region 3 with (first | (with_reducible refine b_box (t := 27) rfl rfl rfl ?_) | ((with_reducible refine gate_dst (N := 20) rfl ?_); refine wpList_load_row rfl 27 _ rfl w.heap.size rfl 27 (h.cells b) (0, 0) _ HO.out.b1 Tryd.underlying27 rfl i27 ?_) | (go_at_call 11; refine (sound_calls (hb.below HO.out.below)).mono ?_; rintro e w1 ⟨rfl, hb1⟩; rw [HS.out]; have HO1 := Lib.hid (HO.out.on hb1); clear hb1))
    rename_i K hK
    refine draw_inv2 mixed (by kernel_rfl) (fun bb a wq => ∃ (A4 : Option Addr) (c4 : Nat) (g5 : Nat), a = ⟨#[.agg (h.cells b), .slice A l.length c, .pointer (some ⟨w.heap.size, 0, none⟩), undef, .bool false, (if bb 6 then .pointer (some ⟨g5, 0, none⟩) else undef), (if bb 8 then .int .i64 (truthP b l) else undef), undef, undef, undef, undef, undef, undef, undef, undef, undef, undef, undef, undef, undef, .agg (h.cells b), .bool true, .bool false, undef, (if bb 0 then .agg (h.cells b) else undef), (if bb 1 then .slice A l.length c else undef), (if bb 2 then .agg ((h.tw A4 c4).cells (triedB b l)) else undef), (if bb 3 then .agg (h.cells b) else undef), (if bb 4 then .slice A l.length c else undef), (if bb 5 then .int .i64 (truthP b l) else undef), undef, undef, undef, undef, undef, undef, undef, undef, undef, undef, undef, undef, undef, undef, undef, undef, undef, undef, undef, undef, undef, undef, undef, undef, undef, undef, undef, undef, undef, undef, undef, undef, undef, undef, undef, undef, undef, undef, undef, undef, undef, undef, undef, undef, undef, undef, undef, undef, undef, undef, undef, undef, undef, undef, undef, undef, undef, undef, undef, undef, undef, undef, undef, undef, undef, undef, undef, undef, undef, undef, undef, undef, undef, undef, undef, undef, undef, undef, undef, undef, undef, undef, undef, undef, undef, undef, undef, undef, undef, undef, undef, undef, undef, undef, undef, undef, undef, undef, undef, undef, undef, undef, undef, undef, undef, undef, undef, undef, undef, undef, undef, undef, undef, undef, undef, undef, undef, undef, undef, undef, undef, undef, undef, undef, undef, undef, undef, undef, undef], []⟩ ∧ TrSt w h b l A4 c4 g5 wq (bb 2) (bb 6) (bb 7)) ?_ ?_ ?_
    · exact ⟨none, 0, 0, by simp, by simpa using (TrSt.on ⟨HO1.out, by simp, by simp, by simp⟩ (Below.refl _ _).drew : TrSt w h b l none 0 0 w1.drew false false false)⟩
    · intro i hil bb a wq hI hbi hcame
      obtain ⟨A4, c4, g5, rfl, hst⟩ := hI
      rcases i with _ | _ | _ | _ | _ | _ | _ | _ | _ | i
      · refine op_value rfl rfl (x_load (g := w.heap.size) rfl rfl hst.o.b1 Tryd.underlying27 rfl i27) ⟨A4, c4, g5, by simp [Act.put, Act.eval, upd], ?_⟩
        simpa [upd] using hst
      · refine op_value rfl rfl (x_assign (.inr rfl)) ⟨A4, c4, g5, by simp [Act.put, Act.eval, upd], ?_⟩
        simpa [upd] using hst
      · have hh := hcame
        simp [Came, Region.binds] at hh
        refine op_call rfl rfl (run_call Tryd.func13 (by kernel_rfl) rfl rfl rfl (args := #[.agg (h.cells b), .slice A l.length c]) (by simp [Act.eval, hh])) ((tried_rows (hb.below hst.o.below) HGD.out (Kd.C_below HLR.out hst.o.below) HLC.out).mono ?_)
        rintro e w5 ⟨A', c', rfl, hk5, hb5⟩
        have hst' := hst
        rw [hbi] at hst'
        obtain ⟨e9, hst2⟩ := hst'.made hb5 hk5
        refine ⟨_, rfl, A', c', g5, by simp [Act.put, upd, hh], ?_⟩
        simpa [upd, e9] using hst2
      · refine op_value rfl rfl (x_load (g := w.heap.size) rfl rfl hst.o.b1 Tryd.underlying27 rfl i27) ⟨A4, c4, g5, by simp [Act.put, Act.eval, upd], ?_⟩
        simpa [upd] using hst
      · refine op_value rfl rfl (x_assign (.inr rfl)) ⟨A4, c4, g5, by simp [Act.put, Act.eval, upd], ?_⟩
        simpa [upd] using hst
      · have hh := hcame
        simp [Came, Region.binds] at hh
        refine op_call rfl rfl (run_call Tryd.func14 (by kernel_rfl) rfl rfl rfl (args := #[.agg (h.cells b), .slice A l.length c]) (by simp [Act.eval, hh])) (((show Calls Tryd.prog 14 #[.agg (h.cells b), .slice A l.length c] wq fun e w' => e = .returned (.int .i64 (truthP b l)) ∧ Below wq.heap.size wq w' from mixed_calls (hb.below hst.o.below) HGD.out.sp (Kd.C_below HLR.out hst.o.below) HLC.out (Kd.C_max HLR.out))).mono ?_)
        rintro e w5 ⟨rfl, hb5⟩
        refine ⟨_, rfl, A4, c4, g5, by simp [Act.put, upd, hh], ?_⟩
        simpa [upd] using hst.on hb5
      · have hst' := hst
        rw [hbi] at hst'
        obtain ⟨e8, hst2⟩ := hst'.var
        refine op_value rfl rfl (x_alloc rfl zb27) ⟨A4, c4, wq.heap.size, by simp [Act.put, Act.eval, upd], ?_⟩
        simpa [upd, e8] using hst2
      · have hh := hcame
        simp [Came, Region.binds] at hh
        have h6 : bb 6 = true := by simp [hh]
        have h2 : bb 2 = true := by simp [hh]
        have hst' := hst
        rw [hbi, h6, h2] at hst'
        refine op_skip rfl rfl (x_store (g := g5) (cells := (h.tw A4 c4).cells (triedB b l)) rfl (by simp [Act.eval, hh]) (by simp [Act.eval, hh]) (show wq.heap[g5]? = some (.cells z27 27 (0, 0)) by simpa using (hst'.v5 rfl).2) i27 rfl (cells_one _ _)) ⟨A4, c4, g5, by simp [Act.put, upd, hh], ?_⟩
        simpa [upd, h6, h2] using hst'.set
      · have hh := hcame
        simp [Came, Region.binds] at hh
        refine op_value rfl rfl (x_assign (.inl rfl)) ⟨A4, c4, g5, by simp [Act.put, Act.eval, upd, hh], ?_⟩
        simpa [upd] using hst
      · simp at hil; omega
    · intro bb a wf hI hall
      obtain ⟨A4, c4, g5, rfl, hst⟩ := hI
      refine hK _ _ ?_
      simp only [hall 0 (by simp), hall 1 (by simp), hall 2 (by simp), hall 3 (by simp), hall 4 (by simp), hall 5 (by simp), hall 6 (by simp), hall 7 (by simp), hall 8 (by simp), if_true]
      rw [hall 2 (by simp), hall 6 (by simp), hall 7 (by simp)] at hst
      clear hall hK
      have HM0 := Lib.hid (hst.ready hb)
      clear hst HO1
      have hff := true_facts HCK.out HGD.out l
      obtain ⟨hx, hhx⟩ : ∃ x, x = h.tw A4 c4 := ⟨_, rfl⟩
      obtain ⟨bx, hbx⟩ : ∃ x, x = triedB b l := ⟨_, rfl⟩
      obtain ⟨p, hp⟩ : ∃ x, x = truthP b l := ⟨_, rfl⟩
      have hsx : Sane bx := by rw [hbx]; exact HSA.out
      rw [← hbx, ← hp] at hff
      rw [← hp]
      rw [← hbx, ← hhx] at HM0 ⊢
      obtain ⟨s1, s2, hs⟩ : ∃ s1 s2, kR bx = (s1, s2) := ⟨_, _, rfl⟩
      obtain ⟨sf, hsf⟩ : ∃ x, safeR bx = x := ⟨_, rfl⟩
      rw [hs] at hff
      have HSX := Lib.hid hsx
      have A0 := Lib.hid hff.1
      have A1 := Lib.hid (show decide (askE bx true = 0) = true by rw [hff.1]; rfl)
      have A2 := Lib.hid hff.2.1
      have A3 := Lib.hid hff.2.2.1
      have A5 := Lib.hid hff.2.2.2.1
      have A6 := Lib.hid hff.2.2.2.2
      have HSS := Lib.hid hs
      have HSF := Lib.hid hsf
      have HBX := Lib.hid hbx
      have HPP := Lib.hid hp
      clear hff hsx hhx hbx hp hs hsf
      go_upto_region 5 with (first | ((with_reducible refine gate_dst (N := 31) rfl ?_); refine wpList_load_row rfl 27 _ rfl g5 rfl 27 (hx.cells bx) (0, 0) _ HM0.out.h5 Tryd.underlying27 rfl i27 ?_) | (go_at_call 15; refine (right_at HM0.out.bx HSX.out A1.out A2.out).mono ?_; rintro e2 v1 ⟨rfl, hv1⟩; have HM1 := Lib.hid (HM0.out.on hv1); clear hv1))
      go_upto_region 6 with (first | ((with_reducible refine gate_dst (N := 36) rfl ?_); refine wpList_load_row rfl 27 _ rfl g5 rfl 27 (hx.cells bx) (0, 0) _ HM1.out.h5 Tryd.underlying27 rfl i27 ?_) | (go_at_call 16; refine (Wrong_calls HM1.out.bx HSX.out).mono ?_; rintro e2 v2 ⟨⟨Aw, cw, rfl, _, _⟩, hv2⟩; rw [A3.out, A5.out]; have HM2 := Lib.hid (HM1.out.on hv2); clear hv2))
      go_upto_region 7 with (first | ((with_reducible refine gate_dst (N := 41) rfl ?_); refine wpList_load_row rfl 27 _ rfl g5 rfl 27 (hx.cells bx) (0, 0) _ HM2.out.h5 Tryd.underlying27 rfl i27 ?_) | (go_at_call 17; refine (power_at (r := (s1, s2)) (ey := 0) HM2.out.bx HSX.out HSS.out A0.out).mono ?_; rintro e2 v3 ⟨rfl, hv3⟩; simp only []; have HM3 := Lib.hid (HM2.out.on hv3); clear hv3))
      obtain ⟨g11, hg11⟩ : ∃ g, g = v3.heap.size := ⟨_, rfl⟩
      have p11 : (v3.alloc (.cells #[.int .i64 s1, .int .i64 s2] 39)).heap[g11]? = some (.cells #[.int .i64 s1, .int .i64 s2] 39 (0, 0)) := new_at hg11
      have m11 := HM3.out.on (below_alloc (Below.refl _ _) (.cells #[.int .i64 s1, .int .i64 s2] 39))
      rw [← hg11]
      generalize v3.alloc (.cells #[.int .i64 s1, .int .i64 s2] 39) = w11 at p11 m11 ⊢
      have HM11 := Lib.hid m11
      have P11 := Lib.hid p11
      clear m11 p11 hg11
      go_upto_region 8 with (first | ((with_reducible refine gate_dst (N := 46) rfl ?_); refine wpList_load_row rfl 27 _ rfl g5 rfl 27 (hx.cells bx) (0, 0) _ HM11.out.h5 Tryd.underlying27 rfl i27 ?_) | (go_at_call 18; refine (Safe_calls (HG.out.below HM11.out.o.below) HM11.out.bx HSX.out).mono ?_; rintro e2 v4 ⟨rfl, hv4⟩; rw [HSF.out, A0.out]; have HM4 := Lib.hid (HM11.out.on hv4); have P4 := Lib.hid (blk_below P11.out hv4); clear hv4))
      have p4 := P4.out
      have c0 : v4.cell? ⟨g11, 0, none⟩ = some (.int .i64 s1) := (blk_cell p4 0).trans rfl
      have c1 : v4.cell? ⟨g11, 1, none⟩ = some (.int .i64 s2) := (blk_cell p4 1).trans rfl
      have z11 := blk_lt p4
      clear p4
      go_wp2_with (first | (go_at_call 19; refine (has_calls s1 s2 p _).mono ?_; rintro e2 v5 ⟨rfl, hv5⟩; rw [A6.out]; have HM5 := Lib.hid (HM4.out.on hv5); clear hv5))
      clear c0 c1 z11
      go_loopw [15] (fun i wr => ∃ m : Nat, m ≤ b.surfs.length ∧ i = .int .i64 m ∧ Aside0 (TrEnd w h b hx bx g5 wr)) (fun i _ => (b.surfs.length - intOf i).toNat)
      case atStart => exact ⟨0, Nat.zero_le _, by simp, ⟨HM5.out⟩⟩
      case round =>
        obtain ⟨m, hm, rfl, HX⟩ := hrel
        have c2 : wr.cell? ⟨w.heap.size, 2, none⟩ = some (.slice h.A2 b.surfs.length h.c2) := (blk_cell HX.out.o.b1 2).trans rfl
        have zz := blk_lt HX.out.o.b1
        by_cases hlt : m < b.surfs.length
        · obtain ⟨ad, had, _⟩ := at_T47 (hb.below HX.out.o.below).r2 (m : Int) (by omega) (by omega)
          obtain ⟨d, hd⟩ : ∃ d, d = dampN b m (itemI l (2 * (m : Int) + 3)) := ⟨_, rfl⟩
          obtain ⟨r, hr⟩ : ∃ r, r = rubN b l m := ⟨_, rfl⟩
          obtain ⟨it, hit⟩ : ∃ it, it = itemI l (2 * (m : Int) + 3) := ⟨_, rfl⟩
          obtain ⟨u0, hu⟩ : ∃ u, u = (rd_T47 b.surfs (m : Int)).f1.f0 := ⟨_, rfl⟩
          obtain ⟨v0, hv⟩ : ∃ v, v = (rd_T47 b.surfs (m : Int)).f1.f1 := ⟨_, rfl⟩
          obtain ⟨nn, hn⟩ : ∃ nn, lR bx m = nn := ⟨_, rfl⟩
          have hff := true_lights HCK.out HGD.out l hlt (itemI l (2 * (m : Int) + 3))
          rw [← HBX.out, hn, ← HPP.out, ← hr, ← hd, HSF.out] at hff
          have hxs : Spans b := HGD.out.sr
          have hpb := truthP_range HGD.out.sp l
          rw [← HPP.out] at hpb
          have hrb := rubN_range hxs l (k := (m : Int)) (by omega) (by omega)
          have hdb := dampN_range hxs (itemI l (2 * (m : Int) + 3)) (k := (m : Int)) (by omega) (by omega)
          rw [← hr] at hrb
          rw [← hd] at hdb
          have hss := hxs _ (rd47_mem (xs := b.surfs) (i := (m : Int)) (by omega) (by omega))
          have hb1 : -9223372036854775808 ≤ p + r ∧ p + r ≤ 9223372036854775807 ∧ -9223372036854775808 ≤ p + r - d ∧ p + r - d ≤ 9223372036854775807 := by omega
          have HB1 := Lib.hid hb1
          have HFF := Lib.hid hff
          have HD := Lib.hid (show d = dampN b m it by rw [hit]; exact hd)
          have HR := Lib.hid hr
          have HIT := Lib.hid hit
          have HU := Lib.hid hu
          have HV := Lib.hid hv
          have HN := Lib.hid hn
          have HAD := Lib.hid had
          have HXS := Lib.hid hxs
          clear hd hr hit hu hv hn had hff hxs hpb hrb hdb hss hb1
          go_upto_region 14 with (first | ((with_reducible refine gate_dst (N := 87) rfl ?_); refine wpList_load_row rfl 27 _ rfl g5 rfl 27 (hx.cells bx) (0, 0) _ HX.out.h5 Tryd.underlying27 rfl i27 ?_) | (go_at_call 20; refine (Lights_calls (HG.out.below HX.out.o.below) HX.out.bx HSX.out m).mono ?_; rintro e2 v6 ⟨rfl, hv6⟩; rw [HN.out, HFF.out.1]; have HX6 := Lib.hid (HX.out.on hv6); clear hv6))
          rename_i K hK
          refine draw_inv2 mixed (by kernel_rfl) (fun bb a wq => a = ⟨#[.agg (h.cells b), .slice A l.length c, .pointer (some ⟨w.heap.size, 0, none⟩), undef, u4, .pointer (some ⟨g5, 0, none⟩), .int .i64 p, .bool true, .int .i64 0, .slice Aw 0 cw, .int .i64 0, .pointer (some ⟨g11, 0, none⟩), .int .i64 0, .bool sf, .int .i64 0, .int .i64 ↑m, .int .i64 nn, .int .i64 0, (if bb 12 then .int .i64 d else u18), u19, .agg (h.cells b), .bool true, .bool false, undef, .agg (h.cells b), .slice A l.length c, .agg (hx.cells bx), .agg (h.cells b), .slice A l.length c, .int .i64 p, .tuple #[.bool true, .int .i64 0], .agg (hx.cells bx), .tuple #[.bool true, .int .i64 0], .bool true, .int .i64 0, .tuple #[.slice Aw 0 cw, .int .i64 0], .agg (hx.cells bx), .tuple #[.slice Aw 0 cw, .int .i64 0], .slice Aw 0 cw, .int .i64 0, .tuple #[.agg #[.int .i64 s1, .int .i64 s2], .int .i64 0], .agg (hx.cells bx), .tuple #[.agg #[.int .i64 s1, .int .i64 s2], .int .i64 0], .agg #[.int .i64 s1, .int .i64 s2], .int .i64 0, .tuple #[.bool sf, .int .i64 0], .agg (hx.cells bx), .tuple #[.bool sf, .int .i64 0], .bool sf, .int .i64 0, .int .i64 0, .bool false, .bool false, .int .i64 0, .bool false, .bool false, .bool false, .int .i64 0, .bool false, .bool false, .bool false, .int .i64 0, .bool false, .bool false, .bool false, .bool true, .bool false, .bool false, .bool false, .slice Aw 0 cw, .int .i64 0, .bool false, .bool false, .bool false, .agg #[.int .i64 s1, .int .i64 s2], .int .i64 p, .bool true, .bool false, .bool false, .int .i64 ↑m, .pointer (some ⟨w.heap.size, 2, none⟩), .slice h.A2 b.surfs.length h.c2, .int .i64 ↑b.surfs.length, .bool true, u84, u85, .tuple #[.int .i64 nn, .int .i64 0], .agg (hx.cells bx), .int .i64 ↑m, .tuple #[.int .i64 nn, .int .i64 0], .int .i64 nn, .int .i64 0, (if bb 0 then .pointer (some ⟨w.heap.size, 2, none⟩) else u92), (if bb 1 then .slice (some ad) b.surfs.length h.c2 else u93), (if bb 2 then .int .i64 ↑m else u94), (if bb 3 then .pointer (some (ad.add (m * 4))) else u95), (if bb 4 then .pointer (some ((ad.add (m * 4)).add 2)) else u96), (if bb 5 then .agg #[.int .i64 u0, .int .i64 v0] else u97), (if bb 6 then .slice A l.length c else u98), (if bb 7 then .int .i64 ↑m else u99), (if bb 8 then .int .i64 (2 * (m : Int)) else u100), (if bb 9 then .int .i64 (2 * (m : Int) + 3) else u101), (if bb 10 then .int .i64 it else u102), (if bb 11 then .int .i64 d else u103), u104, u105, u106, u107, u108, u109, u110, u111, u112, u113, u114, u115, u116, u117, u118, u119, u120, u121, u122, u123, u124, u125, u126, u127, u128, u129, u130, u131, u132, u133, u134, u135, u136, u137, u138, u139, u140, u141, u142, u143, u144, u145, u146, u147, u148, u149, u150, u151, u152, u153, u154, u155, u156, u157, undef], []⟩ ∧ TrEnd w h b hx bx g5 wq) ?_ ?_ ?_
          · exact ⟨by simp, by simpa using HX6.out.on (Below.refl _ _).drew⟩
          · intro i hil bb a wq hI hbi hcame
            obtain ⟨rfl, hst⟩ := hI
            rcases i with _ | _ | _ | _ | _ | _ | _ | _ | _ | _ | _ | _ | _ | i
            · refine op_value rfl rfl (Ops.fld27_2 (g := w.heap.size) rfl rfl) ⟨by simp [Act.put, Act.eval, upd], ?_⟩
              simpa [upd] using hst
            · have hh := hcame
              simp [Came, Region.binds] at hh
              refine op_value rfl rfl (Ops.ld24 (x := .tmp 92) (ad := ⟨w.heap.size, 2, none⟩) (A := some ad) (n := b.surfs.length) (c := h.c2) rfl (by simp [Act.eval, hh]) ((blk_cell hst.o.b1 2).trans (by rw [← HAD.out]; rfl))) ⟨by simp [Act.put, Act.eval, upd, hh], ?_⟩
              simpa [upd] using hst
            · refine op_value rfl rfl (x_assign (.inr rfl)) ⟨by simp [Act.put, Act.eval, upd], ?_⟩
              simpa [upd] using hst
            · have hh := hcame
              simp [Came, Region.binds] at hh
              refine op_value rfl rfl (Ops.idx24 (x := .tmp 93) (y := .tmp 94) (ad := ad) (n := b.surfs.length) (c := h.c2) (i := (m : Int)) rfl (by simp [Act.eval, hh]) (by simp [Act.eval, hh]) (by omega) (by omega)) ⟨by simp [Act.put, Act.eval, upd, hh], ?_⟩
              simpa [upd] using hst
            · have hh := hcame
              simp [Came, Region.binds] at hh
              refine op_value rfl rfl (Ops.fldA47_1 (x := .tmp 95) (ad := ad.add (m * 4)) rfl (by simp [Act.eval, hh])) ⟨by simp [Act.put, Act.eval, upd, hh], ?_⟩
              simpa [upd] using hst
            · have hh := hcame
              simp [Came, Region.binds] at hh
              refine op_value rfl rfl (Ops.ld39 (x := .tmp 96) (ad := (ad.add (m * 4)).add 2) (u := u0) (v := v0) rfl (by simp [Act.eval, hh]) (by rw [HU.out]; exact (surf_at hb hst.o.below HAD.out m hlt).1) (by rw [HV.out]; exact (surf_at hb hst.o.below HAD.out m hlt).2)) ⟨by simp [Act.put, Act.eval, upd, hh], ?_⟩
              simpa [upd] using hst
            · refine op_value rfl rfl (x_assign (.inr rfl)) ⟨by simp [Act.put, Act.eval, upd], ?_⟩
              simpa [upd] using hst
            · refine op_value rfl rfl (x_assign (.inr rfl)) ⟨by simp [Act.put, Act.eval, upd], ?_⟩
              simpa [upd] using hst
            · have hh := hcame
              simp [Came, Region.binds] at hh
              refine op_value rfl rfl (Ops.mul3 (x := .const (.int .i64 2)) (y := .tmp 99) (i := 2) (j := (m : Int)) rfl rfl (by simp [Act.eval, hh]) (by omega) (by omega)) ⟨by simp [Act.put, Act.eval, upd, hh], ?_⟩
              simpa [upd] using hst
            · have hh := hcame
              simp [Came, Region.binds] at hh
              refine op_value rfl rfl (x_add3 (x := .tmp 100) (y := .const (.int .i64 3)) (i := 2 * (m : Int)) (j := 3) rfl (by simp [Act.eval, hh]) rfl (by omega) (by omega)) ⟨by simp [Act.put, Act.eval, upd, hh], ?_⟩
              simpa [upd] using hst
            · have hh := hcame
              simp [Came, Region.binds] at hh
              refine op_call rfl rfl (run_call Tryd.func22 (by kernel_rfl) rfl rfl rfl (args := #[.slice A l.length c, .int .i64 (2 * (m : Int) + 3)]) (by simp [Act.eval, hh])) ((item_at (Kd.C_below HLR.out hst.o.below) HLC.out (2 * (m : Int) + 3) HIT.out).mono ?_)
              rintro e w5 ⟨rfl, hb5⟩
              refine ⟨_, rfl, by simp [Act.put, upd, hh], ?_⟩
              simpa [upd] using hst.on hb5
            · have hh := hcame
              simp [Came, Region.binds] at hh
              refine op_call rfl rfl (run_call Tryd.func21 (by kernel_rfl) rfl rfl rfl (args := #[.agg #[.int .i64 u0, .int .i64 v0], .int .i64 it]) (by simp [Act.eval, hh])) ((damp_at HXS.out (k := (m : Int)) (by omega) (by omega) wq HD.out HU.out HV.out).mono ?_)
              rintro e w5 ⟨rfl, hb5⟩
              refine ⟨_, rfl, by simp [Act.put, upd, hh], ?_⟩
              simpa [upd] using hst.on hb5
            · have hh := hcame
              simp [Came, Region.binds] at hh
              refine op_value rfl rfl (x_assign (.inl rfl)) ⟨by simp [Act.put, Act.eval, upd, hh], ?_⟩
              simpa [upd] using hst
            · simp at hil; omega
          · intro bb a wf hI hall
            obtain ⟨rfl, hst⟩ := hI
            refine hK _ _ ?_
            simp only [hall 0 (by simp), hall 1 (by simp), hall 2 (by simp), hall 3 (by simp), hall 4 (by simp), hall 5 (by simp), hall 6 (by simp), hall 7 (by simp), hall 8 (by simp), hall 9 (by simp), hall 10 (by simp), hall 11 (by simp), hall 12 (by simp), if_true]
            have HX7 := Lib.hid hst
            clear hall hK hst
            go_upto_region 15 with (first | fail)
            rename_i K hK
            refine draw_inv2 mixed (by kernel_rfl) (fun bb a wq => a = ⟨#[.agg (h.cells b), .slice A l.length c, .pointer (some ⟨w.heap.size, 0, none⟩), undef, u4, .pointer (some ⟨g5, 0, none⟩), .int .i64 p, .bool true, .int .i64 0, .slice Aw 0 cw, .int .i64 0, .pointer (some ⟨g11, 0, none⟩), .int .i64 0, .bool sf, .int .i64 0, .int .i64 ↑m, .int .i64 nn, .int .i64 0, .int .i64 d, (if bb 11 then .bool (decide (b.need ≤ p + r - d)) else u19), .agg (h.cells b), .bool true, .bool false, undef, .agg (h.cells b), .slice A l.length c, .agg (hx.cells bx), .agg (h.cells b), .slice A l.length c, .int .i64 p, .tuple #[.bool true, .int .i64 0], .agg (hx.cells bx), .tuple #[.bool true, .int .i64 0], .bool true, .int .i64 0, .tuple #[.slice Aw 0 cw, .int .i64 0], .agg (hx.cells bx), .tuple #[.slice Aw 0 cw, .int .i64 0], .slice Aw 0 cw, .int .i64 0, .tuple #[.agg #[.int .i64 s1, .int .i64 s2], .int .i64 0], .agg (hx.cells bx), .tuple #[.agg #[.int .i64 s1, .int .i64 s2], .int .i64 0], .agg #[.int .i64 s1, .int .i64 s2], .int .i64 0, .tuple #[.bool sf, .int .i64 0], .agg (hx.cells bx), .tuple #[.bool sf, .int .i64 0], .bool sf, .int .i64 0, .int .i64 0, .bool false, .bool false, .int .i64 0, .bool false, .bool false, .bool false, .int .i64 0, .bool false, .bool false, .bool false, .int .i64 0, .bool false, .bool false, .bool false, .bool true, .bool false, .bool false, .bool false, .slice Aw 0 cw, .int .i64 0, .bool false, .bool false, .bool false, .agg #[.int .i64 s1, .int .i64 s2], .int .i64 p, .bool true, .bool false, .bool false, .int .i64 ↑m, .pointer (some ⟨w.heap.size, 2, none⟩), .slice h.A2 b.surfs.length h.c2, .int .i64 ↑b.surfs.length, .bool true, u84, u85, .tuple #[.int .i64 nn, .int .i64 0], .agg (hx.cells bx), .int .i64 ↑m, .tuple #[.int .i64 nn, .int .i64 0], .int .i64 nn, .int .i64 0, .pointer (some ⟨w.heap.size, 2, none⟩), .slice (some ad) b.surfs.length h.c2, .int .i64 ↑m, .pointer (some (ad.add (m * 4))), .pointer (some ((ad.add (m * 4)).add 2)), .agg #[.int .i64 u0, .int .i64 v0], .slice A l.length c, .int .i64 ↑m, .int .i64 (2 * (m : Int)), .int .i64 (2 * (m : Int) + 3), .int .i64 it, .int .i64 d, (if bb 0 then .int .i64 p else u104), (if bb 1 then .agg (h.cells b) else u105), (if bb 2 then .int .i64 ↑m else u106), (if bb 3 then .slice A l.length c else u107), (if bb 4 then .int .i64 r else u108), (if bb 5 then .int .i64 (p + r) else u109), (if bb 6 then .int .i64 d else u110), (if bb 7 then .int .i64 (p + r - d) else u111), (if bb 8 then .pointer (some ⟨w.heap.size, 3, none⟩) else u112), (if bb 9 then .int .i64 b.need else u113), (if bb 10 then .bool (decide (b.need ≤ p + r - d)) else u114), u115, u116, u117, u118, u119, u120, u121, u122, u123, u124, u125, u126, u127, u128, u129, u130, u131, u132, u133, u134, u135, u136, u137, u138, u139, u140, u141, u142, u143, u144, u145, u146, u147, u148, u149, u150, u151, u152, u153, u154, u155, u156, u157, undef], []⟩ ∧ TrEnd w h b hx bx g5 wq) ?_ ?_ ?_
            · exact ⟨by simp, by simpa using HX7.out.on (Below.refl _ _).drew⟩
            · intro i hil bb a wq hI hbi hcame
              obtain ⟨rfl, hst⟩ := hI
              rcases i with _ | _ | _ | _ | _ | _ | _ | _ | _ | _ | _ | _ | i
              · refine op_value rfl rfl (x_assign (.inr rfl)) ⟨by simp [Act.put, Act.eval, upd], ?_⟩
                simpa [upd] using hst
              · refine op_value rfl rfl (x_load (g := w.heap.size) rfl rfl hst.o.b1 Tryd.underlying27 rfl i27) ⟨by simp [Act.put, Act.eval, upd], ?_⟩
                simpa [upd] using hst
              · refine op_value rfl rfl (x_assign (.inr rfl)) ⟨by simp [Act.put, Act.eval, upd], ?_⟩
                simpa [upd] using hst
              · refine op_value rfl rfl (x_assign (.inr rfl)) ⟨by simp [Act.put, Act.eval, upd], ?_⟩
                simpa [upd] using hst
              · have hh := hcame
                simp [Came, Region.binds] at hh
                refine op_call rfl rfl (run_call Tryd.func23 (by kernel_rfl) rfl rfl rfl (args := #[.agg (h.cells b), .int .i64 m, .slice A l.length c]) (by simp [Act.eval, hh])) ((rub_at (hb.below hst.o.below) HXS.out hu1 (Kd.C_below HLR.out hst.o.below) HLC.out (k := (m : Int)) (by omega) (by omega) HR.out).mono ?_)
                rintro e w5 ⟨rfl, hb5⟩
                refine ⟨_, rfl, by simp [Act.put, upd, hh], ?_⟩
                simpa [upd] using hst.on hb5
              · have hh := hcame
                simp [Came, Region.binds] at hh
                refine op_value rfl rfl (x_add3 (x := .tmp 104) (y := .tmp 108) (i := p) (j := r) rfl (by simp [Act.eval, hh]) (by simp [Act.eval, hh]) HB1.out.1 HB1.out.2.1) ⟨by simp [Act.put, Act.eval, upd, hh], ?_⟩
                simpa [upd] using hst
              · refine op_value rfl rfl (x_assign (.inr rfl)) ⟨by simp [Act.put, Act.eval, upd], ?_⟩
                simpa [upd] using hst
              · have hh := hcame
                simp [Came, Region.binds] at hh
                refine op_value rfl rfl (x_sub3 (x := .tmp 109) (y := .tmp 110) (i := p + r) (j := d) rfl (by simp [Act.eval, hh]) (by simp [Act.eval, hh]) HB1.out.2.2.1 HB1.out.2.2.2) ⟨by simp [Act.put, Act.eval, upd, hh], ?_⟩
                simpa [upd] using hst
              · refine op_value rfl rfl (Ops.fld27_3 (g := w.heap.size) rfl rfl) ⟨by simp [Act.put, Act.eval, upd], ?_⟩
                simpa [upd] using hst
              · have hh := hcame
                simp [Came, Region.binds] at hh
                refine op_value rfl rfl (Ops.ld3 (x := .tmp 112) (ad := ⟨w.heap.size, 3, none⟩) (v := b.need) rfl (by simp [Act.eval, hh]) hst.o.c3) ⟨by simp [Act.put, Act.eval, upd, hh], ?_⟩
                simpa [upd] using hst
              · have hh := hcame
                simp [Came, Region.binds] at hh
                refine op_value rfl rfl (Ops.ge3 (x := .tmp 111) (y := .tmp 113) (i := p + r - d) (j := b.need) rfl (by simp [Act.eval, hh]) (by simp [Act.eval, hh])) ⟨by simp [Act.put, Act.eval, upd, hh], ?_⟩
                simpa [upd] using hst
              · have hh := hcame
                simp [Came, Region.binds] at hh
                refine op_value rfl rfl (x_assign (.inl rfl)) ⟨by simp [Act.put, Act.eval, upd, hh], ?_⟩
                simpa [upd] using hst
              · simp at hil; omega
            · intro bb a wf hI hall
              obtain ⟨rfl, hst⟩ := hI
              refine hK _ _ ?_
              simp only [hall 0 (by simp), hall 1 (by simp), hall 2 (by simp), hall 3 (by simp), hall 4 (by simp), hall 5 (by simp), hall 6 (by simp), hall 7 (by simp), hall 8 (by simp), hall 9 (by simp), hall 10 (by simp), hall 11 (by simp), if_true]
              have HX8 := Lib.hid hst
              clear hall hK hst
              obtain ⟨q0, q1, q2, q3, q4⟩ := HFF.out
              have z0 : ((0 : Int) == 0) = true := rfl
              have f0 : inB 0 0 2 = true := rfl
              have f1 : inB 1 0 2 = true := rfl
              have f2 : inB 2 0 2 = true := rfl
              clear HFF HB1 HD HR HIT HU HV HN HAD HXS
              rcases q1 with rfl | rfl | rfl
              · have hl : decide (b.need ≤ p + r - d) = false := decide_eq_false (by have := q3 rfl; omega)
                rw [hl]
                cases sf with
                | false =>
                  clear q0 q2 q3 q4 hl f1 f2
                  go_wp2_with (first | (go_at_call 24; refine (fits_calls _ _ _ _).mono ?_; rintro e2 w8 ⟨rfl, hb8⟩; have HX9 := Lib.hid (HX8.out.on hb8); clear hb8))
                  go_roundw
                  case rel => exact ⟨m + 1, by omega, by simp, ⟨HX9.out⟩⟩
                  case measure => simp [intOf]; omega
                | true =>
                  have hm0 : m ≠ 0 := fun e => by have := (q4 rfl).1 e; cases this
                  have e0 : ((m : Int) == 0) = false := beq_eq_false_iff_ne.2 (by omega)
                  have e1 : decide (0 < (m : Int)) = true := decide_eq_true (by omega)
                  clear q0 q2 q3 q4 hl f1 f2
                  go_wp2_with (first | (go_at_call 24; refine (fits_calls _ _ _ _).mono ?_; rintro e2 w8 ⟨rfl, hb8⟩; have HX9 := Lib.hid (HX8.out.on hb8); clear hb8))
                  go_roundw
                  case rel => exact ⟨m + 1, by omega, by simp, ⟨HX9.out⟩⟩
                  case measure => simp [intOf]; omega
              · cases sf with
                | false =>
                  clear q0 q2 q3 q4 f0 f2
                  go_wp2_with (first | (go_at_call 24; refine (fits_calls _ _ _ _).mono ?_; rintro e2 w8 ⟨rfl, hb8⟩; have HX9 := Lib.hid (HX8.out.on hb8); clear hb8))
                  go_roundw
                  case rel => exact ⟨m + 1, by omega, by simp, ⟨HX9.out⟩⟩
                  case measure => simp [intOf]; omega
                | true =>
                  exfalso
                  by_cases e : m = 0
                  · have := (q4 rfl).1 e
                    cases this
                  · have := (q4 rfl).2 e
                    cases this
              · have hl : decide (b.need ≤ p + r - d) = true := decide_eq_true (q2 rfl)
                rw [hl]
                cases sf with
                | false =>
                  clear q0 q2 q3 q4 hl f0 f1
                  go_wp2_with (first | (go_at_call 24; refine (fits_calls _ _ _ _).mono ?_; rintro e2 w8 ⟨rfl, hb8⟩; have HX9 := Lib.hid (HX8.out.on hb8); clear hb8))
                  go_roundw
                  case rel => exact ⟨m + 1, by omega, by simp, ⟨HX9.out⟩⟩
                  case measure => simp [intOf]; omega
                | true =>
                  obtain rfl : m = 0 := Classical.byContradiction fun e => by have := (q4 rfl).2 e; cases this
                  clear q0 q2 q3 q4 hl f0 f1
                  go_wp2_with (first | (go_at_call 24; refine (fits_calls _ _ _ _).mono ?_; rintro e2 w8 ⟨rfl, hb8⟩; have HX9 := Lib.hid (HX8.out.on hb8); clear hb8))
                  go_roundw
                  case rel => exact ⟨1, by omega, by simp, ⟨HX9.out⟩⟩
                  case measure => simp [intOf]; omega
        · obtain rfl : m = b.surfs.length := by omega
          go_wp2_with (first | (go_at_call 12; refine (rubbed_calls (HG.out.below HX.out.o.below)).mono ?_; rintro e2 w9 ⟨rfl, hb9⟩; have HB9 := Lib.hid (below_step HX.out.o.below hb9); clear hb9))
          go_ret
          exact ⟨rfl, HB9.out⟩
end Go.Proofs.YtghpoldlddghjaaDoor
namespace Go.Proofs.YtghpoldlddghjaaDoor.pasteTrue
open Go Go.ChangeShapes Go.WideShapes Go.ChangeAt Go.RowKit
open Go.Proofs.YtghpoldlddghjaaDoorW.PrintWords Go.Proofs.YtghpoldlddghjaaDoorW.PrintMore Go.Proofs.YtghpoldlddghjaaDoor.PPasteTrue
set_option maxRecDepth 100000 in
theorem contract (H : Type) (enc : TypeId × Value → H) (W : World) (base : Nat) (args : Array Value) (ds gs : List (DataW H)) (before : List MemPlace)
    (hval : ∀ (j : Nat) t v, Tryd.f3.params[j]? = some t → args[j]? = some v → Value.okWide Tryd.prog W .any base t v)
    (hW : DataW.Whole enc Tryd.prog Tryd.f3.params.toList Rows.pasteTrueSpec.vars false W args.toList ds gs before) (hL : laidMetH Tryd.prog Rows.pasteTrueRow.laid W) :
    Calls Tryd.prog 3 args W fun e W' => ∃ v, e = .returned v ∧ Rows.pasteTrueSpec.post enc Tryd.prog Tryd.f3 false true false false W args v W' := by
  have hW' := hW
  obtain ⟨p, q, hA0, hV, rfl, hfz, hnd⟩ := hW
  have hA : DataW.TrodAll enc Tryd.prog W 0 (fun _ => true) true Tryd.f3.params.toList args.toList ds p := hA0
  rw [Tryd.params3] at hA hval
  obtain ⟨v0, vs0, d0, ds0, p0, q0, hargs, rfl, rfl, h0, r0⟩ := trodAll_cons hA
  obtain ⟨v1, vs1, d1, ds1, p1, q1, rfl, rfl, rfl, h1, r1⟩ := trodAll_cons r0
  obtain ⟨rfl, rfl, rfl⟩ := trodAll_nil r1
  obtain rfl : args = #[v0, v1] := by cases args; simp_all
  obtain ⟨rfl, rfl⟩ := trodVars_none hV
  have k0 := h0
  have lt0 : ∀ x ∈ p0, x.block < W.heap.size := by obtain ⟨m, hm⟩ := k0; exact DataW.trod_lt m _ _ _ hm
  obtain ⟨hh, b, rfl, hb⟩ := open27 (hval 0 27 v0 rfl rfl) h0
  have k1 := h1
  have lt1 : ∀ x ∈ p1, x.block < W.heap.size := by obtain ⟨m, hm⟩ := k1; exact DataW.trod_lt m _ _ _ hm
  obtain ⟨A1, c1, l1, rfl, hl1, hr1⟩ := openInts (hval 1 28 v1 rfl rfl) h1
  clear hA0 hval
  refine (pasteTrue_calls (asks_of_laid hL) hb hr1 hl1).mono fun e W' ⟨he, bel⟩ => ?_
  subst he
  exact ⟨_, rfl, _, _, _, [], _, [], hW', trodAll_mk1 (shut_bool Tryd.underlying4 _), (trodAll_cons_mk (Below.trod laidOut (by kernel_rfl) (of_decide_eq_true (by kernel_rfl)) k0 bel lt0) (trodAll_cons_mk (Below.trod laidOut (by kernel_rfl) (of_decide_eq_true (by kernel_rfl)) k1 bel lt1) trodAll_mk0)), rfl, bel.frame _, fun h => by cases h⟩
theorem reads (os : Os) {H : Type} (enc : TypeId × Value → H) : ∃ places, DataW.whole enc Tryd.prog ((World.doorLaid Tryd.prog 600 os).forCall (fun _ _ => 0) ⟨#[], #[.agg #[.slice none 0 0, .slice none 0 0, .slice none 0 0, .int .i64 0, .slice none 0 0], .slice none 0 0], []⟩).memory Tryd.f3.params.toList Rows.pasteTrueSpec.vars false (#[.agg #[.slice none 0 0, .slice none 0 0, .slice none 0 0, .int .i64 0, .slice none 0 0], .slice none 0 0] : Array Value).toList 8 = some ([.agg [.nil, .nil, .nil, .lit (.int .i64 0), .nil], .nil], [], places) :=
  ⟨[], by kernel_rfl⟩
set_option maxRecDepth 100000 in
theorem lifted (os : Os) (started : os.Started) (H : Type) (enc : TypeId × Value → H) (F : Stop.Interp) :
    ReturnsInHanded {} Tryd.checked os 3 .any ((OpenSpec.ofChange Rows.pasteTrueSpec).preRow enc Tryd.prog Tryd.f3 Rows.pasteTrueRow.domain false Rows.pasteTrueRow.laid) (((OpenSpec.ofChange Rows.pasteTrueSpec).at F).post enc Tryd.prog Tryd.f3 false true false false) := by
  obtain ⟨places, hx⟩ := reads os enc
  refine returnsInHanded_of_row (C := Tryd.checked) (s := OpenSpec.ofChange Rows.pasteTrueSpec) own started (by kernel_rfl) Tryd.func3
    (witness_row_atRef (enc := enc) (C := Tryd.checked) false (World.doorLaid Tryd.prog 600 os) #[.agg #[.slice none 0 0, .slice none 0 0, .slice none 0 0, .int .i64 0, .slice none 0 0], .slice none 0 0] rfl (by kernel_rfl) (by kernel_rfl) (by kernel_rfl)
      (OpenSpec.preRow_of_cond 8 hx (by kernel_rfl) (fun k hk => by cases hk) (by kernel_rfl) (door_met os _))) ?_
  intro W base args ds gs before hval hW _ _ _ hL _ _
  exact contract H enc W base args ds gs before hval hW hL
theorem said : Rows.PasteTrueSaid :=
  OpenClaim.holds_of_cond 3 Tryd.f3 rfl rfl rfl rfl rfl rfl rfl ⟨rfl, rfl, rfl, rfl, rfl⟩ rfl rfl rfl rfl rfl (by kernel_rfl) Tryd.func3 (by kernel_rfl)
    (of_decide_eq_true (by kernel_rfl)) (by unfold Func.isWrapper; first | (rw [if_pos (by decide +kernel)]; kernel_rfl) | (rw [if_neg (by decide +kernel)]; exact ⟨rfl, rfl⟩))
    (fun os started H enc _ F => by rw [OpenClaim.pre_eq_preRow]; exact lifted os started H enc F)
theorem plain (f : FuncId) (fn : Func) (hf : Tryd.pinned.checked.prog.funcNamed "lucifer/luciferlaw02.PasteTrue" = some f) (hfn : Tryd.pinned.checked.prog.funcs[f]? = some fn) :
    false = Tryd.pinned.checked.prog.looks [] ∧ ∀ (j : Nat) t, fn.params[j]? = some t → Tryd.pinned.checked.prog.wantsStandIn t = false := by
  obtain rfl : f = 3 := Option.some.inj ((show Tryd.prog.funcNamed "lucifer/luciferlaw02.PasteTrue" = some 3 by kernel_rfl).symm.trans hf) |>.symm
  obtain rfl : fn = Tryd.f3 := (Option.some.inj (Tryd.func3.symm.trans hfn)).symm
  refine ⟨by kernel_rfl, fun j t ht => ?_⟩
  rw [Tryd.params3] at ht
  have w0 : Tryd.prog.wantsStandIn 27 = false := by kernel_rfl
  have w1 : Tryd.prog.wantsStandIn 28 = false := by kernel_rfl
  have hm : t = 27 ∨ t = 28 := by simpa using Array.mem_of_getElem? ht
  rcases hm with rfl | rfl
  · exact w0
  · exact w1
theorem card : Rows.PasteTrueCardSaid :=
  Claim7.holds_tied_plain_at .later [] _ _ _ _ said (fun _ h => by cases h) (by kernel_rfl) (fun _ h => by cases h) pasteTrue_row_tie rfl ⟨rfl, rfl⟩ (by kernel_rfl) rfl plain (by kernel_rfl)
end Go.Proofs.YtghpoldlddghjaaDoor.pasteTrue
namespace Go.Proofs.YtghpoldlddghjaaDoor
theorem pasteTrue_card : Rows.PasteTrueCardSaid := pasteTrue.card
end Go.Proofs.YtghpoldlddghjaaDoor
