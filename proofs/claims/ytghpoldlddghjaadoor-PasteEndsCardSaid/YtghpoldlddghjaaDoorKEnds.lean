/- The law PasteEnds: its walk, its row and its card. Conditions: none. -/
import Derived.Test.YtghpoldlddghjaaDoorM4
import Derived.Test.YtghpoldlddghjaaDoorMY
import Derived.Test.YtghpoldlddghjaaDoorMX
import Derived.Test.YtghpoldlddghjaaDoorM3
import Derived.Test.YtghpoldlddghjaaDoorCards
import Derived.Test.YtghpoldlddghjaaDoorTie
import Derived.WalkKit
import Derived.ProofKit
import Derived.OpenShut
import Derived.Deep.DeepHandedRow
import Derived.Deep.DeepWitnessRowRef
set_option linter.unusedVariables false
set_option linter.unusedSimpArgs false
namespace Go.Proofs.YtghpoldlddghjaaDoor
open Go Go.RowKit
open Go.Proofs.YtghpoldlddghjaaDoorW.PrintWords Go.Proofs.YtghpoldlddghjaaDoorW.PrintMore Go.Proofs.YtghpoldlddghjaaDoor.PPasteTrue
theorem right_iff (b : Bk) (p : Int) : rightB b p = true ↔ ∀ j, j < b.surfs.length → (rubs b j p).1 ≤ (rubs b j p).2 := by
  unfold rightB
  rw [List.all_eq_true]
  simp
end Go.Proofs.YtghpoldlddghjaaDoor
namespace Go.Proofs.YtghpoldlddghjaaDoor
open Go Go.RowKit
open Go.Proofs.YtghpoldlddghjaaDoorW.PrintWords Go.Proofs.YtghpoldlddghjaaDoorW.PrintMore Go.Proofs.YtghpoldlddghjaaDoor.PPasteTrue
def Has (wq : World) (l : List (Nat × Int × Int)) : Prop := ∀ x ∈ l, wq.heap[x.1]? = some (.cells #[.int .i64 x.2.1, .int .i64 x.2.2] 39 (0, 0))
theorem Has.below {wq w1 : World} {l : List (Nat × Int × Int)} (s : Has wq l) (hb : Below wq.heap.size wq w1) : Has w1 l := fun x hx => blk_below (s x hx) hb
theorem Has.cons {wq : World} {l : List (Nat × Int × Int)} (s : Has wq l) {g : Nat} {x y : Int} (h : wq.heap[g]? = some (.cells #[.int .i64 x, .int .i64 y] 39 (0, 0))) : Has wq ((g, x, y) :: l) := by
  intro z hz
  rcases List.mem_cons.1 hz with rfl | hz
  · exact h
  · exact s z hz
section
variable {w : World} {h : Hd} {b : Bk} {l : List (Nat × Int × Int)} {hx h' : Hd} {t : S59} {g : Nat} {r : Int × Int} {wq w1 : World} {b3 b4 b8 b9 : Bool}
end
theorem power_at {h : Hd} {x : Bk} {w : World} (hb : BkIn w h x) (hsa : Sane x) {r : Int × Int} {ey : Int} (h1 : kR x = r) (h2 : askE x true = ey) : Calls Tryd.prog 17 #[.agg (h.cells x)] w fun e w' => e = .returned (.tuple #[.agg #[.int .i64 r.1, .int .i64 r.2], .int .i64 ey]) ∧ Below w.heap.size w w' := by
  rw [← h1, ← h2]
  exact Power_calls hb hsa
end Go.Proofs.YtghpoldlddghjaaDoor
namespace Go.Proofs.YtghpoldlddghjaaDoor
open Go Go.RowKit
open Go.Proofs.YtghpoldlddghjaaDoorW.PrintWords Go.Proofs.YtghpoldlddghjaaDoorW.PrintMore Go.Proofs.YtghpoldlddghjaaDoor.PPasteTrue
def itemI (l : List Int) (n : Int) : Int := (luciferref00_Item.f l n).getD 0
theorem item_f (l : List Int) (n : Int) (hl : l.length < 9223372036854775807) : luciferref00_Item.f l n = some (itemI l n) := by
  have key : ∃ x, luciferref00_Item.f l n = some x := by
    unfold luciferref00_Item.f
    by_cases h : (l.length : Int) = 0
    · exact ⟨0, by rw [if_pos h]⟩
    · obtain ⟨h1, h2, h3⟩ := spin_f n l.length (by omega) (by omega)
      exact ⟨_, by rw [if_neg h, h1, Option.bind_some, if_pos h2, if_pos h3]⟩
  obtain ⟨x, hx⟩ := key
  unfold itemI
  rw [hx]
  rfl
def drawnI (lo hi n : Int) : Int := (luciferref00_Drawn.f lo hi n).getD 0
theorem drawn_f (lo hi n : Int) (h0 : 0 ≤ lo) (h1 : lo ≤ hi) (h2 : hi ≤ 1000) : luciferref00_Drawn.f lo hi n = some (drawnI lo hi n) ∧ lo ≤ drawnI lo hi n ∧ drawnI lo hi n ≤ hi := by
  have e1 : wrap64 (wrap64 (hi - lo) + 1) = hi - lo + 1 := by
    rw [show wrap64 (hi - lo) = hi - lo by unfold wrap64; omega]
    unfold wrap64
    omega
  obtain ⟨h3, h4, h5⟩ := spin_f n (hi - lo + 1) (by omega) (by omega)
  have key : luciferref00_Drawn.f lo hi n = some (lo + spinI n (hi - lo + 1)) := by
    unfold luciferref00_Drawn.f
    rw [e1, h3, Option.bind_some, show wrap64 (lo + spinI n (hi - lo + 1)) = lo + spinI n (hi - lo + 1) by unfold wrap64; omega]
  unfold drawnI
  rw [key]
  exact ⟨rfl, by simp only [Option.getD_some]; omega, by simp only [Option.getD_some]; omega⟩
def partsN (bits : List Int) (ss : List S68) (n : Nat) : List Int := (List.range n).map fun (i : Nat) => drawnI (rd_T68 ss i).f1.f0 (rd_T68 ss i).f1.f1 (itemI bits i)
def partsOf (b : Bk) (bits : List Int) : List Int := partsN bits b.salts b.salts.length
theorem partsN_succ (bits : List Int) (ss : List S68) (n : Nat) : partsN bits ss (n + 1) = partsN bits ss n ++ [drawnI (rd_T68 ss n).f1.f0 (rd_T68 ss n).f1.f1 (itemI bits n)] := by
  unfold partsN
  rw [List.range_succ, List.map_append]
  rfl
theorem partsN_len (bits : List Int) (ss : List S68) (n : Nat) : (partsN bits ss n).length = n := by simp [partsN]
theorem fit_iff : ∀ (ss : List S68) (xs : List Int), Fit ss xs ↔ xs.length = ss.length ∧ ∀ i, i < ss.length → (rd_T68 ss (i : Int)).f1.f0 ≤ rd xs (i : Int) ∧ rd xs (i : Int) ≤ (rd_T68 ss (i : Int)).f1.f1
  | [], [] => by simp [Fit]
  | [], x :: xs => by simp [Fit]
  | s :: ss, [] => by simp [Fit]
  | s :: ss, x :: xs => by
    simp only [Fit, fit_iff ss xs, List.length_cons]
    constructor
    · rintro ⟨h1, h2, h3, h4⟩
      refine ⟨by omega, fun i hi => ?_⟩
      rcases i with _ | i
      · exact ⟨h1, h2⟩
      · have := h4 i (by omega)
        simpa [rd_T68, rd] using this
    · rintro ⟨h1, h2⟩
      have h0 := h2 0 (by omega)
      refine ⟨by simpa [rd_T68, rd] using h0.1, by simpa [rd_T68, rd] using h0.2, by omega, fun i hi => ?_⟩
      have := h2 (i + 1) (by omega)
      simpa [rd_T68, rd] using this
theorem rd_partsN {bits : List Int} {ss : List S68} {n i : Nat} (h : i < n) : rd (partsN bits ss n) (i : Int) = drawnI (rd_T68 ss i).f1.f0 (rd_T68 ss i).f1.f1 (itemI bits i) := by
  unfold rd partsN
  rw [List.getD_eq_getElem?_getD, Int.toNat_natCast, List.getElem?_eq_getElem (by simpa using h)]
  simp
theorem fit_parts {b : Bk} (hs : SP b) (bits : List Int) : Fit b.salts (partsOf b bits) := by
  rw [fit_iff]
  refine ⟨partsN_len _ _ _, fun i hi => ?_⟩
  unfold partsOf
  rw [rd_partsN hi]
  have h1 := hs.s _ (rd68_mem hi)
  exact (drawn_f _ _ _ (by omega) (by omega) (by omega)).2
def saltTo (b : Bk) (xs : List Int) (n : Nat) : Int := ((List.range n).map (saltVal b xs)).sum
def pairTo (ps : List S77) (xs : List Int) (n : Nat) : Int := ((ps.take n).map (pairVal xs)).sum
theorem sum_snoc (l : List Int) (x : Int) : (l ++ [x]).sum = l.sum + x := by simp
theorem saltTo_succ (b : Bk) (xs : List Int) (n : Nat) : saltTo b xs (n + 1) = saltTo b xs n + saltVal b xs n := by
  unfold saltTo
  rw [List.range_succ, List.map_append]
  exact sum_snoc _ _
theorem pairTo_succ (ps : List S77) (xs : List Int) {n : Nat} (h : n < ps.length) : pairTo ps xs (n + 1) = pairTo ps xs n + pairVal xs (rd_T77 ps n) := by
  unfold pairTo
  rw [List.take_succ_eq_append_getElem h, List.map_append]
  have : ps[n] = rd_T77 ps (n : Int) := by
    unfold rd_T77
    rw [List.getD_eq_getElem?_getD, Int.toNat_natCast, List.getElem?_eq_getElem h]
    rfl
  rw [this]
  exact sum_snoc _ _
theorem power_to (b : Bk) (xs : List Int) (h : xs.length = b.salts.length) : powerI b xs = saltTo b xs b.salts.length + pairTo b.pairs xs b.pairs.length := by
  unfold powerI saltTo pairTo
  rw [h, List.take_length]
theorem mul_range {a c : Int} (h0 : 0 ≤ a) (h1 : a ≤ 9) (h2 : 0 ≤ c) (h3 : c ≤ 9) : 0 ≤ a * c ∧ a * c ≤ 81 := ⟨Int.mul_nonneg h0 h2, by have := Int.mul_le_mul h1 h3 h2 (by decide : (0 : Int) ≤ 9); omega⟩
theorem saltVal_range {b : Bk} (hs : SP b) {xs : List Int} (hx : ∀ x ∈ xs, 0 ≤ x ∧ x ≤ 9) (i : Nat) : 0 ≤ saltVal b xs i ∧ saltVal b xs i ≤ 81 := by
  unfold saltVal
  have h1 : 0 ≤ rd xs (i : Int) ∧ rd xs (i : Int) ≤ 9 := by
    unfold rd
    rw [List.getD_eq_getElem?_getD]
    cases h : xs[(i : Int).toNat]? with
    | none => simp
    | some x => exact hx x (List.mem_of_getElem? h)
  have h2 : 0 ≤ (rd_T68 b.salts (i : Int)).f0 ∧ (rd_T68 b.salts (i : Int)).f0 ≤ 9 := by
    by_cases hi : i < b.salts.length
    · have := hs.s _ (rd68_mem hi)
      omega
    · unfold rd_T68
      rw [List.getD_eq_getElem?_getD, Int.toNat_natCast, List.getElem?_eq_none (by omega)]
      decide
  exact mul_range h1.1 h1.2 h2.1 h2.2
theorem saltTo_range {b : Bk} (hs : SP b) {xs : List Int} (hx : ∀ x ∈ xs, 0 ≤ x ∧ x ≤ 9) : ∀ n : Nat, 0 ≤ saltTo b xs n ∧ saltTo b xs n ≤ 81 * n
  | 0 => by simp [saltTo]
  | n + 1 => by
    have h1 := saltTo_range hs hx n
    have h2 := saltVal_range hs hx n
    rw [saltTo_succ]
    omega
theorem pairVal_range {b : Bk} (hs : SP b) (xs : List Int) {p : S77} (hp : p ∈ b.pairs) : 0 ≤ pairVal xs p ∧ pairVal xs p ≤ 30 := by
  have := hs.p p hp
  unfold pairVal
  split <;> omega
theorem pairTo_range {b : Bk} (hs : SP b) (xs : List Int) : ∀ n : Nat, n ≤ b.pairs.length → 0 ≤ pairTo b.pairs xs n ∧ pairTo b.pairs xs n ≤ 30 * n
  | 0, _ => by simp [pairTo]
  | n + 1, h => by
    have h1 := pairTo_range hs xs n (by omega)
    have h2 := pairVal_range hs xs (rd77_mem (show n < b.pairs.length by omega))
    rw [pairTo_succ _ _ (by omega)]
    omega
theorem rd_nonneg {xs : List Int} (hx : ∀ x ∈ xs, 0 ≤ x ∧ x ≤ 9) (i : Int) : 0 ≤ rd xs i ∧ rd xs i ≤ 9 := by
  unfold rd
  rw [List.getD_eq_getElem?_getD]
  cases h : xs[i.toNat]? with
  | none => simp
  | some x => exact hx x (List.mem_of_getElem? h)
theorem wrap_id {n m : Int} (h : n = m) (h0 : -1000000 ≤ m) (h1 : m ≤ 1000000) : wrap64 n = m := by subst h; unfold wrap64; omega
theorem mn_pos {a b : Int} (h0 : 0 ≤ a) (h1 : 0 ≤ b) : mn a b > 0 ↔ ¬ (a = 0 ∨ b = 0) := by
  unfold mn
  split <;> omega
theorem mixed_l1 {b : Bk} (hs : SP b) {xs : List Int} (hx : ∀ x ∈ xs, 0 ≤ x ∧ x ≤ 9) (hl : xs.length = b.salts.length) (l2 : List S47) (nd : Int) (l4 : List S59) : ∀ (d m k : Nat) (acc : Int), b.pairs.length = m + d → d < k → 0 ≤ acc → acc ≤ 1000 →
    luciferlaw02_mixed.l1 k (acc + pairTo b.pairs xs m) xs m b.salts b.pairs l2 nd l4 = some (acc + pairTo b.pairs xs b.pairs.length) := by
  intro d
  induction d with
  | zero =>
    intro m k acc hm hk h0 h1
    obtain ⟨k, rfl⟩ : ∃ q, k = q + 1 := ⟨k - 1, by omega⟩
    obtain rfl : m = b.pairs.length := by omega
    simp only [luciferlaw02_mixed.l1]
    rw [if_neg (Int.lt_irrefl _)]
  | succ d ih =>
    intro m k acc hm hk h0 h1
    obtain ⟨k, rfl⟩ : ∃ q, k = q + 1 := ⟨k - 1, by omega⟩
    have hml : m < b.pairs.length := by omega
    have hp := hs.p _ (rd77_mem hml)
    have g1 : (m : Int) < (b.pairs.length : Int) := Int.ofNat_lt.2 hml
    have g2 : 0 ≤ (m : Int) := Int.natCast_nonneg m
    have g3 : (rd_T77 b.pairs (m : Int)).f0 < (xs.length : Int) := by rw [hl]; exact hp.2.1
    have g4 : (rd_T77 b.pairs (m : Int)).f1 < (xs.length : Int) := by rw [hl]; exact hp.2.2.2.1
    have e1 : wrap64 ((m : Int) + 1) = ((m + 1 : Nat) : Int) := wrap_id rfl (by omega) (by have := hs.p1; omega)
    have hmn := mn_pos (rd_nonneg hx (rd_T77 b.pairs (m : Int)).f0).1 (rd_nonneg hx (rd_T77 b.pairs (m : Int)).f1).1
    have := ih (m + 1) k acc (by omega) (by omega) h0 h1
    rw [pairTo_succ b.pairs xs hml] at this
    simp only [luciferlaw02_mixed.l1]
    rw [if_pos g1, if_pos g2, if_pos hp.1, if_pos g3, if_pos hp.2.2.1, if_pos g4, e1]
    by_cases hc : mn (rd xs (rd_T77 b.pairs (m : Int)).f0) (rd xs (rd_T77 b.pairs (m : Int)).f1) > 0
    · rw [if_pos hc]
      have hpv : pairVal xs (rd_T77 b.pairs (m : Int)) = (rd_T77 b.pairs (m : Int)).f2 := by unfold pairVal; rw [if_neg (hmn.1 hc)]
      rw [hpv] at this
      have hw : wrap64 (acc + pairTo b.pairs xs m + (rd_T77 b.pairs (m : Int)).f2) = acc + (pairTo b.pairs xs m + (rd_T77 b.pairs (m : Int)).f2) := by
        have hr := pairTo_range hs xs m (by omega)
        have hp1 := hs.p1
        clear this hmn hc hpv e1 ih
        exact wrap_id (Int.add_assoc _ _ _) (by omega) (by omega)
      rw [hw]
      exact this
    · rw [if_neg hc]
      have hpv : pairVal xs (rd_T77 b.pairs (m : Int)) = 0 := by
        unfold pairVal
        rw [if_pos]
        exact Classical.byContradiction fun h => hc (hmn.2 h)
      rw [hpv, Int.add_zero] at this
      exact this
theorem mixed_l0 {b : Bk} (hs : SP b) (bits : List Int) (hb : bits.length < 9223372036854775807) (l2 : List S47) (nd : Int) (l4 : List S59) : ∀ (d m k : Nat), b.salts.length = m + d → d + b.pairs.length + 1 < k →
    luciferlaw02_mixed.l0 k bits (saltTo b (partsOf b bits) m) (partsN bits b.salts m) m b.salts b.pairs l2 nd l4 = some (powerI b (partsOf b bits)) := by
  have hfit := fit_parts hs bits
  have hx := hfit.small hs.s
  have hln : (partsOf b bits).length = b.salts.length := partsN_len _ _ _
  intro d
  induction d with
  | zero =>
    intro m k hm hk
    obtain ⟨k, rfl⟩ : ∃ q, k = q + 1 := ⟨k - 1, by omega⟩
    have hr := saltTo_range hs hx m
    have hs1 := hs.s1
    have := mixed_l1 hs hx hln l2 nd l4 b.pairs.length 0 k (saltTo b (partsOf b bits) m) (by omega) (by omega) hr.1 (by omega)
    rw [show pairTo b.pairs (partsOf b bits) 0 = 0 by simp [pairTo], Int.add_zero] at this
    obtain rfl : m = b.salts.length := by omega
    simp only [luciferlaw02_mixed.l0]
    rw [if_neg (Int.lt_irrefl _), power_to b _ hln]
    exact this
  | succ d ih =>
    intro m k hm hk
    obtain ⟨k, rfl⟩ : ∃ q, k = q + 1 := ⟨k - 1, by omega⟩
    have hml : m < b.salts.length := by omega
    have hsm := hs.s _ (rd68_mem hml)
    have g1 : (m : Int) < (b.salts.length : Int) := Int.ofNat_lt.2 hml
    have g2 : 0 ≤ (m : Int) := Int.natCast_nonneg m
    have hle : (partsN bits b.salts m).length < 17592186044416 := by rw [partsN_len]; have := hs.s1; omega
    have hv := saltVal_range hs hx m
    have hd := (drawn_f (rd_T68 b.salts (m : Int)).f1.f0 (rd_T68 b.salts (m : Int)).f1.f1 (itemI bits m) hsm.2.2.1 hsm.2.2.2.1 (by have := hsm.2.2.2.2; omega)).1
    have hsv : drawnI (rd_T68 b.salts (m : Int)).f1.f0 (rd_T68 b.salts (m : Int)).f1.f1 (itemI bits m) * (rd_T68 b.salts (m : Int)).f0 = saltVal b (partsOf b bits) m := by
      unfold saltVal partsOf
      rw [rd_partsN hml]
    have w1 : wrap64 (saltVal b (partsOf b bits) m) = saltVal b (partsOf b bits) m := by
      clear hd hsv ih
      exact wrap_id rfl (by omega) (by omega)
    have w2 : wrap64 (saltTo b (partsOf b bits) m + saltVal b (partsOf b bits) m) = saltTo b (partsOf b bits) (m + 1) := by
      clear hd hsv ih w1
      rw [saltTo_succ]
      have hr := saltTo_range hs hx m
      have hs1 := hs.s1
      exact wrap_id rfl (by omega) (by omega)
    have := ih (m + 1) k (by clear w1 w2 hd hsv ih; omega) (by clear w1 w2 hd hsv ih; omega)
    have e1 : wrap64 ((m : Int) + 1) = ((m + 1 : Nat) : Int) := wrap_id rfl (by clear w1 w2 hd hsv ih this; omega) (by clear w1 w2 hd hsv ih this; have := hs.s1; omega)
    simp only [luciferlaw02_mixed.l0]
    rw [if_pos g1, if_pos g2, item_f bits m hb, Option.bind_some, hd, Option.bind_some, if_pos hle, hsv, e1, ← partsN_succ, w1, w2]
    exact this
theorem mixed_f {b : Bk} (hs : SP b) (bits : List Int) (hb : bits.length < 9223372036854775807) : luciferlaw02_mixed.f 12 b.salts b.pairs b.surfs b.need b.trials bits = some (powerI b (partsOf b bits)) := by
  have h1 := hs.s1
  have h2 := hs.p1
  have := mixed_l0 hs bits hb b.surfs b.need b.trials b.salts.length 0 12 (by omega) (by omega)
  unfold luciferlaw02_mixed.f
  rw [show saltTo b (partsOf b bits) 0 = 0 by simp [saltTo], show partsN bits b.salts 0 = [] by simp [partsN]] at this
  exact this
theorem mixed_calls {h : Hd} {b : Bk} {w : World} (hb : BkIn w h b) (hs : SP b) {A : Option Addr} {c : Nat} {l : List Int} (hr : Kd.C (Kd.int .i64) w A l.length l) (hc : l.length ≤ c) (hl : l.length < 9223372036854775807) :
    Calls Tryd.prog 14 #[.agg (h.cells b), .slice A l.length c] w fun e w' => e = .returned (.int .i64 (powerI b (partsOf b l))) ∧ Below w.heap.size w w' :=
  luciferlaw02_mixed.calls 12 _ _ _ _ _ _ _ _ _ _ _ _ _ _ _ _ _ w hb.r0 hb.l0 hb.r1 hb.l1 hb.r2 hb.l2 hb.r4 hb.l4 hr hc (mixed_f hs l hl)
def endI (s : S39) (most : Bool) : Int := if most = true then s.f1 else s.f0
def endS (s : S39) (most : Bool) : S39 := ⟨endI s most, endI s most⟩
def knSalt (most : Bool) (x : S68) : S68 := ⟨x.f0, endS x.f1 most⟩
def knSurf (most : Bool) (y : S47) : S47 := ⟨endS y.f0 most, endS y.f1 (!most)⟩
def knB (b : Bk) (most : Bool) : Bk := ⟨b.salts.map (knSalt most), b.pairs, b.surfs.map (knSurf most), b.need, []⟩
def endL (ss : List S68) (most : Bool) : List Int := ss.map fun x => endI x.f1 most
theorem endI_range {s : S39} {n : Int} (h0 : 0 ≤ s.f0) (h1 : s.f0 ≤ s.f1) (h2 : s.f1 ≤ n) (most : Bool) : s.f0 ≤ endI s most ∧ endI s most ≤ s.f1 := by
  unfold endI
  split <;> omega
theorem fit_kn : ∀ (ss : List S68) (most : Bool) (xs : List Int), Fit (ss.map (knSalt most)) xs ↔ xs = endL ss most
  | [], _, [] => by simp [Fit, endL]
  | [], _, x :: xs => by simp [Fit, endL]
  | s :: ss, _, [] => by simp [Fit, endL]
  | s :: ss, most, x :: xs => by
    have ih := fit_kn ss most xs
    simp only [List.map_cons, Fit, ih]
    show (endI s.f1 most ≤ x ∧ x ≤ endI s.f1 most ∧ _) ↔ x :: xs = endI s.f1 most :: endL ss most
    rw [List.cons.injEq]
    constructor
    · rintro ⟨h1, h2, h3⟩
      exact ⟨by omega, h3⟩
    · rintro ⟨h1, h3⟩
      exact ⟨by omega, by omega, h3⟩
theorem fit_end : ∀ (ss : List S68) (most : Bool), (∀ x ∈ ss, x.f1.f0 ≤ x.f1.f1) → Fit ss (endL ss most)
  | [], _, _ => trivial
  | s :: ss, most, h => by
    have h1 := h s (by simp)
    refine ⟨?_, ?_, fit_end ss most (fun x hx => h x (by simp [hx]))⟩
    · show s.f1.f0 ≤ endI s.f1 most
      unfold endI
      split <;> omega
    · show endI s.f1 most ≤ s.f1.f1
      unfold endI
      split <;> omega
theorem fit_between : ∀ (ss : List S68) (xs : List Int), Fit ss xs → ∀ i : Nat, (endL ss false).getD i 0 ≤ xs.getD i 0 ∧ xs.getD i 0 ≤ (endL ss true).getD i 0
  | [], [], _, i => by simp [endL]
  | s :: ss, x :: xs, h, i => by
    rcases i with _ | i
    · exact ⟨h.1, h.2.1⟩
    · exact fit_between ss xs h.2.2 i
theorem sum_mono (f g : Nat → Int) (h : ∀ i, f i ≤ g i) : ∀ l : List Nat, (l.map f).sum ≤ (l.map g).sum
  | [] => by simp
  | x :: l => by
    have h1 := sum_mono f g h l
    have h2 := h x
    simp only [List.map_cons, List.sum_cons]
    omega
theorem psum_mono (f g : S77 → Int) : ∀ l : List S77, (∀ p ∈ l, f p ≤ g p) → (l.map f).sum ≤ (l.map g).sum
  | [], _ => by simp
  | x :: l, h => by
    have h1 := psum_mono f g l (fun p hp => h p (by simp [hp]))
    have h2 := h x (by simp)
    simp only [List.map_cons, List.sum_cons]
    omega
theorem rd68_power {b : Bk} (hs : SP b) (i : Nat) : 0 ≤ (rd_T68 b.salts (i : Int)).f0 := by
  by_cases hi : i < b.salts.length
  · have := hs.s _ (rd68_mem hi)
    omega
  · unfold rd_T68
    rw [List.getD_eq_getElem?_getD, Int.toNat_natCast, List.getElem?_eq_none (by omega)]
    decide
theorem power_mono {b : Bk} (hs : SP b) {xs ys : List Int} (hx : ∀ x ∈ xs, 0 ≤ x ∧ x ≤ 9) (hl : xs.length = ys.length) (h : ∀ i : Nat, xs.getD i 0 ≤ ys.getD i 0) : powerI b xs ≤ powerI b ys := by
  unfold powerI
  rw [hl]
  have h1 := sum_mono (saltVal b xs) (saltVal b ys) (fun i => by
    unfold saltVal rd
    exact Int.mul_le_mul_of_nonneg_right (h _) (rd68_power hs i)) (List.range ys.length)
  have h2 := psum_mono (pairVal xs) (pairVal ys) b.pairs (fun p hp => by
    have hq := hs.p p hp
    have n0 := rd_nonneg hx p.f0
    have n1 := rd_nonneg hx p.f1
    have m0 := h p.f0.toNat
    have m1 := h p.f1.toNat
    unfold pairVal
    have e0 : rd xs p.f0 ≤ rd ys p.f0 := m0
    have e1 : rd xs p.f1 ≤ rd ys p.f1 := m1
    split <;> split <;> omega)
  omega
theorem power_salts (b c : Bk) (hp : c.pairs = b.pairs) (hf : ∀ i : Nat, (rd_T68 c.salts (i : Int)).f0 = (rd_T68 b.salts (i : Int)).f0) (xs : List Int) : powerI c xs = powerI b xs := by
  unfold powerI
  rw [hp, show saltVal c xs = saltVal b xs from funext fun i => by unfold saltVal; rw [hf i]]
theorem kn_power (b : Bk) (most : Bool) (xs : List Int) : powerI (knB b most) xs = powerI b xs := by
  refine power_salts b (knB b most) rfl (fun i => ?_) xs
  show (rd_T68 (b.salts.map (knSalt most)) (i : Int)).f0 = _
  unfold rd_T68
  rw [List.getD_eq_getElem?_getD, List.getD_eq_getElem?_getD, List.getElem?_map]
  cases b.salts[(i : Int).toNat]? <;> rfl
def endP (b : Bk) (most : Bool) : Int := powerI b (endL b.salts most)
theorem end_fit {b : Bk} (hs : SP b) (most : Bool) : Fit b.salts (endL b.salts most) := fit_end _ _ (fun x hx => by have := hs.s x hx; omega)
theorem pws_kn (b : Bk) (most : Bool) (p : Int) : p ∈ pws (knB b most) ↔ p = endP b most := by
  rw [mem_pws]
  show (∃ xs, Fit (b.salts.map (knSalt most)) xs ∧ _) ↔ _
  simp only [fit_kn, kn_power]
  constructor
  · rintro ⟨xs, rfl, rfl⟩
    rfl
  · rintro rfl
    exact ⟨_, rfl, rfl⟩
theorem pws_ends {b : Bk} (hs : SP b) {p : Int} (hp : p ∈ pws b) : endP b false ≤ p ∧ p ≤ endP b true := by
  obtain ⟨xs, hf, rfl⟩ := mem_pws.1 hp
  have hb := fit_between _ _ hf
  have hl : ∀ m, (endL b.salts m).length = b.salts.length := by simp [endL]
  exact ⟨power_mono hs ((end_fit hs false).small hs.s) ((hl _).trans hf.len.symm) (fun i => (hb i).1), power_mono hs (hf.small hs.s) (hf.len.trans (hl _).symm) (fun i => (hb i).2)⟩
theorem end_pws {b : Bk} (hs : SP b) (most : Bool) : endP b most ∈ pws b := mem_pws.2 ⟨_, end_fit hs most, rfl⟩
theorem sp_kn {b : Bk} (hs : SP b) (most : Bool) : SP (knB b most) := by
  have hl : (knB b most).salts.length = b.salts.length := by simp [knB]
  refine ⟨by rw [hl]; exact hs.s1, hs.p1, fun x hx => ?_, fun p hp => by rw [hl]; exact hs.p p hp, hs.d⟩
  have hx' : x ∈ b.salts.map (knSalt most) := hx
  obtain ⟨y, hy, rfl⟩ := List.mem_map.1 hx'
  have h1 := hs.s y hy
  have h2 := endI_range (n := 9) (s := y.f1) (by omega) (by omega) (by omega) most
  show 0 ≤ y.f0 ∧ y.f0 ≤ 9 ∧ 0 ≤ endI y.f1 most ∧ endI y.f1 most ≤ endI y.f1 most ∧ endI y.f1 most ≤ 9
  omega
theorem rd47_map (xs : List S47) (f : S47 → S47) {j : Nat} (h : j < xs.length) : rd_T47 (xs.map f) (j : Int) = f (rd_T47 xs (j : Int)) := by
  unfold rd_T47
  rw [List.getD_eq_getElem?_getD, List.getD_eq_getElem?_getD, List.getElem?_map, Int.toNat_natCast, List.getElem?_eq_getElem h]
  rfl
theorem rubs_none {b : Bk} (h : b.trials = []) (j : Nat) (p : Int) : rubs b j p = ((rd_T47 b.surfs j).f0.f0, (rd_T47 b.surfs j).f0.f1) := by
  unfold rubs rubF
  rw [h]
  rfl
def Spans (b : Bk) : Prop := ∀ x ∈ b.surfs, 0 ≤ x.f0.f0 ∧ x.f0.f0 ≤ x.f0.f1 ∧ x.f0.f1 ≤ 200 ∧ 0 ≤ x.f1.f0 ∧ x.f1.f0 ≤ x.f1.f1 ∧ x.f1.f1 ≤ 200
theorem right_none {b : Bk} (h : b.trials = []) (hs : Spans b) (p : Int) : rightB b p = true := by
  rw [right_iff]
  intro j hj
  rw [rubs_none h]
  have := hs _ (rd47_mem (xs := b.surfs) (i := (j : Int)) (by omega) (by omega))
  exact this.2.1
theorem trs_none {b : Bk} (h : b.trials = []) (hs : Spans b) (p : Int) : p ∈ trs b ↔ p ∈ pws b := by
  rw [mem_trs]
  exact ⟨fun x => x.1, fun x => ⟨x, right_none h hs p⟩⟩
theorem spans_kn {b : Bk} (hs : Spans b) (most : Bool) : Spans (knB b most) := by
  intro x hx
  have hx' : x ∈ b.surfs.map (knSurf most) := hx
  obtain ⟨y, hy, rfl⟩ := List.mem_map.1 hx'
  have h1 := hs y hy
  have h2 := endI_range (n := 200) (s := y.f0) (by omega) (by omega) (by omega) most
  have h3 := endI_range (n := 200) (s := y.f1) (by omega) (by omega) (by omega) (!most)
  show 0 ≤ endI y.f0 most ∧ endI y.f0 most ≤ endI y.f0 most ∧ endI y.f0 most ≤ 200 ∧ 0 ≤ endI y.f1 (!most) ∧ endI y.f1 (!most) ≤ endI y.f1 (!most) ∧ endI y.f1 (!most) ≤ 200
  omega
theorem spans_bare {b : Bk} (hs : Spans b) : Spans b.bare := hs
theorem check_bare {b : Bk} (hc : checkB b = true) : checkB b.bare = true := by
  unfold checkB headB at hc ⊢
  simp only [Bool.and_eq_true, decide_eq_true_eq, List.all_eq_true, List.mem_range] at hc ⊢
  obtain ⟨⟨⟨⟨⟨a1, a2, a3, a4, a5⟩, hs⟩, hp⟩, hx⟩, ht⟩ := hc
  exact ⟨⟨⟨⟨⟨a1, a2, a3, a4, by show ((0 : Nat) : Int) ≤ 6; omega⟩, hs⟩, hp⟩, hx⟩, fun x hm => by cases hm⟩
theorem check_kn {b : Bk} (hc : checkB b = true) (most : Bool) : checkB (knB b most) = true := by
  unfold checkB headB at hc ⊢
  simp only [Bool.and_eq_true, decide_eq_true_eq, List.all_eq_true, List.mem_range] at hc ⊢
  obtain ⟨⟨⟨⟨⟨a1, a2, a3, a4, a5⟩, hs⟩, hp⟩, hx⟩, ht⟩ := hc
  have hl0 : (knB b most).salts.length = b.salts.length := by simp [knB]
  have hl2 : (knB b most).surfs.length = b.surfs.length := by simp [knB]
  refine ⟨⟨⟨⟨⟨by rw [hl0]; exact a1, a2, by rw [hl2]; exact a3, a4, by show ((0 : Nat) : Int) ≤ 6; omega⟩, ?_⟩, ?_⟩, ?_⟩, fun x hm => by cases hm⟩
  · intro x hm
    have hm' : x ∈ b.salts.map (knSalt most) := hm
    obtain ⟨y, hy, rfl⟩ := List.mem_map.1 hm'
    have h1 := hs y hy
    unfold saltB at h1 ⊢
    simp only [Bool.and_eq_true, decide_eq_true_eq, inB_iff, spanB_iff] at h1 ⊢
    have h2 := endI_range (n := 9) (s := y.f1) (by omega) (by omega) (by omega) most
    refine ⟨h1.1, ⟨?_, ?_, ?_⟩, ?_⟩
    · show 0 ≤ endI y.f1 most; omega
    · show endI y.f1 most ≤ endI y.f1 most; omega
    · show endI y.f1 most ≤ 9; omega
    · show wrap64 (endI y.f1 most - endI y.f1 most) ≤ 3
      unfold wrap64
      omega
  · intro i hi
    have h1 := hp i hi
    unfold pairB at h1 ⊢
    rw [hl0]
    exact h1
  · intro x hm
    have hm' : x ∈ b.surfs.map (knSurf most) := hm
    obtain ⟨y, hy, rfl⟩ := List.mem_map.1 hm'
    have h1 := hx y hy
    unfold surfB at h1 ⊢
    simp only [Bool.and_eq_true, spanB_iff] at h1 ⊢
    have h2 := endI_range (n := 200) (s := y.f0) (by omega) (by omega) (by omega) most
    have h3 := endI_range (n := 200) (s := y.f1) (by omega) (by omega) (by omega) (!most)
    show (0 ≤ endI y.f0 most ∧ endI y.f0 most ≤ endI y.f0 most ∧ endI y.f0 most ≤ 200) ∧ 0 ≤ endI y.f1 (!most) ∧ endI y.f1 (!most) ≤ endI y.f1 (!most) ∧ endI y.f1 (!most) ≤ 200
    omega
theorem ask_none {b : Bk} (hc : checkB b = true) (hs : SP b) (h : b.trials = []) (hx : Spans b) : askE b true = 0 := by
  unfold askE
  rw [if_pos hc, if_pos rfl, if_pos]
  rw [can_iff hs]
  exact ⟨_, (trs_none h hx _).2 (end_pws hs false)⟩
theorem surf_in {b : Bk} (hu : b.surfs.length ≤ 4) {k : Nat} (hk : k < b.surfs.length) : isSurfB b k = true := by
  unfold isSurfB
  rw [inB_iff, show wrap64 ((b.surfs.length : Int) - 1) = (b.surfs.length : Int) - 1 by unfold wrap64; omega]
  omega
theorem lights_two (b : Bk) (k : Nat) : lightsL b k = 2 ↔ mayL b k = true ∧ sureL b k = true := by
  unfold lightsL
  cases mayL b k <;> cases sureL b k <;> decide
theorem lights_zero (b : Bk) (k : Nat) : lightsL b k = 0 ↔ ¬ mayL b k = true := by
  unfold lightsL
  cases mayL b k <;> cases sureL b k <;> decide
theorem ends_facts {b : Bk} (hck : checkB b = true) (hg : Good b) {k : Nat} (hk : k < b.surfs.length) :
    kR b.bare = (endP b false, endP b true) ∧ (∀ m, kR (knB b m) = (endP b m, endP b m)) ∧
      (∀ m, lR (knB b m) k ≠ 1) ∧ (lR b.bare k = 2 ↔ lR (knB b false) k = 2) ∧ (lR b.bare k = 0 ↔ lR (knB b true) k = 0) ∧
      askE b.bare true = 0 ∧ (∀ m, askE (knB b m) true = 0) ∧ eL b.bare k = 0 ∧ ∀ m, eL (knB b m) k = 0 := by
  have hsp := hg.sp
  have hx : Spans b := hg.sr
  have a0 := ask_none (check_bare hck) (good_bare hg).sp rfl (spans_bare hx)
  have a1 : ∀ m, askE (knB b m) true = 0 := fun m => ask_none (check_kn hck m) (sp_kn hsp m) rfl (spans_kn hx m)
  have t0 : ∀ p, p ∈ trs b.bare ↔ p ∈ pws b := fun p => trs_none (b := b.bare) rfl (spans_bare hx) p
  have t1 : ∀ m p, p ∈ trs (knB b m) ↔ p = endP b m := fun m p => by rw [trs_none (b := knB b m) rfl (spans_kn hx m), pws_kn]
  have hu := hg.u1
  have hl2 : ∀ m, (knB b m).surfs.length = b.surfs.length := fun m => by simp [knB]
  have f0 : eL b.bare k = 0 := eL_of a0 (surf_in (b := b.bare) hu hk)
  have f1 : ∀ m, eL (knB b m) k = 0 := fun m => eL_of (a1 m) (surf_in (by rw [hl2]; exact hu) (by rw [hl2]; exact hk))
  have c0 : canB b.bare = true := (can_iff (good_bare hg).sp).2 ⟨_, (t0 _).2 (end_pws hsp false)⟩
  have c1 : ∀ m, canB (knB b m) = true := fun m => (can_iff (sp_kn hsp m)).2 ⟨_, (t1 m _).2 rfl⟩
  have k0 : kR b.bare = (endP b false, endP b true) := by
    unfold kR
    rw [if_pos a0]
    obtain ⟨lo, hi, e, h1, h2, h3⟩ := known_some (good_bare hg).sp c0
    rw [e]
    have g1 := pws_ends hsp ((t0 _).1 h1)
    have g2 := pws_ends hsp ((t0 _).1 h2)
    have g3 := h3 _ ((t0 _).2 (end_pws hsp false))
    have g4 := h3 _ ((t0 _).2 (end_pws hsp true))
    simp only [Prod.mk.injEq]
    omega
  have k1 : ∀ m, kR (knB b m) = (endP b m, endP b m) := by
    intro m
    unfold kR
    rw [if_pos (a1 m)]
    obtain ⟨lo, hi, e, h1, h2, h3⟩ := known_some (sp_kn hsp m) (c1 m)
    rw [e, (t1 m _).1 h1, (t1 m _).1 h2]
  have r0 : ∀ p, rubs b.bare k p = ((rd_T47 b.surfs k).f0.f0, (rd_T47 b.surfs k).f0.f1) := fun p => rubs_none (b := b.bare) rfl k p
  have r1 : ∀ m p, rubs (knB b m) k p = (endI (rd_T47 b.surfs k).f0 m, endI (rd_T47 b.surfs k).f0 m) := by
    intro m p
    rw [rubs_none (b := knB b m) rfl]
    show ((rd_T47 (b.surfs.map (knSurf m)) k).f0.f0, (rd_T47 (b.surfs.map (knSurf m)) k).f0.f1) = _
    rw [rd47_map _ _ hk]
    rfl
  have d1 : ∀ m, (rd_T47 (knB b m).surfs k).f1 = endS (rd_T47 b.surfs k).f1 (!m) := by
    intro m
    show (rd_T47 (b.surfs.map (knSurf m)) k).f1 = _
    rw [rd47_map _ _ hk]
    rfl
  have l0 : lR b.bare k = lightsL b.bare k := (lR_of f0 (good_bare hg).sp).trans rfl
  have l1 : ∀ m, lR (knB b m) k = lightsL (knB b m) k := fun m => (lR_of (f1 m) (sp_kn hsp m)).trans rfl
  have s0 : sureL b.bare k = true ↔ b.need ≤ endP b false + (rd_T47 b.surfs k).f0.f0 - (rd_T47 b.surfs k).f1.f1 := by
    unfold sureL
    rw [List.all_eq_true]
    constructor
    · intro h
      have := h _ ((t0 _).2 (end_pws hsp false))
      unfold lowI at this
      rw [r0] at this
      simp only [decide_eq_true_eq] at this
      exact this
    · intro h p hp
      have := pws_ends hsp ((t0 _).1 hp)
      unfold lowI
      rw [r0]
      simp only [decide_eq_true_eq]
      show b.need ≤ p + (rd_T47 b.surfs k).f0.f0 - (rd_T47 b.surfs k).f1.f1
      omega
  have m0 : mayL b.bare k = true ↔ b.need ≤ endP b true + (rd_T47 b.surfs k).f0.f1 - (rd_T47 b.surfs k).f1.f0 := by
    unfold mayL
    rw [List.any_eq_true]
    constructor
    · rintro ⟨p, hp, h⟩
      have := pws_ends hsp ((t0 _).1 hp)
      unfold highI at h
      rw [r0] at h
      simp only [decide_eq_true_eq] at h
      have h' : b.need ≤ p + (rd_T47 b.surfs k).f0.f1 - (rd_T47 b.surfs k).f1.f0 := h
      omega
    · intro h
      refine ⟨_, (t0 _).2 (end_pws hsp true), ?_⟩
      unfold highI
      rw [r0]
      simp only [decide_eq_true_eq]
      exact h
  have s1 : ∀ m, sureL (knB b m) k = true ↔ b.need ≤ endP b m + endI (rd_T47 b.surfs k).f0 m - endI (rd_T47 b.surfs k).f1 (!m) := by
    intro m
    unfold sureL
    rw [List.all_eq_true]
    constructor
    · intro h
      have := h _ ((t1 m _).2 rfl)
      unfold lowI at this
      rw [r1, d1] at this
      simp only [decide_eq_true_eq] at this
      exact this
    · intro h p hp
      rw [(t1 m _).1 hp]
      unfold lowI
      rw [r1, d1]
      simp only [decide_eq_true_eq]
      exact h
  have m1 : ∀ m, mayL (knB b m) k = true ↔ b.need ≤ endP b m + endI (rd_T47 b.surfs k).f0 m - endI (rd_T47 b.surfs k).f1 (!m) := by
    intro m
    unfold mayL
    rw [List.any_eq_true]
    constructor
    · rintro ⟨p, hp, h⟩
      rw [(t1 m _).1 hp] at h
      unfold highI at h
      rw [r1, d1] at h
      simp only [decide_eq_true_eq] at h
      exact h
    · intro h
      refine ⟨_, (t1 m _).2 rfl, ?_⟩
      unfold highI
      rw [r1, d1]
      simp only [decide_eq_true_eq]
      exact h
  have hend := pws_ends hsp (end_pws hsp true)
  have hsr := hx _ (rd47_mem (xs := b.surfs) (i := (k : Int)) (by omega) (by omega))
  have s1f := s1 false
  have s1t := s1 true
  have m1f := m1 false
  have m1t := m1 true
  have q1 : ∀ s : S39, endI s false = s.f0 := fun _ => rfl
  have q2 : ∀ s : S39, endI s true = s.f1 := fun _ => rfl
  simp only [Bool.not_false, Bool.not_true, q1, q2] at s1f s1t m1f m1t
  refine ⟨k0, k1, fun m => ?_, ?_, ?_, a0, a1, f0, f1⟩
  · rw [l1]
    unfold lightsL
    have : mayL (knB b m) k = sureL (knB b m) k := by rw [Bool.eq_iff_iff, m1, s1]
    rw [this]
    cases sureL (knB b m) k <;> decide
  · rw [l0, l1, lights_two, lights_two, s0, m0, s1f, m1f]
    omega
  · rw [l0, l1, lights_zero, lights_zero, m0, m1t]
theorem parts_kn {b : Bk} (hs : SP b) (most : Bool) (bits : List Int) : powerI (knB b most) (partsOf (knB b most) bits) = endP b most := by
  have h := fit_parts (sp_kn hs most) bits
  rw [(fit_kn b.salts most _).1 h, kn_power]
  rfl
end Go.Proofs.YtghpoldlddghjaaDoor
namespace Go.Proofs.YtghpoldlddghjaaDoor.PPasteTrue
open Go.RowKit Go.Proofs.YtghpoldlddghjaaDoorW.PrintWords Go.Proofs.YtghpoldlddghjaaDoorW.PrintLast Go.Proofs.YtghpoldlddghjaaDoorW.PrintMore
attribute [local go_sem] max2_int min2_int max_two min_two max_three min_three max_four min_four   -- for this text's walks alone
def luciferlaw02_end.f (a0_0 : Int) (a0_1 : Int) (a1 : Bool) : Option (Int × Int) := if a1 = true then ((luciferref00_Only.f a0_1).bind fun bt327 => (some (bt327.1, bt327.2))) else ((luciferref00_Only.f a0_0).bind fun bt329 => (some (bt329.1, bt329.2)))
set_option maxHeartbeats 8000000 in
set_option maxRecDepth 100000 in
theorem luciferlaw02_end.calls (a0_0 : Int) (a0_1 : Int) (a1 : Bool) (r1 : Int) (r2 : Int) (w : World) (h : luciferlaw02_end.f a0_0 a0_1 a1 = some (r1, r2)) :
    Calls Tryd.prog 67 #[.agg #[.int .i64 a0_0, .int .i64 a0_1], .bool a1] w fun e w' => e = .returned (.agg #[.int .i64 r1, .int .i64 r2]) ∧ Below w.heap.size w w' := by
  have hu39 := Tryd.underlying39
  have HB := Aside0.mk (Below.refl w.heap.size w)
  have H : (if a1 = true then ((luciferref00_Only.f a0_1).bind fun bt327 => (some (bt327.1, bt327.2))) else ((luciferref00_Only.f a0_0).bind fun bt329 => (some (bt329.1, bt329.2)))) = some (r1, r2) := h
  clear h
  by_cases c3 : a1 = true
  · subst c3
    have H1 : ((luciferref00_Only.f a0_1).bind fun bt327 => (some (bt327.1, bt327.2))) = some (r1, r2) := by rw [if_pos rfl] at H; exact H
    clear H
    have H := H1
    clear H1
    replace H := Option.bind_eq_some_iff.mp H
    obtain ⟨⟨t327, t328⟩, A40, H⟩ := H
    replace H : (some (t327, t328)) = some (r1, r2) := H
    have A4 := Aside0.mk A40
    clear A40
    simp only [Option.some.injEq, Prod.mk.injEq] at H
    obtain ⟨rfl, rfl⟩ := H
    go_enter Tryd.func67, Tryd.ntmps67
    go_wp2_with (first | ((with_reducible refine gate_dst (N := 2) rfl ?_); refine box_event ?hg (N := 2) ?hd (cs := #[.int .i64 a0_0, .int .i64 a0_1]) (t := 39) ?hr ?_; (case hd => rfl); (case hg => rfl); (case hr => first | (go_simp; done) | (go_simp; rfl)); intro gb325 hg w5 hbox hb; have n0_ := Aside0.mk (below_step (by repeat (first | (with_reducible first | exact HB.out | apply below_alloc | apply pw_below_drewN | apply below_drew1) | exact HB.out)) hb); have n1_ := Aside0.mk (hbox); have n2_ := Aside0.mk ((by rw [hg]; exact (below_size (by repeat (first | (with_reducible first | exact HB.out | apply below_alloc | apply pw_below_drewN | apply below_drew1) | exact HB.out))) : w.heap.size ≤ gb325)); have n3_ := Aside0.mk ((by rw [hg]; exact (below_size (by repeat (first | (with_reducible first | exact HB.out | apply below_alloc | apply pw_below_drewN | apply below_drew1) | exact HB.out))) : w.heap.size ≤ gb325)); clear HB; have HB := n0_; have BK325 := n1_; have GW325 := n2_; have GE325 := n3_; clear n0_ n1_ n2_ n3_; clear hb hbox hg) | ((with_reducible refine gate_dst (N := 4) rfl ?_); refine box_event ?hg (N := 4) ?hd (cs := #[.int .i64 0, .int .i64 0]) (t := 39) ?hr ?_; (case hd => rfl); (case hg => rfl); (case hr => first | (go_simp; done) | (go_simp; rfl)); intro gb326 hg w6 hbox hb; have n0_ := Aside0.mk (blk_below (g := gb325) (o := .cells #[.int .i64 a0_0, .int .i64 a0_1] 39 (0, 0)) (by (with_reducible repeat (first | refine blk_drewN ?_ _ | refine blk_drew ?_ | refine blk_alloc ?_ _)); exact BK325.out) hb); have n1_ := Aside0.mk (below_step (by repeat (first | (with_reducible first | exact HB.out | apply below_alloc | apply pw_below_drewN | apply below_drew1 | refine below_set ?_ GE325.out) | exact HB.out)) hb); have n2_ := Aside0.mk (hbox); have n3_ := Aside0.mk ((by rw [hg]; exact (below_size (by repeat (first | (with_reducible first | exact HB.out | apply below_alloc | apply pw_below_drewN | apply below_drew1 | refine below_set ?_ GE325.out) | exact HB.out))) : w.heap.size ≤ gb326)); have n4_ := Aside0.mk ((by rw [hg]; exact (below_size (by repeat (first | (with_reducible first | exact HB.out | apply below_alloc | apply pw_below_drewN | apply below_drew1 | refine below_set ?_ GE325.out) | exact HB.out))) : w.heap.size ≤ gb326)); have n5_ := Aside0.mk ((by rw [hg]; exact Nat.ne_of_lt (blk_lt (g := gb325) (o := .cells #[.int .i64 a0_0, .int .i64 a0_1] 39 (0, 0)) (by (with_reducible repeat (first | refine blk_drewN ?_ _ | refine blk_drew ?_ | refine blk_alloc ?_ _)); exact BK325.out)) : gb325 ≠ gb326)); have n6_ := Aside0.mk ((by rw [hg]; exact Nat.ne_of_gt (blk_lt (g := gb325) (o := .cells #[.int .i64 a0_0, .int .i64 a0_1] 39 (0, 0)) (by (with_reducible repeat (first | refine blk_drewN ?_ _ | refine blk_drew ?_ | refine blk_alloc ?_ _)); exact BK325.out)) : gb326 ≠ gb325)); clear BK325; clear HB; have BK325 := n0_; have HB := n1_; have BK326 := n2_; have GW326 := n3_; have GE326 := n4_; have NB325_326 := n5_; have NB326_325 := n6_; clear n0_ n1_ n2_ n3_ n4_ n5_ n6_; clear hb hbox hg; have hnb7 := NB325_326.out; have hnc7 := NB326_325.out; have hcz8_0 : w6.cell? ⟨gb325, 0, none⟩ = some (.int .i64 a0_0) := (blk_cell BK325.out 0).trans rfl; have hcz8_1 : w6.cell? ⟨gb325, 1, none⟩ = some (.int .i64 a0_1) := (blk_cell BK325.out 1).trans rfl; have hfz8_0 := blk_frozen BK325.out 0; have hfz8_1 := blk_frozen BK325.out 1) | ((with_reducible refine gate_callee (f := 28) rfl ?_); refine goesL_ (some 8) rfl rfl Tryd.func28 (by kernel_rfl) rfl #[.int .i64 a0_1] rfl (by (try simp only [List.map_toArray, List.map_cons, List.map_nil]); first | done | rfl | (simp only [List.length_drop, List.length_take]; rfl)) ?_; (with_reducible refine (luciferref00_Only.calls a0_1 t327 t328 _ A4.out).mono ?_); rintro e w9 ⟨rfl, hb⟩; refine ⟨_, rfl, ?_⟩; have n0_ := Aside0.mk (blk_below (g := gb325) (o := .cells #[.int .i64 a0_0, .int .i64 a0_1] 39 (0, 0)) (by (with_reducible repeat (first | refine blk_drewN ?_ _ | refine blk_drew ?_ | refine blk_alloc ?_ _)); exact BK325.out) hb); have n1_ := Aside0.mk (blk_below (g := gb326) (o := .cells #[.int .i64 0, .int .i64 0] 39 (0, 0)) (by (with_reducible repeat (first | refine blk_drewN ?_ _ | refine blk_drew ?_ | refine blk_alloc ?_ _)); exact BK326.out) hb); have n2_ := Aside0.mk (below_step (by repeat (first | (with_reducible first | exact HB.out | apply below_alloc | apply pw_below_drewN | apply below_drew1 | refine below_set ?_ GE325.out | refine below_set ?_ GE326.out) | exact HB.out)) hb); clear BK325; clear BK326; clear HB; have BK325 := n0_; have BK326 := n1_; have HB := n2_; clear n0_ n1_ n2_; (try clear hb); (try clear hb2); (try clear hk); (try clear hi); have hcz10_0 : w9.cell? ⟨gb326, 0, none⟩ = some (.int .i64 0) := (blk_cell BK326.out 0).trans rfl; have hcz10_1 : w9.cell? ⟨gb326, 1, none⟩ = some (.int .i64 0) := (blk_cell BK326.out 1).trans rfl; have hfz10_0 := blk_frozen BK326.out 0; have hfz10_1 := blk_frozen BK326.out 1))
    refine bodyPost_ret (results_cell_row rfl _ _ gb326 39 #[.int .i64 t327, .int .i64 t328] (0, 0) _ rfl (by (with_reducible repeat (first | refine blk_drewN ?_ _ | refine blk_drew ?_ | refine blk_alloc ?_ _)); refine blk_put (cs := #[.int .i64 t327, .int .i64 0]) ?_ 1 _ rfl; (with_reducible repeat (first | refine blk_drewN ?_ _ | refine blk_drew ?_ | refine blk_alloc ?_ _)); refine blk_put (cs := #[.int .i64 0, .int .i64 0]) ?_ 0 _ rfl; (with_reducible repeat (first | refine blk_drewN ?_ _ | refine blk_drew ?_ | refine blk_alloc ?_ _)); exact BK326.out) Tryd.underlying39 rfl (by kernel_rfl)) rfl ?_
    exact ⟨by first | rfl | (simp [errW_none, errW_some] <;> rfl) | (simp [*, errW_none, errW_some] <;> rfl), by repeat (first | (with_reducible first | exact HB.out | apply below_alloc | apply pw_below_drewN | apply below_drew1 | refine below_set ?_ GE325.out | refine below_set ?_ GE326.out) | exact HB.out)⟩
  · replace c3 := Bool.eq_false_iff.mpr c3
    subst c3
    have H1 : ((luciferref00_Only.f a0_0).bind fun bt329 => (some (bt329.1, bt329.2))) = some (r1, r2) := by rw [if_neg (show ¬ (false = true) by decide)] at H; exact H
    clear H
    have H := H1
    clear H1
    replace H := Option.bind_eq_some_iff.mp H
    obtain ⟨⟨t329, t330⟩, A110, H⟩ := H
    replace H : (some (t329, t330)) = some (r1, r2) := H
    have A11 := Aside0.mk A110
    clear A110
    simp only [Option.some.injEq, Prod.mk.injEq] at H
    obtain ⟨rfl, rfl⟩ := H
    go_enter Tryd.func67, Tryd.ntmps67
    go_wp2_with (first | ((with_reducible refine gate_dst (N := 2) rfl ?_); refine box_event ?hg (N := 2) ?hd (cs := #[.int .i64 a0_0, .int .i64 a0_1]) (t := 39) ?hr ?_; (case hd => rfl); (case hg => rfl); (case hr => first | (go_simp; done) | (go_simp; rfl)); intro gb325 hg w12 hbox hb; have n0_ := Aside0.mk (below_step (by repeat (first | (with_reducible first | exact HB.out | apply below_alloc | apply pw_below_drewN | apply below_drew1) | exact HB.out)) hb); have n1_ := Aside0.mk (hbox); have n2_ := Aside0.mk ((by rw [hg]; exact (below_size (by repeat (first | (with_reducible first | exact HB.out | apply below_alloc | apply pw_below_drewN | apply below_drew1) | exact HB.out))) : w.heap.size ≤ gb325)); have n3_ := Aside0.mk ((by rw [hg]; exact (below_size (by repeat (first | (with_reducible first | exact HB.out | apply below_alloc | apply pw_below_drewN | apply below_drew1) | exact HB.out))) : w.heap.size ≤ gb325)); clear HB; have HB := n0_; have BK325 := n1_; have GW325 := n2_; have GE325 := n3_; clear n0_ n1_ n2_ n3_; clear hb hbox hg) | ((with_reducible refine gate_dst (N := 4) rfl ?_); refine box_event ?hg (N := 4) ?hd (cs := #[.int .i64 0, .int .i64 0]) (t := 39) ?hr ?_; (case hd => rfl); (case hg => rfl); (case hr => first | (go_simp; done) | (go_simp; rfl)); intro gb326 hg w13 hbox hb; have n0_ := Aside0.mk (blk_below (g := gb325) (o := .cells #[.int .i64 a0_0, .int .i64 a0_1] 39 (0, 0)) (by (with_reducible repeat (first | refine blk_drewN ?_ _ | refine blk_drew ?_ | refine blk_alloc ?_ _)); exact BK325.out) hb); have n1_ := Aside0.mk (below_step (by repeat (first | (with_reducible first | exact HB.out | apply below_alloc | apply pw_below_drewN | apply below_drew1 | refine below_set ?_ GE325.out) | exact HB.out)) hb); have n2_ := Aside0.mk (hbox); have n3_ := Aside0.mk ((by rw [hg]; exact (below_size (by repeat (first | (with_reducible first | exact HB.out | apply below_alloc | apply pw_below_drewN | apply below_drew1 | refine below_set ?_ GE325.out) | exact HB.out))) : w.heap.size ≤ gb326)); have n4_ := Aside0.mk ((by rw [hg]; exact (below_size (by repeat (first | (with_reducible first | exact HB.out | apply below_alloc | apply pw_below_drewN | apply below_drew1 | refine below_set ?_ GE325.out) | exact HB.out))) : w.heap.size ≤ gb326)); have n5_ := Aside0.mk ((by rw [hg]; exact Nat.ne_of_lt (blk_lt (g := gb325) (o := .cells #[.int .i64 a0_0, .int .i64 a0_1] 39 (0, 0)) (by (with_reducible repeat (first | refine blk_drewN ?_ _ | refine blk_drew ?_ | refine blk_alloc ?_ _)); exact BK325.out)) : gb325 ≠ gb326)); have n6_ := Aside0.mk ((by rw [hg]; exact Nat.ne_of_gt (blk_lt (g := gb325) (o := .cells #[.int .i64 a0_0, .int .i64 a0_1] 39 (0, 0)) (by (with_reducible repeat (first | refine blk_drewN ?_ _ | refine blk_drew ?_ | refine blk_alloc ?_ _)); exact BK325.out)) : gb326 ≠ gb325)); clear BK325; clear HB; have BK325 := n0_; have HB := n1_; have BK326 := n2_; have GW326 := n3_; have GE326 := n4_; have NB325_326 := n5_; have NB326_325 := n6_; clear n0_ n1_ n2_ n3_ n4_ n5_ n6_; clear hb hbox hg; have hnb14 := NB325_326.out; have hnc14 := NB326_325.out; have hcz15_0 : w13.cell? ⟨gb325, 0, none⟩ = some (.int .i64 a0_0) := (blk_cell BK325.out 0).trans rfl; have hcz15_1 : w13.cell? ⟨gb325, 1, none⟩ = some (.int .i64 a0_1) := (blk_cell BK325.out 1).trans rfl; have hfz15_0 := blk_frozen BK325.out 0; have hfz15_1 := blk_frozen BK325.out 1) | ((with_reducible refine gate_callee (f := 28) rfl ?_); refine goesL_ (some 11) rfl rfl Tryd.func28 (by kernel_rfl) rfl #[.int .i64 a0_0] rfl (by (try simp only [List.map_toArray, List.map_cons, List.map_nil]); first | done | rfl | (simp only [List.length_drop, List.length_take]; rfl)) ?_; (with_reducible refine (luciferref00_Only.calls a0_0 t329 t330 _ A11.out).mono ?_); rintro e w16 ⟨rfl, hb⟩; refine ⟨_, rfl, ?_⟩; have n0_ := Aside0.mk (blk_below (g := gb325) (o := .cells #[.int .i64 a0_0, .int .i64 a0_1] 39 (0, 0)) (by (with_reducible repeat (first | refine blk_drewN ?_ _ | refine blk_drew ?_ | refine blk_alloc ?_ _)); exact BK325.out) hb); have n1_ := Aside0.mk (blk_below (g := gb326) (o := .cells #[.int .i64 0, .int .i64 0] 39 (0, 0)) (by (with_reducible repeat (first | refine blk_drewN ?_ _ | refine blk_drew ?_ | refine blk_alloc ?_ _)); exact BK326.out) hb); have n2_ := Aside0.mk (below_step (by repeat (first | (with_reducible first | exact HB.out | apply below_alloc | apply pw_below_drewN | apply below_drew1 | refine below_set ?_ GE325.out | refine below_set ?_ GE326.out) | exact HB.out)) hb); clear BK325; clear BK326; clear HB; have BK325 := n0_; have BK326 := n1_; have HB := n2_; clear n0_ n1_ n2_; (try clear hb); (try clear hb2); (try clear hk); (try clear hi); have hcz17_0 : w16.cell? ⟨gb326, 0, none⟩ = some (.int .i64 0) := (blk_cell BK326.out 0).trans rfl; have hcz17_1 : w16.cell? ⟨gb326, 1, none⟩ = some (.int .i64 0) := (blk_cell BK326.out 1).trans rfl; have hfz17_0 := blk_frozen BK326.out 0; have hfz17_1 := blk_frozen BK326.out 1))
    refine bodyPost_ret (results_cell_row rfl _ _ gb326 39 #[.int .i64 t329, .int .i64 t330] (0, 0) _ rfl (by (with_reducible repeat (first | refine blk_drewN ?_ _ | refine blk_drew ?_ | refine blk_alloc ?_ _)); refine blk_put (cs := #[.int .i64 t329, .int .i64 0]) ?_ 1 _ rfl; (with_reducible repeat (first | refine blk_drewN ?_ _ | refine blk_drew ?_ | refine blk_alloc ?_ _)); refine blk_put (cs := #[.int .i64 0, .int .i64 0]) ?_ 0 _ rfl; (with_reducible repeat (first | refine blk_drewN ?_ _ | refine blk_drew ?_ | refine blk_alloc ?_ _)); exact BK326.out) Tryd.underlying39 rfl (by kernel_rfl)) rfl ?_
    exact ⟨by first | rfl | (simp [errW_none, errW_some] <;> rfl) | (simp [*, errW_none, errW_some] <;> rfl), by repeat (first | (with_reducible first | exact HB.out | apply below_alloc | apply pw_below_drewN | apply below_drew1 | refine below_set ?_ GE325.out | refine below_set ?_ GE326.out) | exact HB.out)⟩
end Go.Proofs.YtghpoldlddghjaaDoor.PPasteTrue
namespace Go.Proofs.YtghpoldlddghjaaDoor.PPasteTrue
open Go.RowKit Go.Proofs.YtghpoldlddghjaaDoorW.PrintWords Go.Proofs.YtghpoldlddghjaaDoorW.PrintLast Go.Proofs.YtghpoldlddghjaaDoorW.PrintMore
attribute [local go_sem] max2_int min2_int max_two min_two max_three min_three max_four min_four   -- for this text's walks alone
mutual
def luciferlaw02_known.l0 : Nat → Bool → Int → List (S68) → List (S77) → List (S47) → Int → List (S59) → List (S68) → List (S77) → Int → Option ((List (S68)) × (List (S77)) × (List (S47)) × Int × (List (S59)))
  | 0, _, _, _, _, _, _, _, _, _, _ => none
  | k + 1, x1, x6, x332000, x332001, x332002, x332003, x332004, x334000, x334001, x334003 => if x6 < (x332000.length : Int) then (if 0 ≤ x6 then ((luciferlaw02_end.f ((rd_T68 x332000 x6).f1.f0) ((rd_T68 x332000 x6).f1.f1) x1).bind fun bt336 => (if x334000.length < 5864062014805 then (luciferlaw02_known.l0 k x1 (wrap64 (x6 + 1)) x332000 x332001 x332002 x332003 x332004 (x334000 ++ [(⟨(rd_T68 x332000 x6).f0, (⟨bt336.1, bt336.2⟩ : S39)⟩ : S68)]) x334001 x334003) else (none))) else (none)) else (luciferlaw02_known.l1 k x1 0 x332000 x332001 x332002 x332003 x332004 x334000 x334001 ([] : List (S47)) x334003)
def luciferlaw02_known.l1 : Nat → Bool → Int → List (S68) → List (S77) → List (S47) → Int → List (S59) → List (S68) → List (S77) → List (S47) → Int → Option ((List (S68)) × (List (S77)) × (List (S47)) × Int × (List (S59)))
  | 0, _, _, _, _, _, _, _, _, _, _, _ => none
  | k + 1, x1, x7, x332000, x332001, x332002, x332003, x332004, x334000, x334001, x334002, x334003 => if x7 < (x332002.length : Int) then (if 0 ≤ x7 then ((luciferlaw02_end.f ((rd_T47 x332002 x7).f0.f0) ((rd_T47 x332002 x7).f0.f1) x1).bind fun bt343 => ((luciferlaw02_end.f ((rd_T47 x332002 x7).f1.f0) ((rd_T47 x332002 x7).f1.f1) (!x1)).bind fun bt345 => (if x334002.length < 4398046511104 then (luciferlaw02_known.l1 k x1 (wrap64 (x7 + 1)) x332000 x332001 x332002 x332003 x332004 x334000 x334001 (x334002 ++ [(⟨(⟨bt343.1, bt343.2⟩ : S39), (⟨bt345.1, bt345.2⟩ : S39)⟩ : S47)]) x334003) else (none)))) else (none)) else (some (x334000, x334001, x334002, x334003, ([] : List (S59))))
end
def luciferlaw02_known.f (k : Nat) (l0_0 : List (S68)) (l0_1 : List (S77)) (l0_2 : List (S47)) (a0_3 : Int) (l0_4 : List (S59)) (a1 : Bool) : Option ((List (S68)) × (List (S77)) × (List (S47)) × Int × (List (S59))) := luciferlaw02_known.l0 k a1 0 l0_0 l0_1 l0_2 a0_3 l0_4 ([] : List (S68)) l0_1 a0_3
def luciferlaw02_known.T6 : Bool × List (List Nat × List Nat) := (true, [([], []), ([0], [0]), ([], []), ([2], [2]), ([], []), ([3, 4], [3, 4]), ([5], [5]), ([6], [6]), ([], []), ([8], [8]), ([], []), ([9, 10], [9, 10]), ([11], [11]), ([12], [12]), ([], []), ([13, 14], [13, 14]), ([7, 15], [7, 15]), ([16], [16]), ([1, 17, 15], [1, 17]), ([0, 1, 2, 3, 4, 5, 6, 7, 8, 9, 10, 11, 12, 13, 14, 15, 16, 17, 18], []), ([19, 18, 18, 0, 1, 2, 3, 4, 5, 6, 7, 8, 9, 10, 11, 12, 13, 14, 15, 16, 17, 18], [18, 19])])
def luciferlaw02_known.B6 : List Nat := [0, 1, 0, 4, 0, 28, 60, 124, 0, 256, 0, 1792, 3840, 7936, 0, 32512, 65532, 131068, 262143, 524287, 1048575]
theorem luciferlaw02_known.tab6 : rtab .any (opsOf Tryd.f25 6) = luciferlaw02_known.T6 := by kernel_rfl
theorem luciferlaw02_known.bits6 : waitsOk luciferlaw02_known.T6.2 luciferlaw02_known.B6 = true := by kernel_rfl
def luciferlaw02_known.T11 : Bool × List (List Nat × List Nat) := (true, [([], []), ([0], [0]), ([], []), ([2], [2]), ([], []), ([3, 4], [3, 4]), ([], []), ([6], [6]), ([], []), ([8], [8]), ([7, 9, 5], [7, 9]), ([5, 10], [5, 10]), ([11], [11]), ([1, 12, 10], [1, 12]), ([0, 1, 2, 3, 4, 5, 6, 7, 8, 9, 10, 11, 12, 13], []), ([14, 13, 13, 0, 1, 2, 3, 4, 5, 6, 7, 8, 9, 10, 11, 12, 13], [13, 14])])
def luciferlaw02_known.B11 : List Nat := [0, 1, 0, 4, 0, 28, 0, 64, 0, 256, 1020, 2044, 4092, 8191, 16383, 32767]
theorem luciferlaw02_known.tab11 : rtab .any (opsOf Tryd.f25 11) = luciferlaw02_known.T11 := by kernel_rfl
theorem luciferlaw02_known.bits11 : waitsOk luciferlaw02_known.T11.2 luciferlaw02_known.B11 = true := by kernel_rfl
set_option maxHeartbeats 8000000 in
set_option maxRecDepth 100000 in
theorem luciferlaw02_known.calls (k : Nat) (A0_0 : Option Addr) (c0_0 : Nat) (l0_0 : List (S68)) (P0_1_ : Nat → Prop) (Ao3 : Option Addr) (co3 : Nat) (l0_1 : List (S77)) (A0_2 : Option Addr) (c0_2 : Nat) (l0_2 : List (S47)) (a0_3 : Int) (A0_4 : Option Addr) (c0_4 : Nat) (l0_4 : List (S59)) (a1 : Bool) (r1 : List (S68)) (r2 : List (S77)) (r3 : List (S47)) (r4 : Int) (r5 : List (S59)) (w0 w : World) (hB : Below w0.heap.size w0 w) (hr0_0 : ∀ W_, Kept w W_ (fun k_ => P0_1_ k_) → Kd.C k68 W_ A0_0 l0_0.length l0_0) (hc0_0 : l0_0.length ≤ c0_0) (hr0_2 : ∀ W_, Kept w W_ (fun k_ => P0_1_ k_) → Kd.C k47 W_ A0_2 l0_2.length l0_2) (hc0_2 : l0_2.length ≤ c0_2) (hr0_4 : ∀ W_, Kept w W_ (fun k_ => P0_1_ k_) → Kd.C k59 W_ A0_4 l0_4.length l0_4) (hc0_4 : l0_4.length ≤ c0_4) (h : luciferlaw02_known.f k l0_0 l0_1 l0_2 a0_3 l0_4 a1 = some (r1, r2, r3, r4, r5)) :
    Calls Tryd.prog 25 #[.agg #[.slice A0_0 l0_0.length c0_0, .slice Ao3 l0_1.length co3, .slice A0_2 l0_2.length c0_2, .int .i64 a0_3, .slice A0_4 l0_4.length c0_4], .bool a1] w fun e w' => ∃ v0_ v1_ v2_ v4_ : Value, e = .returned (.agg #[v0_, v1_, v2_, .int .i64 r4, v4_]) ∧ Kd.R k68 68 w' w0.heap.size (fun k_ => (P0_1_ k_ ∨ w.heap.size ≤ k_)) v0_ r1 ∧ v1_ = .slice Ao3 l0_1.length co3 ∧ Kd.R k47 47 w' w0.heap.size (fun k_ => (P0_1_ k_ ∨ w.heap.size ≤ k_)) v2_ r3 ∧ Kd.R k59 59 w' w0.heap.size (fun k_ => (P0_1_ k_ ∨ w.heap.size ≤ k_)) v4_ r5 ∧ Below w0.heap.size w0 w' ∧ Kept w w' (fun k_ => P0_1_ k_) := by
  have hu27 := Tryd.underlying27
  have hu39 := Tryd.underlying39
  have hu68 := Tryd.underlying68
  have hu47 := Tryd.underlying47
  have HR0_0 := Aside0.mk hr0_0
  have HC0_0 := Aside0.mk hc0_0
  clear hr0_0 hc0_0
  have HO0_1 := Aside0.mk (show Kd.R k77 77 w w0.heap.size (fun k_ => (P0_1_ k_ ∨ w.heap.size ≤ k_)) (.slice none 0 0) ([] : List S77) from Kd.R_nil _ _ _ _ _)
  have HR0_2 := Aside0.mk hr0_2
  have HC0_2 := Aside0.mk hc0_2
  clear hr0_2 hc0_2
  have HR0_4 := Aside0.mk hr0_4
  have HC0_4 := Aside0.mk hc0_4
  clear hr0_4 hc0_4
  have HK := Aside0.mk (Kept.refl w (fun k_ => P0_1_ k_))
  have HW0 := Aside0.mk hB.size
  have HB := Aside0.mk hB
  clear hB
  have H : (luciferlaw02_known.l0 k a1 0 l0_0 l0_1 l0_2 a0_3 l0_4 ([] : List (S68)) l0_1 a0_3) = some (r1, r2, r3, r4, r5) := h
  clear h
  have H' := Aside0.mk H
  clear H
  go_enter Tryd.func25, Tryd.ntmps25
  go_wp2_with (first | ((with_reducible refine gate_dst (N := 2) rfl ?_); refine box_event ?hg (N := 2) ?hd (cs := #[.slice A0_0 l0_0.length c0_0, .slice Ao3 l0_1.length co3, .slice A0_2 l0_2.length c0_2, .int .i64 a0_3, .slice A0_4 l0_4.length c0_4]) (t := 27) ?hr ?_; (case hd => rfl); (case hg => rfl); (case hr => first | (go_simp; done) | (go_simp; rfl)); intro gb331 hg w4 hbox hb; have n0_ := Aside0.mk (Kd.R_below (by (with_reducible repeat (first | apply Kd.R_alloc | apply Kd.R_drewN | apply Kd.R_drew)); exact HO0_1.out) hb); have n1_ := Aside0.mk (Kept.below (S := (fun k_ => P0_1_ k_)) (by repeat (first | (with_reducible first | exact HK.out | apply Kept.alloc | apply Kept.drewN | apply Kept.drew) | exact HK.out)) hb); have n2_ := Aside0.mk (below_step (by repeat (first | (with_reducible first | exact HB.out | apply below_alloc | apply pw_below_drewN | apply below_drew1) | exact HB.out)) hb); have n3_ := Aside0.mk (hbox); have n4_ := Aside0.mk ((by rw [hg]; exact (by first | exact HK.out.1 | exact (show Kept w _ (fun k_ => P0_1_ k_) from by repeat (first | (with_reducible first | exact HK.out | apply Kept.alloc | apply Kept.drewN | apply Kept.drew) | exact HK.out)).1) : w.heap.size ≤ gb331)); have n5_ := Aside0.mk ((by rw [hg]; exact (below_size (by repeat (first | (with_reducible first | exact HB.out | apply below_alloc | apply pw_below_drewN | apply below_drew1) | exact HB.out))) : w0.heap.size ≤ gb331)); clear HO0_1; clear HK; clear HB; have HO0_1 := n0_; have HK := n1_; have HB := n2_; have BK331 := n3_; have GW331 := n4_; have GE331 := n5_; clear n0_ n1_ n2_ n3_ n4_ n5_; clear hb hbox hg) | ((with_reducible refine gate_dst (N := 4) rfl ?_); refine box_event ?hg (N := 4) ?hd (cs := #[.slice none 0 0, .slice none 0 0, .slice none 0 0, .int .i64 0, .slice none 0 0]) (t := 27) ?hr ?_; (case hd => rfl); (case hg => rfl); (case hr => first | (go_simp; done) | (go_simp; rfl)); intro gb332 hg w5 hbox hb; have n0_ := Aside0.mk (Kd.R_below (by (with_reducible repeat (first | apply Kd.R_alloc | apply Kd.R_drewN | apply Kd.R_drew)); exact HO0_1.out) hb); have n1_ := Aside0.mk (blk_below (g := gb331) (o := .cells #[.slice A0_0 l0_0.length c0_0, .slice Ao3 l0_1.length co3, .slice A0_2 l0_2.length c0_2, .int .i64 a0_3, .slice A0_4 l0_4.length c0_4] 27 (0, 0)) (by (with_reducible repeat (first | refine blk_drewN ?_ _ | refine blk_drew ?_ | refine blk_alloc ?_ _)); exact BK331.out) hb); have n2_ := Aside0.mk (Kept.below (S := (fun k_ => P0_1_ k_)) (by repeat (first | (with_reducible first | exact HK.out | apply Kept.alloc | apply Kept.drewN | apply Kept.drew | refine Kept.setCell ?_ (.inr GW331.out) _) | exact HK.out)) hb); have n3_ := Aside0.mk (below_step (by repeat (first | (with_reducible first | exact HB.out | apply below_alloc | apply pw_below_drewN | apply below_drew1 | refine below_set ?_ GE331.out) | exact HB.out)) hb); have n4_ := Aside0.mk (hbox); have n5_ := Aside0.mk ((by rw [hg]; exact (by first | exact HK.out.1 | exact (show Kept w _ (fun k_ => P0_1_ k_) from by repeat (first | (with_reducible first | exact HK.out | apply Kept.alloc | apply Kept.drewN | apply Kept.drew | refine Kept.setCell ?_ (.inr GW331.out) _) | exact HK.out)).1) : w.heap.size ≤ gb332)); have n6_ := Aside0.mk ((by rw [hg]; exact (below_size (by repeat (first | (with_reducible first | exact HB.out | apply below_alloc | apply pw_below_drewN | apply below_drew1 | refine below_set ?_ GE331.out) | exact HB.out))) : w0.heap.size ≤ gb332)); have n7_ := Aside0.mk ((by rw [hg]; exact Nat.ne_of_lt (blk_lt (g := gb331) (o := .cells #[.slice A0_0 l0_0.length c0_0, .slice Ao3 l0_1.length co3, .slice A0_2 l0_2.length c0_2, .int .i64 a0_3, .slice A0_4 l0_4.length c0_4] 27 (0, 0)) (by (with_reducible repeat (first | refine blk_drewN ?_ _ | refine blk_drew ?_ | refine blk_alloc ?_ _)); exact BK331.out)) : gb331 ≠ gb332)); have n8_ := Aside0.mk ((by rw [hg]; exact Nat.ne_of_gt (blk_lt (g := gb331) (o := .cells #[.slice A0_0 l0_0.length c0_0, .slice Ao3 l0_1.length co3, .slice A0_2 l0_2.length c0_2, .int .i64 a0_3, .slice A0_4 l0_4.length c0_4] 27 (0, 0)) (by (with_reducible repeat (first | refine blk_drewN ?_ _ | refine blk_drew ?_ | refine blk_alloc ?_ _)); exact BK331.out)) : gb332 ≠ gb331)); clear HO0_1; clear BK331; clear HK; clear HB; have HO0_1 := n0_; have BK331 := n1_; have HK := n2_; have HB := n3_; have BK332 := n4_; have GW332 := n5_; have GE332 := n6_; have NB331_332 := n7_; have NB332_331 := n8_; clear n0_ n1_ n2_ n3_ n4_ n5_ n6_ n7_ n8_; clear hb hbox hg; have hnb6 := NB331_332.out; have hnc6 := NB332_331.out; have hcz7_0 : w5.cell? ⟨gb331, 0, none⟩ = some (.slice A0_0 l0_0.length c0_0) := (blk_cell BK331.out 0).trans rfl; have hcz7_1 : w5.cell? ⟨gb331, 1, none⟩ = some (.slice Ao3 l0_1.length co3) := (blk_cell BK331.out 1).trans rfl; have hcz7_2 : w5.cell? ⟨gb331, 2, none⟩ = some (.slice A0_2 l0_2.length c0_2) := (blk_cell BK331.out 2).trans rfl; have hcz7_3 : w5.cell? ⟨gb331, 3, none⟩ = some (.int .i64 a0_3) := (blk_cell BK331.out 3).trans rfl; have hcz7_4 : w5.cell? ⟨gb331, 4, none⟩ = some (.slice A0_4 l0_4.length c0_4) := (blk_cell BK331.out 4).trans rfl; have hfz7_0 := blk_frozen BK331.out 0; have hfz7_1 := blk_frozen BK331.out 1; have hfz7_2 := blk_frozen BK331.out 2; have hfz7_3 := blk_frozen BK331.out 3; have hfz7_4 := blk_frozen BK331.out 4) | ((with_reducible refine gate_dst (N := 5) rfl ?_); refine box_event ?hg (N := 5) ?hd (cs := #[.slice none 0 0, .slice none 0 0, .slice none 0 0, .int .i64 0, .slice none 0 0]) (t := 27) ?hr ?_; (case hd => rfl); (case hg => rfl); (case hr => first | (go_simp; done) | (go_simp; rfl)); intro gb333 hg w8 hbox hb; have n0_ := Aside0.mk (Kd.R_below (by (with_reducible repeat (first | apply Kd.R_alloc | apply Kd.R_drewN | apply Kd.R_drew)); exact HO0_1.out) hb); have n1_ := Aside0.mk (blk_below (g := gb331) (o := .cells #[.slice A0_0 l0_0.length c0_0, .slice Ao3 l0_1.length co3, .slice A0_2 l0_2.length c0_2, .int .i64 a0_3, .slice A0_4 l0_4.length c0_4] 27 (0, 0)) (by (with_reducible repeat (first | refine blk_drewN ?_ _ | refine blk_drew ?_ | refine blk_alloc ?_ _)); exact BK331.out) hb); have n2_ := Aside0.mk (blk_below (g := gb332) (o := .cells #[.slice none 0 0, .slice none 0 0, .slice none 0 0, .int .i64 0, .slice none 0 0] 27 (0, 0)) (by (with_reducible repeat (first | refine blk_drewN ?_ _ | refine blk_drew ?_ | refine blk_alloc ?_ _)); exact BK332.out) hb); have n3_ := Aside0.mk (Kept.below (S := (fun k_ => P0_1_ k_)) (by repeat (first | (with_reducible first | exact HK.out | apply Kept.alloc | apply Kept.drewN | apply Kept.drew | refine Kept.setCell ?_ (.inr GW331.out) _ | refine Kept.setCell ?_ (.inr GW332.out) _) | exact HK.out)) hb); have n4_ := Aside0.mk (below_step (by repeat (first | (with_reducible first | exact HB.out | apply below_alloc | apply pw_below_drewN | apply below_drew1 | refine below_set ?_ GE331.out | refine below_set ?_ GE332.out) | exact HB.out)) hb); have n5_ := Aside0.mk (hbox); have n6_ := Aside0.mk ((by rw [hg]; exact (by first | exact HK.out.1 | exact (show Kept w _ (fun k_ => P0_1_ k_) from by repeat (first | (with_reducible first | exact HK.out | apply Kept.alloc | apply Kept.drewN | apply Kept.drew | refine Kept.setCell ?_ (.inr GW331.out) _ | refine Kept.setCell ?_ (.inr GW332.out) _) | exact HK.out)).1) : w.heap.size ≤ gb333)); have n7_ := Aside0.mk ((by rw [hg]; exact (below_size (by repeat (first | (with_reducible first | exact HB.out | apply below_alloc | apply pw_below_drewN | apply below_drew1 | refine below_set ?_ GE331.out | refine below_set ?_ GE332.out) | exact HB.out))) : w0.heap.size ≤ gb333)); have n8_ := Aside0.mk ((by rw [hg]; exact Nat.ne_of_lt (blk_lt (g := gb331) (o := .cells #[.slice A0_0 l0_0.length c0_0, .slice Ao3 l0_1.length co3, .slice A0_2 l0_2.length c0_2, .int .i64 a0_3, .slice A0_4 l0_4.length c0_4] 27 (0, 0)) (by (with_reducible repeat (first | refine blk_drewN ?_ _ | refine blk_drew ?_ | refine blk_alloc ?_ _)); exact BK331.out)) : gb331 ≠ gb333)); have n9_ := Aside0.mk ((by rw [hg]; exact Nat.ne_of_gt (blk_lt (g := gb331) (o := .cells #[.slice A0_0 l0_0.length c0_0, .slice Ao3 l0_1.length co3, .slice A0_2 l0_2.length c0_2, .int .i64 a0_3, .slice A0_4 l0_4.length c0_4] 27 (0, 0)) (by (with_reducible repeat (first | refine blk_drewN ?_ _ | refine blk_drew ?_ | refine blk_alloc ?_ _)); exact BK331.out)) : gb333 ≠ gb331)); have n10_ := Aside0.mk ((by rw [hg]; exact Nat.ne_of_lt (blk_lt (g := gb332) (o := .cells #[.slice none 0 0, .slice none 0 0, .slice none 0 0, .int .i64 0, .slice none 0 0] 27 (0, 0)) (by (with_reducible repeat (first | refine blk_drewN ?_ _ | refine blk_drew ?_ | refine blk_alloc ?_ _)); exact BK332.out)) : gb332 ≠ gb333)); have n11_ := Aside0.mk ((by rw [hg]; exact Nat.ne_of_gt (blk_lt (g := gb332) (o := .cells #[.slice none 0 0, .slice none 0 0, .slice none 0 0, .int .i64 0, .slice none 0 0] 27 (0, 0)) (by (with_reducible repeat (first | refine blk_drewN ?_ _ | refine blk_drew ?_ | refine blk_alloc ?_ _)); exact BK332.out)) : gb333 ≠ gb332)); clear HO0_1; clear BK331; clear BK332; clear HK; clear HB; have HO0_1 := n0_; have BK331 := n1_; have BK332 := n2_; have HK := n3_; have HB := n4_; have BK333 := n5_; have GW333 := n6_; have GE333 := n7_; have NB331_333 := n8_; have NB333_331 := n9_; have NB332_333 := n10_; have NB333_332 := n11_; clear n0_ n1_ n2_ n3_ n4_ n5_ n6_ n7_ n8_ n9_ n10_ n11_; clear hb hbox hg; have hnb9 := NB333_331.out; have hnc9 := NB331_333.out; have hnb10 := NB333_332.out; have hnc10 := NB332_333.out; have hcz11_0 : w8.cell? ⟨gb333, 0, none⟩ = some (.slice none 0 0) := (blk_cell BK333.out 0).trans rfl; have hcz11_1 : w8.cell? ⟨gb333, 1, none⟩ = some (.slice none 0 0) := (blk_cell BK333.out 1).trans rfl; have hcz11_2 : w8.cell? ⟨gb333, 2, none⟩ = some (.slice none 0 0) := (blk_cell BK333.out 2).trans rfl; have hcz11_3 : w8.cell? ⟨gb333, 3, none⟩ = some (.int .i64 0) := (blk_cell BK333.out 3).trans rfl; have hcz11_4 : w8.cell? ⟨gb333, 4, none⟩ = some (.slice none 0 0) := (blk_cell BK333.out 4).trans rfl; have hfz11_0 := blk_frozen BK333.out 0; have hfz11_1 := blk_frozen BK333.out 1; have hfz11_2 := blk_frozen BK333.out 2; have hfz11_3 := blk_frozen BK333.out 3; have hfz11_4 := blk_frozen BK333.out 4))
  go_loopg [6] k (fun kq v6 w' => ∃ (x6_1 : Int) (x334000_1 : List (S68)) (u334000 : Value), v6 = .int .i64 x6_1 ∧ Aside0 (luciferlaw02_known.l0 kq a1 x6_1 l0_0 l0_1 l0_2 a0_3 l0_4 x334000_1 l0_1 a0_3 = some (r1, r2, r3, r4, r5)) ∧ Aside0 (kq ≤ k) ∧ Aside0 (Kd.R k77 77 w' w0.heap.size (fun k_ => (P0_1_ k_ ∨ w.heap.size ≤ k_)) (.slice none 0 0) ([] : List S77)) ∧ Aside0 (Kd.R k68 68 w' w0.heap.size (fun k_ => (P0_1_ k_ ∨ w.heap.size ≤ k_)) u334000 x334000_1) ∧ Aside0 (Kd.R k77 77 w' w0.heap.size (fun k_ => (P0_1_ k_ ∨ w.heap.size ≤ k_)) (.slice none 0 0) ([] : List S77)) ∧ Aside0 (w'.heap[gb331]? = some (.cells #[(.slice A0_0 l0_0.length c0_0), (.slice Ao3 l0_1.length co3), (.slice A0_2 l0_2.length c0_2), .int .i64 a0_3, (.slice A0_4 l0_4.length c0_4)] 27 (0, 0))) ∧ Aside0 (w'.heap[gb332]? = some (.cells #[(.slice none 0 0), (.slice none 0 0), (.slice none 0 0), .int .i64 0, (.slice none 0 0)] 27 (0, 0))) ∧ Aside0 (w'.heap[gb333]? = some (.cells #[u334000, (.slice Ao3 l0_1.length co3), (.slice none 0 0), .int .i64 a0_3, (.slice none 0 0)] 27 (0, 0))) ∧ Aside0 (Kept w w' (fun k_ => P0_1_ k_)) ∧ Aside0 (Below w0.heap.size w0 w'))
  case atStart => exact ⟨(0), (([] : List (S68))), (.slice none 0 0), (by first | rfl | (simp; done) | (simp [*]; done)), H', ⟨Nat.le_refl _⟩, ⟨by (with_reducible repeat (first | apply Kd.R_alloc | apply Kd.R_drewN | apply Kd.R_drew)); exact Kd.R_mono (Kd.R_far (p := ⟨gb333, 2, none⟩) (Kd.R_far (p := ⟨gb333, 0, none⟩) (Kd.R_far (p := ⟨gb333, 4, none⟩) (Kd.R_far (p := ⟨gb333, 4, none⟩) (Kd.R_far (p := ⟨gb333, 3, none⟩) (Kd.R_far (p := ⟨gb333, 2, none⟩) (Kd.R_far (p := ⟨gb333, 1, none⟩) (Kd.R_far (p := ⟨gb333, 0, none⟩) (Kd.R_types HO0_1.out BK333.out (by decide)) (fun _ hk => hk.2) (.slice A0_0 l0_0.length c0_0)) (fun _ hk => hk.2) (.slice Ao3 l0_1.length co3)) (fun _ hk => hk.2) (.slice A0_2 l0_2.length c0_2)) (fun _ hk => hk.2) (.int .i64 a0_3)) (fun _ hk => hk.2) (.slice A0_4 l0_4.length c0_4)) (fun _ hk => hk.2) (.slice none 0 0)) (fun _ hk => hk.2) (.slice none 0 0)) (fun _ hk => hk.2) (.slice none 0 0)) (fun _ hk => hk.1)⟩, ⟨by first | exact Kd.R_nil _ _ _ _ _ | exact Kd.N_nil _ _ _ _ _ | exact Kd.V_nil _ _ _ _ _ | exact Kd.Q_nil _ _ _ _ _ | exact Kd.S_nil _ _ _ _ _⟩, ⟨by (with_reducible repeat (first | apply Kd.R_alloc | apply Kd.R_drewN | apply Kd.R_drew)); exact Kd.R_mono (Kd.R_far (p := ⟨gb333, 2, none⟩) (Kd.R_far (p := ⟨gb333, 0, none⟩) (Kd.R_far (p := ⟨gb333, 4, none⟩) (Kd.R_far (p := ⟨gb333, 4, none⟩) (Kd.R_far (p := ⟨gb333, 3, none⟩) (Kd.R_far (p := ⟨gb333, 2, none⟩) (Kd.R_far (p := ⟨gb333, 1, none⟩) (Kd.R_far (p := ⟨gb333, 0, none⟩) (Kd.R_types HO0_1.out BK333.out (by decide)) (fun _ hk => hk.2) (.slice A0_0 l0_0.length c0_0)) (fun _ hk => hk.2) (.slice Ao3 l0_1.length co3)) (fun _ hk => hk.2) (.slice A0_2 l0_2.length c0_2)) (fun _ hk => hk.2) (.int .i64 a0_3)) (fun _ hk => hk.2) (.slice A0_4 l0_4.length c0_4)) (fun _ hk => hk.2) (.slice none 0 0)) (fun _ hk => hk.2) (.slice none 0 0)) (fun _ hk => hk.2) (.slice none 0 0)) (fun _ hk => hk.1)⟩, ⟨by (with_reducible repeat (first | refine blk_drewN ?_ _ | refine blk_drew ?_ | refine blk_alloc ?_ _)); refine blk_far ?_ NB331_333.out _; (with_reducible repeat (first | refine blk_drewN ?_ _ | refine blk_drew ?_ | refine blk_alloc ?_ _)); refine blk_far ?_ NB331_333.out _; (with_reducible repeat (first | refine blk_drewN ?_ _ | refine blk_drew ?_ | refine blk_alloc ?_ _)); refine blk_far ?_ NB331_333.out _; (with_reducible repeat (first | refine blk_drewN ?_ _ | refine blk_drew ?_ | refine blk_alloc ?_ _)); refine blk_far ?_ NB331_333.out _; (with_reducible repeat (first | refine blk_drewN ?_ _ | refine blk_drew ?_ | refine blk_alloc ?_ _)); refine blk_far ?_ NB331_333.out _; (with_reducible repeat (first | refine blk_drewN ?_ _ | refine blk_drew ?_ | refine blk_alloc ?_ _)); refine blk_far ?_ NB331_333.out _; (with_reducible repeat (first | refine blk_drewN ?_ _ | refine blk_drew ?_ | refine blk_alloc ?_ _)); refine blk_far ?_ NB331_333.out _; (with_reducible repeat (first | refine blk_drewN ?_ _ | refine blk_drew ?_ | refine blk_alloc ?_ _)); refine blk_far ?_ NB331_333.out _; (with_reducible repeat (first | refine blk_drewN ?_ _ | refine blk_drew ?_ | refine blk_alloc ?_ _)); exact BK331.out⟩, ⟨by (with_reducible repeat (first | refine blk_drewN ?_ _ | refine blk_drew ?_ | refine blk_alloc ?_ _)); refine blk_far ?_ NB332_333.out _; (with_reducible repeat (first | refine blk_drewN ?_ _ | refine blk_drew ?_ | refine blk_alloc ?_ _)); refine blk_far ?_ NB332_333.out _; (with_reducible repeat (first | refine blk_drewN ?_ _ | refine blk_drew ?_ | refine blk_alloc ?_ _)); refine blk_far ?_ NB332_333.out _; (with_reducible repeat (first | refine blk_drewN ?_ _ | refine blk_drew ?_ | refine blk_alloc ?_ _)); refine blk_far ?_ NB332_333.out _; (with_reducible repeat (first | refine blk_drewN ?_ _ | refine blk_drew ?_ | refine blk_alloc ?_ _)); refine blk_far ?_ NB332_333.out _; (with_reducible repeat (first | refine blk_drewN ?_ _ | refine blk_drew ?_ | refine blk_alloc ?_ _)); refine blk_far ?_ NB332_333.out _; (with_reducible repeat (first | refine blk_drewN ?_ _ | refine blk_drew ?_ | refine blk_alloc ?_ _)); refine blk_far ?_ NB332_333.out _; (with_reducible repeat (first | refine blk_drewN ?_ _ | refine blk_drew ?_ | refine blk_alloc ?_ _)); refine blk_far ?_ NB332_333.out _; (with_reducible repeat (first | refine blk_drewN ?_ _ | refine blk_drew ?_ | refine blk_alloc ?_ _)); exact BK332.out⟩, ⟨by (with_reducible repeat (first | refine blk_drewN ?_ _ | refine blk_drew ?_ | refine blk_alloc ?_ _)); refine blk_put (cs := #[.slice none 0 0, .slice Ao3 l0_1.length co3, .slice A0_2 l0_2.length c0_2, .int .i64 a0_3, .slice none 0 0]) ?_ 2 _ rfl; (with_reducible repeat (first | refine blk_drewN ?_ _ | refine blk_drew ?_ | refine blk_alloc ?_ _)); refine blk_put (cs := #[.slice A0_0 l0_0.length c0_0, .slice Ao3 l0_1.length co3, .slice A0_2 l0_2.length c0_2, .int .i64 a0_3, .slice none 0 0]) ?_ 0 _ rfl; (with_reducible repeat (first | refine blk_drewN ?_ _ | refine blk_drew ?_ | refine blk_alloc ?_ _)); refine blk_put (cs := #[.slice A0_0 l0_0.length c0_0, .slice Ao3 l0_1.length co3, .slice A0_2 l0_2.length c0_2, .int .i64 a0_3, .slice A0_4 l0_4.length c0_4]) ?_ 4 _ rfl; (with_reducible repeat (first | refine blk_drewN ?_ _ | refine blk_drew ?_ | refine blk_alloc ?_ _)); refine blk_put (cs := #[.slice A0_0 l0_0.length c0_0, .slice Ao3 l0_1.length co3, .slice A0_2 l0_2.length c0_2, .int .i64 a0_3, .slice none 0 0]) ?_ 4 _ rfl; (with_reducible repeat (first | refine blk_drewN ?_ _ | refine blk_drew ?_ | refine blk_alloc ?_ _)); refine blk_put (cs := #[.slice A0_0 l0_0.length c0_0, .slice Ao3 l0_1.length co3, .slice A0_2 l0_2.length c0_2, .int .i64 0, .slice none 0 0]) ?_ 3 _ rfl; (with_reducible repeat (first | refine blk_drewN ?_ _ | refine blk_drew ?_ | refine blk_alloc ?_ _)); refine blk_put (cs := #[.slice A0_0 l0_0.length c0_0, .slice Ao3 l0_1.length co3, .slice none 0 0, .int .i64 0, .slice none 0 0]) ?_ 2 _ rfl; (with_reducible repeat (first | refine blk_drewN ?_ _ | refine blk_drew ?_ | refine blk_alloc ?_ _)); refine blk_put (cs := #[.slice A0_0 l0_0.length c0_0, .slice none 0 0, .slice none 0 0, .int .i64 0, .slice none 0 0]) ?_ 1 _ rfl; (with_reducible repeat (first | refine blk_drewN ?_ _ | refine blk_drew ?_ | refine blk_alloc ?_ _)); refine blk_put (cs := #[.slice none 0 0, .slice none 0 0, .slice none 0 0, .int .i64 0, .slice none 0 0]) ?_ 0 _ rfl; (with_reducible repeat (first | refine blk_drewN ?_ _ | refine blk_drew ?_ | refine blk_alloc ?_ _)); exact BK333.out⟩, ⟨by repeat (first | (with_reducible first | exact HK.out | apply Kept.alloc | apply Kept.drewN | apply Kept.drew | refine Kept.setCell ?_ (.inr GW331.out) _ | refine Kept.setCell ?_ (.inr GW332.out) _ | refine Kept.setCell ?_ (.inr GW333.out) _) | exact HK.out)⟩, ⟨by repeat (first | (with_reducible first | exact HB.out | apply below_alloc | apply pw_below_drewN | apply below_drew1 | refine below_set ?_ GE331.out | refine below_set ?_ GE332.out | refine below_set ?_ GE333.out) | exact HB.out)⟩⟩
  case round =>
    clear H'
    try clear c1
    try clear c2
    try clear p2
    try clear c6
    try clear c9
    try clear c10
    try clear hcz11_0
    try clear hcz11_1
    try clear hcz11_2
    try clear hcz11_3
    try clear hcz11_4
    try clear hcz7_0
    try clear hcz7_1
    try clear hcz7_2
    try clear hcz7_3
    try clear hcz7_4
    try clear hfz11_0
    try clear hfz11_1
    try clear hfz11_2
    try clear hfz11_3
    try clear hfz11_4
    try clear hfz7_0
    try clear hfz7_1
    try clear hfz7_2
    try clear hfz7_3
    try clear hfz7_4
    obtain ⟨x6_1, x334000_1, u334000, rfl, HA, HK1, HO_332001, HO_334000, HO_334001, BK331, BK332, BK333, HK, HB⟩ := hrel
    cases gk with
    | zero => exact absurd HA.out (by simp [luciferlaw02_known.l0])
    | succ k1 =>
      have H := HA.out
      clear HA
      simp only [luciferlaw02_known.l0] at H
      by_cases c12 : x6_1 < (l0_0.length : Int)
      · rw [if_pos c12] at H
        have c12b0 : decide (x6_1 < (l0_0.length : Int)) = true := decide_eq_true c12
        clear c12
        by_cases c13 : 0 ≤ x6_1
        · rw [if_pos c13] at H
          have c13b0 : decide (0 ≤ x6_1) = true := decide_eq_true c13
          clear c13
          replace H := Option.bind_eq_some_iff.mp H
          obtain ⟨⟨t336, t337⟩, A140, H⟩ := H
          replace H : (if x334000_1.length < 5864062014805 then (luciferlaw02_known.l0 k1 a1 (wrap64 (x6_1 + 1)) l0_0 l0_1 l0_2 a0_3 l0_4 (x334000_1 ++ [(⟨(rd_T68 l0_0 x6_1).f0, (⟨t336, t337⟩ : S39)⟩ : S68)]) l0_1 a0_3) else (none)) = some (r1, r2, r3, r4, r5) := H
          have A14 := Aside0.mk A140
          clear A140
          by_cases c15 : x334000_1.length < 5864062014805
          · rw [if_pos c15] at H
            have LMc15 := Aside0.mk c15
            clear c15
            obtain ⟨y338, hy338⟩ : ∃ y_ : List (S68), y_ = (x334000_1 ++ [(⟨(rd_T68 l0_0 x6_1).f0, (⟨t336, t337⟩ : S39)⟩ : S68)]) := ⟨_, rfl⟩
            replace H : (luciferlaw02_known.l0 k1 a1 (wrap64 (x6_1 + 1)) l0_0 l0_1 l0_2 a0_3 l0_4 y338 l0_1 a0_3) = some (r1, r2, r3, r4, r5) := by first | (rw [hy338]; with_reducible exact H) | (have H2_ := (Option.bind_some _ _).symm.trans H; rw [hy338]; with_reducible exact H2_) | (have H2_ := (Option.bind_some _ _).symm.trans H; with_reducible exact H2_) | with_reducible exact H | (rw [hy338]; exact H) | exact H
            have Ny338 := Aside0.mk hy338
            clear hy338
            have H' := Aside0.mk H
            clear H
            have hnb16 := NB331_332.out
            have hnc16 := NB332_331.out
            have hnb17 := NB331_333.out
            have hnc17 := NB333_331.out
            have hcz18_0 : wr.cell? ⟨gb331, 0, none⟩ = some (.slice A0_0 l0_0.length c0_0) := (blk_cell BK331.out 0).trans rfl
            have hcz18_1 : wr.cell? ⟨gb331, 1, none⟩ = some (.slice Ao3 l0_1.length co3) := (blk_cell BK331.out 1).trans rfl
            have hcz18_2 : wr.cell? ⟨gb331, 2, none⟩ = some (.slice A0_2 l0_2.length c0_2) := (blk_cell BK331.out 2).trans rfl
            have hcz18_3 : wr.cell? ⟨gb331, 3, none⟩ = some (.int .i64 a0_3) := (blk_cell BK331.out 3).trans rfl
            have hcz18_4 : wr.cell? ⟨gb331, 4, none⟩ = some (.slice A0_4 l0_4.length c0_4) := (blk_cell BK331.out 4).trans rfl
            have hfz18_0 := blk_frozen BK331.out 0
            have hfz18_1 := blk_frozen BK331.out 1
            have hfz18_2 := blk_frozen BK331.out 2
            have hfz18_3 := blk_frozen BK331.out 3
            have hfz18_4 := blk_frozen BK331.out 4
            try go_wp2
            have n0_ := Aside0.mk (Kd.R_drew HO_332001.out)
            have n1_ := Aside0.mk (Kd.R_drew HO_334000.out)
            have n2_ := Aside0.mk (Kd.R_drew HO_334001.out)
            have n3_ := Aside0.mk (blk_drew BK331.out)
            have n4_ := Aside0.mk (blk_drew BK332.out)
            have n5_ := Aside0.mk (blk_drew BK333.out)
            have n6_ := Aside0.mk (Kept.drew HK.out)
            have n7_ := Aside0.mk (below_drew1 HB.out)
            clear HO_332001
            clear HO_334000
            clear HO_334001
            clear BK331
            clear BK332
            clear BK333
            clear HK
            clear HB
            have HO_332001 := n0_
            have HO_334000 := n1_
            have HO_334001 := n2_
            have BK331 := n3_
            have BK332 := n4_
            have BK333 := n5_
            have HK := n6_
            have HB := n7_
            clear n0_ n1_ n2_ n3_ n4_ n5_ n6_ n7_
            have p334 : 0 ≤ (x6_1 : Int) := of_decide_eq_true (by first | (with_reducible assumption) | assumption)
            have q334 : x6_1 < (l0_0.length : Int) := of_decide_eq_true (by first | (with_reducible assumption) | assumption)
            obtain ⟨ad334, e334, hx334_0, hx334_1, hx334_2⟩ := at_T68 (Kd.C_kept_now HR0_0.out HK.out) x6_1 p334 q334
            have hw334_2 := hx334_2
            have hw334_1 := hx334_1
            have hw334_0 := hx334_0
            cases e334
            replace p334 := eq_true p334
            replace q334 := eq_true q334
            have p335 : 0 ≤ (x6_1 : Int) := of_decide_eq_true (by first | (with_reducible assumption) | assumption)
            have q335 : x6_1 < (l0_0.length : Int) := of_decide_eq_true (by first | (with_reducible assumption) | assumption)
            obtain ⟨ad335, e335, hx335_0, hx335_1, hx335_2⟩ := at_T68 (Kd.C_kept_now HR0_0.out HK.out) x6_1 p335 q335
            have hw335_2 := hx335_2
            have hw335_1 := hx335_1
            have hw335_0 := hx335_0
            obtain rfl : ad334 = ad335 := (by injection e335)
            replace p335 := eq_true p335
            replace q335 := eq_true q335
            refine start_ (n := 21) (S := fun w' => w'.cell? ⟨gb333, 0, none⟩ = some (u334000) ∧ w'.cell? ⟨gb333, 1, none⟩ = some (.slice Ao3 l0_1.length co3) ∧ w'.cell? ⟨gb333, 2, none⟩ = some (.slice none 0 0) ∧ w'.cell? ⟨gb333, 3, none⟩ = some (.int .i64 a0_3) ∧ w'.cell? ⟨gb333, 4, none⟩ = some (.slice none 0 0) ∧ w'.cell? ⟨gb331, 0, none⟩ = some (.slice (some ad334) l0_0.length c0_0) ∧ w'.cell? ⟨gb331, 1, none⟩ = some (.slice Ao3 l0_1.length co3) ∧ w'.cell? ⟨gb331, 2, none⟩ = some (.slice A0_2 l0_2.length c0_2) ∧ w'.cell? ⟨gb331, 3, none⟩ = some (.int .i64 a0_3) ∧ w'.cell? ⟨gb331, 4, none⟩ = some (.slice A0_4 l0_4.length c0_4) ∧ w'.cell? (ad334.add ((x6_1).toNat * 3)) = some (.int .i64 ((rd_T68 l0_0 x6_1).f0)) ∧ w'.cell? ⟨(ad334.add ((x6_1).toNat * 3)).block, (ad334.add ((x6_1).toNat * 3)).off + 1, none⟩ = some (.int .i64 ((rd_T68 l0_0 x6_1).f1.f0)) ∧ w'.cell? ⟨(ad334.add ((x6_1).toNat * 3)).block, (ad334.add ((x6_1).toNat * 3)).off + 2, none⟩ = some (.int .i64 ((rd_T68 l0_0 x6_1).f1.f1)) ∧ w'.cell? (ad334.add ((x6_1).toNat * 3)) = some (.int .i64 ((rd_T68 l0_0 x6_1).f0)) ∧ w'.cell? ⟨(ad334.add ((x6_1).toNat * 3)).block, (ad334.add ((x6_1).toNat * 3)).off + 1, none⟩ = some (.int .i64 ((rd_T68 l0_0 x6_1).f1.f0)) ∧ w'.cell? ⟨(ad334.add ((x6_1).toNat * 3)).block, (ad334.add ((x6_1).toNat * 3)).off + 2, none⟩ = some (.int .i64 ((rd_T68 l0_0 x6_1).f1.f1))) (ds := [18, 20]) #[false, false, false, false, false, false, false, false, false, false, false, false, false, false, false, false, false, false, false, false, false] (by kernel_rfl) rfl rfl ⟨(blk_cell BK333.out 0).trans rfl, (blk_cell BK333.out 1).trans rfl, (blk_cell BK333.out 2).trans rfl, (blk_cell BK333.out 3).trans rfl, (blk_cell BK333.out 4).trans rfl, (blk_cell BK331.out 0).trans rfl, (blk_cell BK331.out 1).trans rfl, (blk_cell BK331.out 2).trans rfl, (blk_cell BK331.out 3).trans rfl, (blk_cell BK331.out 4).trans rfl, hx334_0, hx334_1, hx334_2, hx335_0, hx335_1, hx335_2⟩ (fun hHeld => ?_); refine with_tabW luciferlaw02_known.tab6 luciferlaw02_known.bits6 (fun HT_ HW_ => ?_)
            generalize wr.drew = w19 at HO_332001 HO_334000 HO_334001 BK331 BK332 BK333 HK HB hx334_0 hx334_1 hx334_2 hx335_0 hx335_1 hx335_2 hHeld ⊢
            refine pure_ (i := 0) (N := some 20) (v := ?_) (a' := ?_) #[true, false, false, false, false, false, false, false, false, false, false, false, false, false, false, false, false, false, false, false, false] rfl rfl (any_of HT_.out (by kernel_rfl)) (fun _ _ _ h => h) (Or.inl ⟨by rfl, ?_⟩) ?_ ?_
            rotate_left
            · intro w'
              go_simp
              with_reducible rfl
            rotate_left
            · simp only [Act.put, List.setIfInBounds_toArray, List.set_cons_zero, List.set_cons_succ, i64_w, i32_w]
              rfl
            refine pure_ (i := 2) (N := some 22) (v := ?_) (a' := ?_) #[true, false, true, false, false, false, false, false, false, false, false, false, false, false, false, false, false, false, false, false, false] rfl rfl (any_of HT_.out (by kernel_rfl)) (fun _ _ _ h => h) (Or.inl ⟨by rfl, ?_⟩) ?_ ?_
            rotate_left
            · intro w'
              go_simp
              with_reducible rfl
            rotate_left
            · simp only [Act.put, List.setIfInBounds_toArray, List.set_cons_zero, List.set_cons_succ, i64_w, i32_w]
              rfl
            refine pure_ (i := 4) (N := some 24) (v := ?_) (a' := ?_) #[true, false, true, false, true, false, false, false, false, false, false, false, false, false, false, false, false, false, false, false, false] rfl rfl (any_of HT_.out (by kernel_rfl)) (fun _ _ _ h => h) (Or.inl ⟨by rfl, ?_⟩) ?_ ?_
            rotate_left
            · intro w'
              go_simp
              with_reducible rfl
            rotate_left
            · simp only [Act.put, List.setIfInBounds_toArray, List.set_cons_zero, List.set_cons_succ, i64_w, i32_w]
              rfl
            refine pure_ (i := 8) (N := some 28) (v := ?_) (a' := ?_) #[true, false, true, false, true, false, false, false, true, false, false, false, false, false, false, false, false, false, false, false, false] rfl rfl (any_of HT_.out (by kernel_rfl)) (fun _ _ _ h => h) (Or.inl ⟨by rfl, ?_⟩) ?_ ?_
            rotate_left
            · intro w'
              go_simp
              with_reducible rfl
            rotate_left
            · simp only [Act.put, List.setIfInBounds_toArray, List.set_cons_zero, List.set_cons_succ, i64_w, i32_w]
              rfl
            refine pure_ (i := 10) (N := some 30) (v := ?_) (a' := ?_) #[true, false, true, false, true, false, false, false, true, false, true, false, false, false, false, false, false, false, false, false, false] rfl rfl (any_of HT_.out (by kernel_rfl)) (fun _ _ _ h => h) (Or.inl ⟨by rfl, ?_⟩) ?_ ?_
            rotate_left
            · intro w'
              go_simp
              with_reducible rfl
            rotate_left
            · simp only [Act.put, List.setIfInBounds_toArray, List.set_cons_zero, List.set_cons_succ, i64_w, i32_w]
              rfl
            refine pure_ (i := 14) (N := some 34) (v := ?_) (a' := ?_) #[true, false, true, false, true, false, false, false, true, false, true, false, false, false, true, false, false, false, false, false, false] rfl rfl (any_of HT_.out (by kernel_rfl)) (fun _ _ _ h => h) (Or.inl ⟨by rfl, ?_⟩) ?_ ?_
            rotate_left
            · intro w'
              go_simp
              with_reducible rfl
            rotate_left
            · simp only [Act.put, List.setIfInBounds_toArray, List.set_cons_zero, List.set_cons_succ, i64_w, i32_w]
              rfl
            refine take_ (i := 1) (N := some 21) (v := ?_) (a' := ?_) #[true, true, true, false, true, false, false, false, true, false, true, false, false, false, true, false, false, false, false, false, false] rfl rfl (take_ofW HT_.out HW_.out (by kernel_rfl)) (fun _ _ _ h => h) (Or.inl ⟨by rfl, ?_⟩) hHeld ?_ ?_
            rotate_left
            · rintro w' ⟨s0, s1, s2, s3, s4, s5, s6, s7, s8, s9, s10, s11, s12, s13, s14, s15⟩
              go_simp
              with_reducible rfl
            rotate_left
            · simp only [Act.put, List.setIfInBounds_toArray, List.set_cons_zero, List.set_cons_succ, i64_w, i32_w]
              rfl
            refine take_ (i := 3) (N := some 23) (v := ?_) (a' := ?_) #[true, true, true, true, true, false, false, false, true, false, true, false, false, false, true, false, false, false, false, false, false] rfl rfl (take_ofW HT_.out HW_.out (by kernel_rfl)) (fun _ _ _ h => h) (Or.inl ⟨by rfl, ?_⟩) hHeld ?_ ?_
            rotate_left
            · rintro w' ⟨s0, s1, s2, s3, s4, s5, s6, s7, s8, s9, s10, s11, s12, s13, s14, s15⟩
              go_simp
              with_reducible rfl
            rotate_left
            · simp only [Act.put, List.setIfInBounds_toArray, List.set_cons_zero, List.set_cons_succ, i64_w, i32_w]
              rfl
            refine pure_ (i := 5) (N := some 25) (v := ?_) (a' := ?_) #[true, true, true, true, true, true, false, false, true, false, true, false, false, false, true, false, false, false, false, false, false] rfl rfl (any_of HT_.out (by kernel_rfl)) (fun _ _ _ h => h) (Or.inl ⟨by rfl, ?_⟩) ?_ ?_
            rotate_left
            · intro w'
              go_simp
              with_reducible rfl
            rotate_left
            · simp only [Act.put, List.setIfInBounds_toArray, List.set_cons_zero, List.set_cons_succ, i64_w, i32_w]
              rfl
            refine pure_ (i := 6) (N := some 26) (v := ?_) (a' := ?_) #[true, true, true, true, true, true, true, false, true, false, true, false, false, false, true, false, false, false, false, false, false] rfl rfl (any_of HT_.out (by kernel_rfl)) (fun _ _ _ h => h) (Or.inl ⟨by rfl, ?_⟩) ?_ ?_
            rotate_left
            · intro w'
              go_simp
              with_reducible rfl
            rotate_left
            · simp only [Act.put, List.setIfInBounds_toArray, List.set_cons_zero, List.set_cons_succ, i64_w, i32_w]
              rfl
            refine take_ (i := 7) (N := some 27) (v := ?_) (a' := ?_) #[true, true, true, true, true, true, true, true, true, false, true, false, false, false, true, false, false, false, false, false, false] rfl rfl (take_ofW HT_.out HW_.out (by kernel_rfl)) (fun _ _ _ h => h) (Or.inl ⟨by rfl, ?_⟩) hHeld ?_ ?_
            rotate_left
            · rintro w' ⟨s0, s1, s2, s3, s4, s5, s6, s7, s8, s9, s10, s11, s12, s13, s14, s15⟩
              go_simp
              with_reducible rfl
            rotate_left
            · simp only [Act.put, List.setIfInBounds_toArray, List.set_cons_zero, List.set_cons_succ, i64_w, i32_w]
              rfl
            refine take_ (i := 9) (N := some 29) (v := ?_) (a' := ?_) #[true, true, true, true, true, true, true, true, true, true, true, false, false, false, true, false, false, false, false, false, false] rfl rfl (take_ofW HT_.out HW_.out (by kernel_rfl)) (fun _ _ _ h => h) (Or.inl ⟨by rfl, ?_⟩) hHeld ?_ ?_
            rotate_left
            · rintro w' ⟨s0, s1, s2, s3, s4, s5, s6, s7, s8, s9, s10, s11, s12, s13, s14, s15⟩
              go_simp
              with_reducible rfl
            rotate_left
            · simp only [Act.put, List.setIfInBounds_toArray, List.set_cons_zero, List.set_cons_succ, i64_w, i32_w]
              rfl
            refine pure_ (i := 11) (N := some 31) (v := ?_) (a' := ?_) #[true, true, true, true, true, true, true, true, true, true, true, true, false, false, true, false, false, false, false, false, false] rfl rfl (any_of HT_.out (by kernel_rfl)) (fun _ _ _ h => h) (Or.inl ⟨by rfl, ?_⟩) ?_ ?_
            rotate_left
            · intro w'
              go_simp
              with_reducible rfl
            rotate_left
            · simp only [Act.put, List.setIfInBounds_toArray, List.set_cons_zero, List.set_cons_succ, i64_w, i32_w]
              rfl
            refine pure_ (i := 12) (N := some 32) (v := ?_) (a' := ?_) #[true, true, true, true, true, true, true, true, true, true, true, true, true, false, true, false, false, false, false, false, false] rfl rfl (any_of HT_.out (by kernel_rfl)) (fun _ _ _ h => h) (Or.inl ⟨by rfl, ?_⟩) ?_ ?_
            rotate_left
            · intro w'
              go_simp
              with_reducible rfl
            rotate_left
            · simp only [Act.put, List.setIfInBounds_toArray, List.set_cons_zero, List.set_cons_succ, i64_w, i32_w]
              rfl
            refine take_ (i := 13) (N := some 33) (v := ?_) (a' := ?_) #[true, true, true, true, true, true, true, true, true, true, true, true, true, true, true, false, false, false, false, false, false] rfl rfl (take_ofW HT_.out HW_.out (by kernel_rfl)) (fun _ _ _ h => h) (Or.inl ⟨by rfl, ?_⟩) hHeld ?_ ?_
            rotate_left
            · rintro w' ⟨s0, s1, s2, s3, s4, s5, s6, s7, s8, s9, s10, s11, s12, s13, s14, s15⟩
              go_simp
              with_reducible rfl
            rotate_left
            · simp only [Act.put, List.setIfInBounds_toArray, List.set_cons_zero, List.set_cons_succ, i64_w, i32_w]
              rfl
            refine one_ (i := 15) (N := some 35) #[true, true, true, true, true, true, true, true, true, true, true, true, true, true, true, true, false, false, false, false, false] rfl rfl (one_of HT_.out (by kernel_rfl)) (by decide) (fun K hK => ?_)
            refine goes_ Tryd.func67 (by kernel_rfl) rfl #[.agg #[.int .i64 ((rd_T68 l0_0 x6_1).f1.f0), .int .i64 ((rd_T68 l0_0 x6_1).f1.f1)], .bool a1] (by rfl) rfl rfl (by (try simp only [List.map_toArray, List.map_cons, List.map_nil]); first | done | rfl | (simp only [List.length_drop, List.length_take]; rfl)) ?_
            with_reducible refine (luciferlaw02_end.calls ((rd_T68 l0_0 x6_1).f1.f0) ((rd_T68 l0_0 x6_1).f1.f1) a1 t336 t337 _ A14.out).mono ?_
            rintro e w20 ⟨rfl, hb⟩
            have HS10_ := (hb.cell (World.block_lt_of_cell? _ _ (hHeld.2.2.2.2.2.2.2.2.2.2.1))).trans (hHeld.2.2.2.2.2.2.2.2.2.2.1)
            have HS11_ := (hb.cell (World.block_lt_of_cell? _ _ (hHeld.2.2.2.2.2.2.2.2.2.2.2.1))).trans (hHeld.2.2.2.2.2.2.2.2.2.2.2.1)
            have HS12_ := (hb.cell (World.block_lt_of_cell? _ _ (hHeld.2.2.2.2.2.2.2.2.2.2.2.2.1))).trans (hHeld.2.2.2.2.2.2.2.2.2.2.2.2.1)
            have HS13_ := (hb.cell (World.block_lt_of_cell? _ _ (hHeld.2.2.2.2.2.2.2.2.2.2.2.2.2.1))).trans (hHeld.2.2.2.2.2.2.2.2.2.2.2.2.2.1)
            have HS14_ := (hb.cell (World.block_lt_of_cell? _ _ (hHeld.2.2.2.2.2.2.2.2.2.2.2.2.2.2.1))).trans (hHeld.2.2.2.2.2.2.2.2.2.2.2.2.2.2.1)
            have HS15_ := (hb.cell (World.block_lt_of_cell? _ _ (hHeld.2.2.2.2.2.2.2.2.2.2.2.2.2.2.2))).trans (hHeld.2.2.2.2.2.2.2.2.2.2.2.2.2.2.2)
            refine ⟨_, rfl, ?_⟩
            have n0_ := Aside0.mk (Kd.R_below (by (with_reducible repeat (first | apply Kd.R_alloc | apply Kd.R_drewN | apply Kd.R_drew)); exact HO_332001.out) hb)
            have n1_ := Aside0.mk (Kd.R_below (by (with_reducible repeat (first | apply Kd.R_alloc | apply Kd.R_drewN | apply Kd.R_drew)); exact HO_334000.out) hb)
            have n2_ := Aside0.mk (Kd.R_below (by (with_reducible repeat (first | apply Kd.R_alloc | apply Kd.R_drewN | apply Kd.R_drew)); exact HO_334001.out) hb)
            have n3_ := Aside0.mk (blk_below (g := gb331) (o := .cells #[.slice (some ad334) l0_0.length c0_0, .slice Ao3 l0_1.length co3, .slice A0_2 l0_2.length c0_2, .int .i64 a0_3, .slice A0_4 l0_4.length c0_4] 27 (0, 0)) (by (with_reducible repeat (first | refine blk_drewN ?_ _ | refine blk_drew ?_ | refine blk_alloc ?_ _)); exact BK331.out) hb)
            have n4_ := Aside0.mk (blk_below (g := gb332) (o := .cells #[.slice none 0 0, .slice none 0 0, .slice none 0 0, .int .i64 0, .slice none 0 0] 27 (0, 0)) (by (with_reducible repeat (first | refine blk_drewN ?_ _ | refine blk_drew ?_ | refine blk_alloc ?_ _)); exact BK332.out) hb)
            have n5_ := Aside0.mk (blk_below (g := gb333) (o := .cells #[u334000, .slice Ao3 l0_1.length co3, .slice none 0 0, .int .i64 a0_3, .slice none 0 0] 27 (0, 0)) (by (with_reducible repeat (first | refine blk_drewN ?_ _ | refine blk_drew ?_ | refine blk_alloc ?_ _)); exact BK333.out) hb)
            have n6_ := Aside0.mk (Kept.below (S := (fun k_ => P0_1_ k_)) (by repeat (first | (with_reducible first | exact HK.out | apply Kept.alloc | apply Kept.drewN | apply Kept.drew | refine Kept.setCell ?_ (.inr GW331.out) _ | refine Kept.setCell ?_ (.inr GW332.out) _ | refine Kept.setCell ?_ (.inr GW333.out) _) | exact HK.out)) hb)
            have n7_ := Aside0.mk (below_step (by repeat (first | (with_reducible first | exact HB.out | apply below_alloc | apply pw_below_drewN | apply below_drew1 | refine below_set ?_ GE331.out | refine below_set ?_ GE332.out | refine below_set ?_ GE333.out) | exact HB.out)) hb)
            clear HO_332001
            clear HO_334000
            clear HO_334001
            clear BK331
            clear BK332
            clear BK333
            clear HK
            clear HB
            have HO_332001 := n0_
            have HO_334000 := n1_
            have HO_334001 := n2_
            have BK331 := n3_
            have BK332 := n4_
            have BK333 := n5_
            have HK := n6_
            have HB := n7_
            clear n0_ n1_ n2_ n3_ n4_ n5_ n6_ n7_
            (try clear hb)
            (try clear hb2)
            (try clear hk)
            (try clear hi)
            refine hK.out _ _ ⟨(blk_cell BK333.out 0).trans rfl, (blk_cell BK333.out 1).trans rfl, (blk_cell BK333.out 2).trans rfl, (blk_cell BK333.out 3).trans rfl, (blk_cell BK333.out 4).trans rfl, (blk_cell BK331.out 0).trans rfl, (blk_cell BK331.out 1).trans rfl, (blk_cell BK331.out 2).trans rfl, (blk_cell BK331.out 3).trans rfl, (blk_cell BK331.out 4).trans rfl, HS10_, HS11_, HS12_, HS13_, HS14_, HS15_⟩ (fun hHeld => ?_)
            clear hK K
            refine norm_ (a' := ?_) ?_ ?_
            rotate_left
            · show Act.put _ (some 35) _ = _
              simp only [Act.put, List.setIfInBounds_toArray, List.set_cons_zero, List.set_cons_succ, i64_w, i32_w]
              rfl
            refine pure_ (i := 16) (N := some 36) (v := ?_) (a' := ?_) #[true, true, true, true, true, true, true, true, true, true, true, true, true, true, true, true, true, false, false, false, false] rfl rfl (any_of HT_.out (by kernel_rfl)) (fun _ _ _ h => h) (Or.inl ⟨by rfl, ?_⟩) ?_ ?_
            rotate_left
            · intro w'
              go_simp
              with_reducible rfl
            rotate_left
            · simp only [Act.put, List.setIfInBounds_toArray, List.set_cons_zero, List.set_cons_succ, i64_w, i32_w]
              rfl
            refine one_ (i := 17) (N := some 37) #[true, true, true, true, true, true, true, true, true, true, true, true, true, true, true, true, true, true, false, false, false] rfl rfl (one_of HT_.out (by kernel_rfl)) (by decide) (fun K hK => ?_)
            refine value_ (w1 := ?_) (v := ?_) (by rfl) rfl ?_ ?_
            rotate_left 2
            · go_simp
              constructor
              · rfl
              · rfl
            refine hK.out _ _ ⟨(blk_cell (blk_alloc BK333.out _) 0).trans rfl, (blk_cell (blk_alloc BK333.out _) 1).trans rfl, (blk_cell (blk_alloc BK333.out _) 2).trans rfl, (blk_cell (blk_alloc BK333.out _) 3).trans rfl, (blk_cell (blk_alloc BK333.out _) 4).trans rfl, (blk_cell (blk_alloc BK331.out _) 0).trans rfl, (blk_cell (blk_alloc BK331.out _) 1).trans rfl, (blk_cell (blk_alloc BK331.out _) 2).trans rfl, (blk_cell (blk_alloc BK331.out _) 3).trans rfl, (blk_cell (blk_alloc BK331.out _) 4).trans rfl, (World.cell?_alloc_lt _ _ _ (World.block_lt_of_cell? _ _ (hHeld.2.2.2.2.2.2.2.2.2.2.1))).trans (hHeld.2.2.2.2.2.2.2.2.2.2.1), (World.cell?_alloc_lt _ _ _ (World.block_lt_of_cell? _ _ (hHeld.2.2.2.2.2.2.2.2.2.2.2.1))).trans (hHeld.2.2.2.2.2.2.2.2.2.2.2.1), (World.cell?_alloc_lt _ _ _ (World.block_lt_of_cell? _ _ (hHeld.2.2.2.2.2.2.2.2.2.2.2.2.1))).trans (hHeld.2.2.2.2.2.2.2.2.2.2.2.2.1), (World.cell?_alloc_lt _ _ _ (World.block_lt_of_cell? _ _ (hHeld.2.2.2.2.2.2.2.2.2.2.2.2.2.1))).trans (hHeld.2.2.2.2.2.2.2.2.2.2.2.2.2.1), (World.cell?_alloc_lt _ _ _ (World.block_lt_of_cell? _ _ (hHeld.2.2.2.2.2.2.2.2.2.2.2.2.2.2.1))).trans (hHeld.2.2.2.2.2.2.2.2.2.2.2.2.2.2.1), (World.cell?_alloc_lt _ _ _ (World.block_lt_of_cell? _ _ (hHeld.2.2.2.2.2.2.2.2.2.2.2.2.2.2.2))).trans (hHeld.2.2.2.2.2.2.2.2.2.2.2.2.2.2.2)⟩ (fun hHeld => ?_)
            clear hK K
            refine norm_ (a' := ?_) ?_ ?_
            rotate_left
            · show Act.put _ (some 37) _ = _
              simp only [Act.put, List.setIfInBounds_toArray, List.set_cons_zero, List.set_cons_succ, i64_w, i32_w]
              rfl
            refine last_ (i := 18) (N := some 38) #[true, true, true, true, true, true, true, true, true, true, true, true, true, true, true, true, true, true, true, false, false] rfl rfl (one_of HT_.out (by kernel_rfl)) (by decide) (fun K hK => ?_)
            refine Kd.R_append_step k68 (w0 := w0) w0.heap.size (by rfl) (.tmp 21) (.tmp 37) 22 68 (.agg #[(.int .i64 0), (.int .i64 0), (.int .i64 0)]) 24 rfl Tryd.underlying22 info68 rfl (by decide) (by omega) u334000 x334000_1 (⟨(rd_T68 l0_0 x6_1).f0, (⟨t336, t337⟩ : S39)⟩ : S68) [.int .i64 ((rd_T68 l0_0 x6_1).f0), .int .i64 t336, .int .i64 t337] (fun k_ => (P0_1_ k_ ∨ w.heap.size ≤ k_)) (fun _ => False) rfl rfl ?aP (fun _ hk => hk.elim) ?aF ?aO ?aB ?aS ?aL ?_
            (case aP => exact k68_mkM _ _ _ (⟨(rd_T68 l0_0 x6_1).f0, (⟨t336, t337⟩ : S39)⟩ : S68))
            (case aB => exact (by repeat (first | (with_reducible first | exact HB.out | apply below_alloc | apply pw_below_drewN | apply below_drew1 | refine below_set ?_ GE331.out | refine below_set ?_ GE332.out | refine below_set ?_ GE333.out) | exact HB.out)))
            (case aF => exact (fun k_ hk => (.inr (Nat.le_trans (by first | exact HK.out.1 | exact (show Kept w _ (fun k_ => P0_1_ k_) from by repeat (first | (with_reducible first | exact HK.out | apply Kept.alloc | apply Kept.drewN | apply Kept.drew | refine Kept.setCell ?_ (.inr GW331.out) _ | refine Kept.setCell ?_ (.inr GW332.out) _ | refine Kept.setCell ?_ (.inr GW333.out) _) | exact HK.out)).1) hk))))
            (case aO => exact (by (with_reducible repeat (first | apply Kd.R_alloc | apply Kd.R_drewN | apply Kd.R_drew)); exact HO_334000.out))
            (case aS => exact (below_size (by repeat (first | (with_reducible first | exact HB.out | apply below_alloc | apply pw_below_drewN | apply below_drew1 | refine below_set ?_ GE331.out | refine below_set ?_ GE332.out | refine below_set ?_ GE333.out) | exact HB.out))))
            (case aL => have := LMc15.out; omega)
            intro v339 w21 ho hb hg hat
            rw [← Ny338.out] at ho
            have n0_ := Aside0.mk (Kd.R_over' (by (with_reducible repeat (first | apply Kd.R_alloc | apply Kd.R_drewN | apply Kd.R_drew)); exact HO_332001.out) (Kd.R_typed (by (with_reducible repeat (first | apply Kd.R_alloc | apply Kd.R_drewN | apply Kd.R_drew)); exact HO_334000.out)) (by decide) hg)
            have n1_ := Aside0.mk (Kd.R_over' (by (with_reducible repeat (first | apply Kd.R_alloc | apply Kd.R_drewN | apply Kd.R_drew)); exact HO_334001.out) (Kd.R_typed (by (with_reducible repeat (first | apply Kd.R_alloc | apply Kd.R_drewN | apply Kd.R_drew)); exact HO_334000.out)) (by decide) hg)
            have n2_ := Aside0.mk (blk_grown (g := gb331) (o := .cells #[.slice (some ad334) l0_0.length c0_0, .slice Ao3 l0_1.length co3, .slice A0_2 l0_2.length c0_2, .int .i64 a0_3, .slice A0_4 l0_4.length c0_4] 27 (0, 0)) (by (with_reducible repeat (first | refine blk_drewN ?_ _ | refine blk_drew ?_ | refine blk_alloc ?_ _)); exact BK331.out) hg (Kd.R_ne HO_334000.out BK331.out (by decide)))
            have n3_ := Aside0.mk (blk_grown (g := gb332) (o := .cells #[.slice none 0 0, .slice none 0 0, .slice none 0 0, .int .i64 0, .slice none 0 0] 27 (0, 0)) (by (with_reducible repeat (first | refine blk_drewN ?_ _ | refine blk_drew ?_ | refine blk_alloc ?_ _)); exact BK332.out) hg (Kd.R_ne HO_334000.out BK332.out (by decide)))
            have n4_ := Aside0.mk (blk_grown (g := gb333) (o := .cells #[u334000, .slice Ao3 l0_1.length co3, .slice none 0 0, .int .i64 a0_3, .slice none 0 0] 27 (0, 0)) (by (with_reducible repeat (first | refine blk_drewN ?_ _ | refine blk_drew ?_ | refine blk_alloc ?_ _)); exact BK333.out) hg (Kd.R_ne HO_334000.out BK333.out (by decide)))
            have n5_ := Aside0.mk (hb)
            have n6_ := Aside0.mk (Kept.of_grown (S := (fun k_ => P0_1_ k_)) hg (by repeat (first | (with_reducible first | exact HK.out | apply Kept.alloc | apply Kept.drewN | apply Kept.drew | refine Kept.setCell ?_ (.inr GW331.out) _ | refine Kept.setCell ?_ (.inr GW332.out) _ | refine Kept.setCell ?_ (.inr GW333.out) _) | exact HK.out)) (fun k_ e_ => (HO_334000.out.1 k_ e_)))
            have n7_ := Aside0.mk (ho)
            clear HO_332001
            clear HO_334001
            clear BK331
            clear BK332
            clear BK333
            clear HB
            clear HK
            clear HO_334000
            have HO_332001 := n0_
            have HO_334001 := n1_
            have BK331 := n2_
            have BK332 := n3_
            have BK333 := n4_
            have HB := n5_
            have HK := n6_
            have HO340 := n7_
            clear n0_ n1_ n2_ n3_ n4_ n5_ n6_ n7_
            clear ho hb hg hat
            obtain ⟨Ao22, co22, eo22⟩ := Kd.R_slice HO340.out
            (first | subst eo22 | (injection eo22 with f1_ f2_ f3_; have f4_ := f1_.symm; have f5_ := f3_.symm; clear f1_ f2_ f3_; subst f4_; subst f5_))
            refine hK.out _ _ ?_
            clear hK K
            refine norm_ (a' := ?_) ?_ ?_
            rotate_left
            · show Act.put _ (some 38) _ = _
              simp only [Act.put, List.setIfInBounds_toArray, List.set_cons_zero, List.set_cons_succ, i64_w, i32_w]
              rfl
            refine pure_ (i := 19) (N := some 39) (v := ?_) (a' := ?_) #[true, true, true, true, true, true, true, true, true, true, true, true, true, true, true, true, true, true, true, true, false] rfl rfl (any_of HT_.out (by kernel_rfl)) (fun _ _ _ h => h) (Or.inl ⟨by rfl, ?_⟩) ?_ ?_
            rotate_left
            · intro w'
              go_simp
              with_reducible rfl
            rotate_left
            · simp only [Act.put, List.setIfInBounds_toArray, List.set_cons_zero, List.set_cons_succ, i64_w, i32_w]
              rfl
            refine last_ (i := 20) (N := none) #[true, true, true, true, true, true, true, true, true, true, true, true, true, true, true, true, true, true, true, true, true] rfl rfl (one_of HT_.out (by kernel_rfl)) (by decide) (fun K hK => ?_)
            have hs23 : w21.cell? ⟨gb333, 0, none⟩ = some (u334000) := (blk_cell BK333.out 0).trans rfl
            have hfs23 := blk_frozen BK333.out 0
            have hns23_0 := NB331_333.out
            have hns23_1 := NB332_333.out
            have hms23_0 := NB333_331.out
            have hms23_1 := NB333_332.out
            refine skip_ (w1 := ?_) (by rfl) rfl ?_ ?_
            rotate_left
            · go_simp
              rfl
            refine hK.out _ _ ?_
            clear hK K
            refine done_ (done_of HT_.out (by kernel_rfl)) ?_
            try go_wp2
            go_roundg k1
            case measure => have := HK1.out; omega
            case rel => exact ⟨(wrap64 (x6_1 + 1)), (y338), (.slice Ao22 y338.length co22), (by first | rfl | (simp; done) | (simp [*]; done)), H', ⟨by have := HK1.out; omega⟩, ⟨by (with_reducible repeat (first | apply Kd.R_alloc | apply Kd.R_drewN | apply Kd.R_drew)); exact Kd.R_mono (Kd.R_far (p := ⟨gb333, 0, none⟩) (Kd.R_types HO_332001.out BK333.out (by decide)) (fun _ hk => hk.2) (.slice Ao22 y338.length co22)) (fun _ hk => hk.1)⟩, ⟨by (with_reducible repeat (first | apply Kd.R_alloc | apply Kd.R_drewN | apply Kd.R_drew)); exact Kd.R_mono (Kd.R_far (p := ⟨gb333, 0, none⟩) (Kd.R_types HO340.out BK333.out (by decide)) (fun _ hk => hk.2) (.slice Ao22 y338.length co22)) (fun _ hk => hk.1)⟩, ⟨by (with_reducible repeat (first | apply Kd.R_alloc | apply Kd.R_drewN | apply Kd.R_drew)); exact Kd.R_mono (Kd.R_far (p := ⟨gb333, 0, none⟩) (Kd.R_types HO_334001.out BK333.out (by decide)) (fun _ hk => hk.2) (.slice Ao22 y338.length co22)) (fun _ hk => hk.1)⟩, ⟨by (with_reducible repeat (first | refine blk_drewN ?_ _ | refine blk_drew ?_ | refine blk_alloc ?_ _)); refine blk_far ?_ NB331_333.out _; (with_reducible repeat (first | refine blk_drewN ?_ _ | refine blk_drew ?_ | refine blk_alloc ?_ _)); exact BK331.out⟩, ⟨by (with_reducible repeat (first | refine blk_drewN ?_ _ | refine blk_drew ?_ | refine blk_alloc ?_ _)); refine blk_far ?_ NB332_333.out _; (with_reducible repeat (first | refine blk_drewN ?_ _ | refine blk_drew ?_ | refine blk_alloc ?_ _)); exact BK332.out⟩, ⟨by (with_reducible repeat (first | refine blk_drewN ?_ _ | refine blk_drew ?_ | refine blk_alloc ?_ _)); refine blk_put (cs := #[u334000, .slice Ao3 l0_1.length co3, .slice none 0 0, .int .i64 a0_3, .slice none 0 0]) ?_ 0 _ rfl; (with_reducible repeat (first | refine blk_drewN ?_ _ | refine blk_drew ?_ | refine blk_alloc ?_ _)); exact BK333.out⟩, ⟨by repeat (first | (with_reducible first | exact HK.out | apply Kept.alloc | apply Kept.drewN | apply Kept.drew | refine Kept.setCell ?_ (.inr GW331.out) _ | refine Kept.setCell ?_ (.inr GW332.out) _ | refine Kept.setCell ?_ (.inr GW333.out) _) | exact HK.out)⟩, ⟨by repeat (first | (with_reducible first | exact HB.out | apply below_alloc | apply pw_below_drewN | apply below_drew1 | refine below_set ?_ GE331.out | refine below_set ?_ GE332.out | refine below_set ?_ GE333.out) | exact HB.out)⟩⟩
          · rw [if_neg c15] at H
            exact absurd H (by simp)
        · rw [if_neg c13] at H
          exact absurd H (by simp)
      · rw [if_neg c12] at H
        have c12b0 : decide (x6_1 < (l0_0.length : Int)) = false := decide_eq_false c12
        clear c12
        have H' := Aside0.mk H
        clear H
        have hnb24 := NB331_332.out
        have hnc24 := NB332_331.out
        have hnb25 := NB331_333.out
        have hnc25 := NB333_331.out
        have hcz26_0 : wr.cell? ⟨gb331, 0, none⟩ = some (.slice A0_0 l0_0.length c0_0) := (blk_cell BK331.out 0).trans rfl
        have hcz26_1 : wr.cell? ⟨gb331, 1, none⟩ = some (.slice Ao3 l0_1.length co3) := (blk_cell BK331.out 1).trans rfl
        have hcz26_2 : wr.cell? ⟨gb331, 2, none⟩ = some (.slice A0_2 l0_2.length c0_2) := (blk_cell BK331.out 2).trans rfl
        have hcz26_3 : wr.cell? ⟨gb331, 3, none⟩ = some (.int .i64 a0_3) := (blk_cell BK331.out 3).trans rfl
        have hcz26_4 : wr.cell? ⟨gb331, 4, none⟩ = some (.slice A0_4 l0_4.length c0_4) := (blk_cell BK331.out 4).trans rfl
        have hfz26_0 := blk_frozen BK331.out 0
        have hfz26_1 := blk_frozen BK331.out 1
        have hfz26_2 := blk_frozen BK331.out 2
        have hfz26_3 := blk_frozen BK331.out 3
        have hfz26_4 := blk_frozen BK331.out 4
        go_wp2
        go_loopg [7] k1 (fun kq v7 w' => ∃ (x7_2 : Int) (x334002_2 : List (S47)) (u334002 : Value), v7 = .int .i64 x7_2 ∧ Aside0 (luciferlaw02_known.l1 kq a1 x7_2 l0_0 l0_1 l0_2 a0_3 l0_4 x334000_1 l0_1 x334002_2 a0_3 = some (r1, r2, r3, r4, r5)) ∧ Aside0 (kq ≤ k1) ∧ Aside0 (Kd.R k77 77 w' w0.heap.size (fun k_ => (P0_1_ k_ ∨ w.heap.size ≤ k_)) (.slice none 0 0) ([] : List S77)) ∧ Aside0 (Kd.R k68 68 w' w0.heap.size (fun k_ => (P0_1_ k_ ∨ w.heap.size ≤ k_)) u334000 x334000_1) ∧ Aside0 (Kd.R k77 77 w' w0.heap.size (fun k_ => (P0_1_ k_ ∨ w.heap.size ≤ k_)) (.slice none 0 0) ([] : List S77)) ∧ Aside0 (Kd.R k47 47 w' w0.heap.size (fun k_ => (P0_1_ k_ ∨ w.heap.size ≤ k_)) u334002 x334002_2) ∧ Aside0 (w'.heap[gb331]? = some (.cells #[(.slice A0_0 l0_0.length c0_0), (.slice Ao3 l0_1.length co3), (.slice A0_2 l0_2.length c0_2), .int .i64 a0_3, (.slice A0_4 l0_4.length c0_4)] 27 (0, 0))) ∧ Aside0 (w'.heap[gb332]? = some (.cells #[(.slice none 0 0), (.slice none 0 0), (.slice none 0 0), .int .i64 0, (.slice none 0 0)] 27 (0, 0))) ∧ Aside0 (w'.heap[gb333]? = some (.cells #[u334000, (.slice Ao3 l0_1.length co3), u334002, .int .i64 a0_3, (.slice none 0 0)] 27 (0, 0))) ∧ Aside0 (Kept w w' (fun k_ => P0_1_ k_)) ∧ Aside0 (Below w0.heap.size w0 w'))
        case atStart => exact ⟨(0), (([] : List (S47))), (.slice none 0 0), (by first | rfl | (simp; done) | (simp [*]; done)), H', ⟨Nat.le_refl _⟩, ⟨by (with_reducible repeat (first | apply Kd.R_alloc | apply Kd.R_drewN | apply Kd.R_drew)); exact HO_332001.out⟩, ⟨by (with_reducible repeat (first | apply Kd.R_alloc | apply Kd.R_drewN | apply Kd.R_drew)); exact HO_334000.out⟩, ⟨by (with_reducible repeat (first | apply Kd.R_alloc | apply Kd.R_drewN | apply Kd.R_drew)); exact HO_334001.out⟩, ⟨by first | exact Kd.R_nil _ _ _ _ _ | exact Kd.N_nil _ _ _ _ _ | exact Kd.V_nil _ _ _ _ _ | exact Kd.Q_nil _ _ _ _ _ | exact Kd.S_nil _ _ _ _ _⟩, ⟨by (with_reducible repeat (first | refine blk_drewN ?_ _ | refine blk_drew ?_ | refine blk_alloc ?_ _)); exact BK331.out⟩, ⟨by (with_reducible repeat (first | refine blk_drewN ?_ _ | refine blk_drew ?_ | refine blk_alloc ?_ _)); exact BK332.out⟩, ⟨by (with_reducible repeat (first | refine blk_drewN ?_ _ | refine blk_drew ?_ | refine blk_alloc ?_ _)); exact BK333.out⟩, ⟨by repeat (first | (with_reducible first | exact HK.out | apply Kept.alloc | apply Kept.drewN | apply Kept.drew | refine Kept.setCell ?_ (.inr GW331.out) _ | refine Kept.setCell ?_ (.inr GW332.out) _ | refine Kept.setCell ?_ (.inr GW333.out) _) | exact HK.out)⟩, ⟨by repeat (first | (with_reducible first | exact HB.out | apply below_alloc | apply pw_below_drewN | apply below_drew1 | refine below_set ?_ GE331.out | refine below_set ?_ GE332.out | refine below_set ?_ GE333.out) | exact HB.out)⟩⟩
        case round =>
          clear H'
          try clear c1
          try clear c2
          try clear p2
          try clear p3
          try clear q3
          try clear hx3
          try clear c6
          try clear p6
          try clear c9
          try clear c10
          try clear c12
          try clear c12b0
          try clear c13
          try clear c13b0
          try clear c15
          try clear c16
          try clear c17
          try clear c24
          try clear c25
          try clear hcz11_0
          try clear hcz11_1
          try clear hcz11_2
          try clear hcz11_3
          try clear hcz11_4
          try clear hcz18_0
          try clear hcz18_1
          try clear hcz18_2
          try clear hcz18_3
          try clear hcz18_4
          try clear hcz26_0
          try clear hcz26_1
          try clear hcz26_2
          try clear hcz26_3
          try clear hcz26_4
          try clear hcz7_0
          try clear hcz7_1
          try clear hcz7_2
          try clear hcz7_3
          try clear hcz7_4
          try clear hfz11_0
          try clear hfz11_1
          try clear hfz11_2
          try clear hfz11_3
          try clear hfz11_4
          try clear hfz18_0
          try clear hfz18_1
          try clear hfz18_2
          try clear hfz18_3
          try clear hfz18_4
          try clear hfz26_0
          try clear hfz26_1
          try clear hfz26_2
          try clear hfz26_3
          try clear hfz26_4
          try clear hfz7_0
          try clear hfz7_1
          try clear hfz7_2
          try clear hfz7_3
          try clear hfz7_4
          try clear hx334_0
          try clear hx334_1
          try clear hx334_2
          try clear hx335_0
          try clear hx335_1
          try clear hx335_2
          try clear p2
          try clear p334
          try clear p335
          try clear q334
          try clear q335
          obtain ⟨x7_2, x334002_2, u334002, rfl, HA, HK2, HO_332001, HO_334000, HO_334001, HO_334002, BK331, BK332, BK333, HK, HB⟩ := hrel
          cases gk with
          | zero => exact absurd HA.out (by simp [luciferlaw02_known.l1])
          | succ k2 =>
            have H := HA.out
            clear HA
            simp only [luciferlaw02_known.l1] at H
            by_cases c27 : x7_2 < (l0_2.length : Int)
            · rw [if_pos c27] at H
              have c27b0 : decide (x7_2 < (l0_2.length : Int)) = true := decide_eq_true c27
              clear c27
              by_cases c28 : 0 ≤ x7_2
              · rw [if_pos c28] at H
                have c28b0 : decide (0 ≤ x7_2) = true := decide_eq_true c28
                clear c28
                replace H := Option.bind_eq_some_iff.mp H
                obtain ⟨⟨t343, t344⟩, A290, H⟩ := H
                replace H : ((luciferlaw02_end.f ((rd_T47 l0_2 x7_2).f1.f0) ((rd_T47 l0_2 x7_2).f1.f1) (!a1)).bind fun bt345 => (if x334002_2.length < 4398046511104 then (luciferlaw02_known.l1 k2 a1 (wrap64 (x7_2 + 1)) l0_0 l0_1 l0_2 a0_3 l0_4 x334000_1 l0_1 (x334002_2 ++ [(⟨(⟨t343, t344⟩ : S39), (⟨bt345.1, bt345.2⟩ : S39)⟩ : S47)]) a0_3) else (none))) = some (r1, r2, r3, r4, r5) := H
                have A29 := Aside0.mk A290
                clear A290
                replace H := Option.bind_eq_some_iff.mp H
                obtain ⟨⟨t345, t346⟩, A300, H⟩ := H
                replace H : (if x334002_2.length < 4398046511104 then (luciferlaw02_known.l1 k2 a1 (wrap64 (x7_2 + 1)) l0_0 l0_1 l0_2 a0_3 l0_4 x334000_1 l0_1 (x334002_2 ++ [(⟨(⟨t343, t344⟩ : S39), (⟨t345, t346⟩ : S39)⟩ : S47)]) a0_3) else (none)) = some (r1, r2, r3, r4, r5) := H
                have A30 := Aside0.mk A300
                clear A300
                by_cases c31 : x334002_2.length < 4398046511104
                · rw [if_pos c31] at H
                  have LMc31 := Aside0.mk c31
                  clear c31
                  obtain ⟨y347, hy347⟩ : ∃ y_ : List (S47), y_ = (x334002_2 ++ [(⟨(⟨t343, t344⟩ : S39), (⟨t345, t346⟩ : S39)⟩ : S47)]) := ⟨_, rfl⟩
                  replace H : (luciferlaw02_known.l1 k2 a1 (wrap64 (x7_2 + 1)) l0_0 l0_1 l0_2 a0_3 l0_4 x334000_1 l0_1 y347 a0_3) = some (r1, r2, r3, r4, r5) := by first | (rw [hy347]; with_reducible exact H) | (have H2_ := (Option.bind_some _ _).symm.trans H; rw [hy347]; with_reducible exact H2_) | (have H2_ := (Option.bind_some _ _).symm.trans H; with_reducible exact H2_) | with_reducible exact H | (rw [hy347]; exact H) | exact H
                  have Ny347 := Aside0.mk hy347
                  clear hy347
                  have H' := Aside0.mk H
                  clear H
                  have hnb32 := NB331_332.out
                  have hnc32 := NB332_331.out
                  have hnb33 := NB331_333.out
                  have hnc33 := NB333_331.out
                  have hcz34_0 : wr.cell? ⟨gb331, 0, none⟩ = some (.slice A0_0 l0_0.length c0_0) := (blk_cell BK331.out 0).trans rfl
                  have hcz34_1 : wr.cell? ⟨gb331, 1, none⟩ = some (.slice Ao3 l0_1.length co3) := (blk_cell BK331.out 1).trans rfl
                  have hcz34_2 : wr.cell? ⟨gb331, 2, none⟩ = some (.slice A0_2 l0_2.length c0_2) := (blk_cell BK331.out 2).trans rfl
                  have hcz34_3 : wr.cell? ⟨gb331, 3, none⟩ = some (.int .i64 a0_3) := (blk_cell BK331.out 3).trans rfl
                  have hcz34_4 : wr.cell? ⟨gb331, 4, none⟩ = some (.slice A0_4 l0_4.length c0_4) := (blk_cell BK331.out 4).trans rfl
                  have hfz34_0 := blk_frozen BK331.out 0
                  have hfz34_1 := blk_frozen BK331.out 1
                  have hfz34_2 := blk_frozen BK331.out 2
                  have hfz34_3 := blk_frozen BK331.out 3
                  have hfz34_4 := blk_frozen BK331.out 4
                  have p341 : 0 ≤ (x7_2 : Int) := of_decide_eq_true (by first | (with_reducible assumption) | assumption)
                  have q341 : x7_2 < (l0_2.length : Int) := of_decide_eq_true (by first | (with_reducible assumption) | assumption)
                  obtain ⟨ad341, e341, hx341_0, hx341_1, hx341_2, hx341_3⟩ := at_T47 (Kd.C_kept_now HR0_2.out HK.out) x7_2 p341 q341
                  cases e341
                  replace p341 := eq_true p341
                  replace q341 := eq_true q341
                  try go_wp2_with (first | ((with_reducible refine gate_dst (N := 8) rfl ?_); refine box_event ?hg (N := 8) ?hd (cs := #[.int .i64 0, .int .i64 0, .int .i64 0, .int .i64 0]) (t := 47) ?hr ?_; (case hd => rfl); (case hg => rfl); (case hr => first | (go_simp; done) | (go_simp; rfl)); intro gb342 hg w35 hbox hb; have n0_ := Aside0.mk (Kd.R_below (by (with_reducible repeat (first | apply Kd.R_alloc | apply Kd.R_drewN | apply Kd.R_drew)); exact HO_332001.out) hb); have n1_ := Aside0.mk (Kd.R_below (by (with_reducible repeat (first | apply Kd.R_alloc | apply Kd.R_drewN | apply Kd.R_drew)); exact HO_334000.out) hb); have n2_ := Aside0.mk (Kd.R_below (by (with_reducible repeat (first | apply Kd.R_alloc | apply Kd.R_drewN | apply Kd.R_drew)); exact HO_334001.out) hb); have n3_ := Aside0.mk (Kd.R_below (Kd.R_elderB (by (with_reducible repeat (first | apply Kd.R_alloc | apply Kd.R_drewN | apply Kd.R_drew)); exact HO_334002.out) gb342 (Nat.le_of_eq hg.symm)) hb); have n4_ := Aside0.mk (blk_below (g := gb331) (o := .cells #[.slice A0_0 l0_0.length c0_0, .slice Ao3 l0_1.length co3, .slice (some ad341) l0_2.length c0_2, .int .i64 a0_3, .slice A0_4 l0_4.length c0_4] 27 (0, 0)) (by (with_reducible repeat (first | refine blk_drewN ?_ _ | refine blk_drew ?_ | refine blk_alloc ?_ _)); exact BK331.out) hb); have n5_ := Aside0.mk (blk_below (g := gb332) (o := .cells #[.slice none 0 0, .slice none 0 0, .slice none 0 0, .int .i64 0, .slice none 0 0] 27 (0, 0)) (by (with_reducible repeat (first | refine blk_drewN ?_ _ | refine blk_drew ?_ | refine blk_alloc ?_ _)); exact BK332.out) hb); have n6_ := Aside0.mk (blk_below (g := gb333) (o := .cells #[u334000, .slice Ao3 l0_1.length co3, u334002, .int .i64 a0_3, .slice none 0 0] 27 (0, 0)) (by (with_reducible repeat (first | refine blk_drewN ?_ _ | refine blk_drew ?_ | refine blk_alloc ?_ _)); exact BK333.out) hb); have n7_ := Aside0.mk (Kept.below (S := (fun k_ => P0_1_ k_)) (by repeat (first | (with_reducible first | exact HK.out | apply Kept.alloc | apply Kept.drewN | apply Kept.drew | refine Kept.setCell ?_ (.inr GW331.out) _ | refine Kept.setCell ?_ (.inr GW332.out) _ | refine Kept.setCell ?_ (.inr GW333.out) _) | exact HK.out)) hb); have n8_ := Aside0.mk (below_step (by repeat (first | (with_reducible first | exact HB.out | apply below_alloc | apply pw_below_drewN | apply below_drew1 | refine below_set ?_ GE331.out | refine below_set ?_ GE332.out | refine below_set ?_ GE333.out) | exact HB.out)) hb); have n9_ := Aside0.mk (hbox); have n10_ := Aside0.mk ((by rw [hg]; exact (by first | exact HK.out.1 | exact (show Kept w _ (fun k_ => P0_1_ k_) from by repeat (first | (with_reducible first | exact HK.out | apply Kept.alloc | apply Kept.drewN | apply Kept.drew | refine Kept.setCell ?_ (.inr GW331.out) _ | refine Kept.setCell ?_ (.inr GW332.out) _ | refine Kept.setCell ?_ (.inr GW333.out) _) | exact HK.out)).1) : w.heap.size ≤ gb342)); have n11_ := Aside0.mk ((by rw [hg]; exact (below_size (by repeat (first | (with_reducible first | exact HB.out | apply below_alloc | apply pw_below_drewN | apply below_drew1 | refine below_set ?_ GE331.out | refine below_set ?_ GE332.out | refine below_set ?_ GE333.out) | exact HB.out))) : w0.heap.size ≤ gb342)); have n12_ := Aside0.mk ((by rw [hg]; exact Nat.ne_of_lt (blk_lt (g := gb331) (o := .cells #[.slice A0_0 l0_0.length c0_0, .slice Ao3 l0_1.length co3, .slice (some ad341) l0_2.length c0_2, .int .i64 a0_3, .slice A0_4 l0_4.length c0_4] 27 (0, 0)) (by (with_reducible repeat (first | refine blk_drewN ?_ _ | refine blk_drew ?_ | refine blk_alloc ?_ _)); exact BK331.out)) : gb331 ≠ gb342)); have n13_ := Aside0.mk ((by rw [hg]; exact Nat.ne_of_gt (blk_lt (g := gb331) (o := .cells #[.slice A0_0 l0_0.length c0_0, .slice Ao3 l0_1.length co3, .slice (some ad341) l0_2.length c0_2, .int .i64 a0_3, .slice A0_4 l0_4.length c0_4] 27 (0, 0)) (by (with_reducible repeat (first | refine blk_drewN ?_ _ | refine blk_drew ?_ | refine blk_alloc ?_ _)); exact BK331.out)) : gb342 ≠ gb331)); have n14_ := Aside0.mk ((by rw [hg]; exact Nat.ne_of_lt (blk_lt (g := gb332) (o := .cells #[.slice none 0 0, .slice none 0 0, .slice none 0 0, .int .i64 0, .slice none 0 0] 27 (0, 0)) (by (with_reducible repeat (first | refine blk_drewN ?_ _ | refine blk_drew ?_ | refine blk_alloc ?_ _)); exact BK332.out)) : gb332 ≠ gb342)); have n15_ := Aside0.mk ((by rw [hg]; exact Nat.ne_of_gt (blk_lt (g := gb332) (o := .cells #[.slice none 0 0, .slice none 0 0, .slice none 0 0, .int .i64 0, .slice none 0 0] 27 (0, 0)) (by (with_reducible repeat (first | refine blk_drewN ?_ _ | refine blk_drew ?_ | refine blk_alloc ?_ _)); exact BK332.out)) : gb342 ≠ gb332)); have n16_ := Aside0.mk ((by rw [hg]; exact Nat.ne_of_lt (blk_lt (g := gb333) (o := .cells #[u334000, .slice Ao3 l0_1.length co3, u334002, .int .i64 a0_3, .slice none 0 0] 27 (0, 0)) (by (with_reducible repeat (first | refine blk_drewN ?_ _ | refine blk_drew ?_ | refine blk_alloc ?_ _)); exact BK333.out)) : gb333 ≠ gb342)); have n17_ := Aside0.mk ((by rw [hg]; exact Nat.ne_of_gt (blk_lt (g := gb333) (o := .cells #[u334000, .slice Ao3 l0_1.length co3, u334002, .int .i64 a0_3, .slice none 0 0] 27 (0, 0)) (by (with_reducible repeat (first | refine blk_drewN ?_ _ | refine blk_drew ?_ | refine blk_alloc ?_ _)); exact BK333.out)) : gb342 ≠ gb333)); clear HO_332001; clear HO_334000; clear HO_334001; clear HO_334002; clear BK331; clear BK332; clear BK333; clear HK; clear HB; have HO_332001 := n0_; have HO_334000 := n1_; have HO_334001 := n2_; have HO_334002 := n3_; have BK331 := n4_; have BK332 := n5_; have BK333 := n6_; have HK := n7_; have HB := n8_; have BK342 := n9_; have GW342 := n10_; have GE342 := n11_; have NB331_342 := n12_; have NB342_331 := n13_; have NB332_342 := n14_; have NB342_332 := n15_; have NB333_342 := n16_; have NB342_333 := n17_; clear n0_ n1_ n2_ n3_ n4_ n5_ n6_ n7_ n8_ n9_ n10_ n11_ n12_ n13_ n14_ n15_ n16_ n17_; clear hb hbox hg; have hnb36 := NB342_331.out; have hnc36 := NB331_342.out; have hnb37 := NB342_332.out; have hnc37 := NB332_342.out; have hnb38 := NB342_333.out; have hnc38 := NB333_342.out; have hcz39_0 : w35.cell? ⟨gb342, 0, none⟩ = some (.int .i64 0) := (blk_cell BK342.out 0).trans rfl; have hcz39_1 : w35.cell? ⟨gb342, 1, none⟩ = some (.int .i64 0) := (blk_cell BK342.out 1).trans rfl; have hcz39_2 : w35.cell? ⟨gb342, 2, none⟩ = some (.int .i64 0) := (blk_cell BK342.out 2).trans rfl; have hcz39_3 : w35.cell? ⟨gb342, 3, none⟩ = some (.int .i64 0) := (blk_cell BK342.out 3).trans rfl; have hfz39_0 := blk_frozen BK342.out 0; have hfz39_1 := blk_frozen BK342.out 1; have hfz39_2 := blk_frozen BK342.out 2; have hfz39_3 := blk_frozen BK342.out 3))
                  have n0_ : Aside0 (Kd.R k77 77 ((((w35.setCell ⟨gb342, 0, none⟩ (.int .i64 ((rd_T47 l0_2 x7_2).f0.f0))).setCell ⟨gb342, 1, none⟩ (.int .i64 ((rd_T47 l0_2 x7_2).f0.f1))).setCell ⟨gb342, 2, none⟩ (.int .i64 ((rd_T47 l0_2 x7_2).f1.f0))).setCell ⟨gb342, 3, none⟩ (.int .i64 ((rd_T47 l0_2 x7_2).f1.f1))) w0.heap.size (fun k_ => (P0_1_ k_ ∨ w.heap.size ≤ k_)) (.slice none 0 0) ([] : List S77)) := ⟨by (with_reducible repeat (first | apply Kd.R_alloc | apply Kd.R_drewN | apply Kd.R_drew)); exact Kd.R_mono (Kd.R_far (p := ⟨gb342, 3, none⟩) (Kd.R_far (p := ⟨gb342, 2, none⟩) (Kd.R_far (p := ⟨gb342, 1, none⟩) (Kd.R_far (p := ⟨gb342, 0, none⟩) (Kd.R_types HO_332001.out BK342.out (by decide)) (fun _ hk => hk.2) (.int .i64 ((rd_T47 l0_2 x7_2).f0.f0))) (fun _ hk => hk.2) (.int .i64 ((rd_T47 l0_2 x7_2).f0.f1))) (fun _ hk => hk.2) (.int .i64 ((rd_T47 l0_2 x7_2).f1.f0))) (fun _ hk => hk.2) (.int .i64 ((rd_T47 l0_2 x7_2).f1.f1))) (fun _ hk => hk.1)⟩
                  have n1_ : Aside0 (Kd.R k68 68 ((((w35.setCell ⟨gb342, 0, none⟩ (.int .i64 ((rd_T47 l0_2 x7_2).f0.f0))).setCell ⟨gb342, 1, none⟩ (.int .i64 ((rd_T47 l0_2 x7_2).f0.f1))).setCell ⟨gb342, 2, none⟩ (.int .i64 ((rd_T47 l0_2 x7_2).f1.f0))).setCell ⟨gb342, 3, none⟩ (.int .i64 ((rd_T47 l0_2 x7_2).f1.f1))) w0.heap.size (fun k_ => (P0_1_ k_ ∨ w.heap.size ≤ k_)) u334000 x334000_1) := ⟨by (with_reducible repeat (first | apply Kd.R_alloc | apply Kd.R_drewN | apply Kd.R_drew)); exact Kd.R_mono (Kd.R_far (p := ⟨gb342, 3, none⟩) (Kd.R_far (p := ⟨gb342, 2, none⟩) (Kd.R_far (p := ⟨gb342, 1, none⟩) (Kd.R_far (p := ⟨gb342, 0, none⟩) (Kd.R_types HO_334000.out BK342.out (by decide)) (fun _ hk => hk.2) (.int .i64 ((rd_T47 l0_2 x7_2).f0.f0))) (fun _ hk => hk.2) (.int .i64 ((rd_T47 l0_2 x7_2).f0.f1))) (fun _ hk => hk.2) (.int .i64 ((rd_T47 l0_2 x7_2).f1.f0))) (fun _ hk => hk.2) (.int .i64 ((rd_T47 l0_2 x7_2).f1.f1))) (fun _ hk => hk.1)⟩
                  have n2_ : Aside0 (Kd.R k77 77 ((((w35.setCell ⟨gb342, 0, none⟩ (.int .i64 ((rd_T47 l0_2 x7_2).f0.f0))).setCell ⟨gb342, 1, none⟩ (.int .i64 ((rd_T47 l0_2 x7_2).f0.f1))).setCell ⟨gb342, 2, none⟩ (.int .i64 ((rd_T47 l0_2 x7_2).f1.f0))).setCell ⟨gb342, 3, none⟩ (.int .i64 ((rd_T47 l0_2 x7_2).f1.f1))) w0.heap.size (fun k_ => (P0_1_ k_ ∨ w.heap.size ≤ k_)) (.slice none 0 0) ([] : List S77)) := ⟨by (with_reducible repeat (first | apply Kd.R_alloc | apply Kd.R_drewN | apply Kd.R_drew)); exact Kd.R_mono (Kd.R_far (p := ⟨gb342, 3, none⟩) (Kd.R_far (p := ⟨gb342, 2, none⟩) (Kd.R_far (p := ⟨gb342, 1, none⟩) (Kd.R_far (p := ⟨gb342, 0, none⟩) (Kd.R_types HO_334001.out BK342.out (by decide)) (fun _ hk => hk.2) (.int .i64 ((rd_T47 l0_2 x7_2).f0.f0))) (fun _ hk => hk.2) (.int .i64 ((rd_T47 l0_2 x7_2).f0.f1))) (fun _ hk => hk.2) (.int .i64 ((rd_T47 l0_2 x7_2).f1.f0))) (fun _ hk => hk.2) (.int .i64 ((rd_T47 l0_2 x7_2).f1.f1))) (fun _ hk => hk.1)⟩
                  have n3_ : Aside0 (Kd.R k47 47 ((((w35.setCell ⟨gb342, 0, none⟩ (.int .i64 ((rd_T47 l0_2 x7_2).f0.f0))).setCell ⟨gb342, 1, none⟩ (.int .i64 ((rd_T47 l0_2 x7_2).f0.f1))).setCell ⟨gb342, 2, none⟩ (.int .i64 ((rd_T47 l0_2 x7_2).f1.f0))).setCell ⟨gb342, 3, none⟩ (.int .i64 ((rd_T47 l0_2 x7_2).f1.f1))) w0.heap.size (fun k_ => (P0_1_ k_ ∨ w.heap.size ≤ k_) ∧ k_ ≠ gb342) u334002 x334002_2) := ⟨by (with_reducible repeat (first | apply Kd.R_alloc | apply Kd.R_drewN | apply Kd.R_drew)); exact Kd.R_mono (Kd.R_far (p := ⟨gb342, 3, none⟩) (Kd.R_far (p := ⟨gb342, 2, none⟩) (Kd.R_far (p := ⟨gb342, 1, none⟩) (Kd.R_far (p := ⟨gb342, 0, none⟩) (Kd.R_mono HO_334002.out (fun k_ hk => (⟨hk, hk.2⟩ : _ ∧ k_ ≠ gb342))) (fun _ hk => hk.2) (.int .i64 ((rd_T47 l0_2 x7_2).f0.f0))) (fun _ hk => hk.2) (.int .i64 ((rd_T47 l0_2 x7_2).f0.f1))) (fun _ hk => hk.2) (.int .i64 ((rd_T47 l0_2 x7_2).f1.f0))) (fun _ hk => hk.2) (.int .i64 ((rd_T47 l0_2 x7_2).f1.f1))) (fun _ hk => ⟨hk.1.1, hk.1.2⟩)⟩
                  have n4_ : Aside0 (((((w35.setCell ⟨gb342, 0, none⟩ (.int .i64 ((rd_T47 l0_2 x7_2).f0.f0))).setCell ⟨gb342, 1, none⟩ (.int .i64 ((rd_T47 l0_2 x7_2).f0.f1))).setCell ⟨gb342, 2, none⟩ (.int .i64 ((rd_T47 l0_2 x7_2).f1.f0))).setCell ⟨gb342, 3, none⟩ (.int .i64 ((rd_T47 l0_2 x7_2).f1.f1))).heap[gb331]? = some (.cells #[.slice A0_0 l0_0.length c0_0, .slice Ao3 l0_1.length co3, .slice (some ad341) l0_2.length c0_2, .int .i64 a0_3, .slice A0_4 l0_4.length c0_4] 27 (0, 0))) := ⟨by (with_reducible repeat (first | refine blk_drewN ?_ _ | refine blk_drew ?_ | refine blk_alloc ?_ _)); refine blk_far ?_ NB331_342.out _; (with_reducible repeat (first | refine blk_drewN ?_ _ | refine blk_drew ?_ | refine blk_alloc ?_ _)); refine blk_far ?_ NB331_342.out _; (with_reducible repeat (first | refine blk_drewN ?_ _ | refine blk_drew ?_ | refine blk_alloc ?_ _)); refine blk_far ?_ NB331_342.out _; (with_reducible repeat (first | refine blk_drewN ?_ _ | refine blk_drew ?_ | refine blk_alloc ?_ _)); refine blk_far ?_ NB331_342.out _; (with_reducible repeat (first | refine blk_drewN ?_ _ | refine blk_drew ?_ | refine blk_alloc ?_ _)); exact BK331.out⟩
                  have n5_ : Aside0 (((((w35.setCell ⟨gb342, 0, none⟩ (.int .i64 ((rd_T47 l0_2 x7_2).f0.f0))).setCell ⟨gb342, 1, none⟩ (.int .i64 ((rd_T47 l0_2 x7_2).f0.f1))).setCell ⟨gb342, 2, none⟩ (.int .i64 ((rd_T47 l0_2 x7_2).f1.f0))).setCell ⟨gb342, 3, none⟩ (.int .i64 ((rd_T47 l0_2 x7_2).f1.f1))).heap[gb332]? = some (.cells #[.slice none 0 0, .slice none 0 0, .slice none 0 0, .int .i64 0, .slice none 0 0] 27 (0, 0))) := ⟨by (with_reducible repeat (first | refine blk_drewN ?_ _ | refine blk_drew ?_ | refine blk_alloc ?_ _)); refine blk_far ?_ NB332_342.out _; (with_reducible repeat (first | refine blk_drewN ?_ _ | refine blk_drew ?_ | refine blk_alloc ?_ _)); refine blk_far ?_ NB332_342.out _; (with_reducible repeat (first | refine blk_drewN ?_ _ | refine blk_drew ?_ | refine blk_alloc ?_ _)); refine blk_far ?_ NB332_342.out _; (with_reducible repeat (first | refine blk_drewN ?_ _ | refine blk_drew ?_ | refine blk_alloc ?_ _)); refine blk_far ?_ NB332_342.out _; (with_reducible repeat (first | refine blk_drewN ?_ _ | refine blk_drew ?_ | refine blk_alloc ?_ _)); exact BK332.out⟩
                  have n6_ : Aside0 (((((w35.setCell ⟨gb342, 0, none⟩ (.int .i64 ((rd_T47 l0_2 x7_2).f0.f0))).setCell ⟨gb342, 1, none⟩ (.int .i64 ((rd_T47 l0_2 x7_2).f0.f1))).setCell ⟨gb342, 2, none⟩ (.int .i64 ((rd_T47 l0_2 x7_2).f1.f0))).setCell ⟨gb342, 3, none⟩ (.int .i64 ((rd_T47 l0_2 x7_2).f1.f1))).heap[gb333]? = some (.cells #[u334000, .slice Ao3 l0_1.length co3, u334002, .int .i64 a0_3, .slice none 0 0] 27 (0, 0))) := ⟨by (with_reducible repeat (first | refine blk_drewN ?_ _ | refine blk_drew ?_ | refine blk_alloc ?_ _)); refine blk_far ?_ NB333_342.out _; (with_reducible repeat (first | refine blk_drewN ?_ _ | refine blk_drew ?_ | refine blk_alloc ?_ _)); refine blk_far ?_ NB333_342.out _; (with_reducible repeat (first | refine blk_drewN ?_ _ | refine blk_drew ?_ | refine blk_alloc ?_ _)); refine blk_far ?_ NB333_342.out _; (with_reducible repeat (first | refine blk_drewN ?_ _ | refine blk_drew ?_ | refine blk_alloc ?_ _)); refine blk_far ?_ NB333_342.out _; (with_reducible repeat (first | refine blk_drewN ?_ _ | refine blk_drew ?_ | refine blk_alloc ?_ _)); exact BK333.out⟩
                  have n7_ : Aside0 (((((w35.setCell ⟨gb342, 0, none⟩ (.int .i64 ((rd_T47 l0_2 x7_2).f0.f0))).setCell ⟨gb342, 1, none⟩ (.int .i64 ((rd_T47 l0_2 x7_2).f0.f1))).setCell ⟨gb342, 2, none⟩ (.int .i64 ((rd_T47 l0_2 x7_2).f1.f0))).setCell ⟨gb342, 3, none⟩ (.int .i64 ((rd_T47 l0_2 x7_2).f1.f1))).heap[gb342]? = some (.cells #[.int .i64 ((rd_T47 l0_2 x7_2).f0.f0), .int .i64 ((rd_T47 l0_2 x7_2).f0.f1), .int .i64 ((rd_T47 l0_2 x7_2).f1.f0), .int .i64 ((rd_T47 l0_2 x7_2).f1.f1)] 47 (0, 0))) := ⟨by (with_reducible repeat (first | refine blk_drewN ?_ _ | refine blk_drew ?_ | refine blk_alloc ?_ _)); refine blk_put (cs := #[.int .i64 ((rd_T47 l0_2 x7_2).f0.f0), .int .i64 ((rd_T47 l0_2 x7_2).f0.f1), .int .i64 ((rd_T47 l0_2 x7_2).f1.f0), .int .i64 0]) ?_ 3 _ rfl; (with_reducible repeat (first | refine blk_drewN ?_ _ | refine blk_drew ?_ | refine blk_alloc ?_ _)); refine blk_put (cs := #[.int .i64 ((rd_T47 l0_2 x7_2).f0.f0), .int .i64 ((rd_T47 l0_2 x7_2).f0.f1), .int .i64 0, .int .i64 0]) ?_ 2 _ rfl; (with_reducible repeat (first | refine blk_drewN ?_ _ | refine blk_drew ?_ | refine blk_alloc ?_ _)); refine blk_put (cs := #[.int .i64 ((rd_T47 l0_2 x7_2).f0.f0), .int .i64 0, .int .i64 0, .int .i64 0]) ?_ 1 _ rfl; (with_reducible repeat (first | refine blk_drewN ?_ _ | refine blk_drew ?_ | refine blk_alloc ?_ _)); refine blk_put (cs := #[.int .i64 0, .int .i64 0, .int .i64 0, .int .i64 0]) ?_ 0 _ rfl; (with_reducible repeat (first | refine blk_drewN ?_ _ | refine blk_drew ?_ | refine blk_alloc ?_ _)); exact BK342.out⟩
                  have n8_ : Aside0 (Kept w ((((w35.setCell ⟨gb342, 0, none⟩ (.int .i64 ((rd_T47 l0_2 x7_2).f0.f0))).setCell ⟨gb342, 1, none⟩ (.int .i64 ((rd_T47 l0_2 x7_2).f0.f1))).setCell ⟨gb342, 2, none⟩ (.int .i64 ((rd_T47 l0_2 x7_2).f1.f0))).setCell ⟨gb342, 3, none⟩ (.int .i64 ((rd_T47 l0_2 x7_2).f1.f1))) (fun k_ => P0_1_ k_)) := ⟨by repeat (first | (with_reducible first | exact HK.out | apply Kept.alloc | apply Kept.drewN | apply Kept.drew | refine Kept.setCell ?_ (.inr GW331.out) _ | refine Kept.setCell ?_ (.inr GW332.out) _ | refine Kept.setCell ?_ (.inr GW333.out) _ | refine Kept.setCell ?_ (.inr GW342.out) _) | exact HK.out)⟩
                  have n9_ : Aside0 (Below w0.heap.size w0 ((((w35.setCell ⟨gb342, 0, none⟩ (.int .i64 ((rd_T47 l0_2 x7_2).f0.f0))).setCell ⟨gb342, 1, none⟩ (.int .i64 ((rd_T47 l0_2 x7_2).f0.f1))).setCell ⟨gb342, 2, none⟩ (.int .i64 ((rd_T47 l0_2 x7_2).f1.f0))).setCell ⟨gb342, 3, none⟩ (.int .i64 ((rd_T47 l0_2 x7_2).f1.f1)))) := ⟨by repeat (first | (with_reducible first | exact HB.out | apply below_alloc | apply pw_below_drewN | apply below_drew1 | refine below_set ?_ GE331.out | refine below_set ?_ GE332.out | refine below_set ?_ GE333.out | refine below_set ?_ GE342.out) | exact HB.out)⟩
                  (try clear HO_332001)
                  (try clear HO_334000)
                  (try clear HO_334001)
                  (try clear HO_334002)
                  (try clear BK331)
                  (try clear BK332)
                  (try clear BK333)
                  (try clear BK342)
                  (try clear HK)
                  (try clear HB)
                  generalize ((((w35.setCell ⟨gb342, 0, none⟩ (.int .i64 ((rd_T47 l0_2 x7_2).f0.f0))).setCell ⟨gb342, 1, none⟩ (.int .i64 ((rd_T47 l0_2 x7_2).f0.f1))).setCell ⟨gb342, 2, none⟩ (.int .i64 ((rd_T47 l0_2 x7_2).f1.f0))).setCell ⟨gb342, 3, none⟩ (.int .i64 ((rd_T47 l0_2 x7_2).f1.f1))) = w40 at n0_ n1_ n2_ n3_ n4_ n5_ n6_ n7_ n8_ n9_ ⊢
                  have HO_332001 := n0_
                  have HO_334000 := n1_
                  have HO_334001 := n2_
                  have HO_334002 := n3_
                  have BK331 := n4_
                  have BK332 := n5_
                  have BK333 := n6_
                  have BK342 := n7_
                  have HK := n8_
                  have HB := n9_
                  clear n0_ n1_ n2_ n3_ n4_ n5_ n6_ n7_ n8_ n9_
                  have n0_ := Aside0.mk (Kd.R_drew HO_332001.out)
                  have n1_ := Aside0.mk (Kd.R_drew HO_334000.out)
                  have n2_ := Aside0.mk (Kd.R_drew HO_334001.out)
                  have n3_ := Aside0.mk (Kd.R_drew HO_334002.out)
                  have n4_ := Aside0.mk (blk_drew BK331.out)
                  have n5_ := Aside0.mk (blk_drew BK332.out)
                  have n6_ := Aside0.mk (blk_drew BK333.out)
                  have n7_ := Aside0.mk (blk_drew BK342.out)
                  have n8_ := Aside0.mk (Kept.drew HK.out)
                  have n9_ := Aside0.mk (below_drew1 HB.out)
                  clear HO_332001
                  clear HO_334000
                  clear HO_334001
                  clear HO_334002
                  clear BK331
                  clear BK332
                  clear BK333
                  clear BK342
                  clear HK
                  clear HB
                  have HO_332001 := n0_
                  have HO_334000 := n1_
                  have HO_334001 := n2_
                  have HO_334002 := n3_
                  have BK331 := n4_
                  have BK332 := n5_
                  have BK333 := n6_
                  have BK342 := n7_
                  have HK := n8_
                  have HB := n9_
                  clear n0_ n1_ n2_ n3_ n4_ n5_ n6_ n7_ n8_ n9_
                  refine start_ (n := 16) (S := fun w' => w'.cell? ⟨gb333, 0, none⟩ = some (u334000) ∧ w'.cell? ⟨gb333, 1, none⟩ = some (.slice Ao3 l0_1.length co3) ∧ w'.cell? ⟨gb333, 2, none⟩ = some (u334002) ∧ w'.cell? ⟨gb333, 3, none⟩ = some (.int .i64 a0_3) ∧ w'.cell? ⟨gb333, 4, none⟩ = some (.slice none 0 0) ∧ w'.cell? ⟨gb342, 0, none⟩ = some (.int .i64 ((rd_T47 l0_2 x7_2).f0.f0)) ∧ w'.cell? ⟨gb342, 1, none⟩ = some (.int .i64 ((rd_T47 l0_2 x7_2).f0.f1)) ∧ w'.cell? ⟨gb342, 2, none⟩ = some (.int .i64 ((rd_T47 l0_2 x7_2).f1.f0)) ∧ w'.cell? ⟨gb342, 3, none⟩ = some (.int .i64 ((rd_T47 l0_2 x7_2).f1.f1))) (ds := [15]) #[false, false, false, false, false, false, false, false, false, false, false, false, false, false, false, false] (by kernel_rfl) rfl rfl ⟨(blk_cell BK333.out 0).trans rfl, (blk_cell BK333.out 1).trans rfl, (blk_cell BK333.out 2).trans rfl, (blk_cell BK333.out 3).trans rfl, (blk_cell BK333.out 4).trans rfl, (blk_cell BK342.out 0).trans rfl, (blk_cell BK342.out 1).trans rfl, (blk_cell BK342.out 2).trans rfl, (blk_cell BK342.out 3).trans rfl⟩ (fun hHeld => ?_); refine with_tabW luciferlaw02_known.tab11 luciferlaw02_known.bits11 (fun HT_ HW_ => ?_)
                  generalize w40.drew = w41 at HO_332001 HO_334000 HO_334001 HO_334002 BK331 BK332 BK333 BK342 HK HB hHeld ⊢
                  refine pure_ (i := 0) (N := some 52) (v := ?_) (a' := ?_) #[true, false, false, false, false, false, false, false, false, false, false, false, false, false, false, false] rfl rfl (any_of HT_.out (by kernel_rfl)) (fun _ _ _ h => h) (Or.inl ⟨by rfl, ?_⟩) ?_ ?_
                  rotate_left
                  · intro w'
                    go_simp
                    with_reducible rfl
                  rotate_left
                  · simp only [Act.put, List.setIfInBounds_toArray, List.set_cons_zero, List.set_cons_succ, i64_w, i32_w]
                    rfl
                  refine pure_ (i := 2) (N := some 54) (v := ?_) (a' := ?_) #[true, false, true, false, false, false, false, false, false, false, false, false, false, false, false, false] rfl rfl (any_of HT_.out (by kernel_rfl)) (fun _ _ _ h => h) (Or.inl ⟨by rfl, ?_⟩) ?_ ?_
                  rotate_left
                  · intro w'
                    go_simp
                    with_reducible rfl
                  rotate_left
                  · simp only [Act.put, List.setIfInBounds_toArray, List.set_cons_zero, List.set_cons_succ, i64_w, i32_w]
                    rfl
                  refine pure_ (i := 4) (N := some 56) (v := ?_) (a' := ?_) #[true, false, true, false, true, false, false, false, false, false, false, false, false, false, false, false] rfl rfl (any_of HT_.out (by kernel_rfl)) (fun _ _ _ h => h) (Or.inl ⟨by rfl, ?_⟩) ?_ ?_
                  rotate_left
                  · intro w'
                    go_simp
                    with_reducible rfl
                  rotate_left
                  · simp only [Act.put, List.setIfInBounds_toArray, List.set_cons_zero, List.set_cons_succ, i64_w, i32_w]
                    rfl
                  refine pure_ (i := 6) (N := some 58) (v := ?_) (a' := ?_) #[true, false, true, false, true, false, true, false, false, false, false, false, false, false, false, false] rfl rfl (any_of HT_.out (by kernel_rfl)) (fun _ _ _ h => h) (Or.inl ⟨by rfl, ?_⟩) ?_ ?_
                  rotate_left
                  · intro w'
                    go_simp
                    with_reducible rfl
                  rotate_left
                  · simp only [Act.put, List.setIfInBounds_toArray, List.set_cons_zero, List.set_cons_succ, i64_w, i32_w]
                    rfl
                  refine pure_ (i := 8) (N := some 60) (v := ?_) (a' := ?_) #[true, false, true, false, true, false, true, false, true, false, false, false, false, false, false, false] rfl rfl (any_of HT_.out (by kernel_rfl)) (fun _ _ _ h => h) (Or.inl ⟨by rfl, ?_⟩) ?_ ?_
                  rotate_left
                  · intro w'
                    go_simp
                    with_reducible rfl
                  rotate_left
                  · simp only [Act.put, List.setIfInBounds_toArray, List.set_cons_zero, List.set_cons_succ, i64_w, i32_w]
                    rfl
                  refine pure_ (i := 9) (N := some 61) (v := ?_) (a' := ?_) #[true, false, true, false, true, false, true, false, true, true, false, false, false, false, false, false] rfl rfl (any_of HT_.out (by kernel_rfl)) (fun _ _ _ h => h) (Or.inl ⟨by rfl, ?_⟩) ?_ ?_
                  rotate_left
                  · intro w'
                    go_simp
                    with_reducible rfl
                  rotate_left
                  · simp only [Act.put, List.setIfInBounds_toArray, List.set_cons_zero, List.set_cons_succ, i64_w, i32_w]
                    rfl
                  refine take_ (i := 1) (N := some 53) (v := ?_) (a' := ?_) #[true, true, true, false, true, false, true, false, true, true, false, false, false, false, false, false] rfl rfl (take_ofW HT_.out HW_.out (by kernel_rfl)) (fun _ _ _ h => h) (Or.inl ⟨by rfl, ?_⟩) hHeld ?_ ?_
                  rotate_left
                  · rintro w' ⟨s0, s1, s2, s3, s4, s5, s6, s7, s8⟩
                    go_simp
                    with_reducible rfl
                  rotate_left
                  · simp only [Act.put, List.setIfInBounds_toArray, List.set_cons_zero, List.set_cons_succ, i64_w, i32_w]
                    rfl
                  refine take_ (i := 3) (N := some 55) (v := ?_) (a' := ?_) #[true, true, true, true, true, false, true, false, true, true, false, false, false, false, false, false] rfl rfl (take_ofW HT_.out HW_.out (by kernel_rfl)) (fun _ _ _ h => h) (Or.inl ⟨by rfl, ?_⟩) hHeld ?_ ?_
                  rotate_left
                  · rintro w' ⟨s0, s1, s2, s3, s4, s5, s6, s7, s8⟩
                    go_simp
                    with_reducible rfl
                  rotate_left
                  · simp only [Act.put, List.setIfInBounds_toArray, List.set_cons_zero, List.set_cons_succ, i64_w, i32_w]
                    rfl
                  refine take_ (i := 7) (N := some 59) (v := ?_) (a' := ?_) #[true, true, true, true, true, false, true, true, true, true, false, false, false, false, false, false] rfl rfl (take_ofW HT_.out HW_.out (by kernel_rfl)) (fun _ _ _ h => h) (Or.inl ⟨by rfl, ?_⟩) hHeld ?_ ?_
                  rotate_left
                  · rintro w' ⟨s0, s1, s2, s3, s4, s5, s6, s7, s8⟩
                    go_simp
                    with_reducible rfl
                  rotate_left
                  · simp only [Act.put, List.setIfInBounds_toArray, List.set_cons_zero, List.set_cons_succ, i64_w, i32_w]
                    rfl
                  refine one_ (i := 5) (N := some 57) #[true, true, true, true, true, true, true, true, true, true, false, false, false, false, false, false] rfl rfl (one_of HT_.out (by kernel_rfl)) (by decide) (fun K hK => ?_)
                  refine goes_ Tryd.func67 (by kernel_rfl) rfl #[.agg #[.int .i64 ((rd_T47 l0_2 x7_2).f0.f0), .int .i64 ((rd_T47 l0_2 x7_2).f0.f1)], .bool a1] (by rfl) rfl rfl (by (try simp only [List.map_toArray, List.map_cons, List.map_nil]); first | done | rfl | (simp only [List.length_drop, List.length_take]; rfl)) ?_
                  with_reducible refine (luciferlaw02_end.calls ((rd_T47 l0_2 x7_2).f0.f0) ((rd_T47 l0_2 x7_2).f0.f1) a1 t343 t344 _ A29.out).mono ?_
                  rintro e w42 ⟨rfl, hb⟩
                  refine ⟨_, rfl, ?_⟩
                  have n0_ := Aside0.mk (Kd.R_below (by (with_reducible repeat (first | apply Kd.R_alloc | apply Kd.R_drewN | apply Kd.R_drew)); exact HO_332001.out) hb)
                  have n1_ := Aside0.mk (Kd.R_below (by (with_reducible repeat (first | apply Kd.R_alloc | apply Kd.R_drewN | apply Kd.R_drew)); exact HO_334000.out) hb)
                  have n2_ := Aside0.mk (Kd.R_below (by (with_reducible repeat (first | apply Kd.R_alloc | apply Kd.R_drewN | apply Kd.R_drew)); exact HO_334001.out) hb)
                  have n3_ := Aside0.mk (Kd.R_below (by (with_reducible repeat (first | apply Kd.R_alloc | apply Kd.R_drewN | apply Kd.R_drew)); exact HO_334002.out) hb)
                  have n4_ := Aside0.mk (blk_below (g := gb331) (o := .cells #[.slice A0_0 l0_0.length c0_0, .slice Ao3 l0_1.length co3, .slice (some ad341) l0_2.length c0_2, .int .i64 a0_3, .slice A0_4 l0_4.length c0_4] 27 (0, 0)) (by (with_reducible repeat (first | refine blk_drewN ?_ _ | refine blk_drew ?_ | refine blk_alloc ?_ _)); exact BK331.out) hb)
                  have n5_ := Aside0.mk (blk_below (g := gb332) (o := .cells #[.slice none 0 0, .slice none 0 0, .slice none 0 0, .int .i64 0, .slice none 0 0] 27 (0, 0)) (by (with_reducible repeat (first | refine blk_drewN ?_ _ | refine blk_drew ?_ | refine blk_alloc ?_ _)); exact BK332.out) hb)
                  have n6_ := Aside0.mk (blk_below (g := gb333) (o := .cells #[u334000, .slice Ao3 l0_1.length co3, u334002, .int .i64 a0_3, .slice none 0 0] 27 (0, 0)) (by (with_reducible repeat (first | refine blk_drewN ?_ _ | refine blk_drew ?_ | refine blk_alloc ?_ _)); exact BK333.out) hb)
                  have n7_ := Aside0.mk (blk_below (g := gb342) (o := .cells #[.int .i64 ((rd_T47 l0_2 x7_2).f0.f0), .int .i64 ((rd_T47 l0_2 x7_2).f0.f1), .int .i64 ((rd_T47 l0_2 x7_2).f1.f0), .int .i64 ((rd_T47 l0_2 x7_2).f1.f1)] 47 (0, 0)) (by (with_reducible repeat (first | refine blk_drewN ?_ _ | refine blk_drew ?_ | refine blk_alloc ?_ _)); exact BK342.out) hb)
                  have n8_ := Aside0.mk (Kept.below (S := (fun k_ => P0_1_ k_)) (by repeat (first | (with_reducible first | exact HK.out | apply Kept.alloc | apply Kept.drewN | apply Kept.drew | refine Kept.setCell ?_ (.inr GW331.out) _ | refine Kept.setCell ?_ (.inr GW332.out) _ | refine Kept.setCell ?_ (.inr GW333.out) _ | refine Kept.setCell ?_ (.inr GW342.out) _) | exact HK.out)) hb)
                  have n9_ := Aside0.mk (below_step (by repeat (first | (with_reducible first | exact HB.out | apply below_alloc | apply pw_below_drewN | apply below_drew1 | refine below_set ?_ GE331.out | refine below_set ?_ GE332.out | refine below_set ?_ GE333.out | refine below_set ?_ GE342.out) | exact HB.out)) hb)
                  clear HO_332001
                  clear HO_334000
                  clear HO_334001
                  clear HO_334002
                  clear BK331
                  clear BK332
                  clear BK333
                  clear BK342
                  clear HK
                  clear HB
                  have HO_332001 := n0_
                  have HO_334000 := n1_
                  have HO_334001 := n2_
                  have HO_334002 := n3_
                  have BK331 := n4_
                  have BK332 := n5_
                  have BK333 := n6_
                  have BK342 := n7_
                  have HK := n8_
                  have HB := n9_
                  clear n0_ n1_ n2_ n3_ n4_ n5_ n6_ n7_ n8_ n9_
                  (try clear hb)
                  (try clear hb2)
                  (try clear hk)
                  (try clear hi)
                  refine hK.out _ _ ⟨(blk_cell BK333.out 0).trans rfl, (blk_cell BK333.out 1).trans rfl, (blk_cell BK333.out 2).trans rfl, (blk_cell BK333.out 3).trans rfl, (blk_cell BK333.out 4).trans rfl, (blk_cell BK342.out 0).trans rfl, (blk_cell BK342.out 1).trans rfl, (blk_cell BK342.out 2).trans rfl, (blk_cell BK342.out 3).trans rfl⟩ (fun hHeld => ?_)
                  clear hK K
                  refine norm_ (a' := ?_) ?_ ?_
                  rotate_left
                  · show Act.put _ (some 57) _ = _
                    simp only [Act.put, List.setIfInBounds_toArray, List.set_cons_zero, List.set_cons_succ, i64_w, i32_w]
                    rfl
                  refine one_ (i := 10) (N := some 62) #[true, true, true, true, true, true, true, true, true, true, true, false, false, false, false, false] rfl rfl (one_of HT_.out (by kernel_rfl)) (by decide) (fun K hK => ?_)
                  refine goes_ Tryd.func67 (by kernel_rfl) rfl #[.agg #[.int .i64 ((rd_T47 l0_2 x7_2).f1.f0), .int .i64 ((rd_T47 l0_2 x7_2).f1.f1)], .bool (!a1)] (by rfl) rfl rfl (by (try simp only [List.map_toArray, List.map_cons, List.map_nil]); first | done | rfl | (simp only [List.length_drop, List.length_take]; rfl)) ?_
                  with_reducible refine (luciferlaw02_end.calls ((rd_T47 l0_2 x7_2).f1.f0) ((rd_T47 l0_2 x7_2).f1.f1) (!a1) t345 t346 _ A30.out).mono ?_
                  rintro e w43 ⟨rfl, hb⟩
                  refine ⟨_, rfl, ?_⟩
                  have n0_ := Aside0.mk (Kd.R_below (by (with_reducible repeat (first | apply Kd.R_alloc | apply Kd.R_drewN | apply Kd.R_drew)); exact HO_332001.out) hb)
                  have n1_ := Aside0.mk (Kd.R_below (by (with_reducible repeat (first | apply Kd.R_alloc | apply Kd.R_drewN | apply Kd.R_drew)); exact HO_334000.out) hb)
                  have n2_ := Aside0.mk (Kd.R_below (by (with_reducible repeat (first | apply Kd.R_alloc | apply Kd.R_drewN | apply Kd.R_drew)); exact HO_334001.out) hb)
                  have n3_ := Aside0.mk (Kd.R_below (by (with_reducible repeat (first | apply Kd.R_alloc | apply Kd.R_drewN | apply Kd.R_drew)); exact HO_334002.out) hb)
                  have n4_ := Aside0.mk (blk_below (g := gb331) (o := .cells #[.slice A0_0 l0_0.length c0_0, .slice Ao3 l0_1.length co3, .slice (some ad341) l0_2.length c0_2, .int .i64 a0_3, .slice A0_4 l0_4.length c0_4] 27 (0, 0)) (by (with_reducible repeat (first | refine blk_drewN ?_ _ | refine blk_drew ?_ | refine blk_alloc ?_ _)); exact BK331.out) hb)
                  have n5_ := Aside0.mk (blk_below (g := gb332) (o := .cells #[.slice none 0 0, .slice none 0 0, .slice none 0 0, .int .i64 0, .slice none 0 0] 27 (0, 0)) (by (with_reducible repeat (first | refine blk_drewN ?_ _ | refine blk_drew ?_ | refine blk_alloc ?_ _)); exact BK332.out) hb)
                  have n6_ := Aside0.mk (blk_below (g := gb333) (o := .cells #[u334000, .slice Ao3 l0_1.length co3, u334002, .int .i64 a0_3, .slice none 0 0] 27 (0, 0)) (by (with_reducible repeat (first | refine blk_drewN ?_ _ | refine blk_drew ?_ | refine blk_alloc ?_ _)); exact BK333.out) hb)
                  have n7_ := Aside0.mk (blk_below (g := gb342) (o := .cells #[.int .i64 ((rd_T47 l0_2 x7_2).f0.f0), .int .i64 ((rd_T47 l0_2 x7_2).f0.f1), .int .i64 ((rd_T47 l0_2 x7_2).f1.f0), .int .i64 ((rd_T47 l0_2 x7_2).f1.f1)] 47 (0, 0)) (by (with_reducible repeat (first | refine blk_drewN ?_ _ | refine blk_drew ?_ | refine blk_alloc ?_ _)); exact BK342.out) hb)
                  have n8_ := Aside0.mk (Kept.below (S := (fun k_ => P0_1_ k_)) (by repeat (first | (with_reducible first | exact HK.out | apply Kept.alloc | apply Kept.drewN | apply Kept.drew | refine Kept.setCell ?_ (.inr GW331.out) _ | refine Kept.setCell ?_ (.inr GW332.out) _ | refine Kept.setCell ?_ (.inr GW333.out) _ | refine Kept.setCell ?_ (.inr GW342.out) _) | exact HK.out)) hb)
                  have n9_ := Aside0.mk (below_step (by repeat (first | (with_reducible first | exact HB.out | apply below_alloc | apply pw_below_drewN | apply below_drew1 | refine below_set ?_ GE331.out | refine below_set ?_ GE332.out | refine below_set ?_ GE333.out | refine below_set ?_ GE342.out) | exact HB.out)) hb)
                  clear HO_332001
                  clear HO_334000
                  clear HO_334001
                  clear HO_334002
                  clear BK331
                  clear BK332
                  clear BK333
                  clear BK342
                  clear HK
                  clear HB
                  have HO_332001 := n0_
                  have HO_334000 := n1_
                  have HO_334001 := n2_
                  have HO_334002 := n3_
                  have BK331 := n4_
                  have BK332 := n5_
                  have BK333 := n6_
                  have BK342 := n7_
                  have HK := n8_
                  have HB := n9_
                  clear n0_ n1_ n2_ n3_ n4_ n5_ n6_ n7_ n8_ n9_
                  (try clear hb)
                  (try clear hb2)
                  (try clear hk)
                  (try clear hi)
                  refine hK.out _ _ ⟨(blk_cell BK333.out 0).trans rfl, (blk_cell BK333.out 1).trans rfl, (blk_cell BK333.out 2).trans rfl, (blk_cell BK333.out 3).trans rfl, (blk_cell BK333.out 4).trans rfl, (blk_cell BK342.out 0).trans rfl, (blk_cell BK342.out 1).trans rfl, (blk_cell BK342.out 2).trans rfl, (blk_cell BK342.out 3).trans rfl⟩ (fun hHeld => ?_)
                  clear hK K
                  refine norm_ (a' := ?_) ?_ ?_
                  rotate_left
                  · show Act.put _ (some 62) _ = _
                    simp only [Act.put, List.setIfInBounds_toArray, List.set_cons_zero, List.set_cons_succ, i64_w, i32_w]
                    rfl
                  refine pure_ (i := 11) (N := some 63) (v := ?_) (a' := ?_) #[true, true, true, true, true, true, true, true, true, true, true, true, false, false, false, false] rfl rfl (any_of HT_.out (by kernel_rfl)) (fun _ _ _ h => h) (Or.inl ⟨by rfl, ?_⟩) ?_ ?_
                  rotate_left
                  · intro w'
                    go_simp
                    with_reducible rfl
                  rotate_left
                  · simp only [Act.put, List.setIfInBounds_toArray, List.set_cons_zero, List.set_cons_succ, i64_w, i32_w]
                    rfl
                  refine one_ (i := 12) (N := some 64) #[true, true, true, true, true, true, true, true, true, true, true, true, true, false, false, false] rfl rfl (one_of HT_.out (by kernel_rfl)) (by decide) (fun K hK => ?_)
                  refine value_ (w1 := ?_) (v := ?_) (by rfl) rfl ?_ ?_
                  rotate_left 2
                  · go_simp
                    constructor
                    · rfl
                    · rfl
                  refine hK.out _ _ ⟨(blk_cell (blk_alloc BK333.out _) 0).trans rfl, (blk_cell (blk_alloc BK333.out _) 1).trans rfl, (blk_cell (blk_alloc BK333.out _) 2).trans rfl, (blk_cell (blk_alloc BK333.out _) 3).trans rfl, (blk_cell (blk_alloc BK333.out _) 4).trans rfl, (blk_cell (blk_alloc BK342.out _) 0).trans rfl, (blk_cell (blk_alloc BK342.out _) 1).trans rfl, (blk_cell (blk_alloc BK342.out _) 2).trans rfl, (blk_cell (blk_alloc BK342.out _) 3).trans rfl⟩ (fun hHeld => ?_)
                  clear hK K
                  refine norm_ (a' := ?_) ?_ ?_
                  rotate_left
                  · show Act.put _ (some 64) _ = _
                    simp only [Act.put, List.setIfInBounds_toArray, List.set_cons_zero, List.set_cons_succ, i64_w, i32_w]
                    rfl
                  refine one_ (i := 13) (N := some 65) #[true, true, true, true, true, true, true, true, true, true, true, true, true, true, false, false] rfl rfl (one_of HT_.out (by kernel_rfl)) (by decide) (fun K hK => ?_)
                  refine Kd.R_append_step k47 (w0 := w0) w0.heap.size (by rfl) (.tmp 53) (.tmp 64) 24 47 (.agg #[(.int .i64 0), (.int .i64 0), (.int .i64 0), (.int .i64 0)]) 32 rfl Tryd.underlying24 info47 rfl (by decide) (by omega) u334002 x334002_2 (⟨(⟨t343, t344⟩ : S39), (⟨t345, t346⟩ : S39)⟩ : S47) [.int .i64 t343, .int .i64 t344, .int .i64 t345, .int .i64 t346] (fun k_ => (P0_1_ k_ ∨ w.heap.size ≤ k_) ∧ k_ ≠ gb342) (fun _ => False) rfl rfl ?aP (fun _ hk => hk.elim) ?aF ?aO ?aB ?aS ?aL ?_
                  (case aP => exact k47_mkM _ _ _ (⟨(⟨t343, t344⟩ : S39), (⟨t345, t346⟩ : S39)⟩ : S47))
                  (case aB => exact (by repeat (first | (with_reducible first | exact HB.out | apply below_alloc | apply pw_below_drewN | apply below_drew1 | refine below_set ?_ GE331.out | refine below_set ?_ GE332.out | refine below_set ?_ GE333.out | refine below_set ?_ GE342.out) | exact HB.out)))
                  (case aF => exact (fun k_ hk => ⟨(.inr (Nat.le_trans (by first | exact HK.out.1 | exact (show Kept w _ (fun k_ => P0_1_ k_) from by repeat (first | (with_reducible first | exact HK.out | apply Kept.alloc | apply Kept.drewN | apply Kept.drew | refine Kept.setCell ?_ (.inr GW331.out) _ | refine Kept.setCell ?_ (.inr GW332.out) _ | refine Kept.setCell ?_ (.inr GW333.out) _ | refine Kept.setCell ?_ (.inr GW342.out) _) | exact HK.out)).1) hk)), Kd.freshB (g := gb342) (o := .cells #[.int .i64 ((rd_T47 l0_2 x7_2).f0.f0), .int .i64 ((rd_T47 l0_2 x7_2).f0.f1), .int .i64 ((rd_T47 l0_2 x7_2).f1.f0), .int .i64 ((rd_T47 l0_2 x7_2).f1.f1)] 47 (0, 0)) (by (with_reducible repeat (first | refine blk_drewN ?_ _ | refine blk_drew ?_ | refine blk_alloc ?_ _)); exact BK342.out) k_ hk⟩))
                  (case aO => exact (by (with_reducible repeat (first | apply Kd.R_alloc | apply Kd.R_drewN | apply Kd.R_drew)); exact HO_334002.out))
                  (case aS => exact (below_size (by repeat (first | (with_reducible first | exact HB.out | apply below_alloc | apply pw_below_drewN | apply below_drew1 | refine below_set ?_ GE331.out | refine below_set ?_ GE332.out | refine below_set ?_ GE333.out | refine below_set ?_ GE342.out) | exact HB.out))))
                  (case aL => have := LMc31.out; omega)
                  intro v348 w44 ho hb hg hat
                  rw [← Ny347.out] at ho
                  have n0_ := Aside0.mk (Kd.R_over' (by (with_reducible repeat (first | apply Kd.R_alloc | apply Kd.R_drewN | apply Kd.R_drew)); exact HO_332001.out) (Kd.R_typed (by (with_reducible repeat (first | apply Kd.R_alloc | apply Kd.R_drewN | apply Kd.R_drew)); exact HO_334002.out)) (by decide) hg)
                  have n1_ := Aside0.mk (Kd.R_over' (by (with_reducible repeat (first | apply Kd.R_alloc | apply Kd.R_drewN | apply Kd.R_drew)); exact HO_334000.out) (Kd.R_typed (by (with_reducible repeat (first | apply Kd.R_alloc | apply Kd.R_drewN | apply Kd.R_drew)); exact HO_334002.out)) (by decide) hg)
                  have n2_ := Aside0.mk (Kd.R_over' (by (with_reducible repeat (first | apply Kd.R_alloc | apply Kd.R_drewN | apply Kd.R_drew)); exact HO_334001.out) (Kd.R_typed (by (with_reducible repeat (first | apply Kd.R_alloc | apply Kd.R_drewN | apply Kd.R_drew)); exact HO_334002.out)) (by decide) hg)
                  have n3_ := Aside0.mk (blk_grown (g := gb331) (o := .cells #[.slice A0_0 l0_0.length c0_0, .slice Ao3 l0_1.length co3, .slice (some ad341) l0_2.length c0_2, .int .i64 a0_3, .slice A0_4 l0_4.length c0_4] 27 (0, 0)) (by (with_reducible repeat (first | refine blk_drewN ?_ _ | refine blk_drew ?_ | refine blk_alloc ?_ _)); exact BK331.out) hg (Kd.R_ne HO_334002.out BK331.out (by decide)))
                  have n4_ := Aside0.mk (blk_grown (g := gb332) (o := .cells #[.slice none 0 0, .slice none 0 0, .slice none 0 0, .int .i64 0, .slice none 0 0] 27 (0, 0)) (by (with_reducible repeat (first | refine blk_drewN ?_ _ | refine blk_drew ?_ | refine blk_alloc ?_ _)); exact BK332.out) hg (Kd.R_ne HO_334002.out BK332.out (by decide)))
                  have n5_ := Aside0.mk (blk_grown (g := gb333) (o := .cells #[u334000, .slice Ao3 l0_1.length co3, u334002, .int .i64 a0_3, .slice none 0 0] 27 (0, 0)) (by (with_reducible repeat (first | refine blk_drewN ?_ _ | refine blk_drew ?_ | refine blk_alloc ?_ _)); exact BK333.out) hg (Kd.R_ne HO_334002.out BK333.out (by decide)))
                  have n6_ := Aside0.mk (blk_grown (g := gb342) (o := .cells #[.int .i64 ((rd_T47 l0_2 x7_2).f0.f0), .int .i64 ((rd_T47 l0_2 x7_2).f0.f1), .int .i64 ((rd_T47 l0_2 x7_2).f1.f0), .int .i64 ((rd_T47 l0_2 x7_2).f1.f1)] 47 (0, 0)) (by (with_reducible repeat (first | refine blk_drewN ?_ _ | refine blk_drew ?_ | refine blk_alloc ?_ _)); exact BK342.out) hg (Kd.R_away HO_334002.out (fun _ hk => hk.2)))
                  have n7_ := Aside0.mk (hb)
                  have n8_ := Aside0.mk (Kept.of_grown (S := (fun k_ => P0_1_ k_)) hg (by repeat (first | (with_reducible first | exact HK.out | apply Kept.alloc | apply Kept.drewN | apply Kept.drew | refine Kept.setCell ?_ (.inr GW331.out) _ | refine Kept.setCell ?_ (.inr GW332.out) _ | refine Kept.setCell ?_ (.inr GW333.out) _ | refine Kept.setCell ?_ (.inr GW342.out) _) | exact HK.out)) (fun k_ e_ => (HO_334002.out.1 k_ e_).1))
                  have n9_ := Aside0.mk (ho)
                  clear HO_332001
                  clear HO_334000
                  clear HO_334001
                  clear BK331
                  clear BK332
                  clear BK333
                  clear BK342
                  clear HB
                  clear HK
                  clear HO_334002
                  have HO_332001 := n0_
                  have HO_334000 := n1_
                  have HO_334001 := n2_
                  have BK331 := n3_
                  have BK332 := n4_
                  have BK333 := n5_
                  have BK342 := n6_
                  have HB := n7_
                  have HK := n8_
                  have HO349 := n9_
                  clear n0_ n1_ n2_ n3_ n4_ n5_ n6_ n7_ n8_ n9_
                  clear ho hb hg hat
                  obtain ⟨Ao45, co45, eo45⟩ := Kd.R_slice HO349.out
                  (first | subst eo45 | (injection eo45 with f1_ f2_ f3_; have f4_ := f1_.symm; have f5_ := f3_.symm; clear f1_ f2_ f3_; subst f4_; subst f5_))
                  refine hK.out _ _ ⟨(blk_cell BK333.out 0).trans rfl, (blk_cell BK333.out 1).trans rfl, (blk_cell BK333.out 2).trans rfl, (blk_cell BK333.out 3).trans rfl, (blk_cell BK333.out 4).trans rfl, (blk_cell BK342.out 0).trans rfl, (blk_cell BK342.out 1).trans rfl, (blk_cell BK342.out 2).trans rfl, (blk_cell BK342.out 3).trans rfl⟩ (fun hHeld => ?_)
                  clear hK K
                  refine norm_ (a' := ?_) ?_ ?_
                  rotate_left
                  · show Act.put _ (some 65) _ = _
                    simp only [Act.put, List.setIfInBounds_toArray, List.set_cons_zero, List.set_cons_succ, i64_w, i32_w]
                    rfl
                  refine pure_ (i := 14) (N := some 66) (v := ?_) (a' := ?_) #[true, true, true, true, true, true, true, true, true, true, true, true, true, true, true, false] rfl rfl (any_of HT_.out (by kernel_rfl)) (fun _ _ _ h => h) (Or.inl ⟨by rfl, ?_⟩) ?_ ?_
                  rotate_left
                  · intro w'
                    go_simp
                    with_reducible rfl
                  rotate_left
                  · simp only [Act.put, List.setIfInBounds_toArray, List.set_cons_zero, List.set_cons_succ, i64_w, i32_w]
                    rfl
                  refine last_ (i := 15) (N := none) #[true, true, true, true, true, true, true, true, true, true, true, true, true, true, true, true] rfl rfl (one_of HT_.out (by kernel_rfl)) (by decide) (fun K hK => ?_)
                  have hs46 : w44.cell? ⟨gb333, 2, none⟩ = some (u334002) := (blk_cell BK333.out 2).trans rfl
                  have hfs46 := blk_frozen BK333.out 2
                  have hns46_0 := NB331_333.out
                  have hns46_1 := NB332_333.out
                  have hns46_3 := NB342_333.out
                  have hms46_0 := NB333_331.out
                  have hms46_1 := NB333_332.out
                  have hms46_3 := NB333_342.out
                  refine skip_ (w1 := ?_) (by rfl) rfl ?_ ?_
                  rotate_left
                  · go_simp
                    rfl
                  refine hK.out _ _ ?_
                  clear hK K
                  refine done_ (done_of HT_.out (by kernel_rfl)) ?_
                  try go_wp2
                  go_roundg k2
                  case measure => have := HK1.out; have := HK2.out; omega
                  case rel => exact ⟨(wrap64 (x7_2 + 1)), (y347), (.slice Ao45 y347.length co45), (by first | rfl | (simp; done) | (simp [*]; done)), H', ⟨by have := HK1.out; have := HK2.out; omega⟩, ⟨by (with_reducible repeat (first | apply Kd.R_alloc | apply Kd.R_drewN | apply Kd.R_drew)); exact Kd.R_mono (Kd.R_far (p := ⟨gb333, 2, none⟩) (Kd.R_types HO_332001.out BK333.out (by decide)) (fun _ hk => hk.2) (.slice Ao45 y347.length co45)) (fun _ hk => hk.1)⟩, ⟨by (with_reducible repeat (first | apply Kd.R_alloc | apply Kd.R_drewN | apply Kd.R_drew)); exact Kd.R_mono (Kd.R_far (p := ⟨gb333, 2, none⟩) (Kd.R_types HO_334000.out BK333.out (by decide)) (fun _ hk => hk.2) (.slice Ao45 y347.length co45)) (fun _ hk => hk.1)⟩, ⟨by (with_reducible repeat (first | apply Kd.R_alloc | apply Kd.R_drewN | apply Kd.R_drew)); exact Kd.R_mono (Kd.R_far (p := ⟨gb333, 2, none⟩) (Kd.R_types HO_334001.out BK333.out (by decide)) (fun _ hk => hk.2) (.slice Ao45 y347.length co45)) (fun _ hk => hk.1)⟩, ⟨by (with_reducible repeat (first | apply Kd.R_alloc | apply Kd.R_drewN | apply Kd.R_drew)); exact Kd.R_mono (Kd.R_far (p := ⟨gb333, 2, none⟩) (Kd.R_types HO349.out BK333.out (by decide)) (fun _ hk => hk.2) (.slice Ao45 y347.length co45)) (fun _ hk => hk.1.1)⟩, ⟨by (with_reducible repeat (first | refine blk_drewN ?_ _ | refine blk_drew ?_ | refine blk_alloc ?_ _)); refine blk_far ?_ NB331_333.out _; (with_reducible repeat (first | refine blk_drewN ?_ _ | refine blk_drew ?_ | refine blk_alloc ?_ _)); exact BK331.out⟩, ⟨by (with_reducible repeat (first | refine blk_drewN ?_ _ | refine blk_drew ?_ | refine blk_alloc ?_ _)); refine blk_far ?_ NB332_333.out _; (with_reducible repeat (first | refine blk_drewN ?_ _ | refine blk_drew ?_ | refine blk_alloc ?_ _)); exact BK332.out⟩, ⟨by (with_reducible repeat (first | refine blk_drewN ?_ _ | refine blk_drew ?_ | refine blk_alloc ?_ _)); refine blk_put (cs := #[u334000, .slice Ao3 l0_1.length co3, u334002, .int .i64 a0_3, .slice none 0 0]) ?_ 2 _ rfl; (with_reducible repeat (first | refine blk_drewN ?_ _ | refine blk_drew ?_ | refine blk_alloc ?_ _)); exact BK333.out⟩, ⟨by repeat (first | (with_reducible first | exact HK.out | apply Kept.alloc | apply Kept.drewN | apply Kept.drew | refine Kept.setCell ?_ (.inr GW331.out) _ | refine Kept.setCell ?_ (.inr GW332.out) _ | refine Kept.setCell ?_ (.inr GW333.out) _ | refine Kept.setCell ?_ (.inr GW342.out) _) | exact HK.out)⟩, ⟨by repeat (first | (with_reducible first | exact HB.out | apply below_alloc | apply pw_below_drewN | apply below_drew1 | refine below_set ?_ GE331.out | refine below_set ?_ GE332.out | refine below_set ?_ GE333.out | refine below_set ?_ GE342.out) | exact HB.out)⟩⟩
                · rw [if_neg c31] at H
                  exact absurd H (by simp)
              · rw [if_neg c28] at H
                exact absurd H (by simp)
            · rw [if_neg c27] at H
              have c27b0 : decide (x7_2 < (l0_2.length : Int)) = false := decide_eq_false c27
              clear c27
              simp only [Option.some.injEq, Prod.mk.injEq] at H
              obtain ⟨rfl, rfl, rfl, rfl, rfl⟩ := H
              have hnb47 := NB331_332.out
              have hnc47 := NB332_331.out
              have hnb48 := NB331_333.out
              have hnc48 := NB333_331.out
              have hcz49_0 : wr.cell? ⟨gb331, 0, none⟩ = some (.slice A0_0 l0_0.length c0_0) := (blk_cell BK331.out 0).trans rfl
              have hcz49_1 : wr.cell? ⟨gb331, 1, none⟩ = some (.slice Ao3 l0_1.length co3) := (blk_cell BK331.out 1).trans rfl
              have hcz49_2 : wr.cell? ⟨gb331, 2, none⟩ = some (.slice A0_2 l0_2.length c0_2) := (blk_cell BK331.out 2).trans rfl
              have hcz49_3 : wr.cell? ⟨gb331, 3, none⟩ = some (.int .i64 a0_3) := (blk_cell BK331.out 3).trans rfl
              have hcz49_4 : wr.cell? ⟨gb331, 4, none⟩ = some (.slice A0_4 l0_4.length c0_4) := (blk_cell BK331.out 4).trans rfl
              have hfz49_0 := blk_frozen BK331.out 0
              have hfz49_1 := blk_frozen BK331.out 1
              have hfz49_2 := blk_frozen BK331.out 2
              have hfz49_3 := blk_frozen BK331.out 3
              have hfz49_4 := blk_frozen BK331.out 4
              have hnb50 := NB333_332.out
              have hnc50 := NB332_333.out
              have hcz51_0 : wr.cell? ⟨gb333, 0, none⟩ = some (u334000) := (blk_cell BK333.out 0).trans rfl
              have hcz51_1 : wr.cell? ⟨gb333, 1, none⟩ = some (.slice Ao3 l0_1.length co3) := (blk_cell BK333.out 1).trans rfl
              have hcz51_2 : wr.cell? ⟨gb333, 2, none⟩ = some (u334002) := (blk_cell BK333.out 2).trans rfl
              have hcz51_3 : wr.cell? ⟨gb333, 3, none⟩ = some (.int .i64 a0_3) := (blk_cell BK333.out 3).trans rfl
              have hcz51_4 : wr.cell? ⟨gb333, 4, none⟩ = some (.slice none 0 0) := (blk_cell BK333.out 4).trans rfl
              have hfz51_0 := blk_frozen BK333.out 0
              have hfz51_1 := blk_frozen BK333.out 1
              have hfz51_2 := blk_frozen BK333.out 2
              have hfz51_3 := blk_frozen BK333.out 3
              have hfz51_4 := blk_frozen BK333.out 4
              obtain ⟨Ao52, co52, eo52⟩ := Kd.R_slice HO_334000.out
              subst eo52
              have hcz53_0 : wr.cell? ⟨gb332, 0, none⟩ = some (.slice none 0 0) := (blk_cell BK332.out 0).trans rfl
              have hcz53_1 : wr.cell? ⟨gb332, 1, none⟩ = some (.slice none 0 0) := (blk_cell BK332.out 1).trans rfl
              have hcz53_2 : wr.cell? ⟨gb332, 2, none⟩ = some (.slice none 0 0) := (blk_cell BK332.out 2).trans rfl
              have hcz53_3 : wr.cell? ⟨gb332, 3, none⟩ = some (.int .i64 0) := (blk_cell BK332.out 3).trans rfl
              have hcz53_4 : wr.cell? ⟨gb332, 4, none⟩ = some (.slice none 0 0) := (blk_cell BK332.out 4).trans rfl
              have hfz53_0 := blk_frozen BK332.out 0
              have hfz53_1 := blk_frozen BK332.out 1
              have hfz53_2 := blk_frozen BK332.out 2
              have hfz53_3 := blk_frozen BK332.out 3
              have hfz53_4 := blk_frozen BK332.out 4
              obtain ⟨Ao54, co54, eo54⟩ := Kd.R_slice HO_334002.out
              subst eo54
              go_wp2
              refine bodyPost_ret (results_cell_row rfl _ _ gb332 27 #[.slice Ao52 x334000_1.length co52, .slice Ao3 l0_1.length co3, .slice Ao54 x334002_2.length co54, .int .i64 a0_3, .slice none 0 0] (0, 0) _ rfl (by (with_reducible repeat (first | refine blk_drewN ?_ _ | refine blk_drew ?_ | refine blk_alloc ?_ _)); refine blk_put (cs := #[.slice Ao52 x334000_1.length co52, .slice Ao3 l0_1.length co3, .slice Ao54 x334002_2.length co54, .int .i64 a0_3, .slice none 0 0]) ?_ 4 _ rfl; (with_reducible repeat (first | refine blk_drewN ?_ _ | refine blk_drew ?_ | refine blk_alloc ?_ _)); refine blk_put (cs := #[.slice Ao52 x334000_1.length co52, .slice Ao3 l0_1.length co3, .slice Ao54 x334002_2.length co54, .int .i64 0, .slice none 0 0]) ?_ 3 _ rfl; (with_reducible repeat (first | refine blk_drewN ?_ _ | refine blk_drew ?_ | refine blk_alloc ?_ _)); refine blk_put (cs := #[.slice Ao52 x334000_1.length co52, .slice Ao3 l0_1.length co3, .slice none 0 0, .int .i64 0, .slice none 0 0]) ?_ 2 _ rfl; (with_reducible repeat (first | refine blk_drewN ?_ _ | refine blk_drew ?_ | refine blk_alloc ?_ _)); refine blk_put (cs := #[.slice Ao52 x334000_1.length co52, .slice none 0 0, .slice none 0 0, .int .i64 0, .slice none 0 0]) ?_ 1 _ rfl; (with_reducible repeat (first | refine blk_drewN ?_ _ | refine blk_drew ?_ | refine blk_alloc ?_ _)); refine blk_put (cs := #[.slice none 0 0, .slice none 0 0, .slice none 0 0, .int .i64 0, .slice none 0 0]) ?_ 0 _ rfl; (with_reducible repeat (first | refine blk_drewN ?_ _ | refine blk_drew ?_ | refine blk_alloc ?_ _)); exact BK332.out) Tryd.underlying27 rfl (by kernel_rfl)) rfl ?_
              exact ⟨_, _, _, _, by first | rfl | (simp [errW_none, errW_some] <;> rfl) | (simp [*, errW_none, errW_some] <;> rfl), by (with_reducible repeat (first | apply Kd.R_alloc | apply Kd.R_drewN | apply Kd.R_drew)); exact Kd.R_mono (Kd.R_far (p := ⟨gb332, 4, none⟩) (Kd.R_far (p := ⟨gb332, 3, none⟩) (Kd.R_far (p := ⟨gb332, 2, none⟩) (Kd.R_far (p := ⟨gb332, 1, none⟩) (Kd.R_far (p := ⟨gb332, 0, none⟩) (Kd.R_types HO_334000.out BK332.out (by decide)) (fun _ hk => hk.2) (.slice Ao52 x334000_1.length co52)) (fun _ hk => hk.2) (.slice Ao3 l0_1.length co3)) (fun _ hk => hk.2) (.slice Ao54 x334002_2.length co54)) (fun _ hk => hk.2) (.int .i64 a0_3)) (fun _ hk => hk.2) (.slice none 0 0)) (fun _ hk => hk.1), rfl, by (with_reducible repeat (first | apply Kd.R_alloc | apply Kd.R_drewN | apply Kd.R_drew)); exact Kd.R_mono (Kd.R_far (p := ⟨gb332, 4, none⟩) (Kd.R_far (p := ⟨gb332, 3, none⟩) (Kd.R_far (p := ⟨gb332, 2, none⟩) (Kd.R_far (p := ⟨gb332, 1, none⟩) (Kd.R_far (p := ⟨gb332, 0, none⟩) (Kd.R_types HO_334002.out BK332.out (by decide)) (fun _ hk => hk.2) (.slice Ao52 x334000_1.length co52)) (fun _ hk => hk.2) (.slice Ao3 l0_1.length co3)) (fun _ hk => hk.2) (.slice Ao54 x334002_2.length co54)) (fun _ hk => hk.2) (.int .i64 a0_3)) (fun _ hk => hk.2) (.slice none 0 0)) (fun _ hk => hk.1), by first | exact Kd.R_nil _ _ _ _ _ | exact Kd.N_nil _ _ _ _ _ | exact Kd.V_nil _ _ _ _ _ | exact Kd.Q_nil _ _ _ _ _ | exact Kd.S_nil _ _ _ _ _, by repeat (first | (with_reducible first | exact HB.out | apply below_alloc | apply pw_below_drewN | apply below_drew1 | refine below_set ?_ GE331.out | refine below_set ?_ GE332.out | refine below_set ?_ GE333.out) | exact HB.out), by repeat (first | (with_reducible first | exact HK.out | apply Kept.alloc | apply Kept.drewN | apply Kept.drew | refine Kept.setCell ?_ (.inr GW331.out) _ | refine Kept.setCell ?_ (.inr GW332.out) _ | refine Kept.setCell ?_ (.inr GW333.out) _) | exact HK.out)⟩
end Go.Proofs.YtghpoldlddghjaaDoor.PPasteTrue
namespace Go.Proofs.YtghpoldlddghjaaDoor
open Go Go.RowKit
open Go.Proofs.YtghpoldlddghjaaDoorW.PrintWords Go.Proofs.YtghpoldlddghjaaDoorW.PrintMore Go.Proofs.YtghpoldlddghjaaDoor.PPasteTrue
theorem hp39 : Kd.Heap k39 := Kd.heap_iso _ (Kd.heap_pair (Kd.heap_int _) (Kd.heap_int _))
theorem hp68 : Kd.Heap k68 := Kd.heap_iso _ (Kd.heap_pair (Kd.heap_int _) hp39)
theorem hp47 : Kd.Heap k47 := Kd.heap_iso _ (Kd.heap_pair hp39 hp39)
theorem hp59 : Kd.Heap k59 := Kd.heap_iso _ (Kd.heap_pair (Kd.heap_int _) Kd.heap_bool)
theorem end_f (s : S39) (most : Bool) : luciferlaw02_end.f s.f0 s.f1 most = some (endI s most, endI s most) := by
  cases most <;> rfl
theorem take_map68 (xs : List S68) (f : S68 → S68) {m : Nat} (h : m < xs.length) : (xs.take (m + 1)).map f = (xs.take m).map f ++ [f (rd_T68 xs (m : Int))] := by
  rw [List.take_succ_eq_append_getElem h, List.map_append]
  unfold rd_T68
  rw [List.getD_eq_getElem?_getD, Int.toNat_natCast, List.getElem?_eq_getElem h]
  rfl
theorem take_map47 (xs : List S47) (f : S47 → S47) {m : Nat} (h : m < xs.length) : (xs.take (m + 1)).map f = (xs.take m).map f ++ [f (rd_T47 xs (m : Int))] := by
  rw [List.take_succ_eq_append_getElem h, List.map_append]
  unfold rd_T47
  rw [List.getD_eq_getElem?_getD, Int.toNat_natCast, List.getElem?_eq_getElem h]
  rfl
theorem kn_l1 {ss : List S68} {ps : List S77} {xs : List S47} (hx : xs.length ≤ 4) (nd : Int) (ts : List S59) (most : Bool) (ys : List S68) : ∀ (d m k : Nat), xs.length = m + d → d < k →
    luciferlaw02_known.l1 k most m ss ps xs nd ts ys ps ((xs.take m).map (knSurf most)) nd = some (ys, ps, xs.map (knSurf most), nd, []) := by
  intro d
  induction d with
  | zero =>
    intro m k hm hk
    obtain ⟨k, rfl⟩ : ∃ q, k = q + 1 := ⟨k - 1, by omega⟩
    obtain rfl : m = xs.length := by omega
    simp only [luciferlaw02_known.l1]
    rw [if_neg (Int.lt_irrefl _), List.take_length]
  | succ d ih =>
    intro m k hm hk
    obtain ⟨k, rfl⟩ : ∃ q, k = q + 1 := ⟨k - 1, by omega⟩
    have hml : m < xs.length := by omega
    have g1 : (m : Int) < (xs.length : Int) := Int.ofNat_lt.2 hml
    have g2 : 0 ≤ (m : Int) := Int.natCast_nonneg m
    have hle : ((xs.take m).map (knSurf most)).length < 4398046511104 := by rw [List.length_map, List.length_take]; omega
    have := ih (m + 1) k (by omega) (by omega)
    have e1 : wrap64 ((m : Int) + 1) = ((m + 1 : Nat) : Int) := wrap_id rfl (by omega) (by omega)
    rw [take_map47 xs _ hml] at this
    simp only [luciferlaw02_known.l1]
    rw [if_pos g1, if_pos g2, end_f, Option.bind_some, end_f, Option.bind_some, if_pos hle, e1]
    exact this
theorem kn_l0 {ss : List S68} {ps : List S77} {xs : List S47} (hs : ss.length ≤ 4) (hx : xs.length ≤ 4) (nd : Int) (ts : List S59) (most : Bool) : ∀ (d m k : Nat), ss.length = m + d → d + xs.length + 1 < k →
    luciferlaw02_known.l0 k most m ss ps xs nd ts ((ss.take m).map (knSalt most)) ps nd = some (ss.map (knSalt most), ps, xs.map (knSurf most), nd, []) := by
  intro d
  induction d with
  | zero =>
    intro m k hm hk
    obtain ⟨k, rfl⟩ : ∃ q, k = q + 1 := ⟨k - 1, by omega⟩
    obtain rfl : m = ss.length := by omega
    have := kn_l1 (ss := ss) (ps := ps) hx nd ts most (ss.map (knSalt most)) xs.length 0 k (by omega) (by omega)
    simp only [luciferlaw02_known.l0]
    rw [if_neg (Int.lt_irrefl _), List.take_length]
    exact this
  | succ d ih =>
    intro m k hm hk
    obtain ⟨k, rfl⟩ : ∃ q, k = q + 1 := ⟨k - 1, by omega⟩
    have hml : m < ss.length := by omega
    have g1 : (m : Int) < (ss.length : Int) := Int.ofNat_lt.2 hml
    have g2 : 0 ≤ (m : Int) := Int.natCast_nonneg m
    have hle : ((ss.take m).map (knSalt most)).length < 5864062014805 := by rw [List.length_map, List.length_take]; omega
    have := ih (m + 1) k (by omega) (by omega)
    have e1 : wrap64 ((m : Int) + 1) = ((m + 1 : Nat) : Int) := wrap_id rfl (by omega) (by omega)
    rw [take_map68 ss _ hml] at this
    simp only [luciferlaw02_known.l0]
    rw [if_pos g1, if_pos g2, end_f, Option.bind_some, if_pos hle, e1]
    exact this
theorem kn_f {b : Bk} (h0 : b.salts.length ≤ 4) (h2 : b.surfs.length ≤ 4) (most : Bool) : luciferlaw02_known.f 12 b.salts b.pairs b.surfs b.need b.trials most = some ((knB b most).salts, (knB b most).pairs, (knB b most).surfs, (knB b most).need, (knB b most).trials) :=
  kn_l0 h0 h2 b.need b.trials most b.salts.length 0 12 (by omega) (by omega)
end Go.Proofs.YtghpoldlddghjaaDoor
namespace Go.Proofs.YtghpoldlddghjaaDoor.Ops
open Go Go.RowKit Go.Proofs.YtghpoldlddghjaaDoor
open Go.Proofs.YtghpoldlddghjaaDoorW.PrintWords Go.Proofs.YtghpoldlddghjaaDoorW.PrintMore Go.Proofs.YtghpoldlddghjaaDoor.PPasteTrue
section
variable {ρ : Operand → Value} {o : Oper} {w : World}
theorem fld39_0 {x : Operand} (ho : o.op = .fieldAddr 39 x 0) {g : Nat} (hx : ρ x = .pointer (some ⟨g, 0, none⟩)) : (execOp ρ o).run Tryd.prog w = .ok (.value (.pointer (some ⟨g, 0, none⟩))) w := by
  unfold execOp
  simp only [ho, hx]
  go_simp
theorem fld39_1 {x : Operand} (ho : o.op = .fieldAddr 39 x 1) {g : Nat} (hx : ρ x = .pointer (some ⟨g, 0, none⟩)) : (execOp ρ o).run Tryd.prog w = .ok (.value (.pointer (some ⟨g, 1, none⟩))) w := by
  unfold execOp
  simp only [ho, hx]
  go_simp
theorem ld3 {x : Operand} (ho : o.op = .load 3 x) {ad : Addr} {v : Int} (hx : ρ x = .pointer (some ad)) (hc : w.cell? ad = some (.int .i64 v)) : (execOp ρ o).run Tryd.prog w = .ok (.value (.int .i64 v)) w := by
  unfold execOp
  simp only [ho, hx]
  go_simp
end
end Go.Proofs.YtghpoldlddghjaaDoor.Ops
namespace Go.Proofs.YtghpoldlddghjaaDoor
open Go Go.RowKit
open Go.Proofs.YtghpoldlddghjaaDoorW.PrintWords Go.Proofs.YtghpoldlddghjaaDoorW.PrintMore Go.Proofs.YtghpoldlddghjaaDoor.PPasteTrue
def Hd.kn (h : Hd) (A0 : Option Addr) (c0 : Nat) (A2 : Option Addr) (c2 : Nat) (A4 : Option Addr) (c4 : Nat) : Hd := ⟨A0, c0, h.A1, h.c1, A2, c2, A4, c4⟩
structure KnIn (w0 : World) (h0 : Hd) (b0 : Bk) (wq : World) (base : Nat) (h : Hd) (b : Bk) : Prop where
  r0 : k68.R 68 wq base (fun _ => True) (.slice h.A0 b.salts.length h.c0) b.salts
  r2 : k47.R 47 wq base (fun _ => True) (.slice h.A2 b.surfs.length h.c2) b.surfs
  e1 : h.A1 = h0.A1 ∧ h.c1 = h0.c1 ∧ b.pairs = b0.pairs ∧ b.trials = []
theorem C_none {α : Type} (d : Kd α) (w : World) (A : Option Addr) : Kd.C d w A 0 ([] : List α) := ⟨rfl, Nat.zero_le _, fun h => absurd h (Nat.lt_irrefl _)⟩
section
variable {w0 : World} {h0 : Hd} {b0 : Bk} {wq w1 : World} {base : Nat} {h : Hd} {b : Bk}
theorem KnIn.below (s : KnIn w0 h0 b0 wq base h b) (hb : Below wq.heap.size wq w1) : KnIn w0 h0 b0 w1 base h b := ⟨Kd.R_below s.r0 hb, Kd.R_below s.r2 hb, s.e1⟩
theorem KnIn.row (s : KnIn w0 h0 b0 wq base h b) {g : Nat} {cells : Array Value} (hb : wq.heap[g]? = some (.cells cells 27 (0, 0))) (cs : Array Value) : KnIn w0 h0 b0 (wq.setRow g cs) base h b := ⟨R_setRow s.r0 hb (by decide) _, R_setRow s.r2 hb (by decide) _, s.e1⟩
theorem KnIn.set (s : KnIn w0 h0 b0 wq base h b) {g : Nat} {cells : Array Value} (hb : wq.heap[g]? = some (.cells cells 27 (0, 0))) (j : Nat) (v : Value) : KnIn w0 h0 b0 (wq.setCell ⟨g, j, none⟩ v) base h b := ⟨Kd.R_set s.r0 hb (by decide) j v, Kd.R_set s.r2 hb (by decide) j v, s.e1⟩
theorem KnIn.lower (s : KnIn w0 h0 b0 wq base h b) {base' : Nat} (hb : base' ≤ base) : KnIn w0 h0 b0 wq base' h b := ⟨Kd.R_lower s.r0 hb, Kd.R_lower s.r2 hb, s.e1⟩
theorem KnIn.bk (s : KnIn w0 h0 b0 wq base h b) (hb : BkIn wq h0 b0) : BkIn wq h b := by
  obtain ⟨e1, e2, e3, e4⟩ := s.e1
  obtain ⟨_, p2, p3⟩ := Kd.R_reads' s.r0
  obtain ⟨_, q2, q3⟩ := Kd.R_reads' s.r2
  exact ⟨p3, by rw [e1, e3]; exact hb.r1, q3, by rw [e4]; exact C_none _ _ _, p2, by rw [e2, e3]; exact hb.l1, q2, by rw [e4]; exact Nat.zero_le _⟩
end
theorem kn_rows {h : Hd} {b : Bk} {w : World} (hb : BkIn w h b) (h0 : b.salts.length ≤ 4) (h2 : b.surfs.length ≤ 4) (most : Bool) :
    Calls Tryd.prog 25 #[.agg (h.cells b), .bool most] w fun e w' => ∃ h' : Hd, e = .returned (.agg (h'.cells (knB b most))) ∧ KnIn w h b w' w.heap.size h' (knB b most) ∧ Below w.heap.size w w' := by
  have hno : ∀ k : Nat, (fun _ : Nat => False) k → w.heap.size ≤ k := fun _ hk => hk.elim
  refine (luciferlaw02_known.calls 12 h.A0 h.c0 b.salts (fun _ => False) h.A1 h.c1 b.pairs h.A2 h.c2 b.surfs b.need h.A4 h.c4 b.trials most _ _ _ _ _ w w (Below.refl _ _) (Kd.C_kept_came hp68 hb.r0 (Below.refl _ _) hno) hb.l0 (Kd.C_kept_came hp47 hb.r2 (Below.refl _ _) hno) hb.l2 (Kd.C_kept_came hp59 hb.r4 (Below.refl _ _) hno) hb.l4 (kn_f h0 h2 most)).mono ?_
  rintro e w' ⟨v0, v1, v2, v4, rfl, q0, rfl, q2, q4, hbel, _⟩
  obtain ⟨A0, c0, e0, l0, r0⟩ := Kd.R_reads q0
  obtain ⟨A2, c2, e2, l2, r2⟩ := Kd.R_reads q2
  obtain ⟨A4, c4, e4, l4, r4⟩ := Kd.R_reads q4
  subst e0
  subst e2
  subst e4
  exact ⟨h.kn A0 c0 A2 c2 A4 c4, rfl, ⟨Kd.R_mono q0 (fun _ _ => trivial), Kd.R_mono q2 (fun _ _ => trivial), rfl, rfl, rfl, rfl⟩, hbel⟩
structure EnSt (w : World) (h : Hd) (b : Bk) (hl hu : Hd) (g5 g6 g7 : Nat) (wq : World) (b2 b4 b5 b6 b7 b8 b9 b10 : Bool) : Prop where
  o : One w (h.cells b) 27 wq
  l : b2 = true → KnIn w h b wq (w.heap.size + 1) hl (knB b false)
  u : b4 = true → KnIn w h b wq (w.heap.size + 1) hu (knB b true)
  v5 : b5 = true → w.heap.size + 1 ≤ g5 ∧ wq.heap[g5]? = some (.cells (if b8 then h.cells b else z27) 27 (0, 0))
  v6 : b6 = true → w.heap.size + 1 ≤ g6 ∧ wq.heap[g6]? = some (.cells (if b9 then hl.cells (knB b false) else z27) 27 (0, 0))
  v7 : b7 = true → w.heap.size + 1 ≤ g7 ∧ wq.heap[g7]? = some (.cells (if b10 then hu.cells (knB b true) else z27) 27 (0, 0))
  n56 : b5 = true → b6 = true → g5 ≠ g6
  n57 : b5 = true → b7 = true → g5 ≠ g7
  n67 : b6 = true → b7 = true → g6 ≠ g7
  i8 : b8 = true → b5 = true
  i9 : b9 = true → b6 = true ∧ b2 = true
  i10 : b10 = true → b7 = true ∧ b4 = true
section
variable {w : World} {h : Hd} {b : Bk} {hl hu h' : Hd} {g5 g6 g7 : Nat} {wq w1 : World} {b2 b4 b5 b6 b7 b8 b9 b10 : Bool}
theorem EnSt.on (s : EnSt w h b hl hu g5 g6 g7 wq b2 b4 b5 b6 b7 b8 b9 b10) (hb : Below wq.heap.size wq w1) : EnSt w h b hl hu g5 g6 g7 w1 b2 b4 b5 b6 b7 b8 b9 b10 :=
  ⟨s.o.on hb, fun e => (s.l e).below hb, fun e => (s.u e).below hb, fun e => ⟨(s.v5 e).1, blk_below (s.v5 e).2 hb⟩, fun e => ⟨(s.v6 e).1, blk_below (s.v6 e).2 hb⟩, fun e => ⟨(s.v7 e).1, blk_below (s.v7 e).2 hb⟩, s.n56, s.n57, s.n67, s.i8, s.i9, s.i10⟩
theorem EnSt.low (s : EnSt w h b hl hu g5 g6 g7 wq false b4 b5 b6 b7 b8 b9 b10) (hb : Below wq.heap.size wq w1) (hk : KnIn w h b w1 wq.heap.size h' (knB b false)) : b9 = false ∧ EnSt w h b h' hu g5 g6 g7 w1 true b4 b5 b6 b7 b8 b9 b10 := by
  have e9 : b9 = false := false_of (fun e => (s.i9 e).2) rfl
  subst e9
  have s1 := s.on hb
  have hz := blk_lt s.o.b1
  exact ⟨rfl, s1.o, fun _ => hk.lower (by omega), s1.u, s1.v5, fun e => by simpa using s1.v6 e, s1.v7, s1.n56, s1.n57, s1.n67, s1.i8, fun e => (by cases e), s1.i10⟩
theorem EnSt.high (s : EnSt w h b hl hu g5 g6 g7 wq b2 false b5 b6 b7 b8 b9 b10) (hb : Below wq.heap.size wq w1) (hk : KnIn w h b w1 wq.heap.size h' (knB b true)) : b10 = false ∧ EnSt w h b hl h' g5 g6 g7 w1 b2 true b5 b6 b7 b8 b9 b10 := by
  have e9 : b10 = false := false_of (fun e => (s.i10 e).2) rfl
  subst e9
  have s1 := s.on hb
  have hz := blk_lt s.o.b1
  exact ⟨rfl, s1.o, s1.l, fun _ => hk.lower (by omega), s1.v5, s1.v6, fun e => by simpa using s1.v7 e, s1.n56, s1.n57, s1.n67, s1.i8, s1.i9, fun e => (by cases e)⟩
theorem EnSt.var5 (s : EnSt w h b hl hu g5 g6 g7 wq b2 b4 false b6 b7 b8 b9 b10) : b8 = false ∧ EnSt w h b hl hu wq.heap.size g6 g7 (wq.alloc (.cells z27 27)) b2 b4 true b6 b7 b8 b9 b10 := by
  have e8 : b8 = false := false_of s.i8 rfl
  subst e8
  have hz := blk_lt s.o.b1
  have s1 := s.on (below_alloc (Below.refl _ _) (.cells z27 27))
  exact ⟨rfl, s1.o, s1.l, s1.u, fun _ => ⟨by omega, by simpa using (new_at rfl : (wq.alloc (.cells z27 27)).heap[wq.heap.size]? = _)⟩, s1.v6, s1.v7, fun _ e => (by have := blk_lt (s.v6 e).2; omega), fun _ e => (by have := blk_lt (s.v7 e).2; omega), s1.n67, fun e => (by cases e), s1.i9, s1.i10⟩
theorem EnSt.var6 (s : EnSt w h b hl hu g5 g6 g7 wq b2 b4 b5 false b7 b8 b9 b10) : b9 = false ∧ EnSt w h b hl hu g5 wq.heap.size g7 (wq.alloc (.cells z27 27)) b2 b4 b5 true b7 b8 b9 b10 := by
  have e9 : b9 = false := false_of (fun e => (s.i9 e).1) rfl
  subst e9
  have hz := blk_lt s.o.b1
  have s1 := s.on (below_alloc (Below.refl _ _) (.cells z27 27))
  exact ⟨rfl, s1.o, s1.l, s1.u, s1.v5, fun _ => ⟨by omega, by simpa using (new_at rfl : (wq.alloc (.cells z27 27)).heap[wq.heap.size]? = _)⟩, s1.v7, fun e _ => (by have := blk_lt (s.v5 e).2; omega), s1.n57, fun _ e => (by have := blk_lt (s.v7 e).2; omega), s1.i8, fun e => (by cases e), s1.i10⟩
theorem EnSt.var7 (s : EnSt w h b hl hu g5 g6 g7 wq b2 b4 b5 b6 false b8 b9 b10) : b10 = false ∧ EnSt w h b hl hu g5 g6 wq.heap.size (wq.alloc (.cells z27 27)) b2 b4 b5 b6 true b8 b9 b10 := by
  have e9 : b10 = false := false_of (fun e => (s.i10 e).1) rfl
  subst e9
  have hz := blk_lt s.o.b1
  have s1 := s.on (below_alloc (Below.refl _ _) (.cells z27 27))
  exact ⟨rfl, s1.o, s1.l, s1.u, s1.v5, s1.v6, fun _ => ⟨by omega, by simpa using (new_at rfl : (wq.alloc (.cells z27 27)).heap[wq.heap.size]? = _)⟩, s1.n56, fun e _ => (by have := blk_lt (s.v5 e).2; omega), fun e _ => (by have := blk_lt (s.v6 e).2; omega), s1.i8, s1.i9, fun e => (by cases e)⟩
theorem EnSt.set5 (s : EnSt w h b hl hu g5 g6 g7 wq b2 b4 true b6 b7 false b9 b10) : EnSt w h b hl hu g5 g6 g7 (wq.setRow g5 (h.cells b)) b2 b4 true b6 b7 true b9 b10 := by
  obtain ⟨n5, h5⟩ := s.v5 rfl
  have h5' : wq.heap[g5]? = some (.cells z27 27 (0, 0)) := by simpa using h5
  exact ⟨⟨below_row s.o.below (by omega) _, (setRow_other wq g5 _ _ (by omega)).trans s.o.b1⟩, fun e => (s.l e).row h5' _, fun e => (s.u e).row h5' _, fun _ => ⟨n5, by simpa using setRow_heap wq g5 _ _ 27 _ h5'⟩, fun e => ⟨(s.v6 e).1, (setRow_other wq g5 _ _ (by have := s.n56 rfl e; omega)).trans (s.v6 e).2⟩, fun e => ⟨(s.v7 e).1, (setRow_other wq g5 _ _ (by have := s.n57 rfl e; omega)).trans (s.v7 e).2⟩, s.n56, s.n57, s.n67, fun _ => rfl, s.i9, s.i10⟩
theorem EnSt.set6 (s : EnSt w h b hl hu g5 g6 g7 wq true b4 b5 true b7 b8 false b10) : EnSt w h b hl hu g5 g6 g7 (wq.setRow g6 (hl.cells (knB b false))) true b4 b5 true b7 b8 true b10 := by
  obtain ⟨n6, h6⟩ := s.v6 rfl
  have h6' : wq.heap[g6]? = some (.cells z27 27 (0, 0)) := by simpa using h6
  exact ⟨⟨below_row s.o.below (by omega) _, (setRow_other wq g6 _ _ (by omega)).trans s.o.b1⟩, fun e => (s.l e).row h6' _, fun e => (s.u e).row h6' _, fun e => ⟨(s.v5 e).1, (setRow_other wq g6 _ _ (by have := s.n56 e rfl; omega)).trans (s.v5 e).2⟩, fun _ => ⟨n6, by simpa using setRow_heap wq g6 _ _ 27 _ h6'⟩, fun e => ⟨(s.v7 e).1, (setRow_other wq g6 _ _ (by have := s.n67 rfl e; omega)).trans (s.v7 e).2⟩, s.n56, s.n57, s.n67, s.i8, fun _ => ⟨rfl, rfl⟩, s.i10⟩
theorem EnSt.set7 (s : EnSt w h b hl hu g5 g6 g7 wq b2 true b5 b6 true b8 b9 false) : EnSt w h b hl hu g5 g6 g7 (wq.setRow g7 (hu.cells (knB b true))) b2 true b5 b6 true b8 b9 true := by
  obtain ⟨n7, h7⟩ := s.v7 rfl
  have h7' : wq.heap[g7]? = some (.cells z27 27 (0, 0)) := by simpa using h7
  exact ⟨⟨below_row s.o.below (by omega) _, (setRow_other wq g7 _ _ (by omega)).trans s.o.b1⟩, fun e => (s.l e).row h7' _, fun e => (s.u e).row h7' _, fun e => ⟨(s.v5 e).1, (setRow_other wq g7 _ _ (by have := s.n57 e rfl; omega)).trans (s.v5 e).2⟩, fun e => ⟨(s.v6 e).1, (setRow_other wq g7 _ _ (by have := s.n67 e rfl; omega)).trans (s.v6 e).2⟩, fun _ => ⟨n7, by simpa using setRow_heap wq g7 _ _ 27 _ h7'⟩, s.n56, s.n57, s.n67, s.i8, s.i9, fun _ => ⟨rfl, rfl⟩⟩
end
structure EnEnd (w : World) (h : Hd) (b : Bk) (hl hu : Hd) (g5 g6 g7 : Nat) (wq : World) : Prop where
  o : One w (h.cells b) 27 wq
  h5 : wq.heap[g5]? = some (.cells (h.bare.cells b.bare) 27 (0, 0))
  h6 : wq.heap[g6]? = some (.cells (hl.cells (knB b false)) 27 (0, 0))
  h7 : wq.heap[g7]? = some (.cells (hu.cells (knB b true)) 27 (0, 0))
  bx : BkIn wq h.bare b.bare
  bl : BkIn wq hl (knB b false)
  bu : BkIn wq hu (knB b true)
theorem EnEnd.on {w : World} {h : Hd} {b : Bk} {hl hu : Hd} {g5 g6 g7 : Nat} {wq w1 : World} (s : EnEnd w h b hl hu g5 g6 g7 wq) (hb : Below wq.heap.size wq w1) : EnEnd w h b hl hu g5 g6 g7 w1 :=
  ⟨s.o.on hb, blk_below s.h5 hb, blk_below s.h6 hb, blk_below s.h7 hb, s.bx.below hb, s.bl.below hb, s.bu.below hb⟩
theorem EnEnd.cell {w : World} {h : Hd} {b : Bk} {hl hu : Hd} {g5 g6 g7 : Nat} {wq : World} (s : EnEnd w h b hl hu g5 g6 g7 wq) (cs : Array Value) (ty : TypeId) : EnEnd w h b hl hu g5 g6 g7 (wq.alloc (.cells cs ty)) :=
  s.on (below_alloc (Below.refl _ _) _)
def EnRd (w : World) (h : Hd) (b : Bk) (hl hu : Hd) (g5 g6 g7 : Nat) (l : List (Nat × Int × Int)) (wq : World) : Prop := EnEnd w h b hl hu g5 g6 g7 wq ∧ Has wq l
theorem EnRd.on {w : World} {h : Hd} {b : Bk} {hl hu : Hd} {g5 g6 g7 : Nat} {l : List (Nat × Int × Int)} {wq w1 : World} (s : EnRd w h b hl hu g5 g6 g7 l wq) (hb : Below wq.heap.size wq w1) : EnRd w h b hl hu g5 g6 g7 l w1 := ⟨s.1.on hb, s.2.below hb⟩
theorem mixed_none {h : Hd} {b : Bk} {w : World} (hb : BkIn w h b) (hs : SP b) {p : Int} (hp : powerI b (partsOf b []) = p) : Calls Tryd.prog 14 #[.agg (h.cells b), .slice none 0 0] w fun e w' => e = .returned (.int .i64 p) ∧ Below w.heap.size w w' := by
  have := mixed_calls hb hs (A := none) (c := 0) (l := []) (Kd.C_nil _ _) (Nat.zero_le _) (by decide)
  rw [hp] at this
  exact this
end Go.Proofs.YtghpoldlddghjaaDoor
namespace Go.Proofs.YtghpoldlddghjaaDoor
open Go Go.RowKit
open Go.Proofs.YtghpoldlddghjaaDoorW.PrintWords Go.Proofs.YtghpoldlddghjaaDoorW.PrintMore Go.Proofs.YtghpoldlddghjaaDoor.PPasteTrue
set_option maxRecDepth 20000 in
set_option maxHeartbeats 4000000 in
theorem pasteEnds_calls {h : Hd} {b : Bk} {w : World} (hg : Asks w) (hb : BkIn w h b) (n : Int) : Calls Tryd.prog 4 #[.agg (h.cells b), .int .i64 n] w fun e w' => e = .returned (.bool true) ∧ Below w.heap.size w w' := by
  have HG := Lib.hid hg
  clear hg
  have HO := Lib.hid (One.start w (h.cells b) 27)
  cases hsd : soundB b with
  | false =>
    have HS := Lib.hid hsd
    clear hsd
    go_enter Tryd.func4, Tryd.ntmps4
    go_wp2_with (first | (with_reducible refine b_box (t := 27) rfl rfl rfl ?_) | ((with_reducible refine gate_dst (N := 21) rfl ?_); refine wpList_load_row rfl 27 _ rfl w.heap.size rfl 27 (h.cells b) (0, 0) _ HO.out.b1 Tryd.underlying27 rfl i27 ?_) | (go_at_call 11; refine (sound_calls (hb.below HO.out.below)).mono ?_; rintro e w1 ⟨rfl, hb1⟩; rw [HS.out]; have HB1 := Lib.hid (below_step HO.out.below hb1); clear hb1) | (go_at_call 12; refine (rubbed_calls (HG.out.below HB1.out)).mono ?_; rintro e w2 ⟨rfl, hb2⟩; have HB2 := Lib.hid (below_step HB1.out hb2); clear hb2))
    go_ret
    exact ⟨rfl, HB2.out⟩
  | true =>
    have HS := Lib.hid hsd
    obtain ⟨hck, hsa, hgd⟩ := sound_good hsd
    have HSA := Lib.hid hsa
    have hs4 := hgd.sp.s1
    have hu0 := hgd.u0
    have hu1 := hgd.u1
    have HCK := Lib.hid hck
    have HGD := Lib.hid hgd
    clear hsd hck hsa hgd
    go_enter Tryd.func4, Tryd.ntmps4
    go_upto_region 3 with (first | (with_reducible refine b_box (t := 27) rfl rfl rfl ?_) | ((with_reducible refine gate_dst (N := 21) rfl ?_); refine wpList_load_row rfl 27 _ rfl w.heap.size rfl 27 (h.cells b) (0, 0) _ HO.out.b1 Tryd.underlying27 rfl i27 ?_) | (go_at_call 11; refine (sound_calls (hb.below HO.out.below)).mono ?_; rintro e w1 ⟨rfl, hb1⟩; rw [HS.out]; have HO1 := Lib.hid (HO.out.on hb1); clear hb1))
    rename_i K hK
    refine draw_inv2 mixed (by kernel_rfl) (fun bb a wq => ∃ (hl : Hd) (hu : Hd) (g5 : Nat) (g6 : Nat) (g7 : Nat), a = ⟨#[.agg (h.cells b), .int .i64 n, .pointer (some ⟨w.heap.size, 0, none⟩), undef, .bool false, (if bb 5 then .pointer (some ⟨g5, 0, none⟩) else undef), (if bb 6 then .pointer (some ⟨g6, 0, none⟩) else undef), (if bb 7 then .pointer (some ⟨g7, 0, none⟩) else undef), undef, undef, undef, undef, undef, undef, undef, undef, undef, undef, undef, undef, undef, .agg (h.cells b), .bool true, .bool false, undef, (if bb 0 then .agg (h.cells b) else undef), (if bb 1 then .agg (h.cells b) else undef), (if bb 2 then .agg (hl.cells (knB b false)) else undef), (if bb 3 then .agg (h.cells b) else undef), (if bb 4 then .agg (hu.cells (knB b true)) else undef), undef, undef, undef, undef, undef, undef, undef, undef, undef, undef, undef, undef, undef, undef, undef, undef, undef, undef, undef, undef, undef, undef, undef, undef, undef, undef, undef, undef, undef, undef, undef, undef, undef, undef, undef, undef, undef, undef, undef, undef, undef, undef, undef, undef, undef, undef, undef, undef, undef, undef, undef, undef, undef, undef, undef, undef, undef, undef, undef, undef, undef, undef, undef, undef, undef, undef, undef, undef, undef, undef, undef, undef, undef, undef, undef, undef, undef, undef, undef, undef, undef, undef, undef, undef, undef, undef, undef, undef, undef, undef, undef, undef, undef, undef, undef, undef, undef, undef, undef, undef, undef, undef, undef, undef, undef, undef, undef, undef, undef, undef, undef, undef, undef, undef, undef, undef, undef, undef, undef, undef, undef], []⟩ ∧ EnSt w h b hl hu g5 g6 g7 wq (bb 2) (bb 4) (bb 5) (bb 6) (bb 7) (bb 8) (bb 9) (bb 10)) ?_ ?_ ?_
    · exact ⟨h, h, 0, 0, 0, by simp, by simpa using (EnSt.on ⟨HO1.out, by simp, by simp, by simp, by simp, by simp, by simp, by simp, by simp, by simp, by simp, by simp⟩ (Below.refl _ _).drew : EnSt w h b h h 0 0 0 w1.drew false false false false false false false false)⟩
    · intro i hil bb a wq hI hbi hcame
      obtain ⟨hl, hu, g5, g6, g7, rfl, hst⟩ := hI
      rcases i with _ | _ | _ | _ | _ | _ | _ | _ | _ | _ | _ | i
      · refine op_value rfl rfl (x_load (g := w.heap.size) rfl rfl hst.o.b1 Tryd.underlying27 rfl i27) ⟨hl, hu, g5, g6, g7, by simp [Act.put, Act.eval, upd], ?_⟩
        simpa [upd] using hst
      · refine op_value rfl rfl (x_load (g := w.heap.size) rfl rfl hst.o.b1 Tryd.underlying27 rfl i27) ⟨hl, hu, g5, g6, g7, by simp [Act.put, Act.eval, upd], ?_⟩
        simpa [upd] using hst
      · have hh := hcame
        simp [Came, Region.binds] at hh
        refine op_call rfl rfl (run_call Tryd.func25 (by kernel_rfl) rfl rfl rfl (args := #[.agg (h.cells b), .bool false]) (by simp [Act.eval, hh])) ((kn_rows (hb.below hst.o.below) hs4 hu1 false).mono ?_)
        rintro e w5 ⟨h', rfl, hk5, hb5⟩
        have hst' := hst
        rw [hbi] at hst'
        obtain ⟨e9, hst2⟩ := hst'.low hb5 ⟨hk5.r0, hk5.r2, hk5.e1⟩
        refine ⟨_, rfl, h', hu, g5, g6, g7, by simp [Act.put, upd, hh], ?_⟩
        simpa [upd, e9] using hst2
      · refine op_value rfl rfl (x_load (g := w.heap.size) rfl rfl hst.o.b1 Tryd.underlying27 rfl i27) ⟨hl, hu, g5, g6, g7, by simp [Act.put, Act.eval, upd], ?_⟩
        simpa [upd] using hst
      · have hh := hcame
        simp [Came, Region.binds] at hh
        refine op_call rfl rfl (run_call Tryd.func25 (by kernel_rfl) rfl rfl rfl (args := #[.agg (h.cells b), .bool true]) (by simp [Act.eval, hh])) ((kn_rows (hb.below hst.o.below) hs4 hu1 true).mono ?_)
        rintro e w5 ⟨h', rfl, hk5, hb5⟩
        have hst' := hst
        rw [hbi] at hst'
        obtain ⟨e9, hst2⟩ := hst'.high hb5 ⟨hk5.r0, hk5.r2, hk5.e1⟩
        refine ⟨_, rfl, hl, h', g5, g6, g7, by simp [Act.put, upd, hh], ?_⟩
        simpa [upd, e9] using hst2
      · have hst' := hst
        rw [hbi] at hst'
        obtain ⟨e8, hst2⟩ := hst'.var5
        refine op_value rfl rfl (x_alloc rfl zb27) ⟨hl, hu, wq.heap.size, g6, g7, by simp [Act.put, Act.eval, upd], ?_⟩
        simpa [upd, e8] using hst2
      · have hst' := hst
        rw [hbi] at hst'
        obtain ⟨e8, hst2⟩ := hst'.var6
        refine op_value rfl rfl (x_alloc rfl zb27) ⟨hl, hu, g5, wq.heap.size, g7, by simp [Act.put, Act.eval, upd], ?_⟩
        simpa [upd, e8] using hst2
      · have hst' := hst
        rw [hbi] at hst'
        obtain ⟨e8, hst2⟩ := hst'.var7
        refine op_value rfl rfl (x_alloc rfl zb27) ⟨hl, hu, g5, g6, wq.heap.size, by simp [Act.put, Act.eval, upd], ?_⟩
        simpa [upd, e8] using hst2
      · have hh := hcame
        simp [Came, Region.binds] at hh
        have h5 : bb 5 = true := by simp [hh]
        have hst' := hst
        rw [hbi, h5] at hst'
        refine op_skip rfl rfl (x_store (g := g5) (cells := h.cells b) rfl (by simp [Act.eval, hh]) (by simp [Act.eval, hh]) (show wq.heap[g5]? = some (.cells z27 27 (0, 0)) by simpa using (hst'.v5 rfl).2) i27 rfl (cells_one _ _)) ⟨hl, hu, g5, g6, g7, by simp [Act.put, upd, hh], ?_⟩
        simpa [upd, h5] using hst'.set5
      · have hh := hcame
        simp [Came, Region.binds] at hh
        have h6 : bb 6 = true := by simp [hh]
        have h2 : bb 2 = true := by simp [hh]
        have hst' := hst
        rw [hbi, h6, h2] at hst'
        refine op_skip rfl rfl (x_store (g := g6) (cells := hl.cells (knB b false)) rfl (by simp [Act.eval, hh]) (by simp [Act.eval, hh]) (show wq.heap[g6]? = some (.cells z27 27 (0, 0)) by simpa using (hst'.v6 rfl).2) i27 rfl (cells_one _ _)) ⟨hl, hu, g5, g6, g7, by simp [Act.put, upd, hh], ?_⟩
        simpa [upd, h6, h2] using hst'.set6
      · have hh := hcame
        simp [Came, Region.binds] at hh
        have h7 : bb 7 = true := by simp [hh]
        have h4 : bb 4 = true := by simp [hh]
        have hst' := hst
        rw [hbi, h7, h4] at hst'
        refine op_skip rfl rfl (x_store (g := g7) (cells := hu.cells (knB b true)) rfl (by simp [Act.eval, hh]) (by simp [Act.eval, hh]) (show wq.heap[g7]? = some (.cells z27 27 (0, 0)) by simpa using (hst'.v7 rfl).2) i27 rfl (cells_one _ _)) ⟨hl, hu, g5, g6, g7, by simp [Act.put, upd, hh], ?_⟩
        simpa [upd, h7, h4] using hst'.set7
      · simp at hil; omega
    · intro bb a wf hI hall
      obtain ⟨hl, hu, g5, g6, g7, rfl, hst⟩ := hI
      refine hK _ _ ?_
      simp only [hall 0 (by simp), hall 1 (by simp), hall 2 (by simp), hall 3 (by simp), hall 4 (by simp), hall 5 (by simp), hall 6 (by simp), hall 7 (by simp), hall 8 (by simp), hall 9 (by simp), hall 10 (by simp), if_true]
      rw [hall 2 (by simp), hall 4 (by simp), hall 5 (by simp), hall 6 (by simp), hall 7 (by simp), hall 8 (by simp), hall 9 (by simp), hall 10 (by simp)] at hst
      clear hall hK
      obtain ⟨n5, h5⟩ := hst.v5 rfl
      obtain ⟨n6, h6⟩ := hst.v6 rfl
      obtain ⟨n7, h7⟩ := hst.v7 rfl
      have h56 : g5 ≠ g6 := hst.n56 rfl rfl
      have h57 : g5 ≠ g7 := hst.n57 rfl rfl
      have h5' : wf.heap[g5]? = some (.cells (h.cells b) 27 (0, 0)) := by simpa using h5
      have h6' : wf.heap[g6]? = some (.cells (hl.cells (knB b false)) 27 (0, 0)) := by simpa using h6
      have h7' : wf.heap[g7]? = some (.cells (hu.cells (knB b true)) 27 (0, 0)) := by simpa using h7
      have f5 := blk_frozen h5' 4
      have c5 : wf.cell? ⟨g5, 4, none⟩ = some (.slice h.A4 b.trials.length h.c4) := (blk_cell h5' 4).trans rfl
      have z5 := blk_lt h5'
      have H5 := Lib.hid h5'
      have H6 := Lib.hid h6'
      have H7 := Lib.hid h7'
      have HL := Lib.hid (hst.l rfl)
      have HU := Lib.hid (hst.u rfl)
      have HOW := Lib.hid hst.o
      clear hst h5 h6 h7 h5' h6' h7'
      go_upto_region 5 with (first | fail)
      have hV : EnEnd w h b hl hu g5 g6 g7 (wf.setCell ⟨g5, 4, none⟩ (.slice none 0 0)) := by
        have hbel : Below w.heap.size w (wf.setCell ⟨g5, 4, none⟩ (.slice none 0 0)) := HOW.out.below.setCell (by simp; omega) _
        exact ⟨⟨hbel, blk_far HOW.out.b1 (by simp; omega) _⟩, blk_put H5.out 4 (.slice none 0 0) rfl, blk_far H6.out (p := ⟨g5, 4, none⟩) (by simpa using fun e => h56 e.symm) (.slice none 0 0), blk_far H7.out (p := ⟨g5, 4, none⟩) (by simpa using fun e => h57 e.symm) (.slice none 0 0), (hb.below hbel).bare, (HL.out.set H5.out 4 _).bk (hb.below hbel), (HU.out.set H5.out 4 _).bk (hb.below hbel)⟩
      generalize wf.setCell ⟨g5, 4, none⟩ (.slice none 0 0) = V at hV ⊢
      have HM0 := Lib.hid hV
      have c2 : V.cell? ⟨w.heap.size, 2, none⟩ = some (.slice h.A2 b.surfs.length h.c2) := (blk_cell hV.o.b1 2).trans rfl
      have zz := blk_lt hV.o.b1
      clear hV f5 c5 z5 H5 H6 H7 HL HU HOW HO1
      obtain ⟨hs1, hs2⟩ := (spin_f n b.surfs.length (by omega) (by omega)).2
      obtain ⟨k, hk⟩ := Int.eq_ofNat_of_zero_le hs1
      have hkl : k < b.surfs.length := by omega
      have HSP := Lib.hid hk
      have hfacts := ends_facts HCK.out HGD.out hkl
      have HFF := Lib.hid hfacts
      obtain ⟨pl, hpl⟩ : ∃ p, endP b false = p := ⟨_, rfl⟩
      obtain ⟨pu, hpu⟩ : ∃ p, endP b true = p := ⟨_, rfl⟩
      obtain ⟨aa, ha⟩ : ∃ aa, lR b.bare k = aa := ⟨_, rfl⟩
      obtain ⟨cc, hc⟩ : ∃ cc, lR (knB b false) k = cc := ⟨_, rfl⟩
      obtain ⟨dd, hd⟩ : ∃ dd, lR (knB b true) k = dd := ⟨_, rfl⟩
      have K0 := Lib.hid (show kR b.bare = (pl, pu) by rw [hfacts.1, hpl, hpu])
      have K1 := Lib.hid (show kR (knB b false) = (pl, pl) by rw [hfacts.2.1, hpl])
      have K2 := Lib.hid (show kR (knB b true) = (pu, pu) by rw [hfacts.2.1, hpu])
      have HPL := Lib.hid hpl
      have HPU := Lib.hid hpu
      have HA := Lib.hid ha
      have HC := Lib.hid hc
      have HD := Lib.hid hd
      clear hs1 hs2 hk hkl hfacts hpl hpu ha hc hd n5 n6 n7 h56 h57
      go_upto_region 6 with (first | (go_at_call 26; refine (spin_calls n b.surfs.length (by omega) (by omega) _).mono ?_; rintro e2 v1 ⟨rfl, hv1⟩; rw [HSP.out]; have HM1 := Lib.hid (HM0.out.on hv1); clear hv1))
      have A0 := Lib.hid HFF.out.2.2.2.2.2.1
      have A1 := Lib.hid HFF.out.2.2.2.2.2.2.1
      have F0 := Lib.hid HFF.out.2.2.2.2.2.2.2.1
      have F1 := Lib.hid HFF.out.2.2.2.2.2.2.2.2
      go_upto_region 7 with (first | ((with_reducible refine gate_dst (N := 37) rfl ?_); refine wpList_load_row rfl 27 _ rfl g5 rfl 27 (h.bare.cells b.bare) (0, 0) _ HM1.out.h5 Tryd.underlying27 rfl i27 ?_) | (go_at_call 17; refine (power_at (r := (pl, pu)) (ey := 0) HM1.out.bx HSA.out K0.out A0.out).mono ?_; rintro e2 v2 ⟨rfl, hv2⟩; simp only []; have HM2 := Lib.hid (HM1.out.on hv2); clear hv2))
      obtain ⟨g9, hg9⟩ : ∃ g, g = v2.heap.size := ⟨_, rfl⟩
      have pg9 : (v2.alloc (.cells #[.int .i64 pl, .int .i64 pu] 39)).heap[g9]? = some (.cells #[.int .i64 pl, .int .i64 pu] 39 (0, 0)) := new_at hg9
      have mg9 := HM2.out.cell #[.int .i64 pl, .int .i64 pu] 39
      rw [← hg9]
      generalize v2.alloc (.cells #[.int .i64 pl, .int .i64 pu] 39) = w9 at pg9 mg9  ⊢
      have Mw9 := Lib.hid mg9
      have Qg9 := Lib.hid pg9
      clear mg9 pg9 hg9 
      go_upto_region 8 with (first | ((with_reducible refine gate_dst (N := 42) rfl ?_); refine wpList_load_row rfl 27 _ rfl g6 rfl 27 (hl.cells (knB b false)) (0, 0) _ Mw9.out.h6 Tryd.underlying27 rfl i27 ?_) | (go_at_call 17; refine (power_at (r := (pl, pl)) (ey := 0) Mw9.out.bl HSA.out K1.out (A1.out false)).mono ?_; rintro e2 v3 ⟨rfl, hv3⟩; simp only []; have HM3 := Lib.hid (Mw9.out.on hv3); have Pg93 := Lib.hid (blk_below Qg9.out hv3); clear hv3))
      obtain ⟨g11, hg11⟩ : ∃ g, g = v3.heap.size := ⟨_, rfl⟩
      have pg11 : (v3.alloc (.cells #[.int .i64 pl, .int .i64 pl] 39)).heap[g11]? = some (.cells #[.int .i64 pl, .int .i64 pl] 39 (0, 0)) := new_at hg11
      have mg11 := HM3.out.cell #[.int .i64 pl, .int .i64 pl] 39
      have qg9g11 := blk_below Pg93.out (below_alloc (Below.refl _ _) (.cells #[.int .i64 pl, .int .i64 pl] 39))
      rw [← hg11]
      generalize v3.alloc (.cells #[.int .i64 pl, .int .i64 pl] 39) = w11 at pg11 mg11 qg9g11 ⊢
      have Mw11 := Lib.hid mg11
      have Qg11 := Lib.hid pg11
      have Qg9g11 := Lib.hid qg9g11
      clear mg11 pg11 hg11 qg9g11
      go_upto_region 9 with (first | ((with_reducible refine gate_dst (N := 47) rfl ?_); refine wpList_load_row rfl 27 _ rfl g7 rfl 27 (hu.cells (knB b true)) (0, 0) _ Mw11.out.h7 Tryd.underlying27 rfl i27 ?_) | (go_at_call 17; refine (power_at (r := (pu, pu)) (ey := 0) Mw11.out.bu HSA.out K2.out (A1.out true)).mono ?_; rintro e2 v4 ⟨rfl, hv4⟩; simp only []; have HM4 := Lib.hid (Mw11.out.on hv4); have Pg94 := Lib.hid (blk_below Qg9g11.out hv4); have Pg114 := Lib.hid (blk_below Qg11.out hv4); clear hv4))
      obtain ⟨g13, hg13⟩ : ∃ g, g = v4.heap.size := ⟨_, rfl⟩
      have pg13 : (v4.alloc (.cells #[.int .i64 pu, .int .i64 pu] 39)).heap[g13]? = some (.cells #[.int .i64 pu, .int .i64 pu] 39 (0, 0)) := new_at hg13
      have mg13 := HM4.out.cell #[.int .i64 pu, .int .i64 pu] 39
      have qg9g13 := blk_below Pg94.out (below_alloc (Below.refl _ _) (.cells #[.int .i64 pu, .int .i64 pu] 39))
      have qg11g13 := blk_below Pg114.out (below_alloc (Below.refl _ _) (.cells #[.int .i64 pu, .int .i64 pu] 39))
      rw [← hg13]
      generalize v4.alloc (.cells #[.int .i64 pu, .int .i64 pu] 39) = w13 at pg13 mg13 qg9g13 qg11g13 ⊢
      have Mw13 := Lib.hid mg13
      have Qg13 := Lib.hid pg13
      have Qg9g13 := Lib.hid qg9g13
      have Qg11g13 := Lib.hid qg11g13
      clear mg13 pg13 hg13 qg9g13 qg11g13
      go_upto_region 10 with (first | ((with_reducible refine gate_dst (N := 52) rfl ?_); refine wpList_load_row rfl 27 _ rfl g5 rfl 27 (h.bare.cells b.bare) (0, 0) _ Mw13.out.h5 Tryd.underlying27 rfl i27 ?_) | (go_at_call 20; refine (Lights_calls (HG.out.below Mw13.out.o.below) Mw13.out.bx HSA.out k).mono ?_; rintro e2 v5 ⟨rfl, hv5⟩; rw [HA.out, F0.out]; have HM5 := Lib.hid (Mw13.out.on hv5); have Pg95 := Lib.hid (blk_below Qg9g13.out hv5); have Pg115 := Lib.hid (blk_below Qg11g13.out hv5); have Pg135 := Lib.hid (blk_below Qg13.out hv5); clear hv5))
      go_upto_region 11 with (first | ((with_reducible refine gate_dst (N := 58) rfl ?_); refine wpList_load_row rfl 27 _ rfl g6 rfl 27 (hl.cells (knB b false)) (0, 0) _ HM5.out.h6 Tryd.underlying27 rfl i27 ?_) | (go_at_call 20; refine (Lights_calls (HG.out.below HM5.out.o.below) HM5.out.bl HSA.out k).mono ?_; rintro e2 v6 ⟨rfl, hv6⟩; rw [HC.out, (F1.out false)]; have HM6 := Lib.hid (HM5.out.on hv6); have Pg96 := Lib.hid (blk_below Pg95.out hv6); have Pg116 := Lib.hid (blk_below Pg115.out hv6); have Pg136 := Lib.hid (blk_below Pg135.out hv6); clear hv6))
      go_upto_region 12 with (first | ((with_reducible refine gate_dst (N := 64) rfl ?_); refine wpList_load_row rfl 27 _ rfl g7 rfl 27 (hu.cells (knB b true)) (0, 0) _ HM6.out.h7 Tryd.underlying27 rfl i27 ?_) | (go_at_call 20; refine (Lights_calls (HG.out.below HM6.out.o.below) HM6.out.bu HSA.out k).mono ?_; rintro e2 v7 ⟨rfl, hv7⟩; rw [HD.out, (F1.out true)]; have HM7 := Lib.hid (HM6.out.on hv7); have Pg97 := Lib.hid (blk_below Pg96.out hv7); have Pg117 := Lib.hid (blk_below Pg116.out hv7); have Pg137 := Lib.hid (blk_below Pg136.out hv7); clear hv7))
      rename_i K hK
      refine draw_inv2 mixed (by kernel_rfl) (fun bb a wq => a = ⟨#[.agg (h.cells b), .int .i64 n, .pointer (some ⟨w.heap.size, 0, none⟩), undef, .bool false, .pointer (some ⟨g5, 0, none⟩), .pointer (some ⟨g6, 0, none⟩), .pointer (some ⟨g7, 0, none⟩), .int .i64 ↑k, .pointer (some ⟨g9, 0, none⟩), .int .i64 0, .pointer (some ⟨g11, 0, none⟩), .int .i64 0, .pointer (some ⟨g13, 0, none⟩), .int .i64 0, .int .i64 aa, .int .i64 0, .int .i64 cc, .int .i64 0, .int .i64 dd, .int .i64 0, .agg (h.cells b), .bool true, .bool false, undef, .agg (h.cells b), .agg (h.cells b), .agg (hl.cells (knB b false)), .agg (h.cells b), .agg (hu.cells (knB b true)), .pointer (some ⟨g5, 4, none⟩), .int .i64 n, .pointer (some ⟨w.heap.size, 2, none⟩), .slice h.A2 b.surfs.length h.c2, .int .i64 ↑b.surfs.length, .int .i64 ↑k, .tuple #[.agg #[.int .i64 pl, .int .i64 pu], .int .i64 0], .agg (h.bare.cells b.bare), .tuple #[.agg #[.int .i64 pl, .int .i64 pu], .int .i64 0], .agg #[.int .i64 pl, .int .i64 pu], .int .i64 0, .tuple #[.agg #[.int .i64 pl, .int .i64 pl], .int .i64 0], .agg (hl.cells (knB b false)), .tuple #[.agg #[.int .i64 pl, .int .i64 pl], .int .i64 0], .agg #[.int .i64 pl, .int .i64 pl], .int .i64 0, .tuple #[.agg #[.int .i64 pu, .int .i64 pu], .int .i64 0], .agg (hu.cells (knB b true)), .tuple #[.agg #[.int .i64 pu, .int .i64 pu], .int .i64 0], .agg #[.int .i64 pu, .int .i64 pu], .int .i64 0, .tuple #[.int .i64 aa, .int .i64 0], .agg (h.bare.cells b.bare), .int .i64 ↑k, .tuple #[.int .i64 aa, .int .i64 0], .int .i64 aa, .int .i64 0, .tuple #[.int .i64 cc, .int .i64 0], .agg (hl.cells (knB b false)), .int .i64 ↑k, .tuple #[.int .i64 cc, .int .i64 0], .int .i64 cc, .int .i64 0, .tuple #[.int .i64 dd, .int .i64 0], .agg (hu.cells (knB b true)), .int .i64 ↑k, .tuple #[.int .i64 dd, .int .i64 0], .int .i64 dd, .int .i64 0, (if bb 0 then .int .i64 0 else undef), (if bb 1 then .bool false else undef), (if bb 2 then .bool false else undef), (if bb 3 then .int .i64 0 else undef), (if bb 4 then .bool false else undef), (if bb 5 then .bool false else undef), (if bb 6 then .bool false else undef), (if bb 7 then .int .i64 0 else undef), (if bb 8 then .bool false else undef), (if bb 9 then .bool false else undef), (if bb 10 then .bool false else undef), (if bb 11 then .int .i64 0 else undef), (if bb 12 then .bool false else undef), (if bb 13 then .bool false else undef), (if bb 14 then .bool false else undef), (if bb 15 then .int .i64 0 else undef), (if bb 16 then .bool false else undef), (if bb 17 then .bool false else undef), (if bb 18 then .bool false else undef), (if bb 19 then .int .i64 0 else undef), (if bb 20 then .bool false else undef), (if bb 21 then .bool false else undef), (if bb 22 then .bool false else undef), (if bb 23 then .pointer (some ⟨g11, 0, none⟩) else undef), (if bb 24 then .int .i64 pl else undef), (if bb 25 then .pointer (some ⟨g11, 1, none⟩) else undef), (if bb 26 then .int .i64 pl else undef), (if bb 27 then .bool false else undef), (if bb 28 then .bool false else undef), (if bb 29 then .bool false else undef), (if bb 30 then .pointer (some ⟨g13, 0, none⟩) else undef), (if bb 31 then .int .i64 pu else undef), (if bb 32 then .pointer (some ⟨g13, 1, none⟩) else undef), (if bb 33 then .int .i64 pu else undef), (if bb 34 then .bool false else undef), (if bb 35 then .bool false else undef), (if bb 36 then .bool false else undef), (if bb 37 then .agg #[.int .i64 pl, .int .i64 pu] else undef), (if bb 38 then .pointer (some ⟨g11, 0, none⟩) else undef), (if bb 39 then .int .i64 pl else undef), (if bb 40 then .pointer (some ⟨g13, 1, none⟩) else undef), (if bb 41 then .int .i64 pu else undef), (if bb 42 then .agg #[.int .i64 pl, .int .i64 pu] else undef), (if bb 43 then .bool false else undef), (if bb 44 then .bool false else undef), (if bb 45 then .bool false else undef), (if bb 46 then .pointer (some ⟨g11, 0, none⟩) else undef), (if bb 47 then .int .i64 pl else undef), (if bb 48 then .agg (hl.cells (knB b false)) else undef), (if bb 49 then .int .i64 pl else undef), (if bb 50 then .bool false else undef), (if bb 51 then .bool false else undef), (if bb 52 then .bool false else undef), (if bb 53 then .pointer (some ⟨g13, 0, none⟩) else undef), (if bb 54 then .int .i64 pu else undef), (if bb 55 then .agg (hu.cells (knB b true)) else undef), (if bb 56 then .int .i64 pu else undef), (if bb 57 then .bool false else undef), (if bb 58 then .bool false else undef), undef, undef, undef, undef, undef, undef, undef, undef, undef, undef, undef, undef, undef, undef, undef, undef, undef, undef, undef, undef, undef, undef, undef], []⟩ ∧ EnRd w h b hl hu g5 g6 g7 [(g9, pl, pu), (g11, pl, pl), (g13, pu, pu)] wq) ?_ ?_ ?_
      · exact ⟨by simp, by simpa using (EnRd.on ⟨HM7.out, Has.cons (Has.cons (Has.cons (fun _ h => by cases h) Pg137.out) Pg117.out) Pg97.out⟩ (Below.refl _ _).drew : EnRd w h b hl hu g5 g6 g7 [(g9, pl, pu), (g11, pl, pl), (g13, pu, pu)] v7.drew)⟩
      · intro i hil bb a wq hI hbi hcame
        obtain ⟨rfl, hst⟩ := hI
        rcases i with _ | _ | _ | _ | _ | _ | _ | _ | _ | _ | _ | _ | _ | _ | _ | _ | _ | _ | _ | _ | _ | _ | _ | _ | _ | _ | _ | _ | _ | _ | _ | _ | _ | _ | _ | _ | _ | _ | _ | _ | _ | _ | _ | _ | _ | _ | _ | _ | _ | _ | _ | _ | _ | _ | _ | _ | _ | _ | _ | i
        · refine op_value rfl rfl (x_assign (.inr rfl)) ⟨by simp [Act.put, Act.eval, upd], ?_⟩
          simpa [upd] using hst
        · have hh := hcame
          simp [Came, Region.binds] at hh
          refine op_value rfl rfl (x_ne33 (x := .tmp 69) (y := .const (.int .i64 0)) (i := 0) (j := 0) rfl (by simp [Act.eval, hh]) rfl) ⟨by simp [Act.put, Act.eval, upd, hh], ?_⟩
          simpa [upd] using hst
        · have hh := hcame
          simp [Came, Region.binds] at hh
          refine op_value rfl rfl (x_assign (.inr rfl)) ⟨by simp [Act.put, Act.eval, upd, hh], ?_⟩
          simpa [upd] using hst
        · have hh := hcame
          simp [Came, Region.binds] at hh
          refine op_value rfl (wanted_of (j := 2) rfl rfl rfl (by simp [hh])) (x_assign (.inr rfl)) ⟨by simp [Act.put, Act.eval, upd, hh], ?_⟩
          simpa [upd] using hst
        · have hh := hcame
          simp [Came, Region.binds] at hh
          refine op_value rfl (wanted_of (j := 2) rfl rfl rfl (by simp [hh])) (x_ne33 (x := .tmp 72) (y := .const (.int .i64 0)) (i := 0) (j := 0) rfl (by simp [Act.eval, hh]) rfl) ⟨by simp [Act.put, Act.eval, upd, hh], ?_⟩
          simpa [upd] using hst
        · have hh := hcame
          simp [Came, Region.binds] at hh
          refine op_value rfl rfl (x_pickF (c := .tmp 71) (y := .tmp 73) (v := .bool false) rfl (by simp [Act.eval, hh]) (by simp [Act.eval, hh])) ⟨by simp [Act.put, Act.eval, upd, hh], ?_⟩
          simpa [upd] using hst
        · have hh := hcame
          simp [Came, Region.binds] at hh
          refine op_value rfl rfl (x_assign (.inr rfl)) ⟨by simp [Act.put, Act.eval, upd, hh], ?_⟩
          simpa [upd] using hst
        · have hh := hcame
          simp [Came, Region.binds] at hh
          refine op_value rfl (wanted_of (j := 6) rfl rfl rfl (by simp [hh])) (x_assign (.inr rfl)) ⟨by simp [Act.put, Act.eval, upd, hh], ?_⟩
          simpa [upd] using hst
        · have hh := hcame
          simp [Came, Region.binds] at hh
          refine op_value rfl (wanted_of (j := 6) rfl rfl rfl (by simp [hh])) (x_ne33 (x := .tmp 76) (y := .const (.int .i64 0)) (i := 0) (j := 0) rfl (by simp [Act.eval, hh]) rfl) ⟨by simp [Act.put, Act.eval, upd, hh], ?_⟩
          simpa [upd] using hst
        · have hh := hcame
          simp [Came, Region.binds] at hh
          refine op_value rfl rfl (x_pickF (c := .tmp 75) (y := .tmp 77) (v := .bool false) rfl (by simp [Act.eval, hh]) (by simp [Act.eval, hh])) ⟨by simp [Act.put, Act.eval, upd, hh], ?_⟩
          simpa [upd] using hst
        · have hh := hcame
          simp [Came, Region.binds] at hh
          refine op_value rfl rfl (x_assign (.inr rfl)) ⟨by simp [Act.put, Act.eval, upd, hh], ?_⟩
          simpa [upd] using hst
        · have hh := hcame
          simp [Came, Region.binds] at hh
          refine op_value rfl (wanted_of (j := 10) rfl rfl rfl (by simp [hh])) (x_assign (.inr rfl)) ⟨by simp [Act.put, Act.eval, upd, hh], ?_⟩
          simpa [upd] using hst
        · have hh := hcame
          simp [Came, Region.binds] at hh
          refine op_value rfl (wanted_of (j := 10) rfl rfl rfl (by simp [hh])) (x_ne33 (x := .tmp 80) (y := .const (.int .i64 0)) (i := 0) (j := 0) rfl (by simp [Act.eval, hh]) rfl) ⟨by simp [Act.put, Act.eval, upd, hh], ?_⟩
          simpa [upd] using hst
        · have hh := hcame
          simp [Came, Region.binds] at hh
          refine op_value rfl rfl (x_pickF (c := .tmp 79) (y := .tmp 81) (v := .bool false) rfl (by simp [Act.eval, hh]) (by simp [Act.eval, hh])) ⟨by simp [Act.put, Act.eval, upd, hh], ?_⟩
          simpa [upd] using hst
        · have hh := hcame
          simp [Came, Region.binds] at hh
          refine op_value rfl rfl (x_assign (.inr rfl)) ⟨by simp [Act.put, Act.eval, upd, hh], ?_⟩
          simpa [upd] using hst
        · have hh := hcame
          simp [Came, Region.binds] at hh
          refine op_value rfl (wanted_of (j := 14) rfl rfl rfl (by simp [hh])) (x_assign (.inr rfl)) ⟨by simp [Act.put, Act.eval, upd, hh], ?_⟩
          simpa [upd] using hst
        · have hh := hcame
          simp [Came, Region.binds] at hh
          refine op_value rfl (wanted_of (j := 14) rfl rfl rfl (by simp [hh])) (x_ne33 (x := .tmp 84) (y := .const (.int .i64 0)) (i := 0) (j := 0) rfl (by simp [Act.eval, hh]) rfl) ⟨by simp [Act.put, Act.eval, upd, hh], ?_⟩
          simpa [upd] using hst
        · have hh := hcame
          simp [Came, Region.binds] at hh
          refine op_value rfl rfl (x_pickF (c := .tmp 83) (y := .tmp 85) (v := .bool false) rfl (by simp [Act.eval, hh]) (by simp [Act.eval, hh])) ⟨by simp [Act.put, Act.eval, upd, hh], ?_⟩
          simpa [upd] using hst
        · have hh := hcame
          simp [Came, Region.binds] at hh
          refine op_value rfl rfl (x_assign (.inr rfl)) ⟨by simp [Act.put, Act.eval, upd, hh], ?_⟩
          simpa [upd] using hst
        · have hh := hcame
          simp [Came, Region.binds] at hh
          refine op_value rfl (wanted_of (j := 18) rfl rfl rfl (by simp [hh])) (x_assign (.inr rfl)) ⟨by simp [Act.put, Act.eval, upd, hh], ?_⟩
          simpa [upd] using hst
        · have hh := hcame
          simp [Came, Region.binds] at hh
          refine op_value rfl (wanted_of (j := 18) rfl rfl rfl (by simp [hh])) (x_ne33 (x := .tmp 88) (y := .const (.int .i64 0)) (i := 0) (j := 0) rfl (by simp [Act.eval, hh]) rfl) ⟨by simp [Act.put, Act.eval, upd, hh], ?_⟩
          simpa [upd] using hst
        · have hh := hcame
          simp [Came, Region.binds] at hh
          refine op_value rfl rfl (x_pickF (c := .tmp 87) (y := .tmp 89) (v := .bool false) rfl (by simp [Act.eval, hh]) (by simp [Act.eval, hh])) ⟨by simp [Act.put, Act.eval, upd, hh], ?_⟩
          simpa [upd] using hst
        · have hh := hcame
          simp [Came, Region.binds] at hh
          refine op_value rfl rfl (x_assign (.inr rfl)) ⟨by simp [Act.put, Act.eval, upd, hh], ?_⟩
          simpa [upd] using hst
        · have hh := hcame
          simp [Came, Region.binds] at hh
          refine op_value rfl (wanted_of (j := 22) rfl rfl rfl (by simp [hh])) (Ops.fld39_0 (g := g11) rfl rfl) ⟨by simp [Act.put, Act.eval, upd, hh], ?_⟩
          simpa [upd] using hst
        · have hh := hcame
          simp [Came, Region.binds] at hh
          refine op_value rfl (wanted_of (j := 22) rfl rfl rfl (by simp [hh])) (Ops.ld3 (x := .tmp 92) (ad := ⟨g11, 0, none⟩) (v := pl) rfl (by simp [Act.eval, hh]) ((blk_cell (hst.2 (g11, pl, pl) (by simp)) 0).trans rfl)) ⟨by simp [Act.put, Act.eval, upd, hh], ?_⟩
          simpa [upd] using hst
        · have hh := hcame
          simp [Came, Region.binds] at hh
          refine op_value rfl (wanted_of (j := 22) rfl rfl rfl (by simp [hh])) (Ops.fld39_1 (g := g11) rfl rfl) ⟨by simp [Act.put, Act.eval, upd, hh], ?_⟩
          simpa [upd] using hst
        · have hh := hcame
          simp [Came, Region.binds] at hh
          refine op_value rfl (wanted_of (j := 22) rfl rfl rfl (by simp [hh])) (Ops.ld3 (x := .tmp 94) (ad := ⟨g11, 1, none⟩) (v := pl) rfl (by simp [Act.eval, hh]) ((blk_cell (hst.2 (g11, pl, pl) (by simp)) 1).trans rfl)) ⟨by simp [Act.put, Act.eval, upd, hh], ?_⟩
          simpa [upd] using hst
        · have hh := hcame
          simp [Came, Region.binds] at hh
          refine op_value rfl (wanted_of (j := 22) rfl rfl rfl (by simp [hh])) (x_ne3 (x := .tmp 93) (y := .tmp 95) (i := pl) (j := pl) rfl (by simp [Act.eval, hh]) (by simp [Act.eval, hh])) ⟨by simp [Act.put, Act.eval, upd, hh], ?_⟩
          simpa [upd] using hst
        · have hh := hcame
          simp [Came, Region.binds] at hh
          refine op_value rfl rfl (x_pickF (c := .tmp 91) (y := .tmp 96) (v := .bool false) rfl (by simp [Act.eval, hh]) (by simp [Act.eval, hh])) ⟨by simp [Act.put, Act.eval, upd, hh], ?_⟩
          simpa [upd] using hst
        · have hh := hcame
          simp [Came, Region.binds] at hh
          refine op_value rfl rfl (x_assign (.inr rfl)) ⟨by simp [Act.put, Act.eval, upd, hh], ?_⟩
          simpa [upd] using hst
        · have hh := hcame
          simp [Came, Region.binds] at hh
          refine op_value rfl (wanted_of (j := 29) rfl rfl rfl (by simp [hh])) (Ops.fld39_0 (g := g13) rfl rfl) ⟨by simp [Act.put, Act.eval, upd, hh], ?_⟩
          simpa [upd] using hst
        · have hh := hcame
          simp [Came, Region.binds] at hh
          refine op_value rfl (wanted_of (j := 29) rfl rfl rfl (by simp [hh])) (Ops.ld3 (x := .tmp 99) (ad := ⟨g13, 0, none⟩) (v := pu) rfl (by simp [Act.eval, hh]) ((blk_cell (hst.2 (g13, pu, pu) (by simp)) 0).trans rfl)) ⟨by simp [Act.put, Act.eval, upd, hh], ?_⟩
          simpa [upd] using hst
        · have hh := hcame
          simp [Came, Region.binds] at hh
          refine op_value rfl (wanted_of (j := 29) rfl rfl rfl (by simp [hh])) (Ops.fld39_1 (g := g13) rfl rfl) ⟨by simp [Act.put, Act.eval, upd, hh], ?_⟩
          simpa [upd] using hst
        · have hh := hcame
          simp [Came, Region.binds] at hh
          refine op_value rfl (wanted_of (j := 29) rfl rfl rfl (by simp [hh])) (Ops.ld3 (x := .tmp 101) (ad := ⟨g13, 1, none⟩) (v := pu) rfl (by simp [Act.eval, hh]) ((blk_cell (hst.2 (g13, pu, pu) (by simp)) 1).trans rfl)) ⟨by simp [Act.put, Act.eval, upd, hh], ?_⟩
          simpa [upd] using hst
        · have hh := hcame
          simp [Came, Region.binds] at hh
          refine op_value rfl (wanted_of (j := 29) rfl rfl rfl (by simp [hh])) (x_ne3 (x := .tmp 100) (y := .tmp 102) (i := pu) (j := pu) rfl (by simp [Act.eval, hh]) (by simp [Act.eval, hh])) ⟨by simp [Act.put, Act.eval, upd, hh], ?_⟩
          simpa [upd] using hst
        · have hh := hcame
          simp [Came, Region.binds] at hh
          refine op_value rfl rfl (x_pickF (c := .tmp 98) (y := .tmp 103) (v := .bool false) rfl (by simp [Act.eval, hh]) (by simp [Act.eval, hh])) ⟨by simp [Act.put, Act.eval, upd, hh], ?_⟩
          simpa [upd] using hst
        · have hh := hcame
          simp [Came, Region.binds] at hh
          refine op_value rfl rfl (x_assign (.inr rfl)) ⟨by simp [Act.put, Act.eval, upd, hh], ?_⟩
          simpa [upd] using hst
        · have hh := hcame
          simp [Came, Region.binds] at hh
          refine op_value rfl (wanted_of (j := 36) rfl rfl rfl (by simp [hh])) (x_load (g := g9) rfl rfl (hst.2 (g9, pl, pu) (by simp)) Tryd.underlying39 rfl i39) ⟨by simp [Act.put, Act.eval, upd, hh], ?_⟩
          simpa [upd] using hst
        · have hh := hcame
          simp [Came, Region.binds] at hh
          refine op_value rfl (wanted_of (j := 36) rfl rfl rfl (by simp [hh])) (Ops.fld39_0 (g := g11) rfl rfl) ⟨by simp [Act.put, Act.eval, upd, hh], ?_⟩
          simpa [upd] using hst
        · have hh := hcame
          simp [Came, Region.binds] at hh
          refine op_value rfl (wanted_of (j := 36) rfl rfl rfl (by simp [hh])) (Ops.ld3 (x := .tmp 107) (ad := ⟨g11, 0, none⟩) (v := pl) rfl (by simp [Act.eval, hh]) ((blk_cell (hst.2 (g11, pl, pl) (by simp)) 0).trans rfl)) ⟨by simp [Act.put, Act.eval, upd, hh], ?_⟩
          simpa [upd] using hst
        · have hh := hcame
          simp [Came, Region.binds] at hh
          refine op_value rfl (wanted_of (j := 36) rfl rfl rfl (by simp [hh])) (Ops.fld39_1 (g := g13) rfl rfl) ⟨by simp [Act.put, Act.eval, upd, hh], ?_⟩
          simpa [upd] using hst
        · have hh := hcame
          simp [Came, Region.binds] at hh
          refine op_value rfl (wanted_of (j := 36) rfl rfl rfl (by simp [hh])) (Ops.ld3 (x := .tmp 109) (ad := ⟨g13, 1, none⟩) (v := pu) rfl (by simp [Act.eval, hh]) ((blk_cell (hst.2 (g13, pu, pu) (by simp)) 1).trans rfl)) ⟨by simp [Act.put, Act.eval, upd, hh], ?_⟩
          simpa [upd] using hst
        · have hh := hcame
          simp [Came, Region.binds] at hh
          refine op_call rfl (wanted_of (j := 36) rfl rfl rfl (by simp [hh])) (run_call Tryd.func27 (by kernel_rfl) rfl rfl rfl (args := #[.int .i64 pl, .int .i64 pu]) (by simp [Act.eval, hh])) ((sp_calls pl pu _).mono ?_)
          rintro e w5 ⟨rfl, hb5⟩
          refine ⟨_, rfl, by simp [Act.put, upd, hh], ?_⟩
          simpa [upd] using hst.on hb5
        · have hh := hcame
          simp [Came, Region.binds] at hh
          refine op_value rfl (wanted_of (j := 36) rfl rfl rfl (by simp [hh])) (x_ne39 (x := .tmp 106) (y := .tmp 111) (i := pl) (j := pu) (i' := pl) (j' := pu) rfl (by simp [Act.eval, hh]) (by simp [Act.eval, hh])) ⟨by simp [Act.put, Act.eval, upd, hh], ?_⟩
          simpa [upd] using hst
        · have hh := hcame
          simp [Came, Region.binds] at hh
          refine op_value rfl rfl (x_pickF (c := .tmp 105) (y := .tmp 112) (v := .bool false) rfl (by simp [Act.eval, hh]) (by simp [Act.eval, hh])) ⟨by simp [Act.put, Act.eval, upd, hh], ?_⟩
          simpa [upd] using hst
        · have hh := hcame
          simp [Came, Region.binds] at hh
          refine op_value rfl rfl (x_assign (.inr rfl)) ⟨by simp [Act.put, Act.eval, upd, hh], ?_⟩
          simpa [upd] using hst
        · have hh := hcame
          simp [Came, Region.binds] at hh
          refine op_value rfl (wanted_of (j := 45) rfl rfl rfl (by simp [hh])) (Ops.fld39_0 (g := g11) rfl rfl) ⟨by simp [Act.put, Act.eval, upd, hh], ?_⟩
          simpa [upd] using hst
        · have hh := hcame
          simp [Came, Region.binds] at hh
          refine op_value rfl (wanted_of (j := 45) rfl rfl rfl (by simp [hh])) (Ops.ld3 (x := .tmp 115) (ad := ⟨g11, 0, none⟩) (v := pl) rfl (by simp [Act.eval, hh]) ((blk_cell (hst.2 (g11, pl, pl) (by simp)) 0).trans rfl)) ⟨by simp [Act.put, Act.eval, upd, hh], ?_⟩
          simpa [upd] using hst
        · have hh := hcame
          simp [Came, Region.binds] at hh
          refine op_value rfl (wanted_of (j := 45) rfl rfl rfl (by simp [hh])) (x_load (g := g6) rfl rfl hst.1.h6 Tryd.underlying27 rfl i27) ⟨by simp [Act.put, Act.eval, upd, hh], ?_⟩
          simpa [upd] using hst
        · have hh := hcame
          simp [Came, Region.binds] at hh
          refine op_call rfl (wanted_of (j := 45) rfl rfl rfl (by simp [hh])) (run_call Tryd.func14 (by kernel_rfl) rfl rfl rfl (args := #[.agg (hl.cells (knB b false)), .slice none 0 0]) (by simp [Act.eval, hh])) ((mixed_none hst.1.bl (sp_kn HGD.out.sp _) ((parts_kn HGD.out.sp _ _).trans HPL.out)).mono ?_)
          rintro e w5 ⟨rfl, hb5⟩
          refine ⟨_, rfl, by simp [Act.put, upd, hh], ?_⟩
          simpa [upd] using hst.on hb5
        · have hh := hcame
          simp [Came, Region.binds] at hh
          refine op_value rfl (wanted_of (j := 45) rfl rfl rfl (by simp [hh])) (x_ne3 (x := .tmp 116) (y := .tmp 118) (i := pl) (j := pl) rfl (by simp [Act.eval, hh]) (by simp [Act.eval, hh])) ⟨by simp [Act.put, Act.eval, upd, hh], ?_⟩
          simpa [upd] using hst
        · have hh := hcame
          simp [Came, Region.binds] at hh
          refine op_value rfl rfl (x_pickF (c := .tmp 114) (y := .tmp 119) (v := .bool false) rfl (by simp [Act.eval, hh]) (by simp [Act.eval, hh])) ⟨by simp [Act.put, Act.eval, upd, hh], ?_⟩
          simpa [upd] using hst
        · have hh := hcame
          simp [Came, Region.binds] at hh
          refine op_value rfl rfl (x_assign (.inr rfl)) ⟨by simp [Act.put, Act.eval, upd, hh], ?_⟩
          simpa [upd] using hst
        · have hh := hcame
          simp [Came, Region.binds] at hh
          refine op_value rfl (wanted_of (j := 52) rfl rfl rfl (by simp [hh])) (Ops.fld39_0 (g := g13) rfl rfl) ⟨by simp [Act.put, Act.eval, upd, hh], ?_⟩
          simpa [upd] using hst
        · have hh := hcame
          simp [Came, Region.binds] at hh
          refine op_value rfl (wanted_of (j := 52) rfl rfl rfl (by simp [hh])) (Ops.ld3 (x := .tmp 122) (ad := ⟨g13, 0, none⟩) (v := pu) rfl (by simp [Act.eval, hh]) ((blk_cell (hst.2 (g13, pu, pu) (by simp)) 0).trans rfl)) ⟨by simp [Act.put, Act.eval, upd, hh], ?_⟩
          simpa [upd] using hst
        · have hh := hcame
          simp [Came, Region.binds] at hh
          refine op_value rfl (wanted_of (j := 52) rfl rfl rfl (by simp [hh])) (x_load (g := g7) rfl rfl hst.1.h7 Tryd.underlying27 rfl i27) ⟨by simp [Act.put, Act.eval, upd, hh], ?_⟩
          simpa [upd] using hst
        · have hh := hcame
          simp [Came, Region.binds] at hh
          refine op_call rfl (wanted_of (j := 52) rfl rfl rfl (by simp [hh])) (run_call Tryd.func14 (by kernel_rfl) rfl rfl rfl (args := #[.agg (hu.cells (knB b true)), .slice none 0 0]) (by simp [Act.eval, hh])) ((mixed_none hst.1.bu (sp_kn HGD.out.sp _) ((parts_kn HGD.out.sp _ _).trans HPU.out)).mono ?_)
          rintro e w5 ⟨rfl, hb5⟩
          refine ⟨_, rfl, by simp [Act.put, upd, hh], ?_⟩
          simpa [upd] using hst.on hb5
        · have hh := hcame
          simp [Came, Region.binds] at hh
          refine op_value rfl (wanted_of (j := 52) rfl rfl rfl (by simp [hh])) (x_ne3 (x := .tmp 123) (y := .tmp 125) (i := pu) (j := pu) rfl (by simp [Act.eval, hh]) (by simp [Act.eval, hh])) ⟨by simp [Act.put, Act.eval, upd, hh], ?_⟩
          simpa [upd] using hst
        · have hh := hcame
          simp [Came, Region.binds] at hh
          refine op_value rfl rfl (x_pickF (c := .tmp 121) (y := .tmp 126) (v := .bool false) rfl (by simp [Act.eval, hh]) (by simp [Act.eval, hh])) ⟨by simp [Act.put, Act.eval, upd, hh], ?_⟩
          simpa [upd] using hst
        · simp at hil; omega
      · intro bb a wf hI hall
        obtain ⟨rfl, hst⟩ := hI
        refine hK _ _ ?_
        simp only [hall 0 (by simp), hall 1 (by simp), hall 2 (by simp), hall 3 (by simp), hall 4 (by simp), hall 5 (by simp), hall 6 (by simp), hall 7 (by simp), hall 8 (by simp), hall 9 (by simp), hall 10 (by simp), hall 11 (by simp), hall 12 (by simp), hall 13 (by simp), hall 14 (by simp), hall 15 (by simp), hall 16 (by simp), hall 17 (by simp), hall 18 (by simp), hall 19 (by simp), hall 20 (by simp), hall 21 (by simp), hall 22 (by simp), hall 23 (by simp), hall 24 (by simp), hall 25 (by simp), hall 26 (by simp), hall 27 (by simp), hall 28 (by simp), hall 29 (by simp), hall 30 (by simp), hall 31 (by simp), hall 32 (by simp), hall 33 (by simp), hall 34 (by simp), hall 35 (by simp), hall 36 (by simp), hall 37 (by simp), hall 38 (by simp), hall 39 (by simp), hall 40 (by simp), hall 41 (by simp), hall 42 (by simp), hall 43 (by simp), hall 44 (by simp), hall 45 (by simp), hall 46 (by simp), hall 47 (by simp), hall 48 (by simp), hall 49 (by simp), hall 50 (by simp), hall 51 (by simp), hall 52 (by simp), hall 53 (by simp), hall 54 (by simp), hall 55 (by simp), hall 56 (by simp), hall 57 (by simp), hall 58 (by simp), if_true]
        have HE := Lib.hid hst.1
        clear hall hK hst
        have hff := HFF.out
        have n1 := hff.2.2.1 false
        have n2 := hff.2.2.1 true
        have n3 := hff.2.2.2.1
        have n4 := hff.2.2.2.2.1
        rw [HC.out] at n1
        rw [HD.out] at n2
        rw [HA.out, HC.out] at n3
        rw [HA.out, HD.out] at n4
        have m1 : (cc != 1) = true := bne_iff_ne.2 n1
        have m2 : (dd != 1) = true := bne_iff_ne.2 n2
        have m3 : ((aa == 2) == (cc == 2)) = true := by simp only [beq_iff_eq]; rw [Bool.eq_iff_iff]; simpa using n3
        have m4 : ((aa == 0) == (dd == 0)) = true := by simp only [beq_iff_eq]; rw [Bool.eq_iff_iff]; simpa using n4
        clear hff n1 n2 n3 n4 HFF
        go_wp2_with (first | (go_at_call 12; refine (rubbed_calls (HG.out.below HE.out.o.below)).mono ?_; rintro e2 w9 ⟨rfl, hb9⟩; have HB9 := Lib.hid (below_step HE.out.o.below hb9); clear hb9))
        go_ret
        exact ⟨rfl, HB9.out⟩
end Go.Proofs.YtghpoldlddghjaaDoor
namespace Go.Proofs.YtghpoldlddghjaaDoor.pasteEnds
open Go Go.ChangeShapes Go.WideShapes Go.ChangeAt Go.RowKit
open Go.Proofs.YtghpoldlddghjaaDoorW.PrintWords Go.Proofs.YtghpoldlddghjaaDoorW.PrintMore Go.Proofs.YtghpoldlddghjaaDoor.PPasteTrue
set_option maxRecDepth 100000 in
theorem contract (H : Type) (enc : TypeId × Value → H) (W : World) (base : Nat) (args : Array Value) (ds gs : List (DataW H)) (before : List MemPlace)
    (hval : ∀ (j : Nat) t v, Tryd.f4.params[j]? = some t → args[j]? = some v → Value.okWide Tryd.prog W .any base t v)
    (hW : DataW.Whole enc Tryd.prog Tryd.f4.params.toList Rows.pasteEndsSpec.vars false W args.toList ds gs before) (hL : laidMetH Tryd.prog Rows.pasteEndsRow.laid W) :
    Calls Tryd.prog 4 args W fun e W' => ∃ v, e = .returned v ∧ Rows.pasteEndsSpec.post enc Tryd.prog Tryd.f4 false true false false W args v W' := by
  have hW' := hW
  obtain ⟨p, q, hA0, hV, rfl, hfz, hnd⟩ := hW
  have hA : DataW.TrodAll enc Tryd.prog W 0 (fun _ => true) true Tryd.f4.params.toList args.toList ds p := hA0
  rw [Tryd.params4] at hA hval
  obtain ⟨v0, vs0, d0, ds0, p0, q0, hargs, rfl, rfl, h0, r0⟩ := trodAll_cons hA
  obtain ⟨v1, vs1, d1, ds1, p1, q1, rfl, rfl, rfl, h1, r1⟩ := trodAll_cons r0
  obtain ⟨rfl, rfl, rfl⟩ := trodAll_nil r1
  obtain rfl : args = #[v0, v1] := by cases args; simp_all
  obtain ⟨rfl, rfl⟩ := trodVars_none hV
  have k0 := h0
  have lt0 : ∀ x ∈ p0, x.block < W.heap.size := by obtain ⟨m, hm⟩ := k0; exact DataW.trod_lt m _ _ _ hm
  obtain ⟨hh, b, rfl, hb⟩ := open27 (hval 0 27 v0 rfl rfl) h0
  have k1 := h1
  obtain ⟨a1, rfl, rfl, rfl, w1⟩ := open_int Tryd.underlying3 (hval 1 3 v1 rfl rfl) h1
  clear hA0 hval
  refine (pasteEnds_calls (asks_of_laid hL) hb a1).mono fun e W' ⟨he, bel⟩ => ?_
  subst he
  exact ⟨_, rfl, _, _, _, [], _, [], hW', trodAll_mk1 (shut_bool Tryd.underlying4 _), (trodAll_cons_mk (Below.trod laidOut (by kernel_rfl) (of_decide_eq_true (by kernel_rfl)) k0 bel lt0) (trodAll_cons_mk (shut_int Tryd.underlying3 w1) trodAll_mk0)), rfl, bel.frame _, fun h => by cases h⟩
theorem reads (os : Os) {H : Type} (enc : TypeId × Value → H) : ∃ places, DataW.whole enc Tryd.prog ((World.doorLaid Tryd.prog 600 os).forCall (fun _ _ => 0) ⟨#[], #[.agg #[.slice none 0 0, .slice none 0 0, .slice none 0 0, .int .i64 0, .slice none 0 0], .int .i64 0], []⟩).memory Tryd.f4.params.toList Rows.pasteEndsSpec.vars false (#[.agg #[.slice none 0 0, .slice none 0 0, .slice none 0 0, .int .i64 0, .slice none 0 0], .int .i64 0] : Array Value).toList 8 = some ([.agg [.nil, .nil, .nil, .lit (.int .i64 0), .nil], .lit (.int .i64 0)], [], places) :=
  ⟨[], by kernel_rfl⟩
set_option maxRecDepth 100000 in
theorem lifted (os : Os) (started : os.Started) (H : Type) (enc : TypeId × Value → H) (F : Stop.Interp) :
    ReturnsInHanded {} Tryd.checked os 4 .any ((OpenSpec.ofChange Rows.pasteEndsSpec).preRow enc Tryd.prog Tryd.f4 Rows.pasteEndsRow.domain false Rows.pasteEndsRow.laid) (((OpenSpec.ofChange Rows.pasteEndsSpec).at F).post enc Tryd.prog Tryd.f4 false true false false) := by
  obtain ⟨places, hx⟩ := reads os enc
  refine returnsInHanded_of_row (C := Tryd.checked) (s := OpenSpec.ofChange Rows.pasteEndsSpec) own started (by kernel_rfl) Tryd.func4
    (witness_row_atRef (enc := enc) (C := Tryd.checked) false (World.doorLaid Tryd.prog 600 os) #[.agg #[.slice none 0 0, .slice none 0 0, .slice none 0 0, .int .i64 0, .slice none 0 0], .int .i64 0] rfl (by kernel_rfl) (by kernel_rfl) (by kernel_rfl)
      (OpenSpec.preRow_of_cond 8 hx (by kernel_rfl) (fun k hk => by cases hk) (by kernel_rfl) (door_met os _))) ?_
  intro W base args ds gs before hval hW _ _ _ hL _ _
  exact contract H enc W base args ds gs before hval hW hL
theorem said : Rows.PasteEndsSaid :=
  OpenClaim.holds_of_cond 4 Tryd.f4 rfl rfl rfl rfl rfl rfl rfl ⟨rfl, rfl, rfl, rfl, rfl⟩ rfl rfl rfl rfl rfl (by kernel_rfl) Tryd.func4 (by kernel_rfl)
    (of_decide_eq_true (by kernel_rfl)) (by unfold Func.isWrapper; first | (rw [if_pos (by decide +kernel)]; kernel_rfl) | (rw [if_neg (by decide +kernel)]; exact ⟨rfl, rfl⟩))
    (fun os started H enc _ F => by rw [OpenClaim.pre_eq_preRow]; exact lifted os started H enc F)
theorem plain (f : FuncId) (fn : Func) (hf : Tryd.pinned.checked.prog.funcNamed "lucifer/luciferlaw02.PasteEnds" = some f) (hfn : Tryd.pinned.checked.prog.funcs[f]? = some fn) :
    false = Tryd.pinned.checked.prog.looks [] ∧ ∀ (j : Nat) t, fn.params[j]? = some t → Tryd.pinned.checked.prog.wantsStandIn t = false := by
  obtain rfl : f = 4 := Option.some.inj ((show Tryd.prog.funcNamed "lucifer/luciferlaw02.PasteEnds" = some 4 by kernel_rfl).symm.trans hf) |>.symm
  obtain rfl : fn = Tryd.f4 := (Option.some.inj (Tryd.func4.symm.trans hfn)).symm
  refine ⟨by kernel_rfl, fun j t ht => ?_⟩
  rw [Tryd.params4] at ht
  have w0 : Tryd.prog.wantsStandIn 27 = false := by kernel_rfl
  have w1 : Tryd.prog.wantsStandIn 3 = false := by kernel_rfl
  have hm : t = 27 ∨ t = 3 := by simpa using Array.mem_of_getElem? ht
  rcases hm with rfl | rfl
  · exact w0
  · exact w1
theorem card : Rows.PasteEndsCardSaid :=
  Claim7.holds_tied_plain_at .later [] _ _ _ _ said (fun _ h => by cases h) (by kernel_rfl) (fun _ h => by cases h) pasteEnds_row_tie rfl ⟨rfl, rfl⟩ (by kernel_rfl) rfl plain (by kernel_rfl)
end Go.Proofs.YtghpoldlddghjaaDoor.pasteEnds
namespace Go.Proofs.YtghpoldlddghjaaDoor
theorem pasteEnds_card : Rows.PasteEndsCardSaid := pasteEnds.card
end Go.Proofs.YtghpoldlddghjaaDoor
