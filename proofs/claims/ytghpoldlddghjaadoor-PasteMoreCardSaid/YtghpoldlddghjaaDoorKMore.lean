/- The law PasteMore: its walk, its row and its card. Conditions: none. -/
import Derived.Test.YtghpoldlddghjaaDoorM4
import Derived.Test.YtghpoldlddghjaaDoorCards
import Derived.Test.YtghpoldlddghjaaDoorTie
import Derived.WalkKit
import Derived.ProofKit
import Derived.OpenShut
import Derived.Deep.DeepHandedRow
import Derived.Deep.DeepWitnessRowRef
set_option linter.unusedVariables false
set_option linter.unusedSimpArgs false
namespace Go.Proofs.YtghpoldlddghjaaDoor
open Go Go.RowKit
open Go.Proofs.YtghpoldlddghjaaDoorW.PrintWords Go.Proofs.YtghpoldlddghjaaDoorW.PrintMore Go.Proofs.YtghpoldlddghjaaDoor.PPasteTrue
theorem mx_le {a b c : Int} : mx a b ≤ c ↔ a ≤ c ∧ b ≤ c := by unfold mx; split <;> omega
theorem le_mn {a b c : Int} : c ≤ mn a b ↔ c ≤ a ∧ c ≤ b := by unfold mn; split <;> omega
theorem rubs_with (b : Bk) (t : S59) (j : Nat) (p : Int) : rubs (withT b t) j p = rubStep b.need p j (rd_T47 b.surfs j) (rubs b j p) t := by
  unfold rubs rubF
  show (b.trials ++ [t]).foldl _ _ = _
  rw [List.foldl_append]
  rfl
theorem right_iff (b : Bk) (p : Int) : rightB b p = true ↔ ∀ j, j < b.surfs.length → (rubs b j p).1 ≤ (rubs b j p).2 := by
  unfold rightB
  rw [List.all_eq_true]
  simp
theorem right_lit {b : Bk} {k : Nat} (hk : k < b.surfs.length) (p : Int) : rightB (withT b ⟨k, true⟩) p = true ↔ rightB b p = true ∧ b.need ≤ highI b k p := by
  rw [right_iff, right_iff]
  show (∀ j, j < b.surfs.length → _) ↔ _
  unfold highI
  constructor
  · intro h
    refine ⟨fun j hj => ?_, ?_⟩
    · have h1 := h j hj
      rw [rubs_with] at h1
      unfold rubStep at h1
      by_cases e : (k : Int) = (j : Int)
      · rw [if_pos e, if_pos rfl] at h1
        exact (mx_le.1 h1).1
      · rw [if_neg e] at h1
        exact h1
    · have h1 := h k hk
      rw [rubs_with] at h1
      unfold rubStep at h1
      rw [if_pos rfl, if_pos rfl] at h1
      have := (mx_le.1 h1).2
      omega
  · rintro ⟨h1, h2⟩ j hj
    rw [rubs_with]
    unfold rubStep
    by_cases e : (k : Int) = (j : Int)
    · obtain rfl : k = j := by omega
      rw [if_pos rfl, if_pos rfl]
      exact mx_le.2 ⟨h1 k hk, by omega⟩
    · rw [if_neg e]
      exact h1 j hj
theorem right_not {b : Bk} {k : Nat} (hk : k < b.surfs.length) (p : Int) : rightB (withT b ⟨k, false⟩) p = true ↔ rightB b p = true ∧ ¬ b.need ≤ lowI b k p := by
  rw [right_iff, right_iff]
  show (∀ j, j < b.surfs.length → _) ↔ _
  unfold lowI
  constructor
  · intro h
    refine ⟨fun j hj => ?_, ?_⟩
    · have h1 := h j hj
      rw [rubs_with] at h1
      unfold rubStep at h1
      by_cases e : (k : Int) = (j : Int)
      · rw [if_pos e, if_neg Bool.false_ne_true] at h1
        exact (le_mn.1 h1).1
      · rw [if_neg e] at h1
        exact h1
    · have h1 := h k hk
      rw [rubs_with] at h1
      unfold rubStep at h1
      rw [if_pos rfl, if_neg Bool.false_ne_true] at h1
      have := (le_mn.1 h1).2
      omega
  · rintro ⟨h1, h2⟩ j hj
    rw [rubs_with]
    unfold rubStep
    by_cases e : (k : Int) = (j : Int)
    · obtain rfl : k = j := by omega
      rw [if_pos rfl, if_neg Bool.false_ne_true]
      exact le_mn.2 ⟨h1 k hk, by omega⟩
    · rw [if_neg e]
      exact h1 j hj
theorem trs_lit {b : Bk} {k : Nat} (hk : k < b.surfs.length) (p : Int) : p ∈ trs (withT b ⟨k, true⟩) ↔ p ∈ trs b ∧ b.need ≤ highI b k p := by
  rw [mem_trs, mem_trs, right_lit hk, show pws (withT b ⟨k, true⟩) = pws b from rfl, and_assoc]
theorem trs_not {b : Bk} {k : Nat} (hk : k < b.surfs.length) (p : Int) : p ∈ trs (withT b ⟨k, false⟩) ↔ p ∈ trs b ∧ ¬ b.need ≤ lowI b k p := by
  rw [mem_trs, mem_trs, right_not hk, show pws (withT b ⟨k, false⟩) = pws b from rfl, and_assoc]
theorem low_high {b : Bk} (hg : Good b) {k : Nat} (hk : k < b.surfs.length) {p : Int} (hp : p ∈ trs b) : lowI b k p ≤ highI b k p := by
  have h1 := (right_iff b p).1 (mem_trs.1 hp).2 k hk
  have h2 := hg.sr _ (rd47_mem (xs := b.surfs) (i := (k : Int)) (by omega) (by omega))
  unfold lowI highI
  omega
theorem sp_withT {b : Bk} (h : SP b) (t : S59) : SP (withT b t) := ⟨h.s1, h.p1, h.s, h.p, h.d⟩
theorem may_lit {b : Bk} (hs : SP b) {k : Nat} (hk : k < b.surfs.length) : canB (withT b ⟨k, true⟩) = mayL b k := by
  rw [Bool.eq_iff_iff, can_iff (sp_withT hs _)]
  unfold mayL
  rw [List.any_eq_true]
  constructor
  · rintro ⟨p, hp⟩
    exact ⟨p, ((trs_lit hk p).1 hp).1, by simpa using ((trs_lit hk p).1 hp).2⟩
  · rintro ⟨p, hp, h1⟩
    exact ⟨p, (trs_lit hk p).2 ⟨hp, by simpa using h1⟩⟩
theorem sure_not {b : Bk} (hs : SP b) {k : Nat} (hk : k < b.surfs.length) : canB (withT b ⟨k, false⟩) = !sureL b k := by
  rw [Bool.eq_iff_iff, can_iff (sp_withT hs _)]
  unfold sureL
  rw [Bool.not_eq_true', List.all_eq_false]
  constructor
  · rintro ⟨p, hp⟩
    exact ⟨p, ((trs_not hk p).1 hp).1, by simpa using ((trs_not hk p).1 hp).2⟩
  · rintro ⟨p, hp, h1⟩
    exact ⟨p, (trs_not hk p).2 ⟨hp, by simpa using h1⟩⟩
theorem sure_may {b : Bk} (hg : Good b) (hc : canB b = true) {k : Nat} (hk : k < b.surfs.length) (h : sureL b k = true) : mayL b k = true := by
  obtain ⟨p, hp⟩ := (can_iff hg.sp).1 hc
  unfold sureL at h
  rw [List.all_eq_true] at h
  unfold mayL
  rw [List.any_eq_true]
  have h1 : b.need ≤ lowI b k p := by simpa using h p hp
  have := low_high hg hk hp
  exact ⟨p, hp, by simpa using (show b.need ≤ highI b k p by omega)⟩
theorem known_same {b c : Bk} (hb : SP b) (hc : SP c) (h : ∀ p, p ∈ trs b ↔ p ∈ trs c) : knownR (pB b) = knownR (pB c) := by
  have hcan : canB b = canB c := by
    rw [Bool.eq_iff_iff, can_iff hb, can_iff hc]
    simp [h]
  cases e : canB b with
  | false => rw [known_none (show anyB (pB b) = false from e), known_none (show anyB (pB c) = false by rw [hcan] at e; exact e)]
  | true =>
    obtain ⟨l1, h1, k1, m1, m2, m3⟩ := known_some hb e
    obtain ⟨l2, h2, k2, n1, n2, n3⟩ := known_some hc (by rw [hcan] at e; exact e)
    rw [k1, k2]
    have a1 := n3 l1 ((h _).1 m1)
    have a2 := n3 h1 ((h _).1 m2)
    have a3 := m3 l2 ((h _).2 n1)
    have a4 := m3 h2 ((h _).2 n2)
    simp only [Prod.mk.injEq]
    omega
theorem known_union {b c d : Bk} (hb : SP b) (hc : SP c) (hd : SP d) (h : ∀ p, p ∈ trs b ↔ p ∈ trs c ∨ p ∈ trs d) (ec : canB c = true) (ed : canB d = true) :
    knownR (pB b) = (mn (knownR (pB c)).1 (knownR (pB d)).1, mx (knownR (pB c)).2 (knownR (pB d)).2) := by
  obtain ⟨l1, h1, k1, m1, m2, m3⟩ := known_some hc ec
  obtain ⟨l2, h2, k2, n1, n2, n3⟩ := known_some hd ed
  have eb : canB b = true := (can_iff hb).2 ⟨l1, (h _).2 (.inl m1)⟩
  obtain ⟨l0, h0, k0, o1, o2, o3⟩ := known_some hb eb
  rw [k0, k1, k2]
  have a1 := o3 l1 ((h _).2 (.inl m1))
  have a2 := o3 h1 ((h _).2 (.inl m2))
  have a3 := o3 l2 ((h _).2 (.inr n1))
  have a4 := o3 h2 ((h _).2 (.inr n2))
  have b1 : l1 ≤ l0 ∨ l2 ≤ l0 := by
    rcases (h _).1 o1 with q | q
    · exact .inl (m3 _ q).1
    · exact .inr (n3 _ q).1
  have b2 : h0 ≤ h1 ∨ h0 ≤ h2 := by
    rcases (h _).1 o2 with q | q
    · exact .inl (m3 _ q).2
    · exact .inr (n3 _ q).2
  unfold mn mx
  simp only [Prod.mk.injEq]
  split <;> split <;> omega
end Go.Proofs.YtghpoldlddghjaaDoor
namespace Go.Proofs.YtghpoldlddghjaaDoor
open Go Go.RowKit
open Go.Proofs.YtghpoldlddghjaaDoorW.PrintWords Go.Proofs.YtghpoldlddghjaaDoorW.PrintMore Go.Proofs.YtghpoldlddghjaaDoor.PPasteTrue
def Has (wq : World) (l : List (Nat × Int × Int)) : Prop := ∀ x ∈ l, wq.heap[x.1]? = some (.cells #[.int .i64 x.2.1, .int .i64 x.2.2] 39 (0, 0))
theorem Has.below {wq w1 : World} {l : List (Nat × Int × Int)} (s : Has wq l) (hb : Below wq.heap.size wq w1) : Has w1 l := fun x hx => blk_below (s x hx) hb
theorem Has.cons {wq : World} {l : List (Nat × Int × Int)} (s : Has wq l) {g : Nat} {x y : Int} (h : wq.heap[g]? = some (.cells #[.int .i64 x, .int .i64 y] 39 (0, 0))) : Has wq ((g, x, y) :: l) := by
  intro z hz
  rcases List.mem_cons.1 hz with rfl | hz
  · exact h
  · exact s z hz
structure SaSt (w : World) (h : Hd) (b : Bk) (l : List (Nat × Int × Int)) (hx : Hd) (t : S59) (wq : World) (b3 b4 : Bool) : Prop where
  o : One w (h.cells b) 27 wq
  hs : Has wq l
  bk : b3 = true → b4 = false → BkIn wq hx (withT b t)
theorem SaSt.on {w : World} {h : Hd} {b : Bk} {l : List (Nat × Int × Int)} {hx : Hd} {t : S59} {wq w1 : World} {b3 b4 : Bool} (s : SaSt w h b l hx t wq b3 b4) (hb : Below wq.heap.size wq w1) : SaSt w h b l hx t w1 b3 b4 :=
  ⟨s.o.on hb, s.hs.below hb, fun e e' => (s.bk e e').below hb⟩
theorem SaSt.bring {w : World} {h : Hd} {b : Bk} {l : List (Nat × Int × Int)} {hx h' : Hd} {t : S59} {wq w1 : World} {b3 b4 : Bool} (s : SaSt w h b l hx t wq b3 b4) (hb : Below wq.heap.size wq w1) (hbi : BkIn w1 h' (withT b t)) : SaSt w h b l h' t w1 true b4 :=
  ⟨s.o.on hb, s.hs.below hb, fun _ _ => hbi⟩
theorem SaSt.use {w : World} {h : Hd} {b : Bk} {l : List (Nat × Int × Int)} {hx : Hd} {t : S59} {wq w1 : World} {b3 b4 : Bool} (s : SaSt w h b l hx t wq b3 b4) (hb : Below wq.heap.size wq w1) : SaSt w h b l hx t w1 b3 true :=
  ⟨s.o.on hb, s.hs.below hb, fun _ e => by cases e⟩
structure SaPw (w : World) (h : Hd) (b : Bk) (l : List (Nat × Int × Int)) (hx : Hd) (t : S59) (g : Nat) (r : Int × Int) (wq : World) (b3 b4 b8 b9 : Bool) : Prop where
  s : SaSt w h b l hx t wq b3 b4
  v : b8 = true → w.heap.size < g ∧ (∀ x ∈ l, x.1 < g) ∧ wq.heap[g]? = some (.cells (if b9 then #[.int .i64 r.1, .int .i64 r.2] else #[.int .i64 0, .int .i64 0]) 39 (0, 0))
  i9 : b9 = true → b8 = true ∧ b4 = true
section
variable {w : World} {h : Hd} {b : Bk} {l : List (Nat × Int × Int)} {hx h' : Hd} {t : S59} {g : Nat} {r : Int × Int} {wq w1 : World} {b3 b4 b8 b9 : Bool}
theorem SaPw.on (s : SaPw w h b l hx t g r wq b3 b4 b8 b9) (hb : Below wq.heap.size wq w1) : SaPw w h b l hx t g r w1 b3 b4 b8 b9 :=
  ⟨s.s.on hb, fun e => ⟨(s.v e).1, (s.v e).2.1, blk_below (s.v e).2.2 hb⟩, s.i9⟩
theorem SaPw.bring (s : SaPw w h b l hx t g r wq b3 b4 b8 b9) (hb : Below wq.heap.size wq w1) (hbi : BkIn w1 h' (withT b t)) : SaPw w h b l h' t g r w1 true b4 b8 b9 :=
  ⟨s.s.bring hb hbi, fun e => ⟨(s.v e).1, (s.v e).2.1, blk_below (s.v e).2.2 hb⟩, s.i9⟩
theorem SaPw.use (s : SaPw w h b l hx t g r wq b3 false b8 b9) (hb : Below wq.heap.size wq w1) : b9 = false ∧ SaPw w h b l hx t g r w1 b3 true b8 b9 := by
  have e9 : b9 = false := false_of (fun e => (s.i9 e).2) rfl
  exact ⟨e9, s.s.use hb, fun e => ⟨(s.v e).1, (s.v e).2.1, blk_below (s.v e).2.2 hb⟩, fun e => ⟨(s.i9 e).1, rfl⟩⟩
theorem SaPw.var (s : SaPw w h b l hx t g r wq b3 b4 false b9) : b9 = false ∧ SaPw w h b l hx t wq.heap.size r (wq.alloc (.cells #[.int .i64 0, .int .i64 0] 39)) b3 b4 true b9 := by
  have e9 : b9 = false := false_of (fun e => (s.i9 e).1) rfl
  subst e9
  exact ⟨rfl, s.s.on (below_alloc (Below.refl _ _) _), fun _ => ⟨blk_lt s.s.o.b1, fun x hx => blk_lt (s.s.hs x hx), by simpa using (new_at rfl : (wq.alloc (.cells #[.int .i64 0, .int .i64 0] 39)).heap[wq.heap.size]? = _)⟩, fun e => by cases e⟩
theorem SaPw.set (s : SaPw w h b l hx t g r wq b3 true true false) : SaPw w h b l hx t g r (wq.setRow g #[.int .i64 r.1, .int .i64 r.2]) b3 true true true := by
  obtain ⟨h1, h2, h3⟩ := s.v rfl
  refine ⟨⟨⟨below_row s.s.o.below (by omega) _, (setRow_other wq g _ _ (by omega)).trans s.s.o.b1⟩, fun x hx => (setRow_other wq g _ _ (by have := h2 x hx; omega)).trans (s.s.hs x hx), fun _ e => by cases e⟩, fun _ => ⟨h1, h2, by simpa using setRow_heap wq g _ _ 39 _ h3⟩, fun _ => ⟨rfl, rfl⟩⟩
end
theorem only_calls (x : Int) (w : World) : Calls Tryd.prog 28 #[.int .i64 x] w fun e w' => e = .returned (.agg #[.int .i64 x, .int .i64 x]) ∧ Below w.heap.size w w' := luciferref00_Only.calls x x x w rfl
theorem right_at {h : Hd} {x : Bk} {w : World} (hb : BkIn w h x) (hsa : Sane x) {y : Bool} (h1 : decide (askE x true = 0) = y) (h2 : eRight x = 0) : Calls Tryd.prog 15 #[.agg (h.cells x)] w fun e w' => e = .returned (.tuple #[.bool y, .int .i64 0]) ∧ Below w.heap.size w w' := by
  have h3 := Right_calls hb hsa (w := w)
  rw [h1, h2] at h3
  exact h3
theorem power_at {h : Hd} {x : Bk} {w : World} (hb : BkIn w h x) (hsa : Sane x) {r : Int × Int} {ey : Int} (h1 : kR x = r) (h2 : askE x true = ey) : Calls Tryd.prog 17 #[.agg (h.cells x)] w fun e w' => e = .returned (.tuple #[.agg #[.int .i64 r.1, .int .i64 r.2], .int .i64 ey]) ∧ Below w.heap.size w w' := by
  rw [← h1, ← h2]
  exact Power_calls hb hsa
end Go.Proofs.YtghpoldlddghjaaDoor
namespace Go.Proofs.YtghpoldlddghjaaDoor
open Go Go.RowKit
open Go.Proofs.YtghpoldlddghjaaDoorW.PrintWords Go.Proofs.YtghpoldlddghjaaDoorW.PrintMore Go.Proofs.YtghpoldlddghjaaDoor.PPasteTrue
theorem mx_comm3 (a b c : Int) : mx (mx a b) c = mx (mx a c) b := by unfold mx; (repeat' split) <;> omega
theorem mn_comm3 (a b c : Int) : mn (mn a b) c = mn (mn a c) b := by unfold mn; (repeat' split) <;> omega
theorem rubStep_comm (need p s : Int) (x : S47) (r : Int × Int) (t u : S59) : rubStep need p s x (rubStep need p s x r t) u = rubStep need p s x (rubStep need p s x r u) t := by
  unfold rubStep
  by_cases h1 : t.f0 = s <;> by_cases h2 : u.f0 = s <;> cases h3 : t.f1 <;> cases h4 : u.f1 <;> simp [h1, h2, mx_comm3 r.1, mn_comm3 r.2] <;> first | exact mx_comm3 _ _ _ | exact mn_comm3 _ _ _ | rfl
def revB (b : Bk) : Bk := { b with trials := b.trials.reverse }
theorem rubs_rev (b : Bk) (j : Nat) (p : Int) : rubs (revB b) j p = rubs b j p := by
  unfold rubs rubF
  exact List.Perm.foldl_eq' (List.reverse_perm b.trials) (fun t _ u _ r => rubStep_comm _ _ _ _ r t u) _
theorem right_rev (b : Bk) (p : Int) : rightB (revB b) p = rightB b p := by
  rw [Bool.eq_iff_iff, right_iff, right_iff]
  show (∀ j, j < b.surfs.length → _) ↔ _
  simp only [rubs_rev]
theorem trs_rev (b : Bk) : trs (revB b) = trs b := by
  unfold trs
  rw [show pws (revB b) = pws b from rfl, show rightB (revB b) = rightB b from funext (right_rev b)]
theorem sp_rev {b : Bk} (h : SP b) : SP (revB b) := ⟨h.s1, h.p1, h.s, h.p, h.d⟩
theorem can_rev {b : Bk} (hs : SP b) : canB (revB b) = canB b := by rw [can_eq (sp_rev hs), can_eq hs, trs_rev]
theorem known_rev {b : Bk} (hs : SP b) : knownR (pB (revB b)) = knownR (pB b) := known_same (sp_rev hs) hs (fun p => by rw [trs_rev])
theorem lights_rev (b : Bk) (k : Nat) : lightsL (revB b) k = lightsL b k := by
  unfold lightsL mayL sureL
  rw [trs_rev]
  unfold lowI highI
  simp only [rubs_rev]
  rfl
theorem check_rev (b : Bk) : checkB (revB b) = checkB b := by
  unfold checkB headB
  show ((_ && (_ && (_ && (_ && decide ((b.trials.reverse.length : Int) ≤ 6))))) && _ && _ && _ && b.trials.reverse.all _) = _
  rw [List.length_reverse, List.all_reverse]
  rfl
theorem check_more {b : Bk} (hc : checkB b = true) (hl : b.trials.length ≤ 5) (t : S59) (hu : b.surfs.length ≤ 4) (hu0 : 0 < b.surfs.length) : checkB (withT b t) = inB t.f0 0 ((b.surfs.length : Int) - 1) := by
  rw [Bool.eq_iff_iff]
  constructor
  · intro h
    unfold checkB at h
    simp only [Bool.and_eq_true, List.all_eq_true] at h
    have h1 := h.2 t (by show t ∈ b.trials ++ [t]; simp)
    unfold trialB at h1
    rw [show wrap64 (((withT b t).surfs.length : Int) - 1) = (b.surfs.length : Int) - 1 by show wrap64 ((b.surfs.length : Int) - 1) = _; unfold wrap64; omega] at h1
    exact h1
  · intro h
    rw [inB_iff] at h
    exact check_with hc hl h.1 (by omega) hu
theorem rubs_more {b : Bk} (t : S59) (j : Nat) (p : Int) : (rubs b j p).1 ≤ (rubs (withT b t) j p).1 ∧ (rubs (withT b t) j p).2 ≤ (rubs b j p).2 := by
  rw [rubs_with]
  unfold rubStep
  split
  · split
    · refine ⟨?_, Int.le_refl _⟩
      unfold mx
      simp only
      split <;> omega
    · refine ⟨Int.le_refl _, ?_⟩
      unfold mn
      simp only
      split <;> omega
  · exact ⟨Int.le_refl _, Int.le_refl _⟩
theorem trs_more {b : Bk} (t : S59) {p : Int} (hp : p ∈ trs (withT b t)) : p ∈ trs b := by
  rw [mem_trs] at hp ⊢
  refine ⟨hp.1, ?_⟩
  have h := (right_iff _ p).1 hp.2
  rw [right_iff]
  intro j hj
  have h1 := h j hj
  have h2 := rubs_more (b := b) t j p
  omega
theorem can_more {b : Bk} (hs : SP b) (t : S59) (h : canB (withT b t) = true) : canB b = true := by
  obtain ⟨p, hp⟩ := (can_iff (sp_withT hs t)).1 h
  exact (can_iff hs).2 ⟨p, trs_more t hp⟩
theorem wraps_more {b : Bk} (hs : SP b) (t : S59) (h : canB (withT b t) = true) : (knownR (pB b)).1 ≤ (knownR (pB (withT b t))).1 ∧ (knownR (pB (withT b t))).2 ≤ (knownR (pB b)).2 := by
  obtain ⟨l1, h1, k1, m1, m2, _⟩ := known_some (sp_withT hs t) h
  obtain ⟨l2, h2, k2, _, _, n3⟩ := known_some hs (can_more hs t h)
  rw [k1, k2]
  have a1 := n3 _ (trs_more t m1)
  have a2 := n3 _ (trs_more t m2)
  simp only
  omega
theorem lights_more {b : Bk} (hg : Good b) (t : S59) (hgx : Good (withT b t)) (hc : canB (withT b t) = true) {k : Nat} (hk : k < b.surfs.length) : lightsL b k = 1 ∨ lightsL (withT b t) k = lightsL b k := by
  have hlow : ∀ p, lowI b k p ≤ lowI (withT b t) k p := fun p => by
    have := (rubs_more (b := b) t k p).1
    show p + (rubs b k p).1 - (rd_T47 b.surfs k).f1.f1 ≤ p + (rubs (withT b t) k p).1 - (rd_T47 b.surfs k).f1.f1
    omega
  have hhigh : ∀ p, highI (withT b t) k p ≤ highI b k p := fun p => by
    have := (rubs_more (b := b) t k p).2
    show p + (rubs (withT b t) k p).2 - (rd_T47 b.surfs k).f1.f0 ≤ p + (rubs b k p).2 - (rd_T47 b.surfs k).f1.f0
    omega
  cases hm : mayL b k with
  | false =>
    refine .inr ?_
    have h0 : mayL (withT b t) k = false := by
      unfold mayL at hm ⊢
      rw [List.any_eq_false] at hm ⊢
      intro p hp
      have h1 := hm p (trs_more t hp)
      have h2 := hhigh p
      simp at h1 ⊢
      show highI (withT b t) k p < b.need
      omega
    unfold lightsL
    rw [hm, h0]
    rfl
  | true =>
    cases hs : sureL b k with
    | false =>
      refine .inl ?_
      unfold lightsL
      rw [hm, hs]
      rfl
    | true =>
      refine .inr ?_
      have h1 : sureL (withT b t) k = true := by
        unfold sureL at hs ⊢
        rw [List.all_eq_true] at hs ⊢
        intro p hp
        have h1 := hs p (trs_more t hp)
        have h2 := hlow p
        simp at h1 ⊢
        show b.need ≤ lowI (withT b t) k p
        omega
      have h2 : mayL (withT b t) k = true := sure_may hgx hc (k := k) hk h1
      unfold lightsL
      rw [hm, hs, h1, h2]
end Go.Proofs.YtghpoldlddghjaaDoor
namespace Go.Proofs.YtghpoldlddghjaaDoor
open Go Go.RowKit
open Go.Proofs.YtghpoldlddghjaaDoorW.PrintWords Go.Proofs.YtghpoldlddghjaaDoorW.PrintMore Go.Proofs.YtghpoldlddghjaaDoor.PPasteTrue
def Hd.tr (h : Hd) (A : Option Addr) (c : Nat) : Hd := { h with A4 := A, c4 := c }
structure MoSt (w : World) (h : Hd) (b : Bk) (t : S59) (A : Option Addr) (c g7 g8 : Nat) (wq : World) (b2 b4 b5 b6 b7 : Bool) : Prop where
  o : Two w (h.cells b) 27 #[.int .i64 t.f0, .bool t.f1] 59 wq
  r : b2 = true → k59.R 59 wq (w.heap.size + 2) (fun _ => True) (.slice A (b.trials.length + 1) c) (b.trials ++ [t])
  v7 : b4 = true → w.heap.size + 2 ≤ g7 ∧ wq.heap[g7]? = some (.cells (if b6 then (h.tr A c).cells (withT b t) else z27) 27 (0, 0))
  v8 : b5 = true → w.heap.size + 2 ≤ g8 ∧ wq.heap[g8]? = some (.cells (if b7 then h.cells b else z27) 27 (0, 0))
  ne : b4 = true → b5 = true → g7 ≠ g8
  i6 : b6 = true → b4 = true ∧ b2 = true
  i7 : b7 = true → b5 = true
section
variable {w : World} {h : Hd} {b : Bk} {t : S59} {A A1 : Option Addr} {c c1 g7 g8 : Nat} {wq w1 : World} {b2 b4 b5 b6 b7 : Bool}
theorem MoSt.on (s : MoSt w h b t A c g7 g8 wq b2 b4 b5 b6 b7) (hb : Below wq.heap.size wq w1) : MoSt w h b t A c g7 g8 w1 b2 b4 b5 b6 b7 :=
  ⟨s.o.on hb, fun e => Kd.R_below (s.r e) hb, fun e => ⟨(s.v7 e).1, blk_below (s.v7 e).2 hb⟩, fun e => ⟨(s.v8 e).1, blk_below (s.v8 e).2 hb⟩, s.ne, s.i6, s.i7⟩
theorem MoSt.made (s : MoSt w h b t A c g7 g8 wq false b4 b5 b6 b7) (hb : Below wq.heap.size wq w1) (hr : k59.R 59 w1 wq.heap.size (fun _ => True) (.slice A1 (b.trials.length + 1) c1) (b.trials ++ [t])) : b6 = false ∧ MoSt w h b t A1 c1 g7 g8 w1 true b4 b5 b6 b7 := by
  have e6 : b6 = false := false_of (fun e => (s.i6 e).2) rfl
  subst e6
  have hz := blk_lt s.o.b2
  exact ⟨rfl, s.o.on hb, fun _ => Kd.R_lower hr (by omega), fun e => ⟨(s.v7 e).1, by simpa using blk_below (s.v7 e).2 hb⟩, fun e => ⟨(s.v8 e).1, blk_below (s.v8 e).2 hb⟩, s.ne, fun e => (by cases e), s.i7⟩
theorem MoSt.var7 (s : MoSt w h b t A c g7 g8 wq b2 false b5 b6 b7) : b6 = false ∧ MoSt w h b t A c wq.heap.size g8 (wq.alloc (.cells z27 27)) b2 true b5 b6 b7 := by
  have e6 : b6 = false := false_of (fun e => (s.i6 e).1) rfl
  subst e6
  have hz := blk_lt s.o.b2
  have s1 := s.on (below_alloc (Below.refl _ _) (.cells z27 27))
  exact ⟨rfl, s1.o, s1.r, fun _ => ⟨by omega, by simpa using (new_at rfl : (wq.alloc (.cells z27 27)).heap[wq.heap.size]? = _)⟩, s1.v8, fun _ e => (by have := blk_lt (s.v8 e).2; omega), fun e => (by cases e), s1.i7⟩
theorem MoSt.var8 (s : MoSt w h b t A c g7 g8 wq b2 b4 false b6 b7) : b7 = false ∧ MoSt w h b t A c g7 wq.heap.size (wq.alloc (.cells z27 27)) b2 b4 true b6 b7 := by
  have e7 : b7 = false := false_of s.i7 rfl
  subst e7
  have hz := blk_lt s.o.b2
  have s1 := s.on (below_alloc (Below.refl _ _) (.cells z27 27))
  exact ⟨rfl, s1.o, s1.r, s1.v7, fun _ => ⟨by omega, by simpa using (new_at rfl : (wq.alloc (.cells z27 27)).heap[wq.heap.size]? = _)⟩, fun e _ => (by have := blk_lt (s.v7 e).2; omega), s1.i6, fun e => by cases e⟩
theorem MoSt.set7 (s : MoSt w h b t A c g7 g8 wq true true b5 false b7) : MoSt w h b t A c g7 g8 (wq.setRow g7 ((h.tr A c).cells (withT b t))) true true b5 true b7 := by
  obtain ⟨n7, h7⟩ := s.v7 rfl
  exact ⟨s.o.row n7 _, fun _ => R_setRow (s.r rfl) (by simpa using h7) (by decide) _, fun _ => ⟨n7, by simpa using setRow_heap wq g7 _ _ 27 _ h7⟩, fun e => ⟨(s.v8 e).1, (setRow_other wq g7 _ _ (by have := s.ne rfl e; omega)).trans (s.v8 e).2⟩, s.ne, fun _ => ⟨rfl, rfl⟩, s.i7⟩
theorem MoSt.set8 (s : MoSt w h b t A c g7 g8 wq b2 b4 true b6 false) : MoSt w h b t A c g7 g8 (wq.setRow g8 (h.cells b)) b2 b4 true b6 true := by
  obtain ⟨n8, h8⟩ := s.v8 rfl
  exact ⟨s.o.row n8 _, fun e => R_setRow (s.r e) (by simpa using h8) (by decide) _, fun e => ⟨(s.v7 e).1, (setRow_other wq g8 _ _ (by have := s.ne e rfl; omega)).trans (s.v7 e).2⟩, fun _ => ⟨n8, by simpa using setRow_heap wq g8 _ _ 27 _ h8⟩, s.ne, s.i6, fun _ => rfl⟩
end
section
structure Near (w V wq : World) (g8 : Nat) : Prop where
  below : Below w.heap.size w wq
  sz : V.heap.size ≤ wq.heap.size
  same : ∀ k, k < V.heap.size → k ≠ g8 → wq.heap[k]? = V.heap[k]?
theorem Near.refl {w V : World} (hb : Below w.heap.size w V) (g8 : Nat) : Near w V V g8 := ⟨hb, Nat.le_refl _, fun _ _ _ => rfl⟩
theorem Near.on {w V wq w1 : World} {g8 : Nat} (s : Near w V wq g8) (hb : Below wq.heap.size wq w1) : Near w V w1 g8 :=
  ⟨below_step s.below hb, Nat.le_trans s.sz hb.size, fun k hk hn => (hb.block k (Nat.lt_of_lt_of_le hk s.sz)).trans (s.same k hk hn)⟩
theorem Near.grown {w V wq w1 : World} {g8 : Nat} {row : Option Nat} (s : Near w V wq g8) (hw : w.heap.size ≤ V.heap.size) (hg : wq.grownBy w1 row) (hr : ∀ k, row = some k → V.heap.size ≤ k) : Near w V w1 g8 :=
  ⟨s.below.grown hg (Nat.le_trans hw s.sz) (fun k hk => Nat.le_trans hw (hr k hk)), Nat.le_trans s.sz hg.size, fun k hk hn => (hg.block k (Nat.lt_of_lt_of_le hk s.sz) (fun e => by have := hr k e.symm; omega)).trans (s.same k hk hn)⟩
theorem Near.put {w V wq : World} {g8 : Nat} (s : Near w V wq g8) (h8 : w.heap.size ≤ g8) (j : Nat) (u : Value) : Near w V (wq.setCell ⟨g8, j, none⟩ u) g8 :=
  ⟨s.below.setCell h8 _, by simpa using s.sz, fun k hk hn => (Below.heap_setCell wq ⟨g8, j, none⟩ u k hn).trans (s.same k hk hn)⟩
theorem Near.blk {w V wq : World} {g8 g : Nat} {o : Obj} (s : Near w V wq g8) (h : V.heap[g]? = some o) (hn : g ≠ g8) : wq.heap[g]? = some o := (s.same g (blk_lt h) hn).trans h
theorem Near.row {α : Type} {d : Kd α} {e : Nat} {base : Nat} {v : Value} {xs : List α} {w V wq : World} {g8 : Nat} {cells : Array Value} (s : Near w V wq g8) (h : d.R e V base (fun _ => True) v xs) (hb : V.heap[g8]? = some (.cells cells 27 (0, 0))) (ht : ∀ q, q ∈ e :: d.E → q ≠ 27) : d.R e wq base (fun _ => True) v xs :=
  Kd.R_mono (Kd.R_step (Kd.R_types h hb ht) (fun k hk hlt => s.same k hlt hk.2)) (fun _ _ => trivial)
theorem rev_take (l : List S59) (m : Nat) (hm : m < l.length) : l.reverse.take (m + 1) = l.reverse.take m ++ [rd_T59 l ((l.length - 1 - m : Nat) : Int)] := by
  have hlt : m < l.reverse.length := by simpa using hm
  rw [List.take_succ_eq_append_getElem hlt, List.getElem_reverse]
  unfold rd_T59
  rw [List.getD_eq_getElem?_getD, Int.toNat_natCast, List.getElem?_eq_getElem (by omega)]
  rfl
structure RvSt (w V : World) (h : Hd) (b : Bk) (g8 m g53 : Nat) (A : Option Addr) (c : Nat) (A1 : Option Addr) (c1 : Nat) (x : S59) (wq : World) (b7 b8 b10 : Bool) : Prop where
  n : Near w V wq g8
  h8 : wq.heap[g8]? = some (.cells ((h.cells b).setIfInBounds 4 (if b10 then .slice A1 (m + 1) c1 else .slice A m c)) 27 (0, 0))
  r : b8 = false → k59.R 59 wq V.heap.size (fun _ => True) (.slice A m c) (b.trials.reverse.take m)
  e : b7 = true → b8 = false → wq.heap[g53]? = some (.cells #[.int .i64 x.f0, .bool x.f1] 59 (0, 0))
  r1 : b8 = true → k59.R 59 wq V.heap.size (fun _ => True) (.slice A1 (m + 1) c1) (b.trials.reverse.take m ++ [x])
  i8 : b8 = true → b7 = true
  i10 : b10 = true → b8 = true
section
variable {w V : World} {h : Hd} {b : Bk} {g8 m g53 : Nat} {A : Option Addr} {c : Nat} {A1 A2 : Option Addr} {c1 c2 : Nat} {x : S59} {wq w1 : World} {b7 b8 b10 : Bool}
theorem RvSt.on (s : RvSt w V h b g8 m g53 A c A1 c1 x wq b7 b8 b10) (hb : Below wq.heap.size wq w1) : RvSt w V h b g8 m g53 A c A1 c1 x w1 b7 b8 b10 :=
  ⟨s.n.on hb, blk_below s.h8 hb, fun e => Kd.R_below (s.r e) hb, fun e e' => blk_below (s.e e e') hb, fun e => Kd.R_below (s.r1 e) hb, s.i8, s.i10⟩
theorem RvSt.box (s : RvSt w V h b g8 m g53 A c A1 c1 x wq false b8 b10) : b8 = false ∧ RvSt w V h b g8 m wq.heap.size A c A1 c1 x (wq.alloc (.cells #[.int .i64 x.f0, .bool x.f1] 59)) true b8 b10 := by
  have e8 : b8 = false := false_of s.i8 rfl
  subst e8
  have s1 := s.on (below_alloc (Below.refl _ _) (.cells #[.int .i64 x.f0, .bool x.f1] 59))
  exact ⟨rfl, s1.n, s1.h8, s1.r, fun _ _ => new_at rfl, s1.r1, fun _ => rfl, s1.i10⟩
theorem RvSt.add {row : Option Nat} (s : RvSt w V h b g8 m g53 A c A1 c1 x wq true false b10) (hw : w.heap.size ≤ V.heap.size) (h8V : g8 < V.heap.size) (hr : k59.R 59 w1 V.heap.size (fun _ => True) (.slice A2 (m + 1) c2) (b.trials.reverse.take m ++ [x])) (hg : wq.grownBy w1 row) (hrow : ∀ k, row = some k → V.heap.size ≤ k) : b10 = false ∧ RvSt w V h b g8 m g53 A c A2 c2 x w1 true true b10 := by
  have e10 : b10 = false := false_of s.i10 rfl
  subst e10
  exact ⟨rfl, s.n.grown hw hg hrow, by simpa using blk_grown s.h8 hg (fun e => by have := hrow g8 e.symm; omega), fun e => (by cases e), fun _ e => (by cases e), fun _ => hr, fun _ => rfl, fun e => by cases e⟩
theorem RvSt.put (s : RvSt w V h b g8 m g53 A c A1 c1 x wq b7 true false) (h8 : w.heap.size ≤ g8) : RvSt w V h b g8 m g53 A c A1 c1 x (wq.setCell ⟨g8, 4, none⟩ (.slice A1 (m + 1) c1)) b7 true true :=
  ⟨s.n.put h8 4 _, blk_put s.h8 _ _ (by simp [Array.setIfInBounds_setIfInBounds]), fun e => (by cases e), fun _ e => (by cases e), fun _ => Kd.R_set (s.r1 rfl) s.h8 (by decide) 4 _, s.i8, fun _ => rfl⟩
end
end
end Go.Proofs.YtghpoldlddghjaaDoor
namespace Go.Proofs.YtghpoldlddghjaaDoor
open Go Go.RowKit
open Go.Proofs.YtghpoldlddghjaaDoorW.PrintWords Go.Proofs.YtghpoldlddghjaaDoorW.PrintMore Go.Proofs.YtghpoldlddghjaaDoor.PPasteTrue
set_option maxHeartbeats 800000 in
theorem wraps_calls (x y u v : Int) (w : World) : Calls Tryd.prog 33 #[.agg #[.int .i64 x, .int .i64 y], .agg #[.int .i64 u, .int .i64 v]] w fun e w' => e = .returned (.bool (decide (x ≤ u) && decide (v ≤ y))) ∧ Below w.heap.size w w' := by
  by_cases h : x ≤ u
  · go_enter Tryd.func33, Tryd.ntmps33
    go_wp2
    go_ret
    exact ⟨by simp [h], ((Below.refl _ _).alloc (Nat.le_refl _) _).alloc (by simp) _⟩
  · go_enter Tryd.func33, Tryd.ntmps33
    go_wp2
    go_ret
    exact ⟨by rw [show decide (x ≤ u) = false from decide_eq_false (by omega)]; rfl, ((Below.refl _ _).alloc (Nat.le_refl _) _).alloc (by simp) _⟩
theorem ask_two {b : Bk} (hc : checkB b = true) : askE b true = 0 ∨ askE b true = 22 := by
  unfold askE
  rw [if_pos hc, if_pos rfl]
  cases canB b with
  | false => exact .inr rfl
  | true => exact .inl rfl
theorem more_facts {b : Bk} (hg : Good b) (hck : checkB b = true) (hsa : Sane b) (h5 : b.trials.length ≤ 5) (t : S59) {k : Nat} (hk : k < b.surfs.length) :
    (askE (withT b t) true = 20 ∧ inB t.f0 0 ((b.surfs.length : Int) - 1) = false) ∨ askE (withT b t) true = 22 ∨
      (askE (withT b t) true = 0 ∧ askE b true = 0 ∧ (kR b).1 ≤ (kR (withT b t)).1 ∧ (kR (withT b t)).2 ≤ (kR b).2 ∧ (lR b k = 1 ∨ lR (withT b t) k = lR b k)) := by
  have hcm := check_more hck h5 t hg.u1 hg.u0
  cases hi : inB t.f0 0 ((b.surfs.length : Int) - 1) with
  | false =>
    refine .inl ⟨?_, rfl⟩
    rw [hi] at hcm
    unfold askE
    rw [if_neg (by rw [hcm]; exact Bool.false_ne_true)]
  | true =>
    rw [hi] at hcm
    cases hx : canB (withT b t) with
    | false =>
      refine .inr (.inl ?_)
      rw [ask_with hcm, if_neg (by rw [hx]; exact Bool.false_ne_true)]
    | true =>
      refine .inr (.inr ?_)
      have e1 : askE (withT b t) true = 0 := by rw [ask_with hcm, if_pos hx]
      have hx0 := can_more hg.sp t hx
      have e0 : askE b true = 0 := by
        unfold askE
        rw [if_pos hck, if_pos rfl, if_pos hx0]
      have hsx : Sane (withT b t) := hsa
      have hgx : Good (withT b t) := good_of hcm hsx
      have hsf : isSurfB b k = true := by
        unfold isSurfB
        rw [inB_iff, show wrap64 ((b.surfs.length : Int) - 1) = (b.surfs.length : Int) - 1 by have := hg.u1; unfold wrap64; omega]
        omega
      have hl : lR b k = lightsL b k := by
        unfold lR eL
        rw [hsf, if_pos e0, lights_eq hg.sp]
        rfl
      have hlx : lR (withT b t) k = lightsL (withT b t) k := by
        unfold lR eL
        rw [show isSurfB (withT b t) k = true from hsf, if_pos e1, lights_eq hgx.sp]
        rfl
      refine ⟨e1, e0, ?_, ?_, ?_⟩
      · unfold kR
        rw [if_pos e0, if_pos e1]
        exact (wraps_more hg.sp t hx).1
      · unfold kR
        rw [if_pos e0, if_pos e1]
        exact (wraps_more hg.sp t hx).2
      · rw [hl, hlx]
        exact lights_more hg t hgx hx hk
structure MoEnd (w : World) (h : Hd) (b : Bk) (t : S59) (A : Option Addr) (c : Nat) (A9 : Option Addr) (c9 g7 g8 : Nat) (wq : World) : Prop where
  o : Two w (h.cells b) 27 #[.int .i64 t.f0, .bool t.f1] 59 wq
  h7 : wq.heap[g7]? = some (.cells ((h.tr A c).cells (withT b t)) 27 (0, 0))
  h8 : wq.heap[g8]? = some (.cells ((h.tr A9 c9).cells (revB b)) 27 (0, 0))
  bi : BkIn wq h b
  bx : BkIn wq (h.tr A c) (withT b t)
  br : BkIn wq (h.tr A9 c9) (revB b)
theorem MoEnd.on {w : World} {h : Hd} {b : Bk} {t : S59} {A A9 : Option Addr} {c c9 g7 g8 : Nat} {wq w1 : World} (s : MoEnd w h b t A c A9 c9 g7 g8 wq) (hb : Below wq.heap.size wq w1) : MoEnd w h b t A c A9 c9 g7 g8 w1 :=
  ⟨s.o.on hb, blk_below s.h7 hb, blk_below s.h8 hb, s.bi.below hb, s.bx.below hb, s.br.below hb⟩
theorem MoEnd.cell {w : World} {h : Hd} {b : Bk} {t : S59} {A A9 : Option Addr} {c c9 g7 g8 : Nat} {wq : World} (s : MoEnd w h b t A c A9 c9 g7 g8 wq) (cs : Array Value) (ty : TypeId) : MoEnd w h b t A c A9 c9 g7 g8 (wq.alloc (.cells cs ty)) :=
  s.on (below_alloc (Below.refl _ _) _)
end Go.Proofs.YtghpoldlddghjaaDoor
namespace Go.Proofs.YtghpoldlddghjaaDoor
open Go Go.RowKit
open Go.Proofs.YtghpoldlddghjaaDoorW.PrintWords Go.Proofs.YtghpoldlddghjaaDoorW.PrintMore Go.Proofs.YtghpoldlddghjaaDoor.PPasteTrue
theorem x_indexAddr25 {ρ : Operand → Value} {o : Oper} {w : World} {x y : Operand} (ho : o.op = .indexAddr 25 x y) {ad : Addr} {n c : Nat} {i : Int} (hx : ρ x = .slice (some ad) n c) (hy : ρ y = .int .i64 i) (h0 : 0 ≤ i) (h1 : i < n) :
    (execOp ρ o).run Tryd.prog w = .ok (.value (.pointer (some (ad.add (i.toNat * 2))))) w := by
  unfold execOp
  simp only [ho, hx, hy]
  go_simp
theorem x_load59at {ρ : Operand → Value} {o : Oper} {w : World} {x : Operand} (ho : o.op = .load 59 x) {ad : Addr} {t : S59} (hx : ρ x = .pointer (some ad)) (c0 : w.cell? ad = some (.int .i64 t.f0)) (c1 : w.cell? ⟨ad.block, ad.off + 1, none⟩ = some (.bool t.f1)) : (execOp ρ o).run Tryd.prog w = .ok (.value (.agg #[.int .i64 t.f0, .bool t.f1])) w := by
  unfold execOp
  simp only [ho, hx]
  go_simp
theorem tr_at {w wq : World} {h : Hd} {b : Bk} (hb : BkIn w h b) (hbel : Below w.heap.size w wq) {ad : Addr} (ha : h.A4 = some ad) (i : Nat) (hi : i < b.trials.length) :
    wq.cell? (ad.add (i * 2)) = some (.int .i64 (rd_T59 b.trials i).f0) ∧ wq.cell? ⟨(ad.add (i * 2)).block, (ad.add (i * 2)).off + 1, none⟩ = some (.bool (rd_T59 b.trials i).f1) := by
  obtain ⟨ad2, h2, t0, t1⟩ := at_T59 (hb.below hbel).r4 i (by omega) (by omega)
  obtain rfl : ad = ad2 := by rw [ha] at h2; exact Option.some.inj h2
  simp only [Int.toNat_natCast] at t0 t1
  exact ⟨t0, t1⟩
set_option maxRecDepth 20000 in
set_option maxHeartbeats 4000000 in
theorem pasteMore_calls {h : Hd} {b : Bk} {w : World} (hg : Asks w) (hb : BkIn w h b) (t : S59) (n : Int) : Calls Tryd.prog 6 #[.agg (h.cells b), .agg #[.int .i64 t.f0, .bool t.f1], .int .i64 n] w fun e w' => e = .returned (.bool true) ∧ Below w.heap.size w w' := by
  have HG := Lib.hid hg
  clear hg
  have HO := Lib.hid (Two.start w (h.cells b) 27 #[.int .i64 t.f0, .bool t.f1] 59)
  cases hsd : soundB b with
  | false =>
    have HS := Lib.hid hsd
    clear hsd
    go_enter Tryd.func6, Tryd.ntmps6
    go_wp2_with (first | (with_reducible refine b_box (t := 27) rfl rfl rfl ?_) | (with_reducible refine b_box (t := 59) rfl rfl rfl ?_) | ((with_reducible refine gate_dst (N := 23) rfl ?_); refine wpList_load_row rfl 27 _ rfl w.heap.size rfl 27 (h.cells b) (0, 0) _ HO.out.b1 Tryd.underlying27 rfl i27 ?_) | (go_at_call 11; refine (sound_calls (hb.below HO.out.below)).mono ?_; rintro e w1 ⟨rfl, hb1⟩; rw [HS.out]; have HB1 := Lib.hid (below_step HO.out.below hb1); clear hb1) | (go_at_call 12; refine (rubbed_calls (HG.out.below HB1.out)).mono ?_; rintro e w2 ⟨rfl, hb2⟩; have HB2 := Lib.hid (below_step HB1.out hb2); clear hb2))
    go_ret
    exact ⟨rfl, HB2.out⟩
  | true =>
    have HS := Lib.hid hsd
    obtain ⟨hck, hsa, hgd⟩ := sound_good hsd
    have HSA := Lib.hid hsa
    have ht6 := hgd.t1
    have hu0 := hgd.u0
    have hu1 := hgd.u1
    by_cases h6 : b.trials.length = 6
    · have h6b : ((b.trials.length : Int) == 6) = true := by rw [h6]; rfl
      clear hsd hck hsa hgd h6
      go_enter Tryd.func6, Tryd.ntmps6
      go_wp2_with (first | (with_reducible refine b_box (t := 27) rfl rfl rfl ?_) | (with_reducible refine b_box (t := 59) rfl rfl rfl ?_) | ((with_reducible refine gate_dst (N := 23) rfl ?_); refine wpList_load_row rfl 27 _ rfl w.heap.size rfl 27 (h.cells b) (0, 0) _ HO.out.b1 Tryd.underlying27 rfl i27 ?_) | (go_at_call 11; refine (sound_calls (hb.below HO.out.below)).mono ?_; rintro e w1 ⟨rfl, hb1⟩; rw [HS.out]; have HO1 := Lib.hid (HO.out.on hb1); have c4 : w1.cell? ⟨w.heap.size, 4, none⟩ = some (.slice h.A4 b.trials.length h.c4) := (blk_cell HO1.out.b1 4).trans rfl; have HB1 := Lib.hid (below_step HO.out.below hb1); clear hb1) | (go_at_call 12; refine (rubbed_calls (HG.out.below HB1.out)).mono ?_; rintro e w2 ⟨rfl, hb2⟩; have HB2 := Lib.hid (below_step HB1.out hb2); clear hb2))
      go_ret
      exact ⟨rfl, HB2.out⟩
    · have h6b : ((b.trials.length : Int) == 6) = false := by rw [beq_eq_false_iff_ne]; omega
      have HT5 := Lib.hid (show b.trials.length ≤ 5 by omega)
      have HCK := Lib.hid hck
      have HGD := Lib.hid hgd
      clear h6 hsd hck hsa hgd
      go_enter Tryd.func6, Tryd.ntmps6
      go_upto_region 3 with (first | (with_reducible refine b_box (t := 27) rfl rfl rfl ?_) | (with_reducible refine b_box (t := 59) rfl rfl rfl ?_) | ((with_reducible refine gate_dst (N := 23) rfl ?_); refine wpList_load_row rfl 27 _ rfl w.heap.size rfl 27 (h.cells b) (0, 0) _ HO.out.b1 Tryd.underlying27 rfl i27 ?_) | (go_at_call 11; refine (sound_calls (hb.below HO.out.below)).mono ?_; rintro e w1 ⟨rfl, hb1⟩; rw [HS.out]; have HO1 := Lib.hid (HO.out.on hb1); have c4 : w1.cell? ⟨w.heap.size, 4, none⟩ = some (.slice h.A4 b.trials.length h.c4) := (blk_cell HO1.out.b1 4).trans rfl; clear hb1))
      clear c4
      rename_i K hK
      refine draw_inv2 mixed (by kernel_rfl) (fun bb a wq => ∃ (A : Option Addr) (c g7 g8 : Nat), a = ⟨#[.agg (h.cells b), .agg #[.int .i64 t.f0, .bool t.f1], .int .i64 n, .pointer (some { block := w.heap.size, off := 0 }), .pointer (some { block := w.heap.size + 1, off := 0 }), undef, .bool false, (if bb 4 then .pointer (some ⟨g7, 0, none⟩) else undef), (if bb 5 then .pointer (some ⟨g8, 0, none⟩) else undef), undef, undef, undef, undef, undef, undef, undef, undef, undef, undef, undef, undef, undef, undef, .agg (h.cells b), .bool true, .bool false, .bool false, .pointer (some { block := w.heap.size, off := 4 }), .slice h.A4 b.trials.length h.c4, .int .i64 b.trials.length, .bool false, .bool false, undef, (if bb 0 then .agg (h.cells b) else undef), (if bb 1 then .agg #[.int .i64 t.f0, .bool t.f1] else undef), (if bb 2 then .agg ((h.tr A c).cells (withT b t)) else undef), (if bb 3 then .agg (h.cells b) else undef), undef, undef, undef, undef, undef, undef, undef, undef, undef, undef, undef, undef, undef, undef, undef, undef, undef, undef, undef, undef, undef, undef, undef, undef, undef, undef, undef, undef, undef, undef, undef, undef, undef, undef, undef, undef, undef, undef, undef, undef, undef, undef, undef, undef, undef, undef, undef, undef, undef, undef, undef, undef, undef, undef, undef, undef, undef, undef, undef, undef, undef, undef, undef, undef, undef, undef, undef, undef, undef, undef, undef, undef, undef, undef, undef, undef, undef, undef, undef, undef, undef, undef, undef, undef, undef, undef, undef, undef, undef, undef, undef, undef, undef, undef, undef, undef, undef, undef, undef, undef, undef, undef, undef, undef, undef, undef, undef, undef, undef, undef, undef, undef, undef, undef, undef, undef, undef, undef, undef, undef, undef, undef, undef, undef, undef, undef, undef, undef, undef, undef, undef, undef, undef, undef, undef, undef, undef], []⟩ ∧ MoSt w h b t A c g7 g8 wq (bb 2) (bb 4) (bb 5) (bb 6) (bb 7)) ?_ ?_ ?_
      · exact ⟨none, 0, 0, 0, by simp, by simpa using (MoSt.on ⟨HO1.out, by simp, by simp, by simp, by simp, by simp, by simp⟩ (Below.refl _ _).drew : MoSt w h b t none 0 0 0 w1.drew false false false false false)⟩
      · intro i hil bb a wq hI hbi hcame
        obtain ⟨A, c, g7, g8, rfl, hst⟩ := hI
        rcases i with _ | _ | _ | _ | _ | _ | _ | _ | i
        · refine op_value rfl rfl (x_load (g := w.heap.size) rfl rfl hst.o.b1 Tryd.underlying27 rfl i27) ⟨A, c, g7, g8, by simp [Act.put, Act.eval, upd], ?_⟩
          simpa [upd] using hst
        · refine op_value rfl rfl (x_load59 (x := .tmp 4) (g := w.heap.size + 1) rfl rfl hst.o.b2) ⟨A, c, g7, g8, by simp [Act.put, Act.eval, upd], ?_⟩
          simpa [upd] using hst
        · have hh := hcame
          simp [Came, Region.binds] at hh
          refine op_call rfl rfl (run_call Tryd.func29 (by kernel_rfl) rfl rfl rfl (args := #[.agg (h.cells b), .agg #[.int .i64 t.f0, .bool t.f1]]) (by simp [Act.eval, hh])) ((with_rows (hb.below hst.o.below) (by have := HT5.out; omega) t).mono ?_)
          rintro e w5 ⟨A1, c1, rfl, hr5, hb5⟩
          have hst' := hst
          rw [hbi] at hst'
          obtain ⟨e6, hst2⟩ := hst'.made hb5 hr5
          refine ⟨_, rfl, A1, c1, g7, g8, by simp [Act.put, upd, hh, Hd.tr], ?_⟩
          simpa [upd, e6] using hst2
        · refine op_value rfl rfl (x_load (g := w.heap.size) rfl rfl hst.o.b1 Tryd.underlying27 rfl i27) ⟨A, c, g7, g8, by simp [Act.put, Act.eval, upd], ?_⟩
          simpa [upd] using hst
        · have hst' := hst
          rw [hbi] at hst'
          obtain ⟨e6, hst2⟩ := hst'.var7
          refine op_value rfl rfl (x_alloc rfl zb27) ⟨A, c, wq.heap.size, g8, by simp [Act.put, upd], ?_⟩
          simpa [upd, e6] using hst2
        · have hst' := hst
          rw [hbi] at hst'
          obtain ⟨e7, hst2⟩ := hst'.var8
          refine op_value rfl rfl (x_alloc rfl zb27) ⟨A, c, g7, wq.heap.size, by simp [Act.put, upd], ?_⟩
          simpa [upd, e7] using hst2
        · have hh := hcame
          simp [Came, Region.binds] at hh
          have h2 : bb 2 = true := by simp [hh]
          have h4 : bb 4 = true := by simp [hh]
          have hst' := hst
          rw [hbi, h2, h4] at hst'
          refine op_skip rfl rfl (x_store (g := g7) (cells := (h.tr A c).cells (withT b t)) rfl (by simp [Act.eval, hh]) (by simp [Act.eval, hh]) (show wq.heap[g7]? = some (.cells z27 27 (0, 0)) by simpa using (hst'.v7 rfl).2) i27 rfl (cells_one _ _)) ⟨A, c, g7, g8, by simp [Act.put, upd, hh], ?_⟩
          simpa [upd, h2, h4] using hst'.set7
        · have hh := hcame
          simp [Came, Region.binds] at hh
          have h5 : bb 5 = true := by simp [hh]
          have hst' := hst
          rw [hbi, h5] at hst'
          refine op_skip rfl rfl (x_store (g := g8) (cells := h.cells b) rfl (by simp [Act.eval, hh]) (by simp [Act.eval, hh]) (show wq.heap[g8]? = some (.cells z27 27 (0, 0)) by simpa using (hst'.v8 rfl).2) i27 rfl (cells_one _ _)) ⟨A, c, g7, g8, by simp [Act.put, upd, hh], ?_⟩
          simpa [upd, h5] using hst'.set8
        · simp at hil; omega
      · intro bb a wf hI hall
        obtain ⟨A, c, g7, g8, rfl, hst⟩ := hI
        refine hK _ _ ?_
        simp only [hall 0 (by simp), hall 1 (by simp), hall 2 (by simp), hall 3 (by simp), hall 4 (by simp), hall 5 (by simp), if_true]
        rw [hall 2 (by simp), hall 4 (by simp), hall 5 (by simp), hall 6 (by simp), hall 7 (by simp)] at hst
        clear hall hK
        obtain ⟨n7, h7⟩ := hst.v7 rfl
        obtain ⟨n8, h8⟩ := hst.v8 rfl
        have hne : g7 ≠ g8 := hst.ne rfl rfl
        have h7' : wf.heap[g7]? = some (.cells ((h.tr A c).cells (withT b t)) 27 (0, 0)) := by simpa using h7
        have h8' : wf.heap[g8]? = some (.cells (h.cells b) 27 (0, 0)) := by simpa using h8
        have f8 := blk_frozen h8' 4
        have c8 : wf.cell? ⟨g8, 4, none⟩ = some (.slice h.A4 b.trials.length h.c4) := (blk_cell h8' 4).trans rfl
        have z8 := blk_lt h8'
        have H7 := Lib.hid h7'
        have H8 := Lib.hid h8'
        have HR := Lib.hid (hst.r rfl)
        have HOW := Lib.hid hst.o
        clear hst h7 h8 h7' h8'
        go_upto_region 5 with (first | fail)
        have hV8 := blk_put H8.out 4 (.slice none 0 0) rfl
        have hV7 := blk_far H7.out (p := ⟨g8, 4, none⟩) (by simpa using hne) (.slice none 0 0)
        have hVR := Kd.R_set HR.out H8.out (by decide) 4 (.slice none 0 0)
        have hVO : Two w (h.cells b) 27 #[.int .i64 t.f0, .bool t.f1] 59 (wf.setCell ⟨g8, 4, none⟩ (.slice none 0 0)) := ⟨HOW.out.below.setCell (by simp; omega) _, blk_far HOW.out.b1 (by simp; omega) _, blk_far HOW.out.b2 (by simp; omega) _⟩
        generalize wf.setCell ⟨g8, 4, none⟩ (.slice none 0 0) = V at hV8 hV7 hVR hVO ⊢
        obtain ⟨A4, hA4⟩ : ∃ A4, A4 = h.A4 := ⟨_, rfl⟩
        have c4 : V.cell? ⟨w.heap.size, 4, none⟩ = some (.slice A4 b.trials.length h.c4) := by rw [hA4]; exact (blk_cell hVO.b1 4).trans rfl
        have zz := blk_lt hVO.b1
        have zV8 := blk_lt hV8
        have HA4 := Lib.hid hA4
        have HV8 := Lib.hid hV8
        have HV7 := Lib.hid hV7
        have HVR := Lib.hid hVR
        have HVO := Lib.hid hVO
        have HR4 := Lib.hid (show Kd.C k59 V A4 b.trials.length b.trials by rw [hA4]; exact (hb.below hVO.below).r4)
        clear hV8 hV7 hVR hVO f8 c8 z8 hA4 H7 H8 HR HOW HO1
        go_wp2
        clear c4
        go_loopw [9] (fun i wr => ∃ m : Nat, m ≤ b.trials.length ∧ i = .int .i64 (b.trials.length - 1 - m) ∧ Aside0 (∃ (A9 : Option Addr) (c9 : Nat), Near w V wr g8 ∧ wr.heap[g8]? = some (.cells ((h.cells b).setIfInBounds 4 (.slice A9 m c9)) 27 (0, 0)) ∧ k59.R 59 wr V.heap.size (fun _ => True) (.slice A9 m c9) (b.trials.reverse.take m))) (fun i _ => (intOf i + 1).toNat)
        case atStart => exact ⟨0, Nat.zero_le _, by simp, ⟨none, 0, Near.refl HVO.out.below g8, HV8.out, Kd.R_nil _ _ _ _ _⟩⟩
        case round =>
          obtain ⟨m, hm, rfl, HX⟩ := hrel
          obtain ⟨A9, c9, hn9, h89, hr9⟩ := HX.out
          by_cases hlt : m < b.trials.length
          · obtain ⟨ad, had, tt0, tt1⟩ := at_T59 (hb.below hn9.below).r4 ((b.trials.length - 1 - m : Nat) : Int) (by omega) (by omega)
            have hadA : A4 = some ad := by rw [HA4.out]; exact had
            subst hadA
            have HAD := Lib.hid had
            have HN9 := Lib.hid hn9
            have H89 := Lib.hid h89
            have HR9 := Lib.hid hr9
            obtain ⟨x, hx⟩ : ∃ x, x = rd_T59 b.trials ((b.trials.length - 1 - m : Nat) : Int) := ⟨_, rfl⟩
            have HXX := Lib.hid hx
            obtain ⟨ix, hix⟩ : ∃ ix : Nat, ix = b.trials.length - 1 - m := ⟨_, rfl⟩
            have hixi : ((b.trials.length : Int) - 1 - m) = (ix : Int) := by omega
            have hixl : ix < b.trials.length := by omega
            have hix2 : (ix : Int).toNat = ix := by omega
            rw [hixi]
            have HIX := Lib.hid hix
            clear hx had hn9 h89 hr9 HX hix tt0 tt1
            go_upto_region 8 with (first | fail)
            obtain ⟨U, hU⟩ : ∃ U, U = wr := ⟨_, rfl⟩
            subst hU
            rename_i K hK
            refine draw_inv2 mixed (by kernel_rfl) (fun bb a wq => ∃ (g53 : Nat) (A1 : Option Addr) (c1 : Nat), a = ⟨#[.agg (h.cells b), .agg #[.int .i64 t.f0, .bool t.f1], .int .i64 n, .pointer (some { block := w.heap.size, off := 0 }), .pointer (some { block := w.heap.size + 1, off := 0 }), undef, .bool false, .pointer (some ⟨g7, 0, none⟩), .pointer (some ⟨g8, 0, none⟩), .int .i64 ix, undef, undef, undef, undef, undef, undef, undef, undef, undef, undef, undef, undef, undef, .agg (h.cells b), .bool true, .bool false, .bool false, .pointer (some { block := w.heap.size, off := 4 }), .slice h.A4 b.trials.length h.c4, .int .i64 b.trials.length, .bool false, .bool false, undef, .agg (h.cells b), .agg #[.int .i64 t.f0, .bool t.f1], .agg ((h.tr A c).cells (withT b t)), .agg (h.cells b), .pointer (some ⟨g8, 4, none⟩), .pointer (some { block := w.heap.size, off := 4 }), .slice (some ad) b.trials.length h.c4, .int .i64 b.trials.length, .int .i64 (b.trials.length - 1), .int .i64 ix, .bool true, u44, u45, (if bb 0 then .pointer (some ⟨g8, 4, none⟩) else u46), (if bb 1 then .slice A9 m c9 else u47), (if bb 2 then .pointer (some ⟨w.heap.size, 4, none⟩) else u48), (if bb 3 then .slice (some ad) b.trials.length h.c4 else u49), (if bb 4 then .int .i64 ix else u50), (if bb 5 then .pointer (some (ad.add (ix * 2))) else u51), (if bb 6 then .agg #[.int .i64 x.f0, .bool x.f1] else u52), (if bb 7 then .slice (some ⟨g53, 0, none⟩) 1 1 else u53), (if bb 8 then .slice A1 (m + 1) c1 else u54), (if bb 9 then .pointer (some ⟨g8, 4, none⟩) else u55), undef, undef, undef, undef, undef, undef, undef, undef, undef, undef, undef, undef, undef, undef, undef, undef, undef, undef, undef, undef, undef, undef, undef, undef, undef, undef, undef, undef, undef, undef, undef, undef, undef, undef, undef, undef, undef, undef, undef, undef, undef, undef, undef, undef, undef, undef, undef, undef, undef, undef, undef, undef, undef, undef, undef, undef, undef, undef, undef, undef, undef, undef, undef, undef, undef, undef, undef, undef, undef, undef, undef, undef, undef, undef, undef, undef, undef, undef, undef, undef, undef, undef, undef, undef, undef, undef, undef, undef, undef, undef, undef, undef, undef, undef, undef, undef, undef, undef, undef, undef, undef, undef, undef, undef, undef, undef, undef, undef, undef, undef, undef, undef, undef, undef, undef, undef, undef, undef], []⟩ ∧ RvSt w V h b g8 m g53 A9 c9 A1 c1 x wq (bb 7) (bb 8) (bb 10) ∧ (bb 8 = true → bb 1 = true)) ?_ ?_ ?_
            · exact ⟨0, none, 0, by simp, by simpa using (RvSt.on ⟨HN9.out, by simpa using H89.out, fun _ => HR9.out, by simp, by simp, by simp, by simp⟩ (Below.refl _ _).drew : RvSt w V h b g8 m 0 A9 c9 none 0 x U.drew false false false), by simp⟩
            · intro i hil bb a wq hI hbi hcame
              obtain ⟨g53, A1, c1, rfl, hst, i81⟩ := hI
              rcases i with _ | _ | _ | _ | _ | _ | _ | _ | _ | _ | _ | i
              · refine op_value rfl rfl (x_field274 (x := .tmp 8) (g := g8) rfl rfl) ⟨g53, A1, c1, by simp [Act.put, Act.eval, upd], ?_, by simpa [upd] using i81⟩
                simpa [upd] using hst
              · have hh := hcame
                simp [Came, Region.binds] at hh
                have e10 : bb 10 = false := false_of hst.i10 (false_of i81 hbi)
                refine op_value rfl rfl (x_load25 (x := .tmp 46) (ad := ⟨g8, 4, none⟩) (A := A9) (n := m) (c := c9) rfl (by simp [Act.eval, hh]) (by rw [blk_cell hst.h8 4, e10, Array.getElem?_setIfInBounds]; simp [Hd.cells])) ⟨g53, A1, c1, by simp [Act.put, Act.eval, upd, hh], ?_, by simp [upd]⟩
                simpa [upd] using hst
              · refine op_value rfl rfl (x_field274 (x := .tmp 3) (g := w.heap.size) rfl rfl) ⟨g53, A1, c1, by simp [Act.put, Act.eval, upd], ?_, by simpa [upd] using i81⟩
                simpa [upd] using hst
              · have hh := hcame
                simp [Came, Region.binds] at hh
                refine op_value rfl rfl (x_load25 (x := .tmp 48) (ad := ⟨w.heap.size, 4, none⟩) (A := some ad) (n := b.trials.length) (c := h.c4) rfl (by simp [Act.eval, hh]) ((blk_cell (hst.n.blk HVO.out.b1 (by omega)) 4).trans (by rw [HA4.out]; rfl))) ⟨g53, A1, c1, by simp [Act.put, Act.eval, upd, hh], ?_, by simpa [upd] using i81⟩
                simpa [upd] using hst
              · refine op_value rfl rfl (x_assign (.inr rfl)) ⟨g53, A1, c1, by simp [Act.put, Act.eval, upd], ?_, by simpa [upd] using i81⟩
                simpa [upd] using hst
              · have hh := hcame
                simp [Came, Region.binds] at hh
                refine op_value rfl rfl (x_indexAddr25 (x := .tmp 49) (y := .tmp 50) (ad := ad) (n := b.trials.length) (c := h.c4) (i := (ix : Int)) rfl (by simp [Act.eval, hh]) (by simp [Act.eval, hh]) (by omega) (by omega)) ⟨g53, A1, c1, by simp [Act.put, Act.eval, upd, hh], ?_, by simpa [upd] using i81⟩
                simpa [upd] using hst
              · have hh := hcame
                simp [Came, Region.binds] at hh
                have hta := tr_at hb hst.n.below HAD.out ix hixl
                rw [show rd_T59 b.trials (ix : Int) = x by rw [HXX.out, HIX.out]] at hta
                refine op_value rfl rfl (x_load59at (x := .tmp 51) (ad := ad.add (ix * 2)) (t := x) rfl (by simp [Act.eval, hh]) hta.1 hta.2) ⟨g53, A1, c1, by simp [Act.put, Act.eval, upd, hh], ?_, by simpa [upd] using i81⟩
                simpa [upd] using hst
              · have hh := hcame
                simp [Came, Region.binds] at hh
                have hst' := hst
                rw [hbi] at hst'
                obtain ⟨e8, hst2⟩ := hst'.box
                refine op_value rfl rfl (x_box251 (x := .tmp 52) (t := x) rfl (by simp [Act.eval, hh])) ⟨wq.heap.size, A1, c1, by simp [Act.put, Act.eval, upd, hh], ?_, by simpa [upd] using i81⟩
                simpa [upd, e8] using hst2
              · have hh := hcame
                simp [Came, Region.binds] at hh
                have h7 : bb 7 = true := by simp [hh]
                have hst' := hst
                rw [hbi, h7] at hst'
                have hr := hst'.r rfl
                refine op_if rfl (Kd.R_append_rows_step k59 (Rr := k59.K wq) (w0 := wq) V.heap.size rfl (.tmp 47) (.tmp 53) 25 59 (.agg #[.int .i64 0, .bool false]) 16 rfl Tryd.underlying25 i59x rfl (by decide) (by decide) (.slice A9 m c9) (b.trials.reverse.take m) [x] (some ⟨g53, 0, none⟩) 1 1 (fun _ => True) (fun _ => False) (by simp [Act.eval, hh]) (by simp [Act.eval, hh]) hr (R_blk1 (hst'.e rfl rfl)) (fun x cs hk => by rw [k59_open hk]; exact k59_mkM _ _ _ _) (fun _ hk => hk.elim) (fun _ _ => trivial) (Below.refl _ _) hst.n.sz (by simp; omega) ?_)
                intro v1 w1' hr1 hb1 hg1 _
                obtain ⟨A2, c2, hv1⟩ := Kd.R_slice hr1
                subst hv1
                have hln : (b.trials.reverse.take m ++ [x]).length = m + 1 := by simp; omega
                rw [hln] at hr1
                obtain ⟨e10, hst2⟩ := hst'.add HVO.out.below.size zV8 hr1 hg1 (fun k hk => R_from hr k hk)
                rw [hln]
                refine ⟨g53, A2, c2, by simp [Act.put, Act.eval, upd, hh], ?_, by simp [upd, hh]⟩
                simpa [upd, h7, e10] using hst2
              · refine op_value rfl rfl (x_field274 (x := .tmp 8) (g := g8) rfl rfl) ⟨g53, A1, c1, by simp [Act.put, Act.eval, upd], ?_, by simpa [upd] using i81⟩
                simpa [upd] using hst
              · have hh := hcame
                simp [Came, Region.binds] at hh
                have h8 : bb 8 = true := by simp [hh]
                have hst' := hst
                rw [hbi, h8] at hst'
                refine op_skip rfl rfl (x_store25 (x := .tmp 55) (y := .tmp 54) (g := g8) (j := 4) (A := A1) (n := m + 1) (c := c1) (t := 27) rfl (by simp [Act.eval, hh]) (by simp [Act.eval, hh]) hst'.h8 (by simp [Hd.cells])) ⟨g53, A1, c1, by simp [Act.put, upd, hh], ?_, by simpa [upd] using i81⟩
                simpa [upd, h8] using hst'.put (by omega)
              · simp at hil; omega
            · intro bb a wf2 hI hall
              obtain ⟨g53, A1, c1, rfl, hst, i81⟩ := hI
              refine hK _ _ ?_
              simp only [hall 0 (by simp), hall 1 (by simp), hall 2 (by simp), hall 3 (by simp), hall 4 (by simp), hall 5 (by simp), hall 6 (by simp), hall 7 (by simp), hall 8 (by simp), hall 9 (by simp), if_true]
              rw [hall 7 (by simp), hall 8 (by simp), hall 10 (by simp)] at hst
              have HST := Lib.hid hst
              clear hall hK hst
              go_wp2
              go_roundw
              case rel =>
                refine ⟨m + 1, by omega, by have := HIX.out; simp; omega, ⟨A1, c1, HST.out.n, by simpa using HST.out.h8, ?_⟩⟩
                rw [rev_take b.trials m hlt, ← HXX.out]
                exact HST.out.r1 rfl
              case measure => simp [intOf]
          · obtain rfl : m = b.trials.length := by omega
            have hcy : (h.cells b).setIfInBounds 4 (.slice A9 b.trials.length c9) = (h.tr A9 c9).cells (revB b) := by simp [Hd.tr, revB, Hd.cells]
            rw [hcy] at h89
            rw [List.take_of_length_le (by simp)] at hr9
            obtain ⟨q1, q2, q3⟩ := Kd.R_reads' hr9
            have hbl := hb.below hn9.below
            have HBY := Lib.hid (show BkIn wr (h.tr A9 c9) (revB b) from ⟨hbl.r0, hbl.r1, hbl.r2, q3, hbl.l0, hbl.l1, hbl.l2, by show b.trials.reverse.length ≤ c9; simpa using q2⟩)
            have HBX := Lib.hid (show BkIn wr (h.tr A c) (withT b t) from bk_with hb hn9.below (hn9.row HVR.out HV8.out (by decide)))
            have HM0 := Lib.hid (show MoEnd w h b t A c A9 c9 g7 g8 wr from ⟨⟨hn9.below, hn9.blk HVO.out.b1 (by omega), hn9.blk HVO.out.b2 (by omega)⟩, hn9.blk HV7.out hne, h89, hbl, HBX.out, HBY.out⟩)
            have c2 : wr.cell? ⟨w.heap.size, 2, none⟩ = some (.slice h.A2 b.surfs.length h.c2) := (blk_cell HM0.out.o.b1 2).trans rfl
            have zz := blk_lt HM0.out.o.b1
            obtain ⟨hs1, hs2⟩ := (spin_f n b.surfs.length (by omega) (by omega)).2
            obtain ⟨k, hk⟩ := Int.eq_ofNat_of_zero_le hs1
            have hkl : k < b.surfs.length := by omega
            have HSP := Lib.hid hk
            have hsf : isSurfB b k = true := by
              unfold isSurfB
              rw [inB_iff, show wrap64 ((b.surfs.length : Int) - 1) = (b.surfs.length : Int) - 1 by unfold wrap64; omega]
              omega
            have hfacts := more_facts HGD.out HCK.out HSA.out HT5.out t hkl
            have htwo := ask_two HCK.out
            obtain ⟨e, he⟩ : ∃ e, askE b true = e := ⟨_, rfl⟩
            obtain ⟨f, hf⟩ : ∃ f, askE (withT b t) true = f := ⟨_, rfl⟩
            obtain ⟨s1, s2, hs⟩ : ∃ s1 s2, kR b = (s1, s2) := ⟨_, _, rfl⟩
            obtain ⟨t1, t2, ht⟩ : ∃ t1 t2, kR (withT b t) = (t1, t2) := ⟨_, _, rfl⟩
            obtain ⟨aa, ha⟩ : ∃ aa, lR b k = aa := ⟨_, rfl⟩
            obtain ⟨cc, hc⟩ : ∃ cc, lR (withT b t) k = cc := ⟨_, rfl⟩
            have hey : askE (revB b) true = e := by rw [← he]; unfold askE; rw [check_rev, can_rev HGD.out.sp]
            have hsy : kR (revB b) = (s1, s2) := by rw [← hs]; unfold kR; rw [hey, he, known_rev HGD.out.sp]
            have hla : eL b k = e := by unfold eL; rw [hsf, he]
            have hlx : eL (withT b t) k = f := by unfold eL; rw [show isSurfB (withT b t) k = true from hsf, hf]
            have hly : eL (revB b) k = e := by unfold eL; rw [show isSurfB (revB b) k = true from hsf, hey]
            have hay : lR (revB b) k = aa := by rw [← ha]; unfold lR; rw [hly, hla, lights_eq (sp_rev HGD.out.sp), lights_eq HGD.out.sp, lights_rev]
            rw [he, hf, hs, ht, ha, hc] at hfacts
            rw [he] at htwo
            have HFF := Lib.hid hfacts
            have HTW := Lib.hid htwo
            have HE := Lib.hid he
            have HF := Lib.hid hf
            have HSS := Lib.hid hs
            have HTT := Lib.hid ht
            have HAA := Lib.hid ha
            have HCC := Lib.hid hc
            have HEY := Lib.hid hey
            have HSY := Lib.hid hsy
            have HLA := Lib.hid hla
            have HLX := Lib.hid hlx
            have HLY := Lib.hid hly
            have HAY := Lib.hid hay
            clear hcy h89 hr9 q1 q2 q3 hbl hs1 hs2 hk hkl hsf he hf hs ht ha hc hey hsy hla hlx hly hay HX hn9 hlt hm HBX HBY hfacts htwo
            go_upto_region 11 with (first | (go_at_call 26; refine (spin_calls n b.surfs.length (by omega) (by omega) _).mono ?_; rintro e2 v1 ⟨rfl, hv1⟩; rw [HSP.out]; have HM1 := Lib.hid (HM0.out.on hv1); clear hv1) | ((with_reducible refine gate_dst (N := 62) rfl ?_); refine wpList_load_row rfl 27 _ rfl w.heap.size rfl 27 (h.cells b) (0, 0) _ HM1.out.o.b1 Tryd.underlying27 rfl i27 ?_) | (go_at_call 17; refine (Power_calls HM1.out.bi HSA.out).mono ?_; rintro e2 v2 ⟨rfl, hv2⟩; rw [HSS.out, HE.out]; simp only [s39]; have HM2 := Lib.hid (HM1.out.on hv2); clear hv2))
            obtain ⟨g11, hg11⟩ : ∃ g, g = v2.heap.size := ⟨_, rfl⟩
            have p11 : (v2.alloc (.cells #[.int .i64 s1, .int .i64 s2] 39)).heap[g11]? = some (.cells #[.int .i64 s1, .int .i64 s2] 39 (0, 0)) := new_at hg11
            have me11 := HM2.out.cell #[.int .i64 s1, .int .i64 s2] 39
            rw [← hg11]
            generalize v2.alloc (.cells #[.int .i64 s1, .int .i64 s2] 39) = w11 at p11 me11  ⊢
            have HM11 := Lib.hid me11
            have HP11 := Lib.hid p11
            clear me11 p11 hg11 
            go_upto_region 12 with (first | ((with_reducible refine gate_dst (N := 67) rfl ?_); refine wpList_load_row rfl 27 _ rfl g7 rfl 27 ((h.tr A c).cells (withT b t)) (0, 0) _ HM11.out.h7 Tryd.underlying27 rfl i27 ?_) | (go_at_call 17; refine (Power_calls HM11.out.bx HSA.out).mono ?_; rintro e2 v3 ⟨rfl, hv3⟩; rw [HTT.out, HF.out]; simp only [s39]; have HM3 := Lib.hid (HM11.out.on hv3); have HP113 := Lib.hid (blk_below HP11.out hv3); clear hv3))
            obtain ⟨g13, hg13⟩ : ∃ g, g = v3.heap.size := ⟨_, rfl⟩
            have p13 : (v3.alloc (.cells #[.int .i64 t1, .int .i64 t2] 39)).heap[g13]? = some (.cells #[.int .i64 t1, .int .i64 t2] 39 (0, 0)) := new_at hg13
            have me13 := HM3.out.cell #[.int .i64 t1, .int .i64 t2] 39
            have p1113 := blk_below HP113.out (below_alloc (Below.refl _ _) (.cells #[.int .i64 t1, .int .i64 t2] 39))
            rw [← hg13]
            generalize v3.alloc (.cells #[.int .i64 t1, .int .i64 t2] 39) = w13 at p13 me13 p1113 ⊢
            have HM13 := Lib.hid me13
            have HP13 := Lib.hid p13
            have HP1113 := Lib.hid p1113
            clear me13 p13 hg13 p1113
            go_upto_region 13 with (first | ((with_reducible refine gate_dst (N := 72) rfl ?_); refine wpList_load_row rfl 27 _ rfl g8 rfl 27 ((h.tr A9 c9).cells (revB b)) (0, 0) _ HM13.out.h8 Tryd.underlying27 rfl i27 ?_) | (go_at_call 17; refine (Power_calls HM13.out.br HSA.out).mono ?_; rintro e2 v4 ⟨rfl, hv4⟩; rw [HSY.out, HEY.out]; simp only [s39]; have HM4 := Lib.hid (HM13.out.on hv4); have HP114 := Lib.hid (blk_below HP1113.out hv4); have HP134 := Lib.hid (blk_below HP13.out hv4); clear hv4))
            obtain ⟨g15, hg15⟩ : ∃ g, g = v4.heap.size := ⟨_, rfl⟩
            have p15 : (v4.alloc (.cells #[.int .i64 s1, .int .i64 s2] 39)).heap[g15]? = some (.cells #[.int .i64 s1, .int .i64 s2] 39 (0, 0)) := new_at hg15
            have me15 := HM4.out.cell #[.int .i64 s1, .int .i64 s2] 39
            have p1115 := blk_below HP114.out (below_alloc (Below.refl _ _) (.cells #[.int .i64 s1, .int .i64 s2] 39))
            have p1315 := blk_below HP134.out (below_alloc (Below.refl _ _) (.cells #[.int .i64 s1, .int .i64 s2] 39))
            rw [← hg15]
            generalize v4.alloc (.cells #[.int .i64 s1, .int .i64 s2] 39) = w15 at p15 me15 p1115 p1315 ⊢
            have HM15 := Lib.hid me15
            have HP15 := Lib.hid p15
            have HP1115 := Lib.hid p1115
            have HP1315 := Lib.hid p1315
            clear me15 p15 hg15 p1115 p1315
            go_upto_region 14 with (first | ((with_reducible refine gate_dst (N := 77) rfl ?_); refine wpList_load_row rfl 27 _ rfl w.heap.size rfl 27 (h.cells b) (0, 0) _ HM15.out.o.b1 Tryd.underlying27 rfl i27 ?_) | (go_at_call 20; refine (Lights_calls (HG.out.below HM15.out.o.below) HM15.out.bi HSA.out k).mono ?_; rintro e2 v5 ⟨rfl, hv5⟩; rw [HAA.out, HLA.out]; have HM5 := Lib.hid (HM15.out.on hv5); have HP115 := Lib.hid (blk_below HP1115.out hv5); have HP135 := Lib.hid (blk_below HP1315.out hv5); have HP155 := Lib.hid (blk_below HP15.out hv5); clear hv5))
            go_upto_region 15 with (first | ((with_reducible refine gate_dst (N := 83) rfl ?_); refine wpList_load_row rfl 27 _ rfl g7 rfl 27 ((h.tr A c).cells (withT b t)) (0, 0) _ HM5.out.h7 Tryd.underlying27 rfl i27 ?_) | (go_at_call 20; refine (Lights_calls (HG.out.below HM5.out.o.below) HM5.out.bx HSA.out k).mono ?_; rintro e2 v6 ⟨rfl, hv6⟩; rw [HCC.out, HLX.out]; have HM6 := Lib.hid (HM5.out.on hv6); have HP116 := Lib.hid (blk_below HP115.out hv6); have HP136 := Lib.hid (blk_below HP135.out hv6); have HP156 := Lib.hid (blk_below HP155.out hv6); clear hv6))
            go_upto_region 16 with (first | ((with_reducible refine gate_dst (N := 89) rfl ?_); refine wpList_load_row rfl 27 _ rfl g8 rfl 27 ((h.tr A9 c9).cells (revB b)) (0, 0) _ HM6.out.h8 Tryd.underlying27 rfl i27 ?_) | (go_at_call 20; refine (Lights_calls (HG.out.below HM6.out.o.below) HM6.out.br HSA.out k).mono ?_; rintro e2 v7 ⟨rfl, hv7⟩; rw [HAY.out, HLY.out]; have HM7 := Lib.hid (HM6.out.on hv7); have HP117 := Lib.hid (blk_below HP116.out hv7); have HP137 := Lib.hid (blk_below HP136.out hv7); have HP157 := Lib.hid (blk_below HP156.out hv7); clear hv7))
            have hp11 := HP117.out
            have hp13 := HP137.out
            have hp15 := HP157.out
            have c2' : v7.cell? ⟨w.heap.size, 2, none⟩ = some (.slice h.A2 b.surfs.length h.c2) := (blk_cell HM7.out.o.b1 2).trans rfl
            have c0' : v7.cell? ⟨w.heap.size + 1, 0, none⟩ = some (.int .i64 t.f0) := (blk_cell HM7.out.o.b2 0).trans rfl
            have d110 : v7.cell? ⟨g11, 0, none⟩ = some (.int .i64 s1) := (blk_cell hp11 0).trans rfl
            have d111 : v7.cell? ⟨g11, 1, none⟩ = some (.int .i64 s2) := (blk_cell hp11 1).trans rfl
            have z11 := blk_lt hp11
            have d130 : v7.cell? ⟨g13, 0, none⟩ = some (.int .i64 t1) := (blk_cell hp13 0).trans rfl
            have d131 : v7.cell? ⟨g13, 1, none⟩ = some (.int .i64 t2) := (blk_cell hp13 1).trans rfl
            have z13 := blk_lt hp13
            have d150 : v7.cell? ⟨g15, 0, none⟩ = some (.int .i64 s1) := (blk_cell hp15 0).trans rfl
            have d151 : v7.cell? ⟨g15, 1, none⟩ = some (.int .i64 s2) := (blk_cell hp15 1).trans rfl
            have z15 := blk_lt hp15
            clear hp11 hp13 hp15
            have hef := HFF.out
            have htw := HTW.out
            clear HFF HTW HE HF HSS HTT HAA HCC HEY HSY HLA HLX HLY HAY
            rcases hef with ⟨rfl, hi⟩ | rfl | ⟨rfl, rfl, q1, q2, q3⟩
            · have HI := Lib.hid hi
              clear hi
              rcases htw with rfl | rfl
              · go_wp2_with (first | (go_at_call 24; refine (fits_calls _ _ _ _).mono ?_; rintro e2 w8 ⟨rfl, hb8⟩; rw [HI.out]; have HM8 := Lib.hid (HM7.out.on hb8); clear hb8) | (go_at_call 12; refine (rubbed_calls (HG.out.below HM8.out.o.below)).mono ?_; rintro e2 w9 ⟨rfl, hb9⟩; have HB9 := Lib.hid (below_step HM8.out.o.below hb9); clear hb9))
                go_ret
                exact ⟨rfl, HB9.out⟩
              · go_wp2_with (first | (go_at_call 24; refine (fits_calls _ _ _ _).mono ?_; rintro e2 w8 ⟨rfl, hb8⟩; rw [HI.out]; have HM8 := Lib.hid (HM7.out.on hb8); clear hb8) | (go_at_call 12; refine (rubbed_calls (HG.out.below HM8.out.o.below)).mono ?_; rintro e2 w9 ⟨rfl, hb9⟩; have HB9 := Lib.hid (below_step HM8.out.o.below hb9); clear hb9))
                go_ret
                exact ⟨rfl, HB9.out⟩
            · rcases htw with rfl | rfl
              · go_wp2_with (first | (go_at_call 12; refine (rubbed_calls (HG.out.below HM7.out.o.below)).mono ?_; rintro e2 w9 ⟨rfl, hb9⟩; have HB9 := Lib.hid (below_step HM7.out.o.below hb9); clear hb9))
                go_ret
                exact ⟨rfl, HB9.out⟩
              · go_wp2_with (first | (go_at_call 12; refine (rubbed_calls (HG.out.below HM7.out.o.below)).mono ?_; rintro e2 w9 ⟨rfl, hb9⟩; have HB9 := Lib.hid (below_step HM7.out.o.below hb9); clear hb9))
                go_ret
                exact ⟨rfl, HB9.out⟩
            · have HQ := Lib.hid (show (decide (s1 ≤ t1) && decide (t2 ≤ s2)) = true by simp [q1, q2])
              clear q1 q2 htw
              by_cases haa : aa = 1
              · subst haa
                clear q3
                go_wp2_with (first | (go_at_call 33; refine (wraps_calls _ _ _ _ _).mono ?_; rintro e2 w8 ⟨rfl, hb8⟩; rw [HQ.out]; have HM8 := Lib.hid (HM7.out.on hb8); clear hb8) | (go_at_call 12; refine (rubbed_calls (HG.out.below HM8.out.o.below)).mono ?_; rintro e2 w9 ⟨rfl, hb9⟩; have HB9 := Lib.hid (below_step HM8.out.o.below hb9); clear hb9))
                go_ret
                exact ⟨rfl, HB9.out⟩
              · obtain rfl : cc = aa := q3.resolve_left haa
                have hn1 : (cc == 1) = false := beq_eq_false_iff_ne.2 haa
                clear q3 haa
                go_wp2_with (first | (go_at_call 33; refine (wraps_calls _ _ _ _ _).mono ?_; rintro e2 w8 ⟨rfl, hb8⟩; rw [HQ.out]; have HM8 := Lib.hid (HM7.out.on hb8); clear hb8) | (go_at_call 12; refine (rubbed_calls (HG.out.below HM8.out.o.below)).mono ?_; rintro e2 w9 ⟨rfl, hb9⟩; have HB9 := Lib.hid (below_step HM8.out.o.below hb9); clear hb9))
                go_ret
                exact ⟨rfl, HB9.out⟩
end Go.Proofs.YtghpoldlddghjaaDoor
namespace Go.Proofs.YtghpoldlddghjaaDoor
open Go Go.RowKit
open Go.Proofs.YtghpoldlddghjaaDoorW.PrintWords Go.Proofs.YtghpoldlddghjaaDoorW.PrintMore Go.Proofs.YtghpoldlddghjaaDoor.PPasteTrue
section
variable {H : Type} {enc : TypeId × Value → H} {W : World} {base : Nat} {sp : Nat → Bool} {held : Bool}
set_option maxRecDepth 100000 in
open Go.ChangeShapes Go.WideShapes in
theorem openTrial {b0 : Nat} {r : Reach} {v : Value} {d : DataW H} {ps : List MemPlace} (hv : Value.okWide Tryd.prog W r b0 59 v) (h : DataW.Trod enc Tryd.prog W base sp held 59 v d ps) :
    ∃ t : S59, v = .agg #[.int .i64 t.f0, .bool t.f1] := by
  obtain ⟨cs, rfl, hsz⟩ := okWide_struct Tryd.underlying59 hv
  obtain ⟨fuel, hf⟩ := h
  obtain ⟨s, hs⟩ := open59 hf
  have h1 : cs.toList = [.int .i64 s.f0, .bool s.f1] := k59_open hs
  have h2 : cs = #[.int .i64 s.f0, .bool s.f1] := by rw [← h1]
  exact ⟨s, by rw [h2]⟩
end
end Go.Proofs.YtghpoldlddghjaaDoor
namespace Go.Proofs.YtghpoldlddghjaaDoor.pasteMore
open Go Go.ChangeShapes Go.WideShapes Go.ChangeAt Go.RowKit
open Go.Proofs.YtghpoldlddghjaaDoorW.PrintWords Go.Proofs.YtghpoldlddghjaaDoorW.PrintMore Go.Proofs.YtghpoldlddghjaaDoor.PPasteTrue
set_option maxRecDepth 100000 in
theorem contract (H : Type) (enc : TypeId × Value → H) (W : World) (base : Nat) (args : Array Value) (ds gs : List (DataW H)) (before : List MemPlace)
    (hval : ∀ (j : Nat) t v, Tryd.f6.params[j]? = some t → args[j]? = some v → Value.okWide Tryd.prog W .any base t v)
    (hW : DataW.Whole enc Tryd.prog Tryd.f6.params.toList Rows.pasteMoreSpec.vars false W args.toList ds gs before) (hL : laidMetH Tryd.prog Rows.pasteMoreRow.laid W) :
    Calls Tryd.prog 6 args W fun e W' => ∃ v, e = .returned v ∧ Rows.pasteMoreSpec.post enc Tryd.prog Tryd.f6 false true false false W args v W' := by
  have hW' := hW
  obtain ⟨p, q, hA0, hV, rfl, hfz, hnd⟩ := hW
  have hA : DataW.TrodAll enc Tryd.prog W 0 (fun _ => true) true Tryd.f6.params.toList args.toList ds p := hA0
  rw [Tryd.params6] at hA hval
  obtain ⟨v0, vs0, d0, ds0, p0, q0, hargs, rfl, rfl, h0, r0⟩ := trodAll_cons hA
  obtain ⟨v1, vs1, d1, ds1, p1, q1, rfl, rfl, rfl, h1, r1⟩ := trodAll_cons r0
  obtain ⟨v2, vs2, d2, ds2, p2, q2, rfl, rfl, rfl, h2, r2⟩ := trodAll_cons r1
  obtain ⟨rfl, rfl, rfl⟩ := trodAll_nil r2
  obtain rfl : args = #[v0, v1, v2] := by cases args; simp_all
  obtain ⟨rfl, rfl⟩ := trodVars_none hV
  have k0 := h0
  have lt0 : ∀ x ∈ p0, x.block < W.heap.size := by obtain ⟨m, hm⟩ := k0; exact DataW.trod_lt m _ _ _ hm
  obtain ⟨hh, b, rfl, hb⟩ := open27 (hval 0 27 v0 rfl rfl) h0
  have k1 := h1
  have lt1 : ∀ x ∈ p1, x.block < W.heap.size := by obtain ⟨m, hm⟩ := k1; exact DataW.trod_lt m _ _ _ hm
  obtain ⟨t1, rfl⟩ := openTrial (hval 1 59 v1 rfl rfl) h1
  have k2 := h2
  obtain ⟨a2, rfl, rfl, rfl, w2⟩ := open_int Tryd.underlying3 (hval 2 3 v2 rfl rfl) h2
  clear hA0 hval
  refine (pasteMore_calls (asks_of_laid hL) hb t1 a2).mono fun e W' ⟨he, bel⟩ => ?_
  subst he
  exact ⟨_, rfl, _, _, _, [], _, [], hW', trodAll_mk1 (shut_bool Tryd.underlying4 _), (trodAll_cons_mk (Below.trod laidOut (by kernel_rfl) (of_decide_eq_true (by kernel_rfl)) k0 bel lt0) (trodAll_cons_mk (Below.trod laidOut (by kernel_rfl) (of_decide_eq_true (by kernel_rfl)) k1 bel lt1) (trodAll_cons_mk (shut_int Tryd.underlying3 w2) trodAll_mk0))), rfl, bel.frame _, fun h => by cases h⟩
theorem reads (os : Os) {H : Type} (enc : TypeId × Value → H) : ∃ places, DataW.whole enc Tryd.prog ((World.doorLaid Tryd.prog 600 os).forCall (fun _ _ => 0) ⟨#[], #[.agg #[.slice none 0 0, .slice none 0 0, .slice none 0 0, .int .i64 0, .slice none 0 0], .agg #[.int .i64 0, .bool false], .int .i64 0], []⟩).memory Tryd.f6.params.toList Rows.pasteMoreSpec.vars false (#[.agg #[.slice none 0 0, .slice none 0 0, .slice none 0 0, .int .i64 0, .slice none 0 0], .agg #[.int .i64 0, .bool false], .int .i64 0] : Array Value).toList 8 = some ([.agg [.nil, .nil, .nil, .lit (.int .i64 0), .nil], .agg [.lit (.int .i64 0), .lit (.bool false)], .lit (.int .i64 0)], [], places) :=
  ⟨[], by kernel_rfl⟩
set_option maxRecDepth 100000 in
theorem lifted (os : Os) (started : os.Started) (H : Type) (enc : TypeId × Value → H) (F : Stop.Interp) :
    ReturnsInHanded {} Tryd.checked os 6 .any ((OpenSpec.ofChange Rows.pasteMoreSpec).preRow enc Tryd.prog Tryd.f6 Rows.pasteMoreRow.domain false Rows.pasteMoreRow.laid) (((OpenSpec.ofChange Rows.pasteMoreSpec).at F).post enc Tryd.prog Tryd.f6 false true false false) := by
  obtain ⟨places, hx⟩ := reads os enc
  refine returnsInHanded_of_row (C := Tryd.checked) (s := OpenSpec.ofChange Rows.pasteMoreSpec) own started (by kernel_rfl) Tryd.func6
    (witness_row_atRef (enc := enc) (C := Tryd.checked) false (World.doorLaid Tryd.prog 600 os) #[.agg #[.slice none 0 0, .slice none 0 0, .slice none 0 0, .int .i64 0, .slice none 0 0], .agg #[.int .i64 0, .bool false], .int .i64 0] rfl (by kernel_rfl) (by kernel_rfl) (by kernel_rfl)
      (OpenSpec.preRow_of_cond 8 hx (by kernel_rfl) (fun k hk => by cases hk) (by kernel_rfl) (door_met os _))) ?_
  intro W base args ds gs before hval hW _ _ _ hL _ _
  exact contract H enc W base args ds gs before hval hW hL
theorem said : Rows.PasteMoreSaid :=
  OpenClaim.holds_of_cond 6 Tryd.f6 rfl rfl rfl rfl rfl rfl rfl ⟨rfl, rfl, rfl, rfl, rfl⟩ rfl rfl rfl rfl rfl (by kernel_rfl) Tryd.func6 (by kernel_rfl)
    (of_decide_eq_true (by kernel_rfl)) (by unfold Func.isWrapper; first | (rw [if_pos (by decide +kernel)]; kernel_rfl) | (rw [if_neg (by decide +kernel)]; exact ⟨rfl, rfl⟩))
    (fun os started H enc _ F => by rw [OpenClaim.pre_eq_preRow]; exact lifted os started H enc F)
theorem plain (f : FuncId) (fn : Func) (hf : Tryd.pinned.checked.prog.funcNamed "lucifer/luciferlaw02.PasteMore" = some f) (hfn : Tryd.pinned.checked.prog.funcs[f]? = some fn) :
    false = Tryd.pinned.checked.prog.looks [] ∧ ∀ (j : Nat) t, fn.params[j]? = some t → Tryd.pinned.checked.prog.wantsStandIn t = false := by
  obtain rfl : f = 6 := Option.some.inj ((show Tryd.prog.funcNamed "lucifer/luciferlaw02.PasteMore" = some 6 by kernel_rfl).symm.trans hf) |>.symm
  obtain rfl : fn = Tryd.f6 := (Option.some.inj (Tryd.func6.symm.trans hfn)).symm
  refine ⟨by kernel_rfl, fun j t ht => ?_⟩
  rw [Tryd.params6] at ht
  have w0 : Tryd.prog.wantsStandIn 27 = false := by kernel_rfl
  have w1 : Tryd.prog.wantsStandIn 59 = false := by kernel_rfl
  have w2 : Tryd.prog.wantsStandIn 3 = false := by kernel_rfl
  have hm : t = 27 ∨ t = 59 ∨ t = 3 := by simpa using Array.mem_of_getElem? ht
  rcases hm with rfl | rfl | rfl
  · exact w0
  · exact w1
  · exact w2
theorem card : Rows.PasteMoreCardSaid :=
  Claim7.holds_tied_plain_at .later [] _ _ _ _ said (fun _ h => by cases h) (by kernel_rfl) (fun _ h => by cases h) pasteMore_row_tie rfl ⟨rfl, rfl⟩ (by kernel_rfl) rfl plain (by kernel_rfl)
end Go.Proofs.YtghpoldlddghjaaDoor.pasteMore
namespace Go.Proofs.YtghpoldlddghjaaDoor
theorem pasteMore_card : Rows.PasteMoreCardSaid := pasteMore.card
end Go.Proofs.YtghpoldlddghjaaDoor
