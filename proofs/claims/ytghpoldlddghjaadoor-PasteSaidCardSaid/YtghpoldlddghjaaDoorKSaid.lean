/- The law PasteSaid: its walk, its row and its card. Conditions: none. -/
import Derived.Test.YtghpoldlddghjaaDoorM4
import Derived.Test.YtghpoldlddghjaaDoorCards
import Derived.Test.YtghpoldlddghjaaDoorTie
import Derived.WalkKit
import Derived.ProofKit
import Derived.OpenShut
import Derived.Deep.DeepHandedRow
import Derived.Deep.DeepWitnessRowRef
set_option linter.unusedVariables false
set_option linter.unusedSimpArgs false
namespace Go.Proofs.YtghpoldlddghjaaDoor
open Go Go.RowKit
open Go.Proofs.YtghpoldlddghjaaDoorW.PrintWords Go.Proofs.YtghpoldlddghjaaDoorW.PrintMore Go.Proofs.YtghpoldlddghjaaDoor.PPasteTrue
theorem mx_le {a b c : Int} : mx a b ≤ c ↔ a ≤ c ∧ b ≤ c := by unfold mx; split <;> omega
theorem le_mn {a b c : Int} : c ≤ mn a b ↔ c ≤ a ∧ c ≤ b := by unfold mn; split <;> omega
theorem rubs_with (b : Bk) (t : S59) (j : Nat) (p : Int) : rubs (withT b t) j p = rubStep b.need p j (rd_T47 b.surfs j) (rubs b j p) t := by
  unfold rubs rubF
  show (b.trials ++ [t]).foldl _ _ = _
  rw [List.foldl_append]
  rfl
theorem right_iff (b : Bk) (p : Int) : rightB b p = true ↔ ∀ j, j < b.surfs.length → (rubs b j p).1 ≤ (rubs b j p).2 := by
  unfold rightB
  rw [List.all_eq_true]
  simp
theorem right_lit {b : Bk} {k : Nat} (hk : k < b.surfs.length) (p : Int) : rightB (withT b ⟨k, true⟩) p = true ↔ rightB b p = true ∧ b.need ≤ highI b k p := by
  rw [right_iff, right_iff]
  show (∀ j, j < b.surfs.length → _) ↔ _
  unfold highI
  constructor
  · intro h
    refine ⟨fun j hj => ?_, ?_⟩
    · have h1 := h j hj
      rw [rubs_with] at h1
      unfold rubStep at h1
      by_cases e : (k : Int) = (j : Int)
      · rw [if_pos e, if_pos rfl] at h1
        exact (mx_le.1 h1).1
      · rw [if_neg e] at h1
        exact h1
    · have h1 := h k hk
      rw [rubs_with] at h1
      unfold rubStep at h1
      rw [if_pos rfl, if_pos rfl] at h1
      have := (mx_le.1 h1).2
      omega
  · rintro ⟨h1, h2⟩ j hj
    rw [rubs_with]
    unfold rubStep
    by_cases e : (k : Int) = (j : Int)
    · obtain rfl : k = j := by omega
      rw [if_pos rfl, if_pos rfl]
      exact mx_le.2 ⟨h1 k hk, by omega⟩
    · rw [if_neg e]
      exact h1 j hj
theorem right_not {b : Bk} {k : Nat} (hk : k < b.surfs.length) (p : Int) : rightB (withT b ⟨k, false⟩) p = true ↔ rightB b p = true ∧ ¬ b.need ≤ lowI b k p := by
  rw [right_iff, right_iff]
  show (∀ j, j < b.surfs.length → _) ↔ _
  unfold lowI
  constructor
  · intro h
    refine ⟨fun j hj => ?_, ?_⟩
    · have h1 := h j hj
      rw [rubs_with] at h1
      unfold rubStep at h1
      by_cases e : (k : Int) = (j : Int)
      · rw [if_pos e, if_neg Bool.false_ne_true] at h1
        exact (le_mn.1 h1).1
      · rw [if_neg e] at h1
        exact h1
    · have h1 := h k hk
      rw [rubs_with] at h1
      unfold rubStep at h1
      rw [if_pos rfl, if_neg Bool.false_ne_true] at h1
      have := (le_mn.1 h1).2
      omega
  · rintro ⟨h1, h2⟩ j hj
    rw [rubs_with]
    unfold rubStep
    by_cases e : (k : Int) = (j : Int)
    · obtain rfl : k = j := by omega
      rw [if_pos rfl, if_neg Bool.false_ne_true]
      exact le_mn.2 ⟨h1 k hk, by omega⟩
    · rw [if_neg e]
      exact h1 j hj
theorem trs_lit {b : Bk} {k : Nat} (hk : k < b.surfs.length) (p : Int) : p ∈ trs (withT b ⟨k, true⟩) ↔ p ∈ trs b ∧ b.need ≤ highI b k p := by
  rw [mem_trs, mem_trs, right_lit hk, show pws (withT b ⟨k, true⟩) = pws b from rfl, and_assoc]
theorem trs_not {b : Bk} {k : Nat} (hk : k < b.surfs.length) (p : Int) : p ∈ trs (withT b ⟨k, false⟩) ↔ p ∈ trs b ∧ ¬ b.need ≤ lowI b k p := by
  rw [mem_trs, mem_trs, right_not hk, show pws (withT b ⟨k, false⟩) = pws b from rfl, and_assoc]
theorem low_high {b : Bk} (hg : Good b) {k : Nat} (hk : k < b.surfs.length) {p : Int} (hp : p ∈ trs b) : lowI b k p ≤ highI b k p := by
  have h1 := (right_iff b p).1 (mem_trs.1 hp).2 k hk
  have h2 := hg.sr _ (rd47_mem (xs := b.surfs) (i := (k : Int)) (by omega) (by omega))
  unfold lowI highI
  omega
theorem sp_withT {b : Bk} (h : SP b) (t : S59) : SP (withT b t) := ⟨h.s1, h.p1, h.s, h.p, h.d⟩
theorem may_lit {b : Bk} (hs : SP b) {k : Nat} (hk : k < b.surfs.length) : canB (withT b ⟨k, true⟩) = mayL b k := by
  rw [Bool.eq_iff_iff, can_iff (sp_withT hs _)]
  unfold mayL
  rw [List.any_eq_true]
  constructor
  · rintro ⟨p, hp⟩
    exact ⟨p, ((trs_lit hk p).1 hp).1, by simpa using ((trs_lit hk p).1 hp).2⟩
  · rintro ⟨p, hp, h1⟩
    exact ⟨p, (trs_lit hk p).2 ⟨hp, by simpa using h1⟩⟩
theorem sure_not {b : Bk} (hs : SP b) {k : Nat} (hk : k < b.surfs.length) : canB (withT b ⟨k, false⟩) = !sureL b k := by
  rw [Bool.eq_iff_iff, can_iff (sp_withT hs _)]
  unfold sureL
  rw [Bool.not_eq_true', List.all_eq_false]
  constructor
  · rintro ⟨p, hp⟩
    exact ⟨p, ((trs_not hk p).1 hp).1, by simpa using ((trs_not hk p).1 hp).2⟩
  · rintro ⟨p, hp, h1⟩
    exact ⟨p, (trs_not hk p).2 ⟨hp, by simpa using h1⟩⟩
theorem sure_may {b : Bk} (hg : Good b) (hc : canB b = true) {k : Nat} (hk : k < b.surfs.length) (h : sureL b k = true) : mayL b k = true := by
  obtain ⟨p, hp⟩ := (can_iff hg.sp).1 hc
  unfold sureL at h
  rw [List.all_eq_true] at h
  unfold mayL
  rw [List.any_eq_true]
  have h1 : b.need ≤ lowI b k p := by simpa using h p hp
  have := low_high hg hk hp
  exact ⟨p, hp, by simpa using (show b.need ≤ highI b k p by omega)⟩
theorem known_same {b c : Bk} (hb : SP b) (hc : SP c) (h : ∀ p, p ∈ trs b ↔ p ∈ trs c) : knownR (pB b) = knownR (pB c) := by
  have hcan : canB b = canB c := by
    rw [Bool.eq_iff_iff, can_iff hb, can_iff hc]
    simp [h]
  cases e : canB b with
  | false => rw [known_none (show anyB (pB b) = false from e), known_none (show anyB (pB c) = false by rw [hcan] at e; exact e)]
  | true =>
    obtain ⟨l1, h1, k1, m1, m2, m3⟩ := known_some hb e
    obtain ⟨l2, h2, k2, n1, n2, n3⟩ := known_some hc (by rw [hcan] at e; exact e)
    rw [k1, k2]
    have a1 := n3 l1 ((h _).1 m1)
    have a2 := n3 h1 ((h _).1 m2)
    have a3 := m3 l2 ((h _).2 n1)
    have a4 := m3 h2 ((h _).2 n2)
    simp only [Prod.mk.injEq]
    omega
theorem known_union {b c d : Bk} (hb : SP b) (hc : SP c) (hd : SP d) (h : ∀ p, p ∈ trs b ↔ p ∈ trs c ∨ p ∈ trs d) (ec : canB c = true) (ed : canB d = true) :
    knownR (pB b) = (mn (knownR (pB c)).1 (knownR (pB d)).1, mx (knownR (pB c)).2 (knownR (pB d)).2) := by
  obtain ⟨l1, h1, k1, m1, m2, m3⟩ := known_some hc ec
  obtain ⟨l2, h2, k2, n1, n2, n3⟩ := known_some hd ed
  have eb : canB b = true := (can_iff hb).2 ⟨l1, (h _).2 (.inl m1)⟩
  obtain ⟨l0, h0, k0, o1, o2, o3⟩ := known_some hb eb
  rw [k0, k1, k2]
  have a1 := o3 l1 ((h _).2 (.inl m1))
  have a2 := o3 h1 ((h _).2 (.inl m2))
  have a3 := o3 l2 ((h _).2 (.inr n1))
  have a4 := o3 h2 ((h _).2 (.inr n2))
  have b1 : l1 ≤ l0 ∨ l2 ≤ l0 := by
    rcases (h _).1 o1 with q | q
    · exact .inl (m3 _ q).1
    · exact .inr (n3 _ q).1
  have b2 : h0 ≤ h1 ∨ h0 ≤ h2 := by
    rcases (h _).1 o2 with q | q
    · exact .inl (m3 _ q).2
    · exact .inr (n3 _ q).2
  unfold mn mx
  simp only [Prod.mk.injEq]
  split <;> split <;> omega
end Go.Proofs.YtghpoldlddghjaaDoor
namespace Go.Proofs.YtghpoldlddghjaaDoor
open Go Go.RowKit
open Go.Proofs.YtghpoldlddghjaaDoorW.PrintWords Go.Proofs.YtghpoldlddghjaaDoorW.PrintMore Go.Proofs.YtghpoldlddghjaaDoor.PPasteTrue
def Has (wq : World) (l : List (Nat × Int × Int)) : Prop := ∀ x ∈ l, wq.heap[x.1]? = some (.cells #[.int .i64 x.2.1, .int .i64 x.2.2] 39 (0, 0))
theorem Has.below {wq w1 : World} {l : List (Nat × Int × Int)} (s : Has wq l) (hb : Below wq.heap.size wq w1) : Has w1 l := fun x hx => blk_below (s x hx) hb
theorem Has.cons {wq : World} {l : List (Nat × Int × Int)} (s : Has wq l) {g : Nat} {x y : Int} (h : wq.heap[g]? = some (.cells #[.int .i64 x, .int .i64 y] 39 (0, 0))) : Has wq ((g, x, y) :: l) := by
  intro z hz
  rcases List.mem_cons.1 hz with rfl | hz
  · exact h
  · exact s z hz
structure SaSt (w : World) (h : Hd) (b : Bk) (l : List (Nat × Int × Int)) (hx : Hd) (t : S59) (wq : World) (b3 b4 : Bool) : Prop where
  o : One w (h.cells b) 27 wq
  hs : Has wq l
  bk : b3 = true → b4 = false → BkIn wq hx (withT b t)
theorem SaSt.on {w : World} {h : Hd} {b : Bk} {l : List (Nat × Int × Int)} {hx : Hd} {t : S59} {wq w1 : World} {b3 b4 : Bool} (s : SaSt w h b l hx t wq b3 b4) (hb : Below wq.heap.size wq w1) : SaSt w h b l hx t w1 b3 b4 :=
  ⟨s.o.on hb, s.hs.below hb, fun e e' => (s.bk e e').below hb⟩
theorem SaSt.bring {w : World} {h : Hd} {b : Bk} {l : List (Nat × Int × Int)} {hx h' : Hd} {t : S59} {wq w1 : World} {b3 b4 : Bool} (s : SaSt w h b l hx t wq b3 b4) (hb : Below wq.heap.size wq w1) (hbi : BkIn w1 h' (withT b t)) : SaSt w h b l h' t w1 true b4 :=
  ⟨s.o.on hb, s.hs.below hb, fun _ _ => hbi⟩
theorem SaSt.use {w : World} {h : Hd} {b : Bk} {l : List (Nat × Int × Int)} {hx : Hd} {t : S59} {wq w1 : World} {b3 b4 : Bool} (s : SaSt w h b l hx t wq b3 b4) (hb : Below wq.heap.size wq w1) : SaSt w h b l hx t w1 b3 true :=
  ⟨s.o.on hb, s.hs.below hb, fun _ e => by cases e⟩
structure SaPw (w : World) (h : Hd) (b : Bk) (l : List (Nat × Int × Int)) (hx : Hd) (t : S59) (g : Nat) (r : Int × Int) (wq : World) (b3 b4 b8 b9 : Bool) : Prop where
  s : SaSt w h b l hx t wq b3 b4
  v : b8 = true → w.heap.size < g ∧ (∀ x ∈ l, x.1 < g) ∧ wq.heap[g]? = some (.cells (if b9 then #[.int .i64 r.1, .int .i64 r.2] else #[.int .i64 0, .int .i64 0]) 39 (0, 0))
  i9 : b9 = true → b8 = true ∧ b4 = true
section
variable {w : World} {h : Hd} {b : Bk} {l : List (Nat × Int × Int)} {hx h' : Hd} {t : S59} {g : Nat} {r : Int × Int} {wq w1 : World} {b3 b4 b8 b9 : Bool}
theorem SaPw.on (s : SaPw w h b l hx t g r wq b3 b4 b8 b9) (hb : Below wq.heap.size wq w1) : SaPw w h b l hx t g r w1 b3 b4 b8 b9 :=
  ⟨s.s.on hb, fun e => ⟨(s.v e).1, (s.v e).2.1, blk_below (s.v e).2.2 hb⟩, s.i9⟩
theorem SaPw.bring (s : SaPw w h b l hx t g r wq b3 b4 b8 b9) (hb : Below wq.heap.size wq w1) (hbi : BkIn w1 h' (withT b t)) : SaPw w h b l h' t g r w1 true b4 b8 b9 :=
  ⟨s.s.bring hb hbi, fun e => ⟨(s.v e).1, (s.v e).2.1, blk_below (s.v e).2.2 hb⟩, s.i9⟩
theorem SaPw.use (s : SaPw w h b l hx t g r wq b3 false b8 b9) (hb : Below wq.heap.size wq w1) : b9 = false ∧ SaPw w h b l hx t g r w1 b3 true b8 b9 := by
  have e9 : b9 = false := false_of (fun e => (s.i9 e).2) rfl
  exact ⟨e9, s.s.use hb, fun e => ⟨(s.v e).1, (s.v e).2.1, blk_below (s.v e).2.2 hb⟩, fun e => ⟨(s.i9 e).1, rfl⟩⟩
theorem SaPw.var (s : SaPw w h b l hx t g r wq b3 b4 false b9) : b9 = false ∧ SaPw w h b l hx t wq.heap.size r (wq.alloc (.cells #[.int .i64 0, .int .i64 0] 39)) b3 b4 true b9 := by
  have e9 : b9 = false := false_of (fun e => (s.i9 e).1) rfl
  subst e9
  exact ⟨rfl, s.s.on (below_alloc (Below.refl _ _) _), fun _ => ⟨blk_lt s.s.o.b1, fun x hx => blk_lt (s.s.hs x hx), by simpa using (new_at rfl : (wq.alloc (.cells #[.int .i64 0, .int .i64 0] 39)).heap[wq.heap.size]? = _)⟩, fun e => by cases e⟩
theorem SaPw.set (s : SaPw w h b l hx t g r wq b3 true true false) : SaPw w h b l hx t g r (wq.setRow g #[.int .i64 r.1, .int .i64 r.2]) b3 true true true := by
  obtain ⟨h1, h2, h3⟩ := s.v rfl
  refine ⟨⟨⟨below_row s.s.o.below (by omega) _, (setRow_other wq g _ _ (by omega)).trans s.s.o.b1⟩, fun x hx => (setRow_other wq g _ _ (by have := h2 x hx; omega)).trans (s.s.hs x hx), fun _ e => by cases e⟩, fun _ => ⟨h1, h2, by simpa using setRow_heap wq g _ _ 39 _ h3⟩, fun _ => ⟨rfl, rfl⟩⟩
end
theorem only_calls (x : Int) (w : World) : Calls Tryd.prog 28 #[.int .i64 x] w fun e w' => e = .returned (.agg #[.int .i64 x, .int .i64 x]) ∧ Below w.heap.size w w' := luciferref00_Only.calls x x x w rfl
theorem right_at {h : Hd} {x : Bk} {w : World} (hb : BkIn w h x) (hsa : Sane x) {y : Bool} (h1 : decide (askE x true = 0) = y) (h2 : eRight x = 0) : Calls Tryd.prog 15 #[.agg (h.cells x)] w fun e w' => e = .returned (.tuple #[.bool y, .int .i64 0]) ∧ Below w.heap.size w w' := by
  have h3 := Right_calls hb hsa (w := w)
  rw [h1, h2] at h3
  exact h3
theorem power_at {h : Hd} {x : Bk} {w : World} (hb : BkIn w h x) (hsa : Sane x) {r : Int × Int} {ey : Int} (h1 : kR x = r) (h2 : askE x true = ey) : Calls Tryd.prog 17 #[.agg (h.cells x)] w fun e w' => e = .returned (.tuple #[.agg #[.int .i64 r.1, .int .i64 r.2], .int .i64 ey]) ∧ Below w.heap.size w w' := by
  rw [← h1, ← h2]
  exact Power_calls hb hsa
end Go.Proofs.YtghpoldlddghjaaDoor
namespace Go.Proofs.YtghpoldlddghjaaDoor
open Go Go.RowKit
open Go.Proofs.YtghpoldlddghjaaDoorW.PrintWords Go.Proofs.YtghpoldlddghjaaDoorW.PrintMore Go.Proofs.YtghpoldlddghjaaDoor.PPasteTrue
attribute [local go_sem] max2_int min2_int max_two min_two
theorem x_field39_0 {ρ : Operand → Value} {o : Oper} {w : World} {x : Operand} (ho : o.op = .fieldAddr 39 x 0) {g : Nat} (hx : ρ x = .pointer (some ⟨g, 0, none⟩)) : (execOp ρ o).run Tryd.prog w = .ok (.value (.pointer (some ⟨g, 0, none⟩))) w := by
  unfold execOp
  simp only [ho, hx]
  go_simp
theorem x_field39_1 {ρ : Operand → Value} {o : Oper} {w : World} {x : Operand} (ho : o.op = .fieldAddr 39 x 1) {g : Nat} (hx : ρ x = .pointer (some ⟨g, 0, none⟩)) : (execOp ρ o).run Tryd.prog w = .ok (.value (.pointer (some ⟨g, 1, none⟩))) w := by
  unfold execOp
  simp only [ho, hx]
  go_simp
theorem x_min {ρ : Operand → Value} {o : Oper} {w : World} {x y : Operand} (ho : o.op = .call { callee := .builtin .min, args := #[x, y], argTypes := #[3, 3] }) {i j : Int} (hx : ρ x = .int .i64 i) (hy : ρ y = .int .i64 j) : (execOp ρ o).run Tryd.prog w = .ok (.value (.int .i64 (mn i j))) w := by
  unfold execOp
  simp only [ho]
  go_simp
  rfl
theorem x_max {ρ : Operand → Value} {o : Oper} {w : World} {x y : Operand} (ho : o.op = .call { callee := .builtin .max, args := #[x, y], argTypes := #[3, 3] }) {i j : Int} (hx : ρ x = .int .i64 i) (hy : ρ y = .int .i64 j) : (execOp ρ o).run Tryd.prog w = .ok (.value (.int .i64 (mx i j))) w := by
  unfold execOp
  simp only [ho]
  go_simp
  rfl
set_option maxRecDepth 20000 in
set_option maxHeartbeats 1600000 in
theorem pasteSaid_calls {h : Hd} {b : Bk} {w : World} (hg : Asks w) (hb : BkIn w h b) (n : Int) : Calls Tryd.prog 5 #[.agg (h.cells b), .int .i64 n] w fun e w' => e = .returned (.bool true) ∧ Below w.heap.size w w' := by
  have HG := Lib.hid hg
  clear hg
  have HO := Lib.hid (One.start w (h.cells b) 27)
  cases hsd : soundB b with
  | false =>
    have HS := Lib.hid hsd
    clear hsd
    go_enter Tryd.func5, Tryd.ntmps5
    go_wp2_with (first | (with_reducible refine b_box (t := 27) rfl rfl rfl ?_) | ((with_reducible refine gate_dst (N := 18) rfl ?_); refine wpList_load_row rfl 27 _ rfl w.heap.size rfl 27 (h.cells b) (0, 0) _ HO.out.b1 Tryd.underlying27 rfl i27 ?_) | (go_at_call 11; refine (sound_calls (hb.below HO.out.below)).mono ?_; rintro e w1 ⟨rfl, hb1⟩; rw [HS.out]; have HB1 := Lib.hid (below_step HO.out.below hb1); clear hb1) | (go_at_call 12; refine (rubbed_calls (HG.out.below HB1.out)).mono ?_; rintro e w2 ⟨rfl, hb2⟩; have HB2 := Lib.hid (below_step HB1.out hb2); clear hb2))
    go_ret
    exact ⟨rfl, HB2.out⟩
  | true =>
    have HS := Lib.hid hsd
    obtain ⟨hck, hsa, hgd⟩ := sound_good hsd
    have HSA := Lib.hid hsa
    have ht6 := hgd.t1
    have hu0 := hgd.u0
    have hu1 := hgd.u1
    by_cases h6 : b.trials.length = 6
    · have h6b : ((b.trials.length : Int) == 6) = true := by rw [h6]; rfl
      clear hsd hck hsa hgd h6
      go_enter Tryd.func5, Tryd.ntmps5
      go_wp2_with (first | (with_reducible refine b_box (t := 27) rfl rfl rfl ?_) | ((with_reducible refine gate_dst (N := 18) rfl ?_); refine wpList_load_row rfl 27 _ rfl w.heap.size rfl 27 (h.cells b) (0, 0) _ HO.out.b1 Tryd.underlying27 rfl i27 ?_) | (go_at_call 11; refine (sound_calls (hb.below HO.out.below)).mono ?_; rintro e w1 ⟨rfl, hb1⟩; rw [HS.out]; have HO1 := Lib.hid (HO.out.on hb1); have c4 := HO1.out.c4 (A := h.A4) rfl; have HB1 := Lib.hid (below_step HO.out.below hb1); clear hb1) | (go_at_call 12; refine (rubbed_calls (HG.out.below HB1.out)).mono ?_; rintro e w2 ⟨rfl, hb2⟩; have HB2 := Lib.hid (below_step HB1.out hb2); clear hb2))
      go_ret
      exact ⟨rfl, HB2.out⟩
    · have h6b : ((b.trials.length : Int) == 6) = false := by rw [beq_eq_false_iff_ne]; omega
      have HT5 := Lib.hid (show b.trials.length ≤ 5 by omega)
      obtain ⟨hs1, hs2⟩ := (spin_f n b.surfs.length (by omega) (by omega)).2
      obtain ⟨k, hk⟩ := Int.eq_ofNat_of_zero_le hs1
      have hkl : k < b.surfs.length := by omega
      have hsf : isSurfB b k = true := by
        unfold isSurfB
        rw [inB_iff, show wrap64 ((b.surfs.length : Int) - 1) = (b.surfs.length : Int) - 1 by unfold wrap64; omega]
        omega
      have HSP := Lib.hid hk
      have HCK := Lib.hid hck
      have HGD := Lib.hid hgd
      have HKL := Lib.hid hkl
      have heL : eL b k = askE b true := by unfold eL; rw [hsf]
      clear h6 hsd hs1 hs2 hk hsf hkl
      cases hcan : canB b with
      | false =>
        have hask : askE b true = 22 := by unfold askE; rw [if_pos hck, if_pos rfl, hcan]; rfl
        have HA := Lib.hid hask
        rw [hask] at heL
        have HEL := Lib.hid heL
        have HLR := Lib.hid (show lR b k = 0 by unfold lR; rw [if_neg (by rw [heL]; decide)])
        have HK := Lib.hid (show kR b = (0, 0) by unfold kR; rw [if_neg (by rw [hask]; decide)])
        clear hask hcan hck hsa hgd heL
        go_enter Tryd.func5, Tryd.ntmps5
        go_upto_region 7 with (first | (with_reducible refine b_box (t := 27) rfl rfl rfl ?_) | ((with_reducible refine gate_dst (N := 18) rfl ?_); refine wpList_load_row rfl 27 _ rfl w.heap.size rfl 27 (h.cells b) (0, 0) _ HO.out.b1 Tryd.underlying27 rfl i27 ?_) | (go_at_call 11; refine (sound_calls (hb.below HO.out.below)).mono ?_; rintro e w1 ⟨rfl, hb1⟩; rw [HS.out]; have HO1 := Lib.hid (HO.out.on hb1); have c4 := HO1.out.c4 (A := h.A4) rfl; have c2 := HO1.out.c2 (A := h.A2) rfl; have zz1 := blk_lt HO1.out.b1; clear hb1) | (go_at_call 26; refine (spin_calls n b.surfs.length (by omega) (by omega) _).mono ?_; rintro e w2 ⟨rfl, hb2⟩; rw [HSP.out]; have HO2 := Lib.hid (HO1.out.on hb2); clear hb2) | ((with_reducible refine gate_dst (N := 34) rfl ?_); refine wpList_load_row rfl 27 _ rfl w.heap.size rfl 27 (h.cells b) (0, 0) _ HO2.out.b1 Tryd.underlying27 rfl i27 ?_) | (go_at_call 20; refine (Lights_calls (HG.out.below HO2.out.below) (hb.below HO2.out.below) HSA.out k).mono ?_; rintro e w3 ⟨rfl, hb3⟩; rw [HLR.out, HEL.out]; have HO3 := Lib.hid (HO2.out.on hb3); clear hb3) | ((with_reducible refine gate_dst (N := 40) rfl ?_); refine wpList_load_row rfl 27 _ rfl w.heap.size rfl 27 (h.cells b) (0, 0) _ HO3.out.b1 Tryd.underlying27 rfl i27 ?_) | (go_at_call 17; refine (Power_calls (hb.below HO3.out.below) HSA.out).mono ?_; rintro e w4 ⟨rfl, hb4⟩; rw [HK.out, HA.out]; simp only [s39]; have HO4 := Lib.hid (HO3.out.on hb4); clear hb4))
        have hO5 := HO4.out.on (below_alloc (Below.refl _ _) (.cells #[.int .i64 0, .int .i64 0] 39))
        obtain ⟨g8, hg8⟩ : ∃ g8, g8 = w4.heap.size := ⟨_, rfl⟩
        have h8 : (w4.alloc (.cells #[.int .i64 0, .int .i64 0] 39)).heap[g8]? = some (.cells #[.int .i64 0, .int .i64 0] 39 (0, 0)) := new_at hg8
        rw [← hg8]
        generalize w4.alloc (.cells #[.int .i64 0, .int .i64 0] 39) = W5 at hO5 h8 ⊢
        have HX := Lib.hid (show One w (h.cells b) 27 W5 ∧ Has W5 [(g8, 0, 0)] from ⟨hO5, fun x hx => by obtain rfl := List.mem_singleton.1 hx; exact h8⟩)
        clear hO5 h8 hg8 c4 c2 zz1 HO1 HO2 HO3 HO4
        rename_i K hK
        refine draw_inv2 mixed (by kernel_rfl) (fun bb a wq => a = ⟨#[.agg (h.cells b), .int .i64 n, .pointer (some { block := w.heap.size, off := 0 }), undef, (if bb 19 then .bool true else .bool false), .int .i64 k, .int .i64 0, .int .i64 22, .pointer (some ⟨g8, 0, none⟩), .int .i64 22, undef, undef, undef, undef, undef, undef, undef, undef, .agg (h.cells b), .bool true, .bool false, .bool false, .pointer (some { block := w.heap.size, off := 4 }), .slice h.A4 b.trials.length h.c4, .int .i64 b.trials.length, .bool false, .bool false, undef, .int .i64 n, .pointer (some { block := w.heap.size, off := 2 }), .slice h.A2 b.surfs.length h.c2, .int .i64 b.surfs.length, .int .i64 k, .tuple #[.int .i64 0, .int .i64 22], .agg (h.cells b), .int .i64 k, .tuple #[.int .i64 0, .int .i64 22], .int .i64 0, .int .i64 22, .tuple #[.agg #[.int .i64 0, .int .i64 0], .int .i64 22], .agg (h.cells b), .tuple #[.agg #[.int .i64 0, .int .i64 0], .int .i64 22], .agg #[.int .i64 0, .int .i64 0], .int .i64 22, .int .i64 22, .bool true, (if bb 0 then .int .i64 22 else undef), (if bb 1 then .bool true else undef), (if bb 2 then .bool true else undef), (if bb 3 then .int .i64 22 else undef), (if bb 4 then .int .i64 22 else undef), (if bb 5 then .bool true else undef), (if bb 6 then .bool true else undef), (if bb 7 then .bool true else undef), (if bb 8 then .int .i64 0 else undef), (if bb 9 then .bool true else undef), (if bb 10 then .bool true else undef), (if bb 11 then .bool true else undef), (if bb 12 then .agg #[.int .i64 0, .int .i64 0] else undef), (if bb 13 then .agg #[.int .i64 0, .int .i64 0] else undef), (if bb 14 then .bool true else undef), (if bb 15 then .bool true else undef), (if bb 16 then .bool true else undef), (if bb 17 then .bool true else undef), (if bb 18 then .bool true else undef), undef, undef, undef, undef, undef, undef, undef, undef, undef, undef, undef, undef, undef, undef, undef, undef, undef, undef, undef, undef, undef, undef, undef, undef, undef, undef, undef, undef, undef, undef, undef, undef, undef, undef, undef, undef, undef, undef, undef, undef, undef, undef, undef, undef, undef, undef, undef, undef, undef, undef, undef, undef, undef, undef, undef, undef, undef, undef, undef, undef, undef, undef, undef, undef, undef, undef, undef, undef, undef, undef, undef, undef, undef, undef, undef, undef, undef, undef, undef, undef, undef, undef, undef, undef, undef, undef, undef, undef, undef, undef, undef, undef, undef, undef, undef, undef, undef, undef, undef, undef, undef, undef, undef, undef, undef], []⟩ ∧ (One w (h.cells b) 27 wq ∧ Has wq [(g8, 0, 0)])) ?_ ?_ ?_
        · exact ⟨by simp, by simpa using ⟨HX.out.1.on (Below.refl _ _).drew, HX.out.2.below (Below.refl _ _).drew⟩⟩
        · intro i hil bb a wq hI hbi hcame
          obtain ⟨rfl, hst⟩ := hI
          rcases i with _ | _ | _ | _ | _ | _ | _ | _ | _ | _ | _ | _ | _ | _ | _ | _ | _ | _ | _ | _ | i
          · refine op_value rfl rfl (x_assign (.inr rfl)) ⟨by simp [Act.put, Act.eval, upd], ?_⟩
            simpa [upd] using hst
          · have hh := hcame
            simp [Came, Region.binds] at hh
            refine op_value rfl rfl (x_eq33 (x := .tmp 46) (y := .const (.int .i64 22)) (i := 22) (j := 22) rfl (by simp [Act.eval, hh]) rfl) ⟨by simp [Act.put, Act.eval, upd, hh], ?_⟩
            simpa [upd] using hst
          · have hh := hcame
            simp [Came, Region.binds] at hh
            refine op_value rfl rfl (x_assign (.inr rfl)) ⟨by simp [Act.put, Act.eval, upd, hh], ?_⟩
            simpa [upd] using hst
          · have hh := hcame
            simp [Came, Region.binds] at hh
            refine op_value rfl (wanted_of (j := 2) rfl rfl rfl (by simp [hh])) (x_assign (.inr rfl)) ⟨by simp [Act.put, Act.eval, upd, hh], ?_⟩
            simpa [upd] using hst
          · have hh := hcame
            simp [Came, Region.binds] at hh
            refine op_value rfl (wanted_of (j := 2) rfl rfl rfl (by simp [hh])) (x_assign (.inr rfl)) ⟨by simp [Act.put, Act.eval, upd, hh], ?_⟩
            simpa [upd] using hst
          · have hh := hcame
            simp [Came, Region.binds] at hh
            refine op_value rfl (wanted_of (j := 2) rfl rfl rfl (by simp [hh])) (x_eq33 (x := .tmp 49) (y := .tmp 50) (i := 22) (j := 22) rfl (by simp [Act.eval, hh]) (by simp [Act.eval, hh])) ⟨by simp [Act.put, Act.eval, upd, hh], ?_⟩
            simpa [upd] using hst
          · have hh := hcame
            simp [Came, Region.binds] at hh
            refine op_value rfl rfl (x_pickT (c := .tmp 48) (x := .tmp 51) (v := .bool true) rfl (by simp [Act.eval, hh]) (by simp [Act.eval, hh])) ⟨by simp [Act.put, Act.eval, upd, hh], ?_⟩
            simpa [upd] using hst
          · have hh := hcame
            simp [Came, Region.binds] at hh
            refine op_value rfl rfl (x_assign (.inr rfl)) ⟨by simp [Act.put, Act.eval, upd, hh], ?_⟩
            simpa [upd] using hst
          · have hh := hcame
            simp [Came, Region.binds] at hh
            refine op_value rfl (wanted_of (j := 7) rfl rfl rfl (by simp [hh])) (x_assign (.inr rfl)) ⟨by simp [Act.put, Act.eval, upd, hh], ?_⟩
            simpa [upd] using hst
          · have hh := hcame
            simp [Came, Region.binds] at hh
            refine op_value rfl (wanted_of (j := 7) rfl rfl rfl (by simp [hh])) (x_eq3 (x := .tmp 54) (y := .const (.int .i64 0)) (i := 0) (j := 0) rfl (by simp [Act.eval, hh]) rfl) ⟨by simp [Act.put, Act.eval, upd, hh], ?_⟩
            simpa [upd] using hst
          · have hh := hcame
            simp [Came, Region.binds] at hh
            refine op_value rfl rfl (x_pickT (c := .tmp 53) (x := .tmp 55) (v := .bool true) rfl (by simp [Act.eval, hh]) (by simp [Act.eval, hh])) ⟨by simp [Act.put, Act.eval, upd, hh], ?_⟩
            simpa [upd] using hst
          · have hh := hcame
            simp [Came, Region.binds] at hh
            refine op_value rfl rfl (x_assign (.inr rfl)) ⟨by simp [Act.put, Act.eval, upd, hh], ?_⟩
            simpa [upd] using hst
          · have hh := hcame
            simp [Came, Region.binds] at hh
            refine op_value rfl (wanted_of (j := 11) rfl rfl rfl (by simp [hh])) (x_load (g := g8) rfl rfl (hst.2 (g8, 0, 0) (by simp)) Tryd.underlying39 rfl i39) ⟨by simp [Act.put, Act.eval, upd, hh], ?_⟩
            simpa [upd] using hst
          · have hh := hcame
            simp [Came, Region.binds] at hh
            refine op_call rfl (wanted_of (j := 11) rfl rfl rfl (by simp [hh])) (run_call Tryd.func28 (by kernel_rfl) rfl rfl rfl (args := #[.int .i64 0]) (by simp [Act.eval, hh])) ((only_calls 0 _).mono ?_)
            rintro e w5 ⟨rfl, hb5⟩
            refine ⟨_, rfl, by simp [Act.put, upd, hh], ?_⟩
            simpa [upd] using (⟨hst.1.on hb5, hst.2.below hb5⟩ : One w (h.cells b) 27 w5 ∧ Has w5 [(g8, 0, 0)])
          · have hh := hcame
            simp [Came, Region.binds] at hh
            refine op_value rfl (wanted_of (j := 11) rfl rfl rfl (by simp [hh])) (x_eq39 (x := .tmp 58) (y := .tmp 59) (i := 0) (j := 0) (i' := 0) (j' := 0) rfl (by simp [Act.eval, hh]) (by simp [Act.eval, hh])) ⟨by simp [Act.put, Act.eval, upd, hh], ?_⟩
            simpa [upd] using hst
          · have hh := hcame
            simp [Came, Region.binds] at hh
            refine op_value rfl rfl (x_pickT (c := .tmp 57) (x := .tmp 60) (v := .bool true) rfl (by simp [Act.eval, hh]) (by simp [Act.eval, hh])) ⟨by simp [Act.put, Act.eval, upd, hh], ?_⟩
            simpa [upd] using hst
          · have hh := hcame
            simp [Came, Region.binds] at hh
            refine op_value rfl rfl (x_assign (.inr rfl)) ⟨by simp [Act.put, Act.eval, upd, hh], ?_⟩
            simpa [upd] using hst
          · have hh := hcame
            simp [Came, Region.binds] at hh
            refine op_call rfl (wanted_of (j := 16) rfl rfl rfl (by simp [hh])) (run_call Tryd.func12 (by kernel_rfl) rfl rfl rfl (args := #[]) (by simp [Act.eval, hh])) ((rubbed_calls (HG.out.below hst.1.below)).mono ?_)
            rintro e w5 ⟨rfl, hb5⟩
            refine ⟨_, rfl, by simp [Act.put, upd, hh], ?_⟩
            simpa [upd] using (⟨hst.1.on hb5, hst.2.below hb5⟩ : One w (h.cells b) 27 w5 ∧ Has w5 [(g8, 0, 0)])
          · have hh := hcame
            simp [Came, Region.binds] at hh
            refine op_value rfl rfl (x_pickT (c := .tmp 62) (x := .tmp 63) (v := .bool true) rfl (by simp [Act.eval, hh]) (by simp [Act.eval, hh])) ⟨by simp [Act.put, Act.eval, upd, hh], ?_⟩
            simpa [upd] using hst
          · have hh := hcame
            simp [Came, Region.binds] at hh
            refine op_value rfl rfl (x_assign (.inl rfl)) ⟨by simp [Act.put, Act.eval, upd, hh], ?_⟩
            simpa [upd] using hst
          · simp at hil; omega
        · intro bb a wf hI hall
          obtain ⟨rfl, hst⟩ := hI
          refine hK _ _ ?_
          simp only [hall 0 (by simp), hall 1 (by simp), hall 2 (by simp), hall 3 (by simp), hall 4 (by simp), hall 5 (by simp), hall 6 (by simp), hall 7 (by simp), hall 8 (by simp), hall 9 (by simp), hall 10 (by simp), hall 11 (by simp), hall 12 (by simp), hall 13 (by simp), hall 14 (by simp), hall 15 (by simp), hall 16 (by simp), hall 17 (by simp), hall 18 (by simp), hall 19 (by simp), if_true]
          have HW := Lib.hid hst.1.below
          clear hall hK hst
          go_wp2
          go_ret
          exact ⟨rfl, HW.out⟩
      | true =>
        have hask : askE b true = 0 := by unfold askE; rw [if_pos hck, if_pos rfl, hcan]; rfl
        obtain ⟨lo, hi, hk, hlo, hhi, hall⟩ := known_some hgd.sp hcan
        have HA := Lib.hid hask
        rw [hask] at heL
        have HEL := Lib.hid heL
        have HLR := Lib.hid (show lR b k = lightsL b k by unfold lR; rw [if_pos heL, lights_eq hgd.sp]; rfl)
        have HK := Lib.hid (show kR b = (lo, hi) by unfold kR; rw [if_pos hask, hk])
        have HKN := Lib.hid hk
        have HLH := Lib.hid (hall lo hlo).2
        have HCAN := Lib.hid hcan
        clear hask hcan hck hsa hgd heL hk hlo hhi hall
        go_enter Tryd.func5, Tryd.ntmps5
        go_upto_region 8 with (first | (with_reducible refine b_box (t := 27) rfl rfl rfl ?_) | ((with_reducible refine gate_dst (N := 18) rfl ?_); refine wpList_load_row rfl 27 _ rfl w.heap.size rfl 27 (h.cells b) (0, 0) _ HO.out.b1 Tryd.underlying27 rfl i27 ?_) | (go_at_call 11; refine (sound_calls (hb.below HO.out.below)).mono ?_; rintro e w1 ⟨rfl, hb1⟩; rw [HS.out]; have HO1 := Lib.hid (HO.out.on hb1); have c4 := HO1.out.c4 (A := h.A4) rfl; have c2 := HO1.out.c2 (A := h.A2) rfl; have zz1 := blk_lt HO1.out.b1; clear hb1) | (go_at_call 26; refine (spin_calls n b.surfs.length (by omega) (by omega) _).mono ?_; rintro e w2 ⟨rfl, hb2⟩; rw [HSP.out]; have HO2 := Lib.hid (HO1.out.on hb2); clear hb2) | ((with_reducible refine gate_dst (N := 34) rfl ?_); refine wpList_load_row rfl 27 _ rfl w.heap.size rfl 27 (h.cells b) (0, 0) _ HO2.out.b1 Tryd.underlying27 rfl i27 ?_) | (go_at_call 20; refine (Lights_calls (HG.out.below HO2.out.below) (hb.below HO2.out.below) HSA.out k).mono ?_; rintro e w3 ⟨rfl, hb3⟩; rw [HLR.out, HEL.out]; have HO3 := Lib.hid (HO2.out.on hb3); clear hb3) | ((with_reducible refine gate_dst (N := 40) rfl ?_); refine wpList_load_row rfl 27 _ rfl w.heap.size rfl 27 (h.cells b) (0, 0) _ HO3.out.b1 Tryd.underlying27 rfl i27 ?_) | (go_at_call 17; refine (Power_calls (hb.below HO3.out.below) HSA.out).mono ?_; rintro e w4 ⟨rfl, hb4⟩; rw [HK.out, HA.out]; simp only [s39]; have HO4 := Lib.hid (HO3.out.on hb4); clear hb4))
        have hO5 := HO4.out.on (below_alloc (Below.refl _ _) (.cells #[.int .i64 lo, .int .i64 hi] 39))
        obtain ⟨g8, hg8⟩ : ∃ g8, g8 = w4.heap.size := ⟨_, rfl⟩
        have h8 : (w4.alloc (.cells #[.int .i64 lo, .int .i64 hi] 39)).heap[g8]? = some (.cells #[.int .i64 lo, .int .i64 hi] 39 (0, 0)) := new_at hg8
        rw [← hg8]
        generalize w4.alloc (.cells #[.int .i64 lo, .int .i64 hi] 39) = W5 at hO5 h8 ⊢
        have HX := Lib.hid (show One w (h.cells b) 27 W5 ∧ Has W5 [(g8, lo, hi)] from ⟨hO5, fun x hx => by obtain rfl := List.mem_singleton.1 hx; exact h8⟩)
        clear hO5 h8 hg8 c4 c2 zz1 HO1 HO2 HO3 HO4
        have hc1 := check_with (t := ⟨k, true⟩) HCK.out HT5.out (Int.natCast_nonneg k) (show (k : Int) < b.surfs.length by have := HKL.out; omega) hu1
        have hc2 := check_with (t := ⟨k, false⟩) HCK.out HT5.out (Int.natCast_nonneg k) (show (k : Int) < b.surfs.length by have := HKL.out; omega) hu1
        obtain ⟨y, hy⟩ : ∃ y, y = canB (withT b ⟨k, true⟩) := ⟨_, rfl⟩
        obtain ⟨nn, hn⟩ : ∃ nn, nn = canB (withT b ⟨k, false⟩) := ⟨_, rfl⟩
        have ha1 := ask_with hc1
        have ha2 := ask_with hc2
        rw [← hy] at ha1
        rw [← hn] at ha2
        have HRt := Lib.hid (show decide (askE (withT b ⟨k, true⟩) true = 0) = y by rw [ha1]; cases y <;> rfl)
        have HEt := Lib.hid (show eRight (withT b ⟨k, true⟩) = 0 by unfold eRight; rw [ha1]; cases y <;> rfl)
        have HRf := Lib.hid (show decide (askE (withT b ⟨k, false⟩) true = 0) = nn by rw [ha2]; cases nn <;> rfl)
        have HEf := Lib.hid (show eRight (withT b ⟨k, false⟩) = 0 by unfold eRight; rw [ha2]; cases nn <;> rfl)
        obtain ⟨r1, hr1⟩ : ∃ r, kR (withT b ⟨k, true⟩) = r := ⟨_, rfl⟩
        obtain ⟨r2, hr2⟩ : ∃ r, kR (withT b ⟨k, false⟩) = r := ⟨_, rfl⟩
        obtain ⟨ey, hey⟩ : ∃ e, (if y = true then (0 : Int) else 22) = e := ⟨_, rfl⟩
        obtain ⟨en, hen⟩ : ∃ e, (if nn = true then (0 : Int) else 22) = e := ⟨_, rfl⟩
        have HKt := Lib.hid hr1
        have HKf := Lib.hid hr2
        have HAt := Lib.hid (show askE (withT b ⟨k, true⟩) true = ey by rw [ha1, hey])
        have HAf := Lib.hid (show askE (withT b ⟨k, false⟩) true = en by rw [ha2, hen])
        have HY := Lib.hid hy
        have HNN := Lib.hid hn
        have HEY := Lib.hid hey
        have HEN := Lib.hid hen
        clear hc1 hc2 ha1 ha2 hy hn hr1 hr2 hey hen
        rename_i K hK
        refine draw_inv2 mixed (by kernel_rfl) (fun bb a wq => ∃ hx8 : Hd, a = ⟨#[.agg (h.cells b), .int .i64 n, .pointer (some { block := w.heap.size, off := 0 }), undef, .bool false, .int .i64 k, .int .i64 (lightsL b k), .int .i64 0, .pointer (some ⟨g8, 0, none⟩), .int .i64 0, (if bb 8 then .bool y else undef), (if bb 9 then .int .i64 0 else undef), undef, undef, undef, undef, undef, undef, .agg (h.cells b), .bool true, .bool false, .bool false, .pointer (some { block := w.heap.size, off := 4 }), .slice h.A4 b.trials.length h.c4, .int .i64 b.trials.length, .bool false, .bool false, undef, .int .i64 n, .pointer (some { block := w.heap.size, off := 2 }), .slice h.A2 b.surfs.length h.c2, .int .i64 b.surfs.length, .int .i64 k, .tuple #[.int .i64 (lightsL b k), .int .i64 0], .agg (h.cells b), .int .i64 k, .tuple #[.int .i64 (lightsL b k), .int .i64 0], .int .i64 (lightsL b k), .int .i64 0, .tuple #[.agg #[.int .i64 lo, .int .i64 hi], .int .i64 0], .agg (h.cells b), .tuple #[.agg #[.int .i64 lo, .int .i64 hi], .int .i64 0], .agg #[.int .i64 lo, .int .i64 hi], .int .i64 0, .int .i64 0, .bool false, undef, undef, undef, undef, undef, undef, undef, undef, undef, undef, undef, undef, undef, undef, undef, undef, undef, undef, undef, (if bb 5 then .tuple #[.bool y, .int .i64 0] else undef), (if bb 0 then .agg (h.cells b) else undef), (if bb 1 then .int .i64 k else undef), (if bb 2 then .agg #[.int .i64 k, .bool true] else undef), (if bb 3 then .agg (hx8.cells (withT b ⟨k, true⟩)) else undef), (if bb 4 then .tuple #[.bool y, .int .i64 0] else undef), (if bb 6 then .bool y else undef), (if bb 7 then .int .i64 0 else undef), undef, undef, undef, undef, undef, undef, undef, undef, undef, undef, undef, undef, undef, undef, undef, undef, undef, undef, undef, undef, undef, undef, undef, undef, undef, undef, undef, undef, undef, undef, undef, undef, undef, undef, undef, undef, undef, undef, undef, undef, undef, undef, undef, undef, undef, undef, undef, undef, undef, undef, undef, undef, undef, undef, undef, undef, undef, undef, undef, undef, undef, undef, undef, undef, undef, undef, undef, undef, undef, undef, undef, undef, undef, undef, undef, undef, undef, undef, undef, undef, undef, undef, undef, undef, undef, undef, undef, undef, undef, undef, undef, undef, undef, undef, undef, undef, undef], []⟩ ∧ SaSt w h b [(g8, lo, hi)] hx8 ⟨k, true⟩ wq (bb 3) (bb 4)) ?_ ?_ ?_
        · exact ⟨h, by simp, ⟨HX.out.1.on (Below.refl _ _).drew, HX.out.2.below (Below.refl _ _).drew, by simp⟩⟩
        · intro i hi bb a wq hI hbi hcame
          obtain ⟨hx8, rfl, hst⟩ := hI
          rcases i with _ | _ | _ | _ | _ | _ | _ | _ | _ | _ | i
          · refine op_value rfl rfl (x_load (g := w.heap.size) rfl rfl hst.o.b1 Tryd.underlying27 rfl i27) ⟨hx8, by simp [Act.put, Act.eval, upd], ?_⟩
            simpa [upd] using hst
          · refine op_value rfl rfl (x_assign (.inr rfl)) ⟨hx8, by simp [Act.put, Act.eval, upd], ?_⟩
            simpa [upd] using hst
          · have hh := hcame
            simp [Came, Region.binds] at hh
            refine op_call rfl rfl (run_call Tryd.func30 (by kernel_rfl) rfl rfl rfl (args := #[.int .i64 k]) (by simp [Act.eval, hh])) ((lit_calls (k : Int) _).mono ?_)
            rintro e w5 ⟨rfl, hb5⟩
            refine ⟨_, rfl, hx8, by simp [Act.put, upd, hh], ?_⟩
            simpa [upd] using hst.on hb5
          · have hh := hcame
            simp [Came, Region.binds] at hh
            refine op_call rfl rfl (run_call Tryd.func29 (by kernel_rfl) rfl rfl rfl (args := #[.agg (h.cells b), .agg #[.int .i64 k, .bool true]]) (by simp [Act.eval, hh])) ((with_calls (hb.below hst.o.below) (by have := HT5.out; omega) ⟨k, true⟩).mono ?_)
            rintro e w5 ⟨h', rfl, hbi5, hb5⟩
            refine ⟨_, rfl, h', by simp [Act.put, upd, hh], ?_⟩
            simpa [upd] using hst.bring hb5 hbi5
          · have hh := hcame
            simp [Came, Region.binds] at hh
            refine op_call rfl rfl (run_call Tryd.func15 (by kernel_rfl) rfl rfl rfl (args := #[.agg (hx8.cells (withT b ⟨k, true⟩))]) (by simp [Act.eval, hh])) ((right_at (hst.bk (by simp [hh]) hbi) (show Sane (withT b ⟨k, true⟩) from HSA.out) HRt.out HEt.out).mono ?_)
            rintro e w5 ⟨rfl, hb5⟩
            refine ⟨_, rfl, hx8, by simp [Act.put, upd, hh], ?_⟩
            simpa [upd] using hst.use hb5
          · have hh := hcame
            simp [Came, Region.binds] at hh
            refine op_value rfl rfl (x_assign (.inr rfl)) ⟨hx8, by simp [Act.put, Act.eval, upd, hh], ?_⟩
            simpa [upd] using hst
          · have hh := hcame
            simp [Came, Region.binds] at hh
            refine op_value rfl rfl (x_extract (x := .tmp 65) (i := 0) (vs := #[.bool y, .int .i64 0]) (v := .bool y) rfl (by simp [Act.eval, hh]) (by go_simp)) ⟨hx8, by simp [Act.put, Act.eval, upd, hh], ?_⟩
            simpa [upd] using hst
          · have hh := hcame
            simp [Came, Region.binds] at hh
            refine op_value rfl rfl (x_extract (x := .tmp 65) (i := 1) (vs := #[.bool y, .int .i64 0]) (v := .int .i64 0) rfl (by simp [Act.eval, hh]) (by go_simp)) ⟨hx8, by simp [Act.put, Act.eval, upd, hh], ?_⟩
            simpa [upd] using hst
          · have hh := hcame
            simp [Came, Region.binds] at hh
            refine op_value rfl rfl (x_assign (.inl rfl)) ⟨hx8, by simp [Act.put, Act.eval, upd, hh], ?_⟩
            simpa [upd] using hst
          · have hh := hcame
            simp [Came, Region.binds] at hh
            refine op_value rfl rfl (x_assign (.inl rfl)) ⟨hx8, by simp [Act.put, Act.eval, upd, hh], ?_⟩
            simpa [upd] using hst
          · simp at hi; omega
        · intro bb a wf hI hall
          obtain ⟨hx8, rfl, hst⟩ := hI
          refine hK _ _ ?_
          simp only [hall 0 (by simp), hall 1 (by simp), hall 2 (by simp), hall 3 (by simp), hall 4 (by simp), hall 5 (by simp), hall 6 (by simp), hall 7 (by simp), hall 8 (by simp), hall 9 (by simp), if_true]
          have HX := Lib.hid (show One w (h.cells b) 27 wf ∧ Has wf [(g8, lo, hi)] from ⟨hst.o, hst.hs⟩)
          clear hall hK hst
          obtain ⟨V9, hV⟩ : ∃ V, V = wf := ⟨_, rfl⟩
          subst hV
          go_upto_region 9 with (first | fail)
          rename_i K hK
          refine draw_inv2 mixed (by kernel_rfl) (fun bb a wq => ∃ hx9 : Hd, a = ⟨#[.agg (h.cells b), .int .i64 n, .pointer (some { block := w.heap.size, off := 0 }), undef, .bool false, .int .i64 k, .int .i64 (lightsL b k), .int .i64 0, .pointer (some ⟨g8, 0, none⟩), .int .i64 0, .bool y, .int .i64 0, (if bb 8 then .bool nn else undef), (if bb 9 then .int .i64 0 else undef), undef, undef, undef, undef, .agg (h.cells b), .bool true, .bool false, .bool false, .pointer (some { block := w.heap.size, off := 4 }), .slice h.A4 b.trials.length h.c4, .int .i64 b.trials.length, .bool false, .bool false, undef, .int .i64 n, .pointer (some { block := w.heap.size, off := 2 }), .slice h.A2 b.surfs.length h.c2, .int .i64 b.surfs.length, .int .i64 k, .tuple #[.int .i64 (lightsL b k), .int .i64 0], .agg (h.cells b), .int .i64 k, .tuple #[.int .i64 (lightsL b k), .int .i64 0], .int .i64 (lightsL b k), .int .i64 0, .tuple #[.agg #[.int .i64 lo, .int .i64 hi], .int .i64 0], .agg (h.cells b), .tuple #[.agg #[.int .i64 lo, .int .i64 hi], .int .i64 0], .agg #[.int .i64 lo, .int .i64 hi], .int .i64 0, .int .i64 0, .bool false, undef, undef, undef, undef, undef, undef, undef, undef, undef, undef, undef, undef, undef, undef, undef, undef, undef, undef, undef, .tuple #[.bool y, .int .i64 0], .agg (h.cells b), .int .i64 k, .agg #[.int .i64 k, .bool true], .agg (hx8.cells (withT b ⟨k, true⟩)), .tuple #[.bool y, .int .i64 0], .bool y, .int .i64 0, (if bb 5 then .tuple #[.bool nn, .int .i64 0] else undef), (if bb 0 then .agg (h.cells b) else undef), (if bb 1 then .int .i64 k else undef), (if bb 2 then .agg #[.int .i64 k, .bool false] else undef), (if bb 3 then .agg (hx9.cells (withT b ⟨k, false⟩)) else undef), (if bb 4 then .tuple #[.bool nn, .int .i64 0] else undef), (if bb 6 then .bool nn else undef), (if bb 7 then .int .i64 0 else undef), undef, undef, undef, undef, undef, undef, undef, undef, undef, undef, undef, undef, undef, undef, undef, undef, undef, undef, undef, undef, undef, undef, undef, undef, undef, undef, undef, undef, undef, undef, undef, undef, undef, undef, undef, undef, undef, undef, undef, undef, undef, undef, undef, undef, undef, undef, undef, undef, undef, undef, undef, undef, undef, undef, undef, undef, undef, undef, undef, undef, undef, undef, undef, undef, undef, undef, undef, undef, undef, undef, undef, undef, undef, undef, undef, undef, undef, undef, undef, undef, undef, undef, undef, undef, undef, undef, undef, undef, undef], []⟩ ∧ SaSt w h b [(g8, lo, hi)] hx9 ⟨k, false⟩ wq (bb 3) (bb 4)) ?_ ?_ ?_
          · exact ⟨h, by simp, ⟨HX.out.1.on (Below.refl _ _).drew, HX.out.2.below (Below.refl _ _).drew, by simp⟩⟩
          · intro i hi bb a wq hI hbi hcame
            obtain ⟨hx9, rfl, hst⟩ := hI
            rcases i with _ | _ | _ | _ | _ | _ | _ | _ | _ | _ | i
            · refine op_value rfl rfl (x_load (g := w.heap.size) rfl rfl hst.o.b1 Tryd.underlying27 rfl i27) ⟨hx9, by simp [Act.put, Act.eval, upd], ?_⟩
              simpa [upd] using hst
            · refine op_value rfl rfl (x_assign (.inr rfl)) ⟨hx9, by simp [Act.put, Act.eval, upd], ?_⟩
              simpa [upd] using hst
            · have hh := hcame
              simp [Came, Region.binds] at hh
              refine op_call rfl rfl (run_call Tryd.func31 (by kernel_rfl) rfl rfl rfl (args := #[.int .i64 k]) (by simp [Act.eval, hh])) ((not_calls (k : Int) _).mono ?_)
              rintro e w5 ⟨rfl, hb5⟩
              refine ⟨_, rfl, hx9, by simp [Act.put, upd, hh], ?_⟩
              simpa [upd] using hst.on hb5
            · have hh := hcame
              simp [Came, Region.binds] at hh
              refine op_call rfl rfl (run_call Tryd.func29 (by kernel_rfl) rfl rfl rfl (args := #[.agg (h.cells b), .agg #[.int .i64 k, .bool false]]) (by simp [Act.eval, hh])) ((with_calls (hb.below hst.o.below) (by have := HT5.out; omega) ⟨k, false⟩).mono ?_)
              rintro e w5 ⟨h', rfl, hbi5, hb5⟩
              refine ⟨_, rfl, h', by simp [Act.put, upd, hh], ?_⟩
              simpa [upd] using hst.bring hb5 hbi5
            · have hh := hcame
              simp [Came, Region.binds] at hh
              refine op_call rfl rfl (run_call Tryd.func15 (by kernel_rfl) rfl rfl rfl (args := #[.agg (hx9.cells (withT b ⟨k, false⟩))]) (by simp [Act.eval, hh])) ((right_at (hst.bk (by simp [hh]) hbi) (show Sane (withT b ⟨k, false⟩) from HSA.out) HRf.out HEf.out).mono ?_)
              rintro e w5 ⟨rfl, hb5⟩
              refine ⟨_, rfl, hx9, by simp [Act.put, upd, hh], ?_⟩
              simpa [upd] using hst.use hb5
            · have hh := hcame
              simp [Came, Region.binds] at hh
              refine op_value rfl rfl (x_assign (.inr rfl)) ⟨hx9, by simp [Act.put, Act.eval, upd, hh], ?_⟩
              simpa [upd] using hst
            · have hh := hcame
              simp [Came, Region.binds] at hh
              refine op_value rfl rfl (x_extract (x := .tmp 73) (i := 0) (vs := #[.bool nn, .int .i64 0]) (v := .bool nn) rfl (by simp [Act.eval, hh]) (by go_simp)) ⟨hx9, by simp [Act.put, Act.eval, upd, hh], ?_⟩
              simpa [upd] using hst
            · have hh := hcame
              simp [Came, Region.binds] at hh
              refine op_value rfl rfl (x_extract (x := .tmp 73) (i := 1) (vs := #[.bool nn, .int .i64 0]) (v := .int .i64 0) rfl (by simp [Act.eval, hh]) (by go_simp)) ⟨hx9, by simp [Act.put, Act.eval, upd, hh], ?_⟩
              simpa [upd] using hst
            · have hh := hcame
              simp [Came, Region.binds] at hh
              refine op_value rfl rfl (x_assign (.inl rfl)) ⟨hx9, by simp [Act.put, Act.eval, upd, hh], ?_⟩
              simpa [upd] using hst
            · have hh := hcame
              simp [Came, Region.binds] at hh
              refine op_value rfl rfl (x_assign (.inl rfl)) ⟨hx9, by simp [Act.put, Act.eval, upd, hh], ?_⟩
              simpa [upd] using hst
            · simp at hi; omega
          · intro bb a wf hI hall
            obtain ⟨hx9, rfl, hst⟩ := hI
            refine hK _ _ ?_
            simp only [hall 0 (by simp), hall 1 (by simp), hall 2 (by simp), hall 3 (by simp), hall 4 (by simp), hall 5 (by simp), hall 6 (by simp), hall 7 (by simp), hall 8 (by simp), hall 9 (by simp), if_true]
            have HX := Lib.hid (show One w (h.cells b) 27 wf ∧ Has wf [(g8, lo, hi)] from ⟨hst.o, hst.hs⟩)
            clear hall hK hst
            obtain ⟨V10, hV⟩ : ∃ V, V = wf := ⟨_, rfl⟩
            subst hV
            go_upto_region 10 with (first | fail)
            rename_i K hK
            refine draw_inv2 mixed (by kernel_rfl) (fun bb a wq => ∃ (hx10 : Hd) (g14 : Nat), a = ⟨#[.agg (h.cells b), .int .i64 n, .pointer (some { block := w.heap.size, off := 0 }), undef, .bool false, .int .i64 k, .int .i64 (lightsL b k), .int .i64 0, .pointer (some ⟨g8, 0, none⟩), .int .i64 0, .bool y, .int .i64 0, .bool nn, .int .i64 0, (if bb 8 then .pointer (some ⟨g14, 0, none⟩) else undef), (if bb 10 then .int .i64 ey else undef), undef, undef, .agg (h.cells b), .bool true, .bool false, .bool false, .pointer (some { block := w.heap.size, off := 4 }), .slice h.A4 b.trials.length h.c4, .int .i64 b.trials.length, .bool false, .bool false, undef, .int .i64 n, .pointer (some { block := w.heap.size, off := 2 }), .slice h.A2 b.surfs.length h.c2, .int .i64 b.surfs.length, .int .i64 k, .tuple #[.int .i64 (lightsL b k), .int .i64 0], .agg (h.cells b), .int .i64 k, .tuple #[.int .i64 (lightsL b k), .int .i64 0], .int .i64 (lightsL b k), .int .i64 0, .tuple #[.agg #[.int .i64 lo, .int .i64 hi], .int .i64 0], .agg (h.cells b), .tuple #[.agg #[.int .i64 lo, .int .i64 hi], .int .i64 0], .agg #[.int .i64 lo, .int .i64 hi], .int .i64 0, .int .i64 0, .bool false, undef, undef, undef, undef, undef, undef, undef, undef, undef, undef, undef, undef, undef, undef, undef, undef, undef, undef, undef, .tuple #[.bool y, .int .i64 0], .agg (h.cells b), .int .i64 k, .agg #[.int .i64 k, .bool true], .agg (hx8.cells (withT b ⟨k, true⟩)), .tuple #[.bool y, .int .i64 0], .bool y, .int .i64 0, .tuple #[.bool nn, .int .i64 0], .agg (h.cells b), .int .i64 k, .agg #[.int .i64 k, .bool false], .agg (hx9.cells (withT b ⟨k, false⟩)), .tuple #[.bool nn, .int .i64 0], .bool nn, .int .i64 0, (if bb 5 then .tuple #[.agg #[.int .i64 r1.1, .int .i64 r1.2], .int .i64 ey] else undef), (if bb 0 then .agg (h.cells b) else undef), (if bb 1 then .int .i64 k else undef), (if bb 2 then .agg #[.int .i64 k, .bool true] else undef), (if bb 3 then .agg (hx10.cells (withT b ⟨k, true⟩)) else undef), (if bb 4 then .tuple #[.agg #[.int .i64 r1.1, .int .i64 r1.2], .int .i64 ey] else undef), (if bb 6 then .agg #[.int .i64 r1.1, .int .i64 r1.2] else undef), (if bb 7 then .int .i64 ey else undef), undef, undef, undef, undef, undef, undef, undef, undef, undef, undef, undef, undef, undef, undef, undef, undef, undef, undef, undef, undef, undef, undef, undef, undef, undef, undef, undef, undef, undef, undef, undef, undef, undef, undef, undef, undef, undef, undef, undef, undef, undef, undef, undef, undef, undef, undef, undef, undef, undef, undef, undef, undef, undef, undef, undef, undef, undef, undef, undef, undef, undef, undef, undef, undef, undef, undef, undef, undef, undef, undef, undef, undef, undef, undef, undef, undef, undef, undef, undef, undef, undef], []⟩ ∧ SaPw w h b [(g8, lo, hi)] hx10 ⟨k, true⟩ g14 r1 wq (bb 3) (bb 4) (bb 8) (bb 9)) ?_ ?_ ?_
            · exact ⟨h, 0, by simp, ⟨⟨HX.out.1.on (Below.refl _ _).drew, HX.out.2.below (Below.refl _ _).drew, by simp⟩, by simp, by simp⟩⟩
            · intro i hi bb a wq hI hbi hcame
              obtain ⟨hx10, g14, rfl, hst⟩ := hI
              rcases i with _ | _ | _ | _ | _ | _ | _ | _ | _ | _ | _ | i
              · refine op_value rfl rfl (x_load (g := w.heap.size) rfl rfl hst.s.o.b1 Tryd.underlying27 rfl i27) ⟨hx10, g14, by simp [Act.put, Act.eval, upd], ?_⟩
                simpa [upd] using hst
              · refine op_value rfl rfl (x_assign (.inr rfl)) ⟨hx10, g14, by simp [Act.put, Act.eval, upd], ?_⟩
                simpa [upd] using hst
              · have hh := hcame
                simp [Came, Region.binds] at hh
                refine op_call rfl rfl (run_call Tryd.func30 (by kernel_rfl) rfl rfl rfl (args := #[.int .i64 k]) (by simp [Act.eval, hh])) ((lit_calls (k : Int) _).mono ?_)
                rintro e w5 ⟨rfl, hb5⟩
                refine ⟨_, rfl, hx10, g14, by simp [Act.put, upd, hh], ?_⟩
                simpa [upd] using hst.on hb5
              · have hh := hcame
                simp [Came, Region.binds] at hh
                refine op_call rfl rfl (run_call Tryd.func29 (by kernel_rfl) rfl rfl rfl (args := #[.agg (h.cells b), .agg #[.int .i64 k, .bool true]]) (by simp [Act.eval, hh])) ((with_calls (hb.below hst.s.o.below) (by have := HT5.out; omega) ⟨k, true⟩).mono ?_)
                rintro e w5 ⟨h', rfl, hbi5, hb5⟩
                refine ⟨_, rfl, h', g14, by simp [Act.put, upd, hh], ?_⟩
                simpa [upd] using hst.bring hb5 hbi5
              · have hh := hcame
                simp [Came, Region.binds] at hh
                refine op_call rfl rfl (run_call Tryd.func17 (by kernel_rfl) rfl rfl rfl (args := #[.agg (hx10.cells (withT b ⟨k, true⟩))]) (by simp [Act.eval, hh])) ((power_at (hst.s.bk (by simp [hh]) hbi) (show Sane (withT b ⟨k, true⟩) from HSA.out) HKt.out HAt.out).mono ?_)
                rintro e w5 ⟨rfl, hb5⟩
                have hst' := hst
                rw [hbi] at hst'
                obtain ⟨e9, hst2⟩ := hst'.use hb5
                refine ⟨_, rfl, hx10, g14, by simp [Act.put, upd, hh], ?_⟩
                simpa [upd, e9] using hst2
              · have hh := hcame
                simp [Came, Region.binds] at hh
                refine op_value rfl rfl (x_assign (.inr rfl)) ⟨hx10, g14, by simp [Act.put, Act.eval, upd, hh], ?_⟩
                simpa [upd] using hst
              · have hh := hcame
                simp [Came, Region.binds] at hh
                refine op_value rfl rfl (x_extract (x := .tmp 81) (i := 0) (vs := #[.agg #[.int .i64 r1.1, .int .i64 r1.2], .int .i64 ey]) (v := .agg #[.int .i64 r1.1, .int .i64 r1.2]) rfl (by simp [Act.eval, hh]) (by go_simp)) ⟨hx10, g14, by simp [Act.put, Act.eval, upd, hh], ?_⟩
                simpa [upd] using hst
              · have hh := hcame
                simp [Came, Region.binds] at hh
                refine op_value rfl rfl (x_extract (x := .tmp 81) (i := 1) (vs := #[.agg #[.int .i64 r1.1, .int .i64 r1.2], .int .i64 ey]) (v := .int .i64 ey) rfl (by simp [Act.eval, hh]) (by go_simp)) ⟨hx10, g14, by simp [Act.put, Act.eval, upd, hh], ?_⟩
                simpa [upd] using hst
              · have hst' := hst
                rw [hbi] at hst'
                obtain ⟨e9, hst2⟩ := hst'.var
                refine op_value rfl rfl (x_alloc rfl Tryd.zeroValue39) ⟨hx10, wq.heap.size, by simp [Act.put, upd], ?_⟩
                simpa [upd, e9] using hst2
              · have hh := hcame
                simp [Came, Region.binds] at hh
                have h8 : bb 8 = true := by simp [hh]
                have hst' := hst
                rw [hbi, h8] at hst'
                have h4 : bb 4 = true := by simp [hh]
                rw [h4] at hst'
                refine op_skip rfl rfl (x_store (g := g14) (cells := #[.int .i64 r1.1, .int .i64 r1.2]) rfl (by simp [Act.eval, hh]) (by simp [Act.eval, hh]) (show wq.heap[g14]? = some (.cells #[.int .i64 0, .int .i64 0] 39 (0, 0)) by simpa using (hst'.v rfl).2.2) i39 rfl (by simp [Value.oneCell'])) ⟨hx10, g14, by simp [Act.put, upd, hh], ?_⟩
                simpa [upd, h4, h8] using hst'.set
              · have hh := hcame
                simp [Came, Region.binds] at hh
                refine op_value rfl rfl (x_assign (.inl rfl)) ⟨hx10, g14, by simp [Act.put, Act.eval, upd, hh], ?_⟩
                simpa [upd] using hst
              · simp at hi; omega
            · intro bb a wf hI hall
              obtain ⟨hx10, g14, rfl, hst⟩ := hI
              refine hK _ _ ?_
              simp only [hall 0 (by simp), hall 1 (by simp), hall 2 (by simp), hall 3 (by simp), hall 4 (by simp), hall 5 (by simp), hall 6 (by simp), hall 7 (by simp), hall 8 (by simp), hall 10 (by simp), if_true]
              rw [hall 8 (by simp), hall 9 (by simp)] at hst
              have HX := Lib.hid (show One w (h.cells b) 27 wf ∧ Has wf [(g14, r1.1, r1.2), (g8, lo, hi)] from ⟨hst.s.o, hst.s.hs.cons (by simpa using (hst.v rfl).2.2)⟩)
              clear hall hK hst
              obtain ⟨V11, hV⟩ : ∃ V, V = wf := ⟨_, rfl⟩
              subst hV
              go_upto_region 11 with (first | fail)
              rename_i K hK
              refine draw_inv2 mixed (by kernel_rfl) (fun bb a wq => ∃ (hx11 : Hd) (g16 : Nat), a = ⟨#[.agg (h.cells b), .int .i64 n, .pointer (some { block := w.heap.size, off := 0 }), undef, .bool false, .int .i64 k, .int .i64 (lightsL b k), .int .i64 0, .pointer (some ⟨g8, 0, none⟩), .int .i64 0, .bool y, .int .i64 0, .bool nn, .int .i64 0, .pointer (some ⟨g14, 0, none⟩), .int .i64 ey, (if bb 8 then .pointer (some ⟨g16, 0, none⟩) else undef), (if bb 10 then .int .i64 en else undef), .agg (h.cells b), .bool true, .bool false, .bool false, .pointer (some { block := w.heap.size, off := 4 }), .slice h.A4 b.trials.length h.c4, .int .i64 b.trials.length, .bool false, .bool false, undef, .int .i64 n, .pointer (some { block := w.heap.size, off := 2 }), .slice h.A2 b.surfs.length h.c2, .int .i64 b.surfs.length, .int .i64 k, .tuple #[.int .i64 (lightsL b k), .int .i64 0], .agg (h.cells b), .int .i64 k, .tuple #[.int .i64 (lightsL b k), .int .i64 0], .int .i64 (lightsL b k), .int .i64 0, .tuple #[.agg #[.int .i64 lo, .int .i64 hi], .int .i64 0], .agg (h.cells b), .tuple #[.agg #[.int .i64 lo, .int .i64 hi], .int .i64 0], .agg #[.int .i64 lo, .int .i64 hi], .int .i64 0, .int .i64 0, .bool false, undef, undef, undef, undef, undef, undef, undef, undef, undef, undef, undef, undef, undef, undef, undef, undef, undef, undef, undef, .tuple #[.bool y, .int .i64 0], .agg (h.cells b), .int .i64 k, .agg #[.int .i64 k, .bool true], .agg (hx8.cells (withT b ⟨k, true⟩)), .tuple #[.bool y, .int .i64 0], .bool y, .int .i64 0, .tuple #[.bool nn, .int .i64 0], .agg (h.cells b), .int .i64 k, .agg #[.int .i64 k, .bool false], .agg (hx9.cells (withT b ⟨k, false⟩)), .tuple #[.bool nn, .int .i64 0], .bool nn, .int .i64 0, .tuple #[.agg #[.int .i64 r1.1, .int .i64 r1.2], .int .i64 ey], .agg (h.cells b), .int .i64 k, .agg #[.int .i64 k, .bool true], .agg (hx10.cells (withT b ⟨k, true⟩)), .tuple #[.agg #[.int .i64 r1.1, .int .i64 r1.2], .int .i64 ey], .agg #[.int .i64 r1.1, .int .i64 r1.2], .int .i64 ey, (if bb 5 then .tuple #[.agg #[.int .i64 r2.1, .int .i64 r2.2], .int .i64 en] else undef), (if bb 0 then .agg (h.cells b) else undef), (if bb 1 then .int .i64 k else undef), (if bb 2 then .agg #[.int .i64 k, .bool false] else undef), (if bb 3 then .agg (hx11.cells (withT b ⟨k, false⟩)) else undef), (if bb 4 then .tuple #[.agg #[.int .i64 r2.1, .int .i64 r2.2], .int .i64 en] else undef), (if bb 6 then .agg #[.int .i64 r2.1, .int .i64 r2.2] else undef), (if bb 7 then .int .i64 en else undef), undef, undef, undef, undef, undef, undef, undef, undef, undef, undef, undef, undef, undef, undef, undef, undef, undef, undef, undef, undef, undef, undef, undef, undef, undef, undef, undef, undef, undef, undef, undef, undef, undef, undef, undef, undef, undef, undef, undef, undef, undef, undef, undef, undef, undef, undef, undef, undef, undef, undef, undef, undef, undef, undef, undef, undef, undef, undef, undef, undef, undef, undef, undef, undef, undef, undef, undef, undef, undef, undef, undef, undef, undef], []⟩ ∧ SaPw w h b [(g14, r1.1, r1.2), (g8, lo, hi)] hx11 ⟨k, false⟩ g16 r2 wq (bb 3) (bb 4) (bb 8) (bb 9)) ?_ ?_ ?_
              · exact ⟨h, 0, by simp, ⟨⟨HX.out.1.on (Below.refl _ _).drew, HX.out.2.below (Below.refl _ _).drew, by simp⟩, by simp, by simp⟩⟩
              · intro i hi bb a wq hI hbi hcame
                obtain ⟨hx11, g16, rfl, hst⟩ := hI
                rcases i with _ | _ | _ | _ | _ | _ | _ | _ | _ | _ | _ | i
                · refine op_value rfl rfl (x_load (g := w.heap.size) rfl rfl hst.s.o.b1 Tryd.underlying27 rfl i27) ⟨hx11, g16, by simp [Act.put, Act.eval, upd], ?_⟩
                  simpa [upd] using hst
                · refine op_value rfl rfl (x_assign (.inr rfl)) ⟨hx11, g16, by simp [Act.put, Act.eval, upd], ?_⟩
                  simpa [upd] using hst
                · have hh := hcame
                  simp [Came, Region.binds] at hh
                  refine op_call rfl rfl (run_call Tryd.func31 (by kernel_rfl) rfl rfl rfl (args := #[.int .i64 k]) (by simp [Act.eval, hh])) ((not_calls (k : Int) _).mono ?_)
                  rintro e w5 ⟨rfl, hb5⟩
                  refine ⟨_, rfl, hx11, g16, by simp [Act.put, upd, hh], ?_⟩
                  simpa [upd] using hst.on hb5
                · have hh := hcame
                  simp [Came, Region.binds] at hh
                  refine op_call rfl rfl (run_call Tryd.func29 (by kernel_rfl) rfl rfl rfl (args := #[.agg (h.cells b), .agg #[.int .i64 k, .bool false]]) (by simp [Act.eval, hh])) ((with_calls (hb.below hst.s.o.below) (by have := HT5.out; omega) ⟨k, false⟩).mono ?_)
                  rintro e w5 ⟨h', rfl, hbi5, hb5⟩
                  refine ⟨_, rfl, h', g16, by simp [Act.put, upd, hh], ?_⟩
                  simpa [upd] using hst.bring hb5 hbi5
                · have hh := hcame
                  simp [Came, Region.binds] at hh
                  refine op_call rfl rfl (run_call Tryd.func17 (by kernel_rfl) rfl rfl rfl (args := #[.agg (hx11.cells (withT b ⟨k, false⟩))]) (by simp [Act.eval, hh])) ((power_at (hst.s.bk (by simp [hh]) hbi) (show Sane (withT b ⟨k, false⟩) from HSA.out) HKf.out HAf.out).mono ?_)
                  rintro e w5 ⟨rfl, hb5⟩
                  have hst' := hst
                  rw [hbi] at hst'
                  obtain ⟨e9, hst2⟩ := hst'.use hb5
                  refine ⟨_, rfl, hx11, g16, by simp [Act.put, upd, hh], ?_⟩
                  simpa [upd, e9] using hst2
                · have hh := hcame
                  simp [Came, Region.binds] at hh
                  refine op_value rfl rfl (x_assign (.inr rfl)) ⟨hx11, g16, by simp [Act.put, Act.eval, upd, hh], ?_⟩
                  simpa [upd] using hst
                · have hh := hcame
                  simp [Came, Region.binds] at hh
                  refine op_value rfl rfl (x_extract (x := .tmp 89) (i := 0) (vs := #[.agg #[.int .i64 r2.1, .int .i64 r2.2], .int .i64 en]) (v := .agg #[.int .i64 r2.1, .int .i64 r2.2]) rfl (by simp [Act.eval, hh]) (by go_simp)) ⟨hx11, g16, by simp [Act.put, Act.eval, upd, hh], ?_⟩
                  simpa [upd] using hst
                · have hh := hcame
                  simp [Came, Region.binds] at hh
                  refine op_value rfl rfl (x_extract (x := .tmp 89) (i := 1) (vs := #[.agg #[.int .i64 r2.1, .int .i64 r2.2], .int .i64 en]) (v := .int .i64 en) rfl (by simp [Act.eval, hh]) (by go_simp)) ⟨hx11, g16, by simp [Act.put, Act.eval, upd, hh], ?_⟩
                  simpa [upd] using hst
                · have hst' := hst
                  rw [hbi] at hst'
                  obtain ⟨e9, hst2⟩ := hst'.var
                  refine op_value rfl rfl (x_alloc rfl Tryd.zeroValue39) ⟨hx11, wq.heap.size, by simp [Act.put, upd], ?_⟩
                  simpa [upd, e9] using hst2
                · have hh := hcame
                  simp [Came, Region.binds] at hh
                  have h8 : bb 8 = true := by simp [hh]
                  have hst' := hst
                  rw [hbi, h8] at hst'
                  have h4 : bb 4 = true := by simp [hh]
                  rw [h4] at hst'
                  refine op_skip rfl rfl (x_store (g := g16) (cells := #[.int .i64 r2.1, .int .i64 r2.2]) rfl (by simp [Act.eval, hh]) (by simp [Act.eval, hh]) (show wq.heap[g16]? = some (.cells #[.int .i64 0, .int .i64 0] 39 (0, 0)) by simpa using (hst'.v rfl).2.2) i39 rfl (by simp [Value.oneCell'])) ⟨hx11, g16, by simp [Act.put, upd, hh], ?_⟩
                  simpa [upd, h4, h8] using hst'.set
                · have hh := hcame
                  simp [Came, Region.binds] at hh
                  refine op_value rfl rfl (x_assign (.inl rfl)) ⟨hx11, g16, by simp [Act.put, Act.eval, upd, hh], ?_⟩
                  simpa [upd] using hst
                · simp at hi; omega
              · intro bb a wf hI hall
                obtain ⟨hx11, g16, rfl, hst⟩ := hI
                refine hK _ _ ?_
                simp only [hall 0 (by simp), hall 1 (by simp), hall 2 (by simp), hall 3 (by simp), hall 4 (by simp), hall 5 (by simp), hall 6 (by simp), hall 7 (by simp), hall 8 (by simp), hall 10 (by simp), if_true]
                rw [hall 8 (by simp), hall 9 (by simp)] at hst
                have HX := Lib.hid (show One w (h.cells b) 27 wf ∧ Has wf [(g16, r2.1, r2.2), (g14, r1.1, r1.2), (g8, lo, hi)] from ⟨hst.s.o, hst.s.hs.cons (by simpa using (hst.v rfl).2.2)⟩)
                clear hall hK hst
                obtain ⟨V12, hV⟩ : ∃ V, V = wf := ⟨_, rfl⟩
                subst hV
                have hb8 := HX.out.2 (g8, lo, hi) (by simp)
                have hb14 := HX.out.2 (g14, r1.1, r1.2) (by simp)
                have hb16 := HX.out.2 (g16, r2.1, r2.2) (by simp)
                have hlh := HLH.out
                have hyy := HY.out
                have hnn := HNN.out
                rw [may_lit HGD.out.sp HKL.out] at hyy
                rw [sure_not HGD.out.sp HKL.out] at hnn
                have hck1 := HEY.out
                have hck2 := HEN.out
                have HB8 := Lib.hid hb8
                have HB14 := Lib.hid hb14
                have HB16 := Lib.hid hb16
                have HLT := Lib.hid (show decide (hi < lo) = false by rw [decide_eq_false_iff_not]; omega)
                have hkt := HKt.out
                have hkf := HKf.out
                have hat := HAt.out
                have haf := HAf.out
                clear hb14 hb16 hlh
                cases y with
                | true =>
                  rw [if_pos rfl] at hck1
                  subst hck1
                  unfold kR at hkt
                  rw [if_pos hat] at hkt
                  cases nn with
                  | true =>
                    rw [if_pos rfl] at hck2
                    subst hck2
                    unfold kR at hkf
                    rw [if_pos haf] at hkf
                    have hsu : sureL b k = false := by cases e : sureL b k with
                      | false => rfl
                      | true => rw [e] at hnn; cases hnn
                    have hkd : lightsL b k = 1 := by unfold lightsL; rw [← hyy, if_pos rfl, hsu]; rfl
                    have hun := known_union HGD.out.sp (sp_withT HGD.out.sp ⟨k, true⟩) (sp_withT HGD.out.sp ⟨k, false⟩) (fun p => by
                      rw [trs_lit HKL.out, trs_not HKL.out]
                      constructor
                      · intro hp
                        have := low_high HGD.out HKL.out hp
                        by_cases hq : b.need ≤ highI b k p
                        · exact .inl ⟨hp, hq⟩
                        · exact .inr ⟨hp, by omega⟩
                      · rintro (hp | hp) <;> exact hp.1) HY.out.symm HNN.out.symm
                    rw [hkt, hkf, HKN.out] at hun
                    simp only [Prod.mk.injEq] at hun
                    have E1 := Lib.hid hun.1.symm
                    have E2 := Lib.hid hun.2.symm
                    rw [hkd]
                    have c0 := (blk_cell hb8 0).trans rfl
                    have c1 := (blk_cell hb8 1).trans rfl
                    have z8 := blk_lt hb8
                    clear hb8 hyy hnn hkt hkf hat haf hun hsu hkd
                    go_upto_region 15 with (first | (go_at_call 32; refine (void_calls lo hi _).mono ?_; rintro e w5 ⟨rfl, hb5⟩; rw [HLT.out]; have HX5 := Lib.hid (show One w (h.cells b) 27 w5 ∧ Has w5 [(g16, r2.1, r2.2), (g14, r1.1, r1.2), (g8, lo, hi)] from ⟨HX.out.1.on hb5, HX.out.2.below hb5⟩); clear hb5))
                    rename_i K hK
                    refine draw_inv2 mixed (by kernel_rfl) (fun bb a wq => a = ⟨#[.agg (h.cells b), .int .i64 n, .pointer (some { block := w.heap.size, off := 0 }), undef, (if bb 16 then .bool true else .bool false), .int .i64 k, .int .i64 1, .int .i64 0, .pointer (some ⟨g8, 0, none⟩), .int .i64 0, .bool true, .int .i64 0, .bool true, .int .i64 0, .pointer (some ⟨g14, 0, none⟩), .int .i64 0, .pointer (some ⟨g16, 0, none⟩), .int .i64 0, .agg (h.cells b), .bool true, .bool false, .bool false, .pointer (some { block := w.heap.size, off := 4 }), .slice h.A4 b.trials.length h.c4, .int .i64 b.trials.length, .bool false, .bool false, undef, .int .i64 n, .pointer (some { block := w.heap.size, off := 2 }), .slice h.A2 b.surfs.length h.c2, .int .i64 b.surfs.length, .int .i64 k, .tuple #[.int .i64 1, .int .i64 0], .agg (h.cells b), .int .i64 k, .tuple #[.int .i64 1, .int .i64 0], .int .i64 1, .int .i64 0, .tuple #[.agg #[.int .i64 lo, .int .i64 hi], .int .i64 0], .agg (h.cells b), .tuple #[.agg #[.int .i64 lo, .int .i64 hi], .int .i64 0], .agg #[.int .i64 lo, .int .i64 hi], .int .i64 0, .int .i64 0, .bool false, undef, undef, undef, undef, undef, undef, undef, undef, undef, undef, undef, undef, undef, undef, undef, undef, undef, undef, undef, .tuple #[.bool true, .int .i64 0], .agg (h.cells b), .int .i64 k, .agg #[.int .i64 k, .bool true], .agg (hx8.cells (withT b { f0 := k, f1 := true })), .tuple #[.bool true, .int .i64 0], .bool true, .int .i64 0, .tuple #[.bool true, .int .i64 0], .agg (h.cells b), .int .i64 k, .agg #[.int .i64 k, .bool false], .agg (hx9.cells (withT b { f0 := k, f1 := false })), .tuple #[.bool true, .int .i64 0], .bool true, .int .i64 0, .tuple #[.agg #[.int .i64 r1.1, .int .i64 r1.2], .int .i64 0], .agg (h.cells b), .int .i64 k, .agg #[.int .i64 k, .bool true], .agg (hx10.cells (withT b { f0 := k, f1 := true })), .tuple #[.agg #[.int .i64 r1.1, .int .i64 r1.2], .int .i64 0], .agg #[.int .i64 r1.1, .int .i64 r1.2], .int .i64 0, .tuple #[.agg #[.int .i64 r2.1, .int .i64 r2.2], .int .i64 0], .agg (h.cells b), .int .i64 k, .agg #[.int .i64 k, .bool false], .agg (hx11.cells (withT b { f0 := k, f1 := false })), .tuple #[.agg #[.int .i64 r2.1, .int .i64 r2.2], .int .i64 0], .agg #[.int .i64 r2.1, .int .i64 r2.2], .int .i64 0, .int .i64 0, .bool false, .bool false, .int .i64 0, .bool false, .bool false, .bool false, .int .i64 0, .bool false, .bool false, .bool false, .bool true, .int .i64 0, .bool true, .bool false, .bool false, .bool false, .bool true, .int .i64 0, .bool true, .bool false, .bool false, .bool false, .bool true, .int .i64 1, .bool true, .bool false, .bool false, .bool false, .bool true, .int .i64 1, .bool true, .bool false, .bool false, .bool false, .agg #[.int .i64 lo, .int .i64 hi], .bool false, .bool false, .bool true, .bool true, .bool true, .bool true, .bool true, (if bb 0 then .agg #[.int .i64 lo, .int .i64 hi] else undef), (if bb 1 then .pointer (some ⟨g14, 0, none⟩) else undef), (if bb 2 then .int .i64 r1.1 else undef), (if bb 3 then .pointer (some ⟨g16, 0, none⟩) else undef), (if bb 4 then .int .i64 r2.1 else undef), (if bb 5 then .int .i64 lo else undef), (if bb 6 then .pointer (some ⟨g14, 1, none⟩) else undef), (if bb 7 then .int .i64 r1.2 else undef), (if bb 8 then .pointer (some ⟨g16, 1, none⟩) else undef), (if bb 9 then .int .i64 r2.2 else undef), (if bb 10 then .int .i64 hi else undef), (if bb 11 then .agg #[.int .i64 lo, .int .i64 hi] else undef), (if bb 12 then .bool true else undef), (if bb 13 then .bool true else undef), (if bb 14 then .bool true else undef), (if bb 15 then .bool true else undef), undef, undef, undef, undef, undef, undef, undef, undef, undef, undef, undef, undef, undef, undef], []⟩ ∧ (One w (h.cells b) 27 wq ∧ Has wq [(g16, r2.1, r2.2), (g14, r1.1, r1.2), (g8, lo, hi)])) ?_ ?_ ?_
                    · exact ⟨by simp, by simpa using ⟨HX5.out.1.on (Below.refl _ _).drew, HX5.out.2.below (Below.refl _ _).drew⟩⟩
                    · intro i hil bb a wq hI hbi hcame
                      obtain ⟨rfl, hst⟩ := hI
                      rcases i with _ | _ | _ | _ | _ | _ | _ | _ | _ | _ | _ | _ | _ | _ | _ | _ | _ | i
                      · refine op_value rfl rfl (x_load (g := g8) rfl rfl (hst.2 (g8, lo, hi) (by simp)) Tryd.underlying39 rfl i39) ⟨by simp [Act.put, Act.eval, upd], ?_⟩
                        simpa [upd] using hst
                      · refine op_value rfl rfl (x_field39_0 (x := .tmp 14) (g := g14) rfl rfl) ⟨by simp [Act.put, Act.eval, upd], ?_⟩
                        simpa [upd] using hst
                      · have hh := hcame
                        simp [Came, Region.binds] at hh
                        refine op_value rfl rfl (x_load3 (x := .tmp 141) (ad := ⟨g14, 0, none⟩) (v := r1.1) rfl (by simp [Act.eval, hh]) ((blk_cell (hst.2 (g14, r1.1, r1.2) (by simp)) 0).trans rfl)) ⟨by simp [Act.put, Act.eval, upd, hh], ?_⟩
                        simpa [upd] using hst
                      · refine op_value rfl rfl (x_field39_0 (x := .tmp 16) (g := g16) rfl rfl) ⟨by simp [Act.put, Act.eval, upd], ?_⟩
                        simpa [upd] using hst
                      · have hh := hcame
                        simp [Came, Region.binds] at hh
                        refine op_value rfl rfl (x_load3 (x := .tmp 143) (ad := ⟨g16, 0, none⟩) (v := r2.1) rfl (by simp [Act.eval, hh]) ((blk_cell (hst.2 (g16, r2.1, r2.2) (by simp)) 0).trans rfl)) ⟨by simp [Act.put, Act.eval, upd, hh], ?_⟩
                        simpa [upd] using hst
                      · have hh := hcame
                        simp [Came, Region.binds] at hh
                        refine op_value rfl rfl (show (execOp _ _).run Tryd.prog _ = .ok (.value (.int .i64 lo)) _ by rw [← E1.out]; exact x_min (x := .tmp 142) (y := .tmp 144) (i := r1.1) (j := r2.1) rfl (by simp [Act.eval, hh]) (by simp [Act.eval, hh])) ⟨by simp [Act.put, Act.eval, upd, hh], ?_⟩
                        simpa [upd] using hst
                      · refine op_value rfl rfl (x_field39_1 (x := .tmp 14) (g := g14) rfl rfl) ⟨by simp [Act.put, Act.eval, upd], ?_⟩
                        simpa [upd] using hst
                      · have hh := hcame
                        simp [Came, Region.binds] at hh
                        refine op_value rfl rfl (x_load3 (x := .tmp 146) (ad := ⟨g14, 1, none⟩) (v := r1.2) rfl (by simp [Act.eval, hh]) ((blk_cell (hst.2 (g14, r1.1, r1.2) (by simp)) 1).trans rfl)) ⟨by simp [Act.put, Act.eval, upd, hh], ?_⟩
                        simpa [upd] using hst
                      · refine op_value rfl rfl (x_field39_1 (x := .tmp 16) (g := g16) rfl rfl) ⟨by simp [Act.put, Act.eval, upd], ?_⟩
                        simpa [upd] using hst
                      · have hh := hcame
                        simp [Came, Region.binds] at hh
                        refine op_value rfl rfl (x_load3 (x := .tmp 148) (ad := ⟨g16, 1, none⟩) (v := r2.2) rfl (by simp [Act.eval, hh]) ((blk_cell (hst.2 (g16, r2.1, r2.2) (by simp)) 1).trans rfl)) ⟨by simp [Act.put, Act.eval, upd, hh], ?_⟩
                        simpa [upd] using hst
                      · have hh := hcame
                        simp [Came, Region.binds] at hh
                        refine op_value rfl rfl (show (execOp _ _).run Tryd.prog _ = .ok (.value (.int .i64 hi)) _ by rw [← E2.out]; exact x_max (x := .tmp 147) (y := .tmp 149) (i := r1.2) (j := r2.2) rfl (by simp [Act.eval, hh]) (by simp [Act.eval, hh])) ⟨by simp [Act.put, Act.eval, upd, hh], ?_⟩
                        simpa [upd] using hst
                      · have hh := hcame
                        simp [Came, Region.binds] at hh
                        refine op_call rfl rfl (run_call Tryd.func27 (by kernel_rfl) rfl rfl rfl (args := #[.int .i64 lo, .int .i64 hi]) (by simp [Act.eval, hh])) ((sp_calls lo hi _).mono ?_)
                        rintro e w5 ⟨rfl, hb5⟩
                        refine ⟨_, rfl, by simp [Act.put, upd, hh], ?_⟩
                        simpa [upd] using (⟨hst.1.on hb5, hst.2.below hb5⟩ : One w (h.cells b) 27 w5 ∧ Has w5 [(g16, r2.1, r2.2), (g14, r1.1, r1.2), (g8, lo, hi)])
                      · have hh := hcame
                        simp [Came, Region.binds] at hh
                        refine op_value rfl rfl (x_eq39 (x := .tmp 140) (y := .tmp 151) (i := lo) (j := hi) (i' := lo) (j' := hi) rfl (by simp [Act.eval, hh]) (by simp [Act.eval, hh])) ⟨by simp [Act.put, Act.eval, upd, hh], ?_⟩
                        simpa [upd] using hst
                      · have hh := hcame
                        simp [Came, Region.binds] at hh
                        refine op_value rfl rfl (x_assign (.inr rfl)) ⟨by simp [Act.put, Act.eval, upd, hh], ?_⟩
                        simpa [upd] using hst
                      · have hh := hcame
                        simp [Came, Region.binds] at hh
                        refine op_call rfl (wanted_of (j := 13) rfl rfl rfl (by simp [hh])) (run_call Tryd.func12 (by kernel_rfl) rfl rfl rfl (args := #[]) (by simp [Act.eval, hh])) ((rubbed_calls (HG.out.below hst.1.below)).mono ?_)
                        rintro e w5 ⟨rfl, hb5⟩
                        refine ⟨_, rfl, by simp [Act.put, upd, hh], ?_⟩
                        simpa [upd] using (⟨hst.1.on hb5, hst.2.below hb5⟩ : One w (h.cells b) 27 w5 ∧ Has w5 [(g16, r2.1, r2.2), (g14, r1.1, r1.2), (g8, lo, hi)])
                      · have hh := hcame
                        simp [Came, Region.binds] at hh
                        refine op_value rfl rfl (x_pickT (c := .tmp 153) (x := .tmp 154) (v := .bool true) rfl (by simp [Act.eval, hh]) (by simp [Act.eval, hh])) ⟨by simp [Act.put, Act.eval, upd, hh], ?_⟩
                        simpa [upd] using hst
                      · have hh := hcame
                        simp [Came, Region.binds] at hh
                        refine op_value rfl rfl (x_assign (.inl rfl)) ⟨by simp [Act.put, Act.eval, upd, hh], ?_⟩
                        simpa [upd] using hst
                      · simp at hil; omega
                    · intro bb a wf hI hall
                      obtain ⟨rfl, hst⟩ := hI
                      refine hK _ _ ?_
                      simp only [hall 0 (by simp), hall 1 (by simp), hall 2 (by simp), hall 3 (by simp), hall 4 (by simp), hall 5 (by simp), hall 6 (by simp), hall 7 (by simp), hall 8 (by simp), hall 9 (by simp), hall 10 (by simp), hall 11 (by simp), hall 12 (by simp), hall 13 (by simp), hall 14 (by simp), hall 15 (by simp), hall 16 (by simp), if_true]
                      have HW := Lib.hid hst.1.below
                      clear hall hK hst
                      go_wp2
                      go_ret
                      exact ⟨rfl, HW.out⟩
                  | false =>
                    rw [if_neg Bool.false_ne_true] at hck2
                    subst hck2
                    have hsu : sureL b k = true := by cases e : sureL b k with
                      | true => rfl
                      | false => rw [e] at hnn; cases hnn
                    have hkd : lightsL b k = 2 := by unfold lightsL; rw [← hyy, if_pos rfl, hsu]; rfl
                    have hsame := known_same HGD.out.sp (sp_withT HGD.out.sp ⟨k, true⟩) (fun p => by
                      rw [trs_lit HKL.out]
                      refine ⟨fun hp => ⟨hp, ?_⟩, fun hp => hp.1⟩
                      unfold sureL at hsu
                      rw [List.all_eq_true] at hsu
                      have h1 : b.need ≤ lowI b k p := by simpa using hsu p hp
                      have := low_high HGD.out HKL.out hp
                      omega)
                    rw [hkt, HKN.out] at hsame
                    subst hsame
                    rw [hkd]
                    have HB14' := Lib.hid (show V12.heap[g14]? = some (.cells #[.int .i64 lo, .int .i64 hi] 39 (0, 0)) from HB14.out)
                    have c0 := (blk_cell hb8 0).trans rfl
                    have c1 := (blk_cell hb8 1).trans rfl
                    have z8 := blk_lt hb8
                    clear hb8 hyy hnn hkt hkf hat haf hsu hkd
                    go_wp2_with (first | (go_at_call 32; refine (void_calls lo hi _).mono ?_; rintro e w5 ⟨rfl, hb5⟩; rw [HLT.out]; have HX5 := Lib.hid (HX.out.1.on hb5); have d0 := (blk_cell (blk_below HB8.out hb5) 0).trans rfl; have d1 := (blk_cell (blk_below HB8.out hb5) 1).trans rfl; have e0 := (blk_cell (blk_below HB14'.out hb5) 0).trans rfl; have e1 := (blk_cell (blk_below HB14'.out hb5) 1).trans rfl; have zd := blk_lt (blk_below HB8.out hb5); have ze := blk_lt (blk_below HB14'.out hb5); clear hb5) | (go_at_call 12; refine (rubbed_calls (HG.out.below HX5.out.below)).mono ?_; rintro e w6 ⟨rfl, hb6⟩; have HB6 := Lib.hid (below_step HX5.out.below hb6); clear hb6))
                    go_ret
                    exact ⟨rfl, HB6.out⟩
                | false =>
                  rw [if_neg Bool.false_ne_true] at hck1
                  subst hck1
                  cases nn with
                  | true =>
                    rw [if_pos rfl] at hck2
                    subst hck2
                    unfold kR at hkf
                    rw [if_pos haf] at hkf
                    have hkd : lightsL b k = 0 := by unfold lightsL; rw [← hyy]; rfl
                    have hsame := known_same HGD.out.sp (sp_withT HGD.out.sp ⟨k, false⟩) (fun p => by
                      rw [trs_not HKL.out]
                      refine ⟨fun hp => ⟨hp, ?_⟩, fun hp => hp.1⟩
                      have hq := hyy.symm
                      unfold mayL at hq
                      rw [List.any_eq_false] at hq
                      have h1 : ¬ b.need ≤ highI b k p := by simpa using hq p hp
                      have := low_high HGD.out HKL.out hp
                      omega)
                    rw [hkf, HKN.out] at hsame
                    subst hsame
                    rw [hkd]
                    have HB16' := Lib.hid (show V12.heap[g16]? = some (.cells #[.int .i64 lo, .int .i64 hi] 39 (0, 0)) from HB16.out)
                    have c0 := (blk_cell hb8 0).trans rfl
                    have c1 := (blk_cell hb8 1).trans rfl
                    have z8 := blk_lt hb8
                    clear hb8 hyy hnn hkt hkf hat haf hkd
                    go_wp2_with (first | (go_at_call 32; refine (void_calls lo hi _).mono ?_; rintro e w5 ⟨rfl, hb5⟩; rw [HLT.out]; have HX5 := Lib.hid (HX.out.1.on hb5); have d0 := (blk_cell (blk_below HB8.out hb5) 0).trans rfl; have d1 := (blk_cell (blk_below HB8.out hb5) 1).trans rfl; have e0 := (blk_cell (blk_below HB16'.out hb5) 0).trans rfl; have e1 := (blk_cell (blk_below HB16'.out hb5) 1).trans rfl; have zd := blk_lt (blk_below HB8.out hb5); have ze := blk_lt (blk_below HB16'.out hb5); clear hb5) | (go_at_call 12; refine (rubbed_calls (HG.out.below HX5.out.below)).mono ?_; rintro e w6 ⟨rfl, hb6⟩; have HB6 := Lib.hid (below_step HX5.out.below hb6); clear hb6))
                    go_ret
                    exact ⟨rfl, HB6.out⟩
                  | false =>
                    exfalso
                    have hsu : sureL b k = true := by cases e : sureL b k with
                      | true => rfl
                      | false => rw [e] at hnn; cases hnn
                    rw [sure_may HGD.out HCAN.out HKL.out hsu] at hyy
                    cases hyy
end Go.Proofs.YtghpoldlddghjaaDoor
namespace Go.Proofs.YtghpoldlddghjaaDoor.pasteSaid
open Go Go.ChangeShapes Go.WideShapes Go.ChangeAt Go.RowKit
open Go.Proofs.YtghpoldlddghjaaDoorW.PrintWords Go.Proofs.YtghpoldlddghjaaDoorW.PrintMore Go.Proofs.YtghpoldlddghjaaDoor.PPasteTrue
set_option maxRecDepth 100000 in
theorem contract (H : Type) (enc : TypeId × Value → H) (W : World) (base : Nat) (args : Array Value) (ds gs : List (DataW H)) (before : List MemPlace)
    (hval : ∀ (j : Nat) t v, Tryd.f5.params[j]? = some t → args[j]? = some v → Value.okWide Tryd.prog W .any base t v)
    (hW : DataW.Whole enc Tryd.prog Tryd.f5.params.toList Rows.pasteSaidSpec.vars false W args.toList ds gs before) (hL : laidMetH Tryd.prog Rows.pasteSaidRow.laid W) :
    Calls Tryd.prog 5 args W fun e W' => ∃ v, e = .returned v ∧ Rows.pasteSaidSpec.post enc Tryd.prog Tryd.f5 false true false false W args v W' := by
  have hW' := hW
  obtain ⟨p, q, hA0, hV, rfl, hfz, hnd⟩ := hW
  have hA : DataW.TrodAll enc Tryd.prog W 0 (fun _ => true) true Tryd.f5.params.toList args.toList ds p := hA0
  rw [Tryd.params5] at hA hval
  obtain ⟨v0, vs0, d0, ds0, p0, q0, hargs, rfl, rfl, h0, r0⟩ := trodAll_cons hA
  obtain ⟨v1, vs1, d1, ds1, p1, q1, rfl, rfl, rfl, h1, r1⟩ := trodAll_cons r0
  obtain ⟨rfl, rfl, rfl⟩ := trodAll_nil r1
  obtain rfl : args = #[v0, v1] := by cases args; simp_all
  obtain ⟨rfl, rfl⟩ := trodVars_none hV
  have k0 := h0
  have lt0 : ∀ x ∈ p0, x.block < W.heap.size := by obtain ⟨m, hm⟩ := k0; exact DataW.trod_lt m _ _ _ hm
  obtain ⟨hh, b, rfl, hb⟩ := open27 (hval 0 27 v0 rfl rfl) h0
  have k1 := h1
  obtain ⟨a1, rfl, rfl, rfl, w1⟩ := open_int Tryd.underlying3 (hval 1 3 v1 rfl rfl) h1
  clear hA0 hval
  refine (pasteSaid_calls (asks_of_laid hL) hb a1).mono fun e W' ⟨he, bel⟩ => ?_
  subst he
  exact ⟨_, rfl, _, _, _, [], _, [], hW', trodAll_mk1 (shut_bool Tryd.underlying4 _), (trodAll_cons_mk (Below.trod laidOut (by kernel_rfl) (of_decide_eq_true (by kernel_rfl)) k0 bel lt0) (trodAll_cons_mk (shut_int Tryd.underlying3 w1) trodAll_mk0)), rfl, bel.frame _, fun h => by cases h⟩
theorem reads (os : Os) {H : Type} (enc : TypeId × Value → H) : ∃ places, DataW.whole enc Tryd.prog ((World.doorLaid Tryd.prog 600 os).forCall (fun _ _ => 0) ⟨#[], #[.agg #[.slice none 0 0, .slice none 0 0, .slice none 0 0, .int .i64 0, .slice none 0 0], .int .i64 0], []⟩).memory Tryd.f5.params.toList Rows.pasteSaidSpec.vars false (#[.agg #[.slice none 0 0, .slice none 0 0, .slice none 0 0, .int .i64 0, .slice none 0 0], .int .i64 0] : Array Value).toList 8 = some ([.agg [.nil, .nil, .nil, .lit (.int .i64 0), .nil], .lit (.int .i64 0)], [], places) :=
  ⟨[], by kernel_rfl⟩
set_option maxRecDepth 100000 in
theorem lifted (os : Os) (started : os.Started) (H : Type) (enc : TypeId × Value → H) (F : Stop.Interp) :
    ReturnsInHanded {} Tryd.checked os 5 .any ((OpenSpec.ofChange Rows.pasteSaidSpec).preRow enc Tryd.prog Tryd.f5 Rows.pasteSaidRow.domain false Rows.pasteSaidRow.laid) (((OpenSpec.ofChange Rows.pasteSaidSpec).at F).post enc Tryd.prog Tryd.f5 false true false false) := by
  obtain ⟨places, hx⟩ := reads os enc
  refine returnsInHanded_of_row (C := Tryd.checked) (s := OpenSpec.ofChange Rows.pasteSaidSpec) own started (by kernel_rfl) Tryd.func5
    (witness_row_atRef (enc := enc) (C := Tryd.checked) false (World.doorLaid Tryd.prog 600 os) #[.agg #[.slice none 0 0, .slice none 0 0, .slice none 0 0, .int .i64 0, .slice none 0 0], .int .i64 0] rfl (by kernel_rfl) (by kernel_rfl) (by kernel_rfl)
      (OpenSpec.preRow_of_cond 8 hx (by kernel_rfl) (fun k hk => by cases hk) (by kernel_rfl) (door_met os _))) ?_
  intro W base args ds gs before hval hW _ _ _ hL _ _
  exact contract H enc W base args ds gs before hval hW hL
theorem said : Rows.PasteSaidSaid :=
  OpenClaim.holds_of_cond 5 Tryd.f5 rfl rfl rfl rfl rfl rfl rfl ⟨rfl, rfl, rfl, rfl, rfl⟩ rfl rfl rfl rfl rfl (by kernel_rfl) Tryd.func5 (by kernel_rfl)
    (of_decide_eq_true (by kernel_rfl)) (by unfold Func.isWrapper; first | (rw [if_pos (by decide +kernel)]; kernel_rfl) | (rw [if_neg (by decide +kernel)]; exact ⟨rfl, rfl⟩))
    (fun os started H enc _ F => by rw [OpenClaim.pre_eq_preRow]; exact lifted os started H enc F)
theorem plain (f : FuncId) (fn : Func) (hf : Tryd.pinned.checked.prog.funcNamed "lucifer/luciferlaw02.PasteSaid" = some f) (hfn : Tryd.pinned.checked.prog.funcs[f]? = some fn) :
    false = Tryd.pinned.checked.prog.looks [] ∧ ∀ (j : Nat) t, fn.params[j]? = some t → Tryd.pinned.checked.prog.wantsStandIn t = false := by
  obtain rfl : f = 5 := Option.some.inj ((show Tryd.prog.funcNamed "lucifer/luciferlaw02.PasteSaid" = some 5 by kernel_rfl).symm.trans hf) |>.symm
  obtain rfl : fn = Tryd.f5 := (Option.some.inj (Tryd.func5.symm.trans hfn)).symm
  refine ⟨by kernel_rfl, fun j t ht => ?_⟩
  rw [Tryd.params5] at ht
  have w0 : Tryd.prog.wantsStandIn 27 = false := by kernel_rfl
  have w1 : Tryd.prog.wantsStandIn 3 = false := by kernel_rfl
  have hm : t = 27 ∨ t = 3 := by simpa using Array.mem_of_getElem? ht
  rcases hm with rfl | rfl
  · exact w0
  · exact w1
theorem card : Rows.PasteSaidCardSaid :=
  Claim7.holds_tied_plain_at .later [] _ _ _ _ said (fun _ h => by cases h) (by kernel_rfl) (fun _ h => by cases h) pasteSaid_row_tie rfl ⟨rfl, rfl⟩ (by kernel_rfl) rfl plain (by kernel_rfl)
end Go.Proofs.YtghpoldlddghjaaDoor.pasteSaid
namespace Go.Proofs.YtghpoldlddghjaaDoor
theorem pasteSaid_card : Rows.PasteSaidCardSaid := pasteSaid.card
end Go.Proofs.YtghpoldlddghjaaDoor
