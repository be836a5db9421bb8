/- The walks of Check, Right, Power, Lights, Safe, Less, Damper, Blame. Conditions: a book whose pairs are sane; the table of the two questions lies as its text lays it. -/
import Derived.Test.YtghpoldlddghjaaDoorM1
import Derived.Test.YtghpoldlddghjaaDoorMX
import Derived.ChangeKeysEq
import Derived.Laws.StructEq
import Derived.LoopN
import Derived.Test.YtghpoldlddghjaaDoorMY
import Derived.Lib.SliceRun
set_option linter.unusedVariables false
set_option linter.unusedSimpArgs false
namespace Go.Proofs.YtghpoldlddghjaaDoor
open Go Go.RowKit
open Go.Proofs.YtghpoldlddghjaaDoorW.PrintWords Go.Proofs.YtghpoldlddghjaaDoorW.PrintMore Go.Proofs.YtghpoldlddghjaaDoor.PPasteTrue
def inB (a lo hi : Int) : Bool := decide (lo ≤ a) && decide (a ≤ hi)
def spanB (s : S39) (hi : Int) : Bool := decide (0 ≤ s.f0) && (decide (s.f0 ≤ s.f1) && decide (s.f1 ≤ hi))
def saltB (x : S68) : Bool := inB x.f0 0 9 && (spanB x.f1 9 && decide (wrap64 (x.f1.f1 - x.f1.f0) ≤ 3))
def pairB (b : Bk) (i : Nat) : Bool := inB (rd_T77 b.pairs i).f0 0 (wrap64 ((rd_T77 b.pairs i).f1 - 1)) && (decide ((rd_T77 b.pairs i).f1 < b.salts.length) && inB (rd_T77 b.pairs i).f2 1 30) &&
  (b.pairs.take i).all fun y => !((rd_T77 b.pairs i).f0 == y.f0) || !((rd_T77 b.pairs i).f1 == y.f1)
def surfB (x : S47) : Bool := spanB x.f0 200 && spanB x.f1 200
def trialB (b : Bk) (x : S59) : Bool := inB x.f0 0 (wrap64 ((b.surfs.length : Int) - 1))
def headB (b : Bk) : Bool := inB b.salts.length 1 4 && (decide ((b.pairs.length : Int) ≤ 4) && (inB b.surfs.length 1 4 && (inB b.need 1 400 && decide ((b.trials.length : Int) ≤ 6))))
def checkB (b : Bk) : Bool := headB b && b.salts.all saltB && (List.range b.pairs.length).all (pairB b) && b.surfs.all surfB && b.trials.all (trialB b)
theorem within_eq (a lo hi : Int) : paste_within.f a lo hi = some (inB a lo hi) := by
  unfold paste_within.f inB
  by_cases h : lo ≤ a <;> simp [h]
theorem isSpan_eq (a c hi : Int) : paste_isSpan.f a c hi = some (spanB ⟨a, c⟩ hi) := by
  unfold paste_isSpan.f spanB
  by_cases h : 0 ≤ a <;> by_cases h2 : a ≤ c <;> simp [h, h2]
theorem wrap_succ {i n : Nat} (h : i < n) (hn : n ≤ 9223372036854775807) : wrap64 ((i : Int) + 1) = ((i + 1 : Nat) : Int) := by unfold wrap64; omega
theorem drop_all {α : Type} (p : α → Bool) {l : List α} {i : Nat} (h : i < l.length) : (l.drop i).all p = (p l[i] && (l.drop (i + 1)).all p) := by
  rw [List.drop_eq_getElem_cons h, List.all_cons]
section
variable {b : Bk}
theorem chk4 (hm : b.trials.length ≤ 9223372036854775807) : ∀ (n i : Nat) (x : Bool), i + n = b.trials.length → ∃ k, paste_Check.l4 k x b.trials (b.trials.length : Int) (i : Int) b.salts b.pairs b.surfs b.need b.trials = some (if x && (b.trials.drop i).all (trialB b) then 0 else 20)
  | 0, i, x, h => by
    refine ⟨1, ?_⟩
    rw [paste_Check.l4, if_neg (by omega), List.drop_eq_nil_of_le (by omega)]
    cases x <;> simp
  | n + 1, i, x, h => by
    have hi : i < b.trials.length := by omega
    have hr : rd_T59 b.trials i = b.trials[i] := by
      unfold rd_T59
      rw [List.getD_eq_getElem?_getD, Int.toNat_natCast, List.getElem?_eq_getElem hi]
      rfl
    rw [drop_all _ hi, ← hr]
    cases x with
    | true =>
      obtain ⟨k, hk⟩ := chk4 hm n (i + 1) (trialB b (rd_T59 b.trials i)) (by omega)
      refine ⟨k + 1, ?_⟩
      rw [paste_Check.l4, if_pos (by omega), if_pos (by omega), if_pos (by omega), if_pos rfl, within_eq, Option.bind_some, wrap_succ hi hm]
      simpa [trialB] using hk
    | false =>
      obtain ⟨k, hk⟩ := chk4 hm n (i + 1) false (by omega)
      refine ⟨k + 1, ?_⟩
      rw [paste_Check.l4, if_pos (by omega), if_pos (by omega), if_pos (by omega), if_neg (by simp), wrap_succ hi hm, hk]
      simp
theorem chk3 (hm : b.surfs.length ≤ 9223372036854775807) (ht : b.trials.length ≤ 9223372036854775807) : ∀ (n i : Nat) (x : Bool), i + n = b.surfs.length → ∃ k, paste_Check.l3 k x b.surfs (b.surfs.length : Int) (i : Int) b.salts b.pairs b.surfs b.need b.trials = some (if x && (b.surfs.drop i).all surfB && b.trials.all (trialB b) then 0 else 20)
  | 0, i, x, h => by
    obtain ⟨k, hk⟩ := chk4 (b := b) ht b.trials.length 0 x (by omega)
    refine ⟨k + 1, ?_⟩
    rw [paste_Check.l3, if_neg (by omega), List.drop_eq_nil_of_le (by omega)]
    simpa using hk
  | n + 1, i, x, h => by
    have hi : i < b.surfs.length := by omega
    have hr : rd_T47 b.surfs i = b.surfs[i] := by
      unfold rd_T47
      rw [List.getD_eq_getElem?_getD, Int.toNat_natCast, List.getElem?_eq_getElem hi]
      rfl
    rw [drop_all _ hi, ← hr]
    cases x with
    | true =>
      cases e : spanB (rd_T47 b.surfs i).f0 200 with
      | true =>
        obtain ⟨k, hk⟩ := chk3 hm ht n (i + 1) (spanB (rd_T47 b.surfs i).f1 200) (by omega)
        refine ⟨k + 1, ?_⟩
        rw [paste_Check.l3, if_pos (by omega), if_pos (by omega), if_pos (by omega), if_pos rfl, isSpan_eq, Option.bind_some, if_pos e, isSpan_eq, Option.bind_some, wrap_succ hi hm]
        simpa [surfB, e] using hk
      | false =>
        obtain ⟨k, hk⟩ := chk3 hm ht n (i + 1) false (by omega)
        refine ⟨k + 1, ?_⟩
        have e' : ¬ spanB ⟨(rd_T47 b.surfs i).f0.f0, (rd_T47 b.surfs i).f0.f1⟩ 200 = true := by
          intro e2; rw [show (⟨(rd_T47 b.surfs i).f0.f0, (rd_T47 b.surfs i).f0.f1⟩ : S39) = (rd_T47 b.surfs i).f0 from rfl, e] at e2; cases e2
        rw [paste_Check.l3, if_pos (by omega), if_pos (by omega), if_pos (by omega), if_pos rfl, isSpan_eq, Option.bind_some, if_neg e', wrap_succ hi hm, hk]
        simp [surfB, e]
    | false =>
      obtain ⟨k, hk⟩ := chk3 hm ht n (i + 1) false (by omega)
      refine ⟨k + 1, ?_⟩
      rw [paste_Check.l3, if_pos (by omega), if_pos (by omega), if_pos (by omega), if_neg (by simp), wrap_succ hi hm, hk]
      simp
def neB (p q : Int) (y : S77) : Bool := !(p == y.f0) || !(q == y.f1)
theorem chk2 {i : Nat} {F : Bool → Int} (hm : b.pairs.length ≤ 9223372036854775807) (p q : Int) (hF : ∀ x, ∃ k, paste_Check.l1 k x b.pairs (b.pairs.length : Int) (wrap64 ((i : Int) + 1)) b.salts b.pairs b.surfs b.need b.trials = some (F x)) :
    ∀ (n j : Nat) (x : Bool), j + n = (b.pairs.take i).length → ∃ k, paste_Check.l2 k x b.pairs (b.pairs.length : Int) (i : Int) (b.pairs.take i) ((b.pairs.take i).length : Int) (j : Int) b.salts b.pairs b.surfs b.need b.trials p q = some (F (x && ((b.pairs.take i).drop j).all (neB p q)))
  | 0, j, x, h => by
    obtain ⟨k, hk⟩ := hF x
    refine ⟨k + 1, ?_⟩
    rw [paste_Check.l2, if_neg (by omega), List.drop_eq_nil_of_le (by omega)]
    simpa using hk
  | n + 1, j, x, h => by
    have hj : j < (b.pairs.take i).length := by omega
    have hlen : (b.pairs.take i).length ≤ b.pairs.length := List.length_take_le' _ _
    have hr : rd_T77 (b.pairs.take i) j = (b.pairs.take i)[j] := by
      unfold rd_T77
      rw [List.getD_eq_getElem?_getD, Int.toNat_natCast, List.getElem?_eq_getElem hj]
      rfl
    rw [drop_all _ hj, ← hr]
    cases x with
    | true =>
      obtain ⟨k, hk⟩ := chk2 hm p q hF n (j + 1) (neB p q (rd_T77 (b.pairs.take i) j)) (by omega)
      refine ⟨k + 1, ?_⟩
      rw [paste_Check.l2, if_pos (by omega), if_pos (by omega), if_pos (by omega), if_pos rfl, wrap_succ hj (by omega)]
      simpa [neB] using hk
    | false =>
      obtain ⟨k, hk⟩ := chk2 hm p q hF n (j + 1) false (by omega)
      refine ⟨k + 1, ?_⟩
      rw [paste_Check.l2, if_pos (by omega), if_pos (by omega), if_pos (by omega), if_neg (by simp), wrap_succ hj (by omega), hk]
      simp
theorem range_drop_all (f : Nat → Bool) (n i : Nat) (h : i < n) : ((List.range n).drop i).all f = (f i && ((List.range n).drop (i + 1)).all f) := by
  rw [drop_all f (by simpa using h)]
  simp
theorem chk1 (hp : b.pairs.length ≤ 9223372036854775807) (hm : b.surfs.length ≤ 9223372036854775807) (ht : b.trials.length ≤ 9223372036854775807) :
    ∀ (n i : Nat) (x : Bool), i + n = b.pairs.length → ∃ k, paste_Check.l1 k x b.pairs (b.pairs.length : Int) (i : Int) b.salts b.pairs b.surfs b.need b.trials = some (if x && ((List.range b.pairs.length).drop i).all (pairB b) && b.surfs.all surfB && b.trials.all (trialB b) then 0 else 20)
  | 0, i, x, h => by
    obtain ⟨k, hk⟩ := chk3 (b := b) hm ht b.surfs.length 0 x (by omega)
    refine ⟨k + 1, ?_⟩
    rw [paste_Check.l1, if_neg (by omega), List.drop_eq_nil_of_le (by simp; omega)]
    simpa using hk
  | n + 1, i, x, h => by
    have hi : i < b.pairs.length := by omega
    have ih : ∀ x, ∃ k, paste_Check.l1 k x b.pairs (b.pairs.length : Int) (wrap64 ((i : Int) + 1)) b.salts b.pairs b.surfs b.need b.trials = some (if x && ((List.range b.pairs.length).drop (i + 1)).all (pairB b) && b.surfs.all surfB && b.trials.all (trialB b) then 0 else 20) := by
      intro x
      rw [wrap_succ hi hp]
      exact chk1 hp hm ht n (i + 1) x (by omega)
    have hj3 : ∀ x, ∃ k, paste_Check.j3 k x (i : Int) b.pairs (b.pairs.length : Int) (i : Int) b.salts b.pairs b.surfs b.need b.trials (rd_T77 b.pairs i).f0 (rd_T77 b.pairs i).f1 = some (if (x && (b.pairs.take i).all (neB (rd_T77 b.pairs i).f0 (rd_T77 b.pairs i).f1)) && ((List.range b.pairs.length).drop (i + 1)).all (pairB b) && b.surfs.all surfB && b.trials.all (trialB b) then 0 else 20) := by
      intro x
      obtain ⟨k, hk⟩ := chk2 (b := b) (i := i) hp (rd_T77 b.pairs i).f0 (rd_T77 b.pairs i).f1 ih (b.pairs.take i).length 0 x (by omega)
      refine ⟨k + 1, ?_⟩
      rw [paste_Check.j3, if_pos (by omega), if_pos (by omega), Option.bind_some]
      simpa using hk
    rw [range_drop_all _ _ _ hi]
    cases x with
    | false =>
      obtain ⟨k, hk⟩ := hj3 false
      refine ⟨k + 1, ?_⟩
      rw [paste_Check.l1, if_pos (by omega), if_pos (by omega), if_pos (by omega), if_neg (by simp), hk]
      simp
    | true =>
      cases e1 : inB (rd_T77 b.pairs i).f0 0 (wrap64 ((rd_T77 b.pairs i).f1 - 1)) with
      | false =>
        obtain ⟨k, hk⟩ := hj3 false
        refine ⟨k + 1, ?_⟩
        rw [paste_Check.l1, if_pos (by omega), if_pos (by omega), if_pos (by omega), if_pos rfl, within_eq, Option.bind_some, if_neg (by simp [e1]), hk]
        simp [pairB, e1]
      | true =>
        by_cases e2 : (rd_T77 b.pairs i).f1 < (b.salts.length : Int)
        · obtain ⟨k, hk⟩ := hj3 (inB (rd_T77 b.pairs i).f2 1 30)
          refine ⟨k + 1, ?_⟩
          rw [paste_Check.l1, if_pos (by omega), if_pos (by omega), if_pos (by omega), if_pos rfl, within_eq, Option.bind_some, if_pos e1, if_pos e2, within_eq, Option.bind_some, hk]
          simp only [pairB, e1, e2, decide_true, Bool.true_and]
          rfl
        · obtain ⟨k, hk⟩ := hj3 false
          refine ⟨k + 1, ?_⟩
          rw [paste_Check.l1, if_pos (by omega), if_pos (by omega), if_pos (by omega), if_pos rfl, within_eq, Option.bind_some, if_pos e1, if_neg e2, hk]
          simp [pairB, e1, e2]
theorem chk0 (hs : b.salts.length ≤ 9223372036854775807) (hp : b.pairs.length ≤ 9223372036854775807) (hm : b.surfs.length ≤ 9223372036854775807) (ht : b.trials.length ≤ 9223372036854775807) :
    ∀ (n i : Nat) (x : Bool), i + n = b.salts.length → ∃ k, paste_Check.l0 k x b.salts (b.salts.length : Int) (i : Int) b.salts b.pairs b.surfs b.need b.trials = some (if x && (b.salts.drop i).all saltB && (List.range b.pairs.length).all (pairB b) && b.surfs.all surfB && b.trials.all (trialB b) then 0 else 20)
  | 0, i, x, h => by
    obtain ⟨k, hk⟩ := chk1 (b := b) hp hm ht b.pairs.length 0 x (by omega)
    refine ⟨k + 1, ?_⟩
    rw [paste_Check.l0, if_neg (by omega), List.drop_eq_nil_of_le (by omega)]
    simpa using hk
  | n + 1, i, x, h => by
    have hi : i < b.salts.length := by omega
    have hr : rd_T68 b.salts i = b.salts[i] := by
      unfold rd_T68
      rw [List.getD_eq_getElem?_getD, Int.toNat_natCast, List.getElem?_eq_getElem hi]
      rfl
    rw [drop_all _ hi, ← hr]
    cases x with
    | false =>
      obtain ⟨k, hk⟩ := chk0 hs hp hm ht n (i + 1) false (by omega)
      refine ⟨k + 1, ?_⟩
      rw [paste_Check.l0, if_pos (by omega), if_pos (by omega), if_pos (by omega), if_neg (by simp), wrap_succ hi hs, hk]
      simp
    | true =>
      cases e1 : inB (rd_T68 b.salts i).f0 0 9 with
      | false =>
        obtain ⟨k, hk⟩ := chk0 hs hp hm ht n (i + 1) false (by omega)
        refine ⟨k + 1, ?_⟩
        rw [paste_Check.l0, if_pos (by omega), if_pos (by omega), if_pos (by omega), if_pos rfl, within_eq, Option.bind_some, if_neg (by simp [e1]), wrap_succ hi hs, hk]
        simp [saltB, e1]
      | true =>
        cases e2 : spanB (rd_T68 b.salts i).f1 9 with
        | false =>
          obtain ⟨k, hk⟩ := chk0 hs hp hm ht n (i + 1) false (by omega)
          refine ⟨k + 1, ?_⟩
          have e' : ¬ spanB ⟨(rd_T68 b.salts i).f1.f0, (rd_T68 b.salts i).f1.f1⟩ 9 = true := by
            intro e3; rw [show (⟨(rd_T68 b.salts i).f1.f0, (rd_T68 b.salts i).f1.f1⟩ : S39) = (rd_T68 b.salts i).f1 from rfl, e2] at e3; cases e3
          rw [paste_Check.l0, if_pos (by omega), if_pos (by omega), if_pos (by omega), if_pos rfl, within_eq, Option.bind_some, if_pos e1, isSpan_eq, Option.bind_some, if_neg e', wrap_succ hi hs, hk]
          simp [saltB, e1, e2]
        | true =>
          obtain ⟨k, hk⟩ := chk0 hs hp hm ht n (i + 1) (decide (wrap64 ((rd_T68 b.salts i).f1.f1 - (rd_T68 b.salts i).f1.f0) ≤ 3)) (by omega)
          refine ⟨k + 1, ?_⟩
          rw [paste_Check.l0, if_pos (by omega), if_pos (by omega), if_pos (by omega), if_pos rfl, within_eq, Option.bind_some, if_pos e1, isSpan_eq, Option.bind_some, if_pos e2, wrap_succ hi hs, hk]
          simp [saltB, e1, e2]
theorem check_total (hs : b.salts.length ≤ 9223372036854775807) (hp : b.pairs.length ≤ 9223372036854775807) (hm : b.surfs.length ≤ 9223372036854775807) (ht : b.trials.length ≤ 9223372036854775807) :
    ∃ k, paste_Check.f k b.salts b.pairs b.surfs b.need b.trials = some (if checkB b then 0 else 20) := by
  have hj : ∀ x, ∃ k, paste_Check.j0 k x b.salts b.pairs b.surfs b.need b.trials = some (if x && b.salts.all saltB && (List.range b.pairs.length).all (pairB b) && b.surfs.all surfB && b.trials.all (trialB b) then 0 else 20) := by
    intro x
    obtain ⟨k, hk⟩ := chk0 (b := b) hs hp hm ht b.salts.length 0 x (by omega)
    refine ⟨k + 1, ?_⟩
    rw [paste_Check.j0]
    simpa using hk
  unfold paste_Check.f checkB headB
  simp only [within_eq, Option.bind_some]
  cases e1 : inB b.salts.length 1 4 with
  | false => simpa [e1] using hj false
  | true =>
    by_cases e2 : (b.pairs.length : Int) ≤ 4
    · cases e3 : inB b.surfs.length 1 4 with
      | false => simpa [e1, e2, e3] using hj false
      | true =>
        cases e4 : inB b.need 1 400 with
        | false => simpa [e1, e2, e3, e4] using hj false
        | true => simpa [e1, e2, e3, e4] using hj (decide ((b.trials.length : Int) ≤ 6))
    · simpa [e1, e2] using hj false
theorem check_calls {h : Hd} {w : World} (hb : BkIn w h b) : Calls Tryd.prog 43 #[.agg (h.cells b)] w fun e w' => e = .returned (.int .i64 (if checkB b then 0 else 20)) ∧ Below w.heap.size w w' := by
  obtain ⟨k, hk⟩ := check_total (b := b) (Kd.C_max hb.r0) (Kd.C_max hb.r1) (Kd.C_max hb.r2) (Kd.C_max hb.r4)
  exact paste_Check.calls k h.A0 h.c0 b.salts h.A1 h.c1 b.pairs h.A2 h.c2 b.surfs b.need h.A4 h.c4 b.trials _ w hb.r0 hb.l0 hb.r1 hb.l1 hb.r2 hb.l2 hb.r4 hb.l4 hk
end
end Go.Proofs.YtghpoldlddghjaaDoor
namespace Go.Proofs.YtghpoldlddghjaaDoor
open Go Go.RowKit
open Go.Proofs.YtghpoldlddghjaaDoorW.PrintWords Go.Proofs.YtghpoldlddghjaaDoorW.PrintMore Go.Proofs.YtghpoldlddghjaaDoor.PPasteTrue
theorem cells4 : Tryd.prog.cellsOf 4 = 1 := by kernel_rfl
theorem eqItems_allA (f g : Nat → Bool) (w : World) (d : Nat) : ∀ (is : List Nat), (∀ i ∈ is, i < 512) → (Op.eqItems (d + 1) 4 1 (allA f) (allA g) is).run Tryd.prog w = .ok (is.all fun n => f n == g n) w
  | [], _ => by simp [Op.eqItems]
  | i :: is, h => by
    have hi : i < 512 := h i (by simp)
    have px : ∀ f, (Go.part 4 (allA f) (i * 1)).run Tryd.prog w = .ok (.bool (f i)) w := by
      intro f
      unfold Go.part
      rw [Sem.run_bind, Tryd.isAgg4]
      simp [allA_get f i hi]
    have pe : (Op.equalIn (d + 1) 4 (.bool (f i)) (.bool (g i))).run Tryd.prog w = .ok (f i == g i) w := by
      simp [Op.equalIn, run_underlying Tryd.underlying4]
    simp only [Op.eqItems, Sem.run_bind, px, pe, Result.andThen_ok, List.all_cons]
    cases hb : (f i == g i)
    · simp
    · simpa using eqItems_allA f g w d is (fun j hj => h j (by simp [hj]))
theorem info4 : ∃ i, Tryd.prog.info? 4 = some i := Option.isSome_iff_exists.1 (by kernel_rfl)
theorem x_eqA {o : Oper} {ρ : Operand → Value} {w : World} {x y : Operand} {ty : TypeId} (ho : o.op = .binOp .eql 111 x y ty) {f g : Nat → Bool} (hx : ρ x = .agg (allA f)) (hy : ρ y = .agg (allA g)) :
    (execOp ρ o).run Tryd.prog w = .ok (.value (.bool ((List.range 512).all fun n => f n == g n))) w := by
  obtain ⟨i, hi⟩ := info4
  have h1 : (binOp .eql 111 (.agg (allA f)) (.agg (allA g))).run Tryd.prog w = .ok (.bool ((List.range 512).all fun n => f n == g n)) w := by
    simp only [binOp, Sem.run_bind]
    unfold Op.equal
    rw [show Op.maxDepth = (9998 + 1) + 1 from rfl, run_equalIn_array w (9998 + 1) (allA f) (allA g) Tryd.underlying111 hi, cells4, eqItems_allA f g w 9998 (List.range 512) (fun i hi => List.mem_range.1 hi)]
    rfl
  have h2 : (eqGuard .eql 111 x y (.agg (allA f)) (.agg (allA g))).run Tryd.prog w = .ok () w := by
    unfold eqGuard
    simp
  unfold execOp
  simp only [ho, hx, hy, Sem.run_bind, h2, h1, Result.andThen_ok]
  rfl
def anyB (f : Nat → Bool) : Bool := (List.range 512).any f
def kStep (f : Nat → Bool) (r : Int × Int) (n : Nat) : Int × Int := if f n = true then ((if r.1 < 0 then (n : Int) else r.1), (n : Int)) else r
def kF (f : Nat → Bool) (k : Nat) : Int × Int := (List.range k).foldl (kStep f) (-1, 0)
theorem kF_succ (f : Nat → Bool) (k : Nat) : kF f (k + 1) = kStep f (kF f k) k := by
  unfold kF
  rw [List.range_succ, List.foldl_append]
  rfl
def knownR (f : Nat → Bool) : Int × Int := if anyB f = true then kF f 512 else (0, 0)
structure KInv (w wr : World) (cs : Array Value) (g : Nat) (f : Nat → Bool) : Prop where
  below : Below w.heap.size w wr
  g2 : w.heap.size + 1 < g
  size : g < wr.heap.size
  b0 : wr.heap[w.heap.size]? = some (.cells cs 113 (0, 0))
  b1 : wr.heap[w.heap.size + 1]? = some (.cells #[.int .i64 0, .int .i64 0] 39 (0, 0))
  b4 : wr.heap[g]? = some (.cells (allA f) 111 (0, 0))
theorem KInv.on {w wr w1 : World} {cs : Array Value} {g : Nat} {f : Nat → Bool} (h : KInv w wr cs g f) (hb : Below wr.heap.size wr w1) : KInv w w1 cs g f :=
  ⟨below_step h.below hb, h.g2, Nat.lt_of_lt_of_le h.size hb.size, blk_below h.b0 hb, blk_below h.b1 hb, blk_below h.b4 hb⟩
theorem KInv.set {w wr : World} {cs : Array Value} {g : Nat} {f : Nat → Bool} (h : KInv w wr cs g f) {g5 : Nat} (hg : g < g5) (j : Nat) (v : Value) : KInv w (wr.setCell ⟨g5, j, none⟩ v) cs g f :=
  have h2 := h.g2
  ⟨h.below.setCell (by simp; omega) _, h.g2, by simp; exact h.size, blk_far h.b0 (by simp; omega) _, blk_far h.b1 (by simp; omega) _, blk_far h.b4 (by simp; omega) _⟩
def Kn2 (w : World) (cs : Array Value) (g : Nat) (f : Nat → Bool) (b : Nat → Bool) (a : Act) (wr : World) : Prop :=
  a = ⟨#[.agg cs, .pointer (some ⟨w.heap.size, 0, none⟩), .pointer (some ⟨w.heap.size + 1, 0, none⟩), .bool false, .pointer (some ⟨g, 0, none⟩), undef, undef, undef, .agg cs, .agg (allA f),
    (if b 0 then .agg (allA f) else undef), (if b 1 then .agg noneA else undef), (if b 2 then .bool ((List.range 512).all fun n => f n == false) else undef),
    undef, undef, undef, undef, undef, undef, undef, undef, undef, undef, undef, undef, undef, undef, undef, undef, undef, undef, undef, undef], []⟩ ∧ KInv w wr cs g f
set_option maxRecDepth 20000 in
set_option maxHeartbeats 400000 in
theorem known_calls {cs : Array Value} {h : Hd} {b : Bk} {all : Nat → Bool} {w : World} (hc : IsBook cs h b all) (hb : BkIn w h b) (hs : Small b) :
    Calls Tryd.prog 63 #[.agg cs] w fun e w' => e = .returned (.tuple #[.agg (s39 (knownR (possB b all))), .bool (anyB (possB b all))]) ∧ Below w.heap.size w w' := by
  have HI := Lib.hid (show (Tryd.prog.info? 113).map (·.size) = some cs.size by rw [hc.size]; exact i113)
  go_enter Tryd.func63, Tryd.ntmps63
  refine wp_seq_k fun K hK => ?_
  refine wp_region_lit ?_
  refine b_box (t := 113) rfl rfl rfl ?_
  refine b_alloc rfl rfl Tryd.zeroValue39 ?_
  refine b_value rfl (x_assign (.inl rfl)) ?_
  refine wpList_nil ?_
  refine hK _ _ ?_
  clear hK K
  refine wp_seq_k fun K hK => ?_
  refine wp_region_lit ?_
  refine wpList_load_row rfl 113 _ rfl w.heap.size rfl 113 cs (0, 0) _ (blk_alloc (new_at rfl) _) Tryd.underlying113 rfl HI.out ?_
  refine b_call rfl (run_call Tryd.func103 (by kernel_rfl) rfl rfl rfl (args := #[.agg cs]) (by simp [Act.put, Act.eval])) ((possible_calls hc (hb.below ((below_alloc (Below.refl _ _) _).alloc (by simp) _)) hs).mono ?_)
  rintro e w1 ⟨rfl, hb1⟩
  refine ⟨_, rfl, ?_⟩
  obtain ⟨f, hf⟩ : ∃ f, f = possB b all := ⟨_, rfl⟩
  rw [← hf]
  refine b_alloc rfl rfl zeroN ?_
  refine b_skip rfl (x_store (g := w1.heap.size) rfl rfl rfl (new_at rfl) (allA_i _) (by rw [allA_size]; exact allA_size _) (allA_one _)) ?_
  refine wpList_nil ?_
  refine hK _ _ ?_
  clear hK K
  have hbel : Below w.heap.size w w1 := below_step ((below_alloc (Below.refl _ _) _).alloc (by simp) _) hb1
  have hz1 : w.heap.size + 2 ≤ w1.heap.size := by have := hb1.size; simp at this; omega
  have hI0 : KInv w ((w1.alloc (.cells noneA 111)).setRow w1.heap.size (allA f)) cs w1.heap.size f := by
    refine ⟨below_row (hbel.alloc (by omega) _) (by omega) _, by omega, by simp, ?_, ?_, setRow_heap _ _ _ _ _ _ (new_at rfl)⟩
    · rw [setRow_other _ _ _ _ (by omega)]
      exact blk_alloc (blk_below (blk_alloc (new_at rfl) _) hb1) _
    · rw [setRow_other _ _ _ _ (by omega)]
      exact blk_alloc (blk_below (new_at (by simp)) hb1) _
  generalize (w1.alloc (.cells noneA 111)).setRow w1.heap.size (allA f) = w2 at hI0 ⊢
  generalize w1.heap.size = g at hI0 ⊢
  clear hb1 hbel hz1
  refine wp_seq_k fun K hK => ?_
  refine wp_seq_k fun K2 hK2 => ?_
  refine draw_inv mixed (by kernel_rfl) (Kn2 w cs g f) ?_ ?_ ?_
  · exact ⟨by simp [Act.put, Act.eval], hI0.on ((Below.refl _ _).drew)⟩
  · intro i hi bb a wr hI hbi hcame
    obtain ⟨rfl, hp⟩ := hI
    rcases i with _ | _ | _ | i
    · exact op_value rfl rfl (x_load rfl rfl hp.b4 Tryd.underlying111 rfl (allA_i _)) ⟨by simp [Act.put, upd], hp⟩
    · refine op_call rfl rfl (run_call Tryd.func99 (by kernel_rfl) rfl rfl rfl (args := #[]) (by simp)) ((none_calls _).mono ?_)
      rintro e w1 ⟨rfl, hb1⟩
      exact ⟨_, rfl, by simp [Act.put, upd], hp.on hb1⟩
    · have h01 : bb 0 = true ∧ bb 1 = true := by simpa [Came, Region.binds] using hcame
      exact op_value rfl rfl (x_eqA (f := f) (g := fun _ => false) rfl (by simp [Act.eval, h01]) (by simp [Act.eval, h01, noneA])) ⟨by simp [Act.put, upd], hp⟩
    · simp at hi; omega
  · intro bb a w3 hI hall
    obtain ⟨rfl, hp⟩ := hI
    refine hK2 _ _ ?_
    clear hK2 K2
    simp only [hall 0 (by simp), hall 1 (by simp), hall 2 (by simp), if_true]
    cases hany : anyB f with
    | false =>
      have ht : ((List.range 512).all fun n => f n == false) = true := by
        unfold anyB at hany
        rw [List.any_eq_false] at hany
        rw [List.all_eq_true]
        intro n hn
        have := hany n hn
        cases hf : f n <;> simp_all
      rw [ht]
      have HF := Lib.hid hf
      have HN := Lib.hid (show knownR f = (0, 0) by simp [knownR, hany])
      have HA := Lib.hid hany
      have HP := Lib.hid hp
      have hp2 := hp.size
      have hp3 := hp.g2
      have c0 := (blk_cell hp.b1 0).trans rfl
      have c1 := (blk_cell hp.b1 1).trans rfl
      have f0 := blk_frozen hp.b1 0
      have f1 := blk_frozen hp.b1 1
      clear hp hI0 hany ht hall hf
      go_wp2
      refine bodyPost_ret (v := .tuple #[.agg #[.int .i64 0, .int .i64 0], .bool false]) (res_cell_tmp Tryd.results63 _ _ (w.heap.size + 1) 39 _ (0, 0) _ rfl (blk_set (blk_set HP.out.b1 0 _) 1 _) Tryd.underlying39 rfl (by kernel_rfl)) rfl ⟨?_, ?_⟩
      · rw [← HF.out, HN.out, HA.out]
        rfl
      · exact (HP.out.below.setCell (by simp) _).setCell (by simp) _
    | true =>
      have ht : ((List.range 512).all fun n => f n == false) = false := by
        unfold anyB at hany
        obtain ⟨n, hn, h2⟩ := List.any_eq_true.1 hany
        rw [List.all_eq_false]
        exact ⟨n, hn, by simp [h2]⟩
      rw [ht]
      have HF := Lib.hid hf
      have HN := Lib.hid (show knownR f = kF f 512 by simp [knownR, hany])
      have HA := Lib.hid hany
      have HP := Lib.hid hp
      have hp2 := hp.size
      have hp3 := hp.g2
      clear hp hI0 hany ht hall hf
      have b40 := HP.out.b4
      have HB4 := Lib.hid b40
      clear b40
      go_wp2_with (first | ((with_reducible refine gate_dst (N := 15) rfl ?_); refine wpList_load_row rfl 111 _ rfl g rfl 111 _ (0, 0) _ (blk_alloc HB4.out _) Tryd.underlying111 rfl (allA_i _) ?_))
      go_loopw [16] (fun i wk => ∃ k : Nat, k ≤ 512 ∧ i = .int .i64 k ∧ Aside0 (KInv w wk cs g f) ∧ Aside0 (w3.heap.size < wk.heap.size) ∧ Aside0 (wk.heap[w3.heap.size]? = some (.cells #[.int .i64 (kF f k).1, .int .i64 (kF f k).2] 39 (0, 0)))) (fun i _ => 512 - (intOf i).toNat)
      case atStart => exact ⟨0, Nat.zero_le _, rfl, ⟨HP.out.on (below_alloc (Below.refl _ _) _)⟩, ⟨by simp⟩, ⟨new_at rfl⟩⟩
      case round =>
        clear HP HB4
        obtain ⟨k, hk, rfl, HV, HS, HG⟩ := hrel
        obtain ⟨lo, hi1, hlh⟩ : ∃ lo hi1, kF f k = (lo, hi1) := ⟨_, _, rfl⟩
        rw [hlh] at HG
        have HL := Lib.hid hlh
        clear hlh
        have HG' := HG.out
        have hsz := HS.out
        have c0 := (blk_cell HG' 0).trans rfl
        have c1 := (blk_cell HG' 1).trans rfl
        have f0 := blk_frozen HG' 0
        have f1 := blk_frozen HG' 1
        clear HG'
        by_cases hlt : k < 512
        · have HX := Lib.hid (allA_index f k hlt)
          cases hfk : f k with
          | true =>
            rw [hfk] at HX
            have HE := Lib.hid hfk
            clear hfk
            by_cases hlo : lo < 0
            · go_wp2_with (first | ((with_reducible refine gate_dst (N := 19) rfl ?_); refine b_value rfl (x_index rfl rfl rfl (HX.out wr)) ?_))
              go_roundw
              case rel =>
                refine ⟨k + 1, by omega, by go_num, ⟨(HV.out.set hp2 _ _).set hp2 _ _⟩, ⟨by simpa using hsz⟩, ⟨?_⟩⟩
                refine blk_put (blk_set HG.out 0 _) 1 _ ?_
                rw [kF_succ, HL.out]
                simp [kStep, HE.out, hlo]
              case measure => simp [intOf]; omega
            · go_wp2_with (first | ((with_reducible refine gate_dst (N := 19) rfl ?_); refine b_value rfl (x_index rfl rfl rfl (HX.out wr)) ?_))
              go_roundw
              case rel =>
                refine ⟨k + 1, by omega, by go_num, ⟨HV.out.set hp2 _ _⟩, ⟨by simpa using hsz⟩, ⟨?_⟩⟩
                refine blk_put HG.out 1 _ ?_
                rw [kF_succ, HL.out]
                simp [kStep, HE.out, hlo]
              case measure => simp [intOf]; omega
          | false =>
            rw [hfk] at HX
            have HE := Lib.hid hfk
            clear hfk
            go_wp2_with (first | ((with_reducible refine gate_dst (N := 19) rfl ?_); refine b_value rfl (x_index rfl rfl rfl (HX.out wr)) ?_))
            go_roundw
            case rel =>
              refine ⟨k + 1, by omega, by go_num, HV, ⟨hsz⟩, ⟨?_⟩⟩
              rw [kF_succ, HL.out]
              simpa [kStep, HE.out] using HG.out
            case measure => simp [intOf]; omega
        · obtain rfl : k = 512 := by omega
          have d0 := (blk_cell HV.out.b1 0).trans rfl
          have d1 := (blk_cell HV.out.b1 1).trans rfl
          have e0 := blk_frozen HV.out.b1 0
          have e1 := blk_frozen HV.out.b1 1
          go_wp2
          refine bodyPost_ret (v := .tuple #[.agg (s39 (lo, hi1)), .bool true]) (res_cell_tmp Tryd.results63 _ _ (w.heap.size + 1) 39 _ (0, 0) _ rfl (blk_set (blk_set HV.out.b1 0 _) 1 _) Tryd.underlying39 rfl (by kernel_rfl)) rfl ⟨?_, ?_⟩
          · rw [← HF.out, HN.out, HA.out, HL.out]
          · exact (HV.out.below.setCell (by simp) _).setCell (by simp) _
end Go.Proofs.YtghpoldlddghjaaDoor
namespace Go.Proofs.YtghpoldlddghjaaDoor
open Go Go.RowKit
open Go.Proofs.YtghpoldlddghjaaDoorW.PrintWords Go.Proofs.YtghpoldlddghjaaDoorW.PrintMore Go.Proofs.YtghpoldlddghjaaDoor.PPasteTrue
def EndOf (f : Nat) (sel : Int × Int → Int) : Prop :=
  (∃ fn, Tryd.prog.funcs[f]? = some fn ∧ (fn.name == "runtime.NumGoroutine") = false ∧ fn.body.isSome = true) ∧
  ∀ (r : Int × Int) (w : World), Calls Tryd.prog f #[.agg (s39 r)] w fun e w' => e = .returned (.int .i64 (sel r)) ∧ Below w.heap.size w w'
theorem low1_calls (r : Int × Int) (w : World) : Calls Tryd.prog 139 #[.agg (s39 r)] w fun e w' => e = .returned (.int .i64 r.1) ∧ Below w.heap.size w w' := by
  unfold s39
  go_enter Tryd.func139, Tryd.ntmps139
  go_wp2
  go_ret
  exact ⟨rfl, below_alloc (Below.refl _ _) _⟩
theorem high1_calls (r : Int × Int) (w : World) : Calls Tryd.prog 138 #[.agg (s39 r)] w fun e w' => e = .returned (.int .i64 r.2) ∧ Below w.heap.size w w' := by
  unfold s39
  go_enter Tryd.func138, Tryd.ntmps138
  go_wp2
  go_ret
  exact ⟨rfl, below_alloc (Below.refl _ _) _⟩
theorem end_low : EndOf 139 (fun r => r.1) := ⟨⟨_, Tryd.func139, by kernel_rfl, rfl⟩, low1_calls⟩
theorem end_high : EndOf 138 (fun r => r.2) := ⟨⟨_, Tryd.func138, by kernel_rfl, rfl⟩, high1_calls⟩
abbrev fnV (f : Nat) : Value := .func (.func f) #[] #[]
theorem low_calls (w : World) : Calls Tryd.prog 137 #[] w fun e w' => e = .returned (.agg #[fnV 139]) ∧ Below w.heap.size w w' := by
  go_enter Tryd.func137, Tryd.ntmps137
  refine wp_seq_k fun K hK => ?_
  refine wp_region_lit ?_
  refine b_alloc rfl rfl Tryd.zeroValue195 ?_
  refine wpList_nil ?_
  refine hK _ _ ?_
  clear hK K
  refine wp_seq_k fun K hK => ?_
  refine wp_region_lit ?_
  refine b_value rfl (v := .agg #[fnV 139]) (w1 := w.alloc (.cells #[.nilFunc] 195)) (by go_simp) ?_
  refine b_skip rfl (x_store (g := w.heap.size) (cells := #[fnV 139]) rfl rfl rfl (new_at rfl) (by kernel_rfl) rfl (by simp [Value.oneCell'])) ?_
  refine wpList_nil ?_
  refine hK _ _ ?_
  refine wp_ret ?_
  refine bodyPost_ret (v := .agg #[fnV 139]) (results_cell_row Tryd.results137 _ _ w.heap.size 195 _ (0, 0) _ rfl (setRow_heap _ _ _ _ _ _ (new_at rfl)) Tryd.underlying195 rfl (by kernel_rfl)) rfl ⟨rfl, ?_⟩
  exact below_row (below_alloc (Below.refl _ _) _) (Nat.le_refl _) _
theorem high_calls (w : World) : Calls Tryd.prog 136 #[] w fun e w' => e = .returned (.agg #[fnV 138]) ∧ Below w.heap.size w w' := by
  go_enter Tryd.func136, Tryd.ntmps136
  refine wp_seq_k fun K hK => ?_
  refine wp_region_lit ?_
  refine b_alloc rfl rfl Tryd.zeroValue195 ?_
  refine wpList_nil ?_
  refine hK _ _ ?_
  clear hK K
  refine wp_seq_k fun K hK => ?_
  refine wp_region_lit ?_
  refine b_value rfl (v := .agg #[fnV 138]) (w1 := w.alloc (.cells #[.nilFunc] 195)) (by go_simp) ?_
  refine b_skip rfl (x_store (g := w.heap.size) (cells := #[fnV 138]) rfl rfl rfl (new_at rfl) (by kernel_rfl) rfl (by simp [Value.oneCell'])) ?_
  refine wpList_nil ?_
  refine hK _ _ ?_
  refine wp_ret ?_
  refine bodyPost_ret (v := .agg #[fnV 138]) (results_cell_row Tryd.results136 _ _ w.heap.size 195 _ (0, 0) _ rfl (setRow_heap _ _ _ _ _ _ (new_at rfl)) Tryd.underlying195 rfl (by kernel_rfl)) rfl ⟨rfl, ?_⟩
  exact below_row (below_alloc (Below.refl _ _) _) (Nat.le_refl _) _
theorem rubF_bound (need p s : Int) (x : S47) (hn0 : 0 ≤ need) (hn1 : need ≤ 1000) (hp0 : 0 ≤ p) (hp1 : p ≤ 1000)
    (hx : 0 ≤ x.f0.f0 ∧ x.f0.f0 ≤ 1000 ∧ 0 ≤ x.f0.f1 ∧ x.f0.f1 ≤ 1000 ∧ 0 ≤ x.f1.f0 ∧ x.f1.f0 ≤ 1000 ∧ 0 ≤ x.f1.f1 ∧ x.f1.f1 ≤ 1000) (ts : List S59) :
    -5000 ≤ (rubF need p s x ts).1 ∧ (rubF need p s x ts).1 ≤ 5000 ∧ -5000 ≤ (rubF need p s x ts).2 ∧ (rubF need p s x ts).2 ≤ 5000 := by
  unfold rubF
  have key : ∀ (ts : List S59) (r : Int × Int), (-5000 ≤ r.1 ∧ r.1 ≤ 5000 ∧ -5000 ≤ r.2 ∧ r.2 ≤ 5000) → (-5000 ≤ (ts.foldl (rubStep need p s x) r).1 ∧ (ts.foldl (rubStep need p s x) r).1 ≤ 5000 ∧ -5000 ≤ (ts.foldl (rubStep need p s x) r).2 ∧ (ts.foldl (rubStep need p s x) r).2 ≤ 5000) := by
    intro ts
    induction ts with
    | nil => intro r h; exact h
    | cons t ts ih =>
      intro r h
      rw [List.foldl_cons]
      refine ih _ ?_
      unfold rubStep mx mn
      split
      · split
        · dsimp only
          split <;> omega
        · dsimp only
          split <;> omega
      · exact h
  exact key ts _ (by dsimp only; omega)
structure RInv (w wr : World) (cs : Array Value) (f1 f2 : Nat) : Prop where
  below : Below w.heap.size w wr
  size : w.heap.size + 1 + 1 < wr.heap.size
  b0 : wr.heap[w.heap.size]? = some (.cells cs 113 (0, 0))
  b1 : wr.heap[w.heap.size + 1]? = some (.cells #[fnV f1] 195 (0, 0))
  b2 : wr.heap[w.heap.size + 1 + 1]? = some (.cells #[fnV f2] 195 (0, 0))
theorem RInv.on {w wr w1 : World} {cs : Array Value} {f1 f2 : Nat} (h : RInv w wr cs f1 f2) (hb : Below wr.heap.size wr w1) : RInv w w1 cs f1 f2 :=
  ⟨below_step h.below hb, Nat.lt_of_lt_of_le h.size hb.size, blk_below h.b0 hb, blk_below h.b1 hb, blk_below h.b2 hb⟩
def reachFr (w : World) (cs : Array Value) (f1 f2 : Nat) (k : Nat) (p : Int) (A2 : Option Addr) (n c2 : Nat) (ad : Addr) (r d : Int × Int) (x y : Int) (b : Nat → Bool) : Act :=
  ⟨#[.agg cs, .int .i64 k, .int .i64 p, .agg #[fnV f1], .agg #[fnV f2], .pointer (some ⟨w.heap.size, 0, none⟩), undef, undef, .pointer (some ⟨w.heap.size + 1, 0, none⟩), .pointer (some ⟨w.heap.size + 1 + 1, 0, none⟩),
    (if b 20 then .int .i64 (p + x - y) else .int .i64 0), (if b 0 then .int .i64 p else undef), (if b 1 then .pointer (some ⟨w.heap.size + 1, 0, none⟩) else undef), (if b 2 then fnV f1 else undef), (if b 3 then .agg cs else undef),
    (if b 4 then .int .i64 k else undef), (if b 5 then .int .i64 p else undef), (if b 6 then .agg (s39 r) else undef), (if b 7 then .int .i64 x else undef), (if b 8 then .int .i64 (p + x) else undef),
    (if b 9 then .pointer (some ⟨w.heap.size + 1 + 1, 0, none⟩) else undef), (if b 10 then fnV f2 else undef), (if b 11 then .pointer (some ⟨w.heap.size, 0, none⟩) else undef), (if b 12 then .pointer (some ⟨w.heap.size, 2, none⟩) else undef),
    (if b 13 then .slice A2 n c2 else undef), (if b 14 then .int .i64 k else undef), (if b 15 then .pointer (some ad) else undef), (if b 16 then .pointer (some ⟨ad.block, ad.off + 2, none⟩) else undef), (if b 17 then .agg (s39 d) else undef), (if b 18 then .int .i64 y else undef), (if b 19 then .int .i64 (p + x - y) else undef)], []⟩
set_option maxRecDepth 20000 in
set_option maxHeartbeats 800000 in
theorem reach_calls {cs : Array Value} {h : Hd} {b : Bk} {all : Nat → Bool} {w : World} (hc : IsBook cs h b all) (hb : BkIn w h b) (hs : Small b) (k : Nat) (hk : k < b.surfs.length) (p : Int) (hp0 : 0 ≤ p) (hp1 : p ≤ 1000)
    {f1 f2 : Nat} {sel1 sel2 : Int × Int → Int} (h1 : EndOf f1 sel1) (h2 : EndOf f2 sel2) (hs1 : ∀ r, sel1 r = r.1 ∨ sel1 r = r.2) (hs2 : ∀ r, sel2 r = r.1 ∨ sel2 r = r.2) :
    Calls Tryd.prog 135 #[.agg cs, .int .i64 k, .int .i64 p, .agg #[fnV f1], .agg #[fnV f2]] w fun e w' =>
      e = .returned (.int .i64 (p + sel1 (rubs b k p) - sel2 ((rd_T47 b.surfs k).f1.f0, (rd_T47 b.surfs k).f1.f1))) ∧ Below w.heap.size w w' := by
  have HI := Lib.hid (show (Tryd.prog.info? 113).map (·.size) = some cs.size by rw [hc.size]; exact i113)
  have hx := hs.s _ (rd47_mem (xs := b.surfs) (i := k) (by omega) (by omega))
  have hbd := rubF_bound b.need p k (rd_T47 b.surfs k) hs.n0 hs.n1 hp0 hp1 hx b.trials
  obtain ⟨ad, hA2, q0, q1, q2, q3⟩ := at_T47 hb.r2 k (by omega) (by omega)
  simp only [Int.toNat_natCast] at q0 q1 q2 q3
  obtain ⟨ad1, had1⟩ : ∃ ad1, ad1 = ad.add (k * 4) := ⟨_, rfl⟩
  rw [← had1] at q0 q1 q2 q3
  have e1 : ad1.block < w.heap.size := World.block_lt_of_cell? w _ q0
  have hr : ∃ r, r = rubs b k p := ⟨_, rfl⟩
  obtain ⟨r, hr⟩ := hr
  have hd : ∃ d : Int × Int, d = ((rd_T47 b.surfs k).f1.f0, (rd_T47 b.surfs k).f1.f1) := ⟨_, rfl⟩
  obtain ⟨d, hd⟩ := hd
  rw [← hr, ← hd]
  have hx1 : ∃ x, x = sel1 r := ⟨_, rfl⟩
  obtain ⟨x, hx1⟩ := hx1
  have hy1 : ∃ y, y = sel2 d := ⟨_, rfl⟩
  obtain ⟨y, hy1⟩ := hy1
  rw [← hx1, ← hy1]
  have bx : -5000 ≤ x ∧ x ≤ 5000 := by
    have := hs1 r
    rw [← hx1] at this
    have h3 : rubs b k p = rubF b.need p k (rd_T47 b.surfs k) b.trials := rfl
    rw [← h3, ← hr] at hbd
    omega
  have by1 : 0 ≤ y ∧ y ≤ 1000 := by
    have := hs2 d
    rw [← hy1, hd] at this
    dsimp only at this
    omega
  have w1 : IntKind.i64.wrap (p + x) = p + x := IntWalk.i64_in _ (by omega)
  have w2 : IntKind.i64.wrap (p + x - y) = p + x - y := IntWalk.i64_in _ (by omega)
  have HR := Lib.hid hr
  have HD := Lib.hid hd
  have HX1 := Lib.hid hx1
  have HY1 := Lib.hid hy1
  have HA1 := Lib.hid had1
  have HA2 := Lib.hid hA2
  clear hr hd hx1 hy1 had1 hA2
  go_enter Tryd.func135, Tryd.ntmps135
  refine wp_seq_k fun K hK => ?_
  refine wp_region_lit ?_
  refine b_box (t := 113) rfl rfl rfl ?_
  refine b_box (t := 195) rfl rfl rfl ?_
  refine b_box (t := 195) rfl rfl rfl ?_
  refine b_value rfl (x_assign (.inl rfl)) ?_
  refine wpList_nil ?_
  refine hK _ _ ?_
  clear hK K
  refine wp_seq_k fun K hK => ?_
  refine draw_inv mixed (by kernel_rfl) (fun bb a wr => a = reachFr w cs f1 f2 k p h.A2 b.surfs.length h.c2 ad1 r d x y bb ∧ RInv w wr cs f1 f2) ?_ ?_ ?_
  · refine ⟨by simp [Act.put, Act.eval, reachFr], ?_⟩
    refine ⟨((((Below.refl _ _).alloc (Nat.le_refl _) _).alloc (by simp) _).alloc (by simp; omega) _).drew, by simp, blk_drew (blk_alloc (blk_alloc (new_at rfl) _) _), blk_drew (blk_alloc (new_at (by simp)) _), blk_drew (new_at (by simp))⟩
  · intro i hi bb a wr hI hbi hcame
    obtain ⟨rfl, hp⟩ := hI
    rcases i with _ | _ | _ | _ | _ | _ | _ | _ | _ | _ | _ | _ | _ | _ | _ | _ | _ | _ | _ | _ | _ | i
    · exact op_value rfl rfl (x_assign (.inr rfl)) ⟨by simp [reachFr, Act.put, Act.eval, upd], hp⟩
    · exact op_value rfl rfl (v := .pointer (some ⟨w.heap.size + 1, 0, none⟩)) (w1 := wr) (by unfold reachFr; go_simp) ⟨by simp [reachFr, Act.put, Act.eval, upd], hp⟩
    · have hh := hcame
      simp [Came, Region.binds] at hh
      have c0 := (blk_cell hp.b1 0).trans rfl
      exact op_value rfl rfl (v := fnV f1) (w1 := wr) (by unfold reachFr; simp only [hh, if_true]; go_simp) ⟨by simp [reachFr, Act.put, Act.eval, upd], hp⟩
    · exact op_value rfl rfl (x_load rfl (by simp [reachFr, Act.eval]) hp.b0 Tryd.underlying113 rfl HI.out) ⟨by simp [reachFr, Act.put, Act.eval, upd], hp⟩
    · exact op_value rfl rfl (x_assign (.inr rfl)) ⟨by simp [reachFr, Act.put, Act.eval, upd], hp⟩
    · exact op_value rfl rfl (x_assign (.inr rfl)) ⟨by simp [reachFr, Act.put, Act.eval, upd], hp⟩
    · have hh := hcame
      simp [Came, Region.binds] at hh
      refine op_call rfl rfl (run_call Tryd.func116 (by kernel_rfl) rfl rfl rfl (args := #[.agg cs, .int .i64 k, .int .i64 p]) (by simp [reachFr, Act.eval, hh])) ((rubs_book hc (hb.below hp.below) hs k hk p hp0 hp1).mono ?_)
      rintro e wq ⟨rfl, hb1⟩
      rw [← HR.out]
      exact ⟨_, rfl, by simp [reachFr, Act.put, Act.eval, upd], hp.on hb1⟩
    · have hh := hcame
      simp [Came, Region.binds] at hh
      obtain ⟨⟨fn, hfn, hnm, hbo⟩, hcalls⟩ := h1
      refine op_call rfl rfl (run_call hfn hnm hbo rfl (first := #[]) (captured := #[]) (by simp [reachFr, Act.eval, hh]) (args := #[.agg (s39 r)]) (by simp [reachFr, Act.eval, hh])) ((hcalls r _).mono ?_)
      rintro e wq ⟨rfl, hb1⟩
      rw [← HX1.out]
      exact ⟨_, rfl, by simp [reachFr, Act.put, Act.eval, upd], hp.on hb1⟩
    · have hh := hcame
      simp [Came, Region.binds] at hh
      exact op_value rfl rfl (v := .int .i64 (p + x)) (w1 := wr) (by unfold reachFr; simp only [hh, if_true]; go_simp) ⟨by simp [reachFr, Act.put, Act.eval, upd], hp⟩
    · exact op_value rfl rfl (v := .pointer (some ⟨w.heap.size + 1 + 1, 0, none⟩)) (w1 := wr) (by unfold reachFr; go_simp) ⟨by simp [reachFr, Act.put, Act.eval, upd], hp⟩
    · have hh := hcame
      simp [Came, Region.binds] at hh
      have c0 := (blk_cell hp.b2 0).trans rfl
      exact op_value rfl rfl (v := fnV f2) (w1 := wr) (by unfold reachFr; simp only [hh, if_true]; go_simp) ⟨by simp [reachFr, Act.put, Act.eval, upd], hp⟩
    · exact op_value rfl rfl (v := .pointer (some ⟨w.heap.size, 0, none⟩)) (w1 := wr) (by unfold reachFr; go_simp) ⟨by simp [reachFr, Act.put, Act.eval, upd], hp⟩
    · have hh := hcame
      simp [Came, Region.binds] at hh
      exact op_value rfl rfl (v := .pointer (some ⟨w.heap.size, 2, none⟩)) (w1 := wr) (by unfold reachFr; simp only [hh, if_true]; go_simp) ⟨by simp [reachFr, Act.put, Act.eval, upd], hp⟩
    · have hh := hcame
      simp [Came, Region.binds] at hh
      have c2 := (blk_cell hp.b0 2).trans hc.c2
      exact op_value rfl rfl (v := .slice h.A2 b.surfs.length h.c2) (w1 := wr) (by unfold reachFr; simp only [hh, if_true]; go_simp) ⟨by simp [reachFr, Act.put, Act.eval, upd], hp⟩
    · exact op_value rfl rfl (x_assign (.inr rfl)) ⟨by simp [reachFr, Act.put, Act.eval, upd], hp⟩
    · have hh := hcame
      simp [Came, Region.binds] at hh
      have hkk : (0 : Int) ≤ (k : Int) ∧ (k : Int) < (b.surfs.length : Int) := by omega
      exact op_value rfl rfl (v := .pointer (some ad1)) (w1 := wr) (by unfold reachFr; rw [HA2.out, HA1.out]; simp only [hh, if_true]; go_simp) ⟨by simp [reachFr, Act.put, Act.eval, upd], hp⟩
    · have hh := hcame
      simp [Came, Region.binds] at hh
      exact op_value rfl rfl (v := .pointer (some ⟨ad1.block, ad1.off + 2, none⟩)) (w1 := wr) (by unfold reachFr; simp only [hh, if_true]; go_simp) ⟨by simp [reachFr, Act.put, Act.eval, upd], hp⟩
    · have hh := hcame
      simp [Came, Region.binds] at hh
      have t2 := (hp.below.cell (p := ⟨ad1.block, ad1.off + 2, none⟩) e1).trans q2
      have t3 : wr.cell? ⟨ad1.block, ad1.off + 2 + 1, none⟩ = _ := (hp.below.cell (p := ⟨ad1.block, ad1.off + 3, none⟩) e1).trans q3
      exact op_value rfl rfl (v := .agg (s39 d)) (w1 := wr) (by unfold reachFr; rw [HD.out]; simp only [hh, if_true, s39]; go_simp) ⟨by simp [reachFr, Act.put, Act.eval, upd], hp⟩
    · have hh := hcame
      simp [Came, Region.binds] at hh
      obtain ⟨⟨fn, hfn, hnm, hbo⟩, hcalls⟩ := h2
      refine op_call rfl rfl (run_call hfn hnm hbo rfl (first := #[]) (captured := #[]) (by simp [reachFr, Act.eval, hh]) (args := #[.agg (s39 d)]) (by simp [reachFr, Act.eval, hh])) ((hcalls d _).mono ?_)
      rintro e wq ⟨rfl, hb1⟩
      rw [← HY1.out]
      exact ⟨_, rfl, by simp [reachFr, Act.put, Act.eval, upd], hp.on hb1⟩
    · have hh := hcame
      simp [Came, Region.binds] at hh
      exact op_value rfl rfl (v := .int .i64 (p + x - y)) (w1 := wr) (by unfold reachFr; simp only [hh, if_true]; go_simp) ⟨by simp [reachFr, Act.put, Act.eval, upd], hp⟩
    · have hh := hcame
      simp [Came, Region.binds] at hh
      exact op_value rfl rfl (x_assign (.inl rfl)) ⟨by simp [reachFr, Act.put, Act.eval, upd, hh], hp⟩
    · simp at hi; omega
  · intro bb a wr hI hall
    obtain ⟨rfl, hp⟩ := hI
    refine hK _ _ ?_
    refine wp_ret ?_
    refine bodyPost_ret (v := .int .i64 (p + x - y)) ?_ rfl ⟨rfl, hp.below⟩
    rw [results_tmp Tryd.results135]
    simp [reachFr, hall 20 (by simp)]
end Go.Proofs.YtghpoldlddghjaaDoor
namespace Go.Proofs.YtghpoldlddghjaaDoor
open Go Go.RowKit
open Go.Proofs.YtghpoldlddghjaaDoorW.PrintWords Go.Proofs.YtghpoldlddghjaaDoorW.PrintMore Go.Proofs.YtghpoldlddghjaaDoor.PPasteTrue
def lowR (b : Bk) (k : Nat) (n : Nat) : Int := n + (rubs b k n).1 - (rd_T47 b.surfs k).f1.f1
def highR (b : Bk) (k : Nat) (n : Nat) : Int := n + (rubs b k n).2 - (rd_T47 b.surfs k).f1.f0
def surelyB (b : Bk) (all : Nat → Bool) (k : Nat) : Bool := (List.range 512).all fun n => !possB b all n || decide (b.need ≤ lowR b k n)
def perhapsB (b : Bk) (all : Nat → Bool) (k : Nat) : Bool := (List.range 512).any fun n => possB b all n && decide (b.need ≤ highR b k n)
set_option maxRecDepth 20000 in
set_option maxHeartbeats 800000 in
theorem surely_calls {cs : Array Value} {h : Hd} {b : Bk} {all : Nat → Bool} {w : World} (hc : IsBook cs h b all) (hb : BkIn w h b) (hs : Small b) (k : Nat) (hk : k < b.surfs.length) :
    Calls Tryd.prog 134 #[.agg cs, .int .i64 k] w fun e w' => e = .returned (.bool (surelyB b all k)) ∧ Below w.heap.size w w' := by
  have HI := Lib.hid (show (Tryd.prog.info? 113).map (·.size) = some cs.size by rw [hc.size]; exact i113)
  obtain ⟨f, hf⟩ : ∃ f, f = possB b all := ⟨_, rfl⟩
  have HF := Lib.hid hf
  clear hf
  go_enter Tryd.func134, Tryd.ntmps134
  go_wp2_with (first | (with_reducible refine b_box (t := 113) rfl rfl rfl ?_) | ((with_reducible refine gate_dst (N := 7) rfl ?_); refine wpList_load_row rfl 113 _ rfl w.heap.size rfl 113 cs (0, 0) _ (new_at rfl) Tryd.underlying113 rfl HI.out ?_) | (go_at_call 103; refine (possible_calls hc (hb.below (below_alloc (Below.refl _ _) _)) hs).mono ?_; rintro e w1 ⟨rfl, hb1⟩; rw [← HF.out]))
  have hV : OneInv w w1 cs := (OneInv.start w cs).on hb1
  clear hb1
  go_loopw [9] (fun i wr => ∃ j : Nat, j ≤ 512 ∧ i = .int .i64 j ∧ Aside0 (OneInv w wr cs) ∧ Aside0 (∀ m, m < j → f m = true → b.need ≤ lowR b k m)) (fun i _ => 512 - (intOf i).toNat)
  case atStart => exact ⟨0, Nat.zero_le _, rfl, ⟨hV⟩, ⟨fun m hm => by omega⟩⟩
  case round =>
    clear hV
    obtain ⟨j, hj, rfl, HV, HA⟩ := hrel
    by_cases hlt : j < 512
    · have HX := Lib.hid (allA_index f j hlt)
      cases hfj : f j with
      | false =>
        rw [hfj] at HX
        have HE := Lib.hid hfj
        clear hfj
        go_wp2_with (first | ((with_reducible refine gate_dst (N := 12) rfl ?_); refine b_value rfl (x_index rfl rfl rfl (HX.out wr)) ?_))
        rename_i K hK
        refine draw_inv mixed (by kernel_rfl) (fun bb a wq => a = ⟨#[.agg cs, .int .i64 k, .pointer (some ⟨w.heap.size, 0, none⟩), undef, u4, .int .i64 j, .bool false, .agg cs, .agg (allA f), .int .i64 j, .bool true, .int .i64 j, .bool false, (if bb 0 then .bool false else u13), (if bb 1 then .bool false else u14), (if bb 2 then undef else u15), (if bb 3 then undef else u16), (if bb 4 then undef else u17), (if bb 5 then undef else u18), (if bb 6 then undef else u19), (if bb 7 then undef else u20), (if bb 8 then undef else u21), (if bb 9 then undef else u22), (if bb 10 then undef else u23), (if bb 11 then undef else u24), (if bb 12 then .bool false else u25), u26], []⟩ ∧ OneInv w wq cs) ?_ ?_ ?_
        · exact ⟨by simp, HV.out.on (Below.refl _ _).drew⟩
        · intro i hi bb a wq hI hbi hcame
          obtain ⟨rfl, hp⟩ := hI
          rcases i with _ | _ | _ | _ | _ | _ | _ | _ | _ | _ | _ | _ | _ | i
          · exact op_value rfl rfl (x_assign (.inr rfl)) ⟨by simp [Act.put, Act.eval, upd], hp⟩
          · have hh := hcame
            simp [Came, Region.binds] at hh
            exact op_value rfl rfl (x_assign (.inr rfl)) ⟨by simp [Act.put, Act.eval, upd, hh], hp⟩
          · have hh := hcame
            simp [Came, Region.binds] at hh
            exact op_pass rfl (by simp [Region.wanted, yielded, hh]) ⟨by simp [Act.put, upd], hp⟩
          · have hh := hcame
            simp [Came, Region.binds] at hh
            exact op_pass rfl (by simp [Region.wanted, yielded, hh]) ⟨by simp [Act.put, upd], hp⟩
          · have hh := hcame
            simp [Came, Region.binds] at hh
            exact op_pass rfl (by simp [Region.wanted, yielded, hh]) ⟨by simp [Act.put, upd], hp⟩
          · have hh := hcame
            simp [Came, Region.binds] at hh
            exact op_pass rfl (by simp [Region.wanted, yielded, hh]) ⟨by simp [Act.put, upd], hp⟩
          · have hh := hcame
            simp [Came, Region.binds] at hh
            exact op_pass rfl (by simp [Region.wanted, yielded, hh]) ⟨by simp [Act.put, upd], hp⟩
          · have hh := hcame
            simp [Came, Region.binds] at hh
            exact op_pass rfl (by simp [Region.wanted, yielded, hh]) ⟨by simp [Act.put, upd], hp⟩
          · have hh := hcame
            simp [Came, Region.binds] at hh
            exact op_pass rfl (by simp [Region.wanted, yielded, hh]) ⟨by simp [Act.put, upd], hp⟩
          · have hh := hcame
            simp [Came, Region.binds] at hh
            exact op_pass rfl (by simp [Region.wanted, yielded, hh]) ⟨by simp [Act.put, upd], hp⟩
          · have hh := hcame
            simp [Came, Region.binds] at hh
            exact op_pass rfl (by simp [Region.wanted, yielded, hh]) ⟨by simp [Act.put, upd], hp⟩
          · have hh := hcame
            simp [Came, Region.binds] at hh
            exact op_pass rfl (by simp [Region.wanted, yielded, hh]) ⟨by simp [Act.put, upd], hp⟩
          · have hh := hcame
            simp [Came, Region.binds] at hh
            exact op_value rfl rfl (v := .bool false) (w1 := wq) (by simp only [hh, if_true]; go_simp) ⟨by simp [Act.put, Act.eval, upd, hh], hp⟩
          · simp at hi; omega
        · intro bb a w4 hI hall
          obtain ⟨rfl, hp⟩ := hI
          refine hK _ _ ?_
          simp only [hall 0 (by simp), hall 1 (by simp), hall 2 (by simp), hall 3 (by simp), hall 4 (by simp), hall 5 (by simp), hall 6 (by simp), hall 7 (by simp), hall 8 (by simp), hall 9 (by simp), hall 10 (by simp), hall 11 (by simp), hall 12 (by simp), if_true]
          clear hall
          go_wp2
          go_roundw
          case rel =>
            refine ⟨j + 1, by omega, by go_num, ⟨hp⟩, ⟨fun m hm hfm => ?_⟩⟩
            rcases Nat.lt_or_eq_of_le (Nat.le_of_lt_succ hm) with e | rfl
            · exact HA.out m e hfm
            · rw [HE.out] at hfm; cases hfm
          case measure => simp [intOf]; omega
      | true =>
        rw [hfj] at HX
        have HE := Lib.hid hfj
        clear hfj
        go_wp2_with (first | ((with_reducible refine gate_dst (N := 12) rfl ?_); refine b_value rfl (x_index rfl rfl rfl (HX.out wr)) ?_))
        rename_i K hK
        refine draw_inv mixed (by kernel_rfl) (fun bb a wq => a = ⟨#[.agg cs, .int .i64 k, .pointer (some ⟨w.heap.size, 0, none⟩), undef, u4, .int .i64 j, .bool true, .agg cs, .agg (allA f), .int .i64 j, .bool true, .int .i64 j, .bool true, (if bb 0 then .bool true else u13), (if bb 1 then .bool true else u14), (if bb 2 then .agg cs else u15), (if bb 3 then .int .i64 k else u16), (if bb 4 then .int .i64 j else u17), (if bb 5 then .agg #[fnV 139] else u18), (if bb 6 then .agg #[fnV 138] else u19), (if bb 7 then .int .i64 (lowR b k j) else u20), (if bb 8 then .pointer (some ⟨w.heap.size, 0, none⟩) else u21), (if bb 9 then .pointer (some ⟨w.heap.size, 3, none⟩) else u22), (if bb 10 then .int .i64 b.need else u23), (if bb 11 then .bool (decide (lowR b k j < b.need)) else u24), (if bb 12 then .bool (decide (lowR b k j < b.need)) else u25), u26], []⟩ ∧ OneInv w wq cs) ?_ ?_ ?_
        · exact ⟨by simp, HV.out.on (Below.refl _ _).drew⟩
        · intro i hi bb a wq hI hbi hcame
          obtain ⟨rfl, hp⟩ := hI
          rcases i with _ | _ | _ | _ | _ | _ | _ | _ | _ | _ | _ | _ | _ | i
          · exact op_value rfl rfl (x_assign (.inr rfl)) ⟨by simp [Act.put, Act.eval, upd], hp⟩
          · have hh := hcame
            simp [Came, Region.binds] at hh
            exact op_value rfl rfl (x_assign (.inr rfl)) ⟨by simp [Act.put, Act.eval, upd, hh], hp⟩
          · have hh := hcame
            simp [Came, Region.binds] at hh
            exact op_value rfl (by simp [Region.wanted, yielded, hh]) (x_load rfl rfl hp.b0 Tryd.underlying113 rfl HI.out) ⟨by simp [Act.put, upd], hp⟩
          · have hh := hcame
            simp [Came, Region.binds] at hh
            exact op_value rfl (by simp [Region.wanted, yielded, hh]) (x_assign (.inr rfl)) ⟨by simp [Act.put, Act.eval, upd, hh], hp⟩
          · have hh := hcame
            simp [Came, Region.binds] at hh
            exact op_value rfl (by simp [Region.wanted, yielded, hh]) (x_assign (.inr rfl)) ⟨by simp [Act.put, Act.eval, upd, hh], hp⟩
          · have hh := hcame
            simp [Came, Region.binds] at hh
            refine op_call rfl (by simp [Region.wanted, yielded, hh]) (run_call Tryd.func137 (by kernel_rfl) rfl rfl rfl (args := #[]) (by simp)) ((low_calls _).mono ?_)
            rintro e w5 ⟨rfl, hb5⟩
            exact ⟨_, rfl, by simp [Act.put, upd], hp.on hb5⟩
          · have hh := hcame
            simp [Came, Region.binds] at hh
            refine op_call rfl (by simp [Region.wanted, yielded, hh]) (run_call Tryd.func136 (by kernel_rfl) rfl rfl rfl (args := #[]) (by simp)) ((high_calls _).mono ?_)
            rintro e w5 ⟨rfl, hb5⟩
            exact ⟨_, rfl, by simp [Act.put, upd], hp.on hb5⟩
          · have hh := hcame
            simp [Came, Region.binds] at hh
            refine op_call rfl (by simp [Region.wanted, yielded, hh]) (run_call Tryd.func135 (by kernel_rfl) rfl rfl rfl (args := #[.agg cs, .int .i64 k, .int .i64 j, .agg #[fnV 139], .agg #[fnV 138]]) (by simp [Act.eval, hh])) ((reach_calls hc (hb.below hp.below) hs k hk j (by omega) (by omega) end_low end_high (fun r => .inl rfl) (fun r => .inr rfl)).mono ?_)
            rintro e w5 ⟨rfl, hb5⟩
            exact ⟨_, rfl, by simp [Act.put, upd, lowR], hp.on hb5⟩
          · have hh := hcame
            simp [Came, Region.binds] at hh
            exact op_value rfl (by simp [Region.wanted, yielded, hh]) (v := .pointer (some ⟨w.heap.size, 0, none⟩)) (w1 := wq) (by go_simp) ⟨by simp [Act.put, upd], hp⟩
          · have hh := hcame
            simp [Came, Region.binds] at hh
            exact op_value rfl (by simp [Region.wanted, yielded, hh]) (v := .pointer (some ⟨w.heap.size, 3, none⟩)) (w1 := wq) (by simp only [hh, if_true]; go_simp) ⟨by simp [Act.put, upd], hp⟩
          · have hh := hcame
            simp [Came, Region.binds] at hh
            have c3 := (blk_cell hp.b0 3).trans hc.c3
            exact op_value rfl (by simp [Region.wanted, yielded, hh]) (v := .int .i64 b.need) (w1 := wq) (by simp only [hh, if_true]; go_simp) ⟨by simp [Act.put, upd], hp⟩
          · have hh := hcame
            simp [Came, Region.binds] at hh
            exact op_value rfl (by simp [Region.wanted, yielded, hh]) (v := .bool (decide (lowR b k j < b.need))) (w1 := wq) (by simp only [hh, if_true]; go_simp) ⟨by simp [Act.put, upd], hp⟩
          · have hh := hcame
            simp [Came, Region.binds] at hh
            exact op_value rfl rfl (v := .bool (decide (lowR b k j < b.need))) (w1 := wq) (by simp only [hh, if_true]; go_simp) ⟨by simp [Act.put, upd], hp⟩
          · simp at hi; omega
        · intro bb a w4 hI hall
          obtain ⟨rfl, hp⟩ := hI
          refine hK _ _ ?_
          simp only [hall 0 (by simp), hall 1 (by simp), hall 2 (by simp), hall 3 (by simp), hall 4 (by simp), hall 5 (by simp), hall 6 (by simp), hall 7 (by simp), hall 8 (by simp), hall 9 (by simp), hall 10 (by simp), hall 11 (by simp), hall 12 (by simp), if_true]
          clear hall
          by_cases hq : lowR b k j < b.need
          · have HR := Lib.hid (show surelyB b all k = false by
              unfold surelyB
              rw [List.all_eq_false]
              exact ⟨j, List.mem_range.2 hlt, by rw [← HF.out, HE.out]; simp; omega⟩)
            rw [decide_eq_true hq]
            clear hq
            go_wp2
            go_ret
            exact ⟨by rw [HR.out]; rfl, hp.below⟩
          · have HQ := Lib.hid hq
            rw [decide_eq_false hq]
            clear hq
            go_wp2
            go_roundw
            case rel =>
              refine ⟨j + 1, by omega, by go_num, ⟨hp⟩, ⟨fun m hm hfm => ?_⟩⟩
              rcases Nat.lt_or_eq_of_le (Nat.le_of_lt_succ hm) with e | rfl
              · exact HA.out m e hfm
              · have := HQ.out; omega
            case measure => simp [intOf]; omega
    · obtain rfl : j = 512 := by omega
      have HR := Lib.hid (show surelyB b all k = true by
        unfold surelyB
        rw [List.all_eq_true]
        intro m hm
        rw [← HF.out]
        cases hfm : f m with
        | false => simp
        | true =>
          have := HA.out m (List.mem_range.1 hm) hfm
          simp; omega)
      go_wp2
      go_ret
      exact ⟨by rw [HR.out]; rfl, HV.out.below⟩
set_option maxRecDepth 20000 in
set_option maxHeartbeats 800000 in
theorem perhaps_calls {cs : Array Value} {h : Hd} {b : Bk} {all : Nat → Bool} {w : World} (hc : IsBook cs h b all) (hb : BkIn w h b) (hs : Small b) (k : Nat) (hk : k < b.surfs.length) :
    Calls Tryd.prog 133 #[.agg cs, .int .i64 k] w fun e w' => e = .returned (.bool (perhapsB b all k)) ∧ Below w.heap.size w w' := by
  have HI := Lib.hid (show (Tryd.prog.info? 113).map (·.size) = some cs.size by rw [hc.size]; exact i113)
  obtain ⟨f, hf⟩ : ∃ f, f = possB b all := ⟨_, rfl⟩
  have HF := Lib.hid hf
  clear hf
  go_enter Tryd.func133, Tryd.ntmps133
  go_wp2_with (first | (with_reducible refine b_box (t := 113) rfl rfl rfl ?_) | ((with_reducible refine gate_dst (N := 7) rfl ?_); refine wpList_load_row rfl 113 _ rfl w.heap.size rfl 113 cs (0, 0) _ (new_at rfl) Tryd.underlying113 rfl HI.out ?_) | (go_at_call 103; refine (possible_calls hc (hb.below (below_alloc (Below.refl _ _) _)) hs).mono ?_; rintro e w1 ⟨rfl, hb1⟩; rw [← HF.out]))
  have hV : OneInv w w1 cs := (OneInv.start w cs).on hb1
  clear hb1
  go_loopw [9] (fun i wr => ∃ j : Nat, j ≤ 512 ∧ i = .int .i64 j ∧ Aside0 (OneInv w wr cs) ∧ Aside0 (∀ m, m < j → f m = true → highR b k m < b.need)) (fun i _ => 512 - (intOf i).toNat)
  case atStart => exact ⟨0, Nat.zero_le _, rfl, ⟨hV⟩, ⟨fun m hm => by omega⟩⟩
  case round =>
    clear hV
    obtain ⟨j, hj, rfl, HV, HA⟩ := hrel
    by_cases hlt : j < 512
    · have HX := Lib.hid (allA_index f j hlt)
      cases hfj : f j with
      | false =>
        rw [hfj] at HX
        have HE := Lib.hid hfj
        clear hfj
        go_wp2_with (first | ((with_reducible refine gate_dst (N := 12) rfl ?_); refine b_value rfl (x_index rfl rfl rfl (HX.out wr)) ?_))
        rename_i K hK
        refine draw_inv mixed (by kernel_rfl) (fun bb a wq => a = ⟨#[.agg cs, .int .i64 k, .pointer (some ⟨w.heap.size, 0, none⟩), undef, u4, .int .i64 j, .bool false, .agg cs, .agg (allA f), .int .i64 j, .bool true, .int .i64 j, .bool false, (if bb 0 then .bool false else u13), (if bb 1 then .bool false else u14), (if bb 2 then undef else u15), (if bb 3 then undef else u16), (if bb 4 then undef else u17), (if bb 5 then undef else u18), (if bb 6 then undef else u19), (if bb 7 then undef else u20), (if bb 8 then undef else u21), (if bb 9 then undef else u22), (if bb 10 then undef else u23), (if bb 11 then undef else u24), (if bb 12 then .bool false else u25), u26], []⟩ ∧ OneInv w wq cs) ?_ ?_ ?_
        · exact ⟨by simp, HV.out.on (Below.refl _ _).drew⟩
        · intro i hi bb a wq hI hbi hcame
          obtain ⟨rfl, hp⟩ := hI
          rcases i with _ | _ | _ | _ | _ | _ | _ | _ | _ | _ | _ | _ | _ | i
          · exact op_value rfl rfl (x_assign (.inr rfl)) ⟨by simp [Act.put, Act.eval, upd], hp⟩
          · have hh := hcame
            simp [Came, Region.binds] at hh
            exact op_value rfl rfl (x_assign (.inr rfl)) ⟨by simp [Act.put, Act.eval, upd, hh], hp⟩
          · have hh := hcame
            simp [Came, Region.binds] at hh
            exact op_pass rfl (by simp [Region.wanted, yielded, hh]) ⟨by simp [Act.put, upd], hp⟩
          · have hh := hcame
            simp [Came, Region.binds] at hh
            exact op_pass rfl (by simp [Region.wanted, yielded, hh]) ⟨by simp [Act.put, upd], hp⟩
          · have hh := hcame
            simp [Came, Region.binds] at hh
            exact op_pass rfl (by simp [Region.wanted, yielded, hh]) ⟨by simp [Act.put, upd], hp⟩
          · have hh := hcame
            simp [Came, Region.binds] at hh
            exact op_pass rfl (by simp [Region.wanted, yielded, hh]) ⟨by simp [Act.put, upd], hp⟩
          · have hh := hcame
            simp [Came, Region.binds] at hh
            exact op_pass rfl (by simp [Region.wanted, yielded, hh]) ⟨by simp [Act.put, upd], hp⟩
          · have hh := hcame
            simp [Came, Region.binds] at hh
            exact op_pass rfl (by simp [Region.wanted, yielded, hh]) ⟨by simp [Act.put, upd], hp⟩
          · have hh := hcame
            simp [Came, Region.binds] at hh
            exact op_pass rfl (by simp [Region.wanted, yielded, hh]) ⟨by simp [Act.put, upd], hp⟩
          · have hh := hcame
            simp [Came, Region.binds] at hh
            exact op_pass rfl (by simp [Region.wanted, yielded, hh]) ⟨by simp [Act.put, upd], hp⟩
          · have hh := hcame
            simp [Came, Region.binds] at hh
            exact op_pass rfl (by simp [Region.wanted, yielded, hh]) ⟨by simp [Act.put, upd], hp⟩
          · have hh := hcame
            simp [Came, Region.binds] at hh
            exact op_pass rfl (by simp [Region.wanted, yielded, hh]) ⟨by simp [Act.put, upd], hp⟩
          · have hh := hcame
            simp [Came, Region.binds] at hh
            exact op_value rfl rfl (v := .bool false) (w1 := wq) (by simp only [hh, if_true]; go_simp) ⟨by simp [Act.put, Act.eval, upd, hh], hp⟩
          · simp at hi; omega
        · intro bb a w4 hI hall
          obtain ⟨rfl, hp⟩ := hI
          refine hK _ _ ?_
          simp only [hall 0 (by simp), hall 1 (by simp), hall 2 (by simp), hall 3 (by simp), hall 4 (by simp), hall 5 (by simp), hall 6 (by simp), hall 7 (by simp), hall 8 (by simp), hall 9 (by simp), hall 10 (by simp), hall 11 (by simp), hall 12 (by simp), if_true]
          clear hall
          go_wp2
          go_roundw
          case rel =>
            refine ⟨j + 1, by omega, by go_num, ⟨hp⟩, ⟨fun m hm hfm => ?_⟩⟩
            rcases Nat.lt_or_eq_of_le (Nat.le_of_lt_succ hm) with e | rfl
            · exact HA.out m e hfm
            · rw [HE.out] at hfm; cases hfm
          case measure => simp [intOf]; omega
      | true =>
        rw [hfj] at HX
        have HE := Lib.hid hfj
        clear hfj
        go_wp2_with (first | ((with_reducible refine gate_dst (N := 12) rfl ?_); refine b_value rfl (x_index rfl rfl rfl (HX.out wr)) ?_))
        rename_i K hK
        refine draw_inv mixed (by kernel_rfl) (fun bb a wq => a = ⟨#[.agg cs, .int .i64 k, .pointer (some ⟨w.heap.size, 0, none⟩), undef, u4, .int .i64 j, .bool true, .agg cs, .agg (allA f), .int .i64 j, .bool true, .int .i64 j, .bool true, (if bb 0 then .bool true else u13), (if bb 1 then .bool true else u14), (if bb 2 then .agg cs else u15), (if bb 3 then .int .i64 k else u16), (if bb 4 then .int .i64 j else u17), (if bb 5 then .agg #[fnV 138] else u18), (if bb 6 then .agg #[fnV 139] else u19), (if bb 7 then .int .i64 (highR b k j) else u20), (if bb 8 then .pointer (some ⟨w.heap.size, 0, none⟩) else u21), (if bb 9 then .pointer (some ⟨w.heap.size, 3, none⟩) else u22), (if bb 10 then .int .i64 b.need else u23), (if bb 11 then .bool (decide (b.need ≤ highR b k j)) else u24), (if bb 12 then .bool (decide (b.need ≤ highR b k j)) else u25), u26], []⟩ ∧ OneInv w wq cs) ?_ ?_ ?_
        · exact ⟨by simp, HV.out.on (Below.refl _ _).drew⟩
        · intro i hi bb a wq hI hbi hcame
          obtain ⟨rfl, hp⟩ := hI
          rcases i with _ | _ | _ | _ | _ | _ | _ | _ | _ | _ | _ | _ | _ | i
          · exact op_value rfl rfl (x_assign (.inr rfl)) ⟨by simp [Act.put, Act.eval, upd], hp⟩
          · have hh := hcame
            simp [Came, Region.binds] at hh
            exact op_value rfl rfl (x_assign (.inr rfl)) ⟨by simp [Act.put, Act.eval, upd, hh], hp⟩
          · have hh := hcame
            simp [Came, Region.binds] at hh
            exact op_value rfl (by simp [Region.wanted, yielded, hh]) (x_load rfl rfl hp.b0 Tryd.underlying113 rfl HI.out) ⟨by simp [Act.put, upd], hp⟩
          · have hh := hcame
            simp [Came, Region.binds] at hh
            exact op_value rfl (by simp [Region.wanted, yielded, hh]) (x_assign (.inr rfl)) ⟨by simp [Act.put, Act.eval, upd, hh], hp⟩
          · have hh := hcame
            simp [Came, Region.binds] at hh
            exact op_value rfl (by simp [Region.wanted, yielded, hh]) (x_assign (.inr rfl)) ⟨by simp [Act.put, Act.eval, upd, hh], hp⟩
          · have hh := hcame
            simp [Came, Region.binds] at hh
            refine op_call rfl (by simp [Region.wanted, yielded, hh]) (run_call Tryd.func136 (by kernel_rfl) rfl rfl rfl (args := #[]) (by simp)) ((high_calls _).mono ?_)
            rintro e w5 ⟨rfl, hb5⟩
            exact ⟨_, rfl, by simp [Act.put, upd], hp.on hb5⟩
          · have hh := hcame
            simp [Came, Region.binds] at hh
            refine op_call rfl (by simp [Region.wanted, yielded, hh]) (run_call Tryd.func137 (by kernel_rfl) rfl rfl rfl (args := #[]) (by simp)) ((low_calls _).mono ?_)
            rintro e w5 ⟨rfl, hb5⟩
            exact ⟨_, rfl, by simp [Act.put, upd], hp.on hb5⟩
          · have hh := hcame
            simp [Came, Region.binds] at hh
            refine op_call rfl (by simp [Region.wanted, yielded, hh]) (run_call Tryd.func135 (by kernel_rfl) rfl rfl rfl (args := #[.agg cs, .int .i64 k, .int .i64 j, .agg #[fnV 138], .agg #[fnV 139]]) (by simp [Act.eval, hh])) ((reach_calls hc (hb.below hp.below) hs k hk j (by omega) (by omega) end_high end_low (fun r => .inr rfl) (fun r => .inl rfl)).mono ?_)
            rintro e w5 ⟨rfl, hb5⟩
            exact ⟨_, rfl, by simp [Act.put, upd, highR], hp.on hb5⟩
          · have hh := hcame
            simp [Came, Region.binds] at hh
            exact op_value rfl (by simp [Region.wanted, yielded, hh]) (v := .pointer (some ⟨w.heap.size, 0, none⟩)) (w1 := wq) (by go_simp) ⟨by simp [Act.put, upd], hp⟩
          · have hh := hcame
            simp [Came, Region.binds] at hh
            exact op_value rfl (by simp [Region.wanted, yielded, hh]) (v := .pointer (some ⟨w.heap.size, 3, none⟩)) (w1 := wq) (by simp only [hh, if_true]; go_simp) ⟨by simp [Act.put, upd], hp⟩
          · have hh := hcame
            simp [Came, Region.binds] at hh
            have c3 := (blk_cell hp.b0 3).trans hc.c3
            exact op_value rfl (by simp [Region.wanted, yielded, hh]) (v := .int .i64 b.need) (w1 := wq) (by simp only [hh, if_true]; go_simp) ⟨by simp [Act.put, upd], hp⟩
          · have hh := hcame
            simp [Came, Region.binds] at hh
            exact op_value rfl (by simp [Region.wanted, yielded, hh]) (v := .bool (decide (b.need ≤ highR b k j))) (w1 := wq) (by simp only [hh, if_true]; go_simp) ⟨by simp [Act.put, upd], hp⟩
          · have hh := hcame
            simp [Came, Region.binds] at hh
            exact op_value rfl rfl (v := .bool (decide (b.need ≤ highR b k j))) (w1 := wq) (by simp only [hh, if_true]; go_simp) ⟨by simp [Act.put, upd], hp⟩
          · simp at hi; omega
        · intro bb a w4 hI hall
          obtain ⟨rfl, hp⟩ := hI
          refine hK _ _ ?_
          simp only [hall 0 (by simp), hall 1 (by simp), hall 2 (by simp), hall 3 (by simp), hall 4 (by simp), hall 5 (by simp), hall 6 (by simp), hall 7 (by simp), hall 8 (by simp), hall 9 (by simp), hall 10 (by simp), hall 11 (by simp), hall 12 (by simp), if_true]
          clear hall
          by_cases hq : b.need ≤ highR b k j
          · have HR := Lib.hid (show perhapsB b all k = true by
              unfold perhapsB
              rw [List.any_eq_true]
              exact ⟨j, List.mem_range.2 hlt, by rw [← HF.out, HE.out]; simp; omega⟩)
            rw [decide_eq_true hq]
            clear hq
            go_wp2
            go_ret
            exact ⟨by rw [HR.out]; rfl, hp.below⟩
          · have HQ := Lib.hid hq
            rw [decide_eq_false hq]
            clear hq
            go_wp2
            go_roundw
            case rel =>
              refine ⟨j + 1, by omega, by go_num, ⟨hp⟩, ⟨fun m hm hfm => ?_⟩⟩
              rcases Nat.lt_or_eq_of_le (Nat.le_of_lt_succ hm) with e | rfl
              · exact HA.out m e hfm
              · have := HQ.out; omega
            case measure => simp [intOf]; omega
    · obtain rfl : j = 512 := by omega
      have HR := Lib.hid (show perhapsB b all k = false by
        unfold perhapsB
        rw [List.any_eq_false]
        intro m hm
        rw [← HF.out]
        cases hfm : f m with
        | false => simp
        | true =>
          have := HA.out m (List.mem_range.1 hm) hfm
          simp; omega)
      go_wp2
      go_ret
      exact ⟨by rw [HR.out]; rfl, HV.out.below⟩
end Go.Proofs.YtghpoldlddghjaaDoor
namespace Go.Proofs.YtghpoldlddghjaaDoor
open Go Go.RowKit
open Go.Proofs.YtghpoldlddghjaaDoorW.PrintWords Go.Proofs.YtghpoldlddghjaaDoorW.PrintMore Go.Proofs.YtghpoldlddghjaaDoor.PPasteTrue
def Asks (w : World) : Prop := w.cell? ⟨0, 0, none⟩ = some (fnV 133) ∧ w.cell? ⟨0, 1, none⟩ = some (fnV 134)
theorem Asks.below {w w1 : World} (h : Asks w) (hb : Below w.heap.size w w1) : Asks w1 := ⟨pw_cell_below hb h.1, pw_cell_below hb h.2⟩
def lightsI (b : Bk) (all : Nat → Bool) (k : Nat) : Int := if perhapsB b all k = true then (if surelyB b all k = true then 2 else 1) else 0
theorem idx164_0 (w : World) : (Instr.index 164 (.agg #[fnV 133, fnV 134]) (.int .i64 0)).run Tryd.prog w = .ok (fnV 133) w := by kernel_rfl
theorem idx164_1 (w : World) : (Instr.index 164 (.agg #[fnV 133, fnV 134]) (.int .i64 1)).run Tryd.prog w = .ok (fnV 134) w := by kernel_rfl
set_option maxRecDepth 20000 in
set_option maxHeartbeats 800000 in
theorem lights_calls {cs : Array Value} {h : Hd} {b : Bk} {all : Nat → Bool} {w : World} (hg : Asks w) (hc : IsBook cs h b all) (hb : BkIn w h b) (hs : Small b) (k : Nat) (hk : k < b.surfs.length) :
    Calls Tryd.prog 66 #[.agg cs, .int .i64 k] w fun e w' => e = .returned (.int .i64 (lightsI b all k)) ∧ Below w.heap.size w w' := by
  have HI := Lib.hid (show (Tryd.prog.info? 113).map (·.size) = some cs.size by rw [hc.size]; exact i113)
  have h0 : 0 < w.heap.size := World.block_lt_of_cell? w _ hg.1
  obtain ⟨g0, g1⟩ := hg
  go_enter Tryd.func66, Tryd.ntmps66
  go_wp2_with (first | (with_reducible refine b_box (t := 113) rfl rfl rfl ?_))
  have hV0 := OneInv.start w cs
  have HV0 := Lib.hid hV0
  clear hV0 g0 g1
  refine wp_loop_rounds 3 ?_
  rw [rounds_succ]
  cases hp : perhapsB b all k with
  | false =>
    have HR := Lib.hid (show lightsI b all k = 0 by simp [lightsI, hp])
    have HP := Lib.hid hp
    clear hp
    go_wp2_with (first | ((with_reducible refine gate_dst (N := 11) rfl ?_); refine b_value rfl (x_index rfl rfl rfl (idx164_0 _)) ?_) | ((with_reducible refine gate_dst (N := 13) rfl ?_); refine wpList_load_row rfl 113 _ rfl w.heap.size rfl 113 cs (0, 0) _ HV0.out.b0 Tryd.underlying113 rfl HI.out ?_) | (go_at_call 133; refine (perhaps_calls hc (hb.below HV0.out.below) hs k hk).mono ?_; rintro e w1 ⟨rfl, hb1⟩; rw [HP.out]))
    go_ret
    exact ⟨by rw [HR.out]; rfl, (HV0.out.on hb1).below⟩
  | true =>
    have HP := Lib.hid hp
    clear hp
    go_wp2_with (first | ((with_reducible refine gate_dst (N := 11) rfl ?_); refine b_value rfl (x_index rfl rfl rfl (idx164_0 _)) ?_) | ((with_reducible refine gate_dst (N := 13) rfl ?_); refine wpList_load_row rfl 113 _ rfl w.heap.size rfl 113 cs (0, 0) _ HV0.out.b0 Tryd.underlying113 rfl HI.out ?_) | (go_at_call 133; refine (perhaps_calls hc (hb.below HV0.out.below) hs k hk).mono ?_; rintro e w1 ⟨rfl, hb1⟩; rw [HP.out]))
    have HV1 := Lib.hid (HV0.out.on hb1)
    clear hb1
    rw [rounds_succ]
    cases hq : surelyB b all k with
    | false =>
      have HR := Lib.hid (show lightsI b all k = 1 by simp [lightsI, HP.out, hq])
      have HQ := Lib.hid hq
      clear hq
      go_wp2_with (first | ((with_reducible refine gate_dst (N := 11) rfl ?_); refine b_value rfl (x_index rfl rfl rfl (idx164_1 _)) ?_) | ((with_reducible refine gate_dst (N := 13) rfl ?_); refine wpList_load_row rfl 113 _ rfl w.heap.size rfl 113 cs (0, 0) _ HV1.out.b0 Tryd.underlying113 rfl HI.out ?_) | (go_at_call 134; refine (surely_calls hc (hb.below HV1.out.below) hs k hk).mono ?_; rintro e w2 ⟨rfl, hb2⟩; rw [HQ.out]))
      go_ret
      exact ⟨by rw [HR.out]; rfl, (HV1.out.on hb2).below⟩
    | true =>
      have HR := Lib.hid (show lightsI b all k = 2 by simp [lightsI, HP.out, hq])
      have HQ := Lib.hid hq
      clear hq
      go_wp2_with (first | ((with_reducible refine gate_dst (N := 11) rfl ?_); refine b_value rfl (x_index rfl rfl rfl (idx164_1 _)) ?_) | ((with_reducible refine gate_dst (N := 13) rfl ?_); refine wpList_load_row rfl 113 _ rfl w.heap.size rfl 113 cs (0, 0) _ HV1.out.b0 Tryd.underlying113 rfl HI.out ?_) | (go_at_call 134; refine (surely_calls hc (hb.below HV1.out.below) hs k hk).mono ?_; rintro e w2 ⟨rfl, hb2⟩; rw [HQ.out]))
      rw [rounds_succ]
      go_wp2
      go_ret
      exact ⟨by rw [HR.out]; rfl, (HV1.out.on hb2).below⟩
def othersB (b : Bk) (all : Nat → Bool) : Bool := (List.range b.surfs.length).all fun k => k == 0 || decide (lightsI b all k = 0)
theorem lightsI_nonneg (b : Bk) (all : Nat → Bool) (k : Nat) : 0 ≤ lightsI b all k ∧ lightsI b all k ≤ 2 := by
  unfold lightsI
  split
  · split <;> omega
  · omega
set_option maxRecDepth 20000 in
set_option maxHeartbeats 800000 in
theorem others_calls {cs : Array Value} {h : Hd} {b : Bk} {all : Nat → Bool} {w : World} (hg : Asks w) (hc : IsBook cs h b all) (hb : BkIn w h b) (hs : Small b) :
    Calls Tryd.prog 73 #[.agg cs] w fun e w' => e = .returned (.bool (othersB b all)) ∧ Below w.heap.size w w' := by
  have HI := Lib.hid (show (Tryd.prog.info? 113).map (·.size) = some cs.size by rw [hc.size]; exact i113)
  have h2 := hc.c2
  have hmax := Kd.C_max hb.r2
  have HG := Lib.hid hg
  clear hg
  go_enter Tryd.func73, Tryd.ntmps73
  go_wp2_with (first | (with_reducible refine b_box (t := 113) rfl rfl rfl ?_))
  go_loopw [8] (fun i wr => ∃ k : Nat, k ≤ b.surfs.length ∧ i = .int .i64 k ∧ Aside0 (OneInv w wr cs) ∧ Aside0 (∀ j, j < k → 0 < j → lightsI b all j = 0)) (fun i _ => b.surfs.length - (intOf i).toNat)
  case atStart => exact ⟨0, Nat.zero_le _, rfl, ⟨OneInv.start _ _⟩, ⟨fun j hj => by omega⟩⟩
  case round =>
    obtain ⟨k, hk, rfl, HV, HA⟩ := hrel
    by_cases hlt : k < b.surfs.length
    · by_cases h0 : 0 < k
      · have hgt : decide ((k : Int) > 0) = true := by simp; omega
        by_cases hl : lightsI b all k = 0
        · have HL := Lib.hid hl
          clear hl
          go_wp2_with (first | ((with_reducible refine gate_dst (N := 14) rfl ?_); refine gate_guard (by rfl) ?_; dsimp only; refine wpList_load_row rfl 113 _ rfl w.heap.size rfl 113 cs (0, 0) _ HV.out.b0 Tryd.underlying113 rfl HI.out ?_) | (go_at_call 66; refine (lights_calls (HG.out.below HV.out.below) hc (hb.below HV.out.below) hs k hlt).mono ?_; rintro e w1 ⟨rfl, hb1⟩; rw [HL.out]))
          go_roundw
          case rel =>
            refine ⟨k + 1, by omega, by go_num, ⟨HV.out.on hb1⟩, ⟨fun j hj hj0 => ?_⟩⟩
            rcases Nat.lt_or_eq_of_le (Nat.le_of_lt_succ hj) with e | rfl
            · exact HA.out j e hj0
            · exact HL.out
          case measure => simp [intOf]; omega
        · have hn := lightsI_nonneg b all k
          have hpos : 0 < lightsI b all k := by omega
          have HR := Lib.hid (show othersB b all = false by
            unfold othersB
            rw [List.all_eq_false]
            exact ⟨k, List.mem_range.2 hlt, by simp [hl]; omega⟩)
          clear hl hn
          go_wp2_with (first | ((with_reducible refine gate_dst (N := 14) rfl ?_); refine gate_guard (by rfl) ?_; dsimp only; refine wpList_load_row rfl 113 _ rfl w.heap.size rfl 113 cs (0, 0) _ HV.out.b0 Tryd.underlying113 rfl HI.out ?_) | (go_at_call 66; refine (lights_calls (HG.out.below HV.out.below) hc (hb.below HV.out.below) hs k hlt).mono ?_; rintro e w1 ⟨rfl, hb1⟩))
          go_ret
          exact ⟨by rw [HR.out]; rfl, (HV.out.on hb1).below⟩
      · obtain rfl : k = 0 := by omega
        go_wp2
        go_roundw
        case rel =>
          refine ⟨1, by omega, by go_num, HV, ⟨fun j hj hj0 => by omega⟩⟩
        case measure => simp [intOf]; omega
    · obtain rfl : k = b.surfs.length := by omega
      have HR := Lib.hid (show othersB b all = true by
        unfold othersB
        rw [List.all_eq_true]
        intro j hj
        by_cases e : j = 0
        · simp [e]
        · simp [HA.out j (List.mem_range.1 hj) (by omega)])
      go_wp2
      go_ret
      exact ⟨by rw [HR.out]; rfl, HV.out.below⟩
def safeB (b : Bk) (all : Nat → Bool) : Bool := decide (lightsI b all 0 = 2) && othersB b all
set_option maxRecDepth 20000 in
set_option maxHeartbeats 800000 in
theorem safe_calls {cs : Array Value} {h : Hd} {b : Bk} {all : Nat → Bool} {w : World} (hg : Asks w) (hc : IsBook cs h b all) (hb : BkIn w h b) (hs : Small b) (hn : 0 < b.surfs.length) :
    Calls Tryd.prog 64 #[.agg cs] w fun e w' => e = .returned (.bool (safeB b all)) ∧ Below w.heap.size w w' := by
  have HI := Lib.hid (show (Tryd.prog.info? 113).map (·.size) = some cs.size by rw [hc.size]; exact i113)
  have HG := Lib.hid hg
  clear hg
  have HV := Lib.hid (OneInv.start w cs)
  go_enter Tryd.func64, Tryd.ntmps64
  by_cases hl : lightsI b all 0 = 2
  · have HR := Lib.hid (show safeB b all = othersB b all by simp [safeB, hl])
    have HL := Lib.hid hl
    clear hl
    go_wp2_with (first | (with_reducible refine b_box (t := 113) rfl rfl rfl ?_) | ((with_reducible refine gate_dst (N := 3) rfl ?_); refine wpList_load_row rfl 113 _ rfl w.heap.size rfl 113 cs (0, 0) _ HV.out.b0 Tryd.underlying113 rfl HI.out ?_) | (go_at_call 66; refine (lights_calls (HG.out.below HV.out.below) hc (hb.below HV.out.below) hs 0 hn).mono ?_; rintro e w1 ⟨rfl, hb1⟩; have HV1 := Lib.hid (HV.out.on hb1); rw [HL.out]) | ((with_reducible refine gate_dst (N := 7) rfl ?_); refine gate_guard (by rfl) ?_; dsimp only; refine wpList_load_row rfl 113 _ rfl w.heap.size rfl 113 cs (0, 0) _ HV1.out.b0 Tryd.underlying113 rfl HI.out ?_) | (go_at_call 73; refine (others_calls (HG.out.below HV1.out.below) hc (hb.below HV1.out.below) hs).mono ?_; rintro e w2 ⟨rfl, hb2⟩; rw [← HR.out]))
    go_ret
    exact ⟨rfl, (HV1.out.on hb2).below⟩
  · have HR := Lib.hid (show safeB b all = false by simp [safeB, hl])
    have hl2 : (lightsI b all 0 == 2) = false := by simpa using hl
    clear hl
    go_wp2_with (first | (with_reducible refine b_box (t := 113) rfl rfl rfl ?_) | ((with_reducible refine gate_dst (N := 3) rfl ?_); refine wpList_load_row rfl 113 _ rfl w.heap.size rfl 113 cs (0, 0) _ HV.out.b0 Tryd.underlying113 rfl HI.out ?_) | (go_at_call 66; refine (lights_calls (HG.out.below HV.out.below) hc (hb.below HV.out.below) hs 0 hn).mono ?_; rintro e w1 ⟨rfl, hb1⟩; have HV1 := Lib.hid (HV.out.on hb1)))
    go_ret
    exact ⟨by rw [HR.out]; rfl, HV1.out.below⟩
end Go.Proofs.YtghpoldlddghjaaDoor
namespace Go.Proofs.YtghpoldlddghjaaDoor
open Go Go.RowKit
open Go.Proofs.YtghpoldlddghjaaDoorW.PrintWords Go.Proofs.YtghpoldlddghjaaDoorW.PrintMore Go.Proofs.YtghpoldlddghjaaDoor.PPasteTrue
def Sane (b : Bk) : Prop := ∀ p ∈ b.pairs, 0 ≤ p.f1
structure Good (b : Bk) : Prop where
  sp : SP b
  sm : Small b
  s0 : 0 < b.salts.length
  u0 : 0 < b.surfs.length
  u1 : b.surfs.length ≤ 4
  t1 : b.trials.length ≤ 6
  tt : ∀ t ∈ b.trials, 0 ≤ t.f0 ∧ t.f0 < b.surfs.length
  sr : ∀ x ∈ b.surfs, 0 ≤ x.f0.f0 ∧ x.f0.f0 ≤ x.f0.f1 ∧ x.f0.f1 ≤ 200 ∧ 0 ≤ x.f1.f0 ∧ x.f1.f0 ≤ x.f1.f1 ∧ x.f1.f1 ≤ 200
  n2 : b.need ≤ 400
  pm : ∀ p ∈ b.pairs, 1 ≤ p.f2
theorem inB_iff (a lo hi : Int) : inB a lo hi = true ↔ lo ≤ a ∧ a ≤ hi := by simp [inB]
theorem spanB_iff (s : S39) (hi : Int) : spanB s hi = true ↔ 0 ≤ s.f0 ∧ s.f0 ≤ s.f1 ∧ s.f1 ≤ hi := by simp [spanB]
theorem good_of {b : Bk} (hc : checkB b = true) (hsa : Sane b) : Good b := by
  unfold checkB headB at hc
  simp only [Bool.and_eq_true, inB_iff, decide_eq_true_eq, List.all_eq_true, List.mem_range] at hc
  obtain ⟨⟨⟨⟨⟨⟨a1, a2⟩, a3, ⟨a4, a5⟩, ⟨a6, a7⟩, a8⟩, hs⟩, hp⟩, hu⟩, ht⟩ := hc
  have hpi : ∀ i, i < b.pairs.length → ∃ hi : i < b.pairs.length, rd_T77 b.pairs i = b.pairs[i] := fun i hi => ⟨hi, by
    unfold rd_T77
    rw [List.getD_eq_getElem?_getD, Int.toNat_natCast, List.getElem?_eq_getElem hi]
    rfl⟩
  have hpp : ∀ p ∈ b.pairs, 0 ≤ p.f0 ∧ p.f0 < p.f1 ∧ p.f1 < b.salts.length ∧ 1 ≤ p.f2 ∧ p.f2 ≤ 30 := by
    intro p hm
    obtain ⟨i, hi, rfl⟩ := List.mem_iff_getElem.1 hm
    have h1 := hp i hi
    have h2 := hsa _ hm
    obtain ⟨_, hr⟩ := hpi i hi
    unfold pairB at h1
    simp only [Bool.and_eq_true, inB_iff, decide_eq_true_eq, hr] at h1
    obtain ⟨⟨⟨h3, h4⟩, h5, h6, h7⟩, _⟩ := h1
    have hw : wrap64 ((b.pairs[i]).f1 - 1) = (b.pairs[i]).f1 - 1 := by unfold wrap64; omega
    rw [hw] at h4
    omega
  have hss : ∀ x ∈ b.surfs, 0 ≤ x.f0.f0 ∧ x.f0.f0 ≤ x.f0.f1 ∧ x.f0.f1 ≤ 200 ∧ 0 ≤ x.f1.f0 ∧ x.f1.f0 ≤ x.f1.f1 ∧ x.f1.f1 ≤ 200 := by
    intro x hx
    have h1 := hu x hx
    unfold surfB at h1
    simp only [Bool.and_eq_true, spanB_iff] at h1
    omega
  refine { sp := ⟨by omega, by omega, ?_, ?_, ?_⟩, sm := ⟨by omega, by omega, ?_⟩, s0 := by omega, u0 := by omega, u1 := by omega, t1 := by omega, tt := ?_, sr := hss, n2 := a7, pm := fun p hm => (hpp p hm).2.2.2.1 }
  · intro x hx
    have h1 := hs x hx
    unfold saltB at h1
    simp only [Bool.and_eq_true, inB_iff, spanB_iff, decide_eq_true_eq] at h1
    omega
  · intro p hm
    have := hpp p hm
    omega
  · rw [List.pairwise_iff_getElem]
    intro i j hi hj hij
    have h1 := hp j hj
    obtain ⟨_, hr⟩ := hpi j hj
    unfold pairB at h1
    simp only [Bool.and_eq_true, hr] at h1
    have h2 := List.all_eq_true.1 h1.2 (b.pairs[i]) (by
      rw [List.mem_iff_getElem]
      exact ⟨i, by simp; omega, by simp⟩)
    simp at h2
    intro hh
    rcases h2 with h2 | h2
    · exact h2 hh.1
    · exact h2 hh.2
  · intro x hx
    have := hss x hx
    omega
  · intro t hm
    have h1 := ht t hm
    unfold trialB at h1
    rw [inB_iff] at h1
    have hw : wrap64 ((b.surfs.length : Int) - 1) = b.surfs.length - 1 := by unfold wrap64; omega
    rw [hw] at h1
    omega
theorem build113z (w : World) : (Instr.build 113 #[]).run Tryd.prog w = .ok (.agg Tryd.zeroCells113) w := by
  refine run_build (P := Tryd.prog) w 113 _ _ ?_
  obtain ⟨i0, hi, hz⟩ := Option.map_eq_some_iff.1 info113
  obtain ⟨i1, hi1, hs1⟩ := Option.map_eq_some_iff.1 place27
  obtain ⟨i2, hi2, hs2⟩ := Option.map_eq_some_iff.1 place109
  obtain ⟨i3, hi3, hs3⟩ := Option.map_eq_some_iff.1 i111
  unfold Program.built
  simp only [hi, hz, Tryd.underlying113]
  simp only [List.mapM_cons, List.mapM_nil, hi1, hi2, hi3, hs1, hs2, hs3, Option.map_some, Option.bind_eq_bind, Option.pure_def]
  simp [Instr.fill, Value.cells]
def allB (b : Bk) : Nat → Bool := markAll b (fun _ => false) (fills b.salts)
def pB (b : Bk) : Nat → Bool := possB b (allB b)
def canB (b : Bk) : Bool := anyB (pB b)
theorem z113_i : (Tryd.prog.info? 113).map (·.size) = some Tryd.zeroCells113.size := by rw [z113_size]; exact i113
structure Two (w : World) (c1 : Array Value) (t1 : TypeId) (c2 : Array Value) (t2 : TypeId) (wr : World) : Prop where
  below : Below w.heap.size w wr
  b1 : wr.heap[w.heap.size]? = some (.cells c1 t1 (0, 0))
  b2 : wr.heap[w.heap.size + 1]? = some (.cells c2 t2 (0, 0))
theorem Two.on {w : World} {c1 c2 : Array Value} {t1 t2 : TypeId} {wr w1 : World} (h : Two w c1 t1 c2 t2 wr) (hb : Below wr.heap.size wr w1) : Two w c1 t1 c2 t2 w1 :=
  ⟨below_step h.below hb, blk_below h.b1 hb, blk_below h.b2 hb⟩
theorem Two.start (w : World) (c1 : Array Value) (t1 : TypeId) (c2 : Array Value) (t2 : TypeId) : Two w c1 t1 c2 t2 ((w.alloc (.cells c1 t1)).alloc (.cells c2 t2)) :=
  ⟨below_alloc (below_alloc (Below.refl _ _) _) _, blk_alloc (new_at rfl) _, new_at (by simp)⟩
theorem Two.row {w : World} {c1 c2 : Array Value} {t1 t2 : TypeId} {wr : World} (h : Two w c1 t1 c2 t2 wr) {g : Nat} (hg : w.heap.size + 2 ≤ g) (cs : Array Value) : Two w c1 t1 c2 t2 (wr.setRow g cs) :=
  ⟨below_row h.below (by omega) _, (setRow_other wr g _ _ (by omega)).trans h.b1, (setRow_other wr g _ _ (by omega)).trans h.b2⟩
theorem Two.put {w : World} {c1 c2 : Array Value} {t1 t2 : TypeId} {wr : World} (h : Two w c1 t1 c2 t2 wr) (cs : Array Value) : Two w c1 t1 cs t2 (wr.setRow (w.heap.size + 1) cs) :=
  ⟨below_row h.below (by omega) _, (setRow_other wr _ _ _ (by omega)).trans h.b1, setRow_heap wr _ _ _ _ _ h.b2⟩
set_option maxRecDepth 20000 in
set_option maxHeartbeats 800000 in
theorem asked_bad {h : Hd} {b : Bk} {w : World} (hb : BkIn w h b) (is : Bool) (hc : checkB b = false) :
    Calls Tryd.prog 60 #[.agg (h.cells b), .bool is] w fun e w' => e = .returned (.tuple #[.agg Tryd.zeroCells113, .int .i64 20]) ∧ Below w.heap.size w w' := by
  have HC := Lib.hid hc
  clear hc
  have hT := Two.start w (h.cells b) 27 Tryd.zeroCells113 113
  go_enter Tryd.func60, Tryd.ntmps60
  refine wp_seq_k fun K hK => ?_
  refine wp_region_lit ?_
  refine b_box (t := 27) rfl rfl rfl ?_
  refine b_alloc rfl rfl zb113 ?_
  have hsz : (w.alloc (.cells (h.cells b) 27)).heap.size = w.heap.size + 1 := by simp
  rw [hsz]
  generalize (w.alloc (.cells (h.cells b) 27)).alloc (.cells Tryd.zeroCells113 113) = W0 at hT ⊢
  clear hsz
  have HT := Lib.hid hT
  clear hT
  refine b_value rfl (x_assign (.inl rfl)) ?_
  refine wpList_nil ?_
  refine hK _ _ ?_
  clear hK K
  simp only [Act.put, Act.eval, List.setIfInBounds_toArray, List.set_cons_succ, List.set_cons_zero]
  go_wp2_with (first | ((with_reducible refine gate_dst (N := 10) rfl ?_); refine wpList_load_row rfl 27 _ rfl w.heap.size rfl 27 (h.cells b) (0, 0) _ HT.out.b1 Tryd.underlying27 rfl i27 ?_) | (go_at_call 43; refine (check_calls (hb.below HT.out.below)).mono ?_; rintro e w1 ⟨rfl, hb1⟩; rw [HC.out]; have HT1 := Lib.hid (HT.out.on hb1); clear hb1) | ((with_reducible refine gate_dst (N := 14) rfl ?_); refine b_value rfl (x_build (qs := #[]) rfl rfl (build113z _)) ?_) | (refine wpList_store_row rfl 113 (.tmp 4) (.tmp 14) rfl (w.heap.size + 1) Tryd.zeroCells113 rfl rfl 113 Tryd.zeroCells113 HT1.out.b2 z113_i rfl z113_one ?_))
  have HT2 := HT1.out.put Tryd.zeroCells113
  refine bodyPost_ret (v := .tuple #[.agg Tryd.zeroCells113, .int .i64 20]) (res_cell_tmp Tryd.results60 _ _ (w.heap.size + 1) 113 _ (0, 0) _ rfl HT2.b2 Tryd.underlying113 rfl z113_i) rfl ⟨rfl, HT2.below⟩
set_option maxRecDepth 20000 in
set_option maxHeartbeats 800000 in
theorem asked_ask {h : Hd} {b : Bk} {w : World} (hb : BkIn w h b) (hc : checkB b = true) :
    Calls Tryd.prog 60 #[.agg (h.cells b), .bool false] w fun e w' => e = .returned (.tuple #[.agg Tryd.zeroCells113, .int .i64 21]) ∧ Below w.heap.size w w' := by
  have HC := Lib.hid hc
  clear hc
  have hT := Two.start w (h.cells b) 27 Tryd.zeroCells113 113
  go_enter Tryd.func60, Tryd.ntmps60
  refine wp_seq_k fun K hK => ?_
  refine wp_region_lit ?_
  refine b_box (t := 27) rfl rfl rfl ?_
  refine b_alloc rfl rfl zb113 ?_
  have hsz : (w.alloc (.cells (h.cells b) 27)).heap.size = w.heap.size + 1 := by simp
  rw [hsz]
  generalize (w.alloc (.cells (h.cells b) 27)).alloc (.cells Tryd.zeroCells113 113) = W0 at hT ⊢
  clear hsz
  have HT := Lib.hid hT
  clear hT
  refine b_value rfl (x_assign (.inl rfl)) ?_
  refine wpList_nil ?_
  refine hK _ _ ?_
  clear hK K
  simp only [Act.put, Act.eval, List.setIfInBounds_toArray, List.set_cons_succ, List.set_cons_zero]
  go_wp2_with (first | ((with_reducible refine gate_dst (N := 10) rfl ?_); refine wpList_load_row rfl 27 _ rfl w.heap.size rfl 27 (h.cells b) (0, 0) _ HT.out.b1 Tryd.underlying27 rfl i27 ?_) | (go_at_call 43; refine (check_calls (hb.below HT.out.below)).mono ?_; rintro e w1 ⟨rfl, hb1⟩; rw [HC.out]; have HT1 := Lib.hid (HT.out.on hb1); clear hb1) | ((with_reducible refine gate_dst (N := 18) rfl ?_); refine b_value rfl (x_build (qs := #[]) rfl rfl (build113z _)) ?_) | (refine wpList_store_row rfl 113 (.tmp 4) (.tmp 18) rfl (w.heap.size + 1) Tryd.zeroCells113 rfl rfl 113 Tryd.zeroCells113 HT1.out.b2 z113_i rfl z113_one ?_))
  have HT2 := HT1.out.put Tryd.zeroCells113
  refine bodyPost_ret (v := .tuple #[.agg Tryd.zeroCells113, .int .i64 21]) (res_cell_tmp Tryd.results60 _ _ (w.heap.size + 1) 113 _ (0, 0) _ rfl HT2.b2 Tryd.underlying113 rfl z113_i) rfl ⟨rfl, HT2.below⟩
set_option maxRecDepth 20000 in
set_option maxHeartbeats 800000 in
theorem asked_ok {h : Hd} {b : Bk} {w : World} (hb : BkIn w h b) (hc : checkB b = true) (hg : Good b) :
    Calls Tryd.prog 60 #[.agg (h.cells b), .bool true] w fun e w' => ∃ cs, e = .returned (.tuple #[.agg cs, .int .i64 (if canB b then 0 else 22)]) ∧ IsBook cs h b (allB b) ∧ Below w.heap.size w w' := by
  have HC := Lib.hid hc
  clear hc
  have hT := Two.start w (h.cells b) 27 Tryd.zeroCells113 113
  go_enter Tryd.func60, Tryd.ntmps60
  refine wp_seq_k fun K hK => ?_
  refine wp_region_lit ?_
  refine b_box (t := 27) rfl rfl rfl ?_
  refine b_alloc rfl rfl zb113 ?_
  have hsz : (w.alloc (.cells (h.cells b) 27)).heap.size = w.heap.size + 1 := by simp
  rw [hsz]
  generalize (w.alloc (.cells (h.cells b) 27)).alloc (.cells Tryd.zeroCells113 113) = W0 at hT ⊢
  clear hsz
  have HT := Lib.hid hT
  clear hT
  refine b_value rfl (x_assign (.inl rfl)) ?_
  refine wpList_nil ?_
  refine hK _ _ ?_
  clear hK K
  simp only [Act.put, Act.eval, List.setIfInBounds_toArray, List.set_cons_succ, List.set_cons_zero]
  go_upto_region 6 with (first | ((with_reducible refine gate_dst (N := 10) rfl ?_); refine wpList_load_row rfl 27 _ rfl w.heap.size rfl 27 (h.cells b) (0, 0) _ HT.out.b1 Tryd.underlying27 rfl i27 ?_) | (go_at_call 43; refine (check_calls (hb.below HT.out.below)).mono ?_; rintro e w1 ⟨rfl, hb1⟩; rw [HC.out]; have HT1 := Lib.hid (HT.out.on hb1); clear hb1))
  go_upto_region 7 with (first | ((with_reducible refine gate_dst (N := 19) rfl ?_); refine wpList_load_row rfl 27 _ rfl w.heap.size rfl 27 (h.cells b) (0, 0) _ HT1.out.b1 Tryd.underlying27 rfl i27 ?_) | (go_at_call 61; refine (opened_calls (hb.below HT1.out.below) hg.sp hg.sm).mono ?_; rintro e w2 ⟨cs, rfl, hbk, hb2⟩; have HT2 := Lib.hid (HT1.out.on hb2); have HBK := Lib.hid hbk; have HIc := Lib.hid (show (Tryd.prog.info? 113).map (·.size) = some cs.size by rw [hbk.size]; exact i113); have HSZ := Lib.hid (show Tryd.zeroCells113.size = cs.size by rw [hbk.size]; exact z113_size); clear hb2 hbk) | ((with_reducible refine gate_dst (N := 7) rfl ?_); refine b_alloc rfl rfl zb113 ?_) | (refine wpList_store_row rfl 113 (.tmp 7) (.tmp 20) rfl w2.heap.size cs rfl rfl 113 Tryd.zeroCells113 (new_at rfl) HIc.out HSZ.out HBK.out.one ?_))
  have hs2 : w.heap.size + 2 ≤ w2.heap.size := by have := blk_lt HT2.out.b2; omega
  have hT4 := (HT2.out.on (below_alloc (Below.refl _ _) (.cells Tryd.zeroCells113 113))).row hs2 cs
  have h7 : ((w2.alloc (.cells Tryd.zeroCells113 113)).setRow w2.heap.size cs).heap[w2.heap.size]? = some (.cells cs 113 (0, 0)) := setRow_heap _ _ _ _ _ _ (new_at rfl)
  generalize (w2.alloc (.cells Tryd.zeroCells113 113)).setRow w2.heap.size cs = W4 at hT4 h7 ⊢
  have HT4 := Lib.hid hT4
  have H7 := Lib.hid h7
  clear hT4 h7 hs2
  cases e : canB b with
  | true =>
    have HE := Lib.hid (show anyB (possB b (markAll b (fun _ => false) (fills b.salts))) = true from e)
    go_wp2_with (first | ((with_reducible refine gate_dst (N := 22) rfl ?_); refine wpList_load_row rfl 113 _ rfl w2.heap.size rfl 113 cs (0, 0) _ H7.out Tryd.underlying113 rfl HIc.out ?_) | (go_at_call 63; refine (known_calls HBK.out (hb.below HT4.out.below) hg.sm).mono ?_; rintro e w5 ⟨rfl, hb5⟩; rw [HE.out]; simp only [s39]; have HT5 := Lib.hid ((HT4.out.on hb5).on (below_alloc (Below.refl _ _) (.cells #[.int .i64 (knownR (possB b (markAll b (fun _ => false) (fills b.salts)))).1, .int .i64 (knownR (possB b (markAll b (fun _ => false) (fills b.salts)))).2] 39))); have H75 := Lib.hid (blk_alloc (blk_below H7.out hb5) (.cells #[.int .i64 (knownR (possB b (markAll b (fun _ => false) (fills b.salts)))).1, .int .i64 (knownR (possB b (markAll b (fun _ => false) (fills b.salts)))).2] 39)); clear hb5) | ((with_reducible refine gate_dst (N := 29) rfl ?_); refine wpList_load_row rfl 113 _ rfl w2.heap.size rfl 113 cs (0, 0) _ H75.out Tryd.underlying113 rfl HIc.out ?_) | (refine wpList_store_row rfl 113 (.tmp 4) (.tmp 29) rfl (w.heap.size + 1) cs rfl rfl 113 Tryd.zeroCells113 HT5.out.b2 HIc.out HSZ.out HBK.out.one ?_))
    have HT6 := HT5.out.put cs
    refine bodyPost_ret (v := .tuple #[.agg cs, .int .i64 0]) (res_cell_tmp Tryd.results60 _ _ (w.heap.size + 1) 113 _ (0, 0) _ rfl HT6.b2 Tryd.underlying113 rfl HIc.out) rfl ⟨cs, rfl, HBK.out, HT6.below⟩
  | false =>
    have HE := Lib.hid (show anyB (possB b (markAll b (fun _ => false) (fills b.salts))) = false from e)
    go_wp2_with (first | ((with_reducible refine gate_dst (N := 22) rfl ?_); refine wpList_load_row rfl 113 _ rfl w2.heap.size rfl 113 cs (0, 0) _ H7.out Tryd.underlying113 rfl HIc.out ?_) | (go_at_call 63; refine (known_calls HBK.out (hb.below HT4.out.below) hg.sm).mono ?_; rintro e w5 ⟨rfl, hb5⟩; rw [HE.out]; simp only [s39]; have HT5 := Lib.hid ((HT4.out.on hb5).on (below_alloc (Below.refl _ _) (.cells #[.int .i64 (knownR (possB b (markAll b (fun _ => false) (fills b.salts)))).1, .int .i64 (knownR (possB b (markAll b (fun _ => false) (fills b.salts)))).2] 39))); have H75 := Lib.hid (blk_alloc (blk_below H7.out hb5) (.cells #[.int .i64 (knownR (possB b (markAll b (fun _ => false) (fills b.salts)))).1, .int .i64 (knownR (possB b (markAll b (fun _ => false) (fills b.salts)))).2] 39)); clear hb5) | ((with_reducible refine gate_dst (N := 28) rfl ?_); refine wpList_load_row rfl 113 _ rfl w2.heap.size rfl 113 cs (0, 0) _ H75.out Tryd.underlying113 rfl HIc.out ?_) | (refine wpList_store_row rfl 113 (.tmp 4) (.tmp 28) rfl (w.heap.size + 1) cs rfl rfl 113 Tryd.zeroCells113 HT5.out.b2 HIc.out HSZ.out HBK.out.one ?_))
    have HT6 := HT5.out.put cs
    refine bodyPost_ret (v := .tuple #[.agg cs, .int .i64 22]) (res_cell_tmp Tryd.results60 _ _ (w.heap.size + 1) 113 _ (0, 0) _ rfl HT6.b2 Tryd.underlying113 rfl HIc.out) rfl ⟨cs, rfl, HBK.out, HT6.below⟩
end Go.Proofs.YtghpoldlddghjaaDoor
namespace Go.Proofs.YtghpoldlddghjaaDoor
open Go Go.RowKit
open Go.Proofs.YtghpoldlddghjaaDoorW.PrintWords Go.Proofs.YtghpoldlddghjaaDoorW.PrintMore Go.Proofs.YtghpoldlddghjaaDoor.PPasteTrue
def askE (b : Bk) (is : Bool) : Int := if checkB b = true then (if is = true then (if canB b = true then 0 else 22) else 21) else 20
structure AskR (h : Hd) (b : Bk) (is : Bool) (cs : Array Value) : Prop where
  size : cs.size = 518
  one : cs.all (·.oneCell') = true
  good : checkB b = true → Good b
  book : checkB b = true → is = true → IsBook cs h b (allB b)
theorem AskR.i {h : Hd} {b : Bk} {is : Bool} {cs : Array Value} (a : AskR h b is cs) : (Tryd.prog.info? 113).map (·.size) = some cs.size := by rw [a.size]; exact i113
theorem AskR.z {h : Hd} {b : Bk} {is : Bool} {cs : Array Value} (a : AskR h b is cs) : Tryd.zeroCells113.size = cs.size := by rw [a.size]; exact z113_size
theorem asked_calls {h : Hd} {b : Bk} {w : World} (hb : BkIn w h b) (hsa : Sane b) (is : Bool) :
    Calls Tryd.prog 60 #[.agg (h.cells b), .bool is] w fun e w' => ∃ cs, e = .returned (.tuple #[.agg cs, .int .i64 (askE b is)]) ∧ AskR h b is cs ∧ Below w.heap.size w w' := by
  unfold askE
  cases hc : checkB b with
  | false =>
    simp only [Bool.false_eq_true, if_false]
    refine (asked_bad hb is hc).mono ?_
    intro e w' hh
    refine ⟨Tryd.zeroCells113, hh.1, ⟨z113_size, z113_one, fun h => absurd (hc.symm.trans h) Bool.false_ne_true, fun h => absurd (hc.symm.trans h) Bool.false_ne_true⟩, hh.2⟩
  | true =>
    have hg := good_of hc hsa
    cases is with
    | false =>
      refine (asked_ask hb hc).mono ?_
      rintro e w' ⟨rfl, hb1⟩
      exact ⟨_, rfl, ⟨z113_size, z113_one, fun _ => hg, fun _ h => absurd h Bool.false_ne_true⟩, hb1⟩
    | true =>
      simp only [↓reduceIte]
      refine (asked_ok hb hc hg).mono ?_
      rintro e w' ⟨cs, he, hbk, hb1⟩
      exact ⟨cs, he, ⟨hbk.size, hbk.one, fun _ => hg, fun _ _ => hbk⟩, hb1⟩
theorem askE_cases (b : Bk) : askE b true = 0 ∨ askE b true = 20 ∨ askE b true = 22 := by
  unfold askE
  generalize checkB b = x
  generalize canB b = y
  cases x <;> cases y <;> first | exact .inl rfl | exact .inr (.inl rfl) | exact .inr (.inr rfl)
theorem askE_zero {b : Bk} {is : Bool} (h : askE b is = 0) : checkB b = true ∧ is = true ∧ canB b = true := by
  unfold askE at h
  by_cases h1 : checkB b = true
  · rw [if_pos h1] at h
    by_cases h2 : is = true
    · rw [if_pos h2] at h
      by_cases h3 : canB b = true
      · exact ⟨h1, h2, h3⟩
      · rw [if_neg h3] at h
        cases h
    · rw [if_neg h2] at h
      cases h
  · rw [if_neg h1] at h
    cases h
def eRight (b : Bk) : Int := if askE b true = 22 then 0 else askE b true
structure One (w : World) (c1 : Array Value) (t1 : TypeId) (wr : World) : Prop where
  below : Below w.heap.size w wr
  b1 : wr.heap[w.heap.size]? = some (.cells c1 t1 (0, 0))
theorem One.on {w : World} {c1 : Array Value} {t1 : TypeId} {wr w1 : World} (h : One w c1 t1 wr) (hb : Below wr.heap.size wr w1) : One w c1 t1 w1 := ⟨below_step h.below hb, blk_below h.b1 hb⟩
theorem One.start (w : World) (c1 : Array Value) (t1 : TypeId) : One w c1 t1 (w.alloc (.cells c1 t1)) := ⟨below_alloc (Below.refl _ _) _, new_at rfl⟩
theorem One.var {w : World} {c1 : Array Value} {t1 : TypeId} {wr : World} (h : One w c1 t1 wr) (z cs : Array Value) (t : TypeId) : One w c1 t1 ((wr.alloc (.cells z t)).setRow wr.heap.size cs) := by
  have := blk_lt h.b1
  exact ⟨below_row (below_alloc h.below _) (by omega) _, (setRow_other _ _ _ _ (by omega)).trans (blk_alloc h.b1 _)⟩
theorem var_at {wr : World} {z cs : Array Value} {t : TypeId} : ((wr.alloc (.cells z t)).setRow wr.heap.size cs).heap[wr.heap.size]? = some (.cells cs t (0, 0)) := setRow_heap _ _ _ _ _ _ (new_at rfl)
set_option maxRecDepth 20000 in
set_option maxHeartbeats 800000 in
theorem Right_calls {h : Hd} {b : Bk} {w : World} (hb : BkIn w h b) (hsa : Sane b) :
    Calls Tryd.prog 15 #[.agg (h.cells b)] w fun e w' => e = .returned (.tuple #[.bool (decide (askE b true = 0)), .int .i64 (eRight b)]) ∧ Below w.heap.size w w' := by
  unfold eRight
  have HS := Lib.hid hsa
  clear hsa
  rcases askE_cases b with hv | hv | hv <;>
  · rw [hv]
    have HV := Lib.hid hv
    have HO := Lib.hid (One.start w (h.cells b) 27)
    clear hv
    go_enter Tryd.func15, Tryd.ntmps15
    go_wp2_with (first | (with_reducible refine b_box (t := 27) rfl rfl rfl ?_) | ((with_reducible refine gate_dst (N := 7) rfl ?_); refine wpList_load_row rfl 27 _ rfl w.heap.size rfl 27 (h.cells b) (0, 0) _ HO.out.b1 Tryd.underlying27 rfl i27 ?_) | (go_at_call 60; refine (asked_calls (hb.below HO.out.below) HS.out true).mono ?_; rintro e w1 ⟨cs, rfl, ha, hb1⟩; rw [HV.out]; have HA := Lib.hid ha; have HO1 := Lib.hid (HO.out.on hb1); clear ha hb1) | ((with_reducible refine gate_dst (N := 4) rfl ?_); refine b_alloc rfl rfl zb113 ?_) | (refine wpList_store_row rfl 113 (.tmp 4) (.tmp 9) rfl w1.heap.size cs rfl rfl 113 Tryd.zeroCells113 (new_at rfl) HA.out.i HA.out.z HA.out.one ?_))
    have HO2 := HO1.out.var Tryd.zeroCells113 cs 113
    go_ret2
    exact ⟨rfl, HO2.below⟩
def kR (b : Bk) : Int × Int := if askE b true = 0 then knownR (pB b) else (0, 0)
theorem s39_lit (r : Int × Int) : s39 r = #[.int .i64 r.1, .int .i64 r.2] := rfl
theorem Two.box {w : World} {c1 c2 : Array Value} {t1 t2 : TypeId} {wr : World} (h : Two w c1 t1 c2 t2 wr) (o : Obj) : Two w c1 t1 c2 t2 (wr.alloc o) := h.on (below_alloc (Below.refl _ _) _)
theorem Two.var {w : World} {c1 c2 : Array Value} {t1 t2 : TypeId} {wr : World} (h : Two w c1 t1 c2 t2 wr) (z cs : Array Value) (t : TypeId) : Two w c1 t1 c2 t2 ((wr.alloc (.cells z t)).setRow wr.heap.size cs) := by
  have := blk_lt h.b2
  exact (h.box _).row (by omega) cs
end Go.Proofs.YtghpoldlddghjaaDoor
namespace Go.Proofs.YtghpoldlddghjaaDoor
open Go Go.RowKit
open Go.Proofs.YtghpoldlddghjaaDoorW.PrintWords Go.Proofs.YtghpoldlddghjaaDoorW.PrintMore Go.Proofs.YtghpoldlddghjaaDoor.PPasteTrue
set_option maxRecDepth 20000 in
set_option maxHeartbeats 800000 in
theorem Power_calls {h : Hd} {b : Bk} {w : World} (hb : BkIn w h b) (hsa : Sane b) :
    Calls Tryd.prog 17 #[.agg (h.cells b)] w fun e w' => e = .returned (.tuple #[.agg (s39 (kR b)), .int .i64 (askE b true)]) ∧ Below w.heap.size w w' := by
  have HS := Lib.hid hsa
  clear hsa
  have HO := Lib.hid (Two.start w (h.cells b) 27 #[.int .i64 0, .int .i64 0] 39)
  by_cases h0 : askE b true = 0
  · obtain ⟨g1, _, _⟩ := askE_zero h0
    unfold kR
    rw [if_pos h0, h0]
    obtain ⟨kr, hkr⟩ : ∃ kr, kr = knownR (pB b) := ⟨_, rfl⟩
    have HK := Lib.hid hkr
    rw [← hkr]
    clear hkr
    have HV := Lib.hid h0
    have HG1 := Lib.hid g1
    clear h0 g1
    go_enter Tryd.func17, Tryd.ntmps17
    go_upto_region 4 with (first | (with_reducible refine b_box (t := 27) rfl rfl rfl ?_) | ((with_reducible refine gate_dst (N := 9) rfl ?_); refine wpList_load_row rfl 27 _ rfl w.heap.size rfl 27 (h.cells b) (0, 0) _ HO.out.b1 Tryd.underlying27 rfl i27 ?_) | (go_at_call 60; refine (asked_calls (hb.below HO.out.below) HS.out true).mono ?_; rintro e w1 ⟨cs, rfl, ha, hb1⟩; rw [HV.out]; have HA := Lib.hid ha; have HO1 := Lib.hid (HO.out.on hb1); clear ha hb1) | ((with_reducible refine gate_dst (N := 4) rfl ?_); refine b_alloc rfl rfl zb113 ?_) | (refine wpList_store_row rfl 113 (.tmp 4) (.tmp 11) rfl w1.heap.size cs rfl rfl 113 Tryd.zeroCells113 (new_at rfl) HA.out.i HA.out.z HA.out.one ?_))
    have HO2 := Lib.hid (HO1.out.var Tryd.zeroCells113 cs 113)
    have H4 : ((w1.alloc (.cells Tryd.zeroCells113 113)).setRow w1.heap.size cs).heap[w1.heap.size]? = some (.cells cs 113 (0, 0)) := var_at
    generalize (w1.alloc (.cells Tryd.zeroCells113 113)).setRow w1.heap.size cs = W2 at HO2 H4 ⊢
    have H42 := Lib.hid H4
    clear H4
    have HBK := Lib.hid (HA.out.book HG1.out rfl)
    have HGG := Lib.hid (HA.out.good HG1.out)
    go_wp2_with (first | ((with_reducible refine gate_dst (N := 18) rfl ?_); refine wpList_load_row rfl 113 _ rfl w1.heap.size rfl 113 cs (0, 0) _ H42.out Tryd.underlying113 rfl HA.out.i ?_) | (go_at_call 63; refine (known_calls HBK.out (hb.below HO2.out.below) HGG.out.sm).mono ?_; rintro e w5 ⟨rfl, hb5⟩; rw [show possB b (allB b) = pB b from rfl, ← HK.out]; simp only [s39]; have HO3 := Lib.hid ((HO2.out.on hb5).box (.cells #[.int .i64 kr.1, .int .i64 kr.2] 39)); clear hb5) | (refine wpList_store_row rfl 39 (.tmp 2) (.tmp 22) rfl (w.heap.size + 1) #[.int .i64 kr.1, .int .i64 kr.2] rfl rfl 39 #[.int .i64 0, .int .i64 0] HO3.out.b2 i39 rfl (by simp [Value.oneCell']) ?_))
    have HO4 := HO3.out.put #[.int .i64 kr.1, .int .i64 kr.2]
    refine bodyPost_ret (v := .tuple #[.agg (s39 kr), .int .i64 0]) (res_cell_tmp Tryd.results17 _ _ (w.heap.size + 1) 39 _ (0, 0) _ rfl HO4.b2 Tryd.underlying39 rfl i39) rfl ⟨rfl, HO4.below⟩
  · have hv : askE b true = 20 ∨ askE b true = 22 := by
      rcases askE_cases b with h | h | h
      · exact absurd h h0
      · exact .inl h
      · exact .inr h
    unfold kR
    rw [if_neg h0]
    clear h0
    rcases hv with hv | hv
    · rw [hv]
      have HV := Lib.hid hv
      clear hv
      go_enter Tryd.func17, Tryd.ntmps17
      go_wp2_with (first | (with_reducible refine b_box (t := 27) rfl rfl rfl ?_) | ((with_reducible refine gate_dst (N := 9) rfl ?_); refine wpList_load_row rfl 27 _ rfl w.heap.size rfl 27 (h.cells b) (0, 0) _ HO.out.b1 Tryd.underlying27 rfl i27 ?_) | (go_at_call 60; refine (asked_calls (hb.below HO.out.below) HS.out true).mono ?_; rintro e w1 ⟨cs, rfl, ha, hb1⟩; rw [HV.out]; have HA := Lib.hid ha; have HO1 := Lib.hid (HO.out.on hb1); have HO2 := Lib.hid ((HO.out.on hb1).var Tryd.zeroCells113 cs 113); clear ha hb1) | ((with_reducible refine gate_dst (N := 4) rfl ?_); refine b_alloc rfl rfl zb113 ?_) | (refine wpList_store_row rfl 113 (.tmp 4) (.tmp 11) rfl w1.heap.size cs rfl rfl 113 Tryd.zeroCells113 (new_at rfl) HA.out.i HA.out.z HA.out.one ?_) | (refine wpList_store_row rfl 39 (.tmp 2) (.tmp 15) rfl (w.heap.size + 1) #[.int .i64 0, .int .i64 0] rfl rfl 39 #[.int .i64 0, .int .i64 0] HO2.out.b2 i39 rfl (by simp [Value.oneCell']) ?_))
      have HO4 := HO2.out.put #[.int .i64 0, .int .i64 0]
      refine bodyPost_ret (v := .tuple #[.agg (s39 (0, 0)), .int .i64 20]) (res_cell_tmp Tryd.results17 _ _ (w.heap.size + 1) 39 _ (0, 0) _ rfl HO4.b2 Tryd.underlying39 rfl i39) rfl ⟨rfl, HO4.below⟩
    · rw [hv]
      have HV := Lib.hid hv
      clear hv
      go_enter Tryd.func17, Tryd.ntmps17
      go_wp2_with (first | (with_reducible refine b_box (t := 27) rfl rfl rfl ?_) | ((with_reducible refine gate_dst (N := 9) rfl ?_); refine wpList_load_row rfl 27 _ rfl w.heap.size rfl 27 (h.cells b) (0, 0) _ HO.out.b1 Tryd.underlying27 rfl i27 ?_) | (go_at_call 60; refine (asked_calls (hb.below HO.out.below) HS.out true).mono ?_; rintro e w1 ⟨cs, rfl, ha, hb1⟩; rw [HV.out]; have HA := Lib.hid ha; have HO1 := Lib.hid (HO.out.on hb1); have HO2 := Lib.hid ((HO.out.on hb1).var Tryd.zeroCells113 cs 113); clear ha hb1) | ((with_reducible refine gate_dst (N := 4) rfl ?_); refine b_alloc rfl rfl zb113 ?_) | (refine wpList_store_row rfl 113 (.tmp 4) (.tmp 11) rfl w1.heap.size cs rfl rfl 113 Tryd.zeroCells113 (new_at rfl) HA.out.i HA.out.z HA.out.one ?_) | (refine wpList_store_row rfl 39 (.tmp 2) (.tmp 15) rfl (w.heap.size + 1) #[.int .i64 0, .int .i64 0] rfl rfl 39 #[.int .i64 0, .int .i64 0] HO2.out.b2 i39 rfl (by simp [Value.oneCell']) ?_))
      have HO4 := HO2.out.put #[.int .i64 0, .int .i64 0]
      refine bodyPost_ret (v := .tuple #[.agg (s39 (0, 0)), .int .i64 22]) (res_cell_tmp Tryd.results17 _ _ (w.heap.size + 1) 39 _ (0, 0) _ rfl HO4.b2 Tryd.underlying39 rfl i39) rfl ⟨rfl, HO4.below⟩
end Go.Proofs.YtghpoldlddghjaaDoor
namespace Go.Proofs.YtghpoldlddghjaaDoor
open Go Go.RowKit
open Go.Proofs.YtghpoldlddghjaaDoorW.PrintWords Go.Proofs.YtghpoldlddghjaaDoorW.PrintMore Go.Proofs.YtghpoldlddghjaaDoor.PPasteTrue
def backw2 (ops : Array Oper) : Bool := (List.range ops.size).all fun i => ((ops[i]?).map fun o => o.after.all fun e => !Region.binds .any e || decide (e.on < i)).getD true
section
variable {P : Program} {ops : Array Oper} {Q : Exit → Act → World → Prop}
theorem draw_inv2_any (hback : backw2 ops = true) (I : (Nat → Bool) → Act → World → Prop)
    (hs : ∀ i, i < ops.size → ∀ b a w, I b a w → b i = false → Came ops b i → wpOp P ops Q i (I (upd b i)) a w)
    (he : ∀ b a w, I b a w → (∀ j, j < ops.size → b j = true) → Q .normal a w) :
    ∀ (fuel : Nat) (listed : Array Bool) (b : Nat → Bool) (a : Act) (w : World), listed.size = ops.size → (∀ j, j < ops.size → listed.getD j true = b j) → ((List.range ops.size).filter fun j => !b j).length = fuel → I b a w → wpAny P .any ops Q fuel listed a w := by
  intro fuel
  induction fuel with
  | zero =>
    intro listed b a w hsz hl hc hI
    have hall : ∀ j, j < ops.size → b j = true := by
      intro j hj
      cases hb : b j with
      | true => rfl
      | false =>
        have : j ∈ (List.range ops.size).filter fun j => !b j := List.mem_filter.2 ⟨List.mem_range.2 hj, by simp [hb]⟩
        rw [List.length_eq_zero_iff.1 hc] at this
        cases this
    refine ⟨?_, he b a w hI hall⟩
    unfold Region.ready
    rw [List.filter_eq_nil_iff]
    intro j hj
    rw [hl j (List.mem_range.1 hj), hall j (List.mem_range.1 hj)]
    simp
  | succ n ih =>
    intro listed b a w hsz hl hc hI
    refine ⟨fun hr => ?_, fun i hi => ?_⟩
    · exfalso
      -- the first one that has not come is ready
      have key : ∀ m, m ≤ ops.size → (∀ j, j < m → b j = true) := by
        intro m
        induction m with
        | zero => intro _ j hj; omega
        | succ m ihm =>
          intro hm j hj
          rcases Nat.lt_or_eq_of_le (Nat.le_of_lt_succ hj) with h | rfl
          · exact ihm (by omega) j h
          · cases hb : b j with
            | true => rfl
            | false =>
              have hmem : j ∈ Region.ready .any ops listed := by
                unfold Region.ready
                refine List.mem_filter.2 ⟨List.mem_range.2 (by omega), ?_⟩
                rw [hl j (by omega), hb]
                have hb1 := List.all_eq_true.1 hback j (List.mem_range.2 (by omega))
                have ho : ops[j]? = some ops[j] := Array.getElem?_eq_getElem (by omega)
                rw [ho] at hb1 ⊢
                simp only [Option.map_some, Option.getD_some, Bool.not_false, Bool.true_and] at hb1 ⊢
                rw [Array.all_eq_true_iff_forall_mem] at hb1 ⊢
                intro e hem
                have h0 := hb1 e hem
                rw [Bool.or_eq_true] at h0
                rcases h0 with h0 | h0
                · rw [h0]; rfl
                have h1 := of_decide_eq_true h0
                have h2 := ihm (by omega) e.on h1
                have h3 := hl e.on (by omega)
                have h4 : listed.getD e.on false = listed.getD e.on true := by
                  simp only [Array.getD_eq_getD_getElem?, Array.getElem?_eq_getElem (show e.on < listed.size by omega), Option.getD_some]
                rw [h4, h3, h2]
                simp
              rw [hr] at hmem
              cases hmem
      have hall := key ops.size (Nat.le_refl _)
      have : ((List.range ops.size).filter fun j => !b j) = [] := by
        rw [List.filter_eq_nil_iff]
        intro j hj
        simp [hall j (List.mem_range.1 hj)]
      rw [this] at hc
      simp at hc
    · unfold Region.ready at hi
      obtain ⟨h1, h2⟩ := List.mem_filter.1 hi
      have hlt := List.mem_range.1 h1
      rw [Bool.and_eq_true] at h2
      have hbi : b i = false := by
        have := h2.1
        rw [hl i hlt] at this
        simpa using this
      have hcame : Came ops b i := by
        unfold Came
        have h3 := h2.2
        have ho : ops[i]? = some ops[i] := Array.getElem?_eq_getElem hlt
        have hb1 := List.all_eq_true.1 hback i h1
        rw [ho] at h3 hb1 ⊢
        simp only [Option.map_some, Option.getD_some] at h3 hb1 ⊢
        rw [Array.all_eq_true_iff_forall_mem] at h3 hb1 ⊢
        intro e hem
        have h4 := h3 e hem
        have h0 := hb1 e hem
        rw [Bool.or_eq_true] at h0
        rcases h0 with h0 | h0
        · rw [h0]; rfl
        have h5 := of_decide_eq_true h0
        have h6 : listed.getD e.on false = listed.getD e.on true := by
          simp only [Array.getD_eq_getD_getElem?, Array.getElem?_eq_getElem (show e.on < listed.size by omega), Option.getD_some]
        rw [h6, hl e.on (by omega)] at h4
        exact h4
      refine wpOp_mono' ?_ (hs i hlt b a w hI hbi hcame)
      intro a' w' hI'
      refine ih _ (upd b i) a' w' (by simpa using hsz) ?_ ?_ hI'
      · intro j hj
        unfold upd
        by_cases e : j = i
        · subst e
          simp [Array.getD_eq_getD_getElem?, hsz, hlt]
        · rw [if_neg e, ← hl j hj]
          simp only [Array.getD_eq_getD_getElem?, Array.getElem?_setIfInBounds]
          rw [if_neg (fun h => e h.symm)]
      · have hcount : ∀ (l : List Nat), l.Nodup → i ∈ l → (l.filter fun j => !upd b i j).length + 1 = (l.filter fun j => !b j).length := by
          intro l
          induction l with
          | nil => intro _ h; cases h
          | cons x r ihr =>
            intro hn hm
            rw [List.nodup_cons] at hn
            rcases List.mem_cons.1 hm with rfl | hm
            · have h1 : (r.filter fun j => !upd b i j) = r.filter fun j => !b j := by
                refine List.filter_congr (fun j hj => ?_)
                have : j ≠ i := fun e => hn.1 (by rw [← e]; exact hj)
                simp [upd, this]
              rw [List.filter_cons, List.filter_cons]
              rw [h1]
              simp [upd, hbi]
            · have hxi : x ≠ i := fun e => hn.1 (e ▸ hm)
              have h1 := ihr hn.2 hm
              have h2 : upd b i x = b x := by simp [upd, hxi]
              rw [List.filter_cons, List.filter_cons, h2]
              cases hbx : b x
              · simp only [Bool.not_false, if_true, List.length_cons]
                omega
              · simpa using h1
        have := hcount (List.range ops.size) List.nodup_range (List.mem_range.2 hlt)
        omega
theorem draw_inv2 {id : Nat} {a : Act} {w : World} (hm : P.follows .mixedOrders = true) (hback : backw2 ops = true) (I : (Nat → Bool) → Act → World → Prop) (h0 : I (fun _ => false) a w.drew)
    (hs : ∀ i, i < ops.size → ∀ b a w, I b a w → b i = false → Came ops b i → wpOp P ops Q i (I (upd b i)) a w)
    (he : ∀ b a w, I b a w → (∀ j, j < ops.size → b j = true) → Q .normal a w) : (Code.region id ops true).wp P Q a w := by
  refine wp_region_any hm (draw_inv2_any hback I hs he ops.size _ (fun _ => false) a _ (by simp) ?_ (by rw [List.filter_eq_self.2 (by simp)]; simp) h0)
  intro j hj
  simp [Array.getD_eq_getD_getElem?, hj]
end
def isSurfB (b : Bk) (n : Int) : Bool := inB n 0 (wrap64 ((b.surfs.length : Int) - 1))
theorem isSurface_calls {h : Hd} {b : Bk} {w : World} (hb : BkIn w h b) (n : Int) : Calls Tryd.prog 65 #[.agg (h.cells b), .int .i64 n] w fun e w' => e = .returned (.bool (isSurfB b n)) ∧ Below w.heap.size w w' :=
  paste_isSurface.calls h.A0 h.c0 b.salts h.A1 h.c1 b.pairs h.A2 h.c2 b.surfs b.need h.A4 h.c4 b.trials n _ w hb.r0 hb.l0 hb.r1 hb.l1 hb.r2 hb.l2 hb.r4 hb.l4 (by unfold paste_isSurface.f; rw [within_eq]; rfl)
def eL (b : Bk) (n : Int) : Int := askE b (isSurfB b n)
def lR (b : Bk) (n : Int) : Int := if eL b n = 0 then lightsI b (allB b) n.toNat else 0
theorem eL_cases (b : Bk) (n : Int) : eL b n = 0 ∨ eL b n = 20 ∨ eL b n = 21 ∨ eL b n = 22 := by
  unfold eL askE
  generalize checkB b = x
  generalize isSurfB b n = z
  generalize canB b = y
  cases x <;> cases y <;> cases z <;> first | exact .inl rfl | exact .inr (.inl rfl) | exact .inr (.inr (.inl rfl)) | exact .inr (.inr (.inr rfl))
theorem isSurf_of {b : Bk} {n : Int} (hg : Good b) (h : isSurfB b n = true) : 0 ≤ n ∧ n < b.surfs.length := by
  unfold isSurfB at h
  rw [inB_iff] at h
  have := hg.u0
  have := hg.u1
  have hw : wrap64 ((b.surfs.length : Int) - 1) = b.surfs.length - 1 := by unfold wrap64; omega
  omega
structure LiSt (w : World) (h : Hd) (b : Bk) (is : Bool) (g6 : Nat) (cs : Array Value) (wq : World) (b4 b5 b6 b8 b9 : Bool) : Prop where
  o : One w (h.cells b) 27 wq
  a : b4 = true → AskR h b is cs
  v : b8 = true → w.heap.size + 1 ≤ g6 ∧ wq.heap[g6]? = some (.cells (if b9 then cs else Tryd.zeroCells113) 113 (0, 0))
  i5 : b5 = true → b4 = true
  i6 : b6 = true → b4 = true
  i9 : b9 = true → b4 = true ∧ b8 = true
theorem LiSt.on {w : World} {h : Hd} {b : Bk} {is : Bool} {g6 : Nat} {cs : Array Value} {wq w1 : World} {b4 b5 b6 b8 b9 : Bool} (s : LiSt w h b is g6 cs wq b4 b5 b6 b8 b9) (hb : Below wq.heap.size wq w1) : LiSt w h b is g6 cs w1 b4 b5 b6 b8 b9 :=
  ⟨s.o.on hb, s.a, fun e => ⟨(s.v e).1, blk_below (s.v e).2 hb⟩, s.i5, s.i6, s.i9⟩
theorem LiSt.ask {w : World} {h : Hd} {b : Bk} {is : Bool} {g6 : Nat} {cs cs' : Array Value} {wq : World} {b5 b6 b8 b9 : Bool} (s : LiSt w h b is g6 cs wq false b5 b6 b8 b9) (ha : AskR h b is cs') : b5 = false ∧ b6 = false ∧ b9 = false ∧ LiSt w h b is g6 cs' wq true b5 b6 b8 b9 := by
  have e5 : b5 = false := by
    cases b5 with
    | false => rfl
    | true => cases s.i5 rfl
  have e6 : b6 = false := by
    cases b6 with
    | false => rfl
    | true => cases s.i6 rfl
  have e9 : b9 = false := by
    cases b9 with
    | false => rfl
    | true => cases (s.i9 rfl).1
  subst e5 e6 e9
  exact ⟨rfl, rfl, rfl, s.o, fun _ => ha, s.v, by simp, by simp, by simp⟩
theorem LiSt.var {w : World} {h : Hd} {b : Bk} {is : Bool} {g6 : Nat} {cs : Array Value} {wq : World} {b4 b5 b6 b9 : Bool} (s : LiSt w h b is g6 cs wq b4 b5 b6 false b9) : b9 = false ∧ LiSt w h b is wq.heap.size cs (wq.alloc (.cells Tryd.zeroCells113 113)) b4 b5 b6 true b9 := by
  have e9 : b9 = false := by
    cases b9 with
    | false => rfl
    | true => cases (s.i9 rfl).2
  subst e9
  exact ⟨rfl, s.o.on (below_alloc (Below.refl _ _) _), s.a, fun _ => ⟨by have := blk_lt s.o.b1; omega, by simpa using (new_at rfl : (wq.alloc (.cells Tryd.zeroCells113 113)).heap[wq.heap.size]? = _)⟩, s.i5, s.i6, by simp⟩
theorem LiSt.set {w : World} {h : Hd} {b : Bk} {is : Bool} {g6 : Nat} {cs : Array Value} {wq : World} {b5 b6 : Bool} (s : LiSt w h b is g6 cs wq true b5 b6 true false) : LiSt w h b is g6 cs (wq.setRow g6 cs) true b5 b6 true true := by
  obtain ⟨n6, h6⟩ := s.v rfl
  exact ⟨⟨below_row s.o.below (by omega) _, (setRow_other wq g6 _ _ (by omega)).trans s.o.b1⟩, s.a, fun _ => ⟨n6, by simpa using setRow_heap wq g6 _ _ 113 _ h6⟩, s.i5, s.i6, by simp⟩
set_option maxRecDepth 20000 in
set_option maxHeartbeats 800000 in
theorem Lights_calls {h : Hd} {b : Bk} {w : World} (hg : Asks w) (hb : BkIn w h b) (hsa : Sane b) (n : Int) :
    Calls Tryd.prog 20 #[.agg (h.cells b), .int .i64 n] w fun e w' => e = .returned (.tuple #[.int .i64 (lR b n), .int .i64 (eL b n)]) ∧ Below w.heap.size w w' := by
  have HS := Lib.hid hsa
  have HG := Lib.hid hg
  clear hsa hg
  have HO := Lib.hid (One.start w (h.cells b) 27)
  go_enter Tryd.func20, Tryd.ntmps20
  go_upto_region 1 with (first | (with_reducible refine b_box (t := 27) rfl rfl rfl ?_))
  rename_i K hK
  refine draw_inv2 mixed (by kernel_rfl) (fun bb a wq => ∃ g6 cs, a = ⟨#[.agg (h.cells b), .int .i64 n, .pointer (some ⟨w.heap.size, 0, none⟩), undef, .int .i64 0, .int .i64 0, (if bb 8 then .pointer (some ⟨g6, 0, none⟩) else undef), (if bb 10 then .int .i64 (eL b n) else undef), (if bb 5 then .tuple #[.agg cs, .int .i64 (eL b n)] else undef), (if bb 0 then .agg (h.cells b) else undef), (if bb 1 then .agg (h.cells b) else undef), (if bb 2 then .int .i64 n else undef), (if bb 3 then .bool (isSurfB b n) else undef), (if bb 4 then .tuple #[.agg cs, .int .i64 (eL b n)] else undef), (if bb 6 then .agg cs else undef), (if bb 7 then .int .i64 (eL b n) else undef), undef, undef, undef, undef, undef, undef], []⟩ ∧ LiSt w h b (isSurfB b n) g6 cs wq (bb 4) (bb 5) (bb 6) (bb 8) (bb 9)) ?_ ?_ ?_
  · exact ⟨0, #[], by simp, ⟨HO.out.on (Below.refl _ _).drew, by simp, by simp, by simp, by simp, by simp⟩⟩
  · intro i hi bb a wq hI hbi hcame
    obtain ⟨g6, cs, rfl, hst⟩ := hI
    rcases i with _ | _ | _ | _ | _ | _ | _ | _ | _ | _ | _ | i
    · refine op_value rfl rfl (x_load (g := w.heap.size) rfl rfl hst.o.b1 Tryd.underlying27 rfl i27) ⟨g6, cs, by simp [Act.put, upd], ?_⟩
      simpa [upd] using hst
    · refine op_value rfl rfl (x_load (g := w.heap.size) rfl rfl hst.o.b1 Tryd.underlying27 rfl i27) ⟨g6, cs, by simp [Act.put, upd], ?_⟩
      simpa [upd] using hst
    · refine op_value rfl rfl (x_assign (.inr rfl)) ⟨g6, cs, by simp [Act.put, Act.eval, upd], ?_⟩
      simpa [upd] using hst
    · have hh := hcame
      simp [Came, Region.binds] at hh
      refine op_call rfl (by simp [Region.wanted, yielded]) (run_call Tryd.func65 (by kernel_rfl) rfl rfl rfl (args := #[.agg (h.cells b), .int .i64 n]) (by simp [Act.eval, hh])) ((isSurface_calls (hb.below hst.o.below) n).mono ?_)
      rintro e w5 ⟨rfl, hb5⟩
      refine ⟨_, rfl, g6, cs, by simp [Act.put, upd], ?_⟩
      simpa [upd] using hst.on hb5
    · have hh := hcame
      simp [Came, Region.binds] at hh
      refine op_call rfl (by simp [Region.wanted, yielded]) (run_call Tryd.func60 (by kernel_rfl) rfl rfl rfl (args := #[.agg (h.cells b), .bool (isSurfB b n)]) (by simp [Act.eval, hh])) ((asked_calls (hb.below hst.o.below) HS.out (isSurfB b n)).mono ?_)
      rintro e w5 ⟨cs', rfl, ha, hb5⟩
      have hst' := hst.on hb5
      rw [hbi] at hst'
      obtain ⟨e5, e6, e9, hst2⟩ := hst'.ask ha
      refine ⟨_, rfl, g6, cs', by simp [Act.put, upd, e5, e6, eL], ?_⟩
      simpa [upd, e5, e6, e9] using hst2
    · have hh := hcame
      simp [Came, Region.binds] at hh
      refine op_value rfl rfl (x_assign (.inr rfl)) ⟨g6, cs, by simp [Act.put, Act.eval, upd, hh], ?_⟩
      have := hst
      exact ⟨this.o, by simpa [upd] using this.a, by simpa [upd] using this.v, by simp [upd, hh], by simpa [upd] using this.i6, by simpa [upd] using this.i9⟩
    · have hh := hcame
      simp [Came, Region.binds] at hh
      refine op_value rfl rfl (x_extract (x := .tmp 8) (i := 0) (vs := #[.agg cs, .int .i64 (eL b n)]) (v := .agg cs) rfl (by simp [Act.eval, hh]) (by go_simp)) ⟨g6, cs, by simp [Act.put, Act.eval, upd, hh], ?_⟩
      have := hst
      exact ⟨this.o, by simpa [upd] using this.a, by simpa [upd] using this.v, by simpa [upd] using this.i5, by simpa [upd] using this.i5 (by simp [hh]), by simpa [upd] using this.i9⟩
    · have hh := hcame
      simp [Came, Region.binds] at hh
      refine op_value rfl rfl (x_extract (x := .tmp 8) (i := 1) (vs := #[.agg cs, .int .i64 (eL b n)]) (v := .int .i64 (eL b n)) rfl (by simp [Act.eval, hh]) (by go_simp)) ⟨g6, cs, by simp [Act.put, Act.eval, upd, hh], ?_⟩
      simpa [upd] using hst
    · have hst' := hst
      rw [hbi] at hst'
      obtain ⟨e9, hst2⟩ := hst'.var
      refine op_value rfl rfl (x_alloc rfl zb113) ⟨wq.heap.size, cs, by simp [Act.put, upd], ?_⟩
      simpa [upd, e9] using hst2
    · have hh := hcame
      simp [Came, Region.binds] at hh
      have h6 : bb 6 = true := by simp [hh]
      have h8 : bb 8 = true := by simp [hh]
      have h4 := hst.i6 h6
      have hst' := hst
      rw [hbi, h4, h8] at hst'
      have ha := hst'.a rfl
      refine op_skip rfl (by simp [Region.wanted, yielded]) (x_store (g := g6) (cells := cs) rfl (by simp [Act.eval, hh]) (by simp [Act.eval, hh]) (by simpa using (hst'.v rfl).2) ha.i ha.z ha.one) ⟨g6, cs, by simp [Act.put, upd, hh], ?_⟩
      simpa [upd, h4, h8] using hst'.set
    · have hh := hcame
      simp [Came, Region.binds] at hh
      refine op_value rfl rfl (x_assign (.inl rfl)) ⟨g6, cs, by simp [Act.put, Act.eval, upd, hh], ?_⟩
      simpa [upd] using hst
    · simp at hi; omega
  · intro bb a w4 hI hall
    obtain ⟨g6, cs, rfl, hst⟩ := hI
    refine hK _ _ ?_
    simp only [hall 0 (by simp), hall 1 (by simp), hall 2 (by simp), hall 3 (by simp), hall 4 (by simp), hall 5 (by simp), hall 6 (by simp), hall 7 (by simp), hall 8 (by simp), hall 10 (by simp), if_true]
    rw [hall 4 (by simp), hall 5 (by simp), hall 6 (by simp), hall 8 (by simp), hall 9 (by simp)] at hst
    have HA := Lib.hid (hst.a rfl)
    have HOO := Lib.hid hst.o
    have H6 := Lib.hid (by simpa using (hst.v rfl).2 : w4.heap[g6]? = some (.cells cs 113 (0, 0)))
    clear hst hall hK
    by_cases h0 : eL b n = 0
    · obtain ⟨g1, g2, _⟩ := askE_zero h0
      have hgd := HA.out.good g1
      obtain ⟨n0, n1⟩ := isSurf_of hgd g2
      have HR := Lib.hid (show lR b n = lightsI b (allB b) n.toNat by unfold lR; rw [if_pos h0])
      rw [h0]
      have HBK := Lib.hid (HA.out.book g1 g2)
      have HGG := Lib.hid hgd
      have HE := Lib.hid h0
      clear h0 g1 g2 hgd
      obtain ⟨k, rfl⟩ := Int.eq_ofNat_of_zero_le n0
      have hk : k < b.surfs.length := by omega
      have HKL := Lib.hid hk
      clear n0 n1 hk
      go_wp2_with (first | ((with_reducible refine gate_dst (N := 19) rfl ?_); refine wpList_load_row rfl 113 _ rfl g6 rfl 113 cs (0, 0) _ H6.out Tryd.underlying113 rfl HA.out.i ?_) | (go_at_call 66; refine (lights_calls (HG.out.below HOO.out.below) HBK.out (hb.below HOO.out.below) HGG.out.sm k HKL.out).mono ?_; rintro e w5 ⟨rfl, hb5⟩; have HO5 := Lib.hid (HOO.out.on hb5); clear hb5))
      go_ret2
      exact ⟨by rw [HR.out, HE.out]; simp, HO5.out.below⟩
    · have HR := Lib.hid (show lR b n = 0 by unfold lR; rw [if_neg h0])
      have hv : eL b n = 20 ∨ eL b n = 21 ∨ eL b n = 22 := by
        rcases eL_cases b n with h | h | h | h
        · exact absurd h h0
        · exact .inl h
        · exact .inr (.inl h)
        · exact .inr (.inr h)
      clear h0
      rcases hv with hv | hv | hv <;>
      · rw [hv]
        have HV := Lib.hid hv
        clear hv
        go_wp2
        go_ret2
        exact ⟨by rw [HR.out, HV.out]; rfl, HOO.out.below⟩
end Go.Proofs.YtghpoldlddghjaaDoor
namespace Go.Proofs.YtghpoldlddghjaaDoor
open Go Go.RowKit
open Go.Proofs.YtghpoldlddghjaaDoorW.PrintWords Go.Proofs.YtghpoldlddghjaaDoorW.PrintMore Go.Proofs.YtghpoldlddghjaaDoor.PPasteTrue
theorem R_none' {α : Type} (d : Kd α) (e : Nat) (w : World) (base : Nat) (hb : base ≤ w.heap.size) : d.R e (w.alloc (.cells #[] e)) base (fun _ => True) (.slice (some ⟨w.heap.size, 0, none⟩) 0 0) [] := by
  refine ⟨fun _ _ => trivial, [], ⟨by simp, .inr ⟨w.heap.size, 0, #[], rfl, hb, new_at rfl, by simp, by simp [maxLen], by simp, by simp⟩⟩, Reps.none _ _⟩
theorem i68b : (Tryd.prog.info? 68).map (fun i => (i.zero, i.size, i.bytes)) = some (some (.agg #[.int .i64 0, .int .i64 0, .int .i64 0]), k68.sz, 24) := by kernel_rfl
set_option maxRecDepth 20000 in
set_option maxHeartbeats 800000 in
theorem clone68 {A : Option Addr} {c : Nat} {xs : List S68} {w : World} (hr : Kd.C k68 w A xs.length xs) (hl : xs.length ≤ 1000) :
    Calls Tryd.prog 72 #[.slice A xs.length c] w fun e w' => ∃ v, e = .returned v ∧ k68.R 68 w' w.heap.size (fun _ => True) v xs ∧ Below w.heap.size w w' := by
  have HR := Lib.hid hr
  cases A with
  | none =>
    have h0 : xs = [] := by
      rcases Nat.eq_zero_or_pos xs.length with e | e
      · exact List.eq_nil_of_length_eq_zero e
      · obtain ⟨ad, e2, _⟩ := hr.2.2 e
        cases e2
    clear hr
    subst h0
    have q22 : ∀ (w : World) (a : Option Addr) (n c n' c' : Nat), (binOp .eql 22 (.slice a n c) (.slice none n' c')).run Tryd.prog w = .ok (.bool a.isNone) w := fun w a n c n' c' => Lib.run_eql_slice_nil w _ _ a n c n' c' Tryd.underlying22
    go_enter Tryd.func72, Tryd.ntmps72
    go_wp2
    go_ret
    exact ⟨_, rfl, Kd.R_nil _ _ _ _ _, Below.refl _ _⟩
  | some ad =>
    clear hr
    have q22 : ∀ (w : World) (a : Option Addr) (n c n' c' : Nat), (binOp .eql 22 (.slice a n c) (.slice none n' c')).run Tryd.prog w = .ok (.bool a.isNone) w := fun w a n c n' c' => Lib.run_eql_slice_nil w _ _ a n c n' c' Tryd.underlying22
    go_enter Tryd.func72, Tryd.ntmps72
    have HN := Lib.hid (R_none' k68 68 w w.heap.size (Nat.le_refl _))
    have HB := Lib.hid (below_alloc (Below.refl w.heap.size w) (.cells #[] 68))
    go_wp2_with (first | (at_builtin; go_loud (refine Kd.R_append_rows k68 (Rr := k68.K w) (w0 := w) w.heap.size rfl (.tmp 5) (.tmp 6) 22 68 (.agg #[.int .i64 0, .int .i64 0, .int .i64 0]) 24 rfl Tryd.underlying22 i68b rfl (by decide) (by decide) (.slice (some ⟨w.heap.size, 0, none⟩) 0 0) [] xs (some ad) xs.length c (fun _ => True) (fun k => k < w.heap.size) rfl rfl HN.out (Kd.C_below HR.out HB.out) (fun x cs hk => by rw [k68_open hk]; exact k68_mkM _ _ _ _) (fun k hk => ⟨trivial, by simp [Value.ownBlock]; omega⟩) (fun _ _ => trivial) HB.out (by simp) (by simp; omega) ?_); intro v1 w1 HR1 HB1 _ _; have HR1 := Aside0.mk HR1; have HB1 := Aside0.mk HB1))
    go_ret
    exact ⟨_, rfl, by simpa using HR1.out, HB1.out⟩
def Bk.bare (b : Bk) : Bk := { b with trials := [] }
def Hd.bare (h : Hd) : Hd := { h with A4 := none, c4 := 0 }
theorem BkIn.bare {w : World} {h : Hd} {b : Bk} (x : BkIn w h b) : BkIn w h.bare b.bare := ⟨x.r0, x.r1, x.r2, Kd.C_nil _ _, x.l0, x.l1, x.l2, Nat.le_refl _⟩
def z27 : Array Value := #[.slice none 0 0, .slice none 0 0, .slice none 0 0, .int .i64 0, .slice none 0 0]
theorem zb27 (w : World) : (zeroValue 27).run Tryd.prog w = .ok (.agg z27) w := Tryd.zeroValue27 w
theorem cells_one (h : Hd) (b : Bk) : (h.cells b).all (·.oneCell') = true := by simp [Hd.cells, Value.oneCell']
theorem bare_cells (h : Hd) (b : Bk) : (h.cells b).setIfInBounds 4 (.slice none 0 0) = h.bare.cells b.bare := rfl
set_option maxRecDepth 20000 in
set_option maxHeartbeats 800000 in
theorem before_calls {h : Hd} {b : Bk} {w : World} : Calls Tryd.prog 68 #[.agg (h.cells b)] w fun e w' => e = .returned (.agg (h.bare.cells b.bare)) ∧ Below w.heap.size w w' := by
  have hT := Two.start w (h.cells b) 27 z27 27
  go_enter Tryd.func68, Tryd.ntmps68
  refine wp_seq_k fun K hK => ?_
  refine wp_region_lit ?_
  refine b_box (t := 27) rfl rfl rfl ?_
  refine b_alloc rfl rfl zb27 ?_
  have hsz : (w.alloc (.cells (h.cells b) 27)).heap.size = w.heap.size + 1 := by simp
  rw [hsz]
  generalize (w.alloc (.cells (h.cells b) 27)).alloc (.cells z27 27) = W0 at hT ⊢
  clear hsz
  refine wpList_nil ?_
  refine hK _ _ ?_
  clear hK K
  simp only [Act.put, Act.eval, List.setIfInBounds_toArray, List.set_cons_succ, List.set_cons_zero]
  have c4 : W0.cell? ⟨w.heap.size, 4, none⟩ = some (.slice h.A4 b.trials.length h.c4) := (blk_cell hT.b1 4).trans rfl
  have f4 := blk_frozen hT.b1 4
  have z1 := blk_lt hT.b1
  have hT2 : Two w (h.bare.cells b.bare) 27 z27 27 (W0.setCell ⟨w.heap.size, 4, none⟩ (.slice none 0 0)) := ⟨hT.below.setCell (Nat.le_refl _) _, blk_put hT.b1 _ _ (bare_cells h b), blk_far hT.b2 (by simp) _⟩
  have HT2 := Lib.hid hT2
  clear hT2 hT
  go_wp2_with (first | ((with_reducible refine gate_dst (N := 4) rfl ?_); refine wpList_load_row rfl 27 _ rfl w.heap.size rfl 27 (h.bare.cells b.bare) (0, 0) _ HT2.out.b1 Tryd.underlying27 rfl i27 ?_) | (refine wpList_store_row rfl 27 (.tmp 2) (.tmp 4) rfl (w.heap.size + 1) (h.bare.cells b.bare) rfl rfl 27 z27 HT2.out.b2 i27 rfl (cells_one _ _) ?_))
  have HT3 := HT2.out.put (h.bare.cells b.bare)
  refine bodyPost_ret (v := .agg (h.bare.cells b.bare)) (results_cell_row Tryd.results68 _ _ (w.heap.size + 1) 27 _ (0, 0) _ rfl HT3.b2 Tryd.underlying27 rfl i27) rfl ⟨rfl, HT3.below⟩
end Go.Proofs.YtghpoldlddghjaaDoor
namespace Go.Proofs.YtghpoldlddghjaaDoor
open Go Go.RowKit
open Go.Proofs.YtghpoldlddghjaaDoorW.PrintWords Go.Proofs.YtghpoldlddghjaaDoorW.PrintMore Go.Proofs.YtghpoldlddghjaaDoor.PPasteTrue
def isSaltB (b : Bk) (n : Int) : Bool := inB n 0 (wrap64 ((b.salts.length : Int) - 1))
theorem isSalt_calls {h : Hd} {b : Bk} {w : World} (hb : BkIn w h b) (n : Int) : Calls Tryd.prog 71 #[.agg (h.cells b), .int .i64 n] w fun e w' => e = .returned (.bool (isSaltB b n)) ∧ Below w.heap.size w w' :=
  paste_isSalt.calls h.A0 h.c0 b.salts h.A1 h.c1 b.pairs h.A2 h.c2 b.surfs b.need h.A4 h.c4 b.trials n _ w hb.r0 hb.l0 hb.r1 hb.l1 hb.r2 hb.l2 hb.r4 hb.l4 (by unfold paste_isSalt.f; rw [within_eq]; rfl)
theorem R_form' {α : Type} {d : Kd α} {e : Nat} {w : World} {base : Nat} {ok : Nat → Prop} {v : Value} {xs : List α} (h : d.R e w base ok v xs) (hn : 0 < xs.length) : ∃ g cap, v = .slice (some ⟨g, 0, none⟩) xs.length cap ∧ base ≤ g ∧ g < w.heap.size := by
  obtain ⟨_, inner, ho, _⟩ := h
  exact ho.form hn
theorem isSalt_of {b : Bk} {n : Int} (hg : Good b) (h : isSaltB b n = true) : 0 ≤ n ∧ n < b.salts.length := by
  unfold isSaltB at h
  rw [inB_iff] at h
  have := hg.s0
  have := hg.sp.s1
  have hw : wrap64 ((b.salts.length : Int) - 1) = b.salts.length - 1 := by unfold wrap64; omega
  omega
def lessS (x : S68) (m : Nat) : S68 := ⟨x.f0, ⟨x.f1.f0, x.f1.f1 - m⟩⟩
def less (b : Bk) (k m : Nat) : Bk := { b.bare with salts := b.salts.set k (lessS (rd_T68 b.salts k) m) }
theorem good_bare {b : Bk} (h : Good b) : Good b.bare :=
  { h with sp := ⟨h.sp.s1, h.sp.p1, h.sp.s, h.sp.p, h.sp.d⟩, sm := ⟨h.sm.n0, h.sm.n1, h.sm.s⟩, t1 := by simp [Bk.bare], tt := by simp [Bk.bare] }
theorem good_less {b : Bk} (h : Good b) {k m : Nat} (hk : k < b.salts.length) (hm : (m : Int) ≤ (rd_T68 b.salts k).f1.f1 - (rd_T68 b.salts k).f1.f0) : Good (less b k m) := by
  have hx := h.sp.s _ (rd68_mem (xs := b.salts) hk)
  have hl : (less b k m).salts.length = b.salts.length := by simp [less]
  refine { sp := ⟨by rw [hl]; exact h.sp.s1, h.sp.p1, ?_, ?_, h.sp.d⟩, sm := ⟨h.sm.n0, h.sm.n1, h.sm.s⟩, s0 := by rw [hl]; exact h.s0, u0 := h.u0, u1 := h.u1, t1 := by simp [less, Bk.bare], tt := by simp [less, Bk.bare], sr := h.sr, n2 := h.n2, pm := h.pm }
  · intro x hm'
    have hm2 : x ∈ b.salts.set k (lessS (rd_T68 b.salts k) m) := hm'
    rcases List.mem_or_eq_of_mem_set hm2 with h1 | h1
    · exact h.sp.s x h1
    · subst h1
      simp only [lessS]
      omega
  · intro p hp
    rw [hl]
    exact h.sp.p p hp
def lessOk (b : Bk) (k m : Nat) : Bool := othersB (less b k m) (allB (less b k m))
def lessN (b : Bk) (k : Nat) : Nat := ((rd_T68 b.salts k).f1.f1 - (rd_T68 b.salts k).f1.f0 + 1).toNat
def lessR (b : Bk) (n : Int) : Int × Int :=
  if checkB b = true then (if isSaltB b n = true then (match (List.range (lessN b n.toNat)).find? (lessOk b n.toNat) with | some m => ((m : Int), 0) | none => (0, 4)) else (0, 21)) else (0, 20)
theorem find_first {f : Nat → Bool} {m N : Nat} (h : ∀ j, j < m → f j = false) (hm : f m = true) (hlt : m < N) : (List.range N).find? f = some m := by
  rw [List.find?_range_eq_some]
  exact ⟨hm, List.mem_range.2 hlt, fun j hj => by rw [h j hj]; rfl⟩
theorem less_cells (h : Hd) (b : Bk) (k m : Nat) : h.cells (less b k m) = h.cells b.bare := by simp [Hd.cells, less, Bk.bare]
theorem One.grown {w : World} {c1 : Array Value} {t1 : TypeId} {wr w1 : World} {g : Nat} (h : One w c1 t1 wr) (hg : wr.grownBy w1 (some g)) (hw : w.heap.size < g) : One w c1 t1 w1 :=
  ⟨h.below.grown hg h.below.size (fun k hk => by cases hk; omega), (hg.block _ (blk_lt h.b1) (by simp; omega)).trans h.b1⟩
set_option maxRecDepth 20000 in
set_option maxHeartbeats 800000 in
theorem Less_calls {h : Hd} {b : Bk} {w : World} (hg : Asks w) (hb : BkIn w h b) (hsa : Sane b) (n : Int) :
    Calls Tryd.prog 37 #[.agg (h.cells b), .int .i64 n] w fun e w' => e = .returned (.tuple #[.int .i64 (lessR b n).1, .int .i64 (lessR b n).2]) ∧ Below w.heap.size w w' := by
  have HS := Lib.hid hsa
  have HG := Lib.hid hg
  clear hsa hg
  have HO := Lib.hid (One.start w (h.cells b) 27)
  cases hc : checkB b with
  | false =>
    have HR := Lib.hid (show lessR b n = (0, 20) by unfold lessR; rw [if_neg (by rw [hc]; exact Bool.false_ne_true)])
    have HC := Lib.hid hc
    clear hc
    go_enter Tryd.func37, Tryd.ntmps37
    go_wp2_with (first | (with_reducible refine b_box (t := 27) rfl rfl rfl ?_) | ((with_reducible refine gate_dst (N := 10) rfl ?_); refine wpList_load_row rfl 27 _ rfl w.heap.size rfl 27 (h.cells b) (0, 0) _ HO.out.b1 Tryd.underlying27 rfl i27 ?_) | (go_at_call 43; refine (check_calls (hb.below HO.out.below)).mono ?_; rintro e w1 ⟨rfl, hb1⟩; rw [HC.out]; have HO1 := Lib.hid (HO.out.on hb1); clear hb1))
    go_ret2
    exact ⟨by rw [HR.out]; rfl, HO1.out.below⟩
  | true =>
    have hgd := good_of hc HS.out
    have HC := Lib.hid hc
    cases hs : isSaltB b n with
    | false =>
      have HR := Lib.hid (show lessR b n = (0, 21) by unfold lessR; rw [if_pos hc, if_neg (by rw [hs]; exact Bool.false_ne_true)])
      have HSS := Lib.hid hs
      clear hc hs
      go_enter Tryd.func37, Tryd.ntmps37
      go_wp2_with (first | (with_reducible refine b_box (t := 27) rfl rfl rfl ?_) | ((with_reducible refine gate_dst (N := 10) rfl ?_); refine wpList_load_row rfl 27 _ rfl w.heap.size rfl 27 (h.cells b) (0, 0) _ HO.out.b1 Tryd.underlying27 rfl i27 ?_) | (go_at_call 43; refine (check_calls (hb.below HO.out.below)).mono ?_; rintro e w1 ⟨rfl, hb1⟩; rw [HC.out]; have HO1 := Lib.hid (HO.out.on hb1); clear hb1) | ((with_reducible refine gate_dst (N := 15) rfl ?_); refine wpList_load_row rfl 27 _ rfl w.heap.size rfl 27 (h.cells b) (0, 0) _ HO1.out.b1 Tryd.underlying27 rfl i27 ?_) | (go_at_call 71; refine (isSalt_calls (hb.below HO1.out.below) n).mono ?_; rintro e w2 ⟨rfl, hb2⟩; rw [HSS.out]; have HO2 := Lib.hid (HO1.out.on hb2); clear hb2))
      go_ret2
      exact ⟨by rw [HR.out]; rfl, HO2.out.below⟩
    | true =>
      obtain ⟨n0, n1⟩ := isSalt_of hgd hs
      obtain ⟨k, rfl⟩ := Int.eq_ofNat_of_zero_le n0
      have HR := Lib.hid (show lessR b k = (match (List.range (lessN b k)).find? (lessOk b k) with | some m => ((m : Int), 0) | none => (0, 4)) by unfold lessR; rw [if_pos hc, if_pos hs]; rfl)
      have HSS := Lib.hid hs
      have hk : k < b.salts.length := by omega
      have HGD := Lib.hid hgd
      clear hc hs n0 n1
      obtain ⟨s0, s1, s2, s3, s4⟩ := hgd.sp.s _ (rd68_mem (xs := b.salts) hk)
      have hle4 := hgd.sp.s1
      clear hgd
      go_enter Tryd.func37, Tryd.ntmps37
      go_upto_region 6 with (first | (with_reducible refine b_box (t := 27) rfl rfl rfl ?_) | ((with_reducible refine gate_dst (N := 10) rfl ?_); refine wpList_load_row rfl 27 _ rfl w.heap.size rfl 27 (h.cells b) (0, 0) _ HO.out.b1 Tryd.underlying27 rfl i27 ?_) | (go_at_call 43; refine (check_calls (hb.below HO.out.below)).mono ?_; rintro e w1 ⟨rfl, hb1⟩; rw [HC.out]; have HO1 := Lib.hid (HO.out.on hb1); clear hb1) | ((with_reducible refine gate_dst (N := 15) rfl ?_); refine wpList_load_row rfl 27 _ rfl w.heap.size rfl 27 (h.cells b) (0, 0) _ HO1.out.b1 Tryd.underlying27 rfl i27 ?_) | (go_at_call 71; refine (isSalt_calls (hb.below HO1.out.below) k).mono ?_; rintro e w2 ⟨rfl, hb2⟩; rw [HSS.out]; have HO2 := Lib.hid (HO1.out.on hb2); clear hb2))
      obtain ⟨ad0, hA0', t0, t1, t2⟩ := at_T68 (hb.below HO2.out.below).r0 k (by omega) (by omega)
      simp only [Int.toNat_natCast] at t0 t1 t2
      have e4 := World.block_lt_of_cell? w2 _ t0
      have c0 : w2.cell? ⟨w.heap.size, 0, none⟩ = some (.slice (some ad0) b.salts.length h.c0) := by
        have := blk_cell HO2.out.b1 0
        rw [this, ← hA0']
        rfl
      have z1 := blk_lt HO2.out.b1
      obtain ⟨lo, hlo⟩ : ∃ lo, lo = (rd_T68 b.salts k).f1.f0 := ⟨_, rfl⟩
      obtain ⟨hi, hhi⟩ : ∃ hi, hi = (rd_T68 b.salts k).f1.f1 := ⟨_, rfl⟩
      rw [← hlo] at t1 s2 s3
      rw [← hhi] at t2 s3 s4
      obtain ⟨N, hN⟩ : ∃ N : Nat, (N : Int) = hi - lo + 1 := ⟨(hi - lo + 1).toNat, by omega⟩
      have HN := Lib.hid (show lessN b k = N by unfold lessN; rw [← hlo, ← hhi]; omega)
      have HLO := Lib.hid hlo
      have HHI := Lib.hid hhi
      clear hlo hhi hA0'
      go_upto_region 8 with (first | fail)
      rw [show hi - lo + 1 = (N : Int) from hN.symm]
      have HOL := Aside0.mk (HO2.out.on (below_alloc (Below.refl _ _) (.cells #[.int .i64 lo, .int .i64 hi] 39)))
      have HNN := Aside0.mk hN
      clear c0 t0 t1 t2 e4 z1 hN
      clear HO1 HO2
      go_loopw [31] (fun i wr => ∃ m : Nat, m ≤ N ∧ i = .int .i64 m ∧ Aside0 (One w (h.cells b) 27 wr) ∧ Aside0 (∀ j, j < m → lessOk b k j = false)) (fun i _ => N - (intOf i).toNat)
      case atStart => exact ⟨0, Nat.zero_le _, rfl, HOL, ⟨fun j hj => by omega⟩⟩
      case round =>
        clear HOL
        obtain ⟨m, hm, rfl, HV, HA⟩ := hrel
        by_cases hlt : m < N
        · have hgl := good_less (m := m) HGD.out hk (by rw [← HLO.out, ← HHI.out]; have := HNN.out; omega)
          have HGL := Lib.hid hgl
          clear hgl
          go_upto_region 11 with (first | ((with_reducible refine gate_dst (N := 34) rfl ?_); refine wpList_load_row rfl 27 _ rfl w.heap.size rfl 27 (h.cells b) (0, 0) _ HV.out.b1 Tryd.underlying27 rfl i27 ?_) | (go_at_call 68; refine before_calls.mono ?_; rintro e w3 ⟨rfl, hb3⟩; have HV3 := Lib.hid (HV.out.on hb3); clear hb3) | ((with_reducible refine gate_dst (N := 9) rfl ?_); refine b_alloc rfl rfl zb27 ?_) | (refine wpList_store_row rfl 27 (.tmp 9) (.tmp 35) rfl w3.heap.size (h.bare.cells b.bare) rfl rfl 27 z27 (new_at rfl) i27 rfl (cells_one _ _) ?_))
          have hV4 := HV3.out.var z27 (h.bare.cells b.bare) 27
          have h9 : ((w3.alloc (.cells z27 27)).setRow w3.heap.size (h.bare.cells b.bare)).heap[w3.heap.size]? = some (.cells (h.bare.cells b.bare) 27 (0, 0)) := var_at
          have hz3 := blk_lt HV3.out.b1
          generalize (w3.alloc (.cells z27 27)).setRow w3.heap.size (h.bare.cells b.bare) = W4 at hV4 h9 ⊢
          have c0 : W4.cell? ⟨w.heap.size, 0, none⟩ = some (.slice h.A0 b.salts.length h.c0) := (blk_cell hV4.b1 0).trans rfl
          have zz := blk_lt hV4.b1
          have HV4 := Lib.hid hV4
          have H9 := Lib.hid h9
          clear hV4 h9
          go_upto_region 12 with (first | (go_at_call 72; refine (clone68 (hb.below HV4.out.below).r0 (by omega)).mono ?_; rintro e w5 ⟨v, rfl, hrv, hb5⟩; obtain ⟨gv, cap, rfl, hgv1, hgv2⟩ := R_form' hrv (by omega); have HV5 := Lib.hid (HV4.out.on hb5); have H95 := Lib.hid (blk_below H9.out hb5); have HRV := Lib.hid hrv; have f9 := blk_frozen H95.out 0; have c9 : w5.cell? ⟨w3.heap.size, 0, none⟩ = some (.slice h.A0 b.salts.length h.c0) := (blk_cell H95.out 0).trans rfl; have z9 := blk_lt H95.out; have hz45 := hb5.size; have hz94 := blk_lt H9.out; clear hrv hb5))
          obtain ⟨h2, hh2⟩ : ∃ h2 : Hd, h2 = { h.bare with A0 := some ⟨gv, 0, none⟩, c0 := cap } := ⟨_, rfl⟩
          have hV6 : One w (h.cells b) 27 (w5.setCell ⟨w3.heap.size, 0, none⟩ (.slice (some ⟨gv, 0, none⟩) b.salts.length cap)) := ⟨HV5.out.below.setCell (by simp; omega) _, blk_far HV5.out.b1 (by simp; omega) _⟩
          have h96 : (w5.setCell ⟨w3.heap.size, 0, none⟩ (.slice (some ⟨gv, 0, none⟩) b.salts.length cap)).heap[w3.heap.size]? = some (.cells (h2.cells b.bare) 27 (0, 0)) := blk_put H95.out _ _ (by rw [hh2]; rfl)
          have hR6 := Kd.R_set HRV.out H95.out (by decide) 0 (.slice (some ⟨gv, 0, none⟩) b.salts.length cap)
          have hz6 : (w5.setCell ⟨w3.heap.size, 0, none⟩ (.slice (some ⟨gv, 0, none⟩) b.salts.length cap)).heap.size = w5.heap.size := by simp [World.setCell]
          generalize w5.setCell ⟨w3.heap.size, 0, none⟩ (.slice (some ⟨gv, 0, none⟩) b.salts.length cap) = W6 at hV6 h96 hR6 hz6 ⊢
          have HV6 := Lib.hid hV6
          have H96 := Lib.hid h96
          have HR6 := Lib.hid hR6
          have HH2 := Lib.hid hh2
          obtain ⟨_, _, hC6⟩ := Kd.R_reads' hR6
          obtain ⟨ad, had, t0, t1, t2⟩ := at_T68 hC6 k (by omega) (by omega)
          have had2 := Option.some.inj had
          subst had2
          have d9 : W6.cell? ⟨w3.heap.size, 0, none⟩ = some (.slice (some ⟨gv, 0, none⟩) b.salts.length cap) := by
            rw [blk_cell h96 0, hh2]
            rfl
          have z96 := blk_lt h96
          simp only [Int.toNat_natCast, add_plain] at t0 t1 t2
          rw [← HHI.out] at t2
          have hgv3 : gv < W6.heap.size := by omega
          clear c0 zz c9 f9 z9 had hV6 h96 hR6 hC6 hh2
          have hmb : (m : Int) ≤ hi - lo := by have := HNN.out; omega
          have HCC : Aside0 (∀ (j : Nat) u, [Value.int .i64 (rd_T68 b.salts k).f0, .int .i64 lo, .int .i64 hi][j]? = some u → W6.cell? ⟨gv, (k : Int).toNat * k68.sz + j, none⟩ = some u) := ⟨by
            intro j u hu
            rcases j with _ | _ | _ | j
            · cases hu; exact t0
            · cases hu; rw [HLO.out]; exact t1
            · cases hu; exact t2
            · simp at hu⟩
          have HMM : Aside0 (k68.M W6 W4.heap.size (fun _ => False) (lessS (rd_T68 b.salts k) m) [.int .i64 (rd_T68 b.salts k).f0, .int .i64 lo, .int .i64 (hi - m)]) := ⟨by rw [HLO.out, HHI.out]; exact k68_mkM _ _ _ (lessS (rd_T68 b.salts k) m)⟩
          go_upto_region 13 with (first | (with_reducible refine gate_ (.store 3 (.tmp 51) (.tmp 48)) rfl ?_; go_loud (refine Kd.R_store k68 (w0 := W6) W4.heap.size rfl rfl 3 (.tmp 51) (.tmp 48) rfl 68 (o' := k * 3 + 1 + 1) (k : Int) 2 b.salts (lessS (rd_T68 b.salts k) m) (.int .i64 (hi - m)) [.int .i64 (hi - m)] [.int .i64 (rd_T68 b.salts k).f0, .int .i64 lo, .int .i64 hi] (fun _ => True) (fun _ => False) rfl rfl rfl rfl (by kernel_rfl) (by simp [Value.oneCell']) HR6.out (by omega) (by omega) rfl HCC.out (by rw [show k68.sz = 3 from rfl]; simp) (by simpa using HMM.out) (fun _ hh => hh.elim) (Below.refl _ _) ?_); intro w7 HR7 HB7 HG7; have HR7 := Aside0.mk HR7; have HG7 := Aside0.mk HG7; clear HB7))
          have hV7 := HV6.out.grown HG7.out (by omega)
          have h97 : w7.heap[w3.heap.size]? = some (.cells (h2.cells (less b k m)) 27 (0, 0)) := by
            rw [less_cells]
            exact (HG7.out.block _ (blk_lt H96.out) (by simp; omega)).trans H96.out
          obtain ⟨q1, q2, q3⟩ := Kd.R_reads' HR7.out
          have hbl := hb.below hV7.below
          have hB7 : BkIn w7 h2 (less b k m) := by
            have hq3 : Kd.C k68 w7 (some ⟨gv, 0, none⟩) (b.salts.set k (lessS (rd_T68 b.salts k) m)).length (b.salts.set k (lessS (rd_T68 b.salts k) m)) := q3
            rw [HH2.out]
            exact ⟨hq3, hbl.r1, hbl.r2, Kd.C_nil _ _, by simp [less]; omega, hbl.l1, hbl.l2, Nat.le_refl _⟩
          have HV7 := Lib.hid hV7
          have H97 := Lib.hid h97
          have HB7 := Lib.hid hB7
          clear hV7 h97 hB7 q1 q2 q3 hbl d9 t0 t1 t2 z96 HCC
          cases hok : lessOk b k m with
          | true =>
            have HOK := Lib.hid hok
            clear hok
            go_wp2_with (first | ((with_reducible refine gate_dst (N := 52) rfl ?_); refine wpList_load_row rfl 27 _ rfl w3.heap.size rfl 27 (h2.cells (less b k m)) (0, 0) _ H97.out Tryd.underlying27 rfl i27 ?_) | (go_at_call 61; refine (opened_calls HB7.out HGL.out.sp HGL.out.sm).mono ?_; rintro e w8 ⟨cs, rfl, hbk, hb8⟩; have HBK := Lib.hid hbk; have HV8 := Lib.hid (HV7.out.on hb8); have HB8 := Lib.hid (HB7.out.below hb8); clear hbk hb8) | (go_at_call 73; refine (others_calls (HG.out.below HV8.out.below) HBK.out HB8.out HGL.out.sm).mono ?_; rintro e w9 ⟨rfl, hb9⟩; rw [show othersB (less b k m) (markAll (less b k m) (fun _ => false) (fills (less b k m).salts)) = true from HOK.out]; have HV9 := Lib.hid (HV8.out.on hb9); clear hb9))
            go_ret2
            have HF : lessR b k = ((m : Int), 0) := by
              rw [HR.out, HN.out, find_first HA.out HOK.out hlt]
            exact ⟨by rw [HF]; rfl, HV9.out.below⟩
          | false =>
            have HOK := Lib.hid hok
            clear hok
            go_wp2_with (first | ((with_reducible refine gate_dst (N := 52) rfl ?_); refine wpList_load_row rfl 27 _ rfl w3.heap.size rfl 27 (h2.cells (less b k m)) (0, 0) _ H97.out Tryd.underlying27 rfl i27 ?_) | (go_at_call 61; refine (opened_calls HB7.out HGL.out.sp HGL.out.sm).mono ?_; rintro e w8 ⟨cs, rfl, hbk, hb8⟩; have HBK := Lib.hid hbk; have HV8 := Lib.hid (HV7.out.on hb8); have HB8 := Lib.hid (HB7.out.below hb8); clear hbk hb8) | (go_at_call 73; refine (others_calls (HG.out.below HV8.out.below) HBK.out HB8.out HGL.out.sm).mono ?_; rintro e w9 ⟨rfl, hb9⟩; rw [show othersB (less b k m) (markAll (less b k m) (fun _ => false) (fills (less b k m).salts)) = false from HOK.out]; have HV9 := Lib.hid (HV8.out.on hb9); clear hb9))
            go_roundw
            case rel =>
              refine ⟨m + 1, by omega, by go_num, ⟨HV9.out⟩, ⟨fun j hj => ?_⟩⟩
              rcases Nat.lt_or_eq_of_le (Nat.le_of_lt_succ hj) with e | rfl
              · exact HA.out j e
              · exact HOK.out
            case measure => simp [intOf]; omega
        · obtain rfl : m = N := by omega
          have HF := Lib.hid (show lessR b k = (0, 4) by
            rw [HR.out, HN.out, List.find?_eq_none.2 (fun j hj => by rw [HA.out j (List.mem_range.1 hj)]; simp)])
          go_wp2
          go_ret2
          exact ⟨by rw [HF.out]; rfl, HV.out.below⟩
end Go.Proofs.YtghpoldlddghjaaDoor
namespace Go.Proofs.YtghpoldlddghjaaDoor
open Go Go.RowKit
open Go.Proofs.YtghpoldlddghjaaDoorW.PrintWords Go.Proofs.YtghpoldlddghjaaDoorW.PrintMore Go.Proofs.YtghpoldlddghjaaDoor.PPasteTrue
theorem i77b : (Tryd.prog.info? 77).map (fun i => (i.zero, i.size, i.bytes)) = some (some (.agg #[.int .i64 0, .int .i64 0, .int .i64 0]), k77.sz, 24) := by kernel_rfl
set_option maxRecDepth 20000 in
set_option maxHeartbeats 800000 in
theorem clone77 {A : Option Addr} {c : Nat} {xs : List S77} {w : World} (hr : Kd.C k77 w A xs.length xs) (hl : xs.length ≤ 1000) :
    Calls Tryd.prog 70 #[.slice A xs.length c] w fun e w' => ∃ v, e = .returned v ∧ k77.R 77 w' w.heap.size (fun _ => True) v xs ∧ Below w.heap.size w w' := by
  have HR := Lib.hid hr
  cases A with
  | none =>
    have h0 : xs = [] := by
      rcases Nat.eq_zero_or_pos xs.length with e | e
      · exact List.eq_nil_of_length_eq_zero e
      · obtain ⟨ad, e2, _⟩ := hr.2.2 e
        cases e2
    clear hr
    subst h0
    have q23 : ∀ (w : World) (a : Option Addr) (n c n' c' : Nat), (binOp .eql 23 (.slice a n c) (.slice none n' c')).run Tryd.prog w = .ok (.bool a.isNone) w := fun w a n c n' c' => Lib.run_eql_slice_nil w _ _ a n c n' c' Tryd.underlying23
    go_enter Tryd.func70, Tryd.ntmps70
    go_wp2
    go_ret
    exact ⟨_, rfl, Kd.R_nil _ _ _ _ _, Below.refl _ _⟩
  | some ad =>
    clear hr
    have q23 : ∀ (w : World) (a : Option Addr) (n c n' c' : Nat), (binOp .eql 23 (.slice a n c) (.slice none n' c')).run Tryd.prog w = .ok (.bool a.isNone) w := fun w a n c n' c' => Lib.run_eql_slice_nil w _ _ a n c n' c' Tryd.underlying23
    go_enter Tryd.func70, Tryd.ntmps70
    have HN := Lib.hid (R_none' k77 77 w w.heap.size (Nat.le_refl _))
    have HB := Lib.hid (below_alloc (Below.refl w.heap.size w) (.cells #[] 77))
    go_wp2_with (first | (at_builtin; go_loud (refine Kd.R_append_rows k77 (Rr := k77.K w) (w0 := w) w.heap.size rfl (.tmp 5) (.tmp 6) 23 77 (.agg #[.int .i64 0, .int .i64 0, .int .i64 0]) 24 rfl Tryd.underlying23 i77b rfl (by decide) (by decide) (.slice (some ⟨w.heap.size, 0, none⟩) 0 0) [] xs (some ad) xs.length c (fun _ => True) (fun k => k < w.heap.size) rfl rfl HN.out (Kd.C_below HR.out HB.out) (fun x cs hk => by rw [k77_open hk]; exact k77_mkM _ _ _ _) (fun k hk => ⟨trivial, by simp [Value.ownBlock]; omega⟩) (fun _ _ => trivial) HB.out (by simp) (by simp; omega) ?_); intro v1 w1 HR1 HB1 _ _; have HR1 := Aside0.mk HR1; have HB1 := Aside0.mk HB1))
    go_ret
    exact ⟨_, rfl, by simpa using HR1.out, HB1.out⟩
theorem i47b : (Tryd.prog.info? 47).map (fun i => (i.zero, i.size, i.bytes)) = some (some (.agg #[.int .i64 0, .int .i64 0, .int .i64 0, .int .i64 0]), k47.sz, 32) := by kernel_rfl
set_option maxRecDepth 20000 in
set_option maxHeartbeats 800000 in
theorem clone47 {A : Option Addr} {c : Nat} {xs : List S47} {w : World} (hr : Kd.C k47 w A xs.length xs) (hl : xs.length ≤ 1000) :
    Calls Tryd.prog 74 #[.slice A xs.length c] w fun e w' => ∃ v, e = .returned v ∧ k47.R 47 w' w.heap.size (fun _ => True) v xs ∧ Below w.heap.size w w' := by
  have HR := Lib.hid hr
  cases A with
  | none =>
    have h0 : xs = [] := by
      rcases Nat.eq_zero_or_pos xs.length with e | e
      · exact List.eq_nil_of_length_eq_zero e
      · obtain ⟨ad, e2, _⟩ := hr.2.2 e
        cases e2
    clear hr
    subst h0
    have q24 : ∀ (w : World) (a : Option Addr) (n c n' c' : Nat), (binOp .eql 24 (.slice a n c) (.slice none n' c')).run Tryd.prog w = .ok (.bool a.isNone) w := fun w a n c n' c' => Lib.run_eql_slice_nil w _ _ a n c n' c' Tryd.underlying24
    go_enter Tryd.func74, Tryd.ntmps74
    go_wp2
    go_ret
    exact ⟨_, rfl, Kd.R_nil _ _ _ _ _, Below.refl _ _⟩
  | some ad =>
    clear hr
    have q24 : ∀ (w : World) (a : Option Addr) (n c n' c' : Nat), (binOp .eql 24 (.slice a n c) (.slice none n' c')).run Tryd.prog w = .ok (.bool a.isNone) w := fun w a n c n' c' => Lib.run_eql_slice_nil w _ _ a n c n' c' Tryd.underlying24
    go_enter Tryd.func74, Tryd.ntmps74
    have HN := Lib.hid (R_none' k47 47 w w.heap.size (Nat.le_refl _))
    have HB := Lib.hid (below_alloc (Below.refl w.heap.size w) (.cells #[] 47))
    go_wp2_with (first | (at_builtin; go_loud (refine Kd.R_append_rows k47 (Rr := k47.K w) (w0 := w) w.heap.size rfl (.tmp 5) (.tmp 6) 24 47 (.agg #[.int .i64 0, .int .i64 0, .int .i64 0, .int .i64 0]) 32 rfl Tryd.underlying24 i47b rfl (by decide) (by decide) (.slice (some ⟨w.heap.size, 0, none⟩) 0 0) [] xs (some ad) xs.length c (fun _ => True) (fun k => k < w.heap.size) rfl rfl HN.out (Kd.C_below HR.out HB.out) (fun x cs hk => by rw [k47_open hk]; exact k47_mkM _ _ _ _) (fun k hk => ⟨trivial, by simp [Value.ownBlock]; omega⟩) (fun _ _ => trivial) HB.out (by simp) (by simp; omega) ?_); intro v1 w1 HR1 HB1 _ _; have HR1 := Aside0.mk HR1; have HB1 := Aside0.mk HB1))
    go_ret
    exact ⟨_, rfl, by simpa using HR1.out, HB1.out⟩
end Go.Proofs.YtghpoldlddghjaaDoor
namespace Go.Proofs.YtghpoldlddghjaaDoor
open Go Go.RowKit
open Go.Proofs.YtghpoldlddghjaaDoorW.PrintWords Go.Proofs.YtghpoldlddghjaaDoorW.PrintMore Go.Proofs.YtghpoldlddghjaaDoor.PPasteTrue
theorem i77s : (Tryd.prog.info? 77).map (·.size) = some k77.sz := by kernel_rfl
theorem run_head77 (g n c k : Nat) (hk : k ≤ c) (w : World) : (Instr.sliceAt 23 (.slice (some ⟨g, 0, none⟩) n c) none (some (.int .i64 k)) none).run Tryd.prog w = .ok (.slice (some ⟨g, 0, none⟩) k c) w := by
  simp [Instr.sliceAt, Instr.slice, Instr.sliceBounds, Instr.sliceBound, asIntOf, go_sem, run_underlying Tryd.underlying23, hk]
theorem run_tail77 (g n c k : Nat) (hk : k ≤ n) (hn : n ≤ c) (w : World) : (Instr.sliceAt 23 (.slice (some ⟨g, 0, none⟩) n c) (some (.int .i64 k)) none none).run Tryd.prog w = .ok (.slice (if c = k then some ⟨g, 0, none⟩ else (some (⟨g, 0, none⟩ : Addr)).map (·.add (k * k77.sz))) (n - k) (c - k)) w := by
  have h3 : k77.sz = 3 := rfl
  rw [h3]
  by_cases e : c = k
  · simp [Instr.sliceAt, Instr.slice, Instr.sliceBounds, Instr.sliceBound, asIntOf, go_sem, run_underlying Tryd.underlying23, hk, e]
  · simp [Instr.sliceAt, Instr.slice, Instr.sliceBounds, Instr.sliceBound, asIntOf, go_sem, run_underlying Tryd.underlying23, hk, e]
theorem clear77 {w : World} {base g n c : Nat} {xs : List S77} (ty : TypeId) (hr : k77.R 77 w base (fun _ => True) (.slice (some ⟨g, 0, none⟩) n c) xs) (hc : n + 1 ≤ c) (c' : Nat) :
    ∃ w1, (Builtin.clear_ #[23] ty #[.slice (some ⟨g, n * 3, none⟩) 1 c']).run Tryd.prog w = .ok (.tuple #[]) w1 ∧ k77.R 77 w1 base (fun _ => True) (.slice (some ⟨g, 0, none⟩) n c) xs ∧ w.grownBy w1 (some g) := by
  obtain ⟨hok, inner, hown, hrep⟩ := hr
  rcases hown.2 with ⟨hv, _⟩ | ⟨g', cap, cur, hv, hb, hh, hnc, hcm, hcs, htake⟩
  · cases hv
  · simp only [Value.slice.injEq, Option.some.injEq, Addr.mk.injEq] at hv
    obtain ⟨⟨rfl, _⟩, hnl, rfl⟩ := hv
    have h3z : k77.sz = 3 := rfl
    rw [h3z] at hcs htake
    rw [← hnl] at htake hnc
    obtain ⟨news, hnews⟩ : ∃ news : List Value, news = [.int .i64 0, .int .i64 0, .int .i64 0] := ⟨_, rfl⟩
    have hnl3 : news.length = 3 := by rw [hnews]; rfl
    have hfit : n * 3 + news.length ≤ cur.size := by rw [hcs, hnl3]; omega
    have hst := run_storeCells_cells (P := Tryd.prog) g (n * 3) news 0 w (fun j hj => by rw [cell_of_row w g _ cur 77 (0, 0) hh]; simp; omega) (fun j _ => blk_frozen hh _) (by rw [hnews]; simp [Value.oneCell'])
    simp only [Nat.add_zero] at hst
    have hz : (Builtin.zeroCells #[.int .i64 0, .int .i64 0, .int .i64 0] 1).toList = news := by rw [hnews]; kernel_rfl
    obtain ⟨cur', h3, h4, h5⟩ := setCells_row news (n * 3) w cur hh hfit
    obtain ⟨s1, s2, s3, s4⟩ := setCells_same g news (n * 3) w
    have hfar : ∀ k', k' ≠ g → (w.setCells g (n * 3) news).heap[k']? = w.heap[k']? := fun k' hk' => setCells_far news _ k' hk'
    refine ⟨w.setCells g (n * 3) news, ?_, ?_, ⟨s1, s2, s3, by rw [s4]; exact Nat.le_refl _, fun k' _ hk' => hfar k' (fun he => hk' (by rw [he]))⟩⟩
    · have hz2 : (zeroValue 77).run Tryd.prog w = .ok (.agg #[.int .i64 0, .int .i64 0, .int .i64 0]) w := Tryd.zeroValue77 w
      unfold Builtin.clear_
      simp [run_underlying Tryd.underlying23, hz2, Value.cells, hz, hst]
    · refine ⟨hok, inner, ⟨hown.1, .inr ⟨g, c, cur', by rw [hnl], hb, h3, by rw [← hnl]; omega, hcm, by rw [h4, hcs, h3z], ?_⟩⟩, hrep.imp_ (fun p q hp => ?_)⟩
      · rw [h3z, ← hnl]
        rw [h5, List.append_assoc, List.take_append_of_le_length (by simp; omega), List.take_take, Nat.min_self]
        exact htake
      · exact k77.M_move (fun k' hk' => hfar k' (fun he => hk'.2 (by rw [he]; rfl))) hp
theorem x_clear77 {ρ : Operand → Value} {o : Oper} {w w1 : World} {x : Operand} (ho : o.op = .call { callee := .builtin .clear, args := #[x], argTypes := #[23] }) {u : Value} (hx : ρ x = u) (h : (Builtin.clear_ #[23] o.type #[u]).run Tryd.prog w = .ok (.tuple #[]) w1) : (execOp ρ o).run Tryd.prog w = .ok (.value (.tuple #[])) w1 := by
  unfold execOp
  simp only [ho, resolve, invoke, builtin, Sem.run_bind, Sem.run_pure, Result.andThen_ok, List.map_toArray, List.map_cons, List.map_nil, hx, h]
theorem run_last77 (g m c : Nat) (hc : m + 1 ≤ c) (w : World) : (Instr.sliceAt 23 (.slice (some ⟨g, 0, none⟩) m c) (some (.int .i64 m)) (some (.int .i64 ((m + 1 : Nat) : Int))) none).run Tryd.prog w = .ok (.slice (some ⟨g, m * 3, none⟩) 1 (c - m)) w := by
  have e : ¬ c = m := by omega
  have e2 : m + 1 - m = 1 := by omega
  have h1 : (0 : Int) ≤ (m : Int) + 1 ∧ (m : Int) + 1 ≤ (c : Int) := by omega
  have h2 : ((m : Int) + 1).toNat = m + 1 := by omega
  simp [Instr.sliceAt, Instr.slice, Instr.sliceBounds, Instr.sliceBound, asIntOf, go_sem, run_underlying Tryd.underlying23, hc, e, e2, h1, h2, Addr.add]
  omega
set_option maxRecDepth 20000 in
set_option maxHeartbeats 800000 in
theorem delete77 {base g n c k : Nat} {xs : List S77} {w : World} (hr : k77.R 77 w base (fun _ => True) (.slice (some ⟨g, 0, none⟩) n c) xs) (hk : k < n) (hn : n ≤ 4) (hb : base ≤ w.heap.size) :
    Calls Tryd.prog 69 #[.slice (some ⟨g, 0, none⟩) n c, .int .i64 k, .int .i64 ((k + 1 : Nat) : Int)] w fun e w' => e = .returned (.slice (some ⟨g, 0, none⟩) (n - 1) c) ∧ k77.R 77 w' base (fun _ => True) (.slice (some ⟨g, 0, none⟩) (n - 1) c) (xs.eraseIdx k) ∧ Below base w w' := by
  have HR := Lib.hid hr
  obtain ⟨q1, q2, q3⟩ := Kd.R_reads' hr
  clear hr q3
  subst q1
  go_enter Tryd.func69, Tryd.ntmps69
  go_upto_region 5 with (first | fail)
  rename_i K hK
  have hu : (Tryd.prog.info? 77).map (·.size) = some k77.sz := i77s
  obtain ⟨i0, hi0, hsz⟩ := Option.map_eq_some_iff.1 hu
  refine draw_inv2 mixed (by kernel_rfl) (fun bb a wq => a = ⟨#[(if bb 7 then .slice (some ⟨g, 0, none⟩) (xs.length - 1) c else .slice (some ⟨g, 0, none⟩) xs.length c), .int .i64 k, .int .i64 ((k + 1 : Nat) : Int), undef, undef, undef, .slice none 0 0, .int .i64 xs.length, .slice (some ⟨g, 0, none⟩) xs.length c, .int .i64 k, .int .i64 ((k + 1 : Nat) : Int), .slice (some ⟨g, 0, none⟩) xs.length c, .int .i64 xs.length, .slice (some ⟨g, k * 3, none⟩) 1 (xs.length - k), .int .i64 k, .int .i64 ((k + 1 : Nat) : Int), .bool ((k : Int) == (k : Int) + 1), undef, .slice (some ⟨g, 0, none⟩) xs.length c, .int .i64 xs.length, (if bb 0 then .slice (some ⟨g, 0, none⟩) xs.length c else undef), (if bb 1 then .int .i64 k else undef), (if bb 2 then .slice (some ⟨g, 0, none⟩) k c else undef), (if bb 3 then .slice (some ⟨g, 0, none⟩) xs.length c else undef), (if bb 4 then .int .i64 ((k + 1 : Nat) : Int) else undef), (if bb 5 then .slice (if c = k + 1 then some ⟨g, 0, none⟩ else (some (⟨g, 0, none⟩ : Addr)).map (·.add ((k + 1) * k77.sz))) (xs.length - (k + 1)) (c - (k + 1)) else undef), (if bb 6 then .slice (some ⟨g, 0, none⟩) (xs.length - 1) c else undef), undef, undef, undef, undef, undef, undef], []⟩ ∧ ((bb 6 = false → k77.R 77 wq base (fun _ => True) (.slice (some ⟨g, 0, none⟩) xs.length c) xs) ∧ (Below base w wq ∧ base ≤ wq.heap.size) ∧ (bb 6 = true → k77.R 77 wq base (fun _ => True) (.slice (some ⟨g, 0, none⟩) (xs.length - 1) c) (xs.eraseIdx k)) ∧ (bb 7 = true → bb 0 = true ∧ bb 3 = true))) ?_ ?_ ?_
  · exact ⟨by simp, fun _ => Kd.R_drew HR.out, ⟨(Below.refl _ _).drew, hb⟩, by simp, by simp⟩
  · intro i hi bb a wq hI hbi hcame
    obtain ⟨rfl, hA, hB, h6, h7⟩ := hI
    rcases i with _ | _ | _ | _ | _ | _ | _ | _ | i
    · have e7 : bb 7 = false := by
        cases e : bb 7 with
        | false => rfl
        | true => have := h7 e; rw [hbi] at this; simp at this
      refine op_value rfl rfl (x_assign (.inr rfl)) ⟨by simp [Act.put, Act.eval, upd, e7], ?_⟩
      exact ⟨by simpa [upd] using hA, by simpa [upd] using hB, by simpa [upd] using h6, by simp [upd, e7]⟩
    · refine op_value rfl rfl (x_assign (.inr rfl)) ⟨by simp [Act.put, Act.eval, upd], ?_⟩
      exact ⟨by simpa [upd] using hA, by simpa [upd] using hB, by simpa [upd] using h6, by simpa [upd] using h7⟩
    · have hh := hcame
      simp [Came, Region.binds] at hh
      refine op_value rfl rfl (x_slice (x := .tmp 20) (lo := none) (hi := some (.tmp 21)) (mx := none) (u := .slice (some ⟨g, 0, none⟩) xs.length c) (a := none) (b := some (.int .i64 k)) (c := none) rfl (by simp [Act.eval, hh]) rfl (by simp [Act.eval, hh]) rfl (run_head77 g xs.length c k (by omega) _)) ⟨by simp [Act.put, Act.eval, upd, hh], ?_⟩
      exact ⟨by simpa [upd] using hA, by simpa [upd] using hB, by simpa [upd] using h6, by simpa [upd] using h7⟩
    · have e7 : bb 7 = false := by
        cases e : bb 7 with
        | false => rfl
        | true => have := h7 e; rw [hbi] at this; simp at this
      refine op_value rfl rfl (x_assign (.inr rfl)) ⟨by simp [Act.put, Act.eval, upd, e7], ?_⟩
      exact ⟨by simpa [upd] using hA, by simpa [upd] using hB, by simpa [upd] using h6, by simp [upd, e7]⟩
    · refine op_value rfl rfl (x_assign (.inr rfl)) ⟨by simp [Act.put, Act.eval, upd], ?_⟩
      exact ⟨by simpa [upd] using hA, by simpa [upd] using hB, by simpa [upd] using h6, by simpa [upd] using h7⟩
    · have hh := hcame
      simp [Came, Region.binds] at hh
      refine op_value rfl rfl (x_slice (x := .tmp 23) (lo := some (.tmp 24)) (hi := none) (mx := none) (u := .slice (some ⟨g, 0, none⟩) xs.length c) (a := some (.int .i64 ((k + 1 : Nat) : Int))) (b := none) (c := none) rfl (by simp [Act.eval, hh]) (by simp [Act.eval, hh]) rfl rfl (run_tail77 g xs.length c (k + 1) (by omega) q2 _)) ⟨by simp [Act.put, Act.eval, upd, hh], ?_⟩
      exact ⟨by simpa [upd] using hA, by simpa [upd] using hB, by simpa [upd] using h6, by simpa [upd] using h7⟩
    · have hh := hcame
      simp [Came, Region.binds] at hh
      obtain ⟨w9, hrun, hR9, hG9⟩ := Kd.R_delete_run (P := Tryd.prog) k77 base 23 28 77 i0 Tryd.underlying23 hi0 hsz (hA hbi) hk rfl (c - (k + 1))
      refine op_value rfl rfl (x_append (s := .tmp 22) (x := .tmp 25) rfl (u1 := .slice (some ⟨g, 0, none⟩) k c) (u2 := .slice (if c = k + 1 then some ⟨g, 0, none⟩ else (some (⟨g, 0, none⟩ : Addr)).map (·.add ((k + 1) * k77.sz))) (xs.length - (k + 1)) (c - (k + 1))) (by simp [Act.eval, hh]) (by simp [Act.eval, hh]) hrun) ⟨by simp [Act.put, Act.eval, upd, hh], ?_⟩
      have hgb : base ≤ g := Kd.R_base (hA hbi) g (by simp [Value.ownBlock])
      exact ⟨by simp [upd], ⟨hB.1.grown hG9 hB.2 (fun j hj => by cases hj; exact hgb), Nat.le_trans hB.2 hG9.size⟩, fun _ => hR9, by simpa [upd] using h7⟩
    · have hh := hcame
      simp [Came, Region.binds] at hh
      refine op_value rfl rfl (x_assign (.inl rfl)) ⟨by simp [Act.put, Act.eval, upd, hh], ?_⟩
      exact ⟨by simpa [upd] using hA, by simpa [upd] using hB, by simpa [upd] using h6, by simp [upd, hh]⟩
    · simp at hi; omega
  · intro bb a wf hI hall
    obtain ⟨rfl, _, hB, h6, _⟩ := hI
    have hR6 := h6 (hall 6 (by simp))
    refine hK _ _ ?_
    simp only [hall 0 (by simp), hall 1 (by simp), hall 2 (by simp), hall 3 (by simp), hall 4 (by simp), hall 5 (by simp), hall 6 (by simp), hall 7 (by simp), if_true]
    clear hall hK h6
    have HRR := Lib.hid hR6
    have HBB := Lib.hid hB
    clear hR6 hB
    generalize (if c = k + 1 then some ⟨g, 0, none⟩ else (some (⟨g, 0, none⟩ : Addr)).map (·.add ((k + 1) * k77.sz))) = T0
    obtain ⟨m, hm⟩ : ∃ m, xs.length = m + 1 := ⟨xs.length - 1, by omega⟩
    have hm1 : xs.length - 1 = m := by omega
    rw [hm1] at HRR ⊢
    rw [hm]
    obtain ⟨w9, hrun9, hR9, hG9⟩ := clear77 28 HRR.out (by omega) (c - m)
    have HC9 := Lib.hid hrun9
    have HS9 := Lib.hid (run_last77 g m c (by omega))
    have hgb : base ≤ g := Kd.R_base HRR.out g (by simp [Value.ownBlock])
    have HB9 := Lib.hid (HBB.out.1.grown hG9 HBB.out.2 (fun j hj => by cases hj; exact hgb))
    have HR9 := Lib.hid hR9
    clear hrun9 hR9 hG9
    go_wp2_with (first | ((with_reducible refine gate_dst (N := 31) rfl ?_); refine b_value rfl (x_slice (x := .tmp 27) (lo := some (.tmp 29)) (hi := some (.tmp 30)) (mx := none) (u := .slice (some ⟨g, 0, none⟩) m c) (a := some (.int .i64 m)) (b := some (.int .i64 ((m + 1 : Nat) : Int))) (c := none) rfl rfl rfl rfl rfl (HS9.out _)) ?_) | (refine b_value rfl (x_clear77 (x := .tmp 31) rfl rfl HC9.out) ?_))
    go_ret
    exact ⟨by rw [hm1]; rfl, by rw [hm1]; exact HR9.out, HB9.out⟩
end Go.Proofs.YtghpoldlddghjaaDoor
namespace Go.Proofs.YtghpoldlddghjaaDoor
open Go Go.RowKit
open Go.Proofs.YtghpoldlddghjaaDoorW.PrintWords Go.Proofs.YtghpoldlddghjaaDoorW.PrintMore Go.Proofs.YtghpoldlddghjaaDoor.PPasteTrue
theorem x_indexAddr28 {ρ : Operand → Value} {o : Oper} {w : World} {x y : Operand} (ho : o.op = .indexAddr 28 x y) {ad : Addr} {n c : Nat} {i : Int} (hx : ρ x = .slice (some ad) n c) (hy : ρ y = .int .i64 i) (h0 : 0 ≤ i) (h1 : i < n) :
    (execOp ρ o).run Tryd.prog w = .ok (.value (.pointer (some (ad.add i.toNat)))) w := by
  unfold execOp
  simp only [ho, hx, hy]
  go_simp
theorem x_load3 {ρ : Operand → Value} {o : Oper} {w : World} {x : Operand} (ho : o.op = .load 3 x) {ad : Addr} {v : Int} (hx : ρ x = .pointer (some ad)) (hc : w.cell? ad = some (.int .i64 v)) : (execOp ρ o).run Tryd.prog w = .ok (.value (.int .i64 v)) w := by
  unfold execOp
  simp only [ho, hx]
  go_simp
theorem x_len28 {ρ : Operand → Value} {o : Oper} {w : World} {x : Operand} (ho : o.op = .call { callee := .builtin .len, args := #[x], argTypes := #[28] }) {A : Option Addr} {n c : Nat} (hx : ρ x = .slice A n c) : (execOp ρ o).run Tryd.prog w = .ok (.value (.int .i64 n)) w := by
  unfold execOp
  simp only [ho]
  go_simp
theorem x_sub3 {ρ : Operand → Value} {o : Oper} {w : World} {x y : Operand} {t' : TypeId} (ho : o.op = .binOp .sub 3 x y t') {i j : Int} (hx : ρ x = .int .i64 i) (hy : ρ y = .int .i64 j) (h0 : -9223372036854775808 ≤ i - j) (h1 : i - j ≤ 9223372036854775807) : (execOp ρ o).run Tryd.prog w = .ok (.value (.int .i64 (i - j))) w := by
  unfold execOp
  simp only [ho, hx, hy]
  go_simp
  exact IntWalk.i64_in _ ⟨h0, h1⟩
theorem build39 (x y : Int) (w : World) : (Instr.build 39 #[(0, .int .i64 x), (1, .int .i64 y)]).run Tryd.prog w = .ok (.agg #[.int .i64 x, .int .i64 y]) w := by
  go_simp
def dampS (n : Nat) (x : S47) : S47 := ⟨x.f0, ⟨x.f1.f0 + n, x.f1.f1 + n⟩⟩
def damp (b : Bk) (n : Nat) : Bk := { b.bare with surfs := b.surfs.map (dampS n) }
def dampOk (b : Bk) (n : Nat) : Bool := safeB (damp b n) (allB b.bare)
def dampL (b : Bk) (n : Nat) : List Int := ((List.range n).filter (dampOk b)).map fun (i : Nat) => (i : Int)
def damperR (b : Bk) : (Int × Int) × Int :=
  if checkB b = true then (if dampL b 201 = [] then ((0, 0), 4) else ((rd (dampL b 201) 0, rd (dampL b 201) ((dampL b 201).length - 1 : Int)), 0)) else ((0, 0), 20)
theorem dampL_succ (b : Bk) (n : Nat) : dampL b (n + 1) = if dampOk b n = true then dampL b n ++ [(n : Int)] else dampL b n := by
  unfold dampL
  rw [List.range_succ, List.filter_append, List.map_append]
  cases h : dampOk b n <;> simp [h]
theorem small_damp {b : Bk} (hg : Good b) {n : Nat} (hn : n ≤ 200) : Small (damp b n) := by
  refine ⟨hg.sm.n0, hg.sm.n1, ?_⟩
  intro x hx
  have hx2 : x ∈ b.surfs.map (dampS n) := hx
  rw [List.mem_map] at hx2
  obtain ⟨y, hy, rfl⟩ := hx2
  have := hg.sr y hy
  simp only [dampS]
  omega
def dampTo (b : Bk) (n k : Nat) : List S47 := (b.surfs.take k).map (dampS n) ++ b.surfs.drop k
theorem dampTo_zero (b : Bk) (n : Nat) : dampTo b n 0 = b.surfs := by simp [dampTo]
theorem dampTo_all (b : Bk) (n : Nat) : dampTo b n b.surfs.length = (damp b n).surfs := by simp [dampTo, damp]
theorem dampTo_length (b : Bk) (n k : Nat) : (dampTo b n k).length = b.surfs.length := by simp [dampTo]; omega
theorem dampTo_rd (b : Bk) (n k : Nat) (h : k < b.surfs.length) : rd_T47 (dampTo b n k) k = rd_T47 b.surfs k := by
  unfold rd_T47 dampTo
  simp only [List.getD_eq_getElem?_getD, Int.toNat_natCast]
  rw [List.getElem?_append_right (by simp; omega)]
  simp [Nat.min_eq_left (Nat.le_of_lt h)]
theorem dampTo_succ (b : Bk) (n k : Nat) (h : k < b.surfs.length) : (dampTo b n k).set k (dampS n (rd_T47 b.surfs k)) = dampTo b n (k + 1) := by
  have hr : rd_T47 b.surfs k = b.surfs[k] := by
    unfold rd_T47
    rw [List.getD_eq_getElem?_getD, Int.toNat_natCast, List.getElem?_eq_getElem h]
    rfl
  have h1 : ((b.surfs.take k).map (dampS n)).length = k := by simp; omega
  unfold dampTo
  rw [List.set_append_right _ _ (by omega), h1, Nat.sub_self, List.drop_eq_getElem_cons h, List.set_cons_zero, List.take_succ_eq_append_getElem h, List.map_append, hr]
  simp
theorem IsBook.surf {cs : Array Value} {h : Hd} {b : Bk} {all : Nat → Bool} (hc : IsBook cs h b all) (A : Option Addr) (c : Nat) (l : List S47) (hl : l.length = b.surfs.length) :
    IsBook (cs.setIfInBounds 2 (.slice A b.surfs.length c)) { h with A2 := A, c2 := c } { b with surfs := l } all := by
  have hs := hc.size
  have hk : ∀ i, i ≠ 2 → (cs.setIfInBounds 2 (.slice A b.surfs.length c))[i]? = cs[i]? := fun i hi => by
    rw [Array.getElem?_setIfInBounds, if_neg (by omega)]
  refine ⟨by simpa using hs, (hk 0 (by omega)).trans hc.c0, (hk 1 (by omega)).trans hc.c1, ?_, (hk 3 (by omega)).trans hc.c3, (hk 4 (by omega)).trans hc.c4, ?_, fun n hn => (hk _ (by omega)).trans (hc.all n hn)⟩
  · rw [Array.getElem?_setIfInBounds, if_pos rfl, if_pos (by omega), hl]
  · rw [Array.all_eq_true_iff_forall_mem]
    intro v hv
    obtain ⟨i, hi⟩ := Array.mem_iff_getElem?.1 hv
    rw [Array.getElem?_setIfInBounds] at hi
    have h1 := hc.one
    rw [Array.all_eq_true_iff_forall_mem] at h1
    split at hi
    · split at hi
      · have := Option.some.inj hi
        subst this
        simp [Value.oneCell']
      · cases hi
    · exact h1 v (Array.mem_of_getElem? hi)
theorem dampL_len (b : Bk) (n : Nat) : (dampL b n).length ≤ n := by
  unfold dampL
  rw [List.length_map]
  have := List.length_filter_le (dampOk b) (List.range n)
  simpa using this
theorem rd_set47 {l : List S47} {k : Nat} (h : k < l.length) (x : S47) : rd_T47 (l.set k x) k = x := by
  unfold rd_T47
  rw [List.getD_eq_getElem?_getD, Int.toNat_natCast, List.getElem?_set_self h]
  rfl
def dampH (n : Nat) (x : S47) : S47 := ⟨x.f0, ⟨x.f1.f0 + n, x.f1.f1⟩⟩
set_option maxRecDepth 100000 in
set_option maxHeartbeats 1600000 in
theorem Damper_calls {h : Hd} {b : Bk} {w : World} (hg : Asks w) (hb : BkIn w h b) (hsa : Sane b) :
    Calls Tryd.prog 42 #[.agg (h.cells b)] w fun e w' => e = .returned (.tuple #[.agg (s39 (damperR b).1), .int .i64 (damperR b).2]) ∧ Below w.heap.size w w' := by
  have HS := Lib.hid hsa
  have HG := Lib.hid hg
  clear hsa hg
  have HO := Lib.hid (Two.start w (h.cells b) 27 #[.int .i64 0, .int .i64 0] 39)
  cases hc : checkB b with
  | false =>
    have HR := Lib.hid (show damperR b = ((0, 0), 20) by unfold damperR; rw [if_neg (by rw [hc]; exact Bool.false_ne_true)])
    have HC := Lib.hid hc
    clear hc
    go_enter Tryd.func42, Tryd.ntmps42
    go_wp2_with (first | (with_reducible refine b_box (t := 27) rfl rfl rfl ?_) | ((with_reducible refine gate_dst (N := 10) rfl ?_); refine wpList_load_row rfl 27 _ rfl w.heap.size rfl 27 (h.cells b) (0, 0) _ HO.out.b1 Tryd.underlying27 rfl i27 ?_) | (go_at_call 43; refine (check_calls (hb.below HO.out.below)).mono ?_; rintro e w1 ⟨rfl, hb1⟩; rw [HC.out]; have HO1 := Lib.hid (HO.out.on hb1); clear hb1) | (refine wpList_store_row rfl 39 (.tmp 2) (.tmp 14) rfl (w.heap.size + 1) #[.int .i64 0, .int .i64 0] rfl rfl 39 #[.int .i64 0, .int .i64 0] HO1.out.b2 i39 rfl (by simp [Value.oneCell']) ?_))
    have HO4 := HO1.out.put #[.int .i64 0, .int .i64 0]
    rw [HR.out]
    refine bodyPost_ret (v := .tuple #[.agg (s39 (0, 0)), .int .i64 20]) (res_cell_tmp Tryd.results42 _ _ (w.heap.size + 1) 39 _ (0, 0) _ rfl HO4.b2 Tryd.underlying39 rfl i39) rfl ⟨rfl, HO4.below⟩
  | true =>
    have hgd := good_of hc HS.out
    have HC := Lib.hid hc
    have HR := Lib.hid (show damperR b = (if dampL b 201 = [] then ((0, 0), 4) else ((rd (dampL b 201) 0, rd (dampL b 201) ((dampL b 201).length - 1 : Int)), 0)) by unfold damperR; rw [if_pos hc])
    have HGD := Lib.hid hgd
    have HGB := Lib.hid (good_bare hgd)
    clear hc hgd
    go_enter Tryd.func42, Tryd.ntmps42
    go_upto_region 5 with (first | (with_reducible refine b_box (t := 27) rfl rfl rfl ?_) | ((with_reducible refine gate_dst (N := 10) rfl ?_); refine wpList_load_row rfl 27 _ rfl w.heap.size rfl 27 (h.cells b) (0, 0) _ HO.out.b1 Tryd.underlying27 rfl i27 ?_) | (go_at_call 43; refine (check_calls (hb.below HO.out.below)).mono ?_; rintro e w1 ⟨rfl, hb1⟩; rw [HC.out]; have HO1 := Lib.hid (HO.out.on hb1); clear hb1) | ((with_reducible refine gate_dst (N := 16) rfl ?_); refine wpList_load_row rfl 27 _ rfl w.heap.size rfl 27 (h.cells b) (0, 0) _ HO1.out.b1 Tryd.underlying27 rfl i27 ?_) | (go_at_call 68; refine before_calls.mono ?_; rintro e w2 ⟨rfl, hb2⟩; have HO2 := Lib.hid (HO1.out.on hb2); clear hb2) | (go_at_call 61; refine (opened_calls (hb.below HO2.out.below).bare HGB.out.sp HGB.out.sm).mono ?_; rintro e w3 ⟨cs, rfl, hbk, hb3⟩; have HO3 := Lib.hid (HO2.out.on hb3); have HBK := Lib.hid hbk; have HIc := Lib.hid (show (Tryd.prog.info? 113).map (·.size) = some cs.size by rw [hbk.size]; exact i113); have HSZ := Lib.hid (show Tryd.zeroCells113.size = cs.size by rw [hbk.size]; exact z113_size); clear hb3 hbk) | ((with_reducible refine gate_dst (N := 5) rfl ?_); refine b_alloc rfl rfl zb113 ?_) | (refine wpList_store_row rfl 113 (.tmp 5) (.tmp 18) rfl w3.heap.size cs rfl rfl 113 Tryd.zeroCells113 (new_at rfl) HIc.out HSZ.out HBK.out.one ?_))
    have hO4 := HO3.out.var Tryd.zeroCells113 cs 113
    have h5 : ((w3.alloc (.cells Tryd.zeroCells113 113)).setRow w3.heap.size cs).heap[w3.heap.size]? = some (.cells cs 113 (0, 0)) := var_at
    have hz3 := blk_lt HO3.out.b2
    generalize (w3.alloc (.cells Tryd.zeroCells113 113)).setRow w3.heap.size cs = W4 at hO4 h5 ⊢
    have HO4 := Lib.hid hO4
    have H5 := Lib.hid h5
    have hz5 := blk_lt h5
    clear hO4 h5 HO3 HO2 HO1
    go_wp2
    go_loopw [6, 19] (fun v i wr => ∃ n : Nat, n ≤ 201 ∧ i = .int .i64 n ∧ Aside0 (Below W4.heap.size W4 wr) ∧ Aside0 (wr.ownsRow W4.heap.size 3 1 v (dampL b n).length (nums .i64 (dampL b n)))) (fun _ i _ => 201 - (intOf i).toNat)
    case atStart => exact ⟨0, Nat.zero_le _, rfl, ⟨Below.refl _ _⟩, ⟨own_nil _ _ _ _⟩⟩
    case round =>
      obtain ⟨n, hn, rfl, HV, HL⟩ := hrel
      have hO5 := HO4.out.on HV.out
      have HO5 := Lib.hid hO5
      have h55 := blk_below H5.out HV.out
      have H55 := Lib.hid h55
      clear hO5 h55
      by_cases hlt : n < 201
      · go_upto_region 10 with (first | ((with_reducible refine gate_dst (N := 22) rfl ?_); refine wpList_load_row rfl 113 _ rfl w3.heap.size rfl 113 cs (0, 0) _ H55.out Tryd.underlying113 rfl HIc.out ?_) | ((with_reducible refine gate_dst (N := 8) rfl ?_); refine b_alloc rfl rfl zb113 ?_) | (refine wpList_store_row rfl 113 (.tmp 8) (.tmp 22) rfl wr.heap.size cs rfl rfl 113 Tryd.zeroCells113 (new_at rfl) HIc.out HSZ.out HBK.out.one ?_))
        have hO6 := HO5.out.var Tryd.zeroCells113 cs 113
        have hB6 : Below wr.heap.size wr ((wr.alloc (.cells Tryd.zeroCells113 113)).setRow wr.heap.size cs) := below_row (below_alloc (Below.refl _ _) _) (Nat.le_refl _) _
        have h8 : ((wr.alloc (.cells Tryd.zeroCells113 113)).setRow wr.heap.size cs).heap[wr.heap.size]? = some (.cells cs 113 (0, 0)) := var_at
        generalize (wr.alloc (.cells Tryd.zeroCells113 113)).setRow wr.heap.size cs = W6 at hO6 hB6 h8 ⊢
        have HO6 := Lib.hid hO6
        have HB6 := Lib.hid hB6
        have H8 := Lib.hid h8
        have c2 : W6.cell? ⟨w.heap.size, 2, none⟩ = some (.slice h.A2 b.surfs.length h.c2) := (blk_cell hO6.b1 2).trans rfl
        have zz := blk_lt hO6.b1
        have hz68 := blk_lt h8
        have hu4 := HGD.out.u1
        clear hO6 hB6 h8
        go_upto_region 11 with (first | (go_at_call 74; refine (clone47 (hb.below HO6.out.below).r2 (by omega)).mono ?_; rintro e w7 ⟨v, rfl, hrv, hb7⟩; obtain ⟨gv, cap, rfl, hgv1, hgv2⟩ := R_form' hrv HGD.out.u0; have HB7 := Lib.hid hb7; have H87 := Lib.hid (blk_below H8.out hb7); have HRV := Lib.hid hrv; have f8 := blk_frozen H87.out 2; have c8 : w7.cell? ⟨wr.heap.size, 2, none⟩ = some (.slice h.A2 b.surfs.length h.c2) := (blk_cell H87.out 2).trans HBK.out.c2; have z8 := blk_lt H87.out; clear hrv hb7))
        obtain ⟨V, hV⟩ : ∃ V, V = wr := ⟨_, rfl⟩
        subst hV
        obtain ⟨q8, hq8⟩ : ∃ q8, q8 = V.heap.size := ⟨_, rfl⟩
        obtain ⟨cs1, hcs1⟩ : ∃ cs1, cs1 = cs.setIfInBounds 2 (.slice (some ⟨gv, 0, none⟩) b.surfs.length cap) := ⟨_, rfl⟩
        have hB8 : Below V.heap.size V (w7.setCell ⟨V.heap.size, 2, none⟩ (.slice (some ⟨gv, 0, none⟩) b.surfs.length cap)) := (below_then HB6.out (by have := HB6.out.size; omega) HB7.out).setCell (by simp) _
        have h88 : (w7.setCell ⟨V.heap.size, 2, none⟩ (.slice (some ⟨gv, 0, none⟩) b.surfs.length cap)).heap[V.heap.size]? = some (.cells cs1 113 (0, 0)) := blk_put H87.out _ _ hcs1.symm
        have hR8 := Kd.R_set HRV.out H87.out (by decide) 2 (.slice (some ⟨gv, 0, none⟩) b.surfs.length cap)
        have hz8 : (w7.setCell ⟨V.heap.size, 2, none⟩ (.slice (some ⟨gv, 0, none⟩) b.surfs.length cap)).heap.size = w7.heap.size := by simp [World.setCell]
        generalize w7.setCell ⟨V.heap.size, 2, none⟩ (.slice (some ⟨gv, 0, none⟩) b.surfs.length cap) = W8 at hB8 h88 hR8 hz8 ⊢
        have d2 : W8.cell? ⟨V.heap.size, 2, none⟩ = some (.slice (some ⟨gv, 0, none⟩) b.surfs.length cap) := by
          rw [blk_cell h88 2, hcs1, Array.getElem?_setIfInBounds, if_pos rfl, if_pos (by have := HBK.out.size; omega)]
        have z88 := blk_lt h88
        have HB8 := Aside0.mk hB8
        have H88 := Aside0.mk h88
        have HR8 := Aside0.mk hR8
        have HCS1 := Lib.hid hcs1
        clear c2 zz f8 c8 z8 hB8 h88 hR8 hcs1
        go_wp2
        clear d2 z88
        go_loopw [32] (fun i wq => ∃ k : Nat, k ≤ b.surfs.length ∧ i = .int .i64 k ∧ Aside0 (Below V.heap.size V wq) ∧ Aside0 (wq.heap[V.heap.size]? = some (.cells cs1 113 (0, 0))) ∧ Aside0 (k47.R 47 wq W6.heap.size (fun _ => True) (.slice (some ⟨gv, 0, none⟩) b.surfs.length cap) (dampTo b n k))) (fun i _ => b.surfs.length - (intOf i).toNat)
        case atStart => exact ⟨0, Nat.zero_le _, rfl, HB8, H88, ⟨by rw [dampTo_zero]; exact HR8.out⟩⟩
        case round =>
          clear HB8 H88 HR8
          obtain ⟨k, hk, rfl, HB8, H88, HR8⟩ := hrel
          by_cases hlk : k < b.surfs.length
          · obtain ⟨_, _, hC8⟩ := Kd.R_reads' HR8.out
            obtain ⟨ad, had, t0, t1, t2, t3⟩ := at_T47 hC8 k (by omega) (by rw [dampTo_length]; omega)
            have had2 := Option.some.inj had
            subst had2
            rw [dampTo_rd b n k hlk] at t0 t1 t2 t3
            have hxr := HGD.out.sr _ (rd47_mem (xs := b.surfs) (i := (k : Int)) (by omega) (by omega))
            obtain ⟨x, hx⟩ : ∃ x, x = rd_T47 b.surfs k := ⟨_, rfl⟩
            rw [← hx] at t0 t1 t2 t3 hxr
            have HXX := Lib.hid hx
            clear hx had hC8
            simp only [Int.toNat_natCast, add_plain] at t0 t1 t2 t3
            obtain ⟨r0, r1, r2, d0, d1, d2'⟩ := hxr
            have d2 : wr.cell? ⟨V.heap.size, 2, none⟩ = some (.slice (some ⟨gv, 0, none⟩) b.surfs.length cap) := by
              rw [blk_cell H88.out 2, HCS1.out, Array.getElem?_setIfInBounds, if_pos rfl, if_pos (by have := HBK.out.size; omega)]
            have z88 := blk_lt H88.out
            have zgv : gv < wr.heap.size := World.block_lt_of_cell? wr _ t0
            have HCC : Aside0 (∀ (j : Nat) u, [Value.int .i64 x.f0.f0, .int .i64 x.f0.f1, .int .i64 x.f1.f0, .int .i64 x.f1.f1][j]? = some u → wr.cell? ⟨gv, (k : Int).toNat * k47.sz + j, none⟩ = some u) := ⟨by
              intro j u hu
              rcases j with _ | _ | _ | _ | j
              · cases hu; exact t0
              · cases hu; exact t1
              · cases hu; exact t2
              · cases hu; exact t3
              · simp at hu⟩
            have HMM : Aside0 (k47.M wr W6.heap.size (fun _ => False) (dampH n x) [.int .i64 x.f0.f0, .int .i64 x.f0.f1, .int .i64 (x.f1.f0 + n), .int .i64 x.f1.f1]) := ⟨k47_mkM _ _ _ (dampH n x)⟩
            go_upto_region 15 with (first | (with_reducible refine gate_ (.store 3 (.tmp 47) (.tmp 44)) rfl ?_; go_loud (refine Kd.R_store k47 (w0 := wr) W6.heap.size rfl rfl 3 (.tmp 47) (.tmp 44) rfl 47 (o' := k * 4 + 2) (k : Int) 2 (dampTo b n k) (dampH n x) (.int .i64 (x.f1.f0 + n)) [.int .i64 (x.f1.f0 + n)] [.int .i64 x.f0.f0, .int .i64 x.f0.f1, .int .i64 x.f1.f0, .int .i64 x.f1.f1] (fun _ => True) (fun _ => False) rfl rfl rfl rfl (by kernel_rfl) (by simp [Value.oneCell']) HR8.out (by omega) (by omega) rfl HCC.out (by rw [show k47.sz = 4 from rfl]; simp) (by simpa using HMM.out) (fun _ hh => hh.elim) (Below.refl _ _) ?_); intro w9 HR9 HB9 HG9; have HR9 := Aside0.mk HR9; have HG9 := Aside0.mk HG9; clear HB9))
            have hll : k < (dampTo b n k).length := by rw [dampTo_length]; exact hlk
            have hgV : V.heap.size < gv := by omega
            have HB9 : Aside0 (Below V.heap.size V w9) := ⟨HB8.out.grown HG9.out HB8.out.size (fun j hj => by cases hj; omega)⟩
            have HH9 : Aside0 (w9.heap[V.heap.size]? = some (.cells cs1 113 (0, 0))) := ⟨(HG9.out.block _ (blk_lt H88.out) (by simp; omega)).trans H88.out⟩
            have hR9 : k47.R 47 w9 W6.heap.size (fun _ => True) (.slice (some ⟨gv, 0, none⟩) b.surfs.length cap) ((dampTo b n k).set k (dampH n x)) := HR9.out
            clear HR9 HCC HMM t0 t1 t2 t3 d2 z88 zgv
            have HR9 := Aside0.mk hR9
            obtain ⟨_, _, hC9⟩ := Kd.R_reads' hR9
            obtain ⟨ad, had, t0, t1, t2, t3⟩ := at_T47 hC9 k (by omega) (by rw [List.length_set, dampTo_length]; omega)
            have had2 := Option.some.inj had
            subst had2
            rw [rd_set47 hll] at t0 t1 t2 t3
            simp only [Int.toNat_natCast, add_plain, dampH] at t0 t1 t2 t3
            have d2 : w9.cell? ⟨V.heap.size, 2, none⟩ = some (.slice (some ⟨gv, 0, none⟩) b.surfs.length cap) := by
              rw [blk_cell HH9.out 2, HCS1.out, Array.getElem?_setIfInBounds, if_pos rfl, if_pos (by have := HBK.out.size; omega)]
            have z88 := blk_lt HH9.out
            have zgv : gv < w9.heap.size := World.block_lt_of_cell? w9 _ t0
            clear had hC9 hR9
            have HCC : Aside0 (∀ (j : Nat) u, [Value.int .i64 x.f0.f0, .int .i64 x.f0.f1, .int .i64 (x.f1.f0 + n), .int .i64 x.f1.f1][j]? = some u → w9.cell? ⟨gv, (k : Int).toNat * k47.sz + j, none⟩ = some u) := ⟨by
              intro j u hu
              rcases j with _ | _ | _ | _ | j
              · cases hu; exact t0
              · cases hu; exact t1
              · cases hu; exact t2
              · cases hu; exact t3
              · simp at hu⟩
            have HMM : Aside0 (k47.M w9 W6.heap.size (fun _ => False) (dampS n x) [.int .i64 x.f0.f0, .int .i64 x.f0.f1, .int .i64 (x.f1.f0 + n), .int .i64 (x.f1.f1 + n)]) := ⟨k47_mkM _ _ _ (dampS n x)⟩
            have HGA := HG9
            clear HG9
            go_upto_region 16 with (first | (with_reducible refine gate_ (.store 3 (.tmp 60) (.tmp 57)) rfl ?_; go_loud (refine Kd.R_store k47 (w0 := w9) W6.heap.size rfl rfl 3 (.tmp 60) (.tmp 57) rfl 47 (o' := k * 4 + 2 + 1) (k : Int) 3 ((dampTo b n k).set k (dampH n x)) (dampS n x) (.int .i64 (x.f1.f1 + n)) [.int .i64 (x.f1.f1 + n)] [.int .i64 x.f0.f0, .int .i64 x.f0.f1, .int .i64 (x.f1.f0 + n), .int .i64 x.f1.f1] (fun _ => True) (fun _ => False) rfl rfl rfl rfl (by kernel_rfl) (by simp [Value.oneCell']) HR9.out (by omega) (by omega) rfl HCC.out (by rw [show k47.sz = 4 from rfl]; simp) (by simpa using HMM.out) (fun _ hh => hh.elim) (Below.refl _ _) ?_); intro w10 HR10 HB10 HG10; have HR10 := Aside0.mk HR10; have HG10 := Aside0.mk HG10; clear HB10))
            have hR10 : k47.R 47 w10 W6.heap.size (fun _ => True) (.slice (some ⟨gv, 0, none⟩) b.surfs.length cap) (dampTo b n (k + 1)) := by
              have h1 : k47.R 47 w10 W6.heap.size (fun _ => True) (.slice (some ⟨gv, 0, none⟩) b.surfs.length cap) (((dampTo b n k).set k (dampH n x)).set k (dampS n x)) := HR10.out
              rw [List.set_set, HXX.out, dampTo_succ b n k hlk] at h1
              exact h1
            have HR11 := Aside0.mk hR10
            have HB11 : Aside0 (Below V.heap.size V w10) := ⟨HB9.out.grown HG10.out HB9.out.size (fun j hj => by cases hj; omega)⟩
            have HH11 : Aside0 (w10.heap[V.heap.size]? = some (.cells cs1 113 (0, 0))) := ⟨(HG10.out.block _ (blk_lt HH9.out) (by simp; omega)).trans HH9.out⟩
            clear hR10 HR10 HCC HMM t0 t1 t2 t3 d2 z88 zgv
            go_wp2
            go_roundw
            case rel => exact ⟨k + 1, by omega, by go_num, HB11, HH11, HR11⟩
            case measure => simp [intOf]; omega
          · obtain rfl : k = b.surfs.length := by omega
            obtain ⟨h2, hh2⟩ : ∃ h2 : Hd, h2 = { h.bare with A2 := some ⟨gv, 0, none⟩, c2 := cap } := ⟨_, rfl⟩
            have hlen : (damp b n).surfs.length = b.surfs.length := by simp [damp]
            have hbk1 : IsBook cs1 h2 (damp b n) (allB b.bare) := by
              have := HBK.out.surf (some ⟨gv, 0, none⟩) cap (damp b n).surfs hlen
              rw [HCS1.out, hh2]
              exact this
            obtain ⟨q1, q2, q3⟩ := Kd.R_reads' HR8.out
            have hbl := hb.below (below_step HO4.out.below (below_then HV.out (Below.size HV.out) HB8.out))
            have hb1 : BkIn wr h2 (damp b n) := by
              rw [dampTo_all] at q3
              rw [hh2]
              exact ⟨hbl.r0, hbl.r1, q3, Kd.C_nil _ _, hbl.l0, hbl.l1, by rw [hlen]; exact q2, Nat.le_refl _⟩
            have HBK1 := Lib.hid hbk1
            have HBI := Lib.hid hb1
            have HSM := Lib.hid (small_damp HGD.out (n := n) (by omega))
            have HU0 := Lib.hid (show 0 < (damp b n).surfs.length by rw [hlen]; exact HGD.out.u0)
            have HI1 := Lib.hid (show (Tryd.prog.info? 113).map (·.size) = some cs1.size by rw [hbk1.size]; exact i113)
            have HVA := Lib.hid (below_then HV.out (Below.size HV.out) HB8.out)
            have HSW := Lib.hid (Below.size HVA.out)
            have HGW := Lib.hid (HG.out.below (below_step HO4.out.below HVA.out))
            have HLL := Lib.hid (dampL_len b n)
            have HDL := Lib.hid (dampL_succ b n)
            clear hbk1 hb1 hlen hh2 q1 q2 q3 hbl
            clear hlk hk
            cases hok : dampOk b n with
            | true =>
              have HOK := Lib.hid (show safeB (damp b n) (allB b.bare) = true from hok)
              rw [hok] at HDL
              clear hok
              go_wp2_with (first | ((with_reducible refine gate_dst (N := 62) rfl ?_); refine wpList_load_row rfl 113 _ rfl V.heap.size rfl 113 cs1 (0, 0) _ H88.out Tryd.underlying113 rfl HI1.out ?_) | (go_at_call 64; refine (safe_calls HGW.out HBK1.out HBI.out HSM.out HU0.out).mono ?_; rintro e w11 ⟨rfl, hb11⟩; rw [HOK.out]; have HVB := Lib.hid (below_then HVA.out HSW.out hb11); have HOW := Lib.hid (pw_own_below (pw_own_below HL.out HB8.out) hb11); have HSX := Lib.hid (Below.size HVB.out); clear hb11) | (at_builtin; go_loud (refine print_append_num (w0 := W4) W4.heap.size rfl (.tmp 64) (.tmp 66) 28 3 .i64 8 rfl Tryd.underlying28 i3x (by decide) _ (dampL b n) (n : Int) rfl rfl HOW.out HVB.out HSX.out (by have := HLL.out; omega) ?_); intro v1 w12 HO12 HV12 _ _; have HO12 := Aside0.mk HO12; have HV12 := Aside0.mk HV12))
              go_roundw
              case rel => exact ⟨n + 1, by omega, by go_num, HV12, ⟨by rw [HDL.out]; exact HO12.out⟩⟩
              case measure => simp [intOf]; omega
            | false =>
              have HOK := Lib.hid (show safeB (damp b n) (allB b.bare) = false from hok)
              rw [hok] at HDL
              clear hok
              go_wp2_with (first | ((with_reducible refine gate_dst (N := 62) rfl ?_); refine wpList_load_row rfl 113 _ rfl V.heap.size rfl 113 cs1 (0, 0) _ H88.out Tryd.underlying113 rfl HI1.out ?_) | (go_at_call 64; refine (safe_calls HGW.out HBK1.out HBI.out HSM.out HU0.out).mono ?_; rintro e w11 ⟨rfl, hb11⟩; rw [HOK.out]; have HVB := Lib.hid (below_then HVA.out HSW.out hb11); have HOW := Lib.hid (pw_own_below (pw_own_below HL.out HB8.out) hb11); have HSX := Lib.hid (Below.size HVB.out); clear hb11))
              go_roundw
              case rel => exact ⟨n + 1, by omega, by go_num, ⟨HVB.out⟩, ⟨by rw [HDL.out]; exact HOW.out⟩⟩
              case measure => simp [intOf]; omega
      · obtain rfl : n = 201 := by omega
        have HI39 := Lib.hid (show (Tryd.prog.info? 39).map (·.size) = some 2 from i39)
        obtain ⟨l, hl⟩ : ∃ l, l = dampL b 201 := ⟨_, rfl⟩
        have HLL := Lib.hid (dampL_len b 201)
        rw [← hl] at HL HLL
        have HRR := HR.out
        rw [← hl] at HRR
        have HR2 := Lib.hid HRR
        clear HRR hl
        have hsl := HLL.out
        by_cases hnil : l = []
        · have HF := Lib.hid (show damperR b = ((0, 0), 4) by rw [HR2.out, if_pos hnil])
          subst hnil
          obtain ⟨A0, c0, hv0⟩ := own_slice HL.out
          subst hv0
          clear hsl
          go_wp2_with (first | (refine wpList_store_row rfl 39 (.tmp 2) (.tmp 72) rfl (w.heap.size + 1) #[.int .i64 0, .int .i64 0] rfl rfl 39 #[.int .i64 0, .int .i64 0] HO5.out.b2 i39 rfl (by simp [Value.oneCell']) ?_))
          have HO7 := HO5.out.put #[.int .i64 0, .int .i64 0]
          rw [HF.out]
          refine bodyPost_ret (v := .tuple #[.agg (s39 (0, 0)), .int .i64 4]) (res_cell_tmp Tryd.results42 _ _ (w.heap.size + 1) 39 _ (0, 0) _ rfl HO7.b2 Tryd.underlying39 rfl i39) rfl ⟨rfl, HO7.below⟩
        · have HF := Lib.hid (show damperR b = ((rd l 0, rd l (l.length - 1 : Int)), 0) by rw [HR2.out, if_neg hnil])
          obtain ⟨A0, c0, hv0, hr0⟩ := own_reads HL.out
          subst hv0
          have hpos : 0 < l.length := List.length_pos_iff.2 hnil
          obtain ⟨ad, had, hc1⟩ := hr0.at_ 0 (by omega) (by omega)
          obtain ⟨ad2, had2, hc2⟩ := hr0.at_ (l.length - 1 : Int) (by omega) (by omega)
          have hee : ad2 = ad := Option.some.inj (had2.symm.trans had)
          rw [hee] at hc2
          subst had
          clear had2 hee hr0 hnil HL
          have hne : ((l.length : Int) == 0) = false := by rw [beq_eq_false_iff_ne]; omega
          go_upto_region 22 with (first | fail)
          rename_i K hK
          refine draw_inv2 mixed (by kernel_rfl) (fun bb a wq => a = ⟨#[.agg (h.cells b), .pointer (some ⟨w.heap.size, 0, none⟩), .pointer (some ⟨w.heap.size + 1, 0, none⟩), .int .i64 0, .int .i64 0, .pointer (some ⟨w3.heap.size, 0, none⟩), .slice (some ad) l.length c0, u7, u8, u9, .agg (h.cells b), .int .i64 0, .int .i64 0, .bool false, undef, undef, .agg (h.cells b), .agg (h.bare.cells b.bare), .agg cs, .int .i64 ((201 : Nat) : Int), .bool false, u21, u22, u23, u24, u25, u26, u27, u28, u29, u30, u31, u32, u33, u34, u35, u36, u37, u38, u39, u40, u41, u42, u43, u44, u45, u46, u47, u48, u49, u50, u51, u52, u53, u54, u55, u56, u57, u58, u59, u60, u61, u62, u63, u64, u65, u66, u67, u68, .slice (some ad) l.length c0, .int .i64 l.length, .bool false, undef, (if bb 0 then .slice (some ad) l.length c0 else undef), (if bb 1 then .pointer (some (ad.add (0 : Int).toNat)) else undef), (if bb 2 then .int .i64 (rd l 0) else undef), (if bb 3 then .slice (some ad) l.length c0 else undef), (if bb 4 then .slice (some ad) l.length c0 else undef), (if bb 5 then .int .i64 l.length else undef), (if bb 6 then .int .i64 (l.length - 1) else undef), (if bb 7 then .pointer (some (ad.add ((l.length : Int) - 1).toNat)) else undef), (if bb 8 then .int .i64 (rd l (l.length - 1 : Int)) else undef), (if bb 9 then .agg #[.int .i64 (rd l 0), .int .i64 (rd l (l.length - 1 : Int))] else undef)], []⟩ ∧ (Two w (h.cells b) 27 (if bb 10 then #[.int .i64 (rd l 0), .int .i64 (rd l (l.length - 1 : Int))] else #[.int .i64 0, .int .i64 0]) 39 wq ∧ (bb 10 = false → Below wr.heap.size wr wq) ∧ (bb 10 = true → bb 9 = true) ∧ (bb 9 = true → bb 2 = true ∧ bb 8 = true))) ?_ ?_ ?_
          · exact ⟨by simp, by simpa using HO5.out.on (Below.refl _ _).drew, fun _ => (Below.refl _ _).drew, by simp, by simp⟩
          · intro i hi bb a wq hI hbi hcame
            obtain ⟨rfl, hT, hB, i10, i9⟩ := hI
            rcases i with _ | _ | _ | _ | _ | _ | _ | _ | _ | _ | _ | _ | i
            · refine op_value rfl rfl (x_assign (.inr rfl)) ⟨by simp [Act.put, Act.eval, upd], ?_⟩
              exact ⟨by simpa [upd] using hT, by simpa [upd] using hB, by simpa [upd] using i10, by simpa [upd] using i9⟩
            · have hh := hcame
              simp [Came, Region.binds] at hh
              refine op_value rfl rfl (x_indexAddr28 (ad := ad) (n := l.length) (c := c0) (x := .tmp 73) (y := .const (.int .i64 0)) (i := 0) rfl (by simp [Act.eval, hh]) rfl (by omega) (by omega)) ⟨by simp [Act.put, Act.eval, upd, hh], ?_⟩
              exact ⟨by simpa [upd] using hT, by simpa [upd] using hB, by simpa [upd] using i10, by simpa [upd] using i9⟩
            · have hh := hcame
              simp [Came, Region.binds] at hh
              have h10 : bb 10 = false := by
                cases e : bb 10 with
                | false => rfl
                | true => have := i9 (i10 e); rw [hbi] at this; simp at this
              refine op_value rfl rfl (x_load3 (x := .tmp 74) rfl (by simp [Act.eval, hh]) (pw_cell_below (hB h10) hc1)) ⟨by simp [Act.put, Act.eval, upd, hh], ?_⟩
              exact ⟨by simpa [upd] using hT, by simpa [upd] using hB, by simpa [upd] using i10, by intro h9; have := i9 (by simpa [upd] using h9); simp [upd, this]⟩
            · refine op_value rfl rfl (x_assign (.inr rfl)) ⟨by simp [Act.put, Act.eval, upd], ?_⟩
              exact ⟨by simpa [upd] using hT, by simpa [upd] using hB, by simpa [upd] using i10, by simpa [upd] using i9⟩
            · refine op_value rfl rfl (x_assign (.inr rfl)) ⟨by simp [Act.put, Act.eval, upd], ?_⟩
              exact ⟨by simpa [upd] using hT, by simpa [upd] using hB, by simpa [upd] using i10, by simpa [upd] using i9⟩
            · have hh := hcame
              simp [Came, Region.binds] at hh
              refine op_value rfl rfl (x_len28 (A := some ad) (n := l.length) (c := c0) (x := .tmp 77) rfl (by simp [Act.eval, hh])) ⟨by simp [Act.put, Act.eval, upd, hh], ?_⟩
              exact ⟨by simpa [upd] using hT, by simpa [upd] using hB, by simpa [upd] using i10, by simpa [upd] using i9⟩
            · have hh := hcame
              simp [Came, Region.binds] at hh
              refine op_value rfl rfl (x_sub3 (x := .tmp 78) (y := .const (.int .i64 1)) (i := l.length) (j := 1) rfl (by simp [Act.eval, hh]) rfl (by omega) (by omega)) ⟨by simp [Act.put, Act.eval, upd, hh], ?_⟩
              exact ⟨by simpa [upd] using hT, by simpa [upd] using hB, by simpa [upd] using i10, by simpa [upd] using i9⟩
            · have hh := hcame
              simp [Came, Region.binds] at hh
              refine op_value rfl rfl (x_indexAddr28 (ad := ad) (n := l.length) (c := c0) (x := .tmp 76) (y := .tmp 79) (i := (l.length : Int) - 1) rfl (by simp [Act.eval, hh]) (by simp [Act.eval, hh]) (by omega) (by omega)) ⟨by simp [Act.put, Act.eval, upd, hh], ?_⟩
              exact ⟨by simpa [upd] using hT, by simpa [upd] using hB, by simpa [upd] using i10, by simpa [upd] using i9⟩
            · have hh := hcame
              simp [Came, Region.binds] at hh
              have h10 : bb 10 = false := by
                cases e : bb 10 with
                | false => rfl
                | true => have := i9 (i10 e); rw [hbi] at this; simp at this
              refine op_value rfl rfl (x_load3 (x := .tmp 80) rfl (by simp [Act.eval, hh]) (pw_cell_below (hB h10) hc2)) ⟨by simp [Act.put, Act.eval, upd, hh], ?_⟩
              exact ⟨by simpa [upd] using hT, by simpa [upd] using hB, by simpa [upd] using i10, by intro h9; have := i9 (by simpa [upd] using h9); simp [upd, this]⟩
            · have hh := hcame
              simp [Came, Region.binds] at hh
              refine op_value rfl rfl (x_build (qs := #[(0, .int .i64 (rd l 0)), (1, .int .i64 (rd l (l.length - 1 : Int)))]) rfl (by simp [Act.eval, hh]) (build39 _ _ _)) ⟨by simp [Act.put, Act.eval, upd, hh], ?_⟩
              exact ⟨by simpa [upd] using hT, by simpa [upd] using hB, by simp [upd], by simp [upd, hh]⟩
            · have hh := hcame
              simp [Came, Region.binds] at hh
              rw [hbi] at hT
              refine op_skip rfl (by simp [Region.wanted, yielded]) (x_store (g := w.heap.size + 1) (cells := #[.int .i64 (rd l 0), .int .i64 (rd l (l.length - 1 : Int))]) rfl rfl (by simp [Act.eval, hh]) hT.b2 i39 rfl (by simp [Value.oneCell'])) ⟨by simp [Act.put, upd, hh], ?_⟩
              exact ⟨by simpa [upd] using hT.put _, by simp [upd], by simp [upd, hh], by simpa [upd] using i9⟩
            · have hh := hcame
              simp [Came, Region.binds] at hh
              refine op_value rfl rfl (x_assign (.inl rfl)) ⟨by simp [Act.put, Act.eval, upd, hh], ?_⟩
              exact ⟨by simpa [upd] using hT, by simpa [upd] using hB, by simpa [upd] using i10, by simpa [upd] using i9⟩
            · simp at hi; omega
          · intro bb a wf hI hall
            obtain ⟨rfl, hT, _⟩ := hI
            rw [hall 10 (by simp), if_pos rfl] at hT
            refine hK _ _ ?_
            simp only [hall 0 (by simp), hall 1 (by simp), hall 2 (by simp), hall 3 (by simp), hall 4 (by simp), hall 5 (by simp), hall 6 (by simp), hall 7 (by simp), hall 8 (by simp), hall 9 (by simp), if_true]
            clear hall hK
            have HT := Lib.hid hT
            clear hT
            go_wp2
            rw [HF.out]
            refine bodyPost_ret (v := .tuple #[.agg (s39 (rd l 0, rd l (l.length - 1 : Int))), .int .i64 0]) (res_cell_tmp Tryd.results42 _ _ (w.heap.size + 1) 39 _ (0, 0) _ rfl HT.out.b2 Tryd.underlying39 rfl i39) rfl ⟨rfl, HT.out.below⟩
end Go.Proofs.YtghpoldlddghjaaDoor
namespace Go.Proofs.YtghpoldlddghjaaDoor
open Go Go.RowKit
open Go.Proofs.YtghpoldlddghjaaDoorW.PrintWords Go.Proofs.YtghpoldlddghjaaDoorW.PrintMore Go.Proofs.YtghpoldlddghjaaDoor.PPasteTrue
structure AsSt (w : World) (c1 : Array Value) (h : Hd) (b : Bk) (is : Bool) (g6 : Nat) (cs : Array Value) (wq : World) (b4 b5 b6 b8 b9 : Bool) : Prop where
  o : One w c1 27 wq
  a : b4 = true → AskR h b is cs
  v : b8 = true → w.heap.size + 1 ≤ g6 ∧ wq.heap[g6]? = some (.cells (if b9 then cs else Tryd.zeroCells113) 113 (0, 0))
  i5 : b5 = true → b4 = true
  i6 : b6 = true → b4 = true
  i9 : b9 = true → b4 = true ∧ b8 = true
theorem AsSt.on {w : World} {c1 : Array Value} {h : Hd} {b : Bk} {is : Bool} {g6 : Nat} {cs : Array Value} {wq w1 : World} {b4 b5 b6 b8 b9 : Bool} (s : AsSt w c1 h b is g6 cs wq b4 b5 b6 b8 b9) (hb : Below wq.heap.size wq w1) : AsSt w c1 h b is g6 cs w1 b4 b5 b6 b8 b9 :=
  ⟨s.o.on hb, s.a, fun e => ⟨(s.v e).1, blk_below (s.v e).2 hb⟩, s.i5, s.i6, s.i9⟩
theorem AsSt.ask {w : World} {c1 : Array Value} {h : Hd} {b : Bk} {is : Bool} {g6 : Nat} {cs cs' : Array Value} {wq : World} {b5 b6 b8 b9 : Bool} (s : AsSt w c1 h b is g6 cs wq false b5 b6 b8 b9) (ha : AskR h b is cs') : b5 = false ∧ b6 = false ∧ b9 = false ∧ AsSt w c1 h b is g6 cs' wq true b5 b6 b8 b9 := by
  have e5 : b5 = false := by
    cases b5 with
    | false => rfl
    | true => cases s.i5 rfl
  have e6 : b6 = false := by
    cases b6 with
    | false => rfl
    | true => cases s.i6 rfl
  have e9 : b9 = false := by
    cases b9 with
    | false => rfl
    | true => cases (s.i9 rfl).1
  subst e5 e6 e9
  exact ⟨rfl, rfl, rfl, s.o, fun _ => ha, s.v, by simp, by simp, by simp⟩
theorem AsSt.var {w : World} {c1 : Array Value} {h : Hd} {b : Bk} {is : Bool} {g6 : Nat} {cs : Array Value} {wq : World} {b4 b5 b6 b9 : Bool} (s : AsSt w c1 h b is g6 cs wq b4 b5 b6 false b9) : b9 = false ∧ AsSt w c1 h b is wq.heap.size cs (wq.alloc (.cells Tryd.zeroCells113 113)) b4 b5 b6 true b9 := by
  have e9 : b9 = false := by
    cases b9 with
    | false => rfl
    | true => cases (s.i9 rfl).2
  subst e9
  exact ⟨rfl, s.o.on (below_alloc (Below.refl _ _) _), s.a, fun _ => ⟨by have := blk_lt s.o.b1; omega, by simpa using (new_at rfl : (wq.alloc (.cells Tryd.zeroCells113 113)).heap[wq.heap.size]? = _)⟩, s.i5, s.i6, by simp⟩
theorem AsSt.set {w : World} {c1 : Array Value} {h : Hd} {b : Bk} {is : Bool} {g6 : Nat} {cs : Array Value} {wq : World} {b5 b6 : Bool} (s : AsSt w c1 h b is g6 cs wq true b5 b6 true false) : AsSt w c1 h b is g6 cs (wq.setRow g6 cs) true b5 b6 true true := by
  obtain ⟨n6, h6⟩ := s.v rfl
  exact ⟨⟨below_row s.o.below (by omega) _, (setRow_other wq g6 _ _ (by omega)).trans s.o.b1⟩, s.a, fun _ => ⟨n6, by simpa using setRow_heap wq g6 _ _ 113 _ h6⟩, s.i5, s.i6, by simp⟩
def unpair (b : Bk) (k : Nat) : Bk := { b.bare with pairs := b.pairs.eraseIdx k }
theorem good_unpair {b : Bk} (h : Good b) (k : Nat) : Good (unpair b k) :=
  { sp := ⟨h.sp.s1, Nat.le_trans (List.length_eraseIdx_le _ _) h.sp.p1, h.sp.s, fun p hp => h.sp.p p (List.mem_of_mem_eraseIdx hp), List.Pairwise.sublist (List.eraseIdx_sublist _ _) h.sp.d⟩, sm := ⟨h.sm.n0, h.sm.n1, h.sm.s⟩, s0 := h.s0, u0 := h.u0, u1 := h.u1,
    t1 := by simp [unpair, Bk.bare], tt := by simp [unpair, Bk.bare], sr := h.sr, n2 := h.n2, pm := fun p hp => h.pm p (List.mem_of_mem_eraseIdx hp) }
def blameOk (b : Bk) (n k : Nat) : Bool := decide (lightsI (unpair b k) (allB (unpair b k)) n = 0)
def blameTo (b : Bk) (n k : Nat) : List Int := ((List.range k).filter (blameOk b n)).map fun (i : Nat) => (i : Int)
theorem blameTo_succ (b : Bk) (n k : Nat) : blameTo b n (k + 1) = if blameOk b n k = true then blameTo b n k ++ [(k : Int)] else blameTo b n k := by
  unfold blameTo
  rw [List.range_succ, List.filter_append, List.map_append]
  cases h : blameOk b n k <;> simp [h]
theorem blameTo_len (b : Bk) (n k : Nat) : (blameTo b n k).length ≤ k := by
  unfold blameTo
  rw [List.length_map]
  have := List.length_filter_le (blameOk b n) (List.range k)
  simpa using this
def eB (b : Bk) (n : Int) : Int := askE b.bare (isSurfB b n)
def blameE (b : Bk) (n : Int) : Int := if checkB b = true then (if eB b n = 0 then (if lightsI b.bare (allB b.bare) n.toNat = 0 then 4 else 0) else eB b n) else 20
def blameL (b : Bk) (n : Int) : List Int := if blameE b n = 0 then blameTo b n.toNat b.pairs.length else []
theorem sane_bare {b : Bk} (h : Sane b) : Sane b.bare := h
set_option maxRecDepth 20000 in
set_option maxHeartbeats 800000 in
theorem Blame_calls {h : Hd} {b : Bk} {w : World} (hg : Asks w) (hb : BkIn w h b) (hsa : Sane b) (n : Int) :
    Calls Tryd.prog 34 #[.agg (h.cells b), .int .i64 n] w fun e w' => (∃ A c, e = .returned (.tuple #[.slice A (blameL b n).length c, .int .i64 (blameE b n)]) ∧ (blameL b n).length ≤ c ∧ ReadsInt w' .i64 A (blameL b n).length (blameL b n)) ∧ Below w.heap.size w w' := by
  have HS := Lib.hid hsa
  have HG := Lib.hid hg
  clear hsa hg
  have HO := Lib.hid (One.start w (h.cells b) 27)
  go_enter Tryd.func34, Tryd.ntmps34
  go_upto_region 1 with (first | (with_reducible refine b_box (t := 27) rfl rfl rfl ?_))
  rename_i K hK
  refine draw_inv2 mixed (by kernel_rfl) (fun bb a wq => ∃ g6 cs, a = ⟨#[.agg (h.cells b), .int .i64 n, .pointer (some ⟨w.heap.size, 0, none⟩), undef, .slice none 0 0, .int .i64 0, (if bb 9 then .pointer (some ⟨g6, 0, none⟩) else undef), (if bb 11 then .int .i64 (eB b n) else undef), undef, undef, undef, undef, (if bb 6 then .tuple #[.agg cs, .int .i64 (eB b n)] else undef), (if bb 0 then .agg (h.cells b) else undef), (if bb 1 then .agg (h.bare.cells b.bare) else undef), (if bb 2 then .agg (h.cells b) else undef), (if bb 3 then .int .i64 n else undef), (if bb 4 then .bool (isSurfB b n) else undef), (if bb 5 then .tuple #[.agg cs, .int .i64 (eB b n)] else undef), (if bb 7 then .agg cs else undef), (if bb 8 then .int .i64 (eB b n) else undef), undef, undef, undef, undef, undef, undef, undef, undef, undef, undef, undef, undef, undef, undef, undef, undef, undef, undef, undef, undef, undef, undef, undef, undef, undef, undef, undef, undef, undef, undef, undef, undef, undef, undef, undef, undef, undef, undef, undef, undef, undef, undef, undef, undef], []⟩ ∧ AsSt w (h.cells b) h.bare b.bare (isSurfB b n) g6 cs wq (bb 5) (bb 6) (bb 7) (bb 9) (bb 10)) ?_ ?_ ?_
  · exact ⟨0, #[], by simp, ⟨HO.out.on (Below.refl _ _).drew, by simp, by simp, by simp, by simp, by simp⟩⟩
  · intro i hi bb a wq hI hbi hcame
    obtain ⟨g6, cs, rfl, hst⟩ := hI
    rcases i with _ | _ | _ | _ | _ | _ | _ | _ | _ | _ | _ | _ | i
    · refine op_value rfl rfl (x_load (g := w.heap.size) rfl rfl hst.o.b1 Tryd.underlying27 rfl i27) ⟨g6, cs, by simp [Act.put, upd], ?_⟩
      simpa [upd] using hst
    · have hh := hcame
      simp [Came, Region.binds] at hh
      refine op_call rfl (by simp [Region.wanted, yielded]) (run_call Tryd.func68 (by kernel_rfl) rfl rfl rfl (args := #[.agg (h.cells b)]) (by simp [Act.eval, hh])) (before_calls.mono ?_)
      rintro e w5 ⟨rfl, hb5⟩
      refine ⟨_, rfl, g6, cs, by simp [Act.put, upd], ?_⟩
      simpa [upd] using hst.on hb5
    · refine op_value rfl rfl (x_load (g := w.heap.size) rfl rfl hst.o.b1 Tryd.underlying27 rfl i27) ⟨g6, cs, by simp [Act.put, upd], ?_⟩
      simpa [upd] using hst
    · refine op_value rfl rfl (x_assign (.inr rfl)) ⟨g6, cs, by simp [Act.put, Act.eval, upd], ?_⟩
      simpa [upd] using hst
    · have hh := hcame
      simp [Came, Region.binds] at hh
      refine op_call rfl (by simp [Region.wanted, yielded]) (run_call Tryd.func65 (by kernel_rfl) rfl rfl rfl (args := #[.agg (h.cells b), .int .i64 n]) (by simp [Act.eval, hh])) ((isSurface_calls (hb.below hst.o.below) n).mono ?_)
      rintro e w5 ⟨rfl, hb5⟩
      refine ⟨_, rfl, g6, cs, by simp [Act.put, upd], ?_⟩
      simpa [upd] using hst.on hb5
    · have hh := hcame
      simp [Came, Region.binds] at hh
      refine op_call rfl (by simp [Region.wanted, yielded]) (run_call Tryd.func60 (by kernel_rfl) rfl rfl rfl (args := #[.agg (h.bare.cells b.bare), .bool (isSurfB b n)]) (by simp [Act.eval, hh])) ((asked_calls (hb.below hst.o.below).bare (sane_bare HS.out) (isSurfB b n)).mono ?_)
      rintro e w5 ⟨cs', rfl, ha, hb5⟩
      have hst' := hst.on hb5
      rw [hbi] at hst'
      obtain ⟨e5, e6, e9, hst2⟩ := hst'.ask ha
      refine ⟨_, rfl, g6, cs', by simp [Act.put, upd, e5, e6, eB], ?_⟩
      simpa [upd, e5, e6, e9] using hst2
    · have hh := hcame
      simp [Came, Region.binds] at hh
      refine op_value rfl rfl (x_assign (.inr rfl)) ⟨g6, cs, by simp [Act.put, Act.eval, upd, hh], ?_⟩
      have := hst
      exact ⟨this.o, by simpa [upd] using this.a, by simpa [upd] using this.v, by simp [upd, hh], by simpa [upd] using this.i6, by simpa [upd] using this.i9⟩
    · have hh := hcame
      simp [Came, Region.binds] at hh
      refine op_value rfl rfl (x_extract (x := .tmp 12) (i := 0) (vs := #[.agg cs, .int .i64 (eB b n)]) (v := .agg cs) rfl (by simp [Act.eval, hh]) (by go_simp)) ⟨g6, cs, by simp [Act.put, Act.eval, upd, hh], ?_⟩
      have := hst
      exact ⟨this.o, by simpa [upd] using this.a, by simpa [upd] using this.v, by simpa [upd] using this.i5, by simpa [upd] using this.i5 (by simp [hh]), by simpa [upd] using this.i9⟩
    · have hh := hcame
      simp [Came, Region.binds] at hh
      refine op_value rfl rfl (x_extract (x := .tmp 12) (i := 1) (vs := #[.agg cs, .int .i64 (eB b n)]) (v := .int .i64 (eB b n)) rfl (by simp [Act.eval, hh]) (by go_simp)) ⟨g6, cs, by simp [Act.put, Act.eval, upd, hh], ?_⟩
      simpa [upd] using hst
    · have hst' := hst
      rw [hbi] at hst'
      obtain ⟨e9, hst2⟩ := hst'.var
      refine op_value rfl rfl (x_alloc rfl zb113) ⟨wq.heap.size, cs, by simp [Act.put, upd], ?_⟩
      simpa [upd, e9] using hst2
    · have hh := hcame
      simp [Came, Region.binds] at hh
      have h6 : bb 7 = true := by simp [hh]
      have h8 : bb 9 = true := by simp [hh]
      have h4 := hst.i6 h6
      have hst' := hst
      rw [hbi, h4, h8] at hst'
      have ha := hst'.a rfl
      refine op_skip rfl (by simp [Region.wanted, yielded]) (x_store (g := g6) (cells := cs) rfl (by simp [Act.eval, hh]) (by simp [Act.eval, hh]) (by simpa using (hst'.v rfl).2) ha.i ha.z ha.one) ⟨g6, cs, by simp [Act.put, upd, hh], ?_⟩
      simpa [upd, h4, h8] using hst'.set
    · have hh := hcame
      simp [Came, Region.binds] at hh
      refine op_value rfl rfl (x_assign (.inl rfl)) ⟨g6, cs, by simp [Act.put, Act.eval, upd, hh], ?_⟩
      simpa [upd] using hst
    · simp at hi; omega
  · intro bb a w4 hI hall
    obtain ⟨g6, cs, rfl, hst⟩ := hI
    refine hK _ _ ?_
    simp only [hall 0 (by simp), hall 1 (by simp), hall 2 (by simp), hall 3 (by simp), hall 4 (by simp), hall 5 (by simp), hall 6 (by simp), hall 7 (by simp), hall 8 (by simp), hall 9 (by simp), hall 11 (by simp), if_true]
    rw [hall 5 (by simp), hall 6 (by simp), hall 7 (by simp), hall 9 (by simp), hall 10 (by simp)] at hst
    have HA := Lib.hid (hst.a rfl)
    have HOO := Lib.hid hst.o
    have H6 := Lib.hid (by simpa using (hst.v rfl).2 : w4.heap[g6]? = some (.cells cs 113 (0, 0)))
    clear hst hall hK
    cases hc : checkB b with
    | false =>
      have hE : blameE b n = 20 := by unfold blameE; rw [if_neg (by rw [hc]; exact Bool.false_ne_true)]
      have HL := Lib.hid (show blameL b n = [] by unfold blameL; rw [if_neg (by rw [hE]; decide)])
      have HE := Lib.hid hE
      have HC := Lib.hid hc
      clear hc hE
      go_wp2_with (first | ((with_reducible refine gate_dst (N := 21) rfl ?_); refine wpList_load_row rfl 27 _ rfl w.heap.size rfl 27 (h.cells b) (0, 0) _ HOO.out.b1 Tryd.underlying27 rfl i27 ?_) | (go_at_call 43; refine (check_calls (hb.below HOO.out.below)).mono ?_; rintro e w5 ⟨rfl, hb5⟩; rw [HC.out]; have HO5 := Lib.hid (HOO.out.on hb5); clear hb5))
      go_ret2
      refine ⟨⟨none, 0, ?_, ?_, ?_⟩, HO5.out.below⟩
      · rw [HL.out, HE.out]; rfl
      · rw [HL.out]; exact Nat.le_refl _
      · rw [HL.out]; exact ⟨rfl, by simp, by simp⟩
    | true =>
      have HC := Lib.hid hc
      by_cases h0 : eB b n = 0
      · obtain ⟨g1, g2, _⟩ := askE_zero h0
        have hgd := HA.out.good g1
        have hgb := good_of hc HS.out
        obtain ⟨n0, n1⟩ := isSurf_of hgb g2
        obtain ⟨k, rfl⟩ := Int.eq_ofNat_of_zero_le n0
        have hk : k < b.surfs.length := by omega
        have HBK := Lib.hid (HA.out.book g1 g2)
        by_cases hl : lightsI b.bare (allB b.bare) k = 0
        · have hE : blameE b k = 4 := by unfold blameE; rw [if_pos hc, if_pos h0, if_pos (by simpa using hl)]
          have HL := Lib.hid (show blameL b k = [] by unfold blameL; rw [if_neg (by rw [hE]; decide)])
          have HE := Lib.hid hE
          have HGD := Lib.hid hgd
          have HLL := Lib.hid hl
          have HKL := Lib.hid (show k < b.bare.surfs.length from hk)
          rw [h0]
          clear hc hE h0 g1 g2 hgd hgb n0 n1 hl hk
          go_wp2_with (first | ((with_reducible refine gate_dst (N := 21) rfl ?_); refine wpList_load_row rfl 27 _ rfl w.heap.size rfl 27 (h.cells b) (0, 0) _ HOO.out.b1 Tryd.underlying27 rfl i27 ?_) | (go_at_call 43; refine (check_calls (hb.below HOO.out.below)).mono ?_; rintro e w5 ⟨rfl, hb5⟩; rw [HC.out]; have HO5 := Lib.hid (HOO.out.on hb5); have H65 := Lib.hid (blk_below H6.out hb5); clear hb5) | ((with_reducible refine gate_dst (N := 29) rfl ?_); refine wpList_load_row rfl 113 _ rfl g6 rfl 113 cs (0, 0) _ H65.out Tryd.underlying113 rfl HA.out.i ?_) | (go_at_call 66; refine (lights_calls (HG.out.below HO5.out.below) HBK.out (hb.below HO5.out.below).bare HGD.out.sm k HKL.out).mono ?_; rintro e w6 ⟨rfl, hb6⟩; rw [HLL.out]; have HO6 := Lib.hid (HO5.out.on hb6); clear hb6))
          go_ret2
          refine ⟨⟨none, 0, ?_, ?_, ?_⟩, HO6.out.below⟩
          · rw [HL.out, HE.out]; rfl
          · rw [HL.out]; exact Nat.le_refl _
          · rw [HL.out]; exact ⟨rfl, by simp, by simp⟩
        · have hE : blameE b k = 0 := by unfold blameE; rw [if_pos hc, if_pos h0, if_neg (by simpa using hl)]
          have HL := Lib.hid (show blameL b k = blameTo b k b.pairs.length by unfold blameL; rw [if_pos hE]; rfl)
          have HE := Lib.hid hE
          have HGD := Lib.hid hgd
          have HGB := Lib.hid hgb
          have hlb : (lightsI b.bare (allB b.bare) k == 0) = false := by simpa using hl
          have HKL := Lib.hid (show k < b.bare.surfs.length from hk)
          have hp4 := hgb.sp.p1
          rw [h0]
          clear hc hE h0 g1 g2 hgd hgb n0 n1 hl hk
          go_upto_region 9 with (first | ((with_reducible refine gate_dst (N := 21) rfl ?_); refine wpList_load_row rfl 27 _ rfl w.heap.size rfl 27 (h.cells b) (0, 0) _ HOO.out.b1 Tryd.underlying27 rfl i27 ?_) | (go_at_call 43; refine (check_calls (hb.below HOO.out.below)).mono ?_; rintro e w5 ⟨rfl, hb5⟩; rw [HC.out]; have HO5 := Lib.hid (HOO.out.on hb5); have H65 := Lib.hid (blk_below H6.out hb5); clear hb5) | ((with_reducible refine gate_dst (N := 29) rfl ?_); refine wpList_load_row rfl 113 _ rfl g6 rfl 113 cs (0, 0) _ H65.out Tryd.underlying113 rfl HA.out.i ?_) | (go_at_call 66; refine (lights_calls (HG.out.below HO5.out.below) HBK.out (hb.below HO5.out.below).bare HGD.out.sm k HKL.out).mono ?_; rintro e w6 ⟨rfl, hb6⟩; have HO6 := Lib.hid (HO5.out.on hb6); clear hb6))
          have c1 : w6.cell? ⟨w.heap.size, 1, none⟩ = some (.slice h.A1 b.pairs.length h.c1) := (blk_cell HO6.out.b1 1).trans rfl
          have zz := blk_lt HO6.out.b1
          go_wp2
          clear c1 hlb
          go_loopw [9, 36] (fun v i wr => ∃ j : Nat, j ≤ b.pairs.length ∧ i = .int .i64 j ∧ Aside0 (Below w6.heap.size w6 wr) ∧ Aside0 (wr.ownsRow w6.heap.size 3 1 v (blameTo b k j).length (nums .i64 (blameTo b k j)))) (fun _ i _ => b.pairs.length - (intOf i).toNat)
          case atStart => exact ⟨0, Nat.zero_le _, rfl, ⟨Below.refl _ _⟩, ⟨own_nil _ _ _ _⟩⟩
          case round =>
            obtain ⟨j, hj, rfl, HV, HW⟩ := hrel
            by_cases hlt : j < b.pairs.length
            · have HOJ := Lib.hid (HO6.out.on HV.out)
              have hz0 := HV.out.size
              go_upto_region 14 with (first | ((with_reducible refine gate_dst (N := 39) rfl ?_); refine wpList_load_row rfl 27 _ rfl w.heap.size rfl 27 (h.cells b) (0, 0) _ HOJ.out.b1 Tryd.underlying27 rfl i27 ?_) | (go_at_call 68; refine before_calls.mono ?_; rintro e w3 ⟨rfl, hb3⟩; have HV3 := Lib.hid (HOJ.out.on hb3); have HB3 := Lib.hid hb3; clear hb3) | ((with_reducible refine gate_dst (N := 11) rfl ?_); refine b_alloc rfl rfl zb27 ?_) | (refine wpList_store_row rfl 27 (.tmp 11) (.tmp 40) rfl w3.heap.size (h.bare.cells b.bare) rfl rfl 27 z27 (new_at rfl) i27 rfl (cells_one _ _) ?_))
              have hV4 := HV3.out.var z27 (h.bare.cells b.bare) 27
              have h9 : ((w3.alloc (.cells z27 27)).setRow w3.heap.size (h.bare.cells b.bare)).heap[w3.heap.size]? = some (.cells (h.bare.cells b.bare) 27 (0, 0)) := var_at
              have hB4 : Below wr.heap.size wr ((w3.alloc (.cells z27 27)).setRow w3.heap.size (h.bare.cells b.bare)) := below_row (below_alloc HB3.out _) HB3.out.size _
              generalize (w3.alloc (.cells z27 27)).setRow w3.heap.size (h.bare.cells b.bare) = W4 at hV4 h9 hB4 ⊢
              have c1 : W4.cell? ⟨w.heap.size, 1, none⟩ = some (.slice h.A1 b.pairs.length h.c1) := (blk_cell hV4.b1 1).trans rfl
              have zz := blk_lt hV4.b1
              have hz9 := blk_lt h9
              have HV4 := Lib.hid hV4
              have H9 := Lib.hid h9
              have HB4 := Lib.hid hB4
              clear hV4 h9 hB4
              go_upto_region 15 with (first | (go_at_call 70; refine (clone77 (hb.below HV4.out.below).r1 (by omega)).mono ?_; rintro e w7 ⟨v, rfl, hrv, hb7⟩; obtain ⟨gv, cap, rfl, hgv1, hgv2⟩ := R_form' hrv (by omega); have HR7 := Lib.hid hrv; have HB7 := Lib.hid hb7; clear hrv hb7) | (go_at_call 69; refine (delete77 (k := j) HR7.out hlt (by omega) HB7.out.size).mono ?_; rintro e w8 ⟨rfl, hr8, hb8⟩; have HR8 := Lib.hid hr8; have HB8 := Lib.hid (HB7.out.trans hb8); have H98 := Lib.hid ((HB8.out.block _ hz9).trans H9.out); have f8 := blk_frozen H98.out 1; have c8 : w8.cell? ⟨w3.heap.size, 1, none⟩ = some (.slice h.A1 b.pairs.length h.c1) := (blk_cell H98.out 1).trans rfl; have z8 := blk_lt H98.out; clear hr8 hb8))
              obtain ⟨h2, hh2⟩ : ∃ h2 : Hd, h2 = { h.bare with A1 := some ⟨gv, 0, none⟩, c1 := cap } := ⟨_, rfl⟩
              have hel : (b.pairs.eraseIdx j).length = b.pairs.length - 1 := List.length_eraseIdx_of_lt hlt
              have hcl : (h.bare.cells b.bare).setIfInBounds 1 (.slice (some ⟨gv, 0, none⟩) (b.pairs.length - 1) cap) = h2.cells (unpair b j) := by
                rw [hh2, ← hel]
                rfl
              have hV9 : One w (h.cells b) 27 (w8.setCell ⟨w3.heap.size, 1, none⟩ (.slice (some ⟨gv, 0, none⟩) (b.pairs.length - 1) cap)) := by
                have hz3 := blk_lt HV3.out.b1
                have hV8 : One w (h.cells b) 27 w8 := HV4.out.on HB8.out
                exact ⟨hV8.below.setCell (by simp; omega) _, blk_far hV8.b1 (by simp; omega) _⟩
              have h99 := blk_put H98.out 1 (.slice (some ⟨gv, 0, none⟩) (b.pairs.length - 1) cap) hcl
              have hR9 := Kd.R_set HR8.out H98.out (by decide) 1 (.slice (some ⟨gv, 0, none⟩) (b.pairs.length - 1) cap)
              have hW9 : Below wr.heap.size wr (w8.setCell ⟨w3.heap.size, 1, none⟩ (.slice (some ⟨gv, 0, none⟩) (b.pairs.length - 1) cap)) := (below_then HB4.out HB4.out.size HB8.out).setCell (by have := HB3.out.size; simpa using this) _
              generalize w8.setCell ⟨w3.heap.size, 1, none⟩ (.slice (some ⟨gv, 0, none⟩) (b.pairs.length - 1) cap) = W9 at hV9 h99 hR9 hW9 ⊢
              obtain ⟨_, p2, p3⟩ := Kd.R_reads' hR9
              have hbl := hb.below hV9.below
              have hB9 : BkIn W9 h2 (unpair b j) := by
                rw [hh2]
                exact ⟨hbl.r0, p3, hbl.r2, Kd.C_nil _ _, hbl.l0, by show (b.pairs.eraseIdx j).length ≤ cap; omega, hbl.l2, Nat.le_refl _⟩
              have HV9 := Lib.hid hV9
              have H99 := Lib.hid h99
              have HW9 := Lib.hid hW9
              have HB9 := Lib.hid hB9
              have HGU := Lib.hid (good_unpair HGB.out j)
              have HBL := Lib.hid (blameTo_len b k j)
              have HDL := Lib.hid (blameTo_succ b k j)
              clear hV9 h99 hR9 hW9 hB9 p2 p3 hbl hel hcl hh2 c8 f8 z8 c1 zz
              cases hok : blameOk b k j with
              | true =>
                have HLI := Lib.hid (show lightsI (unpair b j) (allB (unpair b j)) k = 0 by simpa [blameOk] using hok)
                rw [hok] at HDL
                clear hok
                go_wp2_with (first | ((with_reducible refine gate_dst (N := 49) rfl ?_); refine wpList_load_row rfl 27 _ rfl w3.heap.size rfl 27 (h2.cells (unpair b j)) (0, 0) _ H99.out Tryd.underlying27 rfl i27 ?_) | (go_at_call 61; refine (opened_calls HB9.out HGU.out.sp HGU.out.sm).mono ?_; rintro e wa ⟨csa, rfl, hbk, hba⟩; have HBA := Lib.hid hbk; have HVA := Lib.hid (HV9.out.on hba); have HBI := Lib.hid (HB9.out.below hba); have HWA := Lib.hid (below_then HW9.out HW9.out.size hba); clear hbk hba) | (go_at_call 66; refine (lights_calls (HG.out.below HVA.out.below) HBA.out HBI.out HGU.out.sm k HKL.out).mono ?_; rintro e wb ⟨rfl, hbb⟩; have HWB := Lib.hid (below_then HWA.out HWA.out.size hbb); have HWC := Lib.hid (below_then HV.out HV.out.size HWB.out); have HOW := Lib.hid (pw_own_below HW.out HWB.out); rw [show lightsI (unpair b j) (markAll (unpair b j) (fun _ => false) (fills (unpair b j).salts)) k = 0 from HLI.out]; clear hbb) | (at_builtin; go_loud (refine print_append_num (w0 := w6) w6.heap.size rfl (.tmp 54) (.tmp 56) 28 3 .i64 8 rfl Tryd.underlying28 i3x (by decide) _ (blameTo b k j) (j : Int) rfl rfl HOW.out HWC.out HWC.out.size (by have := HBL.out; omega) ?_); intro v1 w12 HO12 HV12 _ _; have HO12 := Aside0.mk HO12; have HV12 := Aside0.mk HV12))
                go_roundw
                case rel => exact ⟨j + 1, by omega, by go_num, HV12, ⟨by rw [HDL.out]; exact HO12.out⟩⟩
                case measure => simp [intOf]; omega
              | false =>
                obtain ⟨li, hli⟩ : ∃ li, li = lightsI (unpair b j) (allB (unpair b j)) k := ⟨_, rfl⟩
                have HLI := Lib.hid hli.symm
                have hlb : (li == 0) = false := by rw [hli]; simpa [blameOk] using hok
                rw [hok] at HDL
                clear hok hli
                go_wp2_with (first | ((with_reducible refine gate_dst (N := 49) rfl ?_); refine wpList_load_row rfl 27 _ rfl w3.heap.size rfl 27 (h2.cells (unpair b j)) (0, 0) _ H99.out Tryd.underlying27 rfl i27 ?_) | (go_at_call 61; refine (opened_calls HB9.out HGU.out.sp HGU.out.sm).mono ?_; rintro e wa ⟨csa, rfl, hbk, hba⟩; have HBA := Lib.hid hbk; have HVA := Lib.hid (HV9.out.on hba); have HBI := Lib.hid (HB9.out.below hba); have HWA := Lib.hid (below_then HW9.out HW9.out.size hba); clear hbk hba) | (go_at_call 66; refine (lights_calls (HG.out.below HVA.out.below) HBA.out HBI.out HGU.out.sm k HKL.out).mono ?_; rintro e wb ⟨rfl, hbb⟩; have HWB := Lib.hid (below_then HWA.out HWA.out.size hbb); have HWC := Lib.hid (below_then HV.out HV.out.size HWB.out); have HOW := Lib.hid (pw_own_below HW.out HWB.out); rw [show lightsI (unpair b j) (markAll (unpair b j) (fun _ => false) (fills (unpair b j).salts)) k = li from HLI.out]; clear hbb))
                go_roundw
                case rel => exact ⟨j + 1, by omega, by go_num, ⟨HWC.out⟩, ⟨by rw [HDL.out]; exact HOW.out⟩⟩
                case measure => simp [intOf]; omega
            · obtain rfl : j = b.pairs.length := by omega
              obtain ⟨A9, c9, hv9, hr9⟩ := own_reads HW.out
              subst hv9
              rw [← HL.out] at hr9
              have hlen := HL.out
              have HR9 := Lib.hid hr9
              have HVV := Lib.hid (HO6.out.on HV.out)
              have hcap : (blameTo b k b.pairs.length).length ≤ c9 := by
                rcases HW.out.2 with ⟨h1, h2⟩ | ⟨_, _, _, h1, _, _, h2, _⟩
                · rw [h2]; omega
                · cases h1; exact h2
              have HCP := Lib.hid hcap
              rw [← hlen]
              clear hr9 hlen hcap
              go_wp2_with (first | ((with_reducible refine gate_dst (N := 64) rfl ?_); refine b_value rfl (x_slice (x := .tmp 59) (lo := none) (hi := some (.tmp 61)) (mx := some (.tmp 63)) (u := .slice A9 (blameL b k).length c9) (a := none) (b := some (.int .i64 (blameL b k).length)) (c := some (.int .i64 (blameL b k).length)) rfl rfl rfl rfl rfl (run_cut A9 (blameL b k).length c9 (by have := HCP.out; have := HL.out; rw [this]; omega) _)) ?_))
              go_ret2
              exact ⟨⟨A9, (blameL b k).length, by rw [HE.out]; rfl, Nat.le_refl _, HR9.out⟩, HVV.out.below⟩
      · have hE : blameE b n = eB b n := by unfold blameE; rw [if_pos hc, if_neg h0]
        have HL := Lib.hid (show blameL b n = [] by unfold blameL; rw [if_neg (by rw [hE]; exact h0)])
        have HE := Lib.hid hE
        have hne : (eB b n != 0) = true := by simpa using h0
        clear hc hE h0
        go_wp2_with (first | ((with_reducible refine gate_dst (N := 21) rfl ?_); refine wpList_load_row rfl 27 _ rfl w.heap.size rfl 27 (h.cells b) (0, 0) _ HOO.out.b1 Tryd.underlying27 rfl i27 ?_) | (go_at_call 43; refine (check_calls (hb.below HOO.out.below)).mono ?_; rintro e w5 ⟨rfl, hb5⟩; rw [HC.out]; have HO5 := Lib.hid (HOO.out.on hb5); have H65 := Lib.hid (blk_below H6.out hb5); clear hb5))
        go_ret2
        refine ⟨⟨none, 0, ?_, ?_, ?_⟩, HO5.out.below⟩
        · rw [HL.out, HE.out]; rfl
        · rw [HL.out]; exact Nat.le_refl _
        · rw [HL.out]; exact ⟨rfl, by simp, by simp⟩
end Go.Proofs.YtghpoldlddghjaaDoor
namespace Go.Proofs.YtghpoldlddghjaaDoor
open Go Go.RowKit
open Go.Proofs.YtghpoldlddghjaaDoorW.PrintWords Go.Proofs.YtghpoldlddghjaaDoorW.PrintMore Go.Proofs.YtghpoldlddghjaaDoor.PPasteTrue
def safeR (b : Bk) : Bool := decide (askE b true = 0) && safeB b (allB b)
set_option maxRecDepth 20000 in
set_option maxHeartbeats 800000 in
theorem Safe_calls {h : Hd} {b : Bk} {w : World} (hg : Asks w) (hb : BkIn w h b) (hsa : Sane b) :
    Calls Tryd.prog 18 #[.agg (h.cells b)] w fun e w' => e = .returned (.tuple #[.bool (safeR b), .int .i64 (askE b true)]) ∧ Below w.heap.size w w' := by
  have HS := Lib.hid hsa
  have HG := Lib.hid hg
  clear hsa hg
  have HO := Lib.hid (One.start w (h.cells b) 27)
  by_cases h0 : askE b true = 0
  · obtain ⟨g1, _, _⟩ := askE_zero h0
    have HR := Lib.hid (show safeR b = safeB b (allB b) by simp [safeR, h0])
    rw [h0]
    have HV := Lib.hid h0
    have HG1 := Lib.hid g1
    clear h0 g1
    go_enter Tryd.func18, Tryd.ntmps18
    go_upto_region 4 with (first | (with_reducible refine b_box (t := 27) rfl rfl rfl ?_) | ((with_reducible refine gate_dst (N := 7) rfl ?_); refine wpList_load_row rfl 27 _ rfl w.heap.size rfl 27 (h.cells b) (0, 0) _ HO.out.b1 Tryd.underlying27 rfl i27 ?_) | (go_at_call 60; refine (asked_calls (hb.below HO.out.below) HS.out true).mono ?_; rintro e w1 ⟨cs, rfl, ha, hb1⟩; rw [HV.out]; have HA := Lib.hid ha; have HO1 := Lib.hid (HO.out.on hb1); clear ha hb1) | ((with_reducible refine gate_dst (N := 4) rfl ?_); refine b_alloc rfl rfl zb113 ?_) | (refine wpList_store_row rfl 113 (.tmp 4) (.tmp 9) rfl w1.heap.size cs rfl rfl 113 Tryd.zeroCells113 (new_at rfl) HA.out.i HA.out.z HA.out.one ?_))
    have HO2 := Lib.hid (HO1.out.var Tryd.zeroCells113 cs 113)
    have H4 : ((w1.alloc (.cells Tryd.zeroCells113 113)).setRow w1.heap.size cs).heap[w1.heap.size]? = some (.cells cs 113 (0, 0)) := var_at
    generalize (w1.alloc (.cells Tryd.zeroCells113 113)).setRow w1.heap.size cs = W2 at HO2 H4 ⊢
    have H42 := Lib.hid H4
    clear H4
    have HBK := Lib.hid (HA.out.book HG1.out rfl)
    have HGG := Lib.hid (HA.out.good HG1.out)
    go_wp2_with (first | ((with_reducible refine gate_dst (N := 14) rfl ?_); refine wpList_load_row rfl 113 _ rfl w1.heap.size rfl 113 cs (0, 0) _ H42.out Tryd.underlying113 rfl HA.out.i ?_) | (go_at_call 64; refine (safe_calls (HG.out.below HO2.out.below) HBK.out (hb.below HO2.out.below) HGG.out.sm HGG.out.u0).mono ?_; rintro e w5 ⟨rfl, hb5⟩; have HO3 := Lib.hid (HO2.out.on hb5); clear hb5))
    go_ret2
    exact ⟨by rw [HR.out]; rfl, HO3.out.below⟩
  · have HR := Lib.hid (show safeR b = false by simp [safeR, h0])
    have hv : askE b true = 20 ∨ askE b true = 22 := by
      rcases askE_cases b with h | h | h
      · exact absurd h h0
      · exact .inl h
      · exact .inr h
    clear h0
    rcases hv with hv | hv <;>
    · rw [hv]
      have HV := Lib.hid hv
      clear hv
      go_enter Tryd.func18, Tryd.ntmps18
      go_wp2_with (first | (with_reducible refine b_box (t := 27) rfl rfl rfl ?_) | ((with_reducible refine gate_dst (N := 7) rfl ?_); refine wpList_load_row rfl 27 _ rfl w.heap.size rfl 27 (h.cells b) (0, 0) _ HO.out.b1 Tryd.underlying27 rfl i27 ?_) | (go_at_call 60; refine (asked_calls (hb.below HO.out.below) HS.out true).mono ?_; rintro e w1 ⟨cs, rfl, ha, hb1⟩; rw [HV.out]; have HA := Lib.hid ha; have HO1 := Lib.hid (HO.out.on hb1); clear ha hb1) | ((with_reducible refine gate_dst (N := 4) rfl ?_); refine b_alloc rfl rfl zb113 ?_) | (refine wpList_store_row rfl 113 (.tmp 4) (.tmp 9) rfl w1.heap.size cs rfl rfl 113 Tryd.zeroCells113 (new_at rfl) HA.out.i HA.out.z HA.out.one ?_))
      have HO2 := HO1.out.var Tryd.zeroCells113 cs 113
      go_ret2
      exact ⟨by rw [HR.out]; rfl, HO2.below⟩
end Go.Proofs.YtghpoldlddghjaaDoor
