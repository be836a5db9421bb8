/- The law PasteBlame: its walk, its row and its card. Conditions: none. -/
import Derived.Test.YtghpoldlddghjaaDoorM4
import Derived.Test.YtghpoldlddghjaaDoorMY
import Derived.Test.YtghpoldlddghjaaDoorM3
import Derived.Test.YtghpoldlddghjaaDoorMX
import Derived.OpenShut
import Derived.Deep.CutRange
import Derived.Test.YtghpoldlddghjaaDoorCards
import Derived.Test.YtghpoldlddghjaaDoorTie
import Derived.WalkKit
import Derived.ProofKit
import Derived.Deep.DeepHandedRow
import Derived.Deep.DeepWitnessRowRef
set_option linter.unusedVariables false
set_option linter.unusedSimpArgs false
namespace Go.Proofs.YtghpoldlddghjaaDoor
open Go Go.RowKit
open Go.Proofs.YtghpoldlddghjaaDoorW.PrintWords Go.Proofs.YtghpoldlddghjaaDoorW.PrintMore Go.Proofs.YtghpoldlddghjaaDoor.PPasteTrue
theorem right_iff (b : Bk) (p : Int) : rightB b p = true ↔ ∀ j, j < b.surfs.length → (rubs b j p).1 ≤ (rubs b j p).2 := by
  unfold rightB
  rw [List.all_eq_true]
  simp
end Go.Proofs.YtghpoldlddghjaaDoor
namespace Go.Proofs.YtghpoldlddghjaaDoor
open Go Go.RowKit
open Go.Proofs.YtghpoldlddghjaaDoorW.PrintWords Go.Proofs.YtghpoldlddghjaaDoorW.PrintMore Go.Proofs.YtghpoldlddghjaaDoor.PPasteTrue
section
variable {w : World} {h : Hd} {b : Bk} {l : List (Nat × Int × Int)} {hx h' : Hd} {t : S59} {g : Nat} {r : Int × Int} {wq w1 : World} {b3 b4 b8 b9 : Bool}
end
theorem only_calls (x : Int) (w : World) : Calls Tryd.prog 28 #[.int .i64 x] w fun e w' => e = .returned (.agg #[.int .i64 x, .int .i64 x]) ∧ Below w.heap.size w w' := luciferref00_Only.calls x x x w rfl
end Go.Proofs.YtghpoldlddghjaaDoor
namespace Go.Proofs.YtghpoldlddghjaaDoor
open Go Go.RowKit
open Go.Proofs.YtghpoldlddghjaaDoorW.PrintWords Go.Proofs.YtghpoldlddghjaaDoorW.PrintMore Go.Proofs.YtghpoldlddghjaaDoor.PPasteTrue
theorem pairVal_range {b : Bk} (hs : SP b) (xs : List Int) {p : S77} (hp : p ∈ b.pairs) : 0 ≤ pairVal xs p ∧ pairVal xs p ≤ 30 := by
  have := hs.p p hp
  unfold pairVal
  split <;> omega
theorem wrap_id {n m : Int} (h : n = m) (h0 : -1000000 ≤ m) (h1 : m ≤ 1000000) : wrap64 n = m := by subst h; unfold wrap64; omega
def endI (s : S39) (most : Bool) : Int := if most = true then s.f1 else s.f0
def endL (ss : List S68) (most : Bool) : List Int := ss.map fun x => endI x.f1 most
theorem fit_end : ∀ (ss : List S68) (most : Bool), (∀ x ∈ ss, x.f1.f0 ≤ x.f1.f1) → Fit ss (endL ss most)
  | [], _, _ => trivial
  | s :: ss, most, h => by
    have h1 := h s (by simp)
    refine ⟨?_, ?_, fit_end ss most (fun x hx => h x (by simp [hx]))⟩
    · show s.f1.f0 ≤ endI s.f1 most
      unfold endI
      split <;> omega
    · show endI s.f1 most ≤ s.f1.f1
      unfold endI
      split <;> omega
def endP (b : Bk) (most : Bool) : Int := powerI b (endL b.salts most)
theorem end_fit {b : Bk} (hs : SP b) (most : Bool) : Fit b.salts (endL b.salts most) := fit_end _ _ (fun x hx => by have := hs.s x hx; omega)
theorem end_pws {b : Bk} (hs : SP b) (most : Bool) : endP b most ∈ pws b := mem_pws.2 ⟨_, end_fit hs most, rfl⟩
theorem rubs_none {b : Bk} (h : b.trials = []) (j : Nat) (p : Int) : rubs b j p = ((rd_T47 b.surfs j).f0.f0, (rd_T47 b.surfs j).f0.f1) := by
  unfold rubs rubF
  rw [h]
  rfl
def Spans (b : Bk) : Prop := ∀ x ∈ b.surfs, 0 ≤ x.f0.f0 ∧ x.f0.f0 ≤ x.f0.f1 ∧ x.f0.f1 ≤ 200 ∧ 0 ≤ x.f1.f0 ∧ x.f1.f0 ≤ x.f1.f1 ∧ x.f1.f1 ≤ 200
theorem right_none {b : Bk} (h : b.trials = []) (hs : Spans b) (p : Int) : rightB b p = true := by
  rw [right_iff]
  intro j hj
  rw [rubs_none h]
  have := hs _ (rd47_mem (xs := b.surfs) (i := (j : Int)) (by omega) (by omega))
  exact this.2.1
theorem trs_none {b : Bk} (h : b.trials = []) (hs : Spans b) (p : Int) : p ∈ trs b ↔ p ∈ pws b := by
  rw [mem_trs]
  exact ⟨fun x => x.1, fun x => ⟨x, right_none h hs p⟩⟩
theorem check_bare {b : Bk} (hc : checkB b = true) : checkB b.bare = true := by
  unfold checkB headB at hc ⊢
  simp only [Bool.and_eq_true, decide_eq_true_eq, List.all_eq_true, List.mem_range] at hc ⊢
  obtain ⟨⟨⟨⟨⟨a1, a2, a3, a4, a5⟩, hs⟩, hp⟩, hx⟩, ht⟩ := hc
  exact ⟨⟨⟨⟨⟨a1, a2, a3, a4, by show ((0 : Nat) : Int) ≤ 6; omega⟩, hs⟩, hp⟩, hx⟩, fun x hm => by cases hm⟩
theorem ask_none {b : Bk} (hc : checkB b = true) (hs : SP b) (h : b.trials = []) (hx : Spans b) : askE b true = 0 := by
  unfold askE
  rw [if_pos hc, if_pos rfl, if_pos]
  rw [can_iff hs]
  exact ⟨_, (trs_none h hx _).2 (end_pws hs false)⟩
theorem surf_in {b : Bk} (hu : b.surfs.length ≤ 4) {k : Nat} (hk : k < b.surfs.length) : isSurfB b k = true := by
  unfold isSurfB
  rw [inB_iff, show wrap64 ((b.surfs.length : Int) - 1) = (b.surfs.length : Int) - 1 by unfold wrap64; omega]
  omega
end Go.Proofs.YtghpoldlddghjaaDoor
namespace Go.Proofs.YtghpoldlddghjaaDoor.Ops
open Go Go.RowKit Go.Proofs.YtghpoldlddghjaaDoor
open Go.Proofs.YtghpoldlddghjaaDoorW.PrintWords Go.Proofs.YtghpoldlddghjaaDoorW.PrintMore Go.Proofs.YtghpoldlddghjaaDoor.PPasteTrue
section
variable {ρ : Operand → Value} {o : Oper} {w : World}
theorem fld27_0 {x : Operand} (ho : o.op = .fieldAddr 27 x 0) {g : Nat} (hx : ρ x = .pointer (some ⟨g, 0, none⟩)) : (execOp ρ o).run Tryd.prog w = .ok (.value (.pointer (some ⟨g, 0, none⟩))) w := by
  unfold execOp
  simp only [ho, hx]
  go_simp
theorem fld27_1 {x : Operand} (ho : o.op = .fieldAddr 27 x 1) {g : Nat} (hx : ρ x = .pointer (some ⟨g, 0, none⟩)) : (execOp ρ o).run Tryd.prog w = .ok (.value (.pointer (some ⟨g, 1, none⟩))) w := by
  unfold execOp
  simp only [ho, hx]
  go_simp
theorem fld27_2 {x : Operand} (ho : o.op = .fieldAddr 27 x 2) {g : Nat} (hx : ρ x = .pointer (some ⟨g, 0, none⟩)) : (execOp ρ o).run Tryd.prog w = .ok (.value (.pointer (some ⟨g, 2, none⟩))) w := by
  unfold execOp
  simp only [ho, hx]
  go_simp
theorem fld39_0 {x : Operand} (ho : o.op = .fieldAddr 39 x 0) {g : Nat} (hx : ρ x = .pointer (some ⟨g, 0, none⟩)) : (execOp ρ o).run Tryd.prog w = .ok (.value (.pointer (some ⟨g, 0, none⟩))) w := by
  unfold execOp
  simp only [ho, hx]
  go_simp
theorem fld39_1 {x : Operand} (ho : o.op = .fieldAddr 39 x 1) {g : Nat} (hx : ρ x = .pointer (some ⟨g, 0, none⟩)) : (execOp ρ o).run Tryd.prog w = .ok (.value (.pointer (some ⟨g, 1, none⟩))) w := by
  unfold execOp
  simp only [ho, hx]
  go_simp
theorem ld22 {x : Operand} (ho : o.op = .load 22 x) {ad : Addr} {A : Option Addr} {n c : Nat} (hx : ρ x = .pointer (some ad)) (hc : w.cell? ad = some (.slice A n c)) : (execOp ρ o).run Tryd.prog w = .ok (.value (.slice A n c)) w := by
  unfold execOp
  simp only [ho, hx]
  go_simp
theorem len22 {x : Operand} (ho : o.op = .call { callee := .builtin .len, args := #[x], argTypes := #[22] }) {A : Option Addr} {n c : Nat} (hx : ρ x = .slice A n c) : (execOp ρ o).run Tryd.prog w = .ok (.value (.int .i64 n)) w := by
  unfold execOp
  simp only [ho]
  go_simp
theorem ld23 {x : Operand} (ho : o.op = .load 23 x) {ad : Addr} {A : Option Addr} {n c : Nat} (hx : ρ x = .pointer (some ad)) (hc : w.cell? ad = some (.slice A n c)) : (execOp ρ o).run Tryd.prog w = .ok (.value (.slice A n c)) w := by
  unfold execOp
  simp only [ho, hx]
  go_simp
theorem ld24 {x : Operand} (ho : o.op = .load 24 x) {ad : Addr} {A : Option Addr} {n c : Nat} (hx : ρ x = .pointer (some ad)) (hc : w.cell? ad = some (.slice A n c)) : (execOp ρ o).run Tryd.prog w = .ok (.value (.slice A n c)) w := by
  unfold execOp
  simp only [ho, hx]
  go_simp
theorem len24 {x : Operand} (ho : o.op = .call { callee := .builtin .len, args := #[x], argTypes := #[24] }) {A : Option Addr} {n c : Nat} (hx : ρ x = .slice A n c) : (execOp ρ o).run Tryd.prog w = .ok (.value (.int .i64 n)) w := by
  unfold execOp
  simp only [ho]
  go_simp
theorem idx22 {x y : Operand} (ho : o.op = .indexAddr 22 x y) {ad : Addr} {n c : Nat} {i : Int} (hx : ρ x = .slice (some ad) n c) (hy : ρ y = .int .i64 i) (h0 : 0 ≤ i) (h1 : i < n) : (execOp ρ o).run Tryd.prog w = .ok (.value (.pointer (some (ad.add (i.toNat * 3))))) w := by
  unfold execOp
  simp only [ho, hx, hy]
  go_simp
theorem ld3 {x : Operand} (ho : o.op = .load 3 x) {ad : Addr} {v : Int} (hx : ρ x = .pointer (some ad)) (hc : w.cell? ad = some (.int .i64 v)) : (execOp ρ o).run Tryd.prog w = .ok (.value (.int .i64 v)) w := by
  unfold execOp
  simp only [ho, hx]
  go_simp
theorem gt3 {x y : Operand} {t' : TypeId} (ho : o.op = .binOp .gtr 3 x y t') {i j : Int} (hx : ρ x = .int .i64 i) (hy : ρ y = .int .i64 j) : (execOp ρ o).run Tryd.prog w = .ok (.value (.bool (decide (j < i)))) w := by
  unfold execOp
  simp only [ho, hx, hy]
  go_simp
theorem le3 {x y : Operand} {t' : TypeId} (ho : o.op = .binOp .leq 3 x y t') {i j : Int} (hx : ρ x = .int .i64 i) (hy : ρ y = .int .i64 j) : (execOp ρ o).run Tryd.prog w = .ok (.value (.bool (decide (i ≤ j)))) w := by
  unfold execOp
  simp only [ho, hx, hy]
  go_simp
theorem gt3v {x y : Operand} {t' : TypeId} (ho : o.op = .binOp .gtr 3 x y t') {i j : Int} {v : Bool} (hx : ρ x = .int .i64 i) (hy : ρ y = .int .i64 j) (hv : decide (j < i) = v) : (execOp ρ o).run Tryd.prog w = .ok (.value (.bool v)) w := by
  subst hv
  exact gt3 ho hx hy
theorem le3v {x y : Operand} {t' : TypeId} (ho : o.op = .binOp .leq 3 x y t') {i j : Int} {v : Bool} (hx : ρ x = .int .i64 i) (hy : ρ y = .int .i64 j) (hv : decide (i ≤ j) = v) : (execOp ρ o).run Tryd.prog w = .ok (.value (.bool v)) w := by
  subst hv
  exact le3 ho hx hy
theorem unwanted_of {ops : Array Oper} {o oj : Oper} {tmps : Array Value} {j d : Nat} {want is : Bool} (hg : o.guard = some (j, want)) (ho : ops[j]? = some oj) (hd : oj.dst = some d) (ht : tmps[d]? = some (.bool is)) (hne : is ≠ want) : Region.wanted o (yielded ops tmps) = false := by
  unfold Region.wanted yielded
  simp [hg, ho, hd, ht, hne]
end
end Go.Proofs.YtghpoldlddghjaaDoor.Ops
namespace Go.Proofs.YtghpoldlddghjaaDoor.PPasteTrue
open Go.RowKit Go.Proofs.YtghpoldlddghjaaDoorW.PrintWords Go.Proofs.YtghpoldlddghjaaDoorW.PrintLast Go.Proofs.YtghpoldlddghjaaDoorW.PrintMore
attribute [local go_sem] max2_int min2_int max_two min_two max_three min_three max_four min_four   -- for this text's walks alone
def luciferref00_Index.l0 : Nat → List Int → Int → Int → Option (Int)
  | 0, _, _, _ => none
  | k + 1, x0, x1, x5 => if x5 < (x0.length : Int) then (if 0 ≤ x5 then (if (rd x0 x5) = x1 then (some x5) else (luciferref00_Index.l0 k x0 x1 (wrap64 (x5 + 1)))) else (none)) else (some (-1))
def luciferref00_Index.f (k : Nat) (l0 : List Int) (a1 : Int) : Option (Int) := luciferref00_Index.l0 k l0 a1 0
set_option maxHeartbeats 8000000 in
set_option maxRecDepth 100000 in
theorem luciferref00_Index.calls (k : Nat) (A0 : Option Addr) (c0 : Nat) (l0 : List Int) (a1 : Int) (r : Int) (w : World) (hr0 : Kd.C (Kd.int .i64) w A0 l0.length l0) (hc0 : l0.length ≤ c0) (h : luciferref00_Index.f k l0 a1 = some r) :
    Calls Tryd.prog 36 #[.slice A0 l0.length c0, .int .i64 a1] w fun e w' => e = .returned (.int .i64 r) ∧ Drawn0 w w' := by
  have HR0 := Aside0.mk hr0
  have HC0 := Aside0.mk hc0
  clear hr0 hc0
  have H : (luciferref00_Index.l0 k l0 a1 0) = some r := h
  clear h
  have H' := Aside0.mk H
  clear H
  go_enter Tryd.func36, Tryd.ntmps36
  go_wp2
  go_loopg [5] k (fun kq v5 w' => ∃ (x5_1 : Int), v5 = .int .i64 x5_1 ∧ Aside0 (luciferref00_Index.l0 kq l0 a1 x5_1 = some r) ∧ Aside0 (kq ≤ k) ∧ Drawn0 w w')
  case atStart => exact ⟨(0), (by first | rfl | (simp; done) | (simp [*]; done)), H', ⟨Nat.le_refl _⟩, by repeat (first | exact Drawn0.refl _ | apply Drawn0.step)⟩
  case round =>
    clear H'
    try clear p2
    obtain ⟨x5_1, rfl, HA, HK1, ⟨m1, rfl⟩⟩ := hrel
    cases gk with
    | zero => exact absurd HA.out (by simp [luciferref00_Index.l0])
    | succ k1 =>
      have H := HA.out
      clear HA
      simp only [luciferref00_Index.l0] at H
      by_cases c3 : x5_1 < (l0.length : Int)
      · rw [if_pos c3] at H
        have c3b0 : decide (x5_1 < (l0.length : Int)) = true := decide_eq_true c3
        clear c3
        by_cases c4 : 0 ≤ x5_1
        · rw [if_pos c4] at H
          have c4b0 : decide (0 ≤ x5_1) = true := decide_eq_true c4
          clear c4
          by_cases c5 : (rd l0 x5_1) = a1
          · rw [if_pos c5] at H
            have c5b0 : ((rd l0 x5_1) == a1) = true := beq_iff_eq.mpr c5
            have c5b1 : ((rd l0 x5_1) != a1) = false := bne_eq_false_iff_eq.mpr c5
            clear c5
            obtain rfl := Option.some.inj H
            have p312 : 0 ≤ (x5_1 : Int) := of_decide_eq_true (by first | (with_reducible assumption) | assumption)
            have q312 : x5_1 < (l0.length : Int) := of_decide_eq_true (by first | (with_reducible assumption) | assumption)
            obtain ⟨ad312, e312, hx312_0⟩ := Kd.at_int HR0.out x5_1 p312 q312
            cases e312
            replace p312 := eq_true p312
            replace q312 := eq_true q312
            go_wp2
            go_ret
            exact ⟨by first | rfl | (simp; done) | (simp [*]; done), by repeat (first | exact Drawn0.refl _ | apply Drawn0.step)⟩
          · rw [if_neg c5] at H
            have c5b0 : ((rd l0 x5_1) == a1) = false := beq_eq_false_iff_ne.mpr c5
            have c5b1 : ((rd l0 x5_1) != a1) = true := bne_iff_ne.mpr c5
            have H' := Aside0.mk H
            clear H
            have p312 : 0 ≤ (x5_1 : Int) := of_decide_eq_true (by first | (with_reducible assumption) | assumption)
            have q312 : x5_1 < (l0.length : Int) := of_decide_eq_true (by first | (with_reducible assumption) | assumption)
            obtain ⟨ad312, e312, hx312_0⟩ := Kd.at_int HR0.out x5_1 p312 q312
            cases e312
            replace p312 := eq_true p312
            replace q312 := eq_true q312
            go_wp2
            go_roundg k1
            case measure => have := HK1.out; omega
            case rel => exact ⟨(wrap64 (x5_1 + 1)), (by first | rfl | (simp; done) | (simp [*]; done)), H', ⟨by have := HK1.out; omega⟩, by repeat (first | exact Drawn0.refl _ | apply Drawn0.step)⟩
        · rw [if_neg c4] at H
          exact absurd H (by simp)
      · rw [if_neg c3] at H
        have c3b0 : decide (x5_1 < (l0.length : Int)) = false := decide_eq_false c3
        clear c3
        obtain rfl := Option.some.inj H
        go_wp2
        go_ret
        exact ⟨by first | rfl | (simp; done) | (simp [*]; done), by repeat (first | exact Drawn0.refl _ | apply Drawn0.step)⟩
end Go.Proofs.YtghpoldlddghjaaDoor.PPasteTrue
namespace Go.Proofs.YtghpoldlddghjaaDoor
open Go Go.RowKit
open Go.Proofs.YtghpoldlddghjaaDoorW.PrintWords Go.Proofs.YtghpoldlddghjaaDoorW.PrintMore Go.Proofs.YtghpoldlddghjaaDoor.PPasteTrue
theorem get28 {w : World} {A : Option Addr} {l : List Int} (hr : Kd.C (Kd.int .i64) w A l.length l) {i : Nat} (hi : i < l.length) : ∃ ad, A = some ad ∧ ∀ w', Below w.heap.size w w' → w'.cell? (ad.add i) = some (.int .i64 (rd l (i : Int))) := by
  obtain ⟨ad, e, _⟩ := hr.2.2 (by omega)
  refine ⟨ad, e, fun w' hb => ?_⟩
  obtain ⟨ad2, c, e2, hl, hk, hc⟩ := (Kd.C_below hr hb).get_ 0 (i : Int) (by omega) (by omega)
  obtain rfl : ad = ad2 := by rw [e] at e2; exact Option.some.inj e2
  have hk' : c = [.int .i64 (rd l (i : Int))] := hk
  have := hc 0 (.int .i64 (rd l (i : Int))) (by rw [hk']; rfl)
  simpa [Kd.int, Kd.scalar] using this
set_option maxRecDepth 20000 in
set_option maxHeartbeats 1600000 in
theorem grows_calls {A : Option Addr} {c : Nat} {l : List Int} {w : World} (hr : Kd.C (Kd.int .i64) w A l.length l) (n : Int) (h0 : 0 ≤ n) (h1 : n ≤ 1000) (hl : l.length ≤ 1000) (hg : ∀ i : Nat, i < l.length → inB (rd l (i : Int)) 0 (n - 1) = true) (hi : ∀ i : Nat, 0 < i → i < l.length → rd l ((i : Int) - 1) < rd l (i : Int)) :
    Calls Tryd.prog 35 #[.slice A l.length c, .int .i64 n] w fun e w' => e = .returned (.bool true) ∧ Below w.heap.size w w' := by
  have HR := Lib.hid hr
  have HGG := Lib.hid hg
  have HII := Lib.hid hi
  clear hr hg hi
  go_enter Tryd.func35, Tryd.ntmps35
  go_wp2
  go_loopw [5] (fun i wr => ∃ m : Nat, m ≤ l.length ∧ i = .int .i64 m ∧ Aside0 (Below w.heap.size w wr)) (fun i _ => (l.length - intOf i).toNat)
  case atStart => exact ⟨0, Nat.zero_le _, by simp, ⟨Below.refl _ _⟩⟩
  case round =>
    obtain ⟨m, hm, rfl, HX⟩ := hrel
    by_cases hlt : m < l.length
    · obtain ⟨ad, had, hget⟩ := get28 HR.out hlt
      subst had
      have HGET := Lib.hid hget
      obtain ⟨x, hx⟩ : ∃ x, rd l (m : Int) = x := ⟨_, rfl⟩
      have HXX := Lib.hid hx
      have HF := Lib.hid (show inB x 0 (n - 1) = true by rw [← hx]; exact HGG.out m hlt)
      clear hget hx
      by_cases hm0 : m = 0
      · have hgt : decide (0 < (m : Int)) = false := decide_eq_false (by omega)
        go_upto_region 4 with (first | fail)
        rename_i K hK
        refine draw_inv2 mixed (by kernel_rfl) (fun bb a wq => a = ⟨#[.slice (some ad) l.length c, .int .i64 n, undef, undef, u4, .int .i64 ↑m, .int .i64 ↑m, .slice (some ad) l.length c, .int .i64 ↑l.length, .bool (decide (0 < l.length)), u10, u11, (if bb 0 then .slice (some ad) l.length c else u12), (if bb 1 then .int .i64 ↑m else u13), (if bb 2 then .pointer (some (ad.add m)) else u14), (if bb 3 then .int .i64 x else u15), (if bb 4 then .int .i64 n else u16), (if bb 5 then .int .i64 (n - 1) else u17), (if bb 6 then .bool true else u18), (if bb 7 then .bool false else u19), (if bb 8 then .bool false else u20), (if bb 9 then .int .i64 ↑m else u21), (if bb 10 then .bool false else u22), (if bb 11 then .bool false else u23), (if bb 12 then undef else u24), (if bb 13 then undef else u25), (if bb 14 then undef else u26), (if bb 15 then undef else u27), (if bb 16 then undef else u28), (if bb 17 then undef else u29), (if bb 18 then undef else u30), (if bb 19 then undef else u31), (if bb 20 then undef else u32), (if bb 21 then undef else u33), (if bb 22 then .bool false else u34), (if bb 23 then .bool false else u35)], []⟩ ∧ Below w.heap.size w wq) ?_ ?_ ?_
        · exact ⟨by simp, by simpa using HX.out.drew⟩
        · intro i hil bb a wq hI hbi hcame
          obtain ⟨rfl, hst⟩ := hI
          rcases i with _ | _ | _ | _ | _ | _ | _ | _ | _ | _ | _ | _ | _ | _ | _ | _ | _ | _ | _ | _ | _ | _ | _ | _ | i
          · refine op_value rfl rfl (x_assign (.inr rfl)) ⟨by simp [Act.put, Act.eval, upd], ?_⟩
            simpa [upd] using hst
          · refine op_value rfl rfl (x_assign (.inr rfl)) ⟨by simp [Act.put, Act.eval, upd], ?_⟩
            simpa [upd] using hst
          · have hh := hcame
            simp [Came, Region.binds] at hh
            refine op_value rfl rfl (x_indexAddr28 (x := .tmp 12) (y := .tmp 13) (ad := ad) (n := l.length) (c := c) (i := (m : Int)) rfl (by simp [Act.eval, hh]) (by simp [Act.eval, hh]) (by omega) (by omega)) ⟨by simp [Act.put, Act.eval, upd, hh], ?_⟩
            simpa [upd] using hst
          · have hh := hcame
            simp [Came, Region.binds] at hh
            refine op_value rfl rfl (Ops.ld3 (x := .tmp 14) (ad := ad.add m) (v := x) rfl (by simp [Act.eval, hh]) (by rw [← HXX.out]; exact HGET.out _ hst)) ⟨by simp [Act.put, Act.eval, upd, hh], ?_⟩
            simpa [upd] using hst
          · refine op_value rfl rfl (x_assign (.inr rfl)) ⟨by simp [Act.put, Act.eval, upd], ?_⟩
            simpa [upd] using hst
          · have hh := hcame
            simp [Came, Region.binds] at hh
            refine op_value rfl rfl (x_sub3 (x := .tmp 16) (y := .const (.int .i64 1)) (i := n) (j := 1) rfl (by simp [Act.eval, hh]) rfl (by omega) (by omega)) ⟨by simp [Act.put, Act.eval, upd, hh], ?_⟩
            simpa [upd] using hst
          · have hh := hcame
            simp [Came, Region.binds] at hh
            refine op_call rfl rfl (run_call Tryd.func24 (by kernel_rfl) rfl rfl rfl (args := #[.int .i64 x, .int .i64 0, .int .i64 (n - 1)]) (by simp [Act.eval, hh])) (((show Calls Tryd.prog 24 #[.int .i64 x, .int .i64 0, .int .i64 (n - 1)] wq fun e w' => e = .returned (.bool true) ∧ Below wq.heap.size wq w' by rw [← HF.out]; exact fits_calls x 0 (n - 1) wq)).mono ?_)
            rintro e w5 ⟨rfl, hb5⟩
            refine ⟨_, rfl, by simp [Act.put, upd, hh], ?_⟩
            simpa [upd] using below_step hst hb5
          · have hh := hcame
            simp [Came, Region.binds] at hh
            refine op_value rfl rfl (x_not (x := .tmp 18) (b := true) rfl (by simp [Act.eval, hh])) ⟨by simp [Act.put, Act.eval, upd, hh], ?_⟩
            simpa [upd] using hst
          · have hh := hcame
            simp [Came, Region.binds] at hh
            refine op_value rfl rfl (x_assign (.inr rfl)) ⟨by simp [Act.put, Act.eval, upd, hh], ?_⟩
            simpa [upd] using hst
          · have hh := hcame
            simp [Came, Region.binds] at hh
            refine op_value rfl (wanted_of (j := 8) rfl rfl rfl (by simp [hh])) (x_assign (.inr rfl)) ⟨by simp [Act.put, Act.eval, upd, hh], ?_⟩
            simpa [upd] using hst
          · have hh := hcame
            simp [Came, Region.binds] at hh
            refine op_value rfl (wanted_of (j := 8) rfl rfl rfl (by simp [hh])) (Ops.gt3v (x := .tmp 21) (y := .const (.int .i64 0)) (i := (m : Int)) (j := 0) (v := false) rfl (by simp [Act.eval, hh]) rfl hgt) ⟨by simp [Act.put, Act.eval, upd, hh], ?_⟩
            simpa [upd] using hst
          · have hh := hcame
            simp [Came, Region.binds] at hh
            refine op_value rfl (wanted_of (j := 8) rfl rfl rfl (by simp [hh])) (x_assign (.inr rfl)) ⟨by simp [Act.put, Act.eval, upd, hh], ?_⟩
            simpa [upd] using hst
          · have hh := hcame
            simp [Came, Region.binds] at hh
            refine op_pass rfl (Ops.unwanted_of (j := 11) (is := false) rfl rfl rfl (by simp [hh]) (by decide)) ⟨by simp [Act.put, Act.eval, upd, hh], ?_⟩
            simpa [upd] using hst
          · have hh := hcame
            simp [Came, Region.binds] at hh
            refine op_pass rfl (Ops.unwanted_of (j := 11) (is := false) rfl rfl rfl (by simp [hh]) (by decide)) ⟨by simp [Act.put, Act.eval, upd, hh], ?_⟩
            simpa [upd] using hst
          · have hh := hcame
            simp [Came, Region.binds] at hh
            refine op_pass rfl (Ops.unwanted_of (j := 11) (is := false) rfl rfl rfl (by simp [hh]) (by decide)) ⟨by simp [Act.put, Act.eval, upd, hh], ?_⟩
            simpa [upd] using hst
          · have hh := hcame
            simp [Came, Region.binds] at hh
            refine op_pass rfl (Ops.unwanted_of (j := 11) (is := false) rfl rfl rfl (by simp [hh]) (by decide)) ⟨by simp [Act.put, Act.eval, upd, hh], ?_⟩
            simpa [upd] using hst
          · have hh := hcame
            simp [Came, Region.binds] at hh
            refine op_pass rfl (Ops.unwanted_of (j := 11) (is := false) rfl rfl rfl (by simp [hh]) (by decide)) ⟨by simp [Act.put, Act.eval, upd, hh], ?_⟩
            simpa [upd] using hst
          · have hh := hcame
            simp [Came, Region.binds] at hh
            refine op_pass rfl (Ops.unwanted_of (j := 11) (is := false) rfl rfl rfl (by simp [hh]) (by decide)) ⟨by simp [Act.put, Act.eval, upd, hh], ?_⟩
            simpa [upd] using hst
          · have hh := hcame
            simp [Came, Region.binds] at hh
            refine op_pass rfl (Ops.unwanted_of (j := 11) (is := false) rfl rfl rfl (by simp [hh]) (by decide)) ⟨by simp [Act.put, Act.eval, upd, hh], ?_⟩
            simpa [upd] using hst
          · have hh := hcame
            simp [Came, Region.binds] at hh
            refine op_pass rfl (Ops.unwanted_of (j := 11) (is := false) rfl rfl rfl (by simp [hh]) (by decide)) ⟨by simp [Act.put, Act.eval, upd, hh], ?_⟩
            simpa [upd] using hst
          · have hh := hcame
            simp [Came, Region.binds] at hh
            refine op_pass rfl (Ops.unwanted_of (j := 11) (is := false) rfl rfl rfl (by simp [hh]) (by decide)) ⟨by simp [Act.put, Act.eval, upd, hh], ?_⟩
            simpa [upd] using hst
          · have hh := hcame
            simp [Came, Region.binds] at hh
            refine op_pass rfl (Ops.unwanted_of (j := 11) (is := false) rfl rfl rfl (by simp [hh]) (by decide)) ⟨by simp [Act.put, Act.eval, upd, hh], ?_⟩
            simpa [upd] using hst
          · have hh := hcame
            simp [Came, Region.binds] at hh
            refine op_value rfl (wanted_of (j := 8) rfl rfl rfl (by simp [hh])) (x_pickF (c := .tmp 23) (y := .const (.bool false)) (v := .bool false) rfl (by simp [Act.eval, hh]) rfl) ⟨by simp [Act.put, Act.eval, upd, hh], ?_⟩
            simpa [upd] using hst
          · have hh := hcame
            simp [Came, Region.binds] at hh
            refine op_value rfl rfl (x_pickF (c := .tmp 20) (y := .tmp 34) (v := .bool false) rfl (by simp [Act.eval, hh]) (by simp [Act.eval, hh])) ⟨by simp [Act.put, Act.eval, upd, hh], ?_⟩
            simpa [upd] using hst
          · simp at hil; omega
        · intro bb a wf hI hall
          obtain ⟨rfl, hst⟩ := hI
          refine hK _ _ ?_
          simp only [hall 0 (by simp), hall 1 (by simp), hall 2 (by simp), hall 3 (by simp), hall 4 (by simp), hall 5 (by simp), hall 6 (by simp), hall 7 (by simp), hall 8 (by simp), hall 9 (by simp), hall 10 (by simp), hall 11 (by simp), hall 12 (by simp), hall 13 (by simp), hall 14 (by simp), hall 15 (by simp), hall 16 (by simp), hall 17 (by simp), hall 18 (by simp), hall 19 (by simp), hall 20 (by simp), hall 21 (by simp), hall 22 (by simp), hall 23 (by simp), if_true]
          have HX2 := Lib.hid hst
          clear hall hK hst
          go_wp2
          go_roundw
          case rel => exact ⟨m + 1, by omega, by first | (simp; done) | (simp; omega), ⟨HX2.out⟩⟩
          case measure => first | (simp [intOf]; omega) | (simp [intOf, hm0]; omega)
      · have hgt : decide (0 < (m : Int)) = true := decide_eq_true (by omega)
        obtain ⟨y, hy⟩ : ∃ y, rd l ((m : Int) - 1) = y := ⟨_, rfl⟩
        have HYY := Lib.hid hy
        have HLE := Lib.hid (show decide (x ≤ y) = false by rw [decide_eq_false_iff_not]; have := HII.out m (by omega) hlt; rw [HXX.out, hy] at this; omega)
        obtain ⟨ad2, had2, hget2⟩ := get28 HR.out (show m - 1 < l.length by omega)
        obtain rfl : ad = ad2 := Option.some.inj had2
        have HGET2 := Lib.hid (show ∀ w', Below w.heap.size w w' → w'.cell? (ad.add (m - 1)) = some (.int .i64 y) by rw [← hy, show ((m : Int) - 1) = ((m - 1 : Nat) : Int) by omega]; exact hget2)
        clear hy had2 hget2
        go_upto_region 4 with (first | fail)
        rename_i K hK
        refine draw_inv2 mixed (by kernel_rfl) (fun bb a wq => a = ⟨#[.slice (some ad) l.length c, .int .i64 n, undef, undef, u4, .int .i64 ↑m, .int .i64 ↑m, .slice (some ad) l.length c, .int .i64 ↑l.length, .bool true, u10, u11, (if bb 0 then .slice (some ad) l.length c else u12), (if bb 1 then .int .i64 ↑m else u13), (if bb 2 then .pointer (some (ad.add m)) else u14), (if bb 3 then .int .i64 x else u15), (if bb 4 then .int .i64 n else u16), (if bb 5 then .int .i64 (n - 1) else u17), (if bb 6 then .bool true else u18), (if bb 7 then .bool false else u19), (if bb 8 then .bool false else u20), (if bb 9 then .int .i64 ↑m else u21), (if bb 10 then .bool true else u22), (if bb 11 then .bool true else u23), (if bb 12 then .slice (some ad) l.length c else u24), (if bb 13 then .int .i64 ↑m else u25), (if bb 14 then .pointer (some (ad.add m)) else u26), (if bb 15 then .int .i64 x else u27), (if bb 16 then .slice (some ad) l.length c else u28), (if bb 17 then .int .i64 ↑m else u29), (if bb 18 then .int .i64 (m - 1) else u30), (if bb 19 then .pointer (some (ad.add (m - 1))) else u31), (if bb 20 then .int .i64 y else u32), (if bb 21 then .bool false else u33), (if bb 22 then .bool false else u34), (if bb 23 then .bool false else u35)], []⟩ ∧ Below w.heap.size w wq) ?_ ?_ ?_
        · exact ⟨by simp, by simpa using HX.out.drew⟩
        · intro i hil bb a wq hI hbi hcame
          obtain ⟨rfl, hst⟩ := hI
          rcases i with _ | _ | _ | _ | _ | _ | _ | _ | _ | _ | _ | _ | _ | _ | _ | _ | _ | _ | _ | _ | _ | _ | _ | _ | i
          · refine op_value rfl rfl (x_assign (.inr rfl)) ⟨by simp [Act.put, Act.eval, upd], ?_⟩
            simpa [upd] using hst
          · refine op_value rfl rfl (x_assign (.inr rfl)) ⟨by simp [Act.put, Act.eval, upd], ?_⟩
            simpa [upd] using hst
          · have hh := hcame
            simp [Came, Region.binds] at hh
            refine op_value rfl rfl (x_indexAddr28 (x := .tmp 12) (y := .tmp 13) (ad := ad) (n := l.length) (c := c) (i := (m : Int)) rfl (by simp [Act.eval, hh]) (by simp [Act.eval, hh]) (by omega) (by omega)) ⟨by simp [Act.put, Act.eval, upd, hh], ?_⟩
            simpa [upd] using hst
          · have hh := hcame
            simp [Came, Region.binds] at hh
            refine op_value rfl rfl (Ops.ld3 (x := .tmp 14) (ad := ad.add m) (v := x) rfl (by simp [Act.eval, hh]) (by rw [← HXX.out]; exact HGET.out _ hst)) ⟨by simp [Act.put, Act.eval, upd, hh], ?_⟩
            simpa [upd] using hst
          · refine op_value rfl rfl (x_assign (.inr rfl)) ⟨by simp [Act.put, Act.eval, upd], ?_⟩
            simpa [upd] using hst
          · have hh := hcame
            simp [Came, Region.binds] at hh
            refine op_value rfl rfl (x_sub3 (x := .tmp 16) (y := .const (.int .i64 1)) (i := n) (j := 1) rfl (by simp [Act.eval, hh]) rfl (by omega) (by omega)) ⟨by simp [Act.put, Act.eval, upd, hh], ?_⟩
            simpa [upd] using hst
          · have hh := hcame
            simp [Came, Region.binds] at hh
            refine op_call rfl rfl (run_call Tryd.func24 (by kernel_rfl) rfl rfl rfl (args := #[.int .i64 x, .int .i64 0, .int .i64 (n - 1)]) (by simp [Act.eval, hh])) (((show Calls Tryd.prog 24 #[.int .i64 x, .int .i64 0, .int .i64 (n - 1)] wq fun e w' => e = .returned (.bool true) ∧ Below wq.heap.size wq w' by rw [← HF.out]; exact fits_calls x 0 (n - 1) wq)).mono ?_)
            rintro e w5 ⟨rfl, hb5⟩
            refine ⟨_, rfl, by simp [Act.put, upd, hh], ?_⟩
            simpa [upd] using below_step hst hb5
          · have hh := hcame
            simp [Came, Region.binds] at hh
            refine op_value rfl rfl (x_not (x := .tmp 18) (b := true) rfl (by simp [Act.eval, hh])) ⟨by simp [Act.put, Act.eval, upd, hh], ?_⟩
            simpa [upd] using hst
          · have hh := hcame
            simp [Came, Region.binds] at hh
            refine op_value rfl rfl (x_assign (.inr rfl)) ⟨by simp [Act.put, Act.eval, upd, hh], ?_⟩
            simpa [upd] using hst
          · have hh := hcame
            simp [Came, Region.binds] at hh
            refine op_value rfl (wanted_of (j := 8) rfl rfl rfl (by simp [hh])) (x_assign (.inr rfl)) ⟨by simp [Act.put, Act.eval, upd, hh], ?_⟩
            simpa [upd] using hst
          · have hh := hcame
            simp [Came, Region.binds] at hh
            refine op_value rfl (wanted_of (j := 8) rfl rfl rfl (by simp [hh])) (Ops.gt3v (x := .tmp 21) (y := .const (.int .i64 0)) (i := (m : Int)) (j := 0) (v := true) rfl (by simp [Act.eval, hh]) rfl hgt) ⟨by simp [Act.put, Act.eval, upd, hh], ?_⟩
            simpa [upd] using hst
          · have hh := hcame
            simp [Came, Region.binds] at hh
            refine op_value rfl (wanted_of (j := 8) rfl rfl rfl (by simp [hh])) (x_assign (.inr rfl)) ⟨by simp [Act.put, Act.eval, upd, hh], ?_⟩
            simpa [upd] using hst
          · have hh := hcame
            simp [Came, Region.binds] at hh
            refine op_value rfl (wanted_of (j := 11) rfl rfl rfl (by simp [hh])) (x_assign (.inr rfl)) ⟨by simp [Act.put, Act.eval, upd, hh], ?_⟩
            simpa [upd] using hst
          · have hh := hcame
            simp [Came, Region.binds] at hh
            refine op_value rfl (wanted_of (j := 11) rfl rfl rfl (by simp [hh])) (x_assign (.inr rfl)) ⟨by simp [Act.put, Act.eval, upd, hh], ?_⟩
            simpa [upd] using hst
          · have hh := hcame
            simp [Came, Region.binds] at hh
            refine op_value rfl (wanted_of (j := 11) rfl rfl rfl (by simp [hh])) (x_indexAddr28 (x := .tmp 24) (y := .tmp 25) (ad := ad) (n := l.length) (c := c) (i := (m : Int)) rfl (by simp [Act.eval, hh]) (by simp [Act.eval, hh]) (by omega) (by omega)) ⟨by simp [Act.put, Act.eval, upd, hh], ?_⟩
            simpa [upd] using hst
          · have hh := hcame
            simp [Came, Region.binds] at hh
            refine op_value rfl (wanted_of (j := 11) rfl rfl rfl (by simp [hh])) (Ops.ld3 (x := .tmp 26) (ad := ad.add m) (v := x) rfl (by simp [Act.eval, hh]) (by rw [← HXX.out]; exact HGET.out _ hst)) ⟨by simp [Act.put, Act.eval, upd, hh], ?_⟩
            simpa [upd] using hst
          · have hh := hcame
            simp [Came, Region.binds] at hh
            refine op_value rfl (wanted_of (j := 11) rfl rfl rfl (by simp [hh])) (x_assign (.inr rfl)) ⟨by simp [Act.put, Act.eval, upd, hh], ?_⟩
            simpa [upd] using hst
          · have hh := hcame
            simp [Came, Region.binds] at hh
            refine op_value rfl (wanted_of (j := 11) rfl rfl rfl (by simp [hh])) (x_assign (.inr rfl)) ⟨by simp [Act.put, Act.eval, upd, hh], ?_⟩
            simpa [upd] using hst
          · have hh := hcame
            simp [Came, Region.binds] at hh
            refine op_value rfl (wanted_of (j := 11) rfl rfl rfl (by simp [hh])) (x_sub3 (x := .tmp 29) (y := .const (.int .i64 1)) (i := (m : Int)) (j := 1) rfl (by simp [Act.eval, hh]) rfl (by omega) (by omega)) ⟨by simp [Act.put, Act.eval, upd, hh], ?_⟩
            simpa [upd] using hst
          · have hh := hcame
            simp [Came, Region.binds] at hh
            refine op_value rfl (wanted_of (j := 11) rfl rfl rfl (by simp [hh])) (show (execOp _ _).run Tryd.prog _ = .ok (.value (.pointer (some (ad.add (m - 1))))) _ by rw [show m - 1 = ((m : Int) - 1).toNat by omega]; exact x_indexAddr28 (x := .tmp 28) (y := .tmp 30) (ad := ad) (n := l.length) (c := c) (i := (m : Int) - 1) rfl (by simp [Act.eval, hh]) (by simp [Act.eval, hh]) (by omega) (by omega)) ⟨by simp [Act.put, Act.eval, upd, hh], ?_⟩
            simpa [upd] using hst
          · have hh := hcame
            simp [Came, Region.binds] at hh
            refine op_value rfl (wanted_of (j := 11) rfl rfl rfl (by simp [hh])) (Ops.ld3 (x := .tmp 31) (ad := ad.add (m - 1)) (v := y) rfl (by simp [Act.eval, hh]) (HGET2.out _ hst)) ⟨by simp [Act.put, Act.eval, upd, hh], ?_⟩
            simpa [upd] using hst
          · have hh := hcame
            simp [Came, Region.binds] at hh
            refine op_value rfl (wanted_of (j := 11) rfl rfl rfl (by simp [hh])) (Ops.le3v (x := .tmp 27) (y := .tmp 32) (i := x) (j := y) (v := false) rfl (by simp [Act.eval, hh]) (by simp [Act.eval, hh]) HLE.out) ⟨by simp [Act.put, Act.eval, upd, hh], ?_⟩
            simpa [upd] using hst
          · have hh := hcame
            simp [Came, Region.binds] at hh
            refine op_value rfl (wanted_of (j := 8) rfl rfl rfl (by simp [hh])) (x_pickT (c := .tmp 23) (x := .tmp 33) (v := .bool false) rfl (by simp [Act.eval, hh]) (by simp [Act.eval, hh])) ⟨by simp [Act.put, Act.eval, upd, hh], ?_⟩
            simpa [upd] using hst
          · have hh := hcame
            simp [Came, Region.binds] at hh
            refine op_value rfl rfl (x_pickF (c := .tmp 20) (y := .tmp 34) (v := .bool false) rfl (by simp [Act.eval, hh]) (by simp [Act.eval, hh])) ⟨by simp [Act.put, Act.eval, upd, hh], ?_⟩
            simpa [upd] using hst
          · simp at hil; omega
        · intro bb a wf hI hall
          obtain ⟨rfl, hst⟩ := hI
          refine hK _ _ ?_
          simp only [hall 0 (by simp), hall 1 (by simp), hall 2 (by simp), hall 3 (by simp), hall 4 (by simp), hall 5 (by simp), hall 6 (by simp), hall 7 (by simp), hall 8 (by simp), hall 9 (by simp), hall 10 (by simp), hall 11 (by simp), hall 12 (by simp), hall 13 (by simp), hall 14 (by simp), hall 15 (by simp), hall 16 (by simp), hall 17 (by simp), hall 18 (by simp), hall 19 (by simp), hall 20 (by simp), hall 21 (by simp), hall 22 (by simp), hall 23 (by simp), if_true]
          have HX2 := Lib.hid hst
          clear hall hK hst
          go_wp2
          go_roundw
          case rel => exact ⟨m + 1, by omega, by first | (simp; done) | (simp; omega), ⟨HX2.out⟩⟩
          case measure => first | (simp [intOf]; omega) | (simp [intOf, hm0]; omega)
    · obtain rfl : m = l.length := by omega
      go_wp2
      go_ret
      exact ⟨rfl, HX.out⟩
end Go.Proofs.YtghpoldlddghjaaDoor
namespace Go.Proofs.YtghpoldlddghjaaDoor
open Go Go.RowKit
open Go.Proofs.YtghpoldlddghjaaDoorW.PrintWords Go.Proofs.YtghpoldlddghjaaDoorW.PrintMore Go.Proofs.YtghpoldlddghjaaDoor.PPasteTrue
theorem erase_sum (f : S77 → Int) : ∀ (l : List S77) (k : Nat), (∀ p ∈ l, 0 ≤ f p) → ((l.eraseIdx k).map f).sum ≤ (l.map f).sum
  | [], k, _ => by simp
  | x :: l, 0, h => by
    have := h x (by simp)
    simp only [List.eraseIdx_cons_zero, List.map_cons, List.sum_cons]
    omega
  | x :: l, k + 1, h => by
    have := erase_sum f l k (fun p hp => h p (by simp [hp]))
    simp only [List.eraseIdx_cons_succ, List.map_cons, List.sum_cons]
    omega
theorem power_unpair {b : Bk} (hs : SP b) (k : Nat) (xs : List Int) : powerI (unpair b k) xs ≤ powerI b xs := by
  have h := erase_sum (pairVal xs) b.pairs k (fun p hp => (pairVal_range hs xs hp).1)
  show ((List.range xs.length).map (saltVal b xs)).sum + ((b.pairs.eraseIdx k).map (pairVal xs)).sum ≤ _
  unfold powerI
  omega
theorem lights_unpair {b : Bk} (hg : Good b) (i k : Nat) : lightsL (unpair b i) k ≤ lightsL b.bare k := by
  have hx : Spans b := hg.sr
  have t0 : ∀ p, p ∈ trs b.bare ↔ p ∈ pws b := fun p => trs_none (b := b.bare) rfl hx p
  have t1 : ∀ p, p ∈ trs (unpair b i) ↔ p ∈ pws (unpair b i) := fun p => trs_none (b := unpair b i) rfl hx p
  have r0 : ∀ p, rubs b.bare k p = ((rd_T47 b.surfs k).f0.f0, (rd_T47 b.surfs k).f0.f1) := fun p => rubs_none (b := b.bare) rfl k p
  have r1 : ∀ p, rubs (unpair b i) k p = ((rd_T47 b.surfs k).f0.f0, (rd_T47 b.surfs k).f0.f1) := fun p => rubs_none (b := unpair b i) rfl k p
  have m : mayL (unpair b i) k = true → mayL b.bare k = true := by
    unfold mayL
    rw [List.any_eq_true, List.any_eq_true]
    rintro ⟨p, hp, h⟩
    obtain ⟨xs, hf, rfl⟩ := mem_pws.1 ((t1 p).1 hp)
    refine ⟨powerI b xs, (t0 _).2 (mem_pws.2 ⟨xs, hf, rfl⟩), ?_⟩
    simp only [decide_eq_true_eq] at h ⊢
    unfold highI at h ⊢
    rw [r1] at h
    rw [r0]
    have h' : b.need ≤ powerI (unpair b i) xs + (rd_T47 b.surfs k).f0.f1 - (rd_T47 b.surfs k).f1.f0 := h
    show b.need ≤ powerI b xs + (rd_T47 b.surfs k).f0.f1 - (rd_T47 b.surfs k).f1.f0
    have := power_unpair hg.sp i xs
    omega
  have s : sureL (unpair b i) k = true → sureL b.bare k = true := by
    unfold sureL
    rw [List.all_eq_true, List.all_eq_true]
    intro h p hp
    obtain ⟨xs, hf, rfl⟩ := mem_pws.1 ((t0 p).1 hp)
    have h1 := h (powerI (unpair b i) xs) ((t1 _).2 (mem_pws.2 ⟨xs, hf, rfl⟩))
    simp only [decide_eq_true_eq] at h1 ⊢
    unfold lowI at h1 ⊢
    rw [r1] at h1
    rw [r0]
    have h' : b.need ≤ powerI (unpair b i) xs + (rd_T47 b.surfs k).f0.f0 - (rd_T47 b.surfs k).f1.f1 := h1
    show b.need ≤ powerI b xs + (rd_T47 b.surfs k).f0.f0 - (rd_T47 b.surfs k).f1.f1
    have := power_unpair hg.sp i xs
    omega
  unfold lightsL
  cases h1 : mayL (unpair b i) k <;> cases h2 : sureL (unpair b i) k <;> cases h3 : mayL b.bare k <;> cases h4 : sureL b.bare k <;> simp_all
theorem pair_list {b : Bk} (h : ∀ i, i < b.pairs.length → pairB b i = true) : (∀ p ∈ b.pairs, (inB p.f0 0 (wrap64 (p.f1 - 1)) && (decide (p.f1 < b.salts.length) && inB p.f2 1 30)) = true) ∧ b.pairs.Pairwise (fun q p => (!(p.f0 == q.f0) || !(p.f1 == q.f1)) = true) := by
  have hpi : ∀ i (hi : i < b.pairs.length), rd_T77 b.pairs i = b.pairs[i] := fun i hi => by
    unfold rd_T77
    rw [List.getD_eq_getElem?_getD, Int.toNat_natCast, List.getElem?_eq_getElem hi]
    rfl
  refine ⟨fun p hm => ?_, ?_⟩
  · obtain ⟨i, hi, rfl⟩ := List.mem_iff_getElem.1 hm
    have h1 := h i hi
    unfold pairB at h1
    rw [hpi i hi, Bool.and_eq_true] at h1
    exact h1.1
  · rw [List.pairwise_iff_getElem]
    intro i j hi hj hij
    have h1 := h j hj
    unfold pairB at h1
    rw [hpi j hj, Bool.and_eq_true] at h1
    exact List.all_eq_true.1 h1.2 (b.pairs[i]) (by
      rw [List.mem_iff_getElem]
      exact ⟨i, by simp; omega, by simp⟩)
theorem pair_back {b : Bk} (h1 : ∀ p ∈ b.pairs, (inB p.f0 0 (wrap64 (p.f1 - 1)) && (decide (p.f1 < b.salts.length) && inB p.f2 1 30)) = true) (h2 : b.pairs.Pairwise (fun q p => (!(p.f0 == q.f0) || !(p.f1 == q.f1)) = true)) : ∀ i, i < b.pairs.length → pairB b i = true := by
  intro i hi
  have hpi : rd_T77 b.pairs i = b.pairs[i] := by
    unfold rd_T77
    rw [List.getD_eq_getElem?_getD, Int.toNat_natCast, List.getElem?_eq_getElem hi]
    rfl
  unfold pairB
  rw [hpi, Bool.and_eq_true]
  refine ⟨h1 _ (List.getElem_mem _), ?_⟩
  rw [List.all_eq_true]
  intro y hy
  obtain ⟨j, hj, rfl⟩ := List.mem_iff_getElem.1 hy
  have hji : j < i := by simp at hj; omega
  have := (List.pairwise_iff_getElem.1 h2) j i (by omega) hi hji
  simpa using this
theorem check_unpair {b : Bk} (hc : checkB b = true) (k : Nat) : checkB (unpair b k) = true := by
  have hb := check_bare hc
  unfold checkB headB at hb ⊢
  simp only [Bool.and_eq_true, decide_eq_true_eq, List.all_eq_true, List.mem_range] at hb ⊢
  obtain ⟨⟨⟨⟨⟨a1, a2, a3, a4, a5⟩, hs⟩, hp⟩, hx⟩, ht⟩ := hb
  obtain ⟨p1, p2⟩ := pair_list (b := b.bare) hp
  have hle : (b.pairs.eraseIdx k).length ≤ b.pairs.length := List.length_eraseIdx_le _ _
  refine ⟨⟨⟨⟨⟨a1, ?_, a3, a4, a5⟩, hs⟩, ?_⟩, hx⟩, ht⟩
  · show ((b.pairs.eraseIdx k).length : Int) ≤ 4
    have : (b.pairs.length : Int) ≤ 4 := a2
    omega
  · exact pair_back (b := unpair b k) (fun p hm => p1 p (List.mem_of_mem_eraseIdx hm)) (List.Pairwise.sublist (List.eraseIdx_sublist _ _) p2)
theorem check_less {b : Bk} (hc : checkB b = true) {k m : Nat} (hk : k < b.salts.length) (hm : (m : Int) ≤ (rd_T68 b.salts k).f1.f1 - (rd_T68 b.salts k).f1.f0) : checkB (less b k m) = true := by
  have hb := check_bare hc
  unfold checkB headB at hb ⊢
  simp only [Bool.and_eq_true, decide_eq_true_eq, List.all_eq_true, List.mem_range] at hb ⊢
  obtain ⟨⟨⟨⟨⟨a1, a2, a3, a4, a5⟩, hs⟩, hp⟩, hx⟩, ht⟩ := hb
  have hl : (less b k m).salts.length = b.salts.length := by simp [less]
  refine ⟨⟨⟨⟨⟨by rw [hl]; exact a1, a2, a3, a4, a5⟩, ?_⟩, ?_⟩, hx⟩, ht⟩
  · intro x hm'
    have hm2 : x ∈ b.salts.set k (lessS (rd_T68 b.salts k) m) := hm'
    rcases List.mem_or_eq_of_mem_set hm2 with h1 | h1
    · exact hs x h1
    · subst h1
      have h2 := hs _ (rd68_mem (xs := b.salts) hk)
      unfold saltB at h2 ⊢
      simp only [Bool.and_eq_true, decide_eq_true_eq, inB_iff, spanB_iff] at h2 ⊢
      obtain ⟨h3, ⟨h4, h5, h6⟩, h7⟩ := h2
      have e1 : wrap64 ((rd_T68 b.salts k).f1.f1 - (rd_T68 b.salts k).f1.f0) = (rd_T68 b.salts k).f1.f1 - (rd_T68 b.salts k).f1.f0 := wrap_id rfl (by omega) (by omega)
      rw [e1] at h7
      have e2 : wrap64 ((rd_T68 b.salts k).f1.f1 - m - (rd_T68 b.salts k).f1.f0) = (rd_T68 b.salts k).f1.f1 - m - (rd_T68 b.salts k).f1.f0 := by clear e1; exact wrap_id rfl (by omega) (by omega)
      refine ⟨h3, ⟨h4, ?_, ?_⟩, ?_⟩
      · show (rd_T68 b.salts k).f1.f0 ≤ (rd_T68 b.salts k).f1.f1 - m
        clear e1 e2
        omega
      · show (rd_T68 b.salts k).f1.f1 - m ≤ 9
        clear e1 e2
        omega
      · show wrap64 ((rd_T68 b.salts k).f1.f1 - m - (rd_T68 b.salts k).f1.f0) ≤ 3
        rw [e2]
        clear e1 e2
        omega
  · intro i hi
    have h1 := hp i hi
    unfold pairB at h1 ⊢
    rw [hl]
    exact h1
theorem ask_good {b : Bk} (hc : checkB b = true) (hg : Good b) (h : b.trials = []) : askE b true = 0 := ask_none hc hg.sp h hg.sr
def placesL (f : Nat → Bool) (n : Nat) : List Int := ((List.range n).filter f).map fun (i : Nat) => (i : Int)
theorem places_sorted (f : Nat → Bool) (n : Nat) : ((List.range n).filter f).Pairwise (· < ·) := List.Pairwise.sublist List.filter_sublist List.pairwise_lt_range
theorem rd_places (f : Nat → Bool) (n i : Nat) (h : i < ((List.range n).filter f).length) : rd (placesL f n) (i : Int) = ((((List.range n).filter f)[i] : Nat) : Int) := by
  unfold rd placesL
  rw [List.getD_eq_getElem?_getD, Int.toNat_natCast, List.getElem?_eq_getElem (by simpa using h)]
  simp
theorem places_in (f : Nat → Bool) (n i : Nat) (h : i < (placesL f n).length) : inB (rd (placesL f n) (i : Int)) 0 ((n : Int) - 1) = true := by
  have h' : i < ((List.range n).filter f).length := by simpa [placesL] using h
  rw [rd_places f n i h', inB_iff]
  have := (List.mem_filter.1 (List.getElem_mem h')).1
  rw [List.mem_range] at this
  omega
theorem places_up (f : Nat → Bool) (n i : Nat) (h0 : 0 < i) (h : i < (placesL f n).length) : rd (placesL f n) ((i : Int) - 1) < rd (placesL f n) (i : Int) := by
  have h' : i < ((List.range n).filter f).length := by simpa [placesL] using h
  rw [show ((i : Int) - 1) = ((i - 1 : Nat) : Int) by omega, rd_places f n i h', rd_places f n (i - 1) (by omega)]
  have := (List.pairwise_iff_getElem.1 (places_sorted f n)) (i - 1) i (by omega) h' (by omega)
  omega
theorem places_len (f : Nat → Bool) (n : Nat) : (placesL f n).length ≤ n := by
  unfold placesL
  rw [List.length_map]
  have := List.length_filter_le f (List.range n)
  simpa using this
theorem index_l0 (l : List Int) (x : Int) (hl : l.length ≤ 1000) : ∀ (d m k : Nat), l.length = m + d → d < k → (∀ j : Nat, j < m → rd l (j : Int) ≠ x) → ∃ r, luciferref00_Index.l0 k l x m = some r ∧ (0 ≤ r ↔ x ∈ l) := by
  intro d
  induction d with
  | zero =>
    intro m k hm hk hno
    obtain ⟨k, rfl⟩ : ∃ q, k = q + 1 := ⟨k - 1, by omega⟩
    obtain rfl : m = l.length := by omega
    simp only [luciferref00_Index.l0]
    rw [if_neg (Int.lt_irrefl _)]
    refine ⟨-1, rfl, ?_⟩
    constructor
    · intro h; exact absurd h (by decide)
    · intro h
      exfalso
      obtain ⟨j, hj, rfl⟩ := List.mem_iff_getElem.1 h
      refine hno j hj ?_
      unfold rd
      rw [List.getD_eq_getElem?_getD, Int.toNat_natCast, List.getElem?_eq_getElem hj]
      rfl
  | succ d ih =>
    intro m k hm hk hno
    obtain ⟨k, rfl⟩ : ∃ q, k = q + 1 := ⟨k - 1, by omega⟩
    have hml : m < l.length := by omega
    have g1 : (m : Int) < (l.length : Int) := Int.ofNat_lt.2 hml
    have g2 : 0 ≤ (m : Int) := Int.natCast_nonneg m
    simp only [luciferref00_Index.l0]
    rw [if_pos g1, if_pos g2]
    by_cases e : rd l (m : Int) = x
    · rw [if_pos e]
      refine ⟨m, rfl, fun _ => ?_, fun _ => g2⟩
      rw [← e]
      unfold rd
      rw [List.getD_eq_getElem?_getD, Int.toNat_natCast, List.getElem?_eq_getElem hml]
      exact List.getElem_mem _
    · rw [if_neg e, show wrap64 ((m : Int) + 1) = ((m + 1 : Nat) : Int) from wrap_id rfl (by omega) (by omega)]
      refine ih (m + 1) k (by omega) (by omega) (fun j hj => ?_)
      rcases Nat.lt_or_eq_of_le (Nat.le_of_lt_succ hj) with h | rfl
      · exact hno j h
      · exact e
theorem index_calls {A : Option Addr} {c : Nat} {l : List Int} {w : World} (hr : Kd.C (Kd.int .i64) w A l.length l) (hc : l.length ≤ c) (hl : l.length ≤ 1000) (x : Int) {q : Bool} (hq : q = true ↔ x ∈ l) :
    Calls Tryd.prog 36 #[.slice A l.length c, .int .i64 x] w fun e w' => (∃ r, e = .returned (.int .i64 r) ∧ decide (0 ≤ r) = q) ∧ Below w.heap.size w w' := by
  obtain ⟨r, h1, h2⟩ := index_l0 l x hl l.length 0 (l.length + 1) (by omega) (by omega) (fun j hj => by omega)
  refine (luciferref00_Index.calls (l.length + 1) A c l x r w hr hc h1).mono ?_
  rintro e w' ⟨he, hd⟩
  refine ⟨⟨r, he, ?_⟩, hd.below⟩
  rw [Bool.eq_iff_iff, hq, decide_eq_true_eq]
  exact h2
theorem mem_places (f : Nat → Bool) (n i : Nat) (h : i < n) : ((i : Int) ∈ placesL f n) ↔ f i = true := by
  unfold placesL
  rw [List.mem_map]
  constructor
  · rintro ⟨j, hj, e⟩
    obtain rfl : j = i := by omega
    exact (List.mem_filter.1 hj).2
  · intro h1
    exact ⟨i, List.mem_filter.2 ⟨List.mem_range.2 h, h1⟩, rfl⟩
theorem blame_facts {b : Bk} (hck : checkB b = true) (hg : Good b) {k : Nat} (hk : k < b.surfs.length) :
    eL b.bare k = 0 ∧ (lR b.bare k = 0 → blameE b k = 4 ∧ blameL b k = []) ∧ (lR b.bare k ≠ 0 → blameE b k = 0 ∧ blameL b k = placesL (fun j => decide (lightsL (unpair b j) k = 0)) b.pairs.length) ∧
      (∀ i, eL (unpair b i) k = 0 ∧ lR (unpair b i) k = lightsL (unpair b i) k ∧ lR (unpair b i) k ≤ lR b.bare k) ∧ 0 ≤ lR b.bare k := by
  have a0 := ask_good (check_bare hck) (good_bare hg) rfl
  have f0 : eL b.bare k = 0 := eL_of a0 (surf_in (b := b.bare) hg.u1 hk)
  have l0 : lR b.bare k = lightsL b.bare k := (lR_of f0 (good_bare hg).sp).trans rfl
  have hsf : isSurfB b k = true := surf_in hg.u1 hk
  have hbe := blameE_of hck hg hsf a0
  have hbe' : blameE b k = if lightsL b.bare k = 0 then 4 else 0 := hbe
  refine ⟨f0, fun h => ?_, fun h => ?_, fun i => ?_, ?_⟩
  · rw [l0] at h
    rw [if_pos h] at hbe'
    refine ⟨hbe', ?_⟩
    unfold blameL
    rw [if_neg (by rw [hbe']; decide)]
  · rw [l0] at h
    rw [if_neg h] at hbe'
    exact ⟨hbe', blameL_of hg hbe'⟩
  · have a1 := ask_good (check_unpair hck i) (good_unpair hg i) rfl
    have f1 : eL (unpair b i) k = 0 := eL_of a1 (surf_in (b := unpair b i) hg.u1 hk)
    have l1 : lR (unpair b i) k = lightsL (unpair b i) k := (lR_of f1 (good_unpair hg i).sp).trans rfl
    refine ⟨f1, l1, ?_⟩
    rw [l1, l0]
    exact lights_unpair hg i k
  · rw [l0]
    unfold lightsL
    split
    · split <;> decide
    · decide
def strangeB (b : Bk) : Bool := !othersL b
theorem less_facts {b : Bk} (hck : checkB b = true) (hg : Good b) {k : Nat} (hk : k < b.salts.length) (N : Nat) (hN : (N : Int) = (rd_T68 b.salts k).f1.f1 - (rd_T68 b.salts k).f1.f0) :
    (lessR b k = (0, 4) ∧ strangeB (less b k N) = true) ∨ ∃ m : Nat, lessR b k = ((m : Int), 0) ∧ m ≤ N ∧ strangeB (less b k m) = false ∧ (0 < m → strangeB (less b k (m - 1)) = true) := by
  have hsl : isSaltB b k = true := by
    unfold isSaltB
    rw [inB_iff, show wrap64 ((b.salts.length : Int) - 1) = (b.salts.length : Int) - 1 from wrap_id rfl (by omega) (by have := hg.sp.s1; omega)]
    omega
  have hl := lessR_of hck hg hsl
  have hl' : lessR b k = match (List.range (lessN b k)).find? (fun m => othersL (less b k m)) with | some m => ((m : Int), 0) | none => (0, 4) := hl
  have hn : lessN b k = N + 1 := by unfold lessN; omega
  rw [hn] at hl'
  cases hf : (List.range (N + 1)).find? (fun m => othersL (less b k m)) with
  | none =>
    rw [hf] at hl'
    refine .inl ⟨hl', ?_⟩
    have := List.find?_eq_none.1 hf N (List.mem_range.2 (by omega))
    unfold strangeB
    simpa using this
  | some m =>
    rw [hf] at hl'
    rw [List.find?_range_eq_some] at hf
    refine .inr ⟨m, hl', ?_, ?_, fun h0 => ?_⟩
    · have := List.mem_range.1 hf.2.1
      omega
    · unfold strangeB
      rw [hf.1]
      rfl
    · have := hf.2.2 (m - 1) (by omega)
      unfold strangeB
      simpa using this
end Go.Proofs.YtghpoldlddghjaaDoor
namespace Go.Proofs.YtghpoldlddghjaaDoor
open Go Go.RowKit
open Go.Proofs.YtghpoldlddghjaaDoorW.PrintWords Go.Proofs.YtghpoldlddghjaaDoorW.PrintMore Go.Proofs.YtghpoldlddghjaaDoor.PPasteTrue
def strTo (b : Bk) (m : Nat) : Bool := !((List.range m).all fun k => k == 0 || decide (lightsL b k = 0))
theorem strTo_succ (b : Bk) {m : Nat} (h : 0 < m) : strTo b (m + 1) = (strTo b m || decide (0 < lightsL b m)) := by
  have h0 : ∀ k, 0 ≤ lightsL b k := fun k => by
    unfold lightsL
    split
    · split <;> decide
    · decide
  unfold strTo
  rw [List.range_succ, List.all_append, Bool.not_and]
  congr 1
  have hm : (m == 0) = false := beq_eq_false_iff_ne.2 (by omega)
  simp only [List.all_cons, List.all_nil, Bool.and_true, hm, Bool.false_or]
  have := h0 m
  by_cases e : lightsL b m = 0
  · rw [e]; rfl
  · rw [decide_eq_false e, decide_eq_true (by omega : 0 < lightsL b m)]
    rfl
set_option maxRecDepth 20000 in
set_option maxHeartbeats 1600000 in
theorem strange_calls {h : Hd} {b : Bk} {w : World} (hg : Asks w) (hb : BkIn w h b) (hgd : Good b) (hsa : Sane b) (he : askE b true = 0) :
    Calls Tryd.prog 38 #[.agg (h.cells b)] w fun e w' => e = .returned (.tuple #[.bool (strangeB b), .bool true]) ∧ Below w.heap.size w w' := by
  have HO := Lib.hid (One.start w (h.cells b) 27)
  have HG := Lib.hid hg
  have HGD := Lib.hid hgd
  have HSA := Lib.hid hsa
  have HE := Lib.hid he
  have hu0 := hgd.u0
  have hu1 := hgd.u1
  clear hg hgd hsa he
  go_enter Tryd.func38, Tryd.ntmps38
  go_wp2_with (first | (with_reducible refine b_box (t := 27) rfl rfl rfl ?_))
  go_loopw [4, 5] (fun f i wr => ∃ m : Nat, 1 ≤ m ∧ m ≤ b.surfs.length ∧ i = .int .i64 m ∧ f = .bool (strTo b m) ∧ Aside0 (One w (h.cells b) 27 wr)) (fun f i _ => (b.surfs.length - intOf i).toNat)
  case atStart => exact ⟨1, Nat.le_refl _, by omega, rfl, rfl, ⟨HO.out⟩⟩
  case round =>
    obtain ⟨m, hm1, hm, rfl, rfl, HX⟩ := hrel
    have c2 : wr.cell? ⟨w.heap.size, 2, none⟩ = some (.slice h.A2 b.surfs.length h.c2) := (blk_cell HX.out.b1 2).trans rfl
    have zz := blk_lt HX.out.b1
    by_cases hlt : m < b.surfs.length
    · have hel : eL b m = 0 := eL_of HE.out (surf_in hu1 hlt)
      obtain ⟨nn, hn⟩ : ∃ nn, lR b m = nn := ⟨_, rfl⟩
      have hss : strTo b (m + 1) = (strTo b m || decide (0 < nn)) := by
        rw [strTo_succ b (by omega), ← hn, (lR_of hel HGD.out.sp)]
        rfl
      have HEL := Lib.hid hel
      have HN := Lib.hid hn
      have HSS := Lib.hid hss
      clear hel hn hss
      go_upto_region 8 with (first | ((with_reducible refine gate_dst (N := 16) rfl ?_); refine wpList_load_row rfl 27 _ rfl w.heap.size rfl 27 (h.cells b) (0, 0) _ HX.out.b1 Tryd.underlying27 rfl i27 ?_) | (go_at_call 20; refine (Lights_calls (HG.out.below HX.out.below) (hb.below HX.out.below) HSA.out m).mono ?_; rintro e2 v1 ⟨rfl, hv1⟩; rw [HN.out, HEL.out]; have HX1 := Lib.hid (HX.out.on hv1); clear hv1))
      cases hf : strTo b m with
      | true =>
        have HF := Lib.hid (show strTo b (m + 1) = true by rw [HSS.out, hf]; rfl)
        clear hf
        go_wp2
        go_roundw
        case rel => exact ⟨m + 1, by omega, by omega, by simp, by rw [HF.out], ⟨HX1.out⟩⟩
        case measure => simp [intOf]; omega
      | false =>
        cases hd : decide (0 < nn) with
        | true =>
          have HF := Lib.hid (show strTo b (m + 1) = true by rw [HSS.out, hf, hd]; rfl)
          clear hf
          go_wp2
          go_roundw
          case rel => exact ⟨m + 1, by omega, by omega, by simp, by rw [HF.out], ⟨HX1.out⟩⟩
          case measure => simp [intOf]; omega
        | false =>
          have HF := Lib.hid (show strTo b (m + 1) = false by rw [HSS.out, hf, hd]; rfl)
          clear hf
          go_wp2
          go_roundw
          case rel => exact ⟨m + 1, by omega, by omega, by simp, by rw [HF.out], ⟨HX1.out⟩⟩
          case measure => simp [intOf]; omega
    · obtain rfl : m = b.surfs.length := by omega
      go_wp2
      go_ret2
      exact ⟨rfl, HX.out.below⟩
end Go.Proofs.YtghpoldlddghjaaDoor
namespace Go.Proofs.YtghpoldlddghjaaDoor
open Go Go.RowKit
open Go.Proofs.YtghpoldlddghjaaDoorW.PrintWords Go.Proofs.YtghpoldlddghjaaDoorW.PrintMore Go.Proofs.YtghpoldlddghjaaDoor.PPasteTrue
theorem sliceAt23 (x : Value) (a b c : Option Value) (w : World) : (Instr.sliceAt 23 x a b c).run Tryd.prog w = (Instr.slice 23 x a b c).run Tryd.prog w := by
  unfold Instr.sliceAt
  simp only [Sem.run_bind, run_underlying Tryd.underlying23, Result.andThen_ok]
theorem run_headA (A : Option Addr) (n c k : Nat) (hk : k ≤ n) (hn : n ≤ c) (w : World) : (Instr.sliceAt 23 (.slice A n c) none (some (.int .i64 k)) none).run Tryd.prog w = .ok (.slice A k c) w := by
  obtain ⟨i0, hi, _⟩ := Option.map_eq_some_iff.1 i77s
  rw [sliceAt23]
  have := cut_to 23 77 .i64 (P := Tryd.prog) Tryd.underlying23 hi A n c (k : Int) (by omega) (by omega) hn w
  simpa using this
theorem run_tailA (A : Option Addr) (n c k : Nat) (hk : k ≤ n) (w : World) : (Instr.sliceAt 23 (.slice A n c) (some (.int .i64 k)) none none).run Tryd.prog w = .ok (.slice (if c = k then A else A.map (·.add (k * k77.sz))) (n - k) (c - k)) w := by
  obtain ⟨i0, hi, hs⟩ := Option.map_eq_some_iff.1 i77s
  rw [sliceAt23]
  have := cut_from 23 77 .i64 (P := Tryd.prog) Tryd.underlying23 hi k77.sz hs A n c (k : Int) (by omega) (by omega) w
  simpa using this
theorem R_empty77 {w : World} {g base : Nat} (h : w.heap[g]? = some (.cells #[] 77 (0, 0))) (hb : base ≤ g) : k77.R 77 w base (fun _ => True) (.slice (some ⟨g, 0, none⟩) 0 0) [] :=
  ⟨fun _ _ => trivial, [], ⟨by simp, .inr ⟨g, 0, #[], rfl, hb, h, by simp, by simp [maxLen], by simp, by simp⟩⟩, Reps.none _ _⟩
theorem x_box230 {ρ : Operand → Value} {o : Oper} {w : World} (ho : o.op = .buildSlice 23 0 #[]) : (execOp ρ o).run Tryd.prog w = .ok (.value (.slice (some ⟨w.heap.size, 0, none⟩) 0 0)) (w.alloc (.cells #[] 77)) := by
  unfold execOp
  simp only [ho]
  go_simp
theorem x_store23 {ρ : Operand → Value} {o : Oper} {w : World} {x y : Operand} (ho : o.op = .store 23 x y) {g j : Nat} {A : Option Addr} {n c : Nat} {cs : Array Value} {t : TypeId} (hx : ρ x = .pointer (some ⟨g, j, none⟩)) (hy : ρ y = .slice A n c) (hb : w.heap[g]? = some (.cells cs t (0, 0))) (hj : j < cs.size) : (execOp ρ o).run Tryd.prog w = .ok .skip (w.setCell ⟨g, j, none⟩ (.slice A n c)) := by
  have hf := blk_frozen hb j
  have hc : ∃ v, w.cell? ⟨g, j, none⟩ = some v := ⟨cs[j], by rw [blk_cell hb j]; exact Array.getElem?_eq_getElem hj⟩
  obtain ⟨v, hc⟩ := hc
  unfold execOp
  simp only [ho, hx, hy]
  go_simp
theorem idx64 {ρ : Operand → Value} {o : Oper} {w : World} {x y : Operand} (ho : o.op = .indexAddr 64 x y) {g : Nat} {i : Int} (hx : ρ x = .pointer (some ⟨g, 0, none⟩)) (hy : ρ y = .int .i64 i) (h0 : 0 ≤ i) (h1 : i < 3) : (execOp ρ o).run Tryd.prog w = .ok (.value (.pointer (some ⟨g, i.toNat, none⟩))) w := by
  have hi : i = 0 ∨ i = 1 ∨ i = 2 := by omega
  unfold execOp
  simp only [ho, hx, hy]
  rcases hi with rfl | rfl | rfl
  · go_simp
  · go_simp
  · go_simp
theorem R_store_run {P : Program} {α : Type} (d : Kd α) {ρ : Operand → Value} {o : Oper} {W : World} {base : Nat} (t : TypeId) (p x : Operand) (ho : o.op = .store t p x) (e : TypeId) {g n cap o' : Nat} (i : Int) (j : Nat) (xs : List α) (x' : α) (u : Value) (seg c : List Value)
    (haddr : ρ p = .pointer (some ⟨g, o', none⟩)) (hoff : o' = i.toNat * d.sz + j) (hx : ρ x = u) (hu : u.cells.toList = seg) (ht : (P.info? t).map (·.size) = some seg.length) (h1 : ∀ q ∈ seg, q.oneCell' = true)
    (HO : d.R e W base (fun _ => True) (.slice (some ⟨g, 0, none⟩) n cap) xs) (h0 : 0 ≤ i) (hi : i < n) (hcl : c.length = d.sz) (hcc : ∀ j u, c[j]? = some u → W.cell? ⟨g, i.toNat * d.sz + j, none⟩ = some u)
    (hj : j + seg.length ≤ d.sz) (hM : d.M W base (fun _ => False) x' (c.take j ++ seg ++ c.drop (j + seg.length))) :
    ∃ w1, (execOp ρ o).run P W = .ok .skip w1 ∧ d.R e w1 base (fun _ => True) (.slice (some ⟨g, 0, none⟩) n cap) (xs.set i.toNat x') ∧ W.grownBy w1 (some g) ∧ base ≤ g := by
  subst hoff
  obtain ⟨hrow, hg⟩ := Kd.R_seg HO i h0 hi hcl hcc hj hM (fun _ h => h.elim)
  have hbg : base ≤ g := Kd.R_base HO g (by simp [Value.ownBlock])
  have hnx : n = xs.length := (Kd.R_reads' HO).1
  obtain ⟨_, inner, hown, hr⟩ := HO
  have hil : i.toNat < n := by omega
  have hrun : (Instr.storeAt t (.pointer (some ⟨g, i.toNat * d.sz + j, none⟩)) u).run P W = .ok () (W.setCells g (i.toNat * d.sz + j) seg) := by
    rcases hown.2 with ⟨hv, _⟩ | ⟨g', cap', cur, hv, hb, hh, hnc, hcm, hcs, _⟩
    · cases hv
    injection hv with ha _ hc
    injection ha with ha
    injection ha with hg'
    subst hg'; subst hc
    refine run_store_run t u seg hh hu ht ?_ h1
    have h2 : i.toNat * d.sz + d.sz ≤ n * d.sz := by rw [← Nat.succ_mul]; exact Nat.mul_le_mul_right _ hil
    have h3 : n * d.sz ≤ cap * d.sz := Nat.mul_le_mul_right _ (by omega)
    omega
  refine ⟨W.setCells g (i.toNat * d.sz + j) seg, ?_, hrow, hg, hbg⟩
  unfold execOp
  simp only [ho, haddr, hx, Sem.run_bind, Sem.run_pure, Result.andThen_ok, hrun]
structure PdSt (V : World) (cb : Array Value) (ps ps1 : List S77) (gE : Nat) (v10 : Value) (A : Option Addr) (n c : Nat) (wq : World) (b0 b5 b11 b13 : Bool) : Prop where
  b : Below V.heap.size V wq
  sz : V.heap.size + 1 ≤ wq.heap.size
  h13 : wq.heap[V.heap.size]? = some (.cells (if b13 then cb.setIfInBounds 1 (.slice A n c) else cb) 27 (0, 0))
  e : b0 = true → b5 = false → V.heap.size + 1 ≤ gE ∧ wq.heap[gE]? = some (.cells #[] 77 (0, 0))
  r10 : b5 = true → b11 = false → k77.R 77 wq (V.heap.size + 1) (fun _ => True) v10 ps1
  r12 : b11 = true → k77.R 77 wq (V.heap.size + 1) (fun _ => True) (.slice A n c) ps
  i5 : b5 = true → b0 = true
  i11 : b11 = true → b5 = true
  i13 : b13 = true → b11 = true
section
variable {V : World} {cb : Array Value} {ps ps1 : List S77} {gE : Nat} {v10 v : Value} {A A' : Option Addr} {n c n' c' : Nat} {wq w1 : World} {b0 b5 b11 b13 : Bool}
theorem PdSt.on (s : PdSt V cb ps ps1 gE v10 A n c wq b0 b5 b11 b13) (hb : Below wq.heap.size wq w1) : PdSt V cb ps ps1 gE v10 A n c w1 b0 b5 b11 b13 :=
  ⟨below_step s.b hb, Nat.le_trans s.sz hb.size, blk_below s.h13 hb, fun e e' => ⟨(s.e e e').1, blk_below (s.e e e').2 hb⟩, fun e e' => Kd.R_below (s.r10 e e') hb, fun e => Kd.R_below (s.r12 e) hb, s.i5, s.i11, s.i13⟩
theorem PdSt.fresh (s : PdSt V cb ps ps1 gE v10 A n c wq false b5 b11 b13) : b5 = false ∧ PdSt V cb ps ps1 wq.heap.size v10 A n c (wq.alloc (.cells #[] 77)) true b5 b11 b13 := by
  have e5 : b5 = false := false_of s.i5 rfl
  subst e5
  have s1 := s.on (below_alloc (Below.refl _ _) (.cells #[] 77))
  exact ⟨rfl, s1.b, s1.sz, s1.h13, fun _ _ => ⟨s.sz, new_at rfl⟩, s1.r10, s1.r12, fun _ => rfl, s1.i11, s1.i13⟩
theorem PdSt.head {row : Option Nat} (s : PdSt V cb ps ps1 gE v10 A n c wq true false b11 b13) (hr : k77.R 77 w1 (V.heap.size + 1) (fun _ => True) v ps1) (hg : wq.grownBy w1 row) (hrow : ∀ k, row = some k → V.heap.size + 1 ≤ k) : b11 = false ∧ PdSt V cb ps ps1 gE v A n c w1 true true b11 b13 := by
  have e11 : b11 = false := false_of s.i11 rfl
  subst e11
  refine ⟨rfl, s.b.grown hg (by have := s.sz; omega) (fun k hk => by have := hrow k hk; omega), Nat.le_trans s.sz hg.size, blk_grown s.h13 hg (fun e => by have := hrow _ e.symm; omega), fun _ e => (by cases e), fun _ _ => hr, fun e => (by cases e), fun _ => rfl, fun e => (by cases e), s.i13⟩
theorem PdSt.join {row : Option Nat} (s : PdSt V cb ps ps1 gE v10 A n c wq b0 true false b13) (hr : k77.R 77 w1 (V.heap.size + 1) (fun _ => True) (.slice A' n' c') ps) (hg : wq.grownBy w1 row) (hrow : ∀ k, row = some k → V.heap.size + 1 ≤ k) : b13 = false ∧ PdSt V cb ps ps1 gE v10 A' n' c' w1 b0 true true b13 := by
  have e13 : b13 = false := false_of s.i13 rfl
  subst e13
  refine ⟨rfl, s.b.grown hg (by have := s.sz; omega) (fun k hk => by have := hrow k hk; omega), Nat.le_trans s.sz hg.size, by simpa using blk_grown s.h13 hg (fun e => by have := hrow _ e.symm; omega), fun _ e => (by cases e), fun _ e => (by cases e), fun _ => hr, s.i5, fun _ => rfl, fun e => (by cases e)⟩
theorem PdSt.put (s : PdSt V cb ps ps1 gE v10 A n c wq b0 b5 true false) : PdSt V cb ps ps1 gE v10 A n c (wq.setCell ⟨V.heap.size, 1, none⟩ (.slice A n c)) b0 b5 true true := by
  have h13 : wq.heap[V.heap.size]? = some (.cells cb 27 (0, 0)) := by simpa using s.h13
  exact ⟨s.b.setCell (by simp) _, by simpa using s.sz, by simpa using blk_put h13 1 (.slice A n c) rfl, fun e e' => ⟨(s.e e e').1, blk_far (s.e e e').2 (p := ⟨V.heap.size, 1, none⟩) (by have := (s.e e e').1; simp; omega) _⟩, fun _ e => (by cases e), fun e => Kd.R_set (s.r12 rfl) h13 (by decide) 1 _, s.i5, s.i11, fun _ => rfl⟩
end
theorem PdSt.bk {V : World} {h : Hd} {b : Bk} {i gE : Nat} {v10 : Value} {A : Option Addr} {n c : Nat} {wq : World} {ps1 : List S77} {b0 b5 : Bool} (s : PdSt V (h.bare.cells b.bare) (b.pairs.eraseIdx i) ps1 gE v10 A n c wq b0 b5 true true) (hb : BkIn V h b) :
    ∃ hy : Hd, BkIn wq hy (unpair b i) ∧ wq.heap[V.heap.size]? = some (.cells (hy.cells (unpair b i)) 27 (0, 0)) := by
  obtain ⟨q1, q2, q3⟩ := Kd.R_reads' (s.r12 rfl)
  have hbl := hb.below s.b
  refine ⟨{ h.bare with A1 := A, c1 := c }, ⟨hbl.r0, q3, hbl.r2, Kd.C_nil _ _, hbl.l0, by show (b.pairs.eraseIdx i).length ≤ c; rw [← q1]; exact q2, hbl.l2, Nat.le_refl _⟩, ?_⟩
  have := s.h13
  simp only [if_true] at this
  rw [this, q1]
  rfl
structure LsSt (V : World) (g18 g19 : Nat) (lo hi : Int) (cells : Array Value) (gv n cap : Nat) (xs xs' : List S68) (wq : World) (bl : Bool) : Prop where
  b : Below V.heap.size V wq
  h18 : wq.heap[g18]? = some (.cells #[.int .i64 lo, .int .i64 hi] 39 (0, 0))
  h19 : wq.heap[g19]? = some (.cells cells 27 (0, 0))
  r : k68.R 68 wq (g19 + 1) (fun _ => True) (.slice (some ⟨gv, 0, none⟩) n cap) (if bl then xs' else xs)
  n18 : V.heap.size ≤ g18
  n19 : g18 < g19
section
variable {V : World} {g18 g19 : Nat} {lo hi : Int} {cells : Array Value} {gv n cap : Nat} {xs xs' : List S68} {wq w1 : World} {bl : Bool}
theorem LsSt.on (s : LsSt V g18 g19 lo hi cells gv n cap xs xs' wq bl) (hb : Below wq.heap.size wq w1) : LsSt V g18 g19 lo hi cells gv n cap xs xs' w1 bl :=
  ⟨below_step s.b hb, blk_below s.h18 hb, blk_below s.h19 hb, Kd.R_below s.r hb, s.n18, s.n19⟩
theorem LsSt.put (s : LsSt V g18 g19 lo hi cells gv n cap xs xs' wq false) (hr : k68.R 68 w1 (g19 + 1) (fun _ => True) (.slice (some ⟨gv, 0, none⟩) n cap) xs') (hg : wq.grownBy w1 (some gv)) (hgv : g19 + 1 ≤ gv) : LsSt V g18 g19 lo hi cells gv n cap xs xs' w1 true := by
  have n18 := s.n18
  have n19 := s.n19
  have hz := blk_lt s.h18
  exact ⟨s.b.grown hg s.b.size (fun k hk => by cases hk; omega), blk_grown s.h18 hg (by simp; omega), blk_grown s.h19 hg (by simp; omega), by simpa using hr, n18, n19⟩
end
structure BlE (w : World) (h : Hd) (b : Bk) (n0 n1 n2 : Int) (g5 : Nat) (wq : World) : Prop where
  o : Two w (h.cells b) 27 #[.int .i64 n0, .int .i64 n1, .int .i64 n2] 64 wq
  h5 : wq.heap[g5]? = some (.cells (h.bare.cells b.bare) 27 (0, 0))
theorem BlE.on {w : World} {h : Hd} {b : Bk} {n0 n1 n2 : Int} {g5 : Nat} {wq w1 : World} (s : BlE w h b n0 n1 n2 g5 wq) (hb : Below wq.heap.size wq w1) : BlE w h b n0 n1 n2 g5 w1 := ⟨s.o.on hb, blk_below s.h5 hb⟩
theorem sane_unpair {b : Bk} (h : Sane b) (i : Nat) : Sane (unpair b i) := fun p hp => h p (List.mem_of_mem_eraseIdx hp)
theorem idx22g {ρ : Operand → Value} {o : Oper} {w : World} {x y : Operand} (ho : o.op = .indexAddr 22 x y) {g n c k : Nat} (hx : ρ x = .slice (some ⟨g, 0, none⟩) n c) (hy : ρ y = .int .i64 (k : Int)) (h1 : k < n) : (execOp ρ o).run Tryd.prog w = .ok (.value (.pointer (some ⟨g, k * 3, none⟩))) w := by
  have := Ops.idx22 (w := w) ho hx hy (by omega) (by omega)
  rw [this, Int.toNat_natCast, add_plain]
theorem fldO68 {ρ : Operand → Value} {o : Oper} {w : World} {x : Operand} (ho : o.op = .fieldAddr 68 x 1) {g off : Nat} (hx : ρ x = .pointer (some ⟨g, off, none⟩)) : (execOp ρ o).run Tryd.prog w = .ok (.value (.pointer (some ⟨g, off + 1, none⟩))) w := by
  unfold execOp
  simp only [ho, hx]
  go_simp
theorem i39z : (Tryd.prog.info? 39).map (·.size) = some ([Value.int .i64 0, Value.int .i64 0] : List Value).length := by kernel_rfl
theorem LsSt.store {V : World} {g18 g19 : Nat} {lo hi : Int} {cells : Array Value} {gv n cap : Nat} {xs : List S68} {u v : Int} {wq : World} {ρ : Operand → Value} {o : Oper} {p x : Operand} {k : Nat} (ho : o.op = .store 39 p x)
    (s : LsSt V g18 g19 lo hi cells gv n cap xs (xs.set k ⟨(rd_T68 xs k).f0, ⟨u, v⟩⟩) wq false) (hk : k < n) (hp : ρ p = .pointer (some ⟨gv, k * 3 + 1, none⟩)) (hx : ρ x = .agg #[.int .i64 u, .int .i64 v]) :
    ∃ w1, (execOp ρ o).run Tryd.prog wq = .ok .skip w1 ∧ LsSt V g18 g19 lo hi cells gv n cap xs (xs.set k ⟨(rd_T68 xs k).f0, ⟨u, v⟩⟩) w1 true := by
  have hr : k68.R 68 wq (g19 + 1) (fun _ => True) (.slice (some ⟨gv, 0, none⟩) n cap) xs := by simpa using s.r
  obtain ⟨q1, q2, q3⟩ := Kd.R_reads' hr
  obtain ⟨ad, had, t0, t1, t2⟩ := at_T68 q3 (k : Int) (by omega) (by omega)
  obtain rfl := Option.some.inj had
  simp only [Int.toNat_natCast, add_plain] at t0 t1 t2
  have hcc : ∀ (j : Nat) (z : Value), [Value.int .i64 (rd_T68 xs (k : Int)).f0, .int .i64 (rd_T68 xs (k : Int)).f1.f0, .int .i64 (rd_T68 xs (k : Int)).f1.f1][j]? = some z → wq.cell? ⟨gv, (k : Int).toNat * k68.sz + j, none⟩ = some z := by
    intro j z hz
    rcases j with _ | _ | _ | j
    · cases hz; exact t0
    · cases hz; exact t1
    · cases hz; exact t2
    · simp at hz
  obtain ⟨w1, h1, h2, h3, h4⟩ := R_store_run k68 (base := g19 + 1) 39 p x ho 68 (o' := k * 3 + 1) (k : Int) 1 xs (⟨(rd_T68 xs k).f0, ⟨u, v⟩⟩ : S68) (.agg #[.int .i64 u, .int .i64 v]) [.int .i64 u, .int .i64 v] [.int .i64 (rd_T68 xs (k : Int)).f0, .int .i64 (rd_T68 xs (k : Int)).f1.f0, .int .i64 (rd_T68 xs (k : Int)).f1.f1]
    hp rfl hx rfl i39z (by simp [Value.oneCell']) hr (by omega) (by omega) rfl hcc (by rw [show k68.sz = 3 from rfl]; simp) (k68_mkM _ _ _ _)
  refine ⟨w1, h1, ?_⟩
  rw [Int.toNat_natCast] at h2
  exact s.put h2 h3 h4
theorem LsSt.next {V : World} {g18 g19 : Nat} {lo hi : Int} {cells : Array Value} {gv n cap : Nat} {xs xs' : List S68} {wq : World} (s : LsSt V g18 g19 lo hi cells gv n cap xs xs' wq true) (ys : List S68) : LsSt V g18 g19 lo hi cells gv n cap xs' ys wq false :=
  ⟨s.b, s.h18, s.h19, by simpa using s.r, s.n18, s.n19⟩
theorem LsSt.bk {w : World} {g18 g19 : Nat} {lo hi : Int} {cells : Array Value} {gv n cap : Nat} {xs ys : List S68} {h h2 : Hd} {b : Bk} {k m : Nat} {wq : World} (s : LsSt w g18 g19 lo hi cells gv n cap xs ys wq false) (hb : BkIn w h b) (h2e : h2 = { h.bare with A0 := some ⟨gv, 0, none⟩, c0 := cap }) (he : xs = (less b k m).salts) : BkIn wq h2 (less b k m) := by
  have hr : k68.R 68 wq (g19 + 1) (fun _ => True) (.slice (some ⟨gv, 0, none⟩) n cap) xs := by simpa using s.r
  obtain ⟨q1, q2, q3⟩ := Kd.R_reads' hr
  have hbl := hb.below s.b
  subst h2e
  rw [he] at q1 q3
  exact ⟨q3, hbl.r1, hbl.r2, Kd.C_nil _ _, by show (less b k m).salts.length ≤ cap; rw [← q1]; exact q2, hbl.l1, hbl.l2, Nat.le_refl _⟩
theorem set_again (b : Bk) (s m n : Nat) (x : S68) (hs : s < b.salts.length) (hx : x = lessS (rd_T68 b.salts s) n) : (less b s m).salts.set s x = (less b s n).salts := by
  subst hx
  show (b.salts.set s _).set s _ = b.salts.set s _
  rw [List.set_set]
theorem rd_set (b : Bk) (s m : Nat) (hs : s < b.salts.length) : (rd_T68 (less b s m).salts s).f0 = (rd_T68 b.salts s).f0 := by
  show (rd_T68 (b.salts.set s (lessS (rd_T68 b.salts s) m)) s).f0 = _
  unfold rd_T68
  rw [List.getD_eq_getElem?_getD, Int.toNat_natCast, List.getElem?_set_self hs]
  rfl
theorem strange_at {w : World} {g18 g19 : Nat} {lo hi : Int} {cells : Array Value} {gv n cap : Nat} {xs ys : List S68} {h h2 : Hd} {b : Bk} {k m : Nat} {wq : World} {q : Bool} (s : LsSt w g18 g19 lo hi cells gv n cap xs ys wq false) (hg : Asks w) (hb : BkIn w h b) (h2e : h2 = { h.bare with A0 := some ⟨gv, 0, none⟩, c0 := cap }) (he : xs = (less b k m).salts)
    (hck : checkB b = true) (hgd : Good b) (hsa : Sane b) (hk : k < b.salts.length) (hm : (m : Int) ≤ (rd_T68 b.salts k).f1.f1 - (rd_T68 b.salts k).f1.f0) (hq : strangeB (less b k m) = q) : Calls Tryd.prog 38 #[.agg (h2.cells b.bare)] wq fun e w' => e = .returned (.tuple #[.bool q, .bool true]) ∧ Below wq.heap.size wq w' := by
  rw [← less_cells h2 b k m, ← hq]
  exact strange_calls (hg.below s.b) (s.bk hb h2e he) (good_less hgd hk hm) hsa (ask_good (check_less hck hk hm) (good_less hgd hk hm) rfl)
theorem op_skipE {P : Program} {ops : Array Oper} {Q : Exit → Act → World → Prop} {i : Nat} {o : Oper} {K : Act → World → Prop} {a : Act} {w : World} (ho : ops[i]? = some o) (hw : Region.wanted o (yielded ops a.tmps) = true) (h : ∃ w1, (execOp a.eval o).run P w = .ok .skip w1 ∧ K (a.put o.dst undef) w1) : wpOp P ops Q i K a w := by
  obtain ⟨w1, h1, h2⟩ := h
  exact op_skip ho hw h1 h2
end Go.Proofs.YtghpoldlddghjaaDoor
namespace Go.Proofs.YtghpoldlddghjaaDoor
open Go Go.RowKit
open Go.Proofs.YtghpoldlddghjaaDoorW.PrintWords Go.Proofs.YtghpoldlddghjaaDoorW.PrintMore Go.Proofs.YtghpoldlddghjaaDoor.PPasteTrue
section
variable {H : Type} {enc : TypeId × Value → H} {W : World} {base : Nat} {sp : Nat → Bool} {held : Bool}
theorem co64 : Tryd.prog.cellsOf 64 = 3 := by kernel_rfl
set_option maxRecDepth 100000 in
open Go.ChangeShapes Go.WideShapes in
theorem openArr3 {b0 : Nat} {r : Reach} {v : Value} {d : DataW H} {ps : List MemPlace} (hv : Value.okWide Tryd.prog W r b0 64 v) (h : DataW.Trod enc Tryd.prog W base sp held 64 v d ps) :
    ∃ n m o : Int, v = .agg #[.int .i64 n, .int .i64 m, .int .i64 o] := by
  have hu : Tryd.prog.underlying 64 = some (.array 3 3) := by kernel_rfl
  have hs : ∃ cs, v = .agg cs ∧ cs.size = Tryd.prog.cellsOf 64 := by
    simp only [Value.okWide, hu] at hv
    obtain ⟨cs, h1, h2, _⟩ := hv
    exact ⟨cs, h1, h2⟩
  obtain ⟨cs, rfl, hsz⟩ := hs
  obtain ⟨fuel, hf⟩ := h
  obtain ⟨xs, m, _, _, hl, hx, hi⟩ := DataW.trod_array hu hf
  rw [co64] at hl
  obtain ⟨c0, c1, c2, hc⟩ := len3 hl
  have h0 := hi 0 (by omega)
  have h1 := hi 1 (by omega)
  have h2 := hi 2 (by omega)
  rw [co3, hc] at h0 h1 h2
  obtain ⟨x0, x1, x2, hxs⟩ := len3 hx
  rw [hxs] at h0 h1 h2
  obtain ⟨a, e0, _⟩ := DataW.trod_int Tryd.underlying3 h0
  obtain ⟨b, e1, _⟩ := DataW.trod_int Tryd.underlying3 h1
  obtain ⟨c, e2, _⟩ := DataW.trod_int Tryd.underlying3 h2
  simp at e0 e1 e2
  have hcl : cs.toList = [c0, c1, c2] := hc
  refine ⟨a, b, c, ?_⟩
  have : cs = #[c0, c1, c2] := by rw [← hcl]
  rw [this, e0, e1, e2]
end
end Go.Proofs.YtghpoldlddghjaaDoor
namespace Go.Proofs.YtghpoldlddghjaaDoor
open Go Go.RowKit
open Go.Proofs.YtghpoldlddghjaaDoorW.PrintWords Go.Proofs.YtghpoldlddghjaaDoorW.PrintMore Go.Proofs.YtghpoldlddghjaaDoor.PPasteTrue
set_option maxRecDepth 20000 in
set_option maxHeartbeats 4000000 in
theorem pasteBlame_calls {h : Hd} {b : Bk} {w : World} (hg : Asks w) (hb : BkIn w h b) (n0 n1 n2 : Int) : Calls Tryd.prog 7 #[.agg (h.cells b), .agg #[.int .i64 n0, .int .i64 n1, .int .i64 n2]] w fun e w' => e = .returned (.bool true) ∧ Below w.heap.size w w' := by
  have HG := Lib.hid hg
  clear hg
  have HO := Lib.hid (Two.start w (h.cells b) 27 #[.int .i64 n0, .int .i64 n1, .int .i64 n2] 64)
  cases hsd : soundB b with
  | false =>
    have HS := Lib.hid hsd
    clear hsd
    go_enter Tryd.func7, Tryd.ntmps7
    go_wp2_with (first | (with_reducible refine b_box (t := 27) rfl rfl rfl ?_) | (with_reducible refine b_box (t := 64) rfl rfl rfl ?_) | ((with_reducible refine gate_dst (N := 26) rfl ?_); refine wpList_load_row rfl 27 _ rfl w.heap.size rfl 27 (h.cells b) (0, 0) _ HO.out.b1 Tryd.underlying27 rfl i27 ?_) | (go_at_call 11; refine (sound_calls (hb.below HO.out.below)).mono ?_; rintro e w1 ⟨rfl, hb1⟩; rw [HS.out]; have HB1 := Lib.hid (below_step HO.out.below hb1); clear hb1) | (go_at_call 12; refine (rubbed_calls (HG.out.below HB1.out)).mono ?_; rintro e w2 ⟨rfl, hb2⟩; have HB2 := Lib.hid (below_step HB1.out hb2); clear hb2))
    go_ret
    exact ⟨rfl, HB2.out⟩
  | true =>
    have HS := Lib.hid hsd
    obtain ⟨hck, hsa, hgd⟩ := sound_good hsd
    have HSA := Lib.hid hsa
    have hu0 := hgd.u0
    have hu1 := hgd.u1
    have hs0 := hgd.s0
    have hs4 := hgd.sp.s1
    have hp4 := hgd.sp.p1
    have HCK := Lib.hid hck
    have HGD := Lib.hid hgd
    clear hsd hck hsa hgd
    go_enter Tryd.func7, Tryd.ntmps7
    go_upto_region 4 with (first | (with_reducible refine b_box (t := 27) rfl rfl rfl ?_) | (with_reducible refine b_box (t := 64) rfl rfl rfl ?_) | ((with_reducible refine gate_dst (N := 26) rfl ?_); refine wpList_load_row rfl 27 _ rfl w.heap.size rfl 27 (h.cells b) (0, 0) _ HO.out.b1 Tryd.underlying27 rfl i27 ?_) | (go_at_call 11; refine (sound_calls (hb.below HO.out.below)).mono ?_; rintro e w1 ⟨rfl, hb1⟩; rw [HS.out]; have HO1 := Lib.hid (HO.out.on hb1); clear hb1) | ((with_reducible refine gate_dst (N := 30) rfl ?_); refine wpList_load_row rfl 27 _ rfl w.heap.size rfl 27 (h.cells b) (0, 0) _ HO1.out.b1 Tryd.underlying27 rfl i27 ?_) | ((with_reducible refine gate_dst (N := 5) rfl ?_); refine b_alloc rfl rfl zb27 ?_) | (refine wpList_store_row rfl 27 (.tmp 5) (.tmp 30) rfl w1.heap.size (h.cells b) rfl rfl 27 z27 (new_at rfl) i27 rfl (cells_one _ _) ?_))
    have hV4 := HO1.out.var z27 (h.cells b) 27
    have h54 : ((w1.alloc (.cells z27 27)).setRow w1.heap.size (h.cells b)).heap[w1.heap.size]? = some (.cells (h.cells b) 27 (0, 0)) := var_at
    have hz1 := blk_lt HO1.out.b2
    obtain ⟨g5, hg5⟩ : ∃ g, g = w1.heap.size := ⟨_, rfl⟩
    rw [← hg5] at h54 hV4 hz1 ⊢
    generalize (w1.alloc (.cells z27 27)).setRow g5 (h.cells b) = W4 at hV4 h54 ⊢
    have f5 := blk_frozen h54 4
    have c5 : W4.cell? ⟨g5, 4, none⟩ = some (.slice h.A4 b.trials.length h.c4) := (blk_cell h54 4).trans rfl
    have z5 := blk_lt h54
    have HV4 := Lib.hid hV4
    have H54 := Lib.hid h54
    clear hV4 h54 hg5 HO1
    go_upto_region 5 with (first | fail)
    have hV5 : BlE w h b n0 n1 n2 g5 (W4.setCell ⟨g5, 4, none⟩ (.slice none 0 0)) := ⟨⟨HV4.out.below.setCell (by simp; omega) _, blk_far HV4.out.b1 (by simp; omega) _, blk_far HV4.out.b2 (by simp; omega) _⟩, blk_put H54.out 4 (.slice none 0 0) rfl⟩
    generalize W4.setCell ⟨g5, 4, none⟩ (.slice none 0 0) = W5 at hV5 ⊢
    have HE5 := Lib.hid hV5
    clear f5 c5 z5 HV4 H54 hV5 hz1
    obtain ⟨q1, q2⟩ := (spin_f n0 b.surfs.length (by omega) (by omega)).2
    obtain ⟨k, hk⟩ := Int.eq_ofNat_of_zero_le q1
    have hkl : k < b.surfs.length := by omega
    obtain ⟨q3, q4⟩ := (spin_f n1 b.salts.length (by omega) (by omega)).2
    obtain ⟨s, hs⟩ := Int.eq_ofNat_of_zero_le q3
    have hsl : s < b.salts.length := by omega
    have HSK := Lib.hid hk
    have HSS := Lib.hid hs
    have HKL := Lib.hid hkl
    have HSL := Lib.hid hsl
    clear q1 q2 q3 q4 hk hs hkl hsl
    rename_i K hK
    refine draw_inv2 mixed (by kernel_rfl) (fun bb a wq => a = ⟨#[.agg (h.cells b), .agg #[.int .i64 n0, .int .i64 n1, .int .i64 n2], .pointer (some ⟨w.heap.size, 0, none⟩), .pointer (some ⟨w.heap.size + 1, 0, none⟩), .bool false, .pointer (some ⟨g5, 0, none⟩), (if bb 12 then .int .i64 k else undef), (if bb 13 then .int .i64 s else undef), undef, undef, undef, undef, undef, undef, undef, undef, undef, undef, undef, undef, undef, undef, undef, undef, undef, undef, .agg (h.cells b), .bool true, .bool false, undef, .agg (h.cells b), .pointer (some ⟨g5, 4, none⟩), (if bb 0 then .pointer (some ⟨w.heap.size + 1, 0, none⟩) else undef), (if bb 1 then .int .i64 n0 else undef), (if bb 2 then .pointer (some ⟨w.heap.size, 2, none⟩) else undef), (if bb 3 then .slice h.A2 b.surfs.length h.c2 else undef), (if bb 4 then .int .i64 b.surfs.length else undef), (if bb 5 then .int .i64 k else undef), (if bb 6 then .pointer (some ⟨w.heap.size + 1, 1, none⟩) else undef), (if bb 7 then .int .i64 n1 else undef), (if bb 8 then .pointer (some ⟨w.heap.size, 0, none⟩) else undef), (if bb 9 then .slice h.A0 b.salts.length h.c0 else undef), (if bb 10 then .int .i64 b.salts.length else undef), (if bb 11 then .int .i64 s else undef), undef, undef, undef, undef, undef, undef, undef, undef, undef, undef, undef, undef, undef, undef, undef, undef, undef, undef, undef, undef, undef, undef, undef, undef, undef, undef, undef, undef, undef, undef, undef, undef, undef, undef, undef, undef, undef, undef, undef, undef, undef, undef, undef, undef, undef, undef, undef, undef, undef, undef, undef, undef, undef, undef, undef, undef, undef, undef, undef, undef, undef, undef, undef, undef, undef, undef, undef, undef, undef, undef, undef, undef, undef, undef, undef, undef, undef, undef, undef, undef, undef, undef, undef, undef, undef, undef, undef, undef, undef, undef, undef, undef, undef, undef, undef, undef, undef, undef, undef, undef, undef, undef, undef, undef, undef, undef, undef, undef, undef, undef, undef, undef, undef, undef, undef, undef, undef, undef, undef, undef, undef, undef, undef, undef, undef, undef, undef, undef, undef, undef, undef, undef, undef, undef, undef, undef, undef, undef, undef, undef, undef, undef, undef, undef, undef, undef, undef, undef, undef, undef, undef, undef, undef, undef, undef, undef, undef, undef, undef, undef, undef, undef, undef, undef, undef, undef, undef, undef, undef, undef, undef, undef, undef, undef, undef, undef, undef, undef, undef, undef, undef, undef, undef, undef, undef, undef, undef, undef, undef, undef, undef, undef, undef, undef, undef, undef, undef, undef], []⟩ ∧ BlE w h b n0 n1 n2 g5 wq) ?_ ?_ ?_
    · exact ⟨by simp, by simpa using HE5.out.on (Below.refl _ _).drew⟩
    · intro i hil bb a wq hI hbi hcame
      obtain ⟨rfl, hst⟩ := hI
      rcases i with _ | _ | _ | _ | _ | _ | _ | _ | _ | _ | _ | _ | _ | _ | i
      · refine op_value rfl rfl (idx64 (g := w.heap.size + 1) (i := 0) rfl rfl rfl (by decide) (by decide)) ⟨by simp [Act.put, Act.eval, upd], ?_⟩
        simpa [upd] using hst
      · have hh := hcame
        simp [Came, Region.binds] at hh
        refine op_value rfl rfl (Ops.ld3 (x := .tmp 32) (ad := ⟨w.heap.size + 1, 0, none⟩) (v := n0) rfl (by simp [Act.eval, hh]) ((blk_cell hst.o.b2 0).trans rfl)) ⟨by simp [Act.put, Act.eval, upd, hh], ?_⟩
        simpa [upd] using hst
      · refine op_value rfl rfl (Ops.fld27_2 (g := w.heap.size) rfl rfl) ⟨by simp [Act.put, Act.eval, upd], ?_⟩
        simpa [upd] using hst
      · have hh := hcame
        simp [Came, Region.binds] at hh
        refine op_value rfl rfl (Ops.ld24 (x := .tmp 34) (ad := ⟨w.heap.size, 2, none⟩) (A := h.A2) (n := b.surfs.length) (c := h.c2) rfl (by simp [Act.eval, hh]) ((blk_cell hst.o.b1 2).trans rfl)) ⟨by simp [Act.put, Act.eval, upd, hh], ?_⟩
        simpa [upd] using hst
      · have hh := hcame
        simp [Came, Region.binds] at hh
        refine op_value rfl rfl (Ops.len24 (x := .tmp 35) (A := h.A2) (n := b.surfs.length) (c := h.c2) rfl (by simp [Act.eval, hh])) ⟨by simp [Act.put, Act.eval, upd, hh], ?_⟩
        simpa [upd] using hst
      · have hh := hcame
        simp [Came, Region.binds] at hh
        refine op_call rfl rfl (run_call Tryd.func26 (by kernel_rfl) rfl rfl rfl (args := #[.int .i64 n0, .int .i64 b.surfs.length]) (by simp [Act.eval, hh])) (((show Calls Tryd.prog 26 #[.int .i64 n0, .int .i64 b.surfs.length] wq fun e w' => e = .returned (.int .i64 k) ∧ Below wq.heap.size wq w' by have hsp := spin_calls n0 b.surfs.length (by omega) (by omega) wq; rw [HSK.out] at hsp; exact hsp)).mono ?_)
        rintro e w5 ⟨rfl, hb5⟩
        refine ⟨_, rfl, by simp [Act.put, upd, hh], ?_⟩
        simpa [upd] using hst.on hb5
      · refine op_value rfl rfl (idx64 (g := w.heap.size + 1) (i := 1) rfl rfl rfl (by decide) (by decide)) ⟨by simp [Act.put, Act.eval, upd], ?_⟩
        simpa [upd] using hst
      · have hh := hcame
        simp [Came, Region.binds] at hh
        refine op_value rfl rfl (Ops.ld3 (x := .tmp 38) (ad := ⟨w.heap.size + 1, 1, none⟩) (v := n1) rfl (by simp [Act.eval, hh]) ((blk_cell hst.o.b2 1).trans rfl)) ⟨by simp [Act.put, Act.eval, upd, hh], ?_⟩
        simpa [upd] using hst
      · refine op_value rfl rfl (Ops.fld27_0 (g := w.heap.size) rfl rfl) ⟨by simp [Act.put, Act.eval, upd], ?_⟩
        simpa [upd] using hst
      · have hh := hcame
        simp [Came, Region.binds] at hh
        refine op_value rfl rfl (Ops.ld22 (x := .tmp 40) (ad := ⟨w.heap.size, 0, none⟩) (A := h.A0) (n := b.salts.length) (c := h.c0) rfl (by simp [Act.eval, hh]) ((blk_cell hst.o.b1 0).trans rfl)) ⟨by simp [Act.put, Act.eval, upd, hh], ?_⟩
        simpa [upd] using hst
      · have hh := hcame
        simp [Came, Region.binds] at hh
        refine op_value rfl rfl (Ops.len22 (x := .tmp 41) (A := h.A0) (n := b.salts.length) (c := h.c0) rfl (by simp [Act.eval, hh])) ⟨by simp [Act.put, Act.eval, upd, hh], ?_⟩
        simpa [upd] using hst
      · have hh := hcame
        simp [Came, Region.binds] at hh
        refine op_call rfl rfl (run_call Tryd.func26 (by kernel_rfl) rfl rfl rfl (args := #[.int .i64 n1, .int .i64 b.salts.length]) (by simp [Act.eval, hh])) (((show Calls Tryd.prog 26 #[.int .i64 n1, .int .i64 b.salts.length] wq fun e w' => e = .returned (.int .i64 s) ∧ Below wq.heap.size wq w' by have hsp := spin_calls n1 b.salts.length (by omega) (by omega) wq; rw [HSS.out] at hsp; exact hsp)).mono ?_)
        rintro e w5 ⟨rfl, hb5⟩
        refine ⟨_, rfl, by simp [Act.put, upd, hh], ?_⟩
        simpa [upd] using hst.on hb5
      · have hh := hcame
        simp [Came, Region.binds] at hh
        refine op_value rfl rfl (x_assign (.inl rfl)) ⟨by simp [Act.put, Act.eval, upd, hh], ?_⟩
        simpa [upd] using hst
      · have hh := hcame
        simp [Came, Region.binds] at hh
        refine op_value rfl rfl (x_assign (.inl rfl)) ⟨by simp [Act.put, Act.eval, upd, hh], ?_⟩
        simpa [upd] using hst
      · simp at hil; omega
    · intro bb a wf hI hall
      obtain ⟨rfl, hst⟩ := hI
      refine hK _ _ ?_
      simp only [hall 0 (by simp), hall 1 (by simp), hall 2 (by simp), hall 3 (by simp), hall 4 (by simp), hall 5 (by simp), hall 6 (by simp), hall 7 (by simp), hall 8 (by simp), hall 9 (by simp), hall 10 (by simp), hall 11 (by simp), hall 12 (by simp), hall 13 (by simp), if_true]
      have HE6 := Lib.hid hst
      clear hall hK hst HE5
      have hbf := blame_facts HCK.out HGD.out HKL.out
      obtain ⟨kd, hkd⟩ : ∃ x, lR b.bare k = x := ⟨_, rfl⟩
      obtain ⟨fe, hfe⟩ : ∃ x, blameE b k = x := ⟨_, rfl⟩
      obtain ⟨l, hl⟩ : ∃ x, blameL b k = x := ⟨_, rfl⟩
      rw [hkd, hfe, hl] at hbf
      have HBF := Lib.hid hbf
      have HKD := Lib.hid hkd
      have HFE := Lib.hid hfe
      have HL := Lib.hid hl
      clear hbf hkd hfe hl
      go_upto_region 8 with (first | ((with_reducible refine gate_dst (N := 45) rfl ?_); refine wpList_load_row rfl 27 _ rfl g5 rfl 27 (h.bare.cells b.bare) (0, 0) _ HE6.out.h5 Tryd.underlying27 rfl i27 ?_) | (go_at_call 20; refine (Lights_calls (HG.out.below HE6.out.o.below) (hb.below HE6.out.o.below).bare (sane_bare HSA.out) k).mono ?_; rintro e2 v1 ⟨rfl, hv1⟩; rw [HKD.out, HBF.out.1]; have HE7 := Lib.hid (HE6.out.on hv1); clear hv1) | ((with_reducible refine gate_dst (N := 51) rfl ?_); refine wpList_load_row rfl 27 _ rfl w.heap.size rfl 27 (h.cells b) (0, 0) _ HE7.out.o.b1 Tryd.underlying27 rfl i27 ?_) | (go_at_call 34; refine (Blame_calls (HG.out.below HE7.out.o.below) (hb.below HE7.out.o.below) HSA.out k).mono ?_; rintro e2 v2 ⟨⟨Al, cl, rfl, hlc, hlr⟩, hv2⟩; rw [HFE.out, HL.out]; rw [HL.out] at hlc hlr; have HE8 := Lib.hid (HE7.out.on hv2); have HLR := Lib.hid (C_of_reads hlr); have HLC := Lib.hid hlc; clear hv2 hlc hlr))
      have HGR := Lib.hid (show ∀ wx, Below v2.heap.size v2 wx → Calls Tryd.prog 35 #[.slice Al l.length cl, .int .i64 b.pairs.length] wx fun e w' => e = .returned (.bool true) ∧ Below wx.heap.size wx w' by
        intro wx hwx
        by_cases h0 : kd = 0
        · obtain ⟨_, rfl⟩ := HBF.out.2.1 h0
          exact grows_calls (Kd.C_below HLR.out hwx) b.pairs.length (by omega) (by omega) (by simp) (fun i hi => by simp at hi) (fun i _ hi => by simp at hi)
        · obtain ⟨_, rfl⟩ := HBF.out.2.2.1 h0
          exact grows_calls (Kd.C_below HLR.out hwx) b.pairs.length (by omega) (by omega) (by have := places_len (fun j => decide (lightsL (unpair b j) k = 0)) b.pairs.length; omega) (fun i hi => places_in _ _ i hi) (fun i h1 hi => places_up _ _ i h1 hi))
      have c1 : v2.cell? ⟨w.heap.size, 1, none⟩ = some (.slice h.A1 b.pairs.length h.c1) := (blk_cell HE8.out.o.b1 1).trans rfl
      have zz := blk_lt HE8.out.o.b1
      go_cut [85] from 56 to 85 (fun v wx => v = .bool false ∧ Aside0 (Below v2.heap.size v2 wx))
      case first =>
        by_cases h0 : kd = 0
        · obtain ⟨rfl, hl0⟩ := HBF.out.2.1 h0
          have hlen : ((l.length : Int) != 0) = false := by rw [hl0]; rfl
          subst h0
          clear hl0
          go_wp2_with (first | (go_at_call 35; refine (HGR.out _ (Below.refl _ _)).mono ?_; rintro e2 v3 ⟨rfl, hv3⟩; have HB3 := Lib.hid hv3; clear hv3))
          go_meet
          case rel => exact ⟨rfl, ⟨HB3.out⟩⟩
        · obtain ⟨rfl, hlp⟩ := HBF.out.2.2.1 h0
          clear hlp
          have hk0 : (kd == 0) = false := beq_eq_false_iff_ne.2 h0
          go_wp2_with (first | (go_at_call 35; refine (HGR.out _ (Below.refl _ _)).mono ?_; rintro e2 v3 ⟨rfl, hv3⟩; have HB3 := Lib.hid hv3; clear hv3))
          go_meet
          case rel => exact ⟨rfl, ⟨HB3.out⟩⟩
      case rest =>
        obtain ⟨rfl, HBC⟩ := hcut
        have HE9 := Lib.hid (HE8.out.on HBC.out)
        have HLR9 := Lib.hid (Kd.C_below HLR.out HBC.out)
        clear c1 zz HE7 HE6
        have c1 : wc.cell? ⟨w.heap.size, 1, none⟩ = some (.slice h.A1 b.pairs.length h.c1) := (blk_cell HE9.out.o.b1 1).trans rfl
        have zz := blk_lt HE9.out.o.b1
        obtain ⟨q, hq⟩ : ∃ q : Bool, decide (kd ≠ 0 ∧ 0 < b.pairs.length) = q := ⟨_, rfl⟩
        have HQ := Lib.hid hq
        clear hq
        go_upto_region 10 with (first | fail)
        go_cut [93] from 86 to 93 (fun v wx => v = .bool q ∧ wx = wc)
        case first =>
          by_cases h0 : kd = 0
          · obtain ⟨rfl, hl0⟩ := HBF.out.2.1 h0
            have hqq : q = false := by rw [← HQ.out]; simp [h0]
            clear hl0 h0
            go_wp2
            go_meet
            case rel => exact ⟨by rw [hqq], rfl⟩
          · obtain ⟨rfl, hlp⟩ := HBF.out.2.2.1 h0
            clear hlp
            have hqq : q = decide (0 < b.pairs.length) := by rw [← HQ.out]; simp [h0]
            clear h0
            go_wp2
            go_meet
            case rel => exact ⟨by rw [hqq], rfl⟩
        case rest =>
          obtain ⟨rfl, rfl⟩ := hcut
          go_upto_if 93 with (first | fail)
          have HRC := True.intro
          go_cut [] from 12 to 135 (fun wx => Aside0 (Below wc.heap.size wc wx))
          case first =>
            cases q with
            | false =>
              go_wp2
              go_meet
              case rel => exact ⟨Below.refl _ _⟩
            | true =>
              obtain ⟨hk0, hpl⟩ := of_decide_eq_true HQ.out
              obtain ⟨q1, q2⟩ := (spin_f n2 b.pairs.length (by omega) (by omega)).2
              obtain ⟨i, hi⟩ := Int.eq_ofNat_of_zero_le q1
              have hil : i < b.pairs.length := by omega
              have HI := Lib.hid hi
              obtain ⟨ad, had⟩ : ∃ ad, h.A1 = some ad := by obtain ⟨ad, e, _⟩ := (hb.r1).2.2 hpl; exact ⟨ad, e⟩
              have HAD := Lib.hid had
              have HK0 := Lib.hid hk0
              clear q1 q2 hi had hk0 HRC
              have d2 : wc.cell? ⟨w.heap.size + 1, 2, none⟩ = some (.int .i64 n2) := (blk_cell HE9.out.o.b2 2).trans rfl
              have zd := blk_lt HE9.out.o.b2
              go_upto_region 13 with (first | ((with_reducible refine gate_dst (N := 94) rfl ?_); refine b_value rfl (idx64 (g := w.heap.size + 1) (i := 2) rfl rfl rfl (by decide) (by decide)) ?_) | (go_at_call 26; refine (spin_calls n2 b.pairs.length (by omega) (by omega) _).mono ?_; rintro e2 v3 ⟨rfl, hv3⟩; rw [HI.out]; have HE10 := Lib.hid (HE9.out.on hv3); have HB10 := Lib.hid hv3; clear hv3) | ((with_reducible refine gate_dst (N := 100) rfl ?_); refine wpList_load_row rfl 27 _ rfl g5 rfl 27 (h.bare.cells b.bare) (0, 0) _ HE10.out.h5 Tryd.underlying27 rfl i27 ?_) | ((with_reducible refine gate_dst (N := 13) rfl ?_); refine b_alloc rfl rfl zb27 ?_) | (refine wpList_store_row rfl 27 (.tmp 13) (.tmp 100) rfl v3.heap.size (h.bare.cells b.bare) rfl rfl 27 z27 (new_at rfl) i27 rfl (cells_one _ _) ?_))
              have hP : PdSt v3 (h.bare.cells b.bare) (b.pairs.eraseIdx i) (b.pairs.take i) 0 undef none 0 0 ((v3.alloc (.cells z27 27)).setRow v3.heap.size (h.bare.cells b.bare)) false false false false := ⟨below_row (below_alloc (Below.refl _ _) _) (Nat.le_refl _) _, by simp, by simpa using setRow_heap (v3.alloc (.cells z27 27)) v3.heap.size _ _ 27 _ (new_at rfl), by simp, by simp, by simp, by simp, by simp, by simp⟩
              generalize (v3.alloc (.cells z27 27)).setRow v3.heap.size (h.bare.cells b.bare) = W13 at hP ⊢
              have HP := Lib.hid hP
              clear hP d2 zd c1 zz
              simp only [Act.put, Act.eval, List.setIfInBounds_toArray, List.set_cons_succ, List.set_cons_zero]
              have hln : (b.pairs.take i).length = i := by rw [List.length_take]; omega
              have hld : (b.pairs.drop (i + 1)).length = b.pairs.length - (i + 1) := List.length_drop
              have HT := Lib.hid (show ∀ wq, Below v3.heap.size v3 wq → Kd.C k77 wq (some ad) i (b.pairs.take i) by
                intro wq hwq
                have := Kd.C_take (hb.below (below_step HE10.out.o.below hwq)).r1 (show i ≤ b.pairs.length by omega)
                rw [HAD.out, hln] at this
                exact this)
              obtain ⟨A3, hA3⟩ : ∃ A3, A3 = if h.c1 = i + 1 then some ad else (some ad).map (·.add ((i + 1) * k77.sz)) := ⟨_, rfl⟩
              have HD := Lib.hid (show ∀ wq, Below v3.heap.size v3 wq → Kd.C k77 wq A3 (b.pairs.length - (i + 1)) (b.pairs.drop (i + 1)) by
                intro wq hwq
                have := Kd.C_drop (hb.below (below_step HE10.out.o.below hwq)).r1 (show i + 1 ≤ b.pairs.length by omega) hb.l1
                rw [HAD.out, hld, ← hA3] at this
                exact this)
              have HCUT := Lib.hid (show ∀ wq, (Instr.sliceAt 23 (.slice (some ad) b.pairs.length h.c1) (some (.int .i64 ((i + 1 : Nat) : Int))) none none).run Tryd.prog wq = .ok (.slice A3 (b.pairs.length - (i + 1)) (h.c1 - (i + 1))) wq by
                intro wq
                rw [hA3]
                exact run_tailA (some ad) b.pairs.length h.c1 (i + 1) (by omega) wq)
              clear hln hld hA3
              rename_i K hK
              refine draw_inv2 mixed (by kernel_rfl) (fun bb a wq => ∃ (gE : Nat) (v10 : Value) (A' : Option Addr) (n' : Nat) (c' : Nat), a = ⟨#[.agg (h.cells b), .agg #[.int .i64 n0, .int .i64 n1, .int .i64 n2], .pointer (some ⟨w.heap.size, 0, none⟩), .pointer (some ⟨w.heap.size + 1, 0, none⟩), .bool false, .pointer (some ⟨g5, 0, none⟩), .int .i64 ↑k, .int .i64 ↑s, .int .i64 kd, .int .i64 0, .slice Al l.length cl, .int .i64 fe, .int .i64 ↑i, .pointer (some ⟨v3.heap.size, 0, none⟩), undef, undef, undef, undef, undef, undef, undef, undef, undef, undef, undef, undef, .agg (h.cells b), .bool true, .bool false, undef, .agg (h.cells b), .pointer (some ⟨g5, 4, none⟩), .pointer (some ⟨w.heap.size + 1, 0, none⟩), .int .i64 n0, .pointer (some ⟨w.heap.size, 2, none⟩), .slice h.A2 b.surfs.length h.c2, .int .i64 ↑b.surfs.length, .int .i64 ↑k, .pointer (some ⟨w.heap.size + 1, 1, none⟩), .int .i64 n1, .pointer (some ⟨w.heap.size, 0, none⟩), .slice h.A0 b.salts.length h.c0, .int .i64 ↑b.salts.length, .int .i64 ↑s, .tuple #[.int .i64 kd, .int .i64 0], .agg (h.bare.cells b.bare), .int .i64 ↑k, .tuple #[.int .i64 kd, .int .i64 0], .int .i64 kd, .int .i64 0, .tuple #[.slice Al l.length cl, .int .i64 fe], .agg (h.cells b), .int .i64 ↑k, .tuple #[.slice Al l.length cl, .int .i64 fe], .slice Al l.length cl, .int .i64 fe, u56, u57, u58, u59, u60, u61, u62, u63, u64, u65, u66, u67, u68, u69, u70, u71, u72, u73, u74, u75, u76, u77, u78, u79, u80, u81, u82, u83, u84, .bool false, u86, u87, u88, u89, u90, u91, u92, .bool true, .pointer (some ⟨w.heap.size + 1, 2, none⟩), .int .i64 n2, .pointer (some ⟨w.heap.size, 1, none⟩), .slice h.A1 b.pairs.length h.c1, .int .i64 ↑b.pairs.length, .int .i64 ↑i, .agg (h.bare.cells b.bare), (if bb 0 then .slice (some ⟨gE, 0, none⟩) 0 0 else undef), (if bb 1 then .pointer (some ⟨w.heap.size, 1, none⟩) else undef), (if bb 2 then .slice (some ad) b.pairs.length h.c1 else undef), (if bb 3 then .int .i64 ↑i else undef), (if bb 4 then .slice (some ad) i h.c1 else undef), (if bb 5 then v10 else undef), (if bb 6 then .pointer (some ⟨w.heap.size, 1, none⟩) else undef), (if bb 7 then .slice (some ad) b.pairs.length h.c1 else undef), (if bb 8 then .int .i64 ↑i else undef), (if bb 9 then .int .i64 ((i + 1 : Nat) : Int) else undef), (if bb 10 then .slice A3 (b.pairs.length - (i + 1)) (h.c1 - (i + 1)) else undef), (if bb 11 then .slice A' n' c' else undef), (if bb 12 then .pointer (some ⟨v3.heap.size, 1, none⟩) else undef), undef, undef, undef, undef, undef, undef, undef, undef, undef, undef, undef, undef, undef, undef, undef, undef, undef, undef, undef, undef, undef, undef, undef, undef, undef, undef, undef, undef, undef, undef, undef, undef, undef, undef, undef, undef, undef, undef, undef, undef, undef, undef, undef, undef, undef, undef, undef, undef, undef, undef, undef, undef, undef, undef, undef, undef, undef, undef, undef, undef, undef, undef, undef, undef, undef, undef, undef, undef, undef, undef, undef, undef, undef, undef, undef, undef, undef, undef, undef, undef, undef, undef, undef, undef, undef, undef, undef, undef, undef, undef, undef, undef, undef, undef, undef, undef, undef, undef, undef, undef, undef, undef, undef, undef, undef, undef, undef, undef, undef, undef, undef, undef, undef, undef, undef, undef, undef, undef, undef, undef, undef, undef, undef, undef, undef, undef, undef, undef], []⟩ ∧ PdSt v3 (h.bare.cells b.bare) (b.pairs.eraseIdx i) (b.pairs.take i) gE v10 A' n' c' wq (bb 0) (bb 5) (bb 11) (bb 13)) ?_ ?_ ?_
              · exact ⟨0, undef, none, 0, 0, by simp, by simpa using HP.out.on (Below.refl _ _).drew⟩
              · intro i hil bb a wq hI hbi hcame
                obtain ⟨gE, v10, A', n', c', rfl, hst⟩ := hI
                rcases i with _ | _ | _ | _ | _ | _ | _ | _ | _ | _ | _ | _ | _ | _ | i
                · have hst' := hst
                  rw [hbi] at hst'
                  obtain ⟨e5, hst2⟩ := hst'.fresh
                  refine op_value rfl rfl (x_box230 rfl) ⟨wq.heap.size, v10, A', n', c', by simp [Act.put, Act.eval, upd], ?_⟩
                  simpa [upd, e5] using hst2
                · refine op_value rfl rfl (Ops.fld27_1 (g := w.heap.size) rfl rfl) ⟨gE, v10, A', n', c', by simp [Act.put, Act.eval, upd], ?_⟩
                  simpa [upd] using hst
                · have hh := hcame
                  simp [Came, Region.binds] at hh
                  refine op_value rfl rfl (Ops.ld23 (x := .tmp 102) (ad := ⟨w.heap.size, 1, none⟩) (A := some ad) (n := b.pairs.length) (c := h.c1) rfl (by simp [Act.eval, hh]) ((blk_cell (blk_below HE10.out.o.b1 hst.b) 1).trans (by rw [← HAD.out]; rfl))) ⟨gE, v10, A', n', c', by simp [Act.put, Act.eval, upd, hh], ?_⟩
                  simpa [upd] using hst
                · refine op_value rfl rfl (x_assign (.inr rfl)) ⟨gE, v10, A', n', c', by simp [Act.put, Act.eval, upd], ?_⟩
                  simpa [upd] using hst
                · have hh := hcame
                  simp [Came, Region.binds] at hh
                  refine op_value rfl rfl (x_slice (x := .tmp 103) (lo := none) (hi := some (.tmp 104)) (mx := none) (u := .slice (some ad) b.pairs.length h.c1) (a := none) (b := some (.int .i64 i)) (c := none) rfl (by simp [Act.eval, hh]) rfl (by simp [Act.eval, hh]) rfl (run_headA (some ad) b.pairs.length h.c1 i (by omega) hb.l1 _)) ⟨gE, v10, A', n', c', by simp [Act.put, Act.eval, upd, hh], ?_⟩
                  simpa [upd] using hst
                · have hh := hcame
                  simp [Came, Region.binds] at hh
                  have h0 : bb 0 = true := by simp [hh]
                  obtain ⟨hE1, hE2⟩ := hst.e h0 hbi
                  refine op_if rfl (Kd.R_append_rows_step k77 (Rr := k77.K wq) (w0 := wq) (v3.heap.size + 1) rfl (.tmp 101) (.tmp 105) 23 77 (.agg #[.int .i64 0, .int .i64 0, .int .i64 0]) 24 rfl Tryd.underlying23 i77b rfl (by decide) (by decide) (.slice (some ⟨gE, 0, none⟩) 0 0) [] (b.pairs.take i) (some ad) i h.c1 (fun _ => True) (fun _ => False) (by simp [Act.eval, hh]) (by simp [Act.eval, hh]) (R_empty77 hE2 hE1) (HT.out _ hst.b) (fun x cs hk => by rw [k77_open hk]; exact k77_mkM _ _ _ _) (fun _ hk => hk.elim) (fun _ _ => trivial) (Below.refl _ _) hst.sz (by have := hp4; simp; omega) ?_)
                  intro v1 w1' hr1 hb1 hg1 _
                  have hst' := hst
                  rw [hbi, h0] at hst'
                  obtain ⟨e11, hst2⟩ := hst'.head (by simpa using hr1) hg1 (fun k hk => by have e : gE = k := (by simpa [Value.ownBlock] using hk); rw [← e]; exact hE1)
                  refine ⟨gE, v1, A', n', c', by simp [Act.put, Act.eval, upd, hh], ?_⟩
                  simpa [upd, h0, e11] using hst2
                · refine op_value rfl rfl (Ops.fld27_1 (g := w.heap.size) rfl rfl) ⟨gE, v10, A', n', c', by simp [Act.put, Act.eval, upd], ?_⟩
                  simpa [upd] using hst
                · have hh := hcame
                  simp [Came, Region.binds] at hh
                  refine op_value rfl rfl (Ops.ld23 (x := .tmp 107) (ad := ⟨w.heap.size, 1, none⟩) (A := some ad) (n := b.pairs.length) (c := h.c1) rfl (by simp [Act.eval, hh]) ((blk_cell (blk_below HE10.out.o.b1 hst.b) 1).trans (by rw [← HAD.out]; rfl))) ⟨gE, v10, A', n', c', by simp [Act.put, Act.eval, upd, hh], ?_⟩
                  simpa [upd] using hst
                · refine op_value rfl rfl (x_assign (.inr rfl)) ⟨gE, v10, A', n', c', by simp [Act.put, Act.eval, upd], ?_⟩
                  simpa [upd] using hst
                · have hh := hcame
                  simp [Came, Region.binds] at hh
                  refine op_value rfl rfl (show (execOp _ _).run Tryd.prog _ = .ok (.value (.int .i64 ((i + 1 : Nat) : Int))) _ from x_add3 (x := .tmp 109) (y := .const (.int .i64 1)) (i := (i : Int)) (j := 1) rfl (by simp [Act.eval, hh]) rfl (by omega) (by omega)) ⟨gE, v10, A', n', c', by simp [Act.put, Act.eval, upd, hh], ?_⟩
                  simpa [upd] using hst
                · have hh := hcame
                  simp [Came, Region.binds] at hh
                  refine op_value rfl rfl (x_slice (x := .tmp 108) (lo := some (.tmp 110)) (hi := none) (mx := none) (u := .slice (some ad) b.pairs.length h.c1) (a := some (.int .i64 ((i + 1 : Nat) : Int))) (b := none) (c := none) rfl (by simp [Act.eval, hh]) (by simp [Act.eval, hh]) rfl rfl (HCUT.out _)) ⟨gE, v10, A', n', c', by simp [Act.put, Act.eval, upd, hh], ?_⟩
                  simpa [upd] using hst
                · have hh := hcame
                  simp [Came, Region.binds] at hh
                  have h5 : bb 5 = true := by simp [hh]
                  have hr0 := hst.r10 h5 hbi
                  refine op_if rfl (Kd.R_append_rows_step k77 (Rr := k77.K wq) (w0 := wq) (v3.heap.size + 1) rfl (.tmp 106) (.tmp 111) 23 77 (.agg #[.int .i64 0, .int .i64 0, .int .i64 0]) 24 rfl Tryd.underlying23 i77b rfl (by decide) (by decide) v10 (b.pairs.take i) (b.pairs.drop (i + 1)) A3 (b.pairs.length - (i + 1)) (h.c1 - (i + 1)) (fun _ => True) (fun _ => False) (by simp [Act.eval, hh]) (by simp [Act.eval, hh]) hr0 (HD.out _ hst.b) (fun x cs hk => by rw [k77_open hk]; exact k77_mkM _ _ _ _) (fun _ hk => hk.elim) (fun _ _ => trivial) (Below.refl _ _) hst.sz (by have := hp4; simp; omega) ?_)
                  intro v1 w1' hr1 hb1 hg1 _
                  obtain ⟨A2, c2, hv1⟩ := Kd.R_slice hr1
                  subst hv1
                  rw [← List.eraseIdx_eq_take_drop_succ] at hr1 ⊢
                  have hst' := hst
                  rw [hbi, h5] at hst'
                  obtain ⟨e13, hst2⟩ := hst'.join hr1 hg1 (fun k hk => R_from hr0 k hk)
                  refine ⟨gE, v10, A2, (b.pairs.eraseIdx i).length, c2, by simp [Act.put, Act.eval, upd, hh], ?_⟩
                  simpa [upd, h5, e13] using hst2
                · refine op_value rfl rfl (Ops.fld27_1 (g := v3.heap.size) rfl rfl) ⟨gE, v10, A', n', c', by simp [Act.put, Act.eval, upd], ?_⟩
                  simpa [upd] using hst
                · have hh := hcame
                  simp [Came, Region.binds] at hh
                  have h11 : bb 11 = true := by simp [hh]
                  have hst' := hst
                  rw [hbi, h11] at hst'
                  refine op_skip rfl rfl (x_store23 (x := .tmp 113) (y := .tmp 112) (g := v3.heap.size) (j := 1) (A := A') (n := n') (c := c') (cs := h.bare.cells b.bare) (t := 27) rfl (by simp [Act.eval, hh]) (by simp [Act.eval, hh]) (by simpa using hst'.h13) (by simp [Hd.cells])) ⟨gE, v10, A', n', c', by simp [Act.put, upd, hh], ?_⟩
                  simpa [upd, h11] using hst'.put
                · simp at hil; omega
              · intro bb a wf hI hall
                obtain ⟨gE, v10, A', n', c', rfl, hst⟩ := hI
                refine hK _ _ ?_
                simp only [hall 0 (by simp), hall 1 (by simp), hall 2 (by simp), hall 3 (by simp), hall 4 (by simp), hall 5 (by simp), hall 6 (by simp), hall 7 (by simp), hall 8 (by simp), hall 9 (by simp), hall 10 (by simp), hall 11 (by simp), hall 12 (by simp), hall 13 (by simp), if_true]
                rw [hall 0 (by simp), hall 5 (by simp), hall 11 (by simp), hall 13 (by simp)] at hst
                obtain ⟨hy, hyb, hy13⟩ := hst.bk (hb.below HE10.out.o.below)
                have HYB := Lib.hid hyb
                have HY13 := Lib.hid hy13
                have HBW := Lib.hid hst.b
                clear hall hK hst hyb hy13 HP HT HD HCUT
                obtain ⟨mm, hmm⟩ : ∃ mm, lR (unpair b i) k = mm := ⟨_, rfl⟩
                have hf4 := HBF.out.2.2.2.1 i
                rw [hmm] at hf4
                have HM := Lib.hid hmm
                have HF4 := Lib.hid hf4
                have hgd := decide_eq_false (show ¬ kd < mm by have := hf4.2.2; omega)
                obtain ⟨q2, hq2⟩ : ∃ q2 : Bool, (mm == 0) = q2 := ⟨_, rfl⟩
                have HIX := Lib.hid (show ∀ wx, Below v2.heap.size v2 wx → Calls Tryd.prog 36 #[.slice Al l.length cl, .int .i64 i] wx fun e w' => (∃ r, e = .returned (.int .i64 r) ∧ decide (0 ≤ r) = q2) ∧ Below wx.heap.size wx w' by
                  intro wx hwx
                  have hlp := (HBF.out.2.2.1 HK0.out).2
                  refine index_calls (Kd.C_below HLR.out hwx) HLC.out (by rw [hlp]; have := places_len (fun j => decide (lightsL (unpair b j) k = 0)) b.pairs.length; omega) i ?_
                  rw [hlp, mem_places _ _ _ hil, ← hq2, beq_iff_eq, decide_eq_true_eq, hf4.2.1])
                clear hmm hf4
                go_upto_region 15 with (first | ((with_reducible refine gate_dst (N := 115) rfl ?_); refine wpList_load_row rfl 27 _ rfl v3.heap.size rfl 27 (hy.cells (unpair b i)) (0, 0) _ HY13.out Tryd.underlying27 rfl i27 ?_) | (go_at_call 20; refine (Lights_calls (HG.out.below (below_step HE10.out.o.below HBW.out)) HYB.out (sane_unpair HSA.out i) k).mono ?_; rintro e2 v5 ⟨rfl, hv5⟩; rw [HM.out, HF4.out.1]; have HBX := Lib.hid (below_step HBC.out (below_step HB10.out (below_step HBW.out hv5))); have HBY := Lib.hid (below_step HB10.out (below_step HBW.out hv5)); clear hv5))
                cases q2 with
                | true =>
                  go_wp2_with (first | (go_at_call 36; refine (HIX.out _ HBX.out).mono ?_; rintro e2 v6 ⟨⟨r, rfl, hr⟩, hv6⟩; have HBZ := Lib.hid (below_step HBY.out hv6); clear hv6))
                  go_meet
                  case rel => exact ⟨HBZ.out⟩
                | false =>
                  go_wp2_with (first | (go_at_call 36; refine (HIX.out _ HBX.out).mono ?_; rintro e2 v6 ⟨⟨r, rfl, hr⟩, hv6⟩; have HBZ := Lib.hid (below_step HBY.out hv6); clear hv6))
                  go_meet
                  case rel => exact ⟨HBZ.out⟩
          case rest =>
            have HE := Lib.hid (HE9.out.on hcut.out)
            clear HE9 HE8 HLR9 HLR HLC HGR HBC hcut HQ HRC HBF HKD HFE HL c1 zz
            have hsl := HSL.out
            obtain ⟨s0, s1, s2, s3, s4⟩ := HGD.out.sp.s _ (rd68_mem (xs := b.salts) hsl)
            obtain ⟨lo, hlo⟩ : ∃ lo, lo = (rd_T68 b.salts s).f1.f0 := ⟨_, rfl⟩
            obtain ⟨hi, hhi⟩ : ∃ hi, hi = (rd_T68 b.salts s).f1.f1 := ⟨_, rfl⟩
            obtain ⟨N, hN⟩ : ∃ N : Nat, (N : Int) = hi - lo := ⟨(hi - lo).toNat, by omega⟩
            have hlf := less_facts HCK.out HGD.out hsl N (by rw [← hlo, ← hhi]; exact hN)
            rw [← hlo] at s2 s3
            rw [← hhi] at s3 s4
            obtain ⟨lv, lf, hlr⟩ : ∃ x y, lessR b s = (x, y) := ⟨_, _, rfl⟩
            rw [hlr] at hlf
            have HLF := Lib.hid hlf
            have HLS := Lib.hid hlr
            have HLO := Lib.hid hlo
            have HHI := Lib.hid hhi
            clear hlf hlr
            go_upto_region 18 with (first | ((with_reducible refine gate_dst (N := 137) rfl ?_); refine wpList_load_row rfl 27 _ rfl w.heap.size rfl 27 (h.cells b) (0, 0) _ HE.out.o.b1 Tryd.underlying27 rfl i27 ?_) | (go_at_call 37; refine (Less_calls (HG.out.below HE.out.o.below) (hb.below HE.out.o.below) HSA.out s).mono ?_; rintro e2 v7 ⟨rfl, hv7⟩; rw [HLS.out]; have HE1 := Lib.hid (HE.out.on hv7); clear hv7))
            obtain ⟨ad0, hA0', t0, t1, t2⟩ := at_T68 (hb.below HE1.out.o.below).r0 s (by omega) (by omega)
            simp only [Int.toNat_natCast] at t0 t1 t2
            have e4 := World.block_lt_of_cell? v7 _ t0
            have c0 : v7.cell? ⟨w.heap.size, 0, none⟩ = some (.slice (some ad0) b.salts.length h.c0) := by
              have := blk_cell HE1.out.o.b1 0
              rw [this, ← hA0']
              rfl
            have z1 := blk_lt HE1.out.o.b1
            rw [← hlo] at t1
            rw [← hhi] at t2
            clear hlo hhi hA0'
            go_upto_region 19 with (first | fail)
            obtain ⟨g18, hg18⟩ : ∃ g, g = v7.heap.size := ⟨_, rfl⟩
            have p18 : (v7.alloc (.cells #[.int .i64 lo, .int .i64 hi] 39)).heap[g18]? = some (.cells #[.int .i64 lo, .int .i64 hi] 39 (0, 0)) := new_at hg18
            have m18 := HE1.out.on (below_alloc (Below.refl _ _) (.cells #[.int .i64 lo, .int .i64 hi] 39))
            have hle18 : w.heap.size + 1 < g18 := by rw [hg18]; exact blk_lt HE1.out.o.b2
            clear t0 t1 t2 e4 c0 z1
            rw [← hg18]
            generalize v7.alloc (.cells #[.int .i64 lo, .int .i64 hi] 39) = W18 at p18 m18 ⊢
            have HE18 := Lib.hid m18
            have P18 := Lib.hid p18
            clear m18 p18 hg18
            go_upto_region 20 with (first | ((with_reducible refine gate_dst (N := 148) rfl ?_); refine wpList_load_row rfl 27 _ rfl g5 rfl 27 (h.bare.cells b.bare) (0, 0) _ HE18.out.h5 Tryd.underlying27 rfl i27 ?_) | ((with_reducible refine gate_dst (N := 19) rfl ?_); refine b_alloc rfl rfl zb27 ?_) | (refine wpList_store_row rfl 27 (.tmp 19) (.tmp 148) rfl W18.heap.size (h.bare.cells b.bare) rfl rfl 27 z27 (new_at rfl) i27 rfl (cells_one _ _) ?_))
            obtain ⟨g19, hg19⟩ : ∃ g, g = W18.heap.size := ⟨_, rfl⟩
            have p19 : ((W18.alloc (.cells z27 27)).setRow W18.heap.size (h.bare.cells b.bare)).heap[W18.heap.size]? = some (.cells (h.bare.cells b.bare) 27 (0, 0)) := setRow_heap _ _ _ _ _ _ (new_at rfl)
            have q19 : ((W18.alloc (.cells z27 27)).setRow W18.heap.size (h.bare.cells b.bare)).heap[g18]? = some (.cells #[.int .i64 lo, .int .i64 hi] 39 (0, 0)) := (setRow_other _ _ _ _ (by have := blk_lt P18.out; omega)).trans (blk_alloc P18.out _)
            have m19 : Two w (h.cells b) 27 #[.int .i64 n0, .int .i64 n1, .int .i64 n2] 64 ((W18.alloc (.cells z27 27)).setRow W18.heap.size (h.bare.cells b.bare)) := HE18.out.o.var z27 (h.bare.cells b.bare) 27
            have hn19 : g18 < g19 := by rw [hg19]; exact blk_lt P18.out
            have hz19 : ((W18.alloc (.cells z27 27)).setRow W18.heap.size (h.bare.cells b.bare)).heap.size = g19 + 1 := by rw [hg19]; simp
            rw [← hg19] at p19 q19 m19 hz19 ⊢
            generalize (W18.alloc (.cells z27 27)).setRow g19 (h.bare.cells b.bare) = W19 at p19 q19 m19 hz19 ⊢
            have H19 := Lib.hid p19
            have Q19 := Lib.hid q19
            have M19 := Lib.hid m19
            have HZ19 := Lib.hid hz19
            clear p19 q19 m19 hg19 hz19
            obtain ⟨ad1, hA1, _⟩ := at_T68 (hb.below M19.out.below).r0 s (by omega) (by omega)
            have HRD := Lib.hid (show Kd.C k68 W19 (some ad1) b.salts.length b.salts by rw [← hA1]; exact (hb.below M19.out.below).r0)
            have c0 : W19.cell? ⟨w.heap.size, 0, none⟩ = some (.slice (some ad1) b.salts.length h.c0) := by
              have := blk_cell M19.out.b1 0
              rw [this, ← hA1]
              rfl
            have z1 := blk_lt M19.out.b1
            have z9 := blk_lt H19.out
            have HN20 := Lib.hid (R_none' k68 68 W19 W19.heap.size (Nat.le_refl _))
            have HB20 := Lib.hid (below_alloc (Below.refl W19.heap.size W19) (.cells #[] 68))
            simp only [Act.put, Act.eval, List.setIfInBounds_toArray, List.set_cons_succ, List.set_cons_zero]
            go_upto_region 21 with (first | (at_builtin; go_loud (refine Kd.R_append_rows k68 (Rr := k68.K W19) (w0 := W19) W19.heap.size rfl (.tmp 149) (.tmp 151) 22 68 (.agg #[.int .i64 0, .int .i64 0, .int .i64 0]) 24 rfl Tryd.underlying22 i68b rfl (by decide) (by decide) (.slice (some ⟨W19.heap.size, 0, none⟩) 0 0) [] b.salts (some ad1) b.salts.length h.c0 (fun _ => True) (fun k => k < W19.heap.size) rfl rfl HN20.out (Kd.C_below HRD.out HB20.out) (fun x cs hk => by rw [k68_open hk]; exact k68_mkM _ _ _ _) (fun k hk => ⟨trivial, by simp [Value.ownBlock]; omega⟩) (fun _ _ => trivial) HB20.out (by simp) (by simp; omega) ?_); intro v8 w8 HR8 HB8 _ _; rw [List.nil_append] at HR8; obtain ⟨gv, cap, rfl, hgv1, hgv2⟩ := R_form' HR8 (by omega); have HR8 := Lib.hid HR8; have H198 := Lib.hid (blk_below H19.out HB8); have f19 := blk_frozen H198.out 0; have c19 : w8.cell? ⟨g19, 0, none⟩ = some (.slice h.A0 b.salts.length h.c0) := (blk_cell H198.out 0).trans rfl; have z19 := blk_lt H198.out; have HB8 := Lib.hid HB8))
            obtain ⟨h2, hh2⟩ : ∃ h2 : Hd, h2 = { h.bare with A0 := some ⟨gv, 0, none⟩, c0 := cap } := ⟨_, rfl⟩
            have hL20 : ∀ ys, LsSt w g18 g19 lo hi (h2.cells b.bare) gv b.salts.length cap b.salts ys (w8.setCell ⟨g19, 0, none⟩ (.slice (some ⟨gv, 0, none⟩) b.salts.length cap)) false := fun ys =>
              ⟨(below_step M19.out.below HB8.out).setCell (by simp; omega) _, blk_far (blk_below Q19.out HB8.out) (p := ⟨g19, 0, none⟩) (by simp; omega) _, blk_put H198.out 0 _ (by rw [hh2]; rfl), by
                have hr := Kd.R_set HR8.out H198.out (by decide) 0 (.slice (some ⟨gv, 0, none⟩) b.salts.length cap)
                rw [HZ19.out] at hr
                exact hr, by omega, hn19⟩
            have hA20 : Asks (w8.setCell ⟨g19, 0, none⟩ (.slice (some ⟨gv, 0, none⟩) b.salts.length cap)) := HG.out.below (hL20 []).b
            generalize w8.setCell ⟨g19, 0, none⟩ (.slice (some ⟨gv, 0, none⟩) b.salts.length cap) = W20 at hL20 hA20 ⊢
            have HL20 := Lib.hid hL20
            have HH2 := Lib.hid hh2
            have HL0 := Lib.hid (show (rd_T68 b.salts s).f1.f0 = lo from HLO.out.symm)
            have HL1 := Lib.hid (show (rd_T68 b.salts s).f1.f1 = hi from HHI.out.symm)
            have HNN := Lib.hid hN
            clear hL20 hA20 hh2 f19 c19 z19 HR8 HB8 H198 HN20 HB20 HRD c0 z1 z9 M19 Q19 H19 HZ19 P18 HE18 HE1 HE HLO HHI HLS
            try clear HR8
            try clear HB8
            rcases HLF.out with ⟨hp, hst⟩ | ⟨m, hp, hmn, hs1, hs2⟩
            · obtain ⟨rfl, rfl⟩ := Prod.mk.inj hp
              have HST := Lib.hid hst
              clear hp hst HLF
              go_upto_region 22 with (first | fail)
              rename_i K hK
              refine draw_inv2 mixed (by kernel_rfl) (fun bb a wq => a = ⟨#[.agg (h.cells b), .agg #[.int .i64 n0, .int .i64 n1, .int .i64 n2], .pointer (some ⟨w.heap.size, 0, none⟩), .pointer (some ⟨w.heap.size + 1, 0, none⟩), u4, .pointer (some ⟨g5, 0, none⟩), .int .i64 ↑k, .int .i64 ↑s, .int .i64 kd, .int .i64 0, .slice Al l.length cl, .int .i64 fe, u12, u13, u14, u15, .int .i64 0, .int .i64 4, .pointer (some ⟨g18, 0, none⟩), .pointer (some ⟨g19, 0, none⟩), u20, u21, u22, u23, u24, u25, u26, u27, u28, u29, u30, u31, u32, u33, u34, u35, u36, u37, u38, u39, u40, u41, u42, u43, u44, u45, u46, u47, u48, u49, u50, u51, u52, u53, u54, u55, u56, u57, u58, u59, u60, u61, u62, u63, u64, u65, u66, u67, u68, u69, u70, u71, u72, u73, u74, u75, u76, u77, u78, u79, u80, u81, u82, u83, u84, u85, u86, u87, u88, u89, u90, u91, u92, u93, u94, u95, u96, u97, u98, u99, u100, u101, u102, u103, u104, u105, u106, u107, u108, u109, u110, u111, u112, u113, u114, u115, u116, u117, u118, u119, u120, u121, u122, u123, u124, u125, u126, u127, u128, u129, u130, u131, u132, u133, u134, u135, .tuple #[.int .i64 0, .int .i64 4], .agg (h.cells b), .int .i64 ↑s, .tuple #[.int .i64 0, .int .i64 4], .int .i64 0, .int .i64 4, .pointer (some ⟨w.heap.size, 0, none⟩), .slice (some ad0) b.salts.length h.c0, .int .i64 ↑s, .pointer (some (ad0.add (s * 3))), .pointer (some { block := (ad0.add (s * 3)).block, off := (ad0.add (s * 3)).off + 1 }), .agg #[.int .i64 lo, .int .i64 hi], .agg (h.bare.cells b.bare), .slice (some ⟨W19.heap.size, 0, none⟩) 0 0, .pointer (some ⟨w.heap.size, 0, none⟩), .slice (some ad1) b.salts.length h.c0, .slice (some ⟨gv, 0, none⟩) b.salts.length cap, .pointer (some ⟨g19, 0, none⟩), .int .i64 4, .bool true, (if bb 0 then .pointer (some ⟨g19, 0, none⟩) else undef), (if bb 1 then .slice (some ⟨gv, 0, none⟩) b.salts.length cap else undef), (if bb 2 then .int .i64 ↑s else undef), (if bb 3 then .pointer (some ⟨g18, 0, none⟩) else undef), (if bb 4 then .int .i64 lo else undef), (if bb 5 then .agg #[.int .i64 lo, .int .i64 lo] else undef), (if bb 6 then .pointer (some ⟨gv, s * 3, none⟩) else undef), (if bb 7 then .pointer (some ⟨gv, s * 3 + 1, none⟩) else undef), undef, undef, undef, undef, undef, undef, undef, undef, undef, undef, undef, undef, undef, undef, undef, undef, undef, undef, undef, undef, undef, undef, undef, undef, undef, undef, undef, undef, undef, undef, undef, undef, undef, undef, undef, undef, undef, undef, undef, undef, undef, undef, undef, undef, undef, undef, undef, undef, undef, undef, undef, undef, undef, undef, undef, undef, undef, undef, undef, undef, undef, undef, undef, undef, undef, undef, undef, undef, undef, undef, undef, undef, undef, undef, undef, undef, undef, undef], []⟩ ∧ LsSt w g18 g19 lo hi (h2.cells b.bare) gv b.salts.length cap b.salts (b.salts.set s ⟨(rd_T68 b.salts s).f0, ⟨lo, lo⟩⟩) wq (bb 8)) ?_ ?_ ?_
              · exact ⟨by simp, by simpa using (HL20.out _).on (Below.refl _ _).drew⟩
              · intro i hil bb a wq hI hbi hcame
                obtain ⟨rfl, hst⟩ := hI
                rcases i with _ | _ | _ | _ | _ | _ | _ | _ | _ | i
                · refine op_value rfl rfl (Ops.fld27_0 (g := g19) rfl rfl) ⟨by simp [Act.put, Act.eval, upd], ?_⟩
                  simpa [upd] using hst
                · have hh := hcame
                  simp [Came, Region.binds] at hh
                  refine op_value rfl rfl (Ops.ld22 (x := .tmp 156) (ad := ⟨g19, 0, none⟩) (A := some ⟨gv, 0, none⟩) (n := b.salts.length) (c := cap) rfl (by simp [Act.eval, hh]) ((blk_cell hst.h19 0).trans (by rw [HH2.out]; rfl))) ⟨by simp [Act.put, Act.eval, upd, hh], ?_⟩
                  simpa [upd] using hst
                · refine op_value rfl rfl (x_assign (.inr rfl)) ⟨by simp [Act.put, Act.eval, upd], ?_⟩
                  simpa [upd] using hst
                · refine op_value rfl rfl (Ops.fld39_0 (g := g18) rfl rfl) ⟨by simp [Act.put, Act.eval, upd], ?_⟩
                  simpa [upd] using hst
                · have hh := hcame
                  simp [Came, Region.binds] at hh
                  refine op_value rfl rfl (Ops.ld3 (x := .tmp 159) (ad := ⟨g18, 0, none⟩) (v := lo) rfl (by simp [Act.eval, hh]) ((blk_cell hst.h18 0).trans rfl)) ⟨by simp [Act.put, Act.eval, upd, hh], ?_⟩
                  simpa [upd] using hst
                · have hh := hcame
                  simp [Came, Region.binds] at hh
                  refine op_call rfl rfl (run_call Tryd.func28 (by kernel_rfl) rfl rfl rfl (args := #[.int .i64 lo]) (by simp [Act.eval, hh])) ((only_calls lo wq).mono ?_)
                  rintro e w5 ⟨rfl, hb5⟩
                  refine ⟨_, rfl, by simp [Act.put, upd, hh], ?_⟩
                  simpa [upd] using hst.on hb5
                · have hh := hcame
                  simp [Came, Region.binds] at hh
                  refine op_value rfl rfl (idx22g (x := .tmp 157) (y := .tmp 158) (g := gv) (n := b.salts.length) (c := cap) (k := s) rfl (by simp [Act.eval, hh]) (by simp [Act.eval, hh]) HSL.out) ⟨by simp [Act.put, Act.eval, upd, hh], ?_⟩
                  simpa [upd] using hst
                · have hh := hcame
                  simp [Came, Region.binds] at hh
                  refine op_value rfl rfl (fldO68 (x := .tmp 162) (g := gv) (off := s * 3) rfl (by simp [Act.eval, hh])) ⟨by simp [Act.put, Act.eval, upd, hh], ?_⟩
                  simpa [upd] using hst
                · have hh := hcame
                  simp [Came, Region.binds] at hh
                  have hst' := hst
                  rw [hbi] at hst'
                  refine op_skipE rfl rfl ?_
                  refine Exists.imp (fun w1' hs => ⟨hs.1, ?_⟩) (LsSt.store (p := .tmp 163) (x := .tmp 161) (k := s) rfl hst' HSL.out (by simp [Act.eval, hh]) (by simp [Act.eval, hh]))
                  refine ⟨by simp [Act.put, upd, hh], ?_⟩
                  simpa [upd] using hs.2
                · simp at hil; omega
              · intro bb a wf hI hall
                obtain ⟨rfl, hst⟩ := hI
                refine hK _ _ ?_
                simp only [hall 0 (by simp), hall 1 (by simp), hall 2 (by simp), hall 3 (by simp), hall 4 (by simp), hall 5 (by simp), hall 6 (by simp), hall 7 (by simp), hall 8 (by simp), if_true]
                rw [hall 8 (by simp)] at hst
                have hxs : b.salts.set s ⟨(rd_T68 b.salts s).f0, ⟨lo, lo⟩⟩ = (less b s N).salts := by
                  show _ = b.salts.set s (lessS (rd_T68 b.salts s) N)
                  unfold lessS
                  rw [HL0.out, HL1.out, show hi - (N : Int) = lo by omega]
                have HX1 := Lib.hid (hst.next [])
                have HXS := Lib.hid hxs
                clear hall hK hst hxs
                go_wp2_with (first | ((with_reducible refine gate_dst (N := 165) rfl ?_); refine wpList_load_row rfl 27 _ rfl g19 rfl 27 (h2.cells b.bare) (0, 0) _ HX1.out.h19 Tryd.underlying27 rfl i27 ?_) | (go_at_call 38; refine (strange_at HX1.out HG.out hb HH2.out HXS.out HCK.out HGD.out HSA.out HSL.out (by rw [HL0.out, HL1.out]; omega) HST.out).mono ?_; rintro e2 v10 ⟨rfl, hv10⟩; have HX2 := Lib.hid (HX1.out.on hv10); clear hv10) | (go_at_call 12; refine (rubbed_calls (HG.out.below HX2.out.b)).mono ?_; rintro e2 v11 ⟨rfl, hb11⟩; have HB11 := Lib.hid (below_step HX2.out.b hb11); clear hb11))
                go_ret
                exact ⟨rfl, HB11.out⟩
            · obtain ⟨rfl, rfl⟩ := Prod.mk.inj hp
              have HS1 := Lib.hid hs1
              have HS2 := Lib.hid hs2
              clear hp hs1 hs2 HLF
              have d0 : W20.cell? ⟨g18, 0, none⟩ = some (.int .i64 lo) := (blk_cell (HL20.out []).h18 0).trans rfl
              have d1 : W20.cell? ⟨g18, 1, none⟩ = some (.int .i64 hi) := (blk_cell (HL20.out []).h18 1).trans rfl
              have zd := blk_lt (HL20.out []).h18
              have HFI := Lib.hid (show inB (m : Int) 0 (hi - lo) = true by rw [inB_iff]; omega)
              go_upto_region 27 with (first | (go_at_call 24; refine (fits_calls (m : Int) 0 (hi - lo) _).mono ?_; rintro e2 v9 ⟨rfl, hv9⟩; rw [HFI.out]; have HL21 := Lib.hid (fun ys => (HL20.out ys).on hv9); clear hv9))
              clear d0 d1 zd
              rename_i K hK
              refine draw_inv2 mixed (by kernel_rfl) (fun bb a wq => a = ⟨#[.agg (h.cells b), .agg #[.int .i64 n0, .int .i64 n1, .int .i64 n2], .pointer (some ⟨w.heap.size, 0, none⟩), .pointer (some ⟨w.heap.size + 1, 0, none⟩), u4, .pointer (some ⟨g5, 0, none⟩), .int .i64 ↑k, .int .i64 ↑s, .int .i64 kd, .int .i64 0, .slice Al l.length cl, .int .i64 fe, u12, u13, u14, u15, .int .i64 ↑m, .int .i64 0, .pointer (some ⟨g18, 0, none⟩), .pointer (some ⟨g19, 0, none⟩), u20, u21, u22, u23, u24, u25, u26, u27, u28, u29, u30, u31, u32, u33, u34, u35, u36, u37, u38, u39, u40, u41, u42, u43, u44, u45, u46, u47, u48, u49, u50, u51, u52, u53, u54, u55, u56, u57, u58, u59, u60, u61, u62, u63, u64, u65, u66, u67, u68, u69, u70, u71, u72, u73, u74, u75, u76, u77, u78, u79, u80, u81, u82, u83, u84, u85, u86, u87, u88, u89, u90, u91, u92, u93, u94, u95, u96, u97, u98, u99, u100, u101, u102, u103, u104, u105, u106, u107, u108, u109, u110, u111, u112, u113, u114, u115, u116, u117, u118, u119, u120, u121, u122, u123, u124, u125, u126, u127, u128, u129, u130, u131, u132, u133, u134, u135, .tuple #[.int .i64 ↑m, .int .i64 0], .agg (h.cells b), .int .i64 ↑s, .tuple #[.int .i64 ↑m, .int .i64 0], .int .i64 ↑m, .int .i64 0, .pointer (some ⟨w.heap.size, 0, none⟩), .slice (some ad0) b.salts.length h.c0, .int .i64 ↑s, .pointer (some (ad0.add (s * 3))), .pointer (some { block := (ad0.add (s * 3)).block, off := (ad0.add (s * 3)).off + 1 }), .agg #[.int .i64 lo, .int .i64 hi], .agg (h.bare.cells b.bare), .slice (some ⟨W19.heap.size, 0, none⟩) 0 0, .pointer (some ⟨w.heap.size, 0, none⟩), .slice (some ad1) b.salts.length h.c0, .slice (some ⟨gv, 0, none⟩) b.salts.length cap, .pointer (some ⟨g19, 0, none⟩), .int .i64 0, .bool false, undef, undef, undef, undef, undef, undef, undef, undef, undef, undef, undef, undef, undef, undef, undef, undef, undef, undef, undef, undef, undef, undef, undef, undef, undef, undef, undef, undef, .int .i64 ↑m, .pointer (some ⟨g18, 1, none⟩), .int .i64 hi, .pointer (some ⟨g18, 0, none⟩), .int .i64 lo, .int .i64 (hi - lo), .bool true, .bool false, (if bb 0 then .pointer (some ⟨g19, 0, none⟩) else undef), (if bb 1 then .slice (some ⟨gv, 0, none⟩) b.salts.length cap else undef), (if bb 2 then .int .i64 ↑s else undef), (if bb 3 then .pointer (some ⟨g18, 0, none⟩) else undef), (if bb 4 then .int .i64 lo else undef), (if bb 5 then .pointer (some ⟨g18, 1, none⟩) else undef), (if bb 6 then .int .i64 hi else undef), (if bb 7 then .int .i64 ↑m else undef), (if bb 8 then .int .i64 (hi - m) else undef), (if bb 9 then .agg #[.int .i64 lo, .int .i64 (hi - m)] else undef), (if bb 10 then .pointer (some ⟨gv, s * 3, none⟩) else undef), (if bb 11 then .pointer (some ⟨gv, s * 3 + 1, none⟩) else undef), undef, undef, undef, undef, undef, undef, undef, undef, undef, undef, undef, undef, undef, undef, undef, undef, undef, undef, undef, undef, undef, undef, undef, undef, undef, undef, undef, undef, undef, undef, undef, undef, undef, undef, undef, undef, undef, undef], []⟩ ∧ LsSt w g18 g19 lo hi (h2.cells b.bare) gv b.salts.length cap b.salts (b.salts.set s ⟨(rd_T68 b.salts s).f0, ⟨lo, hi - m⟩⟩) wq (bb 12)) ?_ ?_ ?_
              · exact ⟨by simp, by simpa using (HL21.out _).on (Below.refl _ _).drew⟩
              · intro i hil bb a wq hI hbi hcame
                obtain ⟨rfl, hst⟩ := hI
                rcases i with _ | _ | _ | _ | _ | _ | _ | _ | _ | _ | _ | _ | _ | i
                · refine op_value rfl rfl (Ops.fld27_0 (g := g19) rfl rfl) ⟨by simp [Act.put, Act.eval, upd], ?_⟩
                  simpa [upd] using hst
                · have hh := hcame
                  simp [Came, Region.binds] at hh
                  refine op_value rfl rfl (Ops.ld22 (x := .tmp 192) (ad := ⟨g19, 0, none⟩) (A := some ⟨gv, 0, none⟩) (n := b.salts.length) (c := cap) rfl (by simp [Act.eval, hh]) ((blk_cell hst.h19 0).trans (by rw [HH2.out]; rfl))) ⟨by simp [Act.put, Act.eval, upd, hh], ?_⟩
                  simpa [upd] using hst
                · refine op_value rfl rfl (x_assign (.inr rfl)) ⟨by simp [Act.put, Act.eval, upd], ?_⟩
                  simpa [upd] using hst
                · refine op_value rfl rfl (Ops.fld39_0 (g := g18) rfl rfl) ⟨by simp [Act.put, Act.eval, upd], ?_⟩
                  simpa [upd] using hst
                · have hh := hcame
                  simp [Came, Region.binds] at hh
                  refine op_value rfl rfl (Ops.ld3 (x := .tmp 195) (ad := ⟨g18, 0, none⟩) (v := lo) rfl (by simp [Act.eval, hh]) ((blk_cell hst.h18 0).trans rfl)) ⟨by simp [Act.put, Act.eval, upd, hh], ?_⟩
                  simpa [upd] using hst
                · refine op_value rfl rfl (Ops.fld39_1 (g := g18) rfl rfl) ⟨by simp [Act.put, Act.eval, upd], ?_⟩
                  simpa [upd] using hst
                · have hh := hcame
                  simp [Came, Region.binds] at hh
                  refine op_value rfl rfl (Ops.ld3 (x := .tmp 197) (ad := ⟨g18, 1, none⟩) (v := hi) rfl (by simp [Act.eval, hh]) ((blk_cell hst.h18 1).trans rfl)) ⟨by simp [Act.put, Act.eval, upd, hh], ?_⟩
                  simpa [upd] using hst
                · refine op_value rfl rfl (x_assign (.inr rfl)) ⟨by simp [Act.put, Act.eval, upd], ?_⟩
                  simpa [upd] using hst
                · have hh := hcame
                  simp [Came, Region.binds] at hh
                  refine op_value rfl rfl (x_sub3 (x := .tmp 198) (y := .tmp 199) (i := hi) (j := (m : Int)) rfl (by simp [Act.eval, hh]) (by simp [Act.eval, hh]) (by omega) (by omega)) ⟨by simp [Act.put, Act.eval, upd, hh], ?_⟩
                  simpa [upd] using hst
                · have hh := hcame
                  simp [Came, Region.binds] at hh
                  refine op_call rfl rfl (run_call Tryd.func27 (by kernel_rfl) rfl rfl rfl (args := #[.int .i64 lo, .int .i64 (hi - m)]) (by simp [Act.eval, hh])) ((sp_calls lo (hi - m) wq).mono ?_)
                  rintro e w5 ⟨rfl, hb5⟩
                  refine ⟨_, rfl, by simp [Act.put, upd, hh], ?_⟩
                  simpa [upd] using hst.on hb5
                · have hh := hcame
                  simp [Came, Region.binds] at hh
                  refine op_value rfl rfl (idx22g (x := .tmp 193) (y := .tmp 194) (g := gv) (n := b.salts.length) (c := cap) (k := s) rfl (by simp [Act.eval, hh]) (by simp [Act.eval, hh]) HSL.out) ⟨by simp [Act.put, Act.eval, upd, hh], ?_⟩
                  simpa [upd] using hst
                · have hh := hcame
                  simp [Came, Region.binds] at hh
                  refine op_value rfl rfl (fldO68 (x := .tmp 202) (g := gv) (off := s * 3) rfl (by simp [Act.eval, hh])) ⟨by simp [Act.put, Act.eval, upd, hh], ?_⟩
                  simpa [upd] using hst
                · have hh := hcame
                  simp [Came, Region.binds] at hh
                  have hst' := hst
                  rw [hbi] at hst'
                  refine op_skipE rfl rfl ?_
                  refine Exists.imp (fun w1' hs => ⟨hs.1, ?_⟩) (LsSt.store (p := .tmp 203) (x := .tmp 201) (k := s) rfl hst' HSL.out (by simp [Act.eval, hh]) (by simp [Act.eval, hh]))
                  refine ⟨by simp [Act.put, upd, hh], ?_⟩
                  simpa [upd] using hs.2
                · simp at hil; omega
              · intro bb a wf hI hall
                obtain ⟨rfl, hst⟩ := hI
                refine hK _ _ ?_
                simp only [hall 0 (by simp), hall 1 (by simp), hall 2 (by simp), hall 3 (by simp), hall 4 (by simp), hall 5 (by simp), hall 6 (by simp), hall 7 (by simp), hall 8 (by simp), hall 9 (by simp), hall 10 (by simp), hall 11 (by simp), hall 12 (by simp), if_true]
                rw [hall 12 (by simp)] at hst
                have hxs : b.salts.set s ⟨(rd_T68 b.salts s).f0, ⟨lo, hi - m⟩⟩ = (less b s m).salts := by
                  show _ = b.salts.set s (lessS (rd_T68 b.salts s) m)
                  unfold lessS
                  rw [HL0.out, HL1.out]
                rw [hxs] at hst
                have HX1 := Lib.hid (fun ys => hst.next ys)
                clear hall hK hst hxs
                by_cases hm0 : m = 0
                · subst hm0
                  go_wp2_with (first | ((with_reducible refine gate_dst (N := 205) rfl ?_); refine wpList_load_row rfl 27 _ rfl g19 rfl 27 (h2.cells b.bare) (0, 0) _ (HX1.out []).h19 Tryd.underlying27 rfl i27 ?_) | (go_at_call 38; refine (strange_at (HX1.out []) HG.out hb HH2.out rfl HCK.out HGD.out HSA.out HSL.out (by rw [HL0.out, HL1.out]; omega) HS1.out).mono ?_; rintro e2 v10 ⟨rfl, hv10⟩; have HX2 := Lib.hid ((HX1.out []).on hv10); clear hv10) | (go_at_call 12; refine (rubbed_calls (HG.out.below HX2.out.b)).mono ?_; rintro e2 v11 ⟨rfl, hb11⟩; have HB11 := Lib.hid (below_step HX2.out.b hb11); clear hb11))
                  go_ret
                  exact ⟨rfl, HB11.out⟩
                · have hmz : ((m : Int) == 0) = false := beq_eq_false_iff_ne.2 (by omega)
                  go_upto_region 33 with (first | ((with_reducible refine gate_dst (N := 205) rfl ?_); refine wpList_load_row rfl 27 _ rfl g19 rfl 27 (h2.cells b.bare) (0, 0) _ (HX1.out []).h19 Tryd.underlying27 rfl i27 ?_) | (go_at_call 38; refine (strange_at (HX1.out []) HG.out hb HH2.out rfl HCK.out HGD.out HSA.out HSL.out (by rw [HL0.out, HL1.out]; omega) HS1.out).mono ?_; rintro e2 v10 ⟨rfl, hv10⟩; have HX2 := Lib.hid (fun ys => (HX1.out ys).on hv10); clear hv10))
                  rename_i K hK
                  refine draw_inv2 mixed (by kernel_rfl) (fun bb a wq => a = ⟨#[.agg (h.cells b), .agg #[.int .i64 n0, .int .i64 n1, .int .i64 n2], .pointer (some ⟨w.heap.size, 0, none⟩), .pointer (some ⟨w.heap.size + 1, 0, none⟩), u4, .pointer (some ⟨g5, 0, none⟩), .int .i64 ↑k, .int .i64 ↑s, .int .i64 kd, .int .i64 0, .slice Al l.length cl, .int .i64 fe, u12, u13, u14, u15, .int .i64 ↑m, .int .i64 0, .pointer (some ⟨g18, 0, none⟩), .pointer (some ⟨g19, 0, none⟩), u20, u21, .bool false, .bool true, u24, u25, u26, u27, u28, u29, u30, u31, u32, u33, u34, u35, u36, u37, u38, u39, u40, u41, u42, u43, u44, u45, u46, u47, u48, u49, u50, u51, u52, u53, u54, u55, u56, u57, u58, u59, u60, u61, u62, u63, u64, u65, u66, u67, u68, u69, u70, u71, u72, u73, u74, u75, u76, u77, u78, u79, u80, u81, u82, u83, u84, u85, u86, u87, u88, u89, u90, u91, u92, u93, u94, u95, u96, u97, u98, u99, u100, u101, u102, u103, u104, u105, u106, u107, u108, u109, u110, u111, u112, u113, u114, u115, u116, u117, u118, u119, u120, u121, u122, u123, u124, u125, u126, u127, u128, u129, u130, u131, u132, u133, u134, u135, .tuple #[.int .i64 ↑m, .int .i64 0], .agg (h.cells b), .int .i64 ↑s, .tuple #[.int .i64 ↑m, .int .i64 0], .int .i64 ↑m, .int .i64 0, .pointer (some ⟨w.heap.size, 0, none⟩), .slice (some ad0) b.salts.length h.c0, .int .i64 ↑s, .pointer (some (ad0.add (s * 3))), .pointer (some { block := (ad0.add (s * 3)).block, off := (ad0.add (s * 3)).off + 1 }), .agg #[.int .i64 lo, .int .i64 hi], .agg (h.bare.cells b.bare), .slice (some ⟨W19.heap.size, 0, none⟩) 0 0, .pointer (some ⟨w.heap.size, 0, none⟩), .slice (some ad1) b.salts.length h.c0, .slice (some ⟨gv, 0, none⟩) b.salts.length cap, .pointer (some ⟨g19, 0, none⟩), .int .i64 0, .bool false, undef, undef, undef, undef, undef, undef, undef, undef, undef, undef, undef, undef, undef, undef, undef, undef, undef, undef, undef, undef, undef, undef, undef, undef, undef, undef, undef, undef, .int .i64 ↑m, .pointer (some ⟨g18, 1, none⟩), .int .i64 hi, .pointer (some ⟨g18, 0, none⟩), .int .i64 lo, .int .i64 (hi - lo), .bool true, .bool false, .pointer (some ⟨g19, 0, none⟩), .slice (some ⟨gv, 0, none⟩) b.salts.length cap, .int .i64 ↑s, .pointer (some ⟨g18, 0, none⟩), .int .i64 lo, .pointer (some ⟨g18, 1, none⟩), .int .i64 hi, .int .i64 ↑m, .int .i64 (hi - ↑m), .agg #[.int .i64 lo, .int .i64 (hi - ↑m)], .pointer (some { block := gv, off := s * 3 }), .pointer (some { block := gv, off := s * 3 + 1 }), .tuple #[.bool false, .bool true], .agg (h2.cells b.bare), .tuple #[.bool false, .bool true], .bool false, .bool true, .bool true, .bool false, .bool false, .bool false, .bool false, .int .i64 ↑m, .bool false, undef, (if bb 0 then .pointer (some ⟨g19, 0, none⟩) else undef), (if bb 1 then .slice (some ⟨gv, 0, none⟩) b.salts.length cap else undef), (if bb 2 then .int .i64 ↑s else undef), (if bb 3 then .pointer (some ⟨g18, 0, none⟩) else undef), (if bb 4 then .int .i64 lo else undef), (if bb 5 then .pointer (some ⟨g18, 1, none⟩) else undef), (if bb 6 then .int .i64 hi else undef), (if bb 7 then .int .i64 ↑m else undef), (if bb 8 then .int .i64 (hi - m) else undef), (if bb 9 then .int .i64 (hi - m + 1) else undef), (if bb 10 then .agg #[.int .i64 lo, .int .i64 (hi - m + 1)] else undef), (if bb 11 then .pointer (some ⟨gv, s * 3, none⟩) else undef), (if bb 12 then .pointer (some ⟨gv, s * 3 + 1, none⟩) else undef), undef, undef, undef, undef, undef, undef, undef, undef, undef, undef, undef, undef], []⟩ ∧ LsSt w g18 g19 lo hi (h2.cells b.bare) gv b.salts.length cap (less b s m).salts ((less b s m).salts.set s ⟨(rd_T68 (less b s m).salts s).f0, ⟨lo, hi - m + 1⟩⟩) wq (bb 13)) ?_ ?_ ?_
                  · exact ⟨by simp, by simpa using (HX2.out _).on (Below.refl _ _).drew⟩
                  · intro i hil bb a wq hI hbi hcame
                    obtain ⟨rfl, hst⟩ := hI
                    rcases i with _ | _ | _ | _ | _ | _ | _ | _ | _ | _ | _ | _ | _ | _ | i
                    · refine op_value rfl rfl (Ops.fld27_0 (g := g19) rfl rfl) ⟨by simp [Act.put, Act.eval, upd], ?_⟩
                      simpa [upd] using hst
                    · have hh := hcame
                      simp [Came, Region.binds] at hh
                      refine op_value rfl rfl (Ops.ld22 (x := .tmp 217) (ad := ⟨g19, 0, none⟩) (A := some ⟨gv, 0, none⟩) (n := b.salts.length) (c := cap) rfl (by simp [Act.eval, hh]) ((blk_cell hst.h19 0).trans (by rw [HH2.out]; rfl))) ⟨by simp [Act.put, Act.eval, upd, hh], ?_⟩
                      simpa [upd] using hst
                    · refine op_value rfl rfl (x_assign (.inr rfl)) ⟨by simp [Act.put, Act.eval, upd], ?_⟩
                      simpa [upd] using hst
                    · refine op_value rfl rfl (Ops.fld39_0 (g := g18) rfl rfl) ⟨by simp [Act.put, Act.eval, upd], ?_⟩
                      simpa [upd] using hst
                    · have hh := hcame
                      simp [Came, Region.binds] at hh
                      refine op_value rfl rfl (Ops.ld3 (x := .tmp 220) (ad := ⟨g18, 0, none⟩) (v := lo) rfl (by simp [Act.eval, hh]) ((blk_cell hst.h18 0).trans rfl)) ⟨by simp [Act.put, Act.eval, upd, hh], ?_⟩
                      simpa [upd] using hst
                    · refine op_value rfl rfl (Ops.fld39_1 (g := g18) rfl rfl) ⟨by simp [Act.put, Act.eval, upd], ?_⟩
                      simpa [upd] using hst
                    · have hh := hcame
                      simp [Came, Region.binds] at hh
                      refine op_value rfl rfl (Ops.ld3 (x := .tmp 222) (ad := ⟨g18, 1, none⟩) (v := hi) rfl (by simp [Act.eval, hh]) ((blk_cell hst.h18 1).trans rfl)) ⟨by simp [Act.put, Act.eval, upd, hh], ?_⟩
                      simpa [upd] using hst
                    · refine op_value rfl rfl (x_assign (.inr rfl)) ⟨by simp [Act.put, Act.eval, upd], ?_⟩
                      simpa [upd] using hst
                    · have hh := hcame
                      simp [Came, Region.binds] at hh
                      refine op_value rfl rfl (x_sub3 (x := .tmp 223) (y := .tmp 224) (i := hi) (j := (m : Int)) rfl (by simp [Act.eval, hh]) (by simp [Act.eval, hh]) (by omega) (by omega)) ⟨by simp [Act.put, Act.eval, upd, hh], ?_⟩
                      simpa [upd] using hst
                    · have hh := hcame
                      simp [Came, Region.binds] at hh
                      refine op_value rfl rfl (x_add3 (x := .tmp 225) (y := .const (.int .i64 1)) (i := hi - m) (j := 1) rfl (by simp [Act.eval, hh]) rfl (by omega) (by omega)) ⟨by simp [Act.put, Act.eval, upd, hh], ?_⟩
                      simpa [upd] using hst
                    · have hh := hcame
                      simp [Came, Region.binds] at hh
                      refine op_call rfl rfl (run_call Tryd.func27 (by kernel_rfl) rfl rfl rfl (args := #[.int .i64 lo, .int .i64 (hi - m + 1)]) (by simp [Act.eval, hh])) ((sp_calls lo (hi - m + 1) wq).mono ?_)
                      rintro e w5 ⟨rfl, hb5⟩
                      refine ⟨_, rfl, by simp [Act.put, upd, hh], ?_⟩
                      simpa [upd] using hst.on hb5
                    · have hh := hcame
                      simp [Came, Region.binds] at hh
                      refine op_value rfl rfl (idx22g (x := .tmp 218) (y := .tmp 219) (g := gv) (n := b.salts.length) (c := cap) (k := s) rfl (by simp [Act.eval, hh]) (by simp [Act.eval, hh]) HSL.out) ⟨by simp [Act.put, Act.eval, upd, hh], ?_⟩
                      simpa [upd] using hst
                    · have hh := hcame
                      simp [Came, Region.binds] at hh
                      refine op_value rfl rfl (fldO68 (x := .tmp 228) (g := gv) (off := s * 3) rfl (by simp [Act.eval, hh])) ⟨by simp [Act.put, Act.eval, upd, hh], ?_⟩
                      simpa [upd] using hst
                    · have hh := hcame
                      simp [Came, Region.binds] at hh
                      have hst' := hst
                      rw [hbi] at hst'
                      refine op_skipE rfl rfl ?_
                      refine Exists.imp (fun w1' hs => ⟨hs.1, ?_⟩) (LsSt.store (p := .tmp 229) (x := .tmp 227) (k := s) rfl hst' HSL.out (by simp [Act.eval, hh]) (by simp [Act.eval, hh]))
                      refine ⟨by simp [Act.put, upd, hh], ?_⟩
                      simpa [upd] using hs.2
                    · simp at hil; omega
                  · intro bb a wf hI hall
                    obtain ⟨rfl, hst⟩ := hI
                    refine hK _ _ ?_
                    simp only [hall 0 (by simp), hall 1 (by simp), hall 2 (by simp), hall 3 (by simp), hall 4 (by simp), hall 5 (by simp), hall 6 (by simp), hall 7 (by simp), hall 8 (by simp), hall 9 (by simp), hall 10 (by simp), hall 11 (by simp), hall 12 (by simp), hall 13 (by simp), if_true]
                    rw [hall 13 (by simp)] at hst
                    have hxs : (less b s m).salts.set s ⟨(rd_T68 (less b s m).salts s).f0, ⟨lo, hi - m + 1⟩⟩ = (less b s (m - 1)).salts := by
                      refine set_again b s m (m - 1) _ HSL.out ?_
                      rw [rd_set b s m HSL.out]
                      unfold lessS
                      rw [HL0.out, HL1.out, show hi - (m : Int) + 1 = hi - ((m - 1 : Nat) : Int) by omega]
                    rw [hxs] at hst
                    have HX3 := Lib.hid (hst.next [])
                    have HS3 := Lib.hid (HS2.out (by omega))
                    clear hall hK hst hxs
                    go_wp2_with (first | ((with_reducible refine gate_dst (N := 231) rfl ?_); refine wpList_load_row rfl 27 _ rfl g19 rfl 27 (h2.cells b.bare) (0, 0) _ HX3.out.h19 Tryd.underlying27 rfl i27 ?_) | (go_at_call 38; refine (strange_at HX3.out HG.out hb HH2.out rfl HCK.out HGD.out HSA.out HSL.out (by rw [HL0.out, HL1.out]; omega) HS3.out).mono ?_; rintro e2 v10 ⟨rfl, hv10⟩; have HX4 := Lib.hid (HX3.out.on hv10); clear hv10) | (go_at_call 12; refine (rubbed_calls (HG.out.below HX4.out.b)).mono ?_; rintro e2 v11 ⟨rfl, hb11⟩; have HB11 := Lib.hid (below_step HX4.out.b hb11); clear hb11))
                    go_ret
                    exact ⟨rfl, HB11.out⟩
end Go.Proofs.YtghpoldlddghjaaDoor
namespace Go.Proofs.YtghpoldlddghjaaDoor.pasteBlame
open Go Go.ChangeShapes Go.WideShapes Go.ChangeAt Go.RowKit
open Go.Proofs.YtghpoldlddghjaaDoorW.PrintWords Go.Proofs.YtghpoldlddghjaaDoorW.PrintMore Go.Proofs.YtghpoldlddghjaaDoor.PPasteTrue
set_option maxRecDepth 100000 in
theorem contract (H : Type) (enc : TypeId × Value → H) (W : World) (base : Nat) (args : Array Value) (ds gs : List (DataW H)) (before : List MemPlace)
    (hval : ∀ (j : Nat) t v, Tryd.f7.params[j]? = some t → args[j]? = some v → Value.okWide Tryd.prog W .any base t v)
    (hW : DataW.Whole enc Tryd.prog Tryd.f7.params.toList Rows.pasteBlameSpec.vars false W args.toList ds gs before) (hL : laidMetH Tryd.prog Rows.pasteBlameRow.laid W) :
    Calls Tryd.prog 7 args W fun e W' => ∃ v, e = .returned v ∧ Rows.pasteBlameSpec.post enc Tryd.prog Tryd.f7 false true false false W args v W' := by
  have hW' := hW
  obtain ⟨p, q, hA0, hV, rfl, hfz, hnd⟩ := hW
  have hA : DataW.TrodAll enc Tryd.prog W 0 (fun _ => true) true Tryd.f7.params.toList args.toList ds p := hA0
  rw [Tryd.params7] at hA hval
  obtain ⟨v0, vs0, d0, ds0, p0, q0, hargs, rfl, rfl, h0, r0⟩ := trodAll_cons hA
  obtain ⟨v1, vs1, d1, ds1, p1, q1, rfl, rfl, rfl, h1, r1⟩ := trodAll_cons r0
  obtain ⟨rfl, rfl, rfl⟩ := trodAll_nil r1
  obtain rfl : args = #[v0, v1] := by cases args; simp_all
  obtain ⟨rfl, rfl⟩ := trodVars_none hV
  have k0 := h0
  have lt0 : ∀ x ∈ p0, x.block < W.heap.size := by obtain ⟨m, hm⟩ := k0; exact DataW.trod_lt m _ _ _ hm
  obtain ⟨hh, b, rfl, hb⟩ := open27 (hval 0 27 v0 rfl rfl) h0
  have k1 := h1
  have lt1 : ∀ x ∈ p1, x.block < W.heap.size := by obtain ⟨m, hm⟩ := k1; exact DataW.trod_lt m _ _ _ hm
  obtain ⟨n1, m1, o1, rfl⟩ := openArr3 (hval 1 64 v1 rfl rfl) h1
  clear hA0 hval
  refine (pasteBlame_calls (asks_of_laid hL) hb n1 m1 o1).mono fun e W' ⟨he, bel⟩ => ?_
  subst he
  exact ⟨_, rfl, _, _, _, [], _, [], hW', trodAll_mk1 (shut_bool Tryd.underlying4 _), (trodAll_cons_mk (Below.trod laidOut (by kernel_rfl) (of_decide_eq_true (by kernel_rfl)) k0 bel lt0) (trodAll_cons_mk (Below.trod laidOut (by kernel_rfl) (of_decide_eq_true (by kernel_rfl)) k1 bel lt1) trodAll_mk0)), rfl, bel.frame _, fun h => by cases h⟩
theorem reads (os : Os) {H : Type} (enc : TypeId × Value → H) : ∃ places, DataW.whole enc Tryd.prog ((World.doorLaid Tryd.prog 600 os).forCall (fun _ _ => 0) ⟨#[], #[.agg #[.slice none 0 0, .slice none 0 0, .slice none 0 0, .int .i64 0, .slice none 0 0], .agg #[.int .i64 0, .int .i64 0, .int .i64 0]], []⟩).memory Tryd.f7.params.toList Rows.pasteBlameSpec.vars false (#[.agg #[.slice none 0 0, .slice none 0 0, .slice none 0 0, .int .i64 0, .slice none 0 0], .agg #[.int .i64 0, .int .i64 0, .int .i64 0]] : Array Value).toList 8 = some ([.agg [.nil, .nil, .nil, .lit (.int .i64 0), .nil], .agg [.lit (.int .i64 0), .lit (.int .i64 0), .lit (.int .i64 0)]], [], places) :=
  ⟨[], by kernel_rfl⟩
set_option maxRecDepth 100000 in
theorem lifted (os : Os) (started : os.Started) (H : Type) (enc : TypeId × Value → H) (F : Stop.Interp) :
    ReturnsInHanded {} Tryd.checked os 7 .any ((OpenSpec.ofChange Rows.pasteBlameSpec).preRow enc Tryd.prog Tryd.f7 Rows.pasteBlameRow.domain false Rows.pasteBlameRow.laid) (((OpenSpec.ofChange Rows.pasteBlameSpec).at F).post enc Tryd.prog Tryd.f7 false true false false) := by
  obtain ⟨places, hx⟩ := reads os enc
  refine returnsInHanded_of_row (C := Tryd.checked) (s := OpenSpec.ofChange Rows.pasteBlameSpec) own started (by kernel_rfl) Tryd.func7
    (witness_row_atRef (enc := enc) (C := Tryd.checked) false (World.doorLaid Tryd.prog 600 os) #[.agg #[.slice none 0 0, .slice none 0 0, .slice none 0 0, .int .i64 0, .slice none 0 0], .agg #[.int .i64 0, .int .i64 0, .int .i64 0]] rfl (by kernel_rfl) (by kernel_rfl) (by kernel_rfl)
      (OpenSpec.preRow_of_cond 8 hx (by kernel_rfl) (fun k hk => by cases hk) (by kernel_rfl) (door_met os _))) ?_
  intro W base args ds gs before hval hW _ _ _ hL _ _
  exact contract H enc W base args ds gs before hval hW hL
theorem said : Rows.PasteBlameSaid :=
  OpenClaim.holds_of_cond 7 Tryd.f7 rfl rfl rfl rfl rfl rfl rfl ⟨rfl, rfl, rfl, rfl, rfl⟩ rfl rfl rfl rfl rfl (by kernel_rfl) Tryd.func7 (by kernel_rfl)
    (of_decide_eq_true (by kernel_rfl)) (by unfold Func.isWrapper; first | (rw [if_pos (by decide +kernel)]; kernel_rfl) | (rw [if_neg (by decide +kernel)]; exact ⟨rfl, rfl⟩))
    (fun os started H enc _ F => by rw [OpenClaim.pre_eq_preRow]; exact lifted os started H enc F)
theorem plain (f : FuncId) (fn : Func) (hf : Tryd.pinned.checked.prog.funcNamed "lucifer/luciferlaw02.PasteBlame" = some f) (hfn : Tryd.pinned.checked.prog.funcs[f]? = some fn) :
    false = Tryd.pinned.checked.prog.looks [] ∧ ∀ (j : Nat) t, fn.params[j]? = some t → Tryd.pinned.checked.prog.wantsStandIn t = false := by
  obtain rfl : f = 7 := Option.some.inj ((show Tryd.prog.funcNamed "lucifer/luciferlaw02.PasteBlame" = some 7 by kernel_rfl).symm.trans hf) |>.symm
  obtain rfl : fn = Tryd.f7 := (Option.some.inj (Tryd.func7.symm.trans hfn)).symm
  refine ⟨by kernel_rfl, fun j t ht => ?_⟩
  rw [Tryd.params7] at ht
  have w0 : Tryd.prog.wantsStandIn 27 = false := by kernel_rfl
  have w1 : Tryd.prog.wantsStandIn 64 = false := by kernel_rfl
  have hm : t = 27 ∨ t = 64 := by simpa using Array.mem_of_getElem? ht
  rcases hm with rfl | rfl
  · exact w0
  · exact w1
theorem card : Rows.PasteBlameCardSaid :=
  Claim7.holds_tied_plain_at .later [] _ _ _ _ said (fun _ h => by cases h) (by kernel_rfl) (fun _ h => by cases h) pasteBlame_row_tie rfl ⟨rfl, rfl⟩ (by kernel_rfl) rfl plain (by kernel_rfl)
end Go.Proofs.YtghpoldlddghjaaDoor.pasteBlame
namespace Go.Proofs.YtghpoldlddghjaaDoor
theorem pasteBlame_card : Rows.PasteBlameCardSaid := pasteBlame.card
end Go.Proofs.YtghpoldlddghjaaDoor
