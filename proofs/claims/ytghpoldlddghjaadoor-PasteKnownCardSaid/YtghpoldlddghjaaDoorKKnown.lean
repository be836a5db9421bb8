/- The law PasteKnown: its walk, its row and its card. Conditions: none. -/
import Derived.Test.YtghpoldlddghjaaDoorM4
import Derived.Test.YtghpoldlddghjaaDoorMY
import Derived.Test.YtghpoldlddghjaaDoorM3
import Derived.Test.YtghpoldlddghjaaDoorMX
import Derived.Deep.CutRange
import Derived.Test.YtghpoldlddghjaaDoorCards
import Derived.Test.YtghpoldlddghjaaDoorTie
import Derived.WalkKit
import Derived.ProofKit
import Derived.OpenShut
import Derived.Deep.DeepHandedRow
import Derived.Deep.DeepWitnessRowRef
set_option linter.unusedVariables false
set_option linter.unusedSimpArgs false
namespace Go.Proofs.YtghpoldlddghjaaDoor
open Go Go.RowKit
open Go.Proofs.YtghpoldlddghjaaDoorW.PrintWords Go.Proofs.YtghpoldlddghjaaDoorW.PrintMore Go.Proofs.YtghpoldlddghjaaDoor.PPasteTrue
end Go.Proofs.YtghpoldlddghjaaDoor
namespace Go.Proofs.YtghpoldlddghjaaDoor
open Go Go.RowKit
open Go.Proofs.YtghpoldlddghjaaDoorW.PrintWords Go.Proofs.YtghpoldlddghjaaDoorW.PrintMore Go.Proofs.YtghpoldlddghjaaDoor.PPasteTrue
section
variable {w : World} {h : Hd} {b : Bk} {l : List (Nat × Int × Int)} {hx h' : Hd} {t : S59} {g : Nat} {r : Int × Int} {wq w1 : World} {b3 b4 b8 b9 : Bool}
end
end Go.Proofs.YtghpoldlddghjaaDoor
namespace Go.Proofs.YtghpoldlddghjaaDoor
open Go Go.RowKit
open Go.Proofs.YtghpoldlddghjaaDoorW.PrintWords Go.Proofs.YtghpoldlddghjaaDoorW.PrintMore Go.Proofs.YtghpoldlddghjaaDoor.PPasteTrue
end Go.Proofs.YtghpoldlddghjaaDoor
namespace Go.Proofs.YtghpoldlddghjaaDoor.Ops
open Go Go.RowKit Go.Proofs.YtghpoldlddghjaaDoor
open Go.Proofs.YtghpoldlddghjaaDoorW.PrintWords Go.Proofs.YtghpoldlddghjaaDoorW.PrintMore Go.Proofs.YtghpoldlddghjaaDoor.PPasteTrue
section
variable {ρ : Operand → Value} {o : Oper} {w : World}
theorem ld22 {x : Operand} (ho : o.op = .load 22 x) {ad : Addr} {A : Option Addr} {n c : Nat} (hx : ρ x = .pointer (some ad)) (hc : w.cell? ad = some (.slice A n c)) : (execOp ρ o).run Tryd.prog w = .ok (.value (.slice A n c)) w := by
  unfold execOp
  simp only [ho, hx]
  go_simp
theorem ld24 {x : Operand} (ho : o.op = .load 24 x) {ad : Addr} {A : Option Addr} {n c : Nat} (hx : ρ x = .pointer (some ad)) (hc : w.cell? ad = some (.slice A n c)) : (execOp ρ o).run Tryd.prog w = .ok (.value (.slice A n c)) w := by
  unfold execOp
  simp only [ho, hx]
  go_simp
theorem idx22 {x y : Operand} (ho : o.op = .indexAddr 22 x y) {ad : Addr} {n c : Nat} {i : Int} (hx : ρ x = .slice (some ad) n c) (hy : ρ y = .int .i64 i) (h0 : 0 ≤ i) (h1 : i < n) : (execOp ρ o).run Tryd.prog w = .ok (.value (.pointer (some (ad.add (i.toNat * 3))))) w := by
  unfold execOp
  simp only [ho, hx, hy]
  go_simp
end
end Go.Proofs.YtghpoldlddghjaaDoor.Ops
namespace Go.Proofs.YtghpoldlddghjaaDoor.PPasteTrue
open Go.RowKit Go.Proofs.YtghpoldlddghjaaDoorW.PrintWords Go.Proofs.YtghpoldlddghjaaDoorW.PrintLast Go.Proofs.YtghpoldlddghjaaDoorW.PrintMore
attribute [local go_sem] max2_int min2_int max_two min_two max_three min_three max_four min_four   -- for this text's walks alone
end Go.Proofs.YtghpoldlddghjaaDoor.PPasteTrue
namespace Go.Proofs.YtghpoldlddghjaaDoor
open Go Go.RowKit
open Go.Proofs.YtghpoldlddghjaaDoorW.PrintWords Go.Proofs.YtghpoldlddghjaaDoorW.PrintMore Go.Proofs.YtghpoldlddghjaaDoor.PPasteTrue
end Go.Proofs.YtghpoldlddghjaaDoor
namespace Go.Proofs.YtghpoldlddghjaaDoor
open Go Go.RowKit
open Go.Proofs.YtghpoldlddghjaaDoorW.PrintWords Go.Proofs.YtghpoldlddghjaaDoorW.PrintMore Go.Proofs.YtghpoldlddghjaaDoor.PPasteTrue
end Go.Proofs.YtghpoldlddghjaaDoor
namespace Go.Proofs.YtghpoldlddghjaaDoor
open Go Go.RowKit
open Go.Proofs.YtghpoldlddghjaaDoorW.PrintWords Go.Proofs.YtghpoldlddghjaaDoorW.PrintMore Go.Proofs.YtghpoldlddghjaaDoor.PPasteTrue
end Go.Proofs.YtghpoldlddghjaaDoor
namespace Go.Proofs.YtghpoldlddghjaaDoor
open Go Go.RowKit
open Go.Proofs.YtghpoldlddghjaaDoorW.PrintWords Go.Proofs.YtghpoldlddghjaaDoorW.PrintMore Go.Proofs.YtghpoldlddghjaaDoor.PPasteTrue
section
variable {V : World} {cb : Array Value} {ps ps1 : List S77} {gE : Nat} {v10 v : Value} {A A' : Option Addr} {n c n' c' : Nat} {wq w1 : World} {b0 b5 b11 b13 : Bool}
end
section
variable {V : World} {g18 g19 : Nat} {lo hi : Int} {cells : Array Value} {gv n cap : Nat} {xs xs' : List S68} {wq w1 : World} {bl : Bool}
end
theorem idx22g {ρ : Operand → Value} {o : Oper} {w : World} {x y : Operand} (ho : o.op = .indexAddr 22 x y) {g n c k : Nat} (hx : ρ x = .slice (some ⟨g, 0, none⟩) n c) (hy : ρ y = .int .i64 (k : Int)) (h1 : k < n) : (execOp ρ o).run Tryd.prog w = .ok (.value (.pointer (some ⟨g, k * 3, none⟩))) w := by
  have := Ops.idx22 (w := w) ho hx hy (by omega) (by omega)
  rw [this, Int.toNat_natCast, add_plain]
theorem fldO68 {ρ : Operand → Value} {o : Oper} {w : World} {x : Operand} (ho : o.op = .fieldAddr 68 x 1) {g off : Nat} (hx : ρ x = .pointer (some ⟨g, off, none⟩)) : (execOp ρ o).run Tryd.prog w = .ok (.value (.pointer (some ⟨g, off + 1, none⟩))) w := by
  unfold execOp
  simp only [ho, hx]
  go_simp
theorem op_skipE {P : Program} {ops : Array Oper} {Q : Exit → Act → World → Prop} {i : Nat} {o : Oper} {K : Act → World → Prop} {a : Act} {w : World} (ho : ops[i]? = some o) (hw : Region.wanted o (yielded ops a.tmps) = true) (h : ∃ w1, (execOp a.eval o).run P w = .ok .skip w1 ∧ K (a.put o.dst undef) w1) : wpOp P ops Q i K a w := by
  obtain ⟨w1, h1, h2⟩ := h
  exact op_skip ho hw h1 h2
end Go.Proofs.YtghpoldlddghjaaDoor
namespace Go.Proofs.YtghpoldlddghjaaDoor
open Go Go.RowKit
open Go.Proofs.YtghpoldlddghjaaDoorW.PrintWords Go.Proofs.YtghpoldlddghjaaDoorW.PrintMore Go.Proofs.YtghpoldlddghjaaDoor.PPasteTrue
structure OwnB (wq : World) (b0 : Nat) (ok : Nat → Prop) (h : Hd) (b : Bk) : Prop where
  s : k68.R 68 wq b0 ok (.slice h.A0 b.salts.length h.c0) b.salts
  p : k77.R 77 wq b0 ok (.slice h.A1 b.pairs.length h.c1) b.pairs
  u : k47.R 47 wq b0 ok (.slice h.A2 b.surfs.length h.c2) b.surfs
  t : k59.R 59 wq b0 ok (.slice h.A4 b.trials.length h.c4) b.trials
theorem OwnB.below {wq w1 : World} {b0 : Nat} {ok : Nat → Prop} {h : Hd} {b : Bk} (x : OwnB wq b0 ok h b) (hb : Below wq.heap.size wq w1) : OwnB w1 b0 ok h b := ⟨Kd.R_below x.s hb, Kd.R_below x.p hb, Kd.R_below x.u hb, Kd.R_below x.t hb⟩
theorem OwnB.mono {wq : World} {b0 : Nat} {ok ok' : Nat → Prop} {h : Hd} {b : Bk} (x : OwnB wq b0 ok h b) (hk : ∀ k, ok k → ok' k) : OwnB wq b0 ok' h b := ⟨Kd.R_mono x.s hk, Kd.R_mono x.p hk, Kd.R_mono x.u hk, Kd.R_mono x.t hk⟩
theorem OwnB.keep {wq w1 : World} {b0 : Nat} {ok : Nat → Prop} {h : Hd} {b : Bk} (x : OwnB wq b0 ok h b) (hk : ∀ k, ok k → k < wq.heap.size → w1.heap[k]? = wq.heap[k]?) : OwnB w1 b0 ok h b := ⟨Kd.R_step x.s hk, Kd.R_step x.p hk, Kd.R_step x.u hk, Kd.R_step x.t hk⟩
theorem OwnB.bk {wq : World} {b0 : Nat} {ok : Nat → Prop} {h : Hd} {b : Bk} (x : OwnB wq b0 ok h b) : BkIn wq h b := by
  obtain ⟨_, a2, a3⟩ := Kd.R_reads' x.s
  obtain ⟨_, b2, b3⟩ := Kd.R_reads' x.p
  obtain ⟨_, c2, c3⟩ := Kd.R_reads' x.u
  obtain ⟨_, d2, d3⟩ := Kd.R_reads' x.t
  exact ⟨a3, b3, c3, d3, a2, b2, c2, d2⟩
theorem own_of_rows {w : World} {base : Nat} {ok : Nat → Prop} {v0 v1 v2 v4 : Value} (b : Bk) (h0 : Kd.R k68 68 w base ok v0 b.salts) (h1 : Kd.R k77 77 w base ok v1 b.pairs) (h2 : Kd.R k47 47 w base ok v2 b.surfs) (h4 : Kd.R k59 59 w base ok v4 b.trials) :
    ∃ h : Hd, #[v0, v1, v2, .int .i64 b.need, v4] = h.cells b ∧ OwnB w base ok h b := by
  obtain ⟨A0, c0, e0, _, _⟩ := Kd.R_reads h0
  obtain ⟨A1, c1, e1, _, _⟩ := Kd.R_reads h1
  obtain ⟨A2, c2, e2, _, _⟩ := Kd.R_reads h2
  obtain ⟨A4, c4, e4, _, _⟩ := Kd.R_reads h4
  subst e0 e1 e2 e4
  exact ⟨⟨A0, c0, A1, c1, A2, c2, A4, c4⟩, rfl, h0, h1, h2, h4⟩
theorem book_own {u : Value} {ts : List S59} {w0 w : World} {P0 : Nat → Prop} (hB : Below w0.heap.size w0 w) (hr : Kd.R k59 59 w w0.heap.size P0 u ts) :
    Calls Tryd.prog 41 #[u] w fun e w' => ∃ h : Hd, e = .returned (.agg (h.cells (bookB ts))) ∧ OwnB w' w0.heap.size (fun k => P0 k ∨ (w.heap.size ≤ k ∧ k < w'.heap.size)) h (bookB ts) ∧ Below w0.heap.size w0 w' ∧ Kept w w' P0 := by
  refine (luciferlaw02_book.calls P0 u ts _ _ _ _ _ w0 w hB hr (book_f ts)).mono ?_
  rintro e w' ⟨v0, v1, v2, v4, rfl, h0, h1, h2, h4, hb, hk⟩
  have key : ∀ k, ((P0 k ∨ w.heap.size ≤ k) ∧ w0.heap.size ≤ k ∧ k < w'.heap.size ∧ True) → (P0 k ∨ (w.heap.size ≤ k ∧ k < w'.heap.size)) := by
    rintro k ⟨h1 | h1, _, h3, _⟩
    · exact .inl h1
    · exact .inr ⟨h1, h3⟩
  obtain ⟨h, he, hi⟩ := own_of_rows (bookB ts) (Kd.R_mono (Kd.R_bound h0) (fun k hk => key k ⟨hk.1, hk.2.1, hk.2.2.1, trivial⟩)) (Kd.R_mono (Kd.R_bound h1) (fun k hk => key k ⟨hk.1, hk.2.1, hk.2.2.1, trivial⟩)) (Kd.R_mono (Kd.R_bound h2) (fun k hk => key k ⟨hk.1, hk.2.1, hk.2.2.1, trivial⟩)) (Kd.R_mono (Kd.R_bound h4) (fun k hk => key k ⟨hk.1, hk.2.1, hk.2.2.1, trivial⟩))
  exact ⟨h, by rw [← he], hi, hb, hk⟩
theorem book_new {w : World} : Calls Tryd.prog 41 #[.slice none 0 0] w fun e w' => ∃ h : Hd, e = .returned (.agg (h.cells (bookB []))) ∧ OwnB w' w.heap.size (fun k => w.heap.size ≤ k ∧ k < w'.heap.size) h (bookB []) ∧ Below w.heap.size w w' := by
  refine (book_own (P0 := fun _ => False) (Below.refl w.heap.size w) (Kd.R_nil _ _ _ _ _)).mono ?_
  rintro e w' ⟨h, he, ho, hb, _⟩
  exact ⟨h, he, ho.mono (fun k hk => hk.resolve_left id), hb⟩
def upB (B : Nat → Bk) (j : Nat) (b : Bk) : Nat → Bk := fun i => if i = j then b else B i
def flatB (H : Nat → Hd) (B : Nat → Bk) : Array Value := ((List.range 14).flatMap fun j => ((H j).cells (B j)).toList).toArray
theorem flat_at (H : Nat → Hd) (B : Nat → Bk) {j : Nat} (hj : j < 14) {m : Nat} (hm : m < 5) : (flatB H B)[5 * j + m]? = ((H j).cells (B j))[m]? := by
  have hm' : m = 0 ∨ m = 1 ∨ m = 2 ∨ m = 3 ∨ m = 4 := by omega
  have hj' : j = 0 ∨ j = 1 ∨ j = 2 ∨ j = 3 ∨ j = 4 ∨ j = 5 ∨ j = 6 ∨ j = 7 ∨ j = 8 ∨ j = 9 ∨ j = 10 ∨ j = 11 ∨ j = 12 ∨ j = 13 := by omega
  rcases hm' with rfl | rfl | rfl | rfl | rfl <;> rcases hj' with rfl | rfl | rfl | rfl | rfl | rfl | rfl | rfl | rfl | rfl | rfl | rfl | rfl | rfl <;> rfl
theorem flat_same {H : Nat → Hd} {B B' : Nat → Bk} (h : ∀ j, j < 14 → (H j).cells (B j) = (H j).cells (B' j)) : flatB H B = flatB H B' := by
  unfold flatB
  congr 1
  have : ∀ l : List Nat, (∀ j ∈ l, j < 14) → (l.flatMap fun j => ((H j).cells (B j)).toList) = l.flatMap fun j => ((H j).cells (B' j)).toList := by
    intro l
    induction l with
    | nil => intro _; rfl
    | cons x l ih =>
      intro hl
      rw [List.flatMap_cons, List.flatMap_cons, ih (fun j hj => hl j (by simp [hj])), h x (hl x (by simp))]
  exact this _ (fun j hj => List.mem_range.1 hj)
structure Bad (w : World) (gb : Nat) (O : Nat → Nat → Prop) (H : Nat → Hd) (B : Nat → Bk) (wq : World) : Prop where
  b : Below w.heap.size w wq
  o : ∀ j, j < 14 → ∀ k, O j k → w.heap.size ≤ k ∧ k < gb
  d : ∀ i j, i < 14 → j < 14 → i ≠ j → ∀ k, O i k → ¬ O j k
  g : w.heap.size ≤ gb
  blk : wq.heap[gb]? = some (.cells (flatB H B) 27 (0, 0))
  own : ∀ j, j < 14 → OwnB wq w.heap.size (O j) (H j) (B j)
section
variable {w : World} {gb : Nat} {O : Nat → Nat → Prop} {H : Nat → Hd} {B : Nat → Bk} {wq w1 : World}
theorem Bad.on (x : Bad w gb O H B wq) (hb : Below wq.heap.size wq w1) : Bad w gb O H B w1 := ⟨below_step x.b hb, x.o, x.d, x.g, blk_below x.blk hb, fun j hj => (x.own j hj).below hb⟩
theorem Bad.cell (x : Bad w gb O H B wq) {j : Nat} (hj : j < 14) {m : Nat} (hm : m < 5) : wq.cell? ⟨gb, 5 * j + m, none⟩ = ((H j).cells (B j))[m]? := (blk_cell x.blk _).trans (flat_at H B hj hm)
theorem Bad.turn (x : Bad w gb O H B wq) {j : Nat} (hj : j < 14) {g : Nat} (hg : O j g) (hgr : wq.grownBy w1 (some g)) {b : Bk} (hown : OwnB w1 w.heap.size (O j) (H j) b) (hc : (H j).cells (B j) = (H j).cells b) : Bad w gb O H (upB B j b) w1 := by
  have hgo := x.o j hj g hg
  refine ⟨x.b.grown hgr x.b.size (fun k hk => by cases hk; exact hgo.1), x.o, x.d, x.g, ?_, fun i hi => ?_⟩
  · rw [← flat_same (B := B) (B' := upB B j b) (fun i hi => by
      unfold upB
      by_cases e : i = j
      · rw [if_pos e, e]; exact hc
      · rw [if_neg e])]
    exact blk_grown x.blk hgr (by simp; omega)
  · unfold upB
    by_cases e : i = j
    · rw [if_pos e, e]; exact hown
    · rw [if_neg e]
      refine (x.own i hi).keep (fun k hk hlt => hgr.block k hlt (fun h => ?_))
      cases h
      exact x.d i j hi hj e _ hk hg
end
end Go.Proofs.YtghpoldlddghjaaDoor
namespace Go.Proofs.YtghpoldlddghjaaDoor
open Go Go.RowKit
open Go.Proofs.YtghpoldlddghjaaDoorW.PrintWords Go.Proofs.YtghpoldlddghjaaDoorW.PrintMore Go.Proofs.YtghpoldlddghjaaDoor.PPasteTrue
theorem R_store_ok {P : Program} {α : Type} (d : Kd α) {ρ : Operand → Value} {o : Oper} {W : World} {base : Nat} {ok : Nat → Prop} (t : TypeId) (p x : Operand) (ho : o.op = .store t p x) (e : TypeId) {g n cap o' : Nat} (i j : Nat) (xs : List α) (x' : α) (u : Value) (seg c : List Value)
    (haddr : ρ p = .pointer (some ⟨g, o', none⟩)) (hoff : o' = i * d.sz + j) (hx : ρ x = u) (hu : u.cells.toList = seg) (ht : (P.info? t).map (·.size) = some seg.length) (h1 : ∀ q ∈ seg, q.oneCell' = true)
    (HO : d.R e W base ok (.slice (some ⟨g, 0, none⟩) n cap) xs) (hi : i < n) (hcl : c.length = d.sz) (hcc : ∀ j u, c[j]? = some u → W.cell? ⟨g, i * d.sz + j, none⟩ = some u)
    (hj : j + seg.length ≤ d.sz) (hM : d.M W base (fun _ => False) x' (c.take j ++ seg ++ c.drop (j + seg.length))) :
    ∃ w1, (execOp ρ o).run P W = .ok .skip w1 ∧ d.R e w1 base ok (.slice (some ⟨g, 0, none⟩) n cap) (xs.set i x') ∧ W.grownBy w1 (some g) ∧ ok g := by
  subst hoff
  have hok : ok g := HO.1 g (by simp [Value.ownBlock])
  obtain ⟨hrow, hg⟩ := Kd.R_seg HO (i : Int) (by omega) (by omega) hcl (by simpa using hcc) hj hM (fun _ h => h.elim)
  have hnx : n = xs.length := (Kd.R_reads' HO).1
  obtain ⟨_, inner, hown, hr⟩ := HO
  have hrun : (Instr.storeAt t (.pointer (some ⟨g, i * d.sz + j, none⟩)) u).run P W = .ok () (W.setCells g (i * d.sz + j) seg) := by
    rcases hown.2 with ⟨hv, _⟩ | ⟨g', cap', cur, hv, hb, hh, hnc, hcm, hcs, _⟩
    · cases hv
    injection hv with ha _ hc
    injection ha with ha
    injection ha with hg'
    subst hg'; subst hc
    refine run_store_run t u seg hh hu ht ?_ h1
    have h2 : i * d.sz + d.sz ≤ n * d.sz := by rw [← Nat.succ_mul]; exact Nat.mul_le_mul_right _ hi
    have h3 : n * d.sz ≤ cap * d.sz := Nat.mul_le_mul_right _ (by omega)
    omega
  refine ⟨W.setCells g (i * d.sz + j) seg, ?_, by simpa using hrow, by simpa using hg, hok⟩
  unfold execOp
  simp only [ho, haddr, hx, Sem.run_bind, Sem.run_pure, Result.andThen_ok, hrun]
section
variable {w : World} {gb : Nat} {O : Nat → Nat → Prop} {H : Nat → Hd} {B : Nat → Bk} {wq : World} {ρ : Operand → Value} {o : Oper}
theorem Bad.salt_at (x : Bad w gb O H B wq) {j : Nat} (hj : j < 14) (hl : 0 < (B j).salts.length) : ∃ g, (H j).A0 = some ⟨g, 0, none⟩ := by
  obtain ⟨g, cap, hv, _⟩ := Kd.R_form (x.own j hj).s hl
  injection hv with h1
  exact ⟨g, h1⟩
theorem Bad.salt (x : Bad w gb O H B wq) {j : Nat} (hj : j < 14) {g : Nat} (hA : (H j).A0 = some ⟨g, 0, none⟩) (t : TypeId) (p y : Operand) (ho : o.op = .store t p y) {i off o' : Nat} (hi : i < (B j).salts.length) (x' : S68) (u : Value) (seg c : List Value) (hc : c = [Value.int .i64 (rd_T68 (B j).salts (i : Int)).f0, Value.int .i64 (rd_T68 (B j).salts (i : Int)).f1.f0, Value.int .i64 (rd_T68 (B j).salts (i : Int)).f1.f1])
    (hp : ρ p = .pointer (some ⟨g, o', none⟩)) (hoff : o' = i * 3 + off) (hy : ρ y = u) (hu : u.cells.toList = seg) (ht : (Tryd.prog.info? t).map (·.size) = some seg.length) (h1 : ∀ q ∈ seg, q.oneCell' = true) (hs : off + seg.length ≤ 3) (hM : k68.M wq w.heap.size (fun _ => False) x' (c.take off ++ seg ++ c.drop (off + seg.length))) :
    ∃ w1, (execOp ρ o).run Tryd.prog wq = .ok .skip w1 ∧ Bad w gb O H (upB B j { B j with salts := (B j).salts.set i x' }) w1 := by
  have hown := x.own j hj
  have hr := hown.s
  rw [hA] at hr
  obtain ⟨q1, q2, q3⟩ := Kd.R_reads' hr
  obtain ⟨ad, had, t0, t1, t2⟩ := at_T68 q3 (i : Int) (by omega) (by omega)
  obtain rfl := Option.some.inj had
  simp only [Int.toNat_natCast, add_plain] at t0 t1 t2
  have hcc : ∀ (m : Nat) (z : Value), c[m]? = some z → wq.cell? ⟨g, i * k68.sz + m, none⟩ = some z := by
    intro m z hz
    rw [hc] at hz
    rcases m with _ | _ | _ | m
    · cases hz; exact t0
    · cases hz; exact t1
    · cases hz; exact t2
    · simp at hz
  obtain ⟨cells, hblk⟩ := Kd.R_typed hr g (by simp [Value.ownBlock])
  obtain ⟨w1, r1, r2, r3, r4⟩ := R_store_ok (P := Tryd.prog) k68 (ρ := ρ) (o := o) t p y ho 68 i off (B j).salts x' u seg c hp hoff hy hu ht h1 hr hi (by rw [hc]; rfl) hcc hs hM
  refine ⟨w1, r1, x.turn hj r4 r3 ?_ (by simp [Hd.cells])⟩
  have go : ∀ k, k ≠ g → k < wq.heap.size → w1.heap[k]? = wq.heap[k]? := fun k hk hlt => r3.block k hlt (by simp [hk])
  exact ⟨by rw [hA]; simpa using r2, Kd.R_mono (Kd.R_step (Kd.R_types hown.p hblk (by decide)) (fun k hk hlt => go k hk.2 hlt)) (fun k hk => hk.1), Kd.R_mono (Kd.R_step (Kd.R_types hown.u hblk (by decide)) (fun k hk hlt => go k hk.2 hlt)) (fun k hk => hk.1), Kd.R_mono (Kd.R_step (Kd.R_types hown.t hblk (by decide)) (fun k hk hlt => go k hk.2 hlt)) (fun k hk => hk.1)⟩
theorem Bad.pair_at (x : Bad w gb O H B wq) {j : Nat} (hj : j < 14) (hl : 0 < (B j).pairs.length) : ∃ g, (H j).A1 = some ⟨g, 0, none⟩ := by
  obtain ⟨g, cap, hv, _⟩ := Kd.R_form (x.own j hj).p hl
  injection hv with h1
  exact ⟨g, h1⟩
theorem Bad.pair (x : Bad w gb O H B wq) {j : Nat} (hj : j < 14) {g : Nat} (hA : (H j).A1 = some ⟨g, 0, none⟩) (t : TypeId) (p y : Operand) (ho : o.op = .store t p y) {i off o' : Nat} (hi : i < (B j).pairs.length) (x' : S77) (u : Value) (seg c : List Value) (hc : c = [Value.int .i64 (rd_T77 (B j).pairs (i : Int)).f0, Value.int .i64 (rd_T77 (B j).pairs (i : Int)).f1, Value.int .i64 (rd_T77 (B j).pairs (i : Int)).f2])
    (hp : ρ p = .pointer (some ⟨g, o', none⟩)) (hoff : o' = i * 3 + off) (hy : ρ y = u) (hu : u.cells.toList = seg) (ht : (Tryd.prog.info? t).map (·.size) = some seg.length) (h1 : ∀ q ∈ seg, q.oneCell' = true) (hs : off + seg.length ≤ 3) (hM : k77.M wq w.heap.size (fun _ => False) x' (c.take off ++ seg ++ c.drop (off + seg.length))) :
    ∃ w1, (execOp ρ o).run Tryd.prog wq = .ok .skip w1 ∧ Bad w gb O H (upB B j { B j with pairs := (B j).pairs.set i x' }) w1 := by
  have hown := x.own j hj
  have hr := hown.p
  rw [hA] at hr
  obtain ⟨q1, q2, q3⟩ := Kd.R_reads' hr
  obtain ⟨ad, had, t0, t1, t2⟩ := at_T77 q3 (i : Int) (by omega) (by omega)
  obtain rfl := Option.some.inj had
  simp only [Int.toNat_natCast, add_plain] at t0 t1 t2
  have hcc : ∀ (m : Nat) (z : Value), c[m]? = some z → wq.cell? ⟨g, i * k77.sz + m, none⟩ = some z := by
    intro m z hz
    rw [hc] at hz
    rcases m with _ | _ | _ | m
    · cases hz; exact t0
    · cases hz; exact t1
    · cases hz; exact t2
    · simp at hz
  obtain ⟨cells, hblk⟩ := Kd.R_typed hr g (by simp [Value.ownBlock])
  obtain ⟨w1, r1, r2, r3, r4⟩ := R_store_ok (P := Tryd.prog) k77 (ρ := ρ) (o := o) t p y ho 77 i off (B j).pairs x' u seg c hp hoff hy hu ht h1 hr hi (by rw [hc]; rfl) hcc hs hM
  refine ⟨w1, r1, x.turn hj r4 r3 ?_ (by simp [Hd.cells])⟩
  have go : ∀ k, k ≠ g → k < wq.heap.size → w1.heap[k]? = wq.heap[k]? := fun k hk hlt => r3.block k hlt (by simp [hk])
  exact ⟨Kd.R_mono (Kd.R_step (Kd.R_types hown.s hblk (by decide)) (fun k hk hlt => go k hk.2 hlt)) (fun k hk => hk.1), by rw [hA]; simpa using r2, Kd.R_mono (Kd.R_step (Kd.R_types hown.u hblk (by decide)) (fun k hk hlt => go k hk.2 hlt)) (fun k hk => hk.1), Kd.R_mono (Kd.R_step (Kd.R_types hown.t hblk (by decide)) (fun k hk hlt => go k hk.2 hlt)) (fun k hk => hk.1)⟩
theorem Bad.surf_at (x : Bad w gb O H B wq) {j : Nat} (hj : j < 14) (hl : 0 < (B j).surfs.length) : ∃ g, (H j).A2 = some ⟨g, 0, none⟩ := by
  obtain ⟨g, cap, hv, _⟩ := Kd.R_form (x.own j hj).u hl
  injection hv with h1
  exact ⟨g, h1⟩
theorem Bad.surf (x : Bad w gb O H B wq) {j : Nat} (hj : j < 14) {g : Nat} (hA : (H j).A2 = some ⟨g, 0, none⟩) (t : TypeId) (p y : Operand) (ho : o.op = .store t p y) {i off o' : Nat} (hi : i < (B j).surfs.length) (x' : S47) (u : Value) (seg c : List Value) (hc : c = [Value.int .i64 (rd_T47 (B j).surfs (i : Int)).f0.f0, Value.int .i64 (rd_T47 (B j).surfs (i : Int)).f0.f1, Value.int .i64 (rd_T47 (B j).surfs (i : Int)).f1.f0, Value.int .i64 (rd_T47 (B j).surfs (i : Int)).f1.f1])
    (hp : ρ p = .pointer (some ⟨g, o', none⟩)) (hoff : o' = i * 4 + off) (hy : ρ y = u) (hu : u.cells.toList = seg) (ht : (Tryd.prog.info? t).map (·.size) = some seg.length) (h1 : ∀ q ∈ seg, q.oneCell' = true) (hs : off + seg.length ≤ 4) (hM : k47.M wq w.heap.size (fun _ => False) x' (c.take off ++ seg ++ c.drop (off + seg.length))) :
    ∃ w1, (execOp ρ o).run Tryd.prog wq = .ok .skip w1 ∧ Bad w gb O H (upB B j { B j with surfs := (B j).surfs.set i x' }) w1 := by
  have hown := x.own j hj
  have hr := hown.u
  rw [hA] at hr
  obtain ⟨q1, q2, q3⟩ := Kd.R_reads' hr
  obtain ⟨ad, had, t0, t1, t2, t3⟩ := at_T47 q3 (i : Int) (by omega) (by omega)
  obtain rfl := Option.some.inj had
  simp only [Int.toNat_natCast, add_plain] at t0 t1 t2 t3
  have hcc : ∀ (m : Nat) (z : Value), c[m]? = some z → wq.cell? ⟨g, i * k47.sz + m, none⟩ = some z := by
    intro m z hz
    rw [hc] at hz
    rcases m with _ | _ | _ | _ | m
    · cases hz; exact t0
    · cases hz; exact t1
    · cases hz; exact t2
    · cases hz; exact t3
    · simp at hz
  obtain ⟨cells, hblk⟩ := Kd.R_typed hr g (by simp [Value.ownBlock])
  obtain ⟨w1, r1, r2, r3, r4⟩ := R_store_ok (P := Tryd.prog) k47 (ρ := ρ) (o := o) t p y ho 47 i off (B j).surfs x' u seg c hp hoff hy hu ht h1 hr hi (by rw [hc]; rfl) hcc hs hM
  refine ⟨w1, r1, x.turn hj r4 r3 ?_ (by simp [Hd.cells])⟩
  have go : ∀ k, k ≠ g → k < wq.heap.size → w1.heap[k]? = wq.heap[k]? := fun k hk hlt => r3.block k hlt (by simp [hk])
  exact ⟨Kd.R_mono (Kd.R_step (Kd.R_types hown.s hblk (by decide)) (fun k hk hlt => go k hk.2 hlt)) (fun k hk => hk.1), Kd.R_mono (Kd.R_step (Kd.R_types hown.p hblk (by decide)) (fun k hk hlt => go k hk.2 hlt)) (fun k hk => hk.1), by rw [hA]; simpa using r2, Kd.R_mono (Kd.R_step (Kd.R_types hown.t hblk (by decide)) (fun k hk hlt => go k hk.2 hlt)) (fun k hk => hk.1)⟩
theorem Bad.need (x : Bad w gb O H B wq) {j : Nat} (hj : j < 14) (n : Int) : Bad w gb O H (upB B j { B j with need := n }) (wq.setCell ⟨gb, 5 * j + 3, none⟩ (.int .i64 n)) := by
  have hf : (flatB H B).setIfInBounds (5 * j + 3) (.int .i64 n) = flatB H (upB B j { B j with need := n }) := by
    have hj' : j = 0 ∨ j = 1 ∨ j = 2 ∨ j = 3 ∨ j = 4 ∨ j = 5 ∨ j = 6 ∨ j = 7 ∨ j = 8 ∨ j = 9 ∨ j = 10 ∨ j = 11 ∨ j = 12 ∨ j = 13 := by omega
    rcases hj' with rfl | rfl | rfl | rfl | rfl | rfl | rfl | rfl | rfl | rfl | rfl | rfl | rfl | rfl <;> rfl
  refine ⟨x.b.setCell (by simpa using x.g) _, x.o, x.d, x.g, blk_put x.blk _ _ hf, fun i hi => ?_⟩
  have hk := (x.own i hi).keep (w1 := wq.setCell ⟨gb, 5 * j + 3, none⟩ (.int .i64 n)) (fun k hk _ => Below.heap_setCell wq _ _ k (by have := x.o i hi k hk; show k ≠ gb; omega))
  unfold upB
  by_cases e : i = j
  · subst e
    rw [if_pos rfl]
    exact ⟨hk.s, hk.p, hk.u, hk.t⟩
  · rw [if_neg e]
    exact hk
def upH (H : Nat → Hd) (j : Nat) (h : Hd) : Nat → Hd := fun i => if i = j then h else H i
theorem Bad.bald (x : Bad w gb O H B wq) {j : Nat} (hj : j < 14) : Bad w gb O (upH H j { H j with A2 := none, c2 := 0 }) (upB B j { B j with surfs := [] }) (wq.setCell ⟨gb, 5 * j + 2, none⟩ (.slice none 0 0)) := by
  have hf : (flatB H B).setIfInBounds (5 * j + 2) (.slice none 0 0) = flatB (upH H j { H j with A2 := none, c2 := 0 }) (upB B j { B j with surfs := [] }) := by
    have hj' : j = 0 ∨ j = 1 ∨ j = 2 ∨ j = 3 ∨ j = 4 ∨ j = 5 ∨ j = 6 ∨ j = 7 ∨ j = 8 ∨ j = 9 ∨ j = 10 ∨ j = 11 ∨ j = 12 ∨ j = 13 := by omega
    rcases hj' with rfl | rfl | rfl | rfl | rfl | rfl | rfl | rfl | rfl | rfl | rfl | rfl | rfl | rfl <;> rfl
  refine ⟨x.b.setCell (by simpa using x.g) _, x.o, x.d, x.g, blk_put x.blk _ _ hf, fun i hi => ?_⟩
  have hk := (x.own i hi).keep (w1 := wq.setCell ⟨gb, 5 * j + 2, none⟩ (.slice none 0 0)) (fun k hk _ => Below.heap_setCell wq _ _ k (by have := x.o i hi k hk; show k ≠ gb; omega))
  unfold upB upH
  by_cases e : i = j
  · subst e
    rw [if_pos rfl, if_pos rfl]
    exact ⟨hk.s, hk.p, Kd.R_nil _ _ _ _ _, hk.t⟩
  · rw [if_neg e, if_neg e]
    exact hk
end
end Go.Proofs.YtghpoldlddghjaaDoor
namespace Go.Proofs.YtghpoldlddghjaaDoor
open Go Go.RowKit
open Go.Proofs.YtghpoldlddghjaaDoorW.PrintWords Go.Proofs.YtghpoldlddghjaaDoorW.PrintMore Go.Proofs.YtghpoldlddghjaaDoor.PPasteTrue
def seven : List S59 := List.replicate 7 ⟨0, false⟩
def upO (O : Nat → Nat → Prop) (i : Nat) (S : Nat → Prop) : Nat → Nat → Prop := fun n => if n = i then S else O n
def isP (i : Nat) : Bool := (decide (1 ≤ i) && decide (i ≤ 9)) || (i == 15 || i == 16)
def OF (O : Nat → Nat → Prop) (j : Nat) : Nat → Prop := if j = 0 then fun _ => False else if j = 10 then fun k => O 11 k ∨ O 12 k else if j = 11 then fun k => O 13 k ∨ O 14 k else if j = 12 then O 15 else if j = 13 then O 16 else O j
def hNil : Hd := ⟨none, 0, none, 0, none, 0, none, 0⟩
def HF (H : Nat → Hd) (j : Nat) : Hd := if j = 0 then hNil else if j = 10 then H 12 else if j = 11 then H 14 else if j = 12 then H 15 else if j = 13 then H 16 else H j
def bkNil : Bk := ⟨[], [], [], 0, []⟩
def BF (j : Nat) : Bk := if j = 0 then bkNil else if j = 10 then bookB [⟨3, true⟩] else if j = 11 then bookB seven else bookB []
structure KnSt (w : World) (O : Nat → Nat → Prop) (H : Nat → Hd) (v61 v63 : Value) (gb : Nat) (wq : World) (bb : Nat → Bool) : Prop where
  b : Below w.heap.size w wq
  r : ∀ i, bb i = true → ∀ k, O i k → w.heap.size ≤ k ∧ k < wq.heap.size
  d : ∀ i j, i ≠ j → bb i = true → bb j = true → ∀ k, O i k → ¬ O j k
  bk : ∀ i, isP i = true → bb i = true → OwnB wq w.heap.size (O i) (H i) (bookB [])
  l61 : bb 11 = true → bb 12 = false → k59.R 59 wq w.heap.size (O 11) v61 [⟨3, true⟩]
  l63 : bb 13 = true → bb 14 = false → k59.R 59 wq w.heap.size (O 13) v63 seven
  b12 : bb 12 = true → OwnB wq w.heap.size (fun k => O 11 k ∨ O 12 k) (H 12) (bookB [⟨3, true⟩])
  b14 : bb 14 = true → OwnB wq w.heap.size (fun k => O 13 k ∨ O 14 k) (H 14) (bookB seven)
  i12 : bb 12 = true → bb 11 = true
  i14 : bb 14 = true → bb 13 = true
  bad : bb 17 = true → Bad w gb (OF O) (HF H) BF wq
  i17 : bb 17 = true → ∀ i, 1 ≤ i → i ≤ 16 → bb i = true
section
variable {w : World} {O : Nat → Nat → Prop} {H : Nat → Hd} {v61 v63 : Value} {gb : Nat} {wq w1 : World} {bb : Nat → Bool}
theorem upO_eq {i : Nat} {S : Nat → Prop} : upO O i S i = S := if_pos rfl
theorem upO_ne {i n : Nat} {S : Nat → Prop} (h : n ≠ i) : upO O i S n = O n := if_neg h
theorem KnSt.core (s : KnSt w O H v61 v63 gb wq bb) {i : Nat} (hi : bb i = false) (hsz : wq.heap.size ≤ w1.heap.size) {S : Nat → Prop} (hS : ∀ k, S k → wq.heap.size ≤ k ∧ k < w1.heap.size) :
    (∀ n, upd bb i n = true → ∀ k, upO O i S n k → w.heap.size ≤ k ∧ k < w1.heap.size) ∧ (∀ n m, n ≠ m → upd bb i n = true → upd bb i m = true → ∀ k, upO O i S n k → ¬ upO O i S m k) := by
  have hbsz := s.b.size
  refine ⟨fun n hn k hk => ?_, fun n m hnm hn hm k hk hk' => ?_⟩
  · by_cases e : n = i
    · subst e
      rw [upO_eq] at hk
      have := hS k hk
      omega
    · rw [upO_ne e] at hk
      have := s.r n (by simpa [upd, e] using hn) k hk
      omega
  · by_cases e : n = i
    · subst e
      rw [upO_eq] at hk
      rw [upO_ne (fun h => hnm h.symm)] at hk'
      have h1 := hS k hk
      have h2 := s.r m (by have e : m ≠ n := Ne.symm hnm; simpa [upd, e] using hm) k hk'
      omega
    · rw [upO_ne e] at hk
      by_cases e2 : m = i
      · subst e2
        rw [upO_eq] at hk'
        have h1 := hS k hk'
        have h2 := s.r n (by simpa [upd, e] using hn) k hk
        omega
      · rw [upO_ne e2] at hk'
        exact s.d n m hnm (by simpa [upd, e] using hn) (by simpa [upd, e2] using hm) k hk hk'
theorem KnSt.no17 (s : KnSt w O H v61 v63 gb wq bb) {i : Nat} (hi : bb i = false) (h1 : 1 ≤ i) (h2 : i ≤ 16) : bb 17 = false := by
  cases e : bb 17 with
  | false => rfl
  | true => rw [s.i17 e i h1 h2] at hi; cases hi
theorem KnSt.on (s : KnSt w O H v61 v63 gb wq bb) (hb : Below wq.heap.size wq w1) : KnSt w O H v61 v63 gb w1 bb :=
  ⟨below_step s.b hb, fun i hi k hk => ⟨(s.r i hi k hk).1, Nat.lt_of_lt_of_le (s.r i hi k hk).2 hb.size⟩, s.d, fun i h1 h2 => (s.bk i h1 h2).below hb, fun e e' => Kd.R_below (s.l61 e e') hb, fun e e' => Kd.R_below (s.l63 e e') hb, fun e => (s.b12 e).below hb, fun e => (s.b14 e).below hb, s.i12, s.i14, fun e => (s.bad e).on hb, s.i17⟩
theorem KnSt.idle (s : KnSt w O H v61 v63 gb wq bb) {i : Nat} (hi : bb i = false) (h : i = 0 ∨ i = 10 ∨ i = 18) (hb : Below wq.heap.size wq w1) : KnSt w (upO O i fun _ => False) H v61 v63 gb w1 (upd bb i) := by
  obtain ⟨c1, c2⟩ := s.core hi hb.size (S := fun _ => False) (fun _ h => h.elim)
  have s1 := s.on hb
  have hu : ∀ n, n ≠ i → upd bb i n = bb n := fun n hn => by simp [upd, hn]
  have hO : ∀ n, n ≠ i → upO O i (fun _ => False) n = O n := fun n hn => upO_ne hn
  have h11 : (11 : Nat) ≠ i := by omega
  have h12 : (12 : Nat) ≠ i := by omega
  have h13 : (13 : Nat) ≠ i := by omega
  have h14 : (14 : Nat) ≠ i := by omega
  have h15 : (15 : Nat) ≠ i := by omega
  have h16 : (16 : Nat) ≠ i := by omega
  have h17 : (17 : Nat) ≠ i := by omega
  refine ⟨s1.b, c1, c2, fun n hn hb' => ?_, ?_, ?_, ?_, ?_, ?_, ?_, ?_, ?_⟩
  · have hne : n ≠ i := by
      rintro rfl
      rcases h with rfl | rfl | rfl <;> simp [isP] at hn
    rw [hO n hne]
    exact s1.bk n hn (by rw [← hu n hne]; exact hb')
  · rw [hu 11 h11, hu 12 h12, hO 11 h11]; exact s1.l61
  · rw [hu 13 h13, hu 14 h14, hO 13 h13]; exact s1.l63
  · rw [hu 12 h12, hO 11 h11, hO 12 h12]; exact s1.b12
  · rw [hu 14 h14, hO 13 h13, hO 14 h14]; exact s1.b14
  · rw [hu 11 h11, hu 12 h12]; exact s1.i12
  · rw [hu 13 h13, hu 14 h14]; exact s1.i14
  · rw [hu 17 h17]
    intro e
    have hf : ∀ j, j < 14 → OF (upO O i fun _ => False) j = OF O j := by
      intro j hj
      unfold OF
      rw [hO 11 h11, hO 12 h12, hO 13 h13, hO 14 h14, hO 15 h15, hO 16 h16]
      by_cases e0 : j = 0
      · rw [if_pos e0, if_pos e0]
      · rw [if_neg e0, if_neg e0]
        by_cases e1 : j = 10
        · rw [if_pos e1, if_pos e1]
        · rw [if_neg e1, if_neg e1, hO j (by omega)]
    have x := s1.bad e
    exact ⟨x.b, fun j hj k hk => x.o j hj k (by rw [← hf j hj]; exact hk), fun a c ha hc hac k hk hk' => x.d a c ha hc hac k (by rw [← hf a ha]; exact hk) (by rw [← hf c hc]; exact hk'), x.g, x.blk, fun j hj => by rw [hf j hj]; exact x.own j hj⟩
  · rw [hu 17 h17]
    intro e n h1 h2
    have hne : n ≠ i ∨ n = 10 ∧ i = 10 := by omega
    rcases hne with hne | ⟨rfl, rfl⟩
    · rw [hu n hne]; exact s1.i17 e n h1 h2
    · rw [s1.i17 e 10 (by omega) (by omega)] at hi; cases hi
theorem KnSt.plain (s : KnSt w O H v61 v63 gb wq bb) {i : Nat} (hi : bb i = false) (hP : isP i = true) {h' : Hd} (hb : Below wq.heap.size wq w1) (ho : OwnB w1 wq.heap.size (fun k => wq.heap.size ≤ k ∧ k < w1.heap.size) h' (bookB [])) : KnSt w (upO O i fun k => wq.heap.size ≤ k ∧ k < w1.heap.size) (fun n => if n = i then h' else H n) v61 v63 gb w1 (upd bb i) := by
  obtain ⟨c1, c2⟩ := s.core hi hb.size (S := fun k => wq.heap.size ≤ k ∧ k < w1.heap.size) (fun _ h => h)
  have s1 := s.on hb
  have hr : (1 ≤ i ∧ i ≤ 9) ∨ i = 15 ∨ i = 16 := by simpa [isP] using hP
  have h17 := s.no17 hi (by omega) (by omega)
  have hu : ∀ n, n ≠ i → upd bb i n = bb n := fun n hn => by simp [upd, hn]
  have hO : ∀ n, n ≠ i → upO O i (fun k => wq.heap.size ≤ k ∧ k < w1.heap.size) n = O n := fun n hn => upO_ne hn
  have h11 : (11 : Nat) ≠ i := by omega
  have h12 : (12 : Nat) ≠ i := by omega
  have h13 : (13 : Nat) ≠ i := by omega
  have h14 : (14 : Nat) ≠ i := by omega
  have h17' : (17 : Nat) ≠ i := by omega
  refine ⟨s1.b, c1, c2, fun n hn hb' => ?_, ?_, ?_, ?_, ?_, ?_, ?_, ?_, ?_⟩
  · by_cases e : n = i
    · subst e
      rw [upO_eq, if_pos rfl]
      have hle := s.b.size
      exact ⟨Kd.R_lower ho.s hle, Kd.R_lower ho.p hle, Kd.R_lower ho.u hle, Kd.R_lower ho.t hle⟩
    · rw [hO n e, if_neg e]
      exact s1.bk n hn (by rw [← hu n e]; exact hb')
  · rw [hu 11 h11, hu 12 h12, hO 11 h11]; exact s1.l61
  · rw [hu 13 h13, hu 14 h14, hO 13 h13]; exact s1.l63
  · rw [hu 12 h12, hO 11 h11, hO 12 h12, if_neg h12]; exact s1.b12
  · rw [hu 14 h14, hO 13 h13, hO 14 h14, if_neg h14]; exact s1.b14
  · rw [hu 11 h11, hu 12 h12]; exact s1.i12
  · rw [hu 13 h13, hu 14 h14]; exact s1.i14
  · rw [hu 17 h17', h17]; intro e; cases e
  · rw [hu 17 h17', h17]; intro e; cases e
theorem KnSt.lit61 (s : KnSt w O H v61 v63 gb wq bb) (hi : bb 11 = false) {v : Value} (hb : Below wq.heap.size wq w1) (hr : k59.R 59 w1 wq.heap.size (fun k => wq.heap.size ≤ k ∧ k < w1.heap.size) v [⟨3, true⟩]) : KnSt w (upO O 11 fun k => wq.heap.size ≤ k ∧ k < w1.heap.size) H v v63 gb w1 (upd bb 11) := by
  obtain ⟨c1, c2⟩ := s.core hi hb.size (S := fun k => wq.heap.size ≤ k ∧ k < w1.heap.size) (fun _ h => h)
  have s1 := s.on hb
  have h17 := s.no17 hi (by omega) (by omega)
  have h12 : bb 12 = false := false_of s.i12 hi
  have hu : ∀ n, n ≠ 11 → upd bb 11 n = bb n := fun n hn => by simp [upd, hn]
  have hO : ∀ n, n ≠ 11 → upO O 11 (fun k => wq.heap.size ≤ k ∧ k < w1.heap.size) n = O n := fun n hn => upO_ne hn
  refine ⟨s1.b, c1, c2, fun n hn hb' => ?_, ?_, ?_, ?_, ?_, ?_, ?_, ?_, ?_⟩
  · have e : n ≠ 11 := by rintro rfl; simp [isP] at hn
    rw [hO n e]
    exact s1.bk n hn (by rw [← hu n e]; exact hb')
  · intro _ _
    rw [upO_eq]
    exact Kd.R_lower hr s.b.size
  · rw [hu 13 (by decide), hu 14 (by decide), hO 13 (by decide)]; exact s1.l63
  · rw [hu 12 (by decide), h12]; intro e; cases e
  · rw [hu 14 (by decide), hO 13 (by decide), hO 14 (by decide)]; exact s1.b14
  · intro _; simp [upd]
  · rw [hu 13 (by decide), hu 14 (by decide)]; exact s1.i14
  · rw [hu 17 (by decide), h17]; intro e; cases e
  · rw [hu 17 (by decide), h17]; intro e; cases e
theorem KnSt.make63 (s : KnSt w O H v61 v63 gb wq bb) (hi : bb 13 = false) {v : Value} (hb : Below wq.heap.size wq w1) (hr : k59.R 59 w1 wq.heap.size (fun k => wq.heap.size ≤ k ∧ k < w1.heap.size) v seven) : KnSt w (upO O 13 fun k => wq.heap.size ≤ k ∧ k < w1.heap.size) H v61 v gb w1 (upd bb 13) := by
  obtain ⟨c1, c2⟩ := s.core hi hb.size (S := fun k => wq.heap.size ≤ k ∧ k < w1.heap.size) (fun _ h => h)
  have s1 := s.on hb
  have h17 := s.no17 hi (by omega) (by omega)
  have h14 : bb 14 = false := false_of s.i14 hi
  have hu : ∀ n, n ≠ 13 → upd bb 13 n = bb n := fun n hn => by simp [upd, hn]
  have hO : ∀ n, n ≠ 13 → upO O 13 (fun k => wq.heap.size ≤ k ∧ k < w1.heap.size) n = O n := fun n hn => upO_ne hn
  refine ⟨s1.b, c1, c2, fun n hn hb' => ?_, ?_, ?_, ?_, ?_, ?_, ?_, ?_, ?_⟩
  · have e : n ≠ 13 := by rintro rfl; simp [isP] at hn
    rw [hO n e]
    exact s1.bk n hn (by rw [← hu n e]; exact hb')
  · rw [hu 11 (by decide), hu 12 (by decide), hO 11 (by decide)]; exact s1.l61
  · intro _ _
    rw [upO_eq]
    exact Kd.R_lower hr s.b.size
  · rw [hu 12 (by decide), hO 11 (by decide), hO 12 (by decide)]; exact s1.b12
  · rw [hu 14 (by decide), h14]; intro e; cases e
  · rw [hu 11 (by decide), hu 12 (by decide)]; exact s1.i12
  · intro _; simp [upd]
  · rw [hu 17 (by decide), h17]; intro e; cases e
  · rw [hu 17 (by decide), h17]; intro e; cases e
theorem KnSt.book12 (s : KnSt w O H v61 v63 gb wq bb) (hi : bb 12 = false) (h11 : bb 11 = true) {h' : Hd} (hb : Below w.heap.size w w1) (hk : Kept wq w1 (O 11)) (ho : OwnB w1 w.heap.size (fun k => O 11 k ∨ (wq.heap.size ≤ k ∧ k < w1.heap.size)) h' (bookB [⟨3, true⟩])) : KnSt w (upO O 12 fun k => wq.heap.size ≤ k ∧ k < w1.heap.size) (fun n => if n = 12 then h' else H n) v61 v63 gb w1 (upd bb 12) := by
  obtain ⟨c1, c2⟩ := s.core hi hk.1 (S := fun k => wq.heap.size ≤ k ∧ k < w1.heap.size) (fun _ h => h)
  have h17 := s.no17 hi (by omega) (by omega)
  have hu : ∀ n, n ≠ 12 → upd bb 12 n = bb n := fun n hn => by simp [upd, hn]
  have hO : ∀ n, n ≠ 12 → upO O 12 (fun k => wq.heap.size ≤ k ∧ k < w1.heap.size) n = O n := fun n hn => upO_ne hn
  have far : ∀ i, i ≠ 11 → bb i = true → ∀ k, O i k → k < wq.heap.size → w1.heap[k]? = wq.heap[k]? := fun i hi' hbi k hk' hlt => hk.2 k hlt (s.d i 11 hi' hbi h11 k hk')
  refine ⟨hb, c1, c2, fun n hn hb' => ?_, ?_, ?_, ?_, ?_, ?_, ?_, ?_, ?_⟩
  · have e : n ≠ 12 := by rintro rfl; simp [isP] at hn
    have e2 : n ≠ 11 := by rintro rfl; simp [isP] at hn
    have hbn : bb n = true := by rw [← hu n e]; exact hb'
    rw [hO n e, if_neg e]
    exact (s.bk n hn hbn).keep (far n e2 hbn)
  · intro _ e; simp [upd] at e
  · rw [hu 13 (by decide), hu 14 (by decide), hO 13 (by decide)]
    intro e e'
    exact Kd.R_step (s.l63 e e') (far 13 (by decide) e)
  · intro _
    rw [hO 11 (by decide), upO_eq, if_pos rfl]
    exact ho
  · rw [hu 14 (by decide), hO 13 (by decide), hO 14 (by decide), if_neg (by decide)]
    intro e
    refine (s.b14 e).keep (fun k hk' hlt => ?_)
    rcases hk' with hk' | hk'
    · exact far 13 (by decide) (s.i14 e) k hk' hlt
    · exact far 14 (by decide) e k hk' hlt
  · intro _; rw [hu 11 (by decide)]; exact h11
  · rw [hu 13 (by decide), hu 14 (by decide)]; exact s.i14
  · rw [hu 17 (by decide), h17]; intro e; cases e
  · rw [hu 17 (by decide), h17]; intro e; cases e
theorem KnSt.book14 (s : KnSt w O H v61 v63 gb wq bb) (hi : bb 14 = false) (h13 : bb 13 = true) {h' : Hd} (hb : Below w.heap.size w w1) (hk : Kept wq w1 (O 13)) (ho : OwnB w1 w.heap.size (fun k => O 13 k ∨ (wq.heap.size ≤ k ∧ k < w1.heap.size)) h' (bookB seven)) : KnSt w (upO O 14 fun k => wq.heap.size ≤ k ∧ k < w1.heap.size) (fun n => if n = 14 then h' else H n) v61 v63 gb w1 (upd bb 14) := by
  obtain ⟨c1, c2⟩ := s.core hi hk.1 (S := fun k => wq.heap.size ≤ k ∧ k < w1.heap.size) (fun _ h => h)
  have h17 := s.no17 hi (by omega) (by omega)
  have hu : ∀ n, n ≠ 14 → upd bb 14 n = bb n := fun n hn => by simp [upd, hn]
  have hO : ∀ n, n ≠ 14 → upO O 14 (fun k => wq.heap.size ≤ k ∧ k < w1.heap.size) n = O n := fun n hn => upO_ne hn
  have far : ∀ i, i ≠ 13 → bb i = true → ∀ k, O i k → k < wq.heap.size → w1.heap[k]? = wq.heap[k]? := fun i hi' hbi k hk' hlt => hk.2 k hlt (s.d i 13 hi' hbi h13 k hk')
  refine ⟨hb, c1, c2, fun n hn hb' => ?_, ?_, ?_, ?_, ?_, ?_, ?_, ?_, ?_⟩
  · have e : n ≠ 14 := by rintro rfl; simp [isP] at hn
    have e2 : n ≠ 13 := by rintro rfl; simp [isP] at hn
    have hbn : bb n = true := by rw [← hu n e]; exact hb'
    rw [hO n e, if_neg e]
    exact (s.bk n hn hbn).keep (far n e2 hbn)
  · rw [hu 11 (by decide), hu 12 (by decide), hO 11 (by decide)]
    intro e e'
    exact Kd.R_step (s.l61 e e') (far 11 (by decide) e)
  · intro _ e; simp [upd] at e
  · rw [hu 12 (by decide), hO 11 (by decide), hO 12 (by decide), if_neg (by decide)]
    intro e
    refine (s.b12 e).keep (fun k hk' hlt => ?_)
    rcases hk' with hk' | hk'
    · exact far 11 (by decide) (s.i12 e) k hk' hlt
    · exact far 12 (by decide) e k hk' hlt
  · intro _
    rw [hO 13 (by decide), upO_eq, if_pos rfl]
    exact ho
  · rw [hu 11 (by decide), hu 12 (by decide)]; exact s.i12
  · intro _; rw [hu 13 (by decide)]; exact h13
  · rw [hu 17 (by decide), h17]; intro e; cases e
  · rw [hu 17 (by decide), h17]; intro e; cases e
theorem KnSt.all (s : KnSt w O H v61 v63 gb wq bb) (hi : bb 17 = false) (hall : ∀ i, i ≤ 16 → bb i = true) : KnSt w (upO O 17 fun _ => False) H v61 v63 wq.heap.size (wq.alloc (.cells (flatB (HF H) BF) 27)) (upd bb 17) := by
  have hb := below_alloc (Below.refl wq.heap.size wq) (.cells (flatB (HF H) BF) 27)
  obtain ⟨c1, c2⟩ := s.core hi hb.size (S := fun _ => False) (fun _ h => h.elim)
  have s1 := s.on hb
  have hu : ∀ n, n ≠ 17 → upd bb 17 n = bb n := fun n hn => by simp [upd, hn]
  have hO : ∀ n, n ≠ 17 → upO O 17 (fun _ => False) n = O n := fun n hn => upO_ne hn
  have hOF : OF (upO O 17 fun _ => False) = OF O ∨ True := .inr trivial
  have hf : ∀ j, j < 14 → OF (upO O 17 fun _ => False) j = OF O j := by
    intro j hj
    unfold OF
    rw [hO 11 (by decide), hO 12 (by decide), hO 13 (by decide), hO 14 (by decide), hO 15 (by decide), hO 16 (by decide)]
    by_cases e0 : j = 0
    · rw [if_pos e0, if_pos e0]
    · rw [if_neg e0, if_neg e0]
      by_cases e1 : j = 10
      · rw [if_pos e1, if_pos e1]
      · rw [if_neg e1, if_neg e1, hO j (by omega)]
  have cov : ∀ j, j < 14 → ∀ k, OF O j k → ∃ i, i ≤ 16 ∧ O i k ∧ (∀ j', j' < 14 → j' ≠ j → ∀ k', OF O j' k' → ∃ i', i' ≤ 16 ∧ O i' k' ∧ i' ≠ i) := by
    have lab : ∀ j, j < 14 → ∀ k, OF O j k → ∃ i, i ≤ 16 ∧ O i k ∧ ((j = 10 ∧ (i = 11 ∨ i = 12)) ∨ (j = 11 ∧ (i = 13 ∨ i = 14)) ∨ (j = 12 ∧ i = 15) ∨ (j = 13 ∧ i = 16) ∨ (1 ≤ j ∧ j ≤ 9 ∧ i = j)) := by
      intro j hj k hk
      unfold OF at hk
      by_cases e0 : j = 0
      · rw [if_pos e0] at hk; exact hk.elim
      rw [if_neg e0] at hk
      by_cases e1 : j = 10
      · rw [if_pos e1] at hk
        rcases hk with hk | hk
        · exact ⟨11, by omega, hk, by omega⟩
        · exact ⟨12, by omega, hk, by omega⟩
      rw [if_neg e1] at hk
      by_cases e2 : j = 11
      · rw [if_pos e2] at hk
        rcases hk with hk | hk
        · exact ⟨13, by omega, hk, by omega⟩
        · exact ⟨14, by omega, hk, by omega⟩
      rw [if_neg e2] at hk
      by_cases e3 : j = 12
      · rw [if_pos e3] at hk
        exact ⟨15, by omega, hk, by omega⟩
      rw [if_neg e3] at hk
      by_cases e4 : j = 13
      · rw [if_pos e4] at hk
        exact ⟨16, by omega, hk, by omega⟩
      rw [if_neg e4] at hk
      exact ⟨j, by omega, hk, by omega⟩
    intro j hj k hk
    obtain ⟨i, h1, h2, h3⟩ := lab j hj k hk
    refine ⟨i, h1, h2, fun j' hj' hne k' hk' => ?_⟩
    obtain ⟨i', h1', h2', h3'⟩ := lab j' hj' k' hk'
    exact ⟨i', h1', h2', by omega⟩
  have hz : (wq.alloc (.cells (flatB (HF H) BF) 27)).heap.size = wq.heap.size + 1 := by simp
  refine ⟨s1.b, c1, c2, fun n hn hb' => ?_, ?_, ?_, ?_, ?_, ?_, ?_, fun _ => ⟨s1.b, fun j hj k hk => ?_, fun a c ha hc hac k hk hk' => ?_, s.b.size, new_at rfl, fun j hj => ?_⟩, ?_⟩
  · have e : n ≠ 17 := by rintro rfl; simp [isP] at hn
    rw [hO n e]
    exact s1.bk n hn (by rw [← hu n e]; exact hb')
  · rw [hu 11 (by decide), hu 12 (by decide), hO 11 (by decide)]; exact s1.l61
  · rw [hu 13 (by decide), hu 14 (by decide), hO 13 (by decide)]; exact s1.l63
  · rw [hu 12 (by decide), hO 11 (by decide), hO 12 (by decide)]; exact s1.b12
  · rw [hu 14 (by decide), hO 13 (by decide), hO 14 (by decide)]; exact s1.b14
  · rw [hu 11 (by decide), hu 12 (by decide)]; exact s1.i12
  · rw [hu 13 (by decide), hu 14 (by decide)]; exact s1.i14
  · rw [hf j hj] at hk
    obtain ⟨i, h1, h2, _⟩ := cov j hj k hk
    exact s.r i (hall i h1) k h2
  · rw [hf a ha] at hk
    rw [hf c hc] at hk'
    obtain ⟨i, h1, h2, h3⟩ := cov a ha k hk
    obtain ⟨i', h1', h2', hne⟩ := h3 c hc (fun e => hac e.symm) k hk'
    exact s.d i i' (fun e => hne e.symm) (hall i h1) (hall i' h1') k h2 h2'
  · rw [hf j hj]
    unfold OF HF BF
    by_cases e0 : j = 0
    · rw [if_pos e0, if_pos e0, if_pos e0]
      exact ⟨Kd.R_nil _ _ _ _ _, Kd.R_nil _ _ _ _ _, Kd.R_nil _ _ _ _ _, Kd.R_nil _ _ _ _ _⟩
    rw [if_neg e0, if_neg e0, if_neg e0]
    by_cases e1 : j = 10
    · rw [if_pos e1, if_pos e1, if_pos e1]
      exact s1.b12 (hall 12 (by omega))
    rw [if_neg e1, if_neg e1, if_neg e1]
    by_cases e2 : j = 11
    · rw [if_pos e2, if_pos e2, if_pos e2]
      exact s1.b14 (hall 14 (by omega))
    rw [if_neg e2, if_neg e2, if_neg e2]
    by_cases e3 : j = 12
    · rw [if_pos e3, if_pos e3]
      exact s1.bk 15 rfl (hall 15 (by omega))
    rw [if_neg e3, if_neg e3]
    by_cases e4 : j = 13
    · rw [if_pos e4, if_pos e4]
      exact s1.bk 16 rfl (hall 16 (by omega))
    rw [if_neg e4, if_neg e4]
    exact s1.bk j (by simp [isP]; omega) (hall j (by omega))
  · intro _ n h1 h2
    rw [hu n (by omega)]
    exact hall n h2
end
end Go.Proofs.YtghpoldlddghjaaDoor
namespace Go.Proofs.YtghpoldlddghjaaDoor
open Go Go.RowKit
open Go.Proofs.YtghpoldlddghjaaDoorW.PrintWords Go.Proofs.YtghpoldlddghjaaDoorW.PrintMore Go.Proofs.YtghpoldlddghjaaDoor.PPasteTrue
theorem b27nil (w : World) : (Instr.build 27 #[]).run Tryd.prog w = .ok (.agg (hNil.cells bkNil)) w := by
  have := Tryd.underlying27
  go_simp
  rfl
theorem bs75 (w : World) (a0 a1 a2 a3 a4 a5 a6 a7 a8 a9 a10 a11 a12 a13 a14 a15 a16 a17 a18 a19 a20 a21 a22 a23 a24 a25 a26 a27 a28 a29 a30 a31 a32 a33 a34 a35 a36 a37 a38 a39 a40 a41 a42 a43 a44 a45 a46 a47 a48 a49 a50 a51 a52 a53 a54 a55 a56 a57 a58 a59 a60 a61 a62 a63 a64 a65 a66 a67 a68 a69 : Value) : (Instr.buildSlice 75 14 #[(0, .agg #[a0, a1, a2, a3, a4]),(1, .agg #[a5, a6, a7, a8, a9]),(2, .agg #[a10, a11, a12, a13, a14]),(3, .agg #[a15, a16, a17, a18, a19]),(4, .agg #[a20, a21, a22, a23, a24]),(5, .agg #[a25, a26, a27, a28, a29]),(6, .agg #[a30, a31, a32, a33, a34]),(7, .agg #[a35, a36, a37, a38, a39]),(8, .agg #[a40, a41, a42, a43, a44]),(9, .agg #[a45, a46, a47, a48, a49]),(10, .agg #[a50, a51, a52, a53, a54]),(11, .agg #[a55, a56, a57, a58, a59]),(12, .agg #[a60, a61, a62, a63, a64]),(13, .agg #[a65, a66, a67, a68, a69])]).run Tryd.prog w = .ok (.slice (some ⟨w.heap.size, 0, none⟩) 14 14) (w.alloc (.cells #[a0, a1, a2, a3, a4, a5, a6, a7, a8, a9, a10, a11, a12, a13, a14, a15, a16, a17, a18, a19, a20, a21, a22, a23, a24, a25, a26, a27, a28, a29, a30, a31, a32, a33, a34, a35, a36, a37, a38, a39, a40, a41, a42, a43, a44, a45, a46, a47, a48, a49, a50, a51, a52, a53, a54, a55, a56, a57, a58, a59, a60, a61, a62, a63, a64, a65, a66, a67, a68, a69] 27)) := by
  have := Tryd.underlying75
  have := Tryd.underlying27
  go_simp
theorem KnSt.start {w : World} : KnSt w (fun _ _ => False) (fun _ => hNil) undef undef 0 w.drew (fun _ => false) :=
  ⟨(Below.refl _ _).drew, fun _ h => (by cases h), fun _ _ _ h => (by cases h), fun _ _ h => (by cases h), fun h => (by cases h), fun h => (by cases h), fun h => (by cases h), fun h => (by cases h), fun h => (by cases h), fun h => (by cases h), fun h => (by cases h), fun h => (by cases h)⟩
section
variable {ρ : Operand → Value} {o : Oper} {w : World}
set_option maxRecDepth 20000 in
theorem flat_eq {H : Nat → Hd} : flatB (HF H) BF = #[.slice (HF H 0).A0 (BF 0).salts.length (HF H 0).c0, .slice (HF H 0).A1 (BF 0).pairs.length (HF H 0).c1, .slice (HF H 0).A2 (BF 0).surfs.length (HF H 0).c2, .int .i64 (BF 0).need, .slice (HF H 0).A4 (BF 0).trials.length (HF H 0).c4, .slice (HF H 1).A0 (BF 1).salts.length (HF H 1).c0, .slice (HF H 1).A1 (BF 1).pairs.length (HF H 1).c1, .slice (HF H 1).A2 (BF 1).surfs.length (HF H 1).c2, .int .i64 (BF 1).need, .slice (HF H 1).A4 (BF 1).trials.length (HF H 1).c4, .slice (HF H 2).A0 (BF 2).salts.length (HF H 2).c0, .slice (HF H 2).A1 (BF 2).pairs.length (HF H 2).c1, .slice (HF H 2).A2 (BF 2).surfs.length (HF H 2).c2, .int .i64 (BF 2).need, .slice (HF H 2).A4 (BF 2).trials.length (HF H 2).c4, .slice (HF H 3).A0 (BF 3).salts.length (HF H 3).c0, .slice (HF H 3).A1 (BF 3).pairs.length (HF H 3).c1, .slice (HF H 3).A2 (BF 3).surfs.length (HF H 3).c2, .int .i64 (BF 3).need, .slice (HF H 3).A4 (BF 3).trials.length (HF H 3).c4, .slice (HF H 4).A0 (BF 4).salts.length (HF H 4).c0, .slice (HF H 4).A1 (BF 4).pairs.length (HF H 4).c1, .slice (HF H 4).A2 (BF 4).surfs.length (HF H 4).c2, .int .i64 (BF 4).need, .slice (HF H 4).A4 (BF 4).trials.length (HF H 4).c4, .slice (HF H 5).A0 (BF 5).salts.length (HF H 5).c0, .slice (HF H 5).A1 (BF 5).pairs.length (HF H 5).c1, .slice (HF H 5).A2 (BF 5).surfs.length (HF H 5).c2, .int .i64 (BF 5).need, .slice (HF H 5).A4 (BF 5).trials.length (HF H 5).c4, .slice (HF H 6).A0 (BF 6).salts.length (HF H 6).c0, .slice (HF H 6).A1 (BF 6).pairs.length (HF H 6).c1, .slice (HF H 6).A2 (BF 6).surfs.length (HF H 6).c2, .int .i64 (BF 6).need, .slice (HF H 6).A4 (BF 6).trials.length (HF H 6).c4, .slice (HF H 7).A0 (BF 7).salts.length (HF H 7).c0, .slice (HF H 7).A1 (BF 7).pairs.length (HF H 7).c1, .slice (HF H 7).A2 (BF 7).surfs.length (HF H 7).c2, .int .i64 (BF 7).need, .slice (HF H 7).A4 (BF 7).trials.length (HF H 7).c4, .slice (HF H 8).A0 (BF 8).salts.length (HF H 8).c0, .slice (HF H 8).A1 (BF 8).pairs.length (HF H 8).c1, .slice (HF H 8).A2 (BF 8).surfs.length (HF H 8).c2, .int .i64 (BF 8).need, .slice (HF H 8).A4 (BF 8).trials.length (HF H 8).c4, .slice (HF H 9).A0 (BF 9).salts.length (HF H 9).c0, .slice (HF H 9).A1 (BF 9).pairs.length (HF H 9).c1, .slice (HF H 9).A2 (BF 9).surfs.length (HF H 9).c2, .int .i64 (BF 9).need, .slice (HF H 9).A4 (BF 9).trials.length (HF H 9).c4, .slice (HF H 10).A0 (BF 10).salts.length (HF H 10).c0, .slice (HF H 10).A1 (BF 10).pairs.length (HF H 10).c1, .slice (HF H 10).A2 (BF 10).surfs.length (HF H 10).c2, .int .i64 (BF 10).need, .slice (HF H 10).A4 (BF 10).trials.length (HF H 10).c4, .slice (HF H 11).A0 (BF 11).salts.length (HF H 11).c0, .slice (HF H 11).A1 (BF 11).pairs.length (HF H 11).c1, .slice (HF H 11).A2 (BF 11).surfs.length (HF H 11).c2, .int .i64 (BF 11).need, .slice (HF H 11).A4 (BF 11).trials.length (HF H 11).c4, .slice (HF H 12).A0 (BF 12).salts.length (HF H 12).c0, .slice (HF H 12).A1 (BF 12).pairs.length (HF H 12).c1, .slice (HF H 12).A2 (BF 12).surfs.length (HF H 12).c2, .int .i64 (BF 12).need, .slice (HF H 12).A4 (BF 12).trials.length (HF H 12).c4, .slice (HF H 13).A0 (BF 13).salts.length (HF H 13).c0, .slice (HF H 13).A1 (BF 13).pairs.length (HF H 13).c1, .slice (HF H 13).A2 (BF 13).surfs.length (HF H 13).c2, .int .i64 (BF 13).need, .slice (HF H 13).A4 (BF 13).trials.length (HF H 13).c4] := rfl
set_option maxRecDepth 20000 in
theorem list75 {H : Nat → Hd}
    (ho : o.op = .buildSlice 75 14 #[(0, .tmp 50), (1, .tmp 51), (2, .tmp 52), (3, .tmp 53), (4, .tmp 54), (5, .tmp 55), (6, .tmp 56), (7, .tmp 57), (8, .tmp 58), (9, .tmp 59), (10, .tmp 62), (11, .tmp 64), (12, .tmp 65), (13, .tmp 66)])
    (h0 : ρ (.tmp 50) = .agg ((HF H 0).cells (BF 0))) (h1 : ρ (.tmp 51) = .agg ((HF H 1).cells (BF 1))) (h2 : ρ (.tmp 52) = .agg ((HF H 2).cells (BF 2))) (h3 : ρ (.tmp 53) = .agg ((HF H 3).cells (BF 3))) (h4 : ρ (.tmp 54) = .agg ((HF H 4).cells (BF 4))) (h5 : ρ (.tmp 55) = .agg ((HF H 5).cells (BF 5))) (h6 : ρ (.tmp 56) = .agg ((HF H 6).cells (BF 6))) (h7 : ρ (.tmp 57) = .agg ((HF H 7).cells (BF 7))) (h8 : ρ (.tmp 58) = .agg ((HF H 8).cells (BF 8))) (h9 : ρ (.tmp 59) = .agg ((HF H 9).cells (BF 9))) (h10 : ρ (.tmp 62) = .agg ((HF H 10).cells (BF 10))) (h11 : ρ (.tmp 64) = .agg ((HF H 11).cells (BF 11))) (h12 : ρ (.tmp 65) = .agg ((HF H 12).cells (BF 12))) (h13 : ρ (.tmp 66) = .agg ((HF H 13).cells (BF 13))) : (execOp ρ o).run Tryd.prog w = .ok (.value (.slice (some ⟨w.heap.size, 0, none⟩) 14 14)) (w.alloc (.cells (flatB (HF H) BF) 27)) := by
  unfold execOp
  have key : (Instr.buildSlice 75 14 #[(0, .agg ((HF H 0).cells (BF 0))), (1, .agg ((HF H 1).cells (BF 1))), (2, .agg ((HF H 2).cells (BF 2))), (3, .agg ((HF H 3).cells (BF 3))), (4, .agg ((HF H 4).cells (BF 4))), (5, .agg ((HF H 5).cells (BF 5))), (6, .agg ((HF H 6).cells (BF 6))), (7, .agg ((HF H 7).cells (BF 7))), (8, .agg ((HF H 8).cells (BF 8))), (9, .agg ((HF H 9).cells (BF 9))), (10, .agg ((HF H 10).cells (BF 10))), (11, .agg ((HF H 11).cells (BF 11))), (12, .agg ((HF H 12).cells (BF 12))), (13, .agg ((HF H 13).cells (BF 13)))]).run Tryd.prog w = .ok (.slice (some ⟨w.heap.size, 0, none⟩) 14 14) (w.alloc (.cells #[.slice (HF H 0).A0 (BF 0).salts.length (HF H 0).c0, .slice (HF H 0).A1 (BF 0).pairs.length (HF H 0).c1, .slice (HF H 0).A2 (BF 0).surfs.length (HF H 0).c2, .int .i64 (BF 0).need, .slice (HF H 0).A4 (BF 0).trials.length (HF H 0).c4, .slice (HF H 1).A0 (BF 1).salts.length (HF H 1).c0, .slice (HF H 1).A1 (BF 1).pairs.length (HF H 1).c1, .slice (HF H 1).A2 (BF 1).surfs.length (HF H 1).c2, .int .i64 (BF 1).need, .slice (HF H 1).A4 (BF 1).trials.length (HF H 1).c4, .slice (HF H 2).A0 (BF 2).salts.length (HF H 2).c0, .slice (HF H 2).A1 (BF 2).pairs.length (HF H 2).c1, .slice (HF H 2).A2 (BF 2).surfs.length (HF H 2).c2, .int .i64 (BF 2).need, .slice (HF H 2).A4 (BF 2).trials.length (HF H 2).c4, .slice (HF H 3).A0 (BF 3).salts.length (HF H 3).c0, .slice (HF H 3).A1 (BF 3).pairs.length (HF H 3).c1, .slice (HF H 3).A2 (BF 3).surfs.length (HF H 3).c2, .int .i64 (BF 3).need, .slice (HF H 3).A4 (BF 3).trials.length (HF H 3).c4, .slice (HF H 4).A0 (BF 4).salts.length (HF H 4).c0, .slice (HF H 4).A1 (BF 4).pairs.length (HF H 4).c1, .slice (HF H 4).A2 (BF 4).surfs.length (HF H 4).c2, .int .i64 (BF 4).need, .slice (HF H 4).A4 (BF 4).trials.length (HF H 4).c4, .slice (HF H 5).A0 (BF 5).salts.length (HF H 5).c0, .slice (HF H 5).A1 (BF 5).pairs.length (HF H 5).c1, .slice (HF H 5).A2 (BF 5).surfs.length (HF H 5).c2, .int .i64 (BF 5).need, .slice (HF H 5).A4 (BF 5).trials.length (HF H 5).c4, .slice (HF H 6).A0 (BF 6).salts.length (HF H 6).c0, .slice (HF H 6).A1 (BF 6).pairs.length (HF H 6).c1, .slice (HF H 6).A2 (BF 6).surfs.length (HF H 6).c2, .int .i64 (BF 6).need, .slice (HF H 6).A4 (BF 6).trials.length (HF H 6).c4, .slice (HF H 7).A0 (BF 7).salts.length (HF H 7).c0, .slice (HF H 7).A1 (BF 7).pairs.length (HF H 7).c1, .slice (HF H 7).A2 (BF 7).surfs.length (HF H 7).c2, .int .i64 (BF 7).need, .slice (HF H 7).A4 (BF 7).trials.length (HF H 7).c4, .slice (HF H 8).A0 (BF 8).salts.length (HF H 8).c0, .slice (HF H 8).A1 (BF 8).pairs.length (HF H 8).c1, .slice (HF H 8).A2 (BF 8).surfs.length (HF H 8).c2, .int .i64 (BF 8).need, .slice (HF H 8).A4 (BF 8).trials.length (HF H 8).c4, .slice (HF H 9).A0 (BF 9).salts.length (HF H 9).c0, .slice (HF H 9).A1 (BF 9).pairs.length (HF H 9).c1, .slice (HF H 9).A2 (BF 9).surfs.length (HF H 9).c2, .int .i64 (BF 9).need, .slice (HF H 9).A4 (BF 9).trials.length (HF H 9).c4, .slice (HF H 10).A0 (BF 10).salts.length (HF H 10).c0, .slice (HF H 10).A1 (BF 10).pairs.length (HF H 10).c1, .slice (HF H 10).A2 (BF 10).surfs.length (HF H 10).c2, .int .i64 (BF 10).need, .slice (HF H 10).A4 (BF 10).trials.length (HF H 10).c4, .slice (HF H 11).A0 (BF 11).salts.length (HF H 11).c0, .slice (HF H 11).A1 (BF 11).pairs.length (HF H 11).c1, .slice (HF H 11).A2 (BF 11).surfs.length (HF H 11).c2, .int .i64 (BF 11).need, .slice (HF H 11).A4 (BF 11).trials.length (HF H 11).c4, .slice (HF H 12).A0 (BF 12).salts.length (HF H 12).c0, .slice (HF H 12).A1 (BF 12).pairs.length (HF H 12).c1, .slice (HF H 12).A2 (BF 12).surfs.length (HF H 12).c2, .int .i64 (BF 12).need, .slice (HF H 12).A4 (BF 12).trials.length (HF H 12).c4, .slice (HF H 13).A0 (BF 13).salts.length (HF H 13).c0, .slice (HF H 13).A1 (BF 13).pairs.length (HF H 13).c1, .slice (HF H 13).A2 (BF 13).surfs.length (HF H 13).c2, .int .i64 (BF 13).need, .slice (HF H 13).A4 (BF 13).trials.length (HF H 13).c4] 27)) := bs75 w (.slice (HF H 0).A0 (BF 0).salts.length (HF H 0).c0) (.slice (HF H 0).A1 (BF 0).pairs.length (HF H 0).c1) (.slice (HF H 0).A2 (BF 0).surfs.length (HF H 0).c2) (.int .i64 (BF 0).need) (.slice (HF H 0).A4 (BF 0).trials.length (HF H 0).c4) (.slice (HF H 1).A0 (BF 1).salts.length (HF H 1).c0) (.slice (HF H 1).A1 (BF 1).pairs.length (HF H 1).c1) (.slice (HF H 1).A2 (BF 1).surfs.length (HF H 1).c2) (.int .i64 (BF 1).need) (.slice (HF H 1).A4 (BF 1).trials.length (HF H 1).c4) (.slice (HF H 2).A0 (BF 2).salts.length (HF H 2).c0) (.slice (HF H 2).A1 (BF 2).pairs.length (HF H 2).c1) (.slice (HF H 2).A2 (BF 2).surfs.length (HF H 2).c2) (.int .i64 (BF 2).need) (.slice (HF H 2).A4 (BF 2).trials.length (HF H 2).c4) (.slice (HF H 3).A0 (BF 3).salts.length (HF H 3).c0) (.slice (HF H 3).A1 (BF 3).pairs.length (HF H 3).c1) (.slice (HF H 3).A2 (BF 3).surfs.length (HF H 3).c2) (.int .i64 (BF 3).need) (.slice (HF H 3).A4 (BF 3).trials.length (HF H 3).c4) (.slice (HF H 4).A0 (BF 4).salts.length (HF H 4).c0) (.slice (HF H 4).A1 (BF 4).pairs.length (HF H 4).c1) (.slice (HF H 4).A2 (BF 4).surfs.length (HF H 4).c2) (.int .i64 (BF 4).need) (.slice (HF H 4).A4 (BF 4).trials.length (HF H 4).c4) (.slice (HF H 5).A0 (BF 5).salts.length (HF H 5).c0) (.slice (HF H 5).A1 (BF 5).pairs.length (HF H 5).c1) (.slice (HF H 5).A2 (BF 5).surfs.length (HF H 5).c2) (.int .i64 (BF 5).need) (.slice (HF H 5).A4 (BF 5).trials.length (HF H 5).c4) (.slice (HF H 6).A0 (BF 6).salts.length (HF H 6).c0) (.slice (HF H 6).A1 (BF 6).pairs.length (HF H 6).c1) (.slice (HF H 6).A2 (BF 6).surfs.length (HF H 6).c2) (.int .i64 (BF 6).need) (.slice (HF H 6).A4 (BF 6).trials.length (HF H 6).c4) (.slice (HF H 7).A0 (BF 7).salts.length (HF H 7).c0) (.slice (HF H 7).A1 (BF 7).pairs.length (HF H 7).c1) (.slice (HF H 7).A2 (BF 7).surfs.length (HF H 7).c2) (.int .i64 (BF 7).need) (.slice (HF H 7).A4 (BF 7).trials.length (HF H 7).c4) (.slice (HF H 8).A0 (BF 8).salts.length (HF H 8).c0) (.slice (HF H 8).A1 (BF 8).pairs.length (HF H 8).c1) (.slice (HF H 8).A2 (BF 8).surfs.length (HF H 8).c2) (.int .i64 (BF 8).need) (.slice (HF H 8).A4 (BF 8).trials.length (HF H 8).c4) (.slice (HF H 9).A0 (BF 9).salts.length (HF H 9).c0) (.slice (HF H 9).A1 (BF 9).pairs.length (HF H 9).c1) (.slice (HF H 9).A2 (BF 9).surfs.length (HF H 9).c2) (.int .i64 (BF 9).need) (.slice (HF H 9).A4 (BF 9).trials.length (HF H 9).c4) (.slice (HF H 10).A0 (BF 10).salts.length (HF H 10).c0) (.slice (HF H 10).A1 (BF 10).pairs.length (HF H 10).c1) (.slice (HF H 10).A2 (BF 10).surfs.length (HF H 10).c2) (.int .i64 (BF 10).need) (.slice (HF H 10).A4 (BF 10).trials.length (HF H 10).c4) (.slice (HF H 11).A0 (BF 11).salts.length (HF H 11).c0) (.slice (HF H 11).A1 (BF 11).pairs.length (HF H 11).c1) (.slice (HF H 11).A2 (BF 11).surfs.length (HF H 11).c2) (.int .i64 (BF 11).need) (.slice (HF H 11).A4 (BF 11).trials.length (HF H 11).c4) (.slice (HF H 12).A0 (BF 12).salts.length (HF H 12).c0) (.slice (HF H 12).A1 (BF 12).pairs.length (HF H 12).c1) (.slice (HF H 12).A2 (BF 12).surfs.length (HF H 12).c2) (.int .i64 (BF 12).need) (.slice (HF H 12).A4 (BF 12).trials.length (HF H 12).c4) (.slice (HF H 13).A0 (BF 13).salts.length (HF H 13).c0) (.slice (HF H 13).A1 (BF 13).pairs.length (HF H 13).c1) (.slice (HF H 13).A2 (BF 13).surfs.length (HF H 13).c2) (.int .i64 (BF 13).need) (.slice (HF H 13).A4 (BF 13).trials.length (HF H 13).c4)
  rw [flat_eq]
  simp only [ho, List.map_toArray, List.map_cons, List.map_nil, h0, h1, h2, h3, h4, h5, h6, h7, h8, h9, h10, h11, h12, h13, Sem.run_bind, key, Result.andThen_ok, Sem.run_pure]
def c63 : Array Value := #[.int .i64 0, .bool false, .int .i64 0, .bool false, .int .i64 0, .bool false, .int .i64 0, .bool false, .int .i64 0, .bool false, .int .i64 0, .bool false, .int .i64 0, .bool false]
theorem info59 : (Tryd.prog.info? 59).map (fun i => (i.zero, i.size, i.bytes)) = some (some (.agg #[.int .i64 0, .bool false]), 2, 16) := by kernel_rfl
theorem made63 : madeCells (Value.agg #[.int .i64 0, .bool false]).cells (7 * 2) = c63 := by kernel_rfl
theorem mk63 (ho : o.op = .makeSlice 25 (.const (.int .i64 7)) (.const (.int .i64 7))) (h7 : ∀ n, ρ (.const (.int .i64 n)) = .int .i64 n) : (execOp ρ o).run Tryd.prog w = .ok (.value (.slice (some ⟨w.heap.size, 0, none⟩) 7 7)) (w.alloc (.cells c63 59)) := by
  obtain ⟨i0, hi, hzz⟩ := Option.map_eq_some_iff.1 info59
  simp only [Prod.mk.injEq] at hzz
  obtain ⟨hz0, hz1, hz2⟩ := hzz
  have hr := run_make (P := Tryd.prog) w 25 59 i0 _ Tryd.underlying25 hi hz0 .i64 .i64 7 7 (by decide) (by decide) (by rw [hz2]; decide) (by decide)
  rw [hz1, show (7 : Int).toNat = 7 from rfl, made63] at hr
  unfold execOp
  simp only [ho, h7, Sem.run_bind, hr, Result.andThen_ok, Sem.run_pure]
theorem R_seven (w : World) : Kd.R k59 59 (w.alloc (.cells c63 59)) w.heap.size (fun k => w.heap.size ≤ k ∧ k < (w.alloc (.cells c63 59)).heap.size) (.slice (some ⟨w.heap.size, 0, none⟩) 7 7) seven := by
  have h : Kd.R k59 59 (w.alloc (.cells c63 59)) w.heap.size (fun _ => True) (.slice (some ⟨w.heap.size, 0, none⟩) 7 7) seven := by
    refine ⟨fun _ _ => trivial, flat59 seven, ⟨flat59_len seven, .inr ⟨w.heap.size, 7, c63, rfl, Nat.le_refl _, new_at rfl, by decide, by decide, by decide, rfl⟩⟩, ?_⟩
    exact reps59 _ _ _ seven
  exact Kd.R_mono (Kd.R_bound h) (fun k hk => ⟨hk.2.1, hk.2.2.1⟩)
theorem R_one (w : World) (t : S59) : Kd.R k59 59 (w.alloc (.cells #[.int .i64 t.f0, .bool t.f1] 59)) w.heap.size (fun k => w.heap.size ≤ k ∧ k < (w.alloc (.cells #[.int .i64 t.f0, .bool t.f1] 59)).heap.size) (.slice (some ⟨w.heap.size, 0, none⟩) 1 1) [t] :=
  Kd.R_mono (Kd.R_bound (R_lit59 w t)) (fun k hk => ⟨hk.2.1, hk.2.2.1⟩)
theorem idx75 {x y : Operand} (ho : o.op = .indexAddr 75 x y) {g j : Nat} (hx : ρ x = .slice (some ⟨g, 0, none⟩) 14 14) (hy : ρ y = .int .i64 (j : Int)) (h1 : j < 14) : (execOp ρ o).run Tryd.prog w = .ok (.value (.pointer (some ⟨g, 5 * j, none⟩))) w := by
  have hj : j = 0 ∨ j = 1 ∨ j = 2 ∨ j = 3 ∨ j = 4 ∨ j = 5 ∨ j = 6 ∨ j = 7 ∨ j = 8 ∨ j = 9 ∨ j = 10 ∨ j = 11 ∨ j = 12 ∨ j = 13 := by omega
  unfold execOp
  simp only [ho, hx, hy]
  rcases hj with rfl | rfl | rfl | rfl | rfl | rfl | rfl | rfl | rfl | rfl | rfl | rfl | rfl | rfl <;> go_simp
theorem ld27 {H : Nat → Hd} {B : Nat → Bk} {gb : Nat} (h : w.heap[gb]? = some (.cells (flatB H B) 27 (0, 0))) {j : Nat} (hj : j < 14) {x : Operand} (ho : o.op = .load 27 x) (hx : ρ x = .pointer (some ⟨gb, 5 * j, none⟩)) : (execOp ρ o).run Tryd.prog w = .ok (.value (.agg ((H j).cells (B j)))) w := by
  have := Tryd.underlying27
  have c0 : w.cell? ⟨gb, 5 * j, none⟩ = some (.slice (H j).A0 (B j).salts.length (H j).c0) := (blk_cell h _).trans (flat_at H B hj (m := 0) (by omega))
  have c1 : w.cell? ⟨gb, 5 * j + 1, none⟩ = some (.slice (H j).A1 (B j).pairs.length (H j).c1) := (blk_cell h _).trans (flat_at H B hj (m := 1) (by omega))
  have c2 : w.cell? ⟨gb, 5 * j + 2, none⟩ = some (.slice (H j).A2 (B j).surfs.length (H j).c2) := (blk_cell h _).trans (flat_at H B hj (m := 2) (by omega))
  have c3 : w.cell? ⟨gb, 5 * j + 3, none⟩ = some (.int .i64 (B j).need) := (blk_cell h _).trans (flat_at H B hj (m := 3) (by omega))
  have c4 : w.cell? ⟨gb, 5 * j + 4, none⟩ = some (.slice (H j).A4 (B j).trials.length (H j).c4) := (blk_cell h _).trans (flat_at H B hj (m := 4) (by omega))
  clear h
  unfold execOp
  simp only [ho, hx]
  go_simp
  rfl
end
end Go.Proofs.YtghpoldlddghjaaDoor
namespace Go.Proofs.YtghpoldlddghjaaDoor
open Go Go.RowKit
open Go.Proofs.YtghpoldlddghjaaDoorW.PrintWords Go.Proofs.YtghpoldlddghjaaDoorW.PrintMore Go.Proofs.YtghpoldlddghjaaDoor.PPasteTrue
theorem store_ex {P : Program} {ops : Array Oper} {rest : List Oper} {o : Oper} {a : Act} {Q : Exit → Act → World → Prop} {W : World} {R : World → Prop} (hN : o.dst = none) (hgd : o.guard = none) (hs : ∃ w1, (execOp a.eval o).run P W = .ok .skip w1 ∧ R w1) (h : ∀ w1, R w1 → wpList P ops Q rest a w1) : wpList P ops Q (o :: rest) a W := by
  obtain ⟨w1, hr, hR⟩ := hs
  refine wpList_plain hgd fun K hK => ?_
  unfold Oper.wp
  rw [hr]
  show K (a.put o.dst undef) _
  rw [hN]
  exact hK a _ (h _ hR)
def BD (j : Nat) : Bk := if j = 0 then bkNil
  else if j = 1 then { bookB [] with salts := (bookB []).salts.set 0 ⟨10, ⟨2, 4⟩⟩ }
  else if j = 2 then { bookB [] with salts := (bookB []).salts.set 0 ⟨3, ⟨2, 6⟩⟩ }
  else if j = 3 then { bookB [] with salts := (bookB []).salts.set 2 ⟨2, ⟨9, 10⟩⟩ }
  else if j = 4 then { bookB [] with pairs := (bookB []).pairs.set 0 ⟨0, 0, 10⟩ }
  else if j = 5 then { bookB [] with pairs := (bookB []).pairs.set 1 ⟨1, 3, 20⟩ }
  else if j = 6 then { bookB [] with pairs := (bookB []).pairs.set 0 ⟨0, 1, 31⟩ }
  else if j = 7 then { bookB [] with pairs := (bookB []).pairs.set 1 ⟨0, 1, 5⟩ }
  else if j = 8 then { bookB [] with surfs := (bookB []).surfs.set 0 ⟨⟨70, 201⟩, ⟨5, 10⟩⟩ }
  else if j = 9 then { bookB [] with need := 0 }
  else if j = 10 then bookB [⟨3, true⟩]
  else if j = 11 then bookB seven
  else if j = 12 then { bookB [] with surfs := [] }
  else if j = 13 then { bookB [] with surfs := (bookB []).surfs.set 1 ⟨⟨20, 30⟩, ⟨5, 4⟩⟩ }
  else bookB []
def BK (k j : Nat) : Bk := if j ≤ k then BD j else BF j
theorem BK_0 : BK 0 = BF := by
  funext j
  unfold BK
  by_cases h : j ≤ 0
  · rw [if_pos h]
    have e : j = 0 := by omega
    subst e
    rfl
  · rw [if_neg h]
theorem BK_up {k j : Nat} {b : Bk} (hk : j = k + 1) (h : b = BD j) : upB (BK k) j b = BK j := by
  funext i
  unfold upB BK
  by_cases e : i = j
  · rw [if_pos e, if_pos (by omega), h, e]
  · rw [if_neg e]
    by_cases h1 : i ≤ k
    · rw [if_pos h1, if_pos (by omega)]
    · rw [if_neg h1, if_neg (by omega)]
theorem BK_11 : BK 9 = BK 11 := by
  funext i
  unfold BK
  by_cases h1 : i ≤ 9
  · rw [if_pos h1, if_pos (by omega)]
  · rw [if_neg h1]
    by_cases h2 : i ≤ 11
    · rw [if_pos h2]
      have e : i = 10 ∨ i = 11 := by omega
      rcases e with rfl | rfl <;> rfl
    · rw [if_neg h2]
theorem BK_13 : ∀ j, j < 14 → BK 13 j = BD j := fun j hj => if_pos (by omega)
section
variable {w : World} {gb : Nat} {O : Nat → Nat → Prop} {H : Nat → Hd} {wq : World}
theorem at_2 (x : Bad w gb O H (BK 0) wq) : ∃ g, (H 1).A0 = some ⟨g, 0, none⟩ := x.salt_at (j := 1) (by decide) (by decide)
theorem cell_2 {g : Nat} (hA : (H 1).A0 = some ⟨g, 0, none⟩) (x : Bad w gb O H (BK 0) wq) : wq.cell? ⟨gb, 5, none⟩ = some (.slice (some ⟨g, 0, none⟩) 3 (H 1).c0) := (x.cell (j := 1) (by decide) (m := 0) (by decide)).trans (by rw [← hA]; rfl)
theorem put_2 {g : Nat} (hA : (H 1).A0 = some ⟨g, 0, none⟩) (x : Bad w gb O H (BK 0) wq) {ρ : Operand → Value} {o : Oper} (p y : Operand) (ho : o.op = .store 3 p y) (hp : ρ p = .pointer (some ⟨g, 0, none⟩)) (hy : ρ y = .int .i64 10) : ∃ w1, (execOp ρ o).run Tryd.prog wq = .ok .skip w1 ∧ Bad w gb O H (BK 1) w1 := by
  have h := x.salt (j := 1) (by decide) hA 3 p y ho (i := 0) (off := 0) (by decide) ⟨10, ⟨2, 4⟩⟩ _ [.int .i64 10] [.int .i64 3, .int .i64 2, .int .i64 4] (by rfl) hp rfl hy rfl (by kernel_rfl) (by simp [Value.oneCell']) (by decide) (by simpa using k68_mkM wq w.heap.size (fun _ => False) ⟨10, ⟨2, 4⟩⟩)
  rwa [BK_up (k := 0) rfl (by rfl)] at h
theorem at_3 (x : Bad w gb O H (BK 1) wq) : ∃ g, (H 2).A0 = some ⟨g, 0, none⟩ := x.salt_at (j := 2) (by decide) (by decide)
theorem cell_3 {g : Nat} (hA : (H 2).A0 = some ⟨g, 0, none⟩) (x : Bad w gb O H (BK 1) wq) : wq.cell? ⟨gb, 10, none⟩ = some (.slice (some ⟨g, 0, none⟩) 3 (H 2).c0) := (x.cell (j := 2) (by decide) (m := 0) (by decide)).trans (by rw [← hA]; rfl)
theorem put_3 {g : Nat} (hA : (H 2).A0 = some ⟨g, 0, none⟩) (x : Bad w gb O H (BK 1) wq) {ρ : Operand → Value} {o : Oper} (p y : Operand) (ho : o.op = .store 39 p y) (hp : ρ p = .pointer (some ⟨g, 1, none⟩)) (hy : ρ y = .agg #[.int .i64 2, .int .i64 6]) : ∃ w1, (execOp ρ o).run Tryd.prog wq = .ok .skip w1 ∧ Bad w gb O H (BK 2) w1 := by
  have h := x.salt (j := 2) (by decide) hA 39 p y ho (i := 0) (off := 1) (by decide) ⟨3, ⟨2, 6⟩⟩ _ [.int .i64 2, .int .i64 6] [.int .i64 3, .int .i64 2, .int .i64 4] (by rfl) hp rfl hy rfl (by kernel_rfl) (by simp [Value.oneCell']) (by decide) (by simpa using k68_mkM wq w.heap.size (fun _ => False) ⟨3, ⟨2, 6⟩⟩)
  rwa [BK_up (k := 1) rfl (by rfl)] at h
theorem at_4 (x : Bad w gb O H (BK 2) wq) : ∃ g, (H 3).A0 = some ⟨g, 0, none⟩ := x.salt_at (j := 3) (by decide) (by decide)
theorem cell_4 {g : Nat} (hA : (H 3).A0 = some ⟨g, 0, none⟩) (x : Bad w gb O H (BK 2) wq) : wq.cell? ⟨gb, 15, none⟩ = some (.slice (some ⟨g, 0, none⟩) 3 (H 3).c0) := (x.cell (j := 3) (by decide) (m := 0) (by decide)).trans (by rw [← hA]; rfl)
theorem put_4 {g : Nat} (hA : (H 3).A0 = some ⟨g, 0, none⟩) (x : Bad w gb O H (BK 2) wq) {ρ : Operand → Value} {o : Oper} (p y : Operand) (ho : o.op = .store 39 p y) (hp : ρ p = .pointer (some ⟨g, 7, none⟩)) (hy : ρ y = .agg #[.int .i64 9, .int .i64 10]) : ∃ w1, (execOp ρ o).run Tryd.prog wq = .ok .skip w1 ∧ Bad w gb O H (BK 3) w1 := by
  have h := x.salt (j := 3) (by decide) hA 39 p y ho (i := 2) (off := 1) (by decide) ⟨2, ⟨9, 10⟩⟩ _ [.int .i64 9, .int .i64 10] [.int .i64 2, .int .i64 0, .int .i64 1] (by rfl) hp rfl hy rfl (by kernel_rfl) (by simp [Value.oneCell']) (by decide) (by simpa using k68_mkM wq w.heap.size (fun _ => False) ⟨2, ⟨9, 10⟩⟩)
  rwa [BK_up (k := 2) rfl (by rfl)] at h
theorem at_5 (x : Bad w gb O H (BK 3) wq) : ∃ g, (H 4).A1 = some ⟨g, 0, none⟩ := x.pair_at (j := 4) (by decide) (by decide)
theorem cell_5 {g : Nat} (hA : (H 4).A1 = some ⟨g, 0, none⟩) (x : Bad w gb O H (BK 3) wq) : wq.cell? ⟨gb, 21, none⟩ = some (.slice (some ⟨g, 0, none⟩) 2 (H 4).c1) := (x.cell (j := 4) (by decide) (m := 1) (by decide)).trans (by rw [← hA]; rfl)
theorem put_5 {g : Nat} (hA : (H 4).A1 = some ⟨g, 0, none⟩) (x : Bad w gb O H (BK 3) wq) {ρ : Operand → Value} {o : Oper} (p y : Operand) (ho : o.op = .store 3 p y) (hp : ρ p = .pointer (some ⟨g, 1, none⟩)) (hy : ρ y = .int .i64 0) : ∃ w1, (execOp ρ o).run Tryd.prog wq = .ok .skip w1 ∧ Bad w gb O H (BK 4) w1 := by
  have h := x.pair (j := 4) (by decide) hA 3 p y ho (i := 0) (off := 1) (by decide) ⟨0, 0, 10⟩ _ [.int .i64 0] [.int .i64 0, .int .i64 1, .int .i64 10] (by rfl) hp rfl hy rfl (by kernel_rfl) (by simp [Value.oneCell']) (by decide) (by simpa using k77_mkM wq w.heap.size (fun _ => False) ⟨0, 0, 10⟩)
  rwa [BK_up (k := 3) rfl (by rfl)] at h
theorem at_6 (x : Bad w gb O H (BK 4) wq) : ∃ g, (H 5).A1 = some ⟨g, 0, none⟩ := x.pair_at (j := 5) (by decide) (by decide)
theorem cell_6 {g : Nat} (hA : (H 5).A1 = some ⟨g, 0, none⟩) (x : Bad w gb O H (BK 4) wq) : wq.cell? ⟨gb, 26, none⟩ = some (.slice (some ⟨g, 0, none⟩) 2 (H 5).c1) := (x.cell (j := 5) (by decide) (m := 1) (by decide)).trans (by rw [← hA]; rfl)
theorem put_6 {g : Nat} (hA : (H 5).A1 = some ⟨g, 0, none⟩) (x : Bad w gb O H (BK 4) wq) {ρ : Operand → Value} {o : Oper} (p y : Operand) (ho : o.op = .store 3 p y) (hp : ρ p = .pointer (some ⟨g, 4, none⟩)) (hy : ρ y = .int .i64 3) : ∃ w1, (execOp ρ o).run Tryd.prog wq = .ok .skip w1 ∧ Bad w gb O H (BK 5) w1 := by
  have h := x.pair (j := 5) (by decide) hA 3 p y ho (i := 1) (off := 1) (by decide) ⟨1, 3, 20⟩ _ [.int .i64 3] [.int .i64 1, .int .i64 2, .int .i64 20] (by rfl) hp rfl hy rfl (by kernel_rfl) (by simp [Value.oneCell']) (by decide) (by simpa using k77_mkM wq w.heap.size (fun _ => False) ⟨1, 3, 20⟩)
  rwa [BK_up (k := 4) rfl (by rfl)] at h
theorem at_7 (x : Bad w gb O H (BK 5) wq) : ∃ g, (H 6).A1 = some ⟨g, 0, none⟩ := x.pair_at (j := 6) (by decide) (by decide)
theorem cell_7 {g : Nat} (hA : (H 6).A1 = some ⟨g, 0, none⟩) (x : Bad w gb O H (BK 5) wq) : wq.cell? ⟨gb, 31, none⟩ = some (.slice (some ⟨g, 0, none⟩) 2 (H 6).c1) := (x.cell (j := 6) (by decide) (m := 1) (by decide)).trans (by rw [← hA]; rfl)
theorem put_7 {g : Nat} (hA : (H 6).A1 = some ⟨g, 0, none⟩) (x : Bad w gb O H (BK 5) wq) {ρ : Operand → Value} {o : Oper} (p y : Operand) (ho : o.op = .store 3 p y) (hp : ρ p = .pointer (some ⟨g, 2, none⟩)) (hy : ρ y = .int .i64 31) : ∃ w1, (execOp ρ o).run Tryd.prog wq = .ok .skip w1 ∧ Bad w gb O H (BK 6) w1 := by
  have h := x.pair (j := 6) (by decide) hA 3 p y ho (i := 0) (off := 2) (by decide) ⟨0, 1, 31⟩ _ [.int .i64 31] [.int .i64 0, .int .i64 1, .int .i64 10] (by rfl) hp rfl hy rfl (by kernel_rfl) (by simp [Value.oneCell']) (by decide) (by simpa using k77_mkM wq w.heap.size (fun _ => False) ⟨0, 1, 31⟩)
  rwa [BK_up (k := 5) rfl (by rfl)] at h
theorem at_8 (x : Bad w gb O H (BK 6) wq) : ∃ g, (H 7).A1 = some ⟨g, 0, none⟩ := x.pair_at (j := 7) (by decide) (by decide)
theorem cell_8 {g : Nat} (hA : (H 7).A1 = some ⟨g, 0, none⟩) (x : Bad w gb O H (BK 6) wq) : wq.cell? ⟨gb, 36, none⟩ = some (.slice (some ⟨g, 0, none⟩) 2 (H 7).c1) := (x.cell (j := 7) (by decide) (m := 1) (by decide)).trans (by rw [← hA]; rfl)
theorem put_8 {g : Nat} (hA : (H 7).A1 = some ⟨g, 0, none⟩) (x : Bad w gb O H (BK 6) wq) {ρ : Operand → Value} {o : Oper} (p y : Operand) (ho : o.op = .store 77 p y) (hp : ρ p = .pointer (some ⟨g, 3, none⟩)) (hy : ρ y = .agg #[.int .i64 0, .int .i64 1, .int .i64 5]) : ∃ w1, (execOp ρ o).run Tryd.prog wq = .ok .skip w1 ∧ Bad w gb O H (BK 7) w1 := by
  have h := x.pair (j := 7) (by decide) hA 77 p y ho (i := 1) (off := 0) (by decide) ⟨0, 1, 5⟩ _ [.int .i64 0, .int .i64 1, .int .i64 5] [.int .i64 1, .int .i64 2, .int .i64 20] (by rfl) hp rfl hy rfl (by kernel_rfl) (by simp [Value.oneCell']) (by decide) (by simpa using k77_mkM wq w.heap.size (fun _ => False) ⟨0, 1, 5⟩)
  rwa [BK_up (k := 6) rfl (by rfl)] at h
theorem at_9 (x : Bad w gb O H (BK 7) wq) : ∃ g, (H 8).A2 = some ⟨g, 0, none⟩ := x.surf_at (j := 8) (by decide) (by decide)
theorem cell_9 {g : Nat} (hA : (H 8).A2 = some ⟨g, 0, none⟩) (x : Bad w gb O H (BK 7) wq) : wq.cell? ⟨gb, 42, none⟩ = some (.slice (some ⟨g, 0, none⟩) 3 (H 8).c2) := (x.cell (j := 8) (by decide) (m := 2) (by decide)).trans (by rw [← hA]; rfl)
theorem put_9 {g : Nat} (hA : (H 8).A2 = some ⟨g, 0, none⟩) (x : Bad w gb O H (BK 7) wq) {ρ : Operand → Value} {o : Oper} (p y : Operand) (ho : o.op = .store 39 p y) (hp : ρ p = .pointer (some ⟨g, 0, none⟩)) (hy : ρ y = .agg #[.int .i64 70, .int .i64 201]) : ∃ w1, (execOp ρ o).run Tryd.prog wq = .ok .skip w1 ∧ Bad w gb O H (BK 8) w1 := by
  have h := x.surf (j := 8) (by decide) hA 39 p y ho (i := 0) (off := 0) (by decide) ⟨⟨70, 201⟩, ⟨5, 10⟩⟩ _ [.int .i64 70, .int .i64 201] [.int .i64 70, .int .i64 80, .int .i64 5, .int .i64 10] (by rfl) hp rfl hy rfl (by kernel_rfl) (by simp [Value.oneCell']) (by decide) (by simpa using k47_mkM wq w.heap.size (fun _ => False) ⟨⟨70, 201⟩, ⟨5, 10⟩⟩)
  rwa [BK_up (k := 7) rfl (by rfl)] at h
theorem at_12 (x : Bad w gb O H (BK 12) wq) : ∃ g, (H 13).A2 = some ⟨g, 0, none⟩ := x.surf_at (j := 13) (by decide) (by decide)
theorem cell_12 {g : Nat} (hA : (H 13).A2 = some ⟨g, 0, none⟩) (x : Bad w gb O H (BK 12) wq) : wq.cell? ⟨gb, 67, none⟩ = some (.slice (some ⟨g, 0, none⟩) 3 (H 13).c2) := (x.cell (j := 13) (by decide) (m := 2) (by decide)).trans (by rw [← hA]; rfl)
theorem put_12 {g : Nat} (hA : (H 13).A2 = some ⟨g, 0, none⟩) (x : Bad w gb O H (BK 12) wq) {ρ : Operand → Value} {o : Oper} (p y : Operand) (ho : o.op = .store 39 p y) (hp : ρ p = .pointer (some ⟨g, 6, none⟩)) (hy : ρ y = .agg #[.int .i64 5, .int .i64 4]) : ∃ w1, (execOp ρ o).run Tryd.prog wq = .ok .skip w1 ∧ Bad w gb O H (BK 13) w1 := by
  have h := x.surf (j := 13) (by decide) hA 39 p y ho (i := 1) (off := 2) (by decide) ⟨⟨20, 30⟩, ⟨5, 4⟩⟩ _ [.int .i64 5, .int .i64 4] [.int .i64 20, .int .i64 30, .int .i64 0, .int .i64 5] (by rfl) hp rfl hy rfl (by kernel_rfl) (by simp [Value.oneCell']) (by decide) (by simpa using k47_mkM wq w.heap.size (fun _ => False) ⟨⟨20, 30⟩, ⟨5, 4⟩⟩)
  rwa [BK_up (k := 12) rfl (by rfl)] at h
theorem cellb_3 {g : Nat} (hA : (H 2).A0 = some ⟨g, 0, none⟩) (x : Bad w gb O H (BK 2) wq) : wq.cell? ⟨gb, 10, none⟩ = some (.slice (some ⟨g, 0, none⟩) 3 (H 2).c0) := (x.cell (j := 2) (by decide) (m := 0) (by decide)).trans (by rw [← hA]; rfl)
theorem cellb_4 {g : Nat} (hA : (H 3).A0 = some ⟨g, 0, none⟩) (x : Bad w gb O H (BK 3) wq) : wq.cell? ⟨gb, 15, none⟩ = some (.slice (some ⟨g, 0, none⟩) 3 (H 3).c0) := (x.cell (j := 3) (by decide) (m := 0) (by decide)).trans (by rw [← hA]; rfl)
theorem cellb_9 {g : Nat} (hA : (H 8).A2 = some ⟨g, 0, none⟩) (x : Bad w gb O H (BK 8) wq) : wq.cell? ⟨gb, 42, none⟩ = some (.slice (some ⟨g, 0, none⟩) 3 (H 8).c2) := (x.cell (j := 8) (by decide) (m := 2) (by decide)).trans (by rw [← hA]; rfl)
theorem cellb_12 {g : Nat} (hA : (H 13).A2 = some ⟨g, 0, none⟩) (x : Bad w gb O H (BK 13) wq) : wq.cell? ⟨gb, 67, none⟩ = some (.slice (some ⟨g, 0, none⟩) 3 (H 13).c2) := (x.cell (j := 13) (by decide) (m := 2) (by decide)).trans (by rw [← hA]; rfl)
theorem fldO27_0 {ρ : Operand → Value} {o : Oper} {x : Operand} (ho : o.op = .fieldAddr 27 x 0) {g off : Nat} (hx : ρ x = .pointer (some ⟨g, off, none⟩)) : (execOp ρ o).run Tryd.prog wq = .ok (.value (.pointer (some ⟨g, off, none⟩))) wq := by
  unfold execOp
  simp only [ho, hx]
  go_simp
theorem fldO27_2 {ρ : Operand → Value} {o : Oper} {x : Operand} (ho : o.op = .fieldAddr 27 x 2) {g off : Nat} (hx : ρ x = .pointer (some ⟨g, off, none⟩)) : (execOp ρ o).run Tryd.prog wq = .ok (.value (.pointer (some ⟨g, off + 2, none⟩))) wq := by
  unfold execOp
  simp only [ho, hx]
  go_simp
theorem fldO47_0 {ρ : Operand → Value} {o : Oper} {x : Operand} (ho : o.op = .fieldAddr 47 x 0) {g off : Nat} (hx : ρ x = .pointer (some ⟨g, off, none⟩)) : (execOp ρ o).run Tryd.prog wq = .ok (.value (.pointer (some ⟨g, off, none⟩))) wq := by
  unfold execOp
  simp only [ho, hx]
  go_simp
theorem fldO47_1 {ρ : Operand → Value} {o : Oper} {x : Operand} (ho : o.op = .fieldAddr 47 x 1) {g off : Nat} (hx : ρ x = .pointer (some ⟨g, off, none⟩)) : (execOp ρ o).run Tryd.prog wq = .ok (.value (.pointer (some ⟨g, off + 2, none⟩))) wq := by
  unfold execOp
  simp only [ho, hx]
  go_simp
theorem idx24k {ρ : Operand → Value} {o : Oper} {x y : Operand} (ho : o.op = .indexAddr 24 x y) {g n c k : Nat} (hx : ρ x = .slice (some ⟨g, 0, none⟩) n c) (hy : ρ y = .int .i64 (k : Int)) (h1 : k < n) : (execOp ρ o).run Tryd.prog wq = .ok (.value (.pointer (some ⟨g, k * 4, none⟩))) wq := by
  unfold execOp
  simp only [ho, hx, hy]
  go_simp
end
end Go.Proofs.YtghpoldlddghjaaDoor
namespace Go.Proofs.YtghpoldlddghjaaDoor
open Go Go.RowKit
open Go.Proofs.YtghpoldlddghjaaDoorW.PrintWords Go.Proofs.YtghpoldlddghjaaDoorW.PrintMore Go.Proofs.YtghpoldlddghjaaDoor.PPasteTrue
theorem val_of {P : Program} {ops : Array Oper} {rest : List Oper} {o : Oper} {a : Act} {Q : Exit → Act → World → Prop} {W : World} {v : Value} (hgd : o.guard = none) (hr : (execOp a.eval o).run P W = .ok (.value v) W) (h : wpList P ops Q rest (a.put o.dst v) W) : wpList P ops Q (o :: rest) a W := by
  refine wpList_plain hgd fun K hK => ?_
  unfold Oper.wp
  rw [hr]
  exact hK _ _ h
theorem sane_of {b : Bk} (h : b.pairs.all (fun p => decide (0 ≤ p.f1)) = true) : Sane b := fun p hp => of_decide_eq_true (List.all_eq_true.1 h p hp)
theorem ck_0 : checkB (BD 0) = false := by kernel_rfl
theorem sn_0 : (BD 0).pairs.all (fun p => decide (0 ≤ p.f1)) = true := by kernel_rfl
theorem ck_1 : checkB (BD 1) = false := by kernel_rfl
theorem sn_1 : (BD 1).pairs.all (fun p => decide (0 ≤ p.f1)) = true := by kernel_rfl
theorem ck_2 : checkB (BD 2) = false := by kernel_rfl
theorem sn_2 : (BD 2).pairs.all (fun p => decide (0 ≤ p.f1)) = true := by kernel_rfl
theorem ck_3 : checkB (BD 3) = false := by kernel_rfl
theorem sn_3 : (BD 3).pairs.all (fun p => decide (0 ≤ p.f1)) = true := by kernel_rfl
theorem ck_4 : checkB (BD 4) = false := by kernel_rfl
theorem sn_4 : (BD 4).pairs.all (fun p => decide (0 ≤ p.f1)) = true := by kernel_rfl
theorem ck_5 : checkB (BD 5) = false := by kernel_rfl
theorem sn_5 : (BD 5).pairs.all (fun p => decide (0 ≤ p.f1)) = true := by kernel_rfl
theorem ck_6 : checkB (BD 6) = false := by kernel_rfl
theorem sn_6 : (BD 6).pairs.all (fun p => decide (0 ≤ p.f1)) = true := by kernel_rfl
theorem ck_7 : checkB (BD 7) = false := by kernel_rfl
theorem sn_7 : (BD 7).pairs.all (fun p => decide (0 ≤ p.f1)) = true := by kernel_rfl
theorem ck_8 : checkB (BD 8) = false := by kernel_rfl
theorem sn_8 : (BD 8).pairs.all (fun p => decide (0 ≤ p.f1)) = true := by kernel_rfl
theorem ck_9 : checkB (BD 9) = false := by kernel_rfl
theorem sn_9 : (BD 9).pairs.all (fun p => decide (0 ≤ p.f1)) = true := by kernel_rfl
theorem ck_10 : checkB (BD 10) = false := by kernel_rfl
theorem sn_10 : (BD 10).pairs.all (fun p => decide (0 ≤ p.f1)) = true := by kernel_rfl
theorem ck_11 : checkB (BD 11) = false := by kernel_rfl
theorem sn_11 : (BD 11).pairs.all (fun p => decide (0 ≤ p.f1)) = true := by kernel_rfl
theorem ck_12 : checkB (BD 12) = false := by kernel_rfl
theorem sn_12 : (BD 12).pairs.all (fun p => decide (0 ≤ p.f1)) = true := by kernel_rfl
theorem ck_13 : checkB (BD 13) = false := by kernel_rfl
theorem sn_13 : (BD 13).pairs.all (fun p => decide (0 ≤ p.f1)) = true := by kernel_rfl
theorem bd_ck : ∀ j, j < 14 → checkB (BD j) = false := by
  intro j hj
  have hj' : j = 0 ∨ j = 1 ∨ j = 2 ∨ j = 3 ∨ j = 4 ∨ j = 5 ∨ j = 6 ∨ j = 7 ∨ j = 8 ∨ j = 9 ∨ j = 10 ∨ j = 11 ∨ j = 12 ∨ j = 13 := by omega
  rcases hj' with rfl | rfl | rfl | rfl | rfl | rfl | rfl | rfl | rfl | rfl | rfl | rfl | rfl | rfl
  · exact ck_0
  · exact ck_1
  · exact ck_2
  · exact ck_3
  · exact ck_4
  · exact ck_5
  · exact ck_6
  · exact ck_7
  · exact ck_8
  · exact ck_9
  · exact ck_10
  · exact ck_11
  · exact ck_12
  · exact ck_13
theorem bd_sane : ∀ j, j < 14 → Sane (BD j) := by
  intro j hj
  have hj' : j = 0 ∨ j = 1 ∨ j = 2 ∨ j = 3 ∨ j = 4 ∨ j = 5 ∨ j = 6 ∨ j = 7 ∨ j = 8 ∨ j = 9 ∨ j = 10 ∨ j = 11 ∨ j = 12 ∨ j = 13 := by omega
  rcases hj' with rfl | rfl | rfl | rfl | rfl | rfl | rfl | rfl | rfl | rfl | rfl | rfl | rfl | rfl
  · exact sane_of sn_0
  · exact sane_of sn_1
  · exact sane_of sn_2
  · exact sane_of sn_3
  · exact sane_of sn_4
  · exact sane_of sn_5
  · exact sane_of sn_6
  · exact sane_of sn_7
  · exact sane_of sn_8
  · exact sane_of sn_9
  · exact sane_of sn_10
  · exact sane_of sn_11
  · exact sane_of sn_12
  · exact sane_of sn_13
section
variable {b : Bk} {h : Hd} {w : World}
theorem ask_bad (hc : checkB b = false) (is : Bool) : askE b is = 20 := by unfold askE; rw [hc]; rfl
theorem bad_right (hb : BkIn w h b) (hs : Sane b) (hc : checkB b = false) : Calls Tryd.prog 15 #[.agg (h.cells b)] w fun e w' => e = .returned (.tuple #[.bool false, .int .i64 20]) ∧ Below w.heap.size w w' := by
  have h1 := Right_calls hb hs
  unfold eRight at h1
  rw [ask_bad hc] at h1
  exact h1
theorem bad_power (hb : BkIn w h b) (hs : Sane b) (hc : checkB b = false) : Calls Tryd.prog 17 #[.agg (h.cells b)] w fun e w' => e = .returned (.tuple #[.agg #[.int .i64 0, .int .i64 0], .int .i64 20]) ∧ Below w.heap.size w w' := by
  have h1 := Power_calls hb hs
  unfold kR at h1
  rw [ask_bad hc] at h1
  exact h1
theorem bad_lights (hg : Asks w) (hb : BkIn w h b) (hs : Sane b) (hc : checkB b = false) (n : Int) : Calls Tryd.prog 20 #[.agg (h.cells b), .int .i64 n] w fun e w' => e = .returned (.tuple #[.int .i64 0, .int .i64 20]) ∧ Below w.heap.size w w' := by
  have h1 := Lights_calls hg hb hs n
  unfold lR eL at h1
  rw [ask_bad hc] at h1
  exact h1
theorem bad_safe (hg : Asks w) (hb : BkIn w h b) (hs : Sane b) (hc : checkB b = false) : Calls Tryd.prog 18 #[.agg (h.cells b)] w fun e w' => e = .returned (.tuple #[.bool false, .int .i64 20]) ∧ Below w.heap.size w w' := by
  have h1 := Safe_calls hg hb hs
  unfold safeR at h1
  rw [ask_bad hc] at h1
  exact h1
theorem bad_blame (hg : Asks w) (hb : BkIn w h b) (hs : Sane b) (hc : checkB b = false) (n : Int) : Calls Tryd.prog 34 #[.agg (h.cells b), .int .i64 n] w fun e w' => (∃ A c, e = .returned (.tuple #[.slice A 0 c, .int .i64 20])) ∧ Below w.heap.size w w' := by
  have e1 : blameE b n = 20 := by unfold blameE; rw [hc]; rfl
  have e2 : blameL b n = [] := by unfold blameL; rw [e1]; rfl
  refine (Blame_calls hg hb hs n).mono ?_
  rw [e1, e2]
  rintro e w' ⟨⟨A, c, he, _⟩, hb⟩
  exact ⟨⟨A, c, he⟩, hb⟩
theorem bad_less (hg : Asks w) (hb : BkIn w h b) (hs : Sane b) (hc : checkB b = false) (n : Int) : Calls Tryd.prog 37 #[.agg (h.cells b), .int .i64 n] w fun e w' => e = .returned (.tuple #[.int .i64 0, .int .i64 20]) ∧ Below w.heap.size w w' := by
  have h1 := Less_calls hg hb hs n
  have e1 : lessR b n = (0, 20) := by unfold lessR; rw [hc]; rfl
  rw [e1] at h1
  exact h1
theorem bad_damper (hg : Asks w) (hb : BkIn w h b) (hs : Sane b) (hc : checkB b = false) : Calls Tryd.prog 42 #[.agg (h.cells b)] w fun e w' => e = .returned (.tuple #[.agg #[.int .i64 0, .int .i64 0], .int .i64 20]) ∧ Below w.heap.size w w' := by
  have h1 := Damper_calls hg hb hs
  have e1 : damperR b = ((0, 0), 20) := by unfold damperR; rw [hc]; rfl
  rw [e1] at h1
  exact h1
theorem bad_wrong (hb : BkIn w h b) (hs : Sane b) (hc : checkB b = false) : Calls Tryd.prog 16 #[.agg (h.cells b)] w fun e w' => (∃ A c, e = .returned (.tuple #[.slice A 0 c, .int .i64 20])) ∧ Below w.heap.size w w' := by
  have e1 : wrongE b = 20 := by unfold wrongE; rw [hc]; rfl
  have e2 : wrongL b = [] := by unfold wrongL; rw [hc]; rfl
  refine (Wrong_calls hb hs).mono ?_
  rw [e1, e2]
  rintro e w' ⟨⟨A, c, he, _⟩, hb⟩
  exact ⟨⟨A, c, he⟩, hb⟩
theorem bad_next (hb : BkIn w h b) (hs : Sane b) (hc : checkB b = false) : Calls Tryd.prog 39 #[.agg (h.cells b)] w fun e w' => e = .returned (.tuple #[.int .i64 0, .int .i64 20]) ∧ Below w.heap.size w w' := by
  have h1 := Next_calls hb hs
  have e1 : nextR b = (0, 20) := by unfold nextR; rw [ask_bad hc]; rfl
  rw [e1] at h1
  exact h1
theorem bad_check (hb : BkIn w h b) (hc : checkB b = false) : Calls Tryd.prog 43 #[.agg (h.cells b)] w fun e w' => e = .returned (.int .i64 20) ∧ Below w.heap.size w w' := by
  have h1 := check_calls hb
  rw [hc] at h1
  exact h1
end
structure BadD (w : World) (gb : Nat) (H : Nat → Hd) (wq : World) : Prop where
  b : Below w.heap.size w wq
  blk : wq.heap[gb]? = some (.cells (flatB H BD) 27 (0, 0))
  bk : ∀ j, j < 14 → BkIn wq (H j) (BD j)
theorem Bad.done {w : World} {gb : Nat} {O : Nat → Nat → Prop} {H : Nat → Hd} {wq : World} (x : Bad w gb O H (BK 13) wq) : BadD w gb H wq :=
  ⟨x.b, by rw [← flat_same (H := H) (B := BK 13) (B' := BD) (fun j hj => by rw [BK_13 j hj])]; exact x.blk, fun j hj => by rw [← BK_13 j hj]; exact (x.own j hj).bk⟩
theorem BadD.on {w : World} {gb : Nat} {H : Nat → Hd} {wq w1 : World} (x : BadD w gb H wq) (hb : Below wq.heap.size wq w1) : BadD w gb H w1 := ⟨below_step x.b hb, blk_below x.blk hb, fun j hj => (x.bk j hj).below hb⟩
end Go.Proofs.YtghpoldlddghjaaDoor
namespace Go.Proofs.YtghpoldlddghjaaDoor
open Go Go.RowKit
open Go.Proofs.YtghpoldlddghjaaDoorW.PrintWords Go.Proofs.YtghpoldlddghjaaDoorW.PrintMore Go.Proofs.YtghpoldlddghjaaDoor.PPasteTrue
theorem ask22 {b : Bk} (hc : checkB b = true) (hs : SP b) (h : (trs b).isEmpty = true) : askE b true = 22 := by
  unfold askE
  rw [if_pos hc, if_pos rfl, if_neg (by rw [can_eq hs, h]; simp)]
theorem ask21 {b : Bk} (hc : checkB b = true) : askE b false = 21 := by
  unfold askE
  rw [if_pos hc]
  rfl
theorem ask_torn : askE (bookB tornT) true = 22 := ask22 ck_torn gd_torn.sp (by kernel_rfl)
theorem q27 : lR (bookB tornT) 3 = 0 ∧ eL (bookB tornT) 3 = 21 := by
  have e : eL (bookB tornT) 3 = 21 := by
    unfold eL
    rw [show isSurfB (bookB tornT) 3 = false by kernel_rfl]
    exact ask21 ck_torn
  refine ⟨?_, e⟩
  unfold lR
  rw [e]
  rfl
theorem q28 : blameE (bookB tornT) (-1) = 21 := by
  unfold blameE eB
  rw [if_pos ck_torn, show isSurfB (bookB tornT) (-1) = false by kernel_rfl, show askE (bookB tornT).bare false = 21 from ask21 (show checkB (bookB tornT).bare = true by kernel_rfl)]
  rfl
theorem q29 : lessR (bookB tornT) 3 = (0, 21) := by
  unfold lessR
  rw [if_pos ck_torn, show isSaltB (bookB tornT) 3 = false by kernel_rfl]
  rfl
theorem q30 : kR (bookB tornT) = (0, 0) := by
  unfold kR
  rw [ask_torn]
  rfl
theorem q31 : lR (bookB tornT) 0 = 0 ∧ eL (bookB tornT) 0 = 22 := by
  have e : eL (bookB tornT) 0 = 22 := by
    unfold eL
    rw [show isSurfB (bookB tornT) 0 = true by kernel_rfl]
    exact ask_torn
  refine ⟨?_, e⟩
  unfold lR
  rw [e]
  rfl
theorem q32 : safeR (bookB tornT) = false := by
  unfold safeR
  rw [ask_torn]
  rfl
theorem q33 : nextR (bookB tornT) = (0, 22) := by
  unfold nextR
  rw [ask_torn]
  rfl
theorem q34 : eRight (bookB tornT) = 0 := by
  unfold eRight
  rw [ask_torn]
  rfl
theorem ask_bp : askE plainB.bare true = 0 := ask_of (by kernel_rfl) (good_bare gd_plain).sp (by kernel_rfl)
theorem q40 : blameE plainB 1 = 4 := (blameE_of ck_plain gd_plain (by kernel_rfl) ask_bp).trans (by kernel_rfl)
theorem blame_nil {b : Bk} {n e : Int} (h : blameE b n = e) (h0 : e ≠ 0) : blameL b n = [] := by
  unfold blameL
  rw [h, if_neg h0]
theorem q41 : lessR (bookB []) 0 = (0, 4) := (lessR_of ck_book0 gd_book0 (by kernel_rfl)).trans (by kernel_rfl)
theorem q42 : damperR (bookB []) = ((0, 0), 4) := (damperR_of ck_book0 gd_book0.sp).trans (by kernel_rfl)
def oneB : Bk := { plainB with salts := [⟨2, ⟨0, 0⟩⟩], pairs := [] }
theorem ck_one : checkB oneB = true := by kernel_rfl
theorem sane_one : Sane oneB := fun p hp => by simp [oneB] at hp
theorem gd_one : Good oneB := good_of ck_one sane_one
theorem ask_one : askE oneB true = 0 := ask_of ck_one gd_one.sp (by kernel_rfl)
theorem q43 : nextR oneB = (0, 4) := (nextR_of ask_one gd_one.sp).trans (by kernel_rfl)
theorem q44e : blameE (bookB tornT) 2 = 0 := (blameE_of ck_torn gd_torn (by kernel_rfl) ask_book0).trans (by kernel_rfl)
theorem q44 : blameL (bookB tornT) 2 = [1] := (blameL_of gd_torn q44e).trans (by kernel_rfl)
theorem q45 : lessR (bookB tornT) 2 = (1, 0) := (lessR_of ck_torn gd_torn (by kernel_rfl)).trans (by kernel_rfl)
theorem q46 : lessR plainB 0 = (0, 0) := (lessR_of ck_plain gd_plain (by kernel_rfl)).trans (by kernel_rfl)
theorem q47 : kR plainB = (21, 32) := (kR_of ask_plain gd_plain.sp).trans (by kernel_rfl)
theorem q50e : eL (bookB []) 0 = 0 := eL_of ask_book0 (by kernel_rfl)
theorem q50 : lR (bookB []) 0 = 2 := (lR_of q50e gd_book0.sp).trans (by kernel_rfl)
theorem q51e : eL (bookB []) 2 = 0 := eL_of ask_book0 (by kernel_rfl)
theorem q51 : lR (bookB []) 2 = 1 := (lR_of q51e gd_book0.sp).trans (by kernel_rfl)
theorem q52e : eL plainB 1 = 0 := eL_of ask_plain (by kernel_rfl)
theorem q52 : lR plainB 1 = 0 := (lR_of q52e gd_plain.sp).trans (by kernel_rfl)
theorem q53e : eL (bookB [⟨1, true⟩]) 2 = 0 := eL_of ask_book1 (by kernel_rfl)
theorem q53 : lR (bookB [⟨1, true⟩]) 2 = 2 := (lR_of q53e gd_book1.sp).trans (by kernel_rfl)
theorem q54 : safeR (bookB []) = false := (safeR_of ask_book0 gd_book0.sp).trans (by kernel_rfl)
theorem ck_b2 : checkB (bookB [⟨2, true⟩]) = true := by kernel_rfl
theorem gd_b2 : Good (bookB [⟨2, true⟩]) := good_of ck_b2 (sane_book _)
theorem ask_b2 : askE (bookB [⟨2, true⟩]) true = 0 := ask_of ck_b2 gd_b2.sp (by kernel_rfl)
theorem q55 : nextR (bookB [⟨2, true⟩]) = (0, 0) := (nextR_of ask_b2 gd_b2.sp).trans (by kernel_rfl)
theorem q56 : wrongL (bookB []) = [] := (wrongL_of ck_book0 gd_book0.sp).trans (by kernel_rfl)
theorem q56e : wrongE (bookB []) = 0 := by unfold wrongE; rw [if_pos ck_book0]
theorem ck_n2 : checkB (bookB [⟨2, false⟩]) = true := by kernel_rfl
theorem gd_n2 : Good (bookB [⟨2, false⟩]) := good_of ck_n2 (sane_book _)
theorem ask_n2 : askE (bookB [⟨2, false⟩]) true = 0 := ask_of ck_n2 gd_n2.sp (by kernel_rfl)
theorem q57 : kR (bookB [⟨2, false⟩]) = (21, 32) := (kR_of ask_n2 gd_n2.sp).trans (by kernel_rfl)
def from2 (A : Option Addr) (c : Nat) : Option Addr := if c = 2 then A else A.map (·.add (2 * k68.sz))
theorem run_from22 (A : Option Addr) (c : Nat) (hc : 3 ≤ c) (w : World) : (Instr.sliceAt 22 (.slice A 3 c) (some (.int .i64 2)) none none).run Tryd.prog w = .ok (.slice (from2 A c) 1 (c - 2)) w := by
  go_simp
  rfl
theorem one_in {h : Hd} {w : World} (hb : BkIn w h plainB) : BkIn w ⟨from2 h.A0 h.c0, h.c0 - 2, none, 0, h.A2, h.c2, h.A4, h.c4⟩ oneB := by
  have h0 := Kd.C_drop (m := 2) (c := h.c0) hb.r0 (by decide) hb.l0
  have hl : 3 ≤ h.c0 := hb.l0
  refine ⟨h0, Kd.R_reads' (Kd.R_nil k77 77 w 0 (fun _ => True)) |>.2.2, hb.r2, hb.r4, ?_, Nat.zero_le _, hb.l2, hb.l4⟩
  show 1 ≤ h.c0 - 2
  omega
theorem alike1 {A9 : Option Addr} {c9 gS : Nat} {w : World} (h9 : ReadsInt w .i64 A9 1 [1]) (hl : 1 ≤ c9) (hS : w.heap[gS]? = some (.cells #[.int .i64 1] 3 (0, 0))) :
    Calls Tryd.prog 46 #[.slice A9 1 c9, .slice (some ⟨gS, 0, none⟩) 1 1] w fun e w' => e = .returned (.bool true) ∧ Below w.heap.size w w' := by
  refine (luciferref00_Alike.calls 2 A9 c9 [1] (some ⟨gS, 0, none⟩) 1 [1] true w (C_of_reads h9) hl (C_of_reads (reads_block (xs := [1]) hS (by decide))) (Nat.le_refl _) (by kernel_rfl)).mono ?_
  rintro e w' ⟨he, hd⟩
  exact ⟨he, hd.below⟩
structure K48 (w0 : World) (g41 : Nat) (A9 : Option Addr) (gS : Nat) (wq : World) (b20 : Bool) : Prop where
  below : Below w0.heap.size w0 wq
  t1 : wq.heap[g41]? = some (.cells #[.int .i64 21, .int .i64 32] 39 (0, 0))
  bl : ReadsInt wq .i64 A9 1 [1]
  sl : b20 = true → wq.heap[gS]? = some (.cells #[.int .i64 1] 3 (0, 0))
theorem K48.on {w0 : World} {g41 : Nat} {A9 : Option Addr} {gS : Nat} {wq w1 : World} {b20 : Bool} (s : K48 w0 g41 A9 gS wq b20) (hb : Below wq.heap.size wq w1) : K48 w0 g41 A9 gS w1 b20 :=
  ⟨below_step s.below hb, blk_below s.t1 hb, s.bl.below hb, fun e => blk_below (s.sl e) hb⟩
theorem K48.slice {w0 : World} {g41 : Nat} {A9 : Option Addr} {gS : Nat} {wq : World} {b20 : Bool} (s : K48 w0 g41 A9 gS wq b20) : K48 w0 g41 A9 wq.heap.size (wq.alloc (.cells #[.int .i64 1] 3)) true :=
  ⟨below_step s.below (below_alloc (Below.refl _ _) _), blk_alloc s.t1 _, s.bl.allocS _, fun _ => new_at rfl⟩
structure K58 (w0 : World) (g49 : Nat) (wq : World) : Prop where
  below : Below w0.heap.size w0 wq
  t1 : wq.heap[g49]? = some (.cells #[.int .i64 21, .int .i64 32] 39 (0, 0))
theorem K58.on {w0 : World} {g49 : Nat} {wq w1 : World} (s : K58 w0 g49 wq) (hb : Below wq.heap.size wq w1) : K58 w0 g49 w1 := ⟨below_step s.below hb, blk_below s.t1 hb⟩
end Go.Proofs.YtghpoldlddghjaaDoor
namespace Go.Proofs.YtghpoldlddghjaaDoor
open Go Go.RowKit
open Go.Proofs.YtghpoldlddghjaaDoorW.PrintWords Go.Proofs.YtghpoldlddghjaaDoorW.PrintMore Go.Proofs.YtghpoldlddghjaaDoor.PPasteTrue
set_option maxRecDepth 20000 in
set_option maxHeartbeats 8000000 in
theorem pasteKnown_calls {w : World} (hg : Asks w) : Calls Tryd.prog 9 #[] w fun e w' => e = .returned (.bool true) ∧ Below w.heap.size w w' := by
  have HG := Lib.hid hg
  clear hg
  go_enter Tryd.func9, Tryd.ntmps9
  go_upto_region 1 with (first | fail)
  rename_i K hK
  refine draw_inv2 mixed (by kernel_rfl) (fun bb a wq => ∃ (O : Nat → Nat → Prop) (H : Nat → Hd) (v61 : Value) (v63 : Value) (gb : Nat), a = ⟨#[.bool false, (if bb 18 then .slice (some ⟨gb, 0, none⟩) 14 14 else undef), undef, undef, undef, undef, undef, undef, undef, undef, undef, undef, undef, undef, undef, undef, undef, undef, undef, undef, undef, undef, undef, undef, undef, undef, undef, undef, undef, undef, undef, undef, undef, undef, undef, undef, undef, undef, undef, undef, undef, undef, undef, undef, undef, undef, undef, undef, undef, undef, (if bb 0 then .agg (hNil.cells bkNil) else undef), (if bb 1 then .agg ((H 1).cells (bookB [])) else undef), (if bb 2 then .agg ((H 2).cells (bookB [])) else undef), (if bb 3 then .agg ((H 3).cells (bookB [])) else undef), (if bb 4 then .agg ((H 4).cells (bookB [])) else undef), (if bb 5 then .agg ((H 5).cells (bookB [])) else undef), (if bb 6 then .agg ((H 6).cells (bookB [])) else undef), (if bb 7 then .agg ((H 7).cells (bookB [])) else undef), (if bb 8 then .agg ((H 8).cells (bookB [])) else undef), (if bb 9 then .agg ((H 9).cells (bookB [])) else undef), (if bb 10 then .agg #[.int .i64 3, .bool true] else undef), (if bb 11 then v61 else undef), (if bb 12 then .agg ((H 12).cells (bookB [⟨3, true⟩])) else undef), (if bb 13 then v63 else undef), (if bb 14 then .agg ((H 14).cells (bookB seven)) else undef), (if bb 15 then .agg ((H 15).cells (bookB [])) else undef), (if bb 16 then .agg ((H 16).cells (bookB [])) else undef), (if bb 17 then .slice (some ⟨gb, 0, none⟩) 14 14 else undef), undef, undef, undef, undef, undef, undef, undef, undef, undef, undef, undef, undef, undef, undef, undef, undef, undef, undef, undef, undef, undef, undef, undef, undef, undef, undef, undef, undef, undef, undef, undef, undef, undef, undef, undef, undef, undef, undef, undef, undef, undef, undef, undef, undef, undef, undef, undef, undef, undef, undef, undef, undef, undef, undef, undef, undef, undef, undef, undef, undef, undef, undef, undef, undef, undef, undef, undef, undef, undef, undef, undef, undef, undef, undef, undef, undef, undef, undef, undef, undef, undef, undef, undef, undef, undef, undef, undef, undef, undef, undef, undef, undef, undef, undef, undef, undef, undef, undef, undef, undef, undef, undef, undef, undef, undef, undef, undef, undef, undef, undef, undef, undef, undef, undef, undef, undef, undef, undef, undef, undef, undef, undef, undef, undef, undef, undef, undef, undef, undef, undef, undef, undef, undef, undef, undef, undef, undef, undef, undef, undef, undef, undef, undef, undef, undef, undef, undef, undef, undef, undef, undef, undef, undef, undef, undef, undef, undef, undef, undef, undef, undef, undef, undef, undef, undef, undef, undef, undef, undef, undef, undef, undef, undef, undef, undef, undef, undef, undef, undef, undef, undef, undef, undef, undef, undef, undef, undef, undef, undef, undef, undef, undef, undef, undef, undef, undef, undef, undef, undef, undef, undef, undef, undef, undef, undef, undef, undef, undef, undef, undef, undef, undef, undef, undef, undef, undef, undef, undef, undef, undef, undef, undef, undef, undef, undef, undef, undef, undef, undef, undef, undef, undef, undef, undef, undef, undef, undef, undef, undef, undef, undef, undef, undef, undef, undef, undef, undef, undef, undef, undef, undef, undef, undef, undef, undef, undef, undef, undef, undef, undef, undef, undef, undef, undef, undef, undef, undef, undef, undef, undef, undef, undef, undef, undef, undef, undef, undef, undef, undef, undef, undef, undef, undef, undef, undef, undef, undef, undef, undef, undef, undef, undef, undef, undef, undef, undef, undef, undef, undef, undef, undef, undef, undef, undef, undef, undef, undef, undef, undef, undef, undef, undef, undef, undef, undef, undef, undef, undef, undef, undef, undef, undef, undef, undef, undef, undef, undef, undef, undef, undef, undef, undef, undef, undef, undef, undef, undef, undef, undef, undef, undef, undef, undef, undef, undef, undef, undef, undef, undef, undef, undef, undef, undef, undef, undef, undef, undef, undef, undef, undef, undef, undef, undef, undef, undef, undef, undef, undef, undef, undef, undef, undef, undef, undef, undef, undef, undef, undef, undef, undef, undef, undef, undef, undef, undef, undef, undef, undef, undef, undef, undef, undef, undef, undef, undef, undef, undef, undef, undef, undef, undef, undef, undef, undef, undef, undef, undef, undef, undef, undef, undef, undef, undef, undef, undef, undef, undef, undef, undef, undef, undef, undef, undef, undef, undef, undef, undef, undef, undef, undef, undef, undef, undef, undef, undef, undef, undef, undef, undef, undef, undef, undef, undef, undef, undef, undef, undef, undef, undef, undef, undef, undef, undef, undef, undef, undef, undef, undef, undef, undef, undef, undef, undef, undef, undef, undef, undef], []⟩ ∧ (KnSt w O H v61 v63 gb wq bb ∧ (bb 18 = true → bb 17 = true) ∧ (bb 11 = true → bb 10 = true))) ?_ ?_ ?_
  · exact ⟨fun _ _ => False, fun _ => hNil, undef, undef, 0, by simp, by exact ⟨KnSt.start, by simp⟩⟩
  · intro i hil bb a wq hI hbi hcame
    obtain ⟨O, H, v61, v63, gb, rfl, hst⟩ := hI
    rcases i with _ | _ | _ | _ | _ | _ | _ | _ | _ | _ | _ | _ | _ | _ | _ | _ | _ | _ | _ | i
    · as_aux_lemma =>
        refine op_value rfl rfl (x_build (P := Tryd.prog) (w := wq) (qs := #[]) rfl (by simp) (b27nil wq)) ⟨upO O 0 fun _ => False, H, v61, v63, gb, by simp [Act.put, Act.eval, upd], ?_⟩
        exact ⟨hst.1.idle hbi (.inl rfl) (Below.refl _ _), by simpa [upd] using hst.2⟩
    · as_aux_lemma =>
        refine op_call rfl rfl (run_call Tryd.func41 (by kernel_rfl) rfl rfl rfl (args := #[.slice none 0 0]) (by simp [Act.eval])) ((book_new (w := wq)).mono ?_)
        rintro e w5 ⟨h5, rfl, ho5, hb5⟩
        refine ⟨_, rfl, upO O 1 fun n => wq.heap.size ≤ n ∧ n < w5.heap.size, fun n => if n = 1 then h5 else H n, v61, v63, gb, by simp [Act.put, upd], ?_⟩
        exact ⟨hst.1.plain hbi rfl hb5 ho5, by simpa [upd] using hst.2⟩
    · as_aux_lemma =>
        refine op_call rfl rfl (run_call Tryd.func41 (by kernel_rfl) rfl rfl rfl (args := #[.slice none 0 0]) (by simp [Act.eval])) ((book_new (w := wq)).mono ?_)
        rintro e w5 ⟨h5, rfl, ho5, hb5⟩
        refine ⟨_, rfl, upO O 2 fun n => wq.heap.size ≤ n ∧ n < w5.heap.size, fun n => if n = 2 then h5 else H n, v61, v63, gb, by simp [Act.put, upd], ?_⟩
        exact ⟨hst.1.plain hbi rfl hb5 ho5, by simpa [upd] using hst.2⟩
    · as_aux_lemma =>
        refine op_call rfl rfl (run_call Tryd.func41 (by kernel_rfl) rfl rfl rfl (args := #[.slice none 0 0]) (by simp [Act.eval])) ((book_new (w := wq)).mono ?_)
        rintro e w5 ⟨h5, rfl, ho5, hb5⟩
        refine ⟨_, rfl, upO O 3 fun n => wq.heap.size ≤ n ∧ n < w5.heap.size, fun n => if n = 3 then h5 else H n, v61, v63, gb, by simp [Act.put, upd], ?_⟩
        exact ⟨hst.1.plain hbi rfl hb5 ho5, by simpa [upd] using hst.2⟩
    · as_aux_lemma =>
        refine op_call rfl rfl (run_call Tryd.func41 (by kernel_rfl) rfl rfl rfl (args := #[.slice none 0 0]) (by simp [Act.eval])) ((book_new (w := wq)).mono ?_)
        rintro e w5 ⟨h5, rfl, ho5, hb5⟩
        refine ⟨_, rfl, upO O 4 fun n => wq.heap.size ≤ n ∧ n < w5.heap.size, fun n => if n = 4 then h5 else H n, v61, v63, gb, by simp [Act.put, upd], ?_⟩
        exact ⟨hst.1.plain hbi rfl hb5 ho5, by simpa [upd] using hst.2⟩
    · as_aux_lemma =>
        refine op_call rfl rfl (run_call Tryd.func41 (by kernel_rfl) rfl rfl rfl (args := #[.slice none 0 0]) (by simp [Act.eval])) ((book_new (w := wq)).mono ?_)
        rintro e w5 ⟨h5, rfl, ho5, hb5⟩
        refine ⟨_, rfl, upO O 5 fun n => wq.heap.size ≤ n ∧ n < w5.heap.size, fun n => if n = 5 then h5 else H n, v61, v63, gb, by simp [Act.put, upd], ?_⟩
        exact ⟨hst.1.plain hbi rfl hb5 ho5, by simpa [upd] using hst.2⟩
    · as_aux_lemma =>
        refine op_call rfl rfl (run_call Tryd.func41 (by kernel_rfl) rfl rfl rfl (args := #[.slice none 0 0]) (by simp [Act.eval])) ((book_new (w := wq)).mono ?_)
        rintro e w5 ⟨h5, rfl, ho5, hb5⟩
        refine ⟨_, rfl, upO O 6 fun n => wq.heap.size ≤ n ∧ n < w5.heap.size, fun n => if n = 6 then h5 else H n, v61, v63, gb, by simp [Act.put, upd], ?_⟩
        exact ⟨hst.1.plain hbi rfl hb5 ho5, by simpa [upd] using hst.2⟩
    · as_aux_lemma =>
        refine op_call rfl rfl (run_call Tryd.func41 (by kernel_rfl) rfl rfl rfl (args := #[.slice none 0 0]) (by simp [Act.eval])) ((book_new (w := wq)).mono ?_)
        rintro e w5 ⟨h5, rfl, ho5, hb5⟩
        refine ⟨_, rfl, upO O 7 fun n => wq.heap.size ≤ n ∧ n < w5.heap.size, fun n => if n = 7 then h5 else H n, v61, v63, gb, by simp [Act.put, upd], ?_⟩
        exact ⟨hst.1.plain hbi rfl hb5 ho5, by simpa [upd] using hst.2⟩
    · as_aux_lemma =>
        refine op_call rfl rfl (run_call Tryd.func41 (by kernel_rfl) rfl rfl rfl (args := #[.slice none 0 0]) (by simp [Act.eval])) ((book_new (w := wq)).mono ?_)
        rintro e w5 ⟨h5, rfl, ho5, hb5⟩
        refine ⟨_, rfl, upO O 8 fun n => wq.heap.size ≤ n ∧ n < w5.heap.size, fun n => if n = 8 then h5 else H n, v61, v63, gb, by simp [Act.put, upd], ?_⟩
        exact ⟨hst.1.plain hbi rfl hb5 ho5, by simpa [upd] using hst.2⟩
    · as_aux_lemma =>
        refine op_call rfl rfl (run_call Tryd.func41 (by kernel_rfl) rfl rfl rfl (args := #[.slice none 0 0]) (by simp [Act.eval])) ((book_new (w := wq)).mono ?_)
        rintro e w5 ⟨h5, rfl, ho5, hb5⟩
        refine ⟨_, rfl, upO O 9 fun n => wq.heap.size ≤ n ∧ n < w5.heap.size, fun n => if n = 9 then h5 else H n, v61, v63, gb, by simp [Act.put, upd], ?_⟩
        exact ⟨hst.1.plain hbi rfl hb5 ho5, by simpa [upd] using hst.2⟩
    · as_aux_lemma =>
        refine op_call rfl rfl (run_call Tryd.func30 (by kernel_rfl) rfl rfl rfl (args := #[.int .i64 3]) (by simp [Act.eval])) ((lit_calls 3 wq).mono ?_)
        rintro e w5 ⟨rfl, hb5⟩
        refine ⟨_, rfl, upO O 10 fun _ => False, H, v61, v63, gb, by simp [Act.put, upd], ?_⟩
        exact ⟨hst.1.idle hbi (.inr (.inl rfl)) hb5, by simpa [upd] using hst.2.1⟩
    · as_aux_lemma =>
        have hh := hcame
        simp [Came, Region.binds] at hh
        refine op_value rfl rfl (x_box251 (x := .tmp 60) (t := ⟨3, true⟩) rfl (by simp [Act.eval, hh])) ⟨upO O 11 fun k => wq.heap.size ≤ k ∧ k < (wq.alloc (.cells #[.int .i64 3, .bool true] 59)).heap.size, H, .slice (some ⟨wq.heap.size, 0, none⟩) 1 1, v63, gb, by simp [Act.put, Act.eval, upd, hh], ?_⟩
        exact ⟨hst.1.lit61 hbi (below_alloc (Below.refl wq.heap.size wq) _) (R_one wq ⟨3, true⟩), by simpa [upd, hh] using hst.2.1⟩
    · as_aux_lemma =>
        have hh := hcame
        simp [Came, Region.binds] at hh
        refine op_call rfl rfl (run_call Tryd.func41 (by kernel_rfl) rfl rfl rfl (args := #[v61]) (by simp [Act.eval, hh])) ((book_own (P0 := O 11) hst.1.b (hst.1.l61 hh.1 hbi)).mono ?_)
        rintro e w5 ⟨h5, rfl, ho5, hb5, hk5⟩
        refine ⟨_, rfl, upO O 12 fun n => wq.heap.size ≤ n ∧ n < w5.heap.size, fun n => if n = 12 then h5 else H n, v61, v63, gb, by simp [Act.put, upd, hh], ?_⟩
        exact ⟨hst.1.book12 hbi hh.1 hb5 hk5 ho5, by simpa [upd] using hst.2⟩
    · as_aux_lemma =>
        refine op_value rfl rfl (mk63 rfl (fun _ => rfl)) ⟨upO O 13 fun k => wq.heap.size ≤ k ∧ k < (wq.alloc (.cells c63 59)).heap.size, H, v61, .slice (some ⟨wq.heap.size, 0, none⟩) 7 7, gb, by simp [Act.put, Act.eval, upd], ?_⟩
        exact ⟨hst.1.make63 hbi (below_alloc (Below.refl wq.heap.size wq) _) (R_seven wq), by simpa [upd] using hst.2⟩
    · as_aux_lemma =>
        have hh := hcame
        simp [Came, Region.binds] at hh
        refine op_call rfl rfl (run_call Tryd.func41 (by kernel_rfl) rfl rfl rfl (args := #[v63]) (by simp [Act.eval, hh])) ((book_own (P0 := O 13) hst.1.b (hst.1.l63 hh.1 hbi)).mono ?_)
        rintro e w5 ⟨h5, rfl, ho5, hb5, hk5⟩
        refine ⟨_, rfl, upO O 14 fun n => wq.heap.size ≤ n ∧ n < w5.heap.size, fun n => if n = 14 then h5 else H n, v61, v63, gb, by simp [Act.put, upd, hh], ?_⟩
        exact ⟨hst.1.book14 hbi hh.1 hb5 hk5 ho5, by simpa [upd] using hst.2⟩
    · as_aux_lemma =>
        refine op_call rfl rfl (run_call Tryd.func41 (by kernel_rfl) rfl rfl rfl (args := #[.slice none 0 0]) (by simp [Act.eval])) ((book_new (w := wq)).mono ?_)
        rintro e w5 ⟨h5, rfl, ho5, hb5⟩
        refine ⟨_, rfl, upO O 15 fun n => wq.heap.size ≤ n ∧ n < w5.heap.size, fun n => if n = 15 then h5 else H n, v61, v63, gb, by simp [Act.put, upd], ?_⟩
        exact ⟨hst.1.plain hbi rfl hb5 ho5, by simpa [upd] using hst.2⟩
    · as_aux_lemma =>
        refine op_call rfl rfl (run_call Tryd.func41 (by kernel_rfl) rfl rfl rfl (args := #[.slice none 0 0]) (by simp [Act.eval])) ((book_new (w := wq)).mono ?_)
        rintro e w5 ⟨h5, rfl, ho5, hb5⟩
        refine ⟨_, rfl, upO O 16 fun n => wq.heap.size ≤ n ∧ n < w5.heap.size, fun n => if n = 16 then h5 else H n, v61, v63, gb, by simp [Act.put, upd], ?_⟩
        exact ⟨hst.1.plain hbi rfl hb5 ho5, by simpa [upd] using hst.2⟩
    · as_aux_lemma =>
        have hh := hcame
        simp [Came, Region.binds] at hh
        have h18 : bb 18 = false := by
          cases e : bb 18 with
          | false => rfl
          | true => rw [hst.2.1 e] at hbi; cases hbi
        have hh := And.intro h18 hh
        have h11 : bb 11 = true := hst.1.i12 (by simp [hh])
        have h13 : bb 13 = true := hst.1.i14 (by simp [hh])
        have h10 : bb 10 = true := hst.2.2 h11
        refine op_value rfl rfl (list75 (H := H) rfl (by simp [Act.eval, hh]; rfl) (by simp [Act.eval, hh]; rfl) (by simp [Act.eval, hh]; rfl) (by simp [Act.eval, hh]; rfl) (by simp [Act.eval, hh]; rfl) (by simp [Act.eval, hh]; rfl) (by simp [Act.eval, hh]; rfl) (by simp [Act.eval, hh]; rfl) (by simp [Act.eval, hh]; rfl) (by simp [Act.eval, hh]; rfl) (by simp [Act.eval, hh]; rfl) (by simp [Act.eval, hh]; rfl) (by simp [Act.eval, hh]; rfl) (by simp [Act.eval, hh]; rfl)) ⟨upO O 17 fun _ => False, H, v61, v63, wq.heap.size, by simp [Act.put, Act.eval, upd, hh], ?_⟩
        refine ⟨hst.1.all hbi (fun i hi => ?_), by simpa [upd] using hst.2.2⟩
        have hi : i = 0 ∨ i = 1 ∨ i = 2 ∨ i = 3 ∨ i = 4 ∨ i = 5 ∨ i = 6 ∨ i = 7 ∨ i = 8 ∨ i = 9 ∨ i = 10 ∨ i = 11 ∨ i = 12 ∨ i = 13 ∨ i = 14 ∨ i = 15 ∨ i = 16 := by omega
        rcases hi with rfl | rfl | rfl | rfl | rfl | rfl | rfl | rfl | rfl | rfl | rfl | rfl | rfl | rfl | rfl | rfl | rfl <;> first | exact h10 | exact h11 | exact h13 | simp [hh]
    · as_aux_lemma =>
        have hh := hcame
        simp [Came, Region.binds] at hh
        refine op_value rfl rfl (x_assign (.inl rfl)) ⟨upO O 18 fun _ => False, H, v61, v63, gb, by simp [Act.put, Act.eval, upd, hh], ?_⟩
        exact ⟨hst.1.idle hbi (.inr (.inr rfl)) (Below.refl _ _), by simp [upd, hh]⟩
    · simp at hil; omega
  · intro bb a wf hI hall
    obtain ⟨O, H, v61, v63, gb, rfl, hst⟩ := hI
    refine hK _ _ ?_
    simp only [hall 0 (by simp), hall 1 (by simp), hall 2 (by simp), hall 3 (by simp), hall 4 (by simp), hall 5 (by simp), hall 6 (by simp), hall 7 (by simp), hall 8 (by simp), hall 9 (by simp), hall 10 (by simp), hall 11 (by simp), hall 12 (by simp), hall 13 (by simp), hall 14 (by simp), hall 15 (by simp), hall 16 (by simp), hall 17 (by simp), hall 18 (by simp), if_true]
    obtain ⟨OO, HH, hbad⟩ : ∃ OO HH, Bad w gb OO HH (BK 0) wf := ⟨_, _, by rw [BK_0]; exact hst.1.bad (hall 17 (by simp))⟩
    clear hall hK hst
    have HM1 := Lib.hid hbad
    clear hbad
    obtain ⟨g2, hA2⟩ := at_2 HM1.out
    have c2 := cell_2 hA2 HM1.out
    have HA2 := Lib.hid hA2
    clear hA2
    go_upto_region 3 with (first | (with_reducible refine gate_ (.store 3 (.tmp 73) (.const (.int .i64 10))) rfl ?_; refine store_ex rfl rfl (put_2 HA2.out HM1.out (.tmp 73) (.const (.int .i64 10)) rfl rfl rfl) ?_; intro w2 hM2; have HM2 := Lib.hid hM2; clear hM2))
    clear c2 HA2 HM1
    obtain ⟨g3, hA3⟩ := at_3 HM2.out
    have HA3 := Lib.hid hA3
    clear hA3
    rename_i K hK
    refine draw_inv2 mixed (by kernel_rfl) (fun bb a wq => a = ⟨#[.bool false, .slice (some ⟨gb, 0, none⟩) 14 14, undef, undef, undef, undef, undef, undef, undef, undef, undef, undef, undef, undef, undef, undef, undef, undef, undef, undef, undef, undef, undef, undef, undef, undef, undef, undef, undef, undef, undef, undef, undef, undef, undef, undef, undef, undef, undef, undef, undef, undef, undef, undef, undef, undef, undef, undef, undef, undef, .agg (hNil.cells bkNil), .agg ((H 1).cells (bookB [])), .agg ((H 2).cells (bookB [])), .agg ((H 3).cells (bookB [])), .agg ((H 4).cells (bookB [])), .agg ((H 5).cells (bookB [])), .agg ((H 6).cells (bookB [])), .agg ((H 7).cells (bookB [])), .agg ((H 8).cells (bookB [])), .agg ((H 9).cells (bookB [])), .agg #[.int .i64 3, .bool true], v61, .agg ((H 12).cells (bookB [⟨3, true⟩])), v63, .agg ((H 14).cells (bookB seven)), .agg ((H 15).cells (bookB [])), .agg ((H 16).cells (bookB [])), .slice (some ⟨gb, 0, none⟩) 14 14, .slice (some ⟨gb, 0, none⟩) 14 14, .pointer (some ⟨gb, 5, none⟩), .pointer (some ⟨gb, 5, none⟩), .slice (some ⟨g2, 0, none⟩) 3 (HH 1).c0, .pointer (some ⟨g2, 0, none⟩), .pointer (some ⟨g2, 0, none⟩), (if bb 0 then .slice (some ⟨gb, 0, none⟩) 14 14 else undef), (if bb 1 then .pointer (some ⟨gb, 10, none⟩) else undef), (if bb 2 then .pointer (some ⟨gb, 10, none⟩) else undef), (if bb 3 then .slice (some ⟨g3, 0, none⟩) 3 (HH 2).c0 else undef), (if bb 4 then .agg #[.int .i64 2, .int .i64 6] else undef), (if bb 5 then .pointer (some ⟨g3, 0, none⟩) else undef), (if bb 6 then .pointer (some ⟨g3, 1, none⟩) else undef), undef, undef, undef, undef, undef, undef, undef, undef, undef, undef, undef, undef, undef, undef, undef, undef, undef, undef, undef, undef, undef, undef, undef, undef, undef, undef, undef, undef, undef, undef, undef, undef, undef, undef, undef, undef, undef, undef, undef, undef, undef, undef, undef, undef, undef, undef, undef, undef, undef, undef, undef, undef, undef, undef, undef, undef, undef, undef, undef, undef, undef, undef, undef, undef, undef, undef, undef, undef, undef, undef, undef, undef, undef, undef, undef, undef, undef, undef, undef, undef, undef, undef, undef, undef, undef, undef, undef, undef, undef, undef, undef, undef, undef, undef, undef, undef, undef, undef, undef, undef, undef, undef, undef, undef, undef, undef, undef, undef, undef, undef, undef, undef, undef, undef, undef, undef, undef, undef, undef, undef, undef, undef, undef, undef, undef, undef, undef, undef, undef, undef, undef, undef, undef, undef, undef, undef, undef, undef, undef, undef, undef, undef, undef, undef, undef, undef, undef, undef, undef, undef, undef, undef, undef, undef, undef, undef, undef, undef, undef, undef, undef, undef, undef, undef, undef, undef, undef, undef, undef, undef, undef, undef, undef, undef, undef, undef, undef, undef, undef, undef, undef, undef, undef, undef, undef, undef, undef, undef, undef, undef, undef, undef, undef, undef, undef, undef, undef, undef, undef, undef, undef, undef, undef, undef, undef, undef, undef, undef, undef, undef, undef, undef, undef, undef, undef, undef, undef, undef, undef, undef, undef, undef, undef, undef, undef, undef, undef, undef, undef, undef, undef, undef, undef, undef, undef, undef, undef, undef, undef, undef, undef, undef, undef, undef, undef, undef, undef, undef, undef, undef, undef, undef, undef, undef, undef, undef, undef, undef, undef, undef, undef, undef, undef, undef, undef, undef, undef, undef, undef, undef, undef, undef, undef, undef, undef, undef, undef, undef, undef, undef, undef, undef, undef, undef, undef, undef, undef, undef, undef, undef, undef, undef, undef, undef, undef, undef, undef, undef, undef, undef, undef, undef, undef, undef, undef, undef, undef, undef, undef, undef, undef, undef, undef, undef, undef, undef, undef, undef, undef, undef, undef, undef, undef, undef, undef, undef, undef, undef, undef, undef, undef, undef, undef, undef, undef, undef, undef, undef, undef, undef, undef, undef, undef, undef, undef, undef, undef, undef, undef, undef, undef, undef, undef, undef, undef, undef, undef, undef, undef, undef, undef, undef, undef, undef, undef, undef, undef, undef, undef, undef, undef, undef, undef, undef, undef, undef, undef, undef, undef, undef, undef, undef, undef, undef, undef, undef, undef, undef, undef, undef, undef, undef, undef, undef, undef, undef, undef, undef, undef, undef, undef, undef, undef, undef, undef, undef, undef, undef, undef, undef, undef, undef, undef, undef, undef, undef, undef, undef, undef, undef, undef, undef, undef, undef, undef, undef, undef, undef, undef, undef, undef, undef, undef, undef, undef, undef, undef, undef, undef, undef, undef, undef, undef, undef, undef, undef, undef, undef, undef, undef, undef, undef, undef, undef], []⟩ ∧ ((bb 7 = false → Bad w gb OO HH (BK 1) wq) ∧ (bb 7 = true → Bad w gb OO HH (BK 2) wq))) ?_ ?_ ?_
    · exact ⟨by simp, by exact ⟨fun _ => HM2.out.on (Below.refl _ _).drew, fun e => by cases e⟩⟩
    · intro i hil bb a wq hI hbi hcame
      obtain ⟨rfl, hst⟩ := hI
      rcases i with _ | _ | _ | _ | _ | _ | _ | _ | i
      · as_aux_lemma =>
          refine op_value rfl rfl (x_assign (.inr rfl)) ⟨by simp [Act.put, Act.eval, upd], ?_⟩
          simpa [upd] using hst
      · as_aux_lemma =>
          have hh := hcame
          simp [Came, Region.binds] at hh
          refine op_value rfl rfl (idx75 (x := .tmp 74) (y := .const (.int .i64 2)) (g := gb) (j := 2) rfl (by simp [Act.eval, hh]) rfl (by decide)) ⟨by simp [Act.put, Act.eval, upd, hh], ?_⟩
          simpa [upd] using hst
      · as_aux_lemma =>
          have hh := hcame
          simp [Came, Region.binds] at hh
          refine op_value rfl rfl (fldO27_0 (x := .tmp 75) (g := gb) (off := 10) rfl (by simp [Act.eval, hh])) ⟨by simp [Act.put, Act.eval, upd, hh], ?_⟩
          simpa [upd] using hst
      · as_aux_lemma =>
          have hh := hcame
          simp [Came, Region.binds] at hh
          have hc : wq.cell? ⟨gb, 10, none⟩ = some (.slice (some ⟨g3, 0, none⟩) 3 (HH 2).c0) := by
            cases e : bb 7 with
            | false => exact cell_3 HA3.out (hst.1 e)
            | true => exact cellb_3 HA3.out (hst.2 e)
          refine op_value rfl rfl (Ops.ld22 (x := .tmp 76) (ad := ⟨gb, 10, none⟩) (A := some ⟨g3, 0, none⟩) (n := 3) (c := (HH 2).c0) rfl (by simp [Act.eval, hh]) hc) ⟨by simp [Act.put, Act.eval, upd, hh], ?_⟩
          simpa [upd] using hst
      · as_aux_lemma =>
          refine op_call rfl rfl (run_call Tryd.func27 (by kernel_rfl) rfl rfl rfl (args := #[.int .i64 2, .int .i64 6]) (by simp [Act.eval])) ((sp_calls 2 6 wq).mono ?_)
          rintro e w5 ⟨rfl, hb5⟩
          refine ⟨_, rfl, by simp [Act.put, upd], ?_⟩
          exact ⟨fun e => (hst.1 (by simpa [upd] using e)).on hb5, fun e => (hst.2 (by simpa [upd] using e)).on hb5⟩
      · as_aux_lemma =>
          have hh := hcame
          simp [Came, Region.binds] at hh
          refine op_value rfl rfl (idx22g (x := .tmp 77) (y := .const (.int .i64 0)) (g := g3) (n := 3) (c := (HH 2).c0) (k := 0) rfl (by simp [Act.eval, hh]) rfl (by decide)) ⟨by simp [Act.put, Act.eval, upd, hh], ?_⟩
          simpa [upd] using hst
      · as_aux_lemma =>
          have hh := hcame
          simp [Came, Region.binds] at hh
          refine op_value rfl rfl (fldO68 (x := .tmp 79) (g := g3) (off := 0) rfl (by simp [Act.eval, hh])) ⟨by simp [Act.put, Act.eval, upd, hh], ?_⟩
          simpa [upd] using hst
      · as_aux_lemma =>
          have hh := hcame
          simp [Came, Region.binds] at hh
          refine op_skipE rfl rfl ?_
          refine Exists.imp (fun w1' hs => ⟨hs.1, ?_⟩) (put_3 HA3.out (hst.1 hbi) (.tmp 80) (.tmp 78) rfl (by simp [Act.eval, hh]) (by simp [Act.eval, hh]))
          exact ⟨by simp [Act.put, upd, hh], fun e => by simp [upd] at e, fun _ => hs.2⟩
      · simp at hil; omega
    · intro bb a wf hI hall
      obtain ⟨rfl, hst⟩ := hI
      refine hK _ _ ?_
      simp only [hall 0 (by simp), hall 1 (by simp), hall 2 (by simp), hall 3 (by simp), hall 4 (by simp), hall 5 (by simp), hall 6 (by simp), hall 7 (by simp), if_true]
      have HM3 := Lib.hid (hst.2 (hall 7 (by simp)))
      clear hall hK hst HM2 HA3
      obtain ⟨g4, hA4⟩ := at_4 HM3.out
      have HA4 := Lib.hid hA4
      clear hA4
      go_upto_region 4 with (first | fail)
      rename_i K hK
      refine draw_inv2 mixed (by kernel_rfl) (fun bb a wq => a = ⟨#[.bool false, .slice (some ⟨gb, 0, none⟩) 14 14, undef, undef, undef, undef, undef, undef, undef, undef, undef, undef, undef, undef, undef, undef, undef, undef, undef, undef, undef, undef, undef, undef, undef, undef, undef, undef, undef, undef, undef, undef, undef, undef, undef, undef, undef, undef, undef, undef, undef, undef, undef, undef, undef, undef, undef, undef, undef, undef, .agg (hNil.cells bkNil), .agg ((H 1).cells (bookB [])), .agg ((H 2).cells (bookB [])), .agg ((H 3).cells (bookB [])), .agg ((H 4).cells (bookB [])), .agg ((H 5).cells (bookB [])), .agg ((H 6).cells (bookB [])), .agg ((H 7).cells (bookB [])), .agg ((H 8).cells (bookB [])), .agg ((H 9).cells (bookB [])), .agg #[.int .i64 3, .bool true], v61, .agg ((H 12).cells (bookB [⟨3, true⟩])), v63, .agg ((H 14).cells (bookB seven)), .agg ((H 15).cells (bookB [])), .agg ((H 16).cells (bookB [])), .slice (some ⟨gb, 0, none⟩) 14 14, .slice (some ⟨gb, 0, none⟩) 14 14, .pointer (some ⟨gb, 5, none⟩), .pointer (some ⟨gb, 5, none⟩), .slice (some ⟨g2, 0, none⟩) 3 (HH 1).c0, .pointer (some ⟨g2, 0, none⟩), .pointer (some ⟨g2, 0, none⟩), .slice (some ⟨gb, 0, none⟩) 14 14, .pointer (some ⟨gb, 10, none⟩), .pointer (some ⟨gb, 10, none⟩), .slice (some ⟨g3, 0, none⟩) 3 (HH 2).c0, .agg #[.int .i64 2, .int .i64 6], .pointer (some ⟨g3, 0, none⟩), .pointer (some ⟨g3, 1, none⟩), (if bb 0 then .slice (some ⟨gb, 0, none⟩) 14 14 else undef), (if bb 1 then .pointer (some ⟨gb, 15, none⟩) else undef), (if bb 2 then .pointer (some ⟨gb, 15, none⟩) else undef), (if bb 3 then .slice (some ⟨g4, 0, none⟩) 3 (HH 3).c0 else undef), (if bb 4 then .agg #[.int .i64 9, .int .i64 10] else undef), (if bb 5 then .pointer (some ⟨g4, 6, none⟩) else undef), (if bb 6 then .pointer (some ⟨g4, 7, none⟩) else undef), undef, undef, undef, undef, undef, undef, undef, undef, undef, undef, undef, undef, undef, undef, undef, undef, undef, undef, undef, undef, undef, undef, undef, undef, undef, undef, undef, undef, undef, undef, undef, undef, undef, undef, undef, undef, undef, undef, undef, undef, undef, undef, undef, undef, undef, undef, undef, undef, undef, undef, undef, undef, undef, undef, undef, undef, undef, undef, undef, undef, undef, undef, undef, undef, undef, undef, undef, undef, undef, undef, undef, undef, undef, undef, undef, undef, undef, undef, undef, undef, undef, undef, undef, undef, undef, undef, undef, undef, undef, undef, undef, undef, undef, undef, undef, undef, undef, undef, undef, undef, undef, undef, undef, undef, undef, undef, undef, undef, undef, undef, undef, undef, undef, undef, undef, undef, undef, undef, undef, undef, undef, undef, undef, undef, undef, undef, undef, undef, undef, undef, undef, undef, undef, undef, undef, undef, undef, undef, undef, undef, undef, undef, undef, undef, undef, undef, undef, undef, undef, undef, undef, undef, undef, undef, undef, undef, undef, undef, undef, undef, undef, undef, undef, undef, undef, undef, undef, undef, undef, undef, undef, undef, undef, undef, undef, undef, undef, undef, undef, undef, undef, undef, undef, undef, undef, undef, undef, undef, undef, undef, undef, undef, undef, undef, undef, undef, undef, undef, undef, undef, undef, undef, undef, undef, undef, undef, undef, undef, undef, undef, undef, undef, undef, undef, undef, undef, undef, undef, undef, undef, undef, undef, undef, undef, undef, undef, undef, undef, undef, undef, undef, undef, undef, undef, undef, undef, undef, undef, undef, undef, undef, undef, undef, undef, undef, undef, undef, undef, undef, undef, undef, undef, undef, undef, undef, undef, undef, undef, undef, undef, undef, undef, undef, undef, undef, undef, undef, undef, undef, undef, undef, undef, undef, undef, undef, undef, undef, undef, undef, undef, undef, undef, undef, undef, undef, undef, undef, undef, undef, undef, undef, undef, undef, undef, undef, undef, undef, undef, undef, undef, undef, undef, undef, undef, undef, undef, undef, undef, undef, undef, undef, undef, undef, undef, undef, undef, undef, undef, undef, undef, undef, undef, undef, undef, undef, undef, undef, undef, undef, undef, undef, undef, undef, undef, undef, undef, undef, undef, undef, undef, undef, undef, undef, undef, undef, undef, undef, undef, undef, undef, undef, undef, undef, undef, undef, undef, undef, undef, undef, undef, undef, undef, undef, undef, undef, undef, undef, undef, undef, undef, undef, undef, undef, undef, undef, undef, undef, undef, undef, undef, undef, undef, undef, undef, undef, undef, undef, undef, undef, undef, undef, undef, undef, undef, undef, undef, undef, undef, undef, undef, undef, undef, undef, undef, undef, undef, undef, undef, undef, undef, undef, undef, undef, undef, undef, undef, undef, undef, undef, undef, undef, undef, undef, undef, undef, undef, undef, undef, undef, undef, undef, undef, undef, undef, undef, undef, undef, undef, undef, undef, undef, undef, undef, undef, undef, undef, undef], []⟩ ∧ ((bb 7 = false → Bad w gb OO HH (BK 2) wq) ∧ (bb 7 = true → Bad w gb OO HH (BK 3) wq))) ?_ ?_ ?_
      · exact ⟨by simp, by exact ⟨fun _ => HM3.out.on (Below.refl _ _).drew, fun e => by cases e⟩⟩
      · intro i hil bb a wq hI hbi hcame
        obtain ⟨rfl, hst⟩ := hI
        rcases i with _ | _ | _ | _ | _ | _ | _ | _ | i
        · as_aux_lemma =>
            refine op_value rfl rfl (x_assign (.inr rfl)) ⟨by simp [Act.put, Act.eval, upd], ?_⟩
            simpa [upd] using hst
        · as_aux_lemma =>
            have hh := hcame
            simp [Came, Region.binds] at hh
            refine op_value rfl rfl (idx75 (x := .tmp 81) (y := .const (.int .i64 3)) (g := gb) (j := 3) rfl (by simp [Act.eval, hh]) rfl (by decide)) ⟨by simp [Act.put, Act.eval, upd, hh], ?_⟩
            simpa [upd] using hst
        · as_aux_lemma =>
            have hh := hcame
            simp [Came, Region.binds] at hh
            refine op_value rfl rfl (fldO27_0 (x := .tmp 82) (g := gb) (off := 15) rfl (by simp [Act.eval, hh])) ⟨by simp [Act.put, Act.eval, upd, hh], ?_⟩
            simpa [upd] using hst
        · as_aux_lemma =>
            have hh := hcame
            simp [Came, Region.binds] at hh
            have hc : wq.cell? ⟨gb, 15, none⟩ = some (.slice (some ⟨g4, 0, none⟩) 3 (HH 3).c0) := by
              cases e : bb 7 with
              | false => exact cell_4 HA4.out (hst.1 e)
              | true => exact cellb_4 HA4.out (hst.2 e)
            refine op_value rfl rfl (Ops.ld22 (x := .tmp 83) (ad := ⟨gb, 15, none⟩) (A := some ⟨g4, 0, none⟩) (n := 3) (c := (HH 3).c0) rfl (by simp [Act.eval, hh]) hc) ⟨by simp [Act.put, Act.eval, upd, hh], ?_⟩
            simpa [upd] using hst
        · as_aux_lemma =>
            refine op_call rfl rfl (run_call Tryd.func27 (by kernel_rfl) rfl rfl rfl (args := #[.int .i64 9, .int .i64 10]) (by simp [Act.eval])) ((sp_calls 9 10 wq).mono ?_)
            rintro e w5 ⟨rfl, hb5⟩
            refine ⟨_, rfl, by simp [Act.put, upd], ?_⟩
            exact ⟨fun e => (hst.1 (by simpa [upd] using e)).on hb5, fun e => (hst.2 (by simpa [upd] using e)).on hb5⟩
        · as_aux_lemma =>
            have hh := hcame
            simp [Came, Region.binds] at hh
            refine op_value rfl rfl (idx22g (x := .tmp 84) (y := .const (.int .i64 2)) (g := g4) (n := 3) (c := (HH 3).c0) (k := 2) rfl (by simp [Act.eval, hh]) rfl (by decide)) ⟨by simp [Act.put, Act.eval, upd, hh], ?_⟩
            simpa [upd] using hst
        · as_aux_lemma =>
            have hh := hcame
            simp [Came, Region.binds] at hh
            refine op_value rfl rfl (fldO68 (x := .tmp 86) (g := g4) (off := 6) rfl (by simp [Act.eval, hh])) ⟨by simp [Act.put, Act.eval, upd, hh], ?_⟩
            simpa [upd] using hst
        · as_aux_lemma =>
            have hh := hcame
            simp [Came, Region.binds] at hh
            refine op_skipE rfl rfl ?_
            refine Exists.imp (fun w1' hs => ⟨hs.1, ?_⟩) (put_4 HA4.out (hst.1 hbi) (.tmp 87) (.tmp 85) rfl (by simp [Act.eval, hh]) (by simp [Act.eval, hh]))
            exact ⟨by simp [Act.put, upd, hh], fun e => by simp [upd] at e, fun _ => hs.2⟩
        · simp at hil; omega
      · intro bb a wf hI hall
        obtain ⟨rfl, hst⟩ := hI
        refine hK _ _ ?_
        simp only [hall 0 (by simp), hall 1 (by simp), hall 2 (by simp), hall 3 (by simp), hall 4 (by simp), hall 5 (by simp), hall 6 (by simp), hall 7 (by simp), if_true]
        have HM4 := Lib.hid (hst.2 (hall 7 (by simp)))
        clear hall hK hst HM3 HA4
        obtain ⟨g5, hA5⟩ := at_5 HM4.out
        have c5 := cell_5 hA5 HM4.out
        have HA5 := Lib.hid hA5
        clear hA5
        go_upto_region 6 with (first | (with_reducible refine gate_ (.store 3 (.tmp 93) (.const (.int .i64 0))) rfl ?_; refine store_ex rfl rfl (put_5 HA5.out HM4.out (.tmp 93) (.const (.int .i64 0)) rfl rfl rfl) ?_; intro w5 hM5; have HM5 := Lib.hid hM5; clear hM5))
        clear c5 HA5 HM4
        obtain ⟨g6, hA6⟩ := at_6 HM5.out
        have c6 := cell_6 hA6 HM5.out
        have HA6 := Lib.hid hA6
        clear hA6
        go_upto_region 7 with (first | (with_reducible refine gate_ (.store 3 (.tmp 99) (.const (.int .i64 3))) rfl ?_; refine store_ex rfl rfl (put_6 HA6.out HM5.out (.tmp 99) (.const (.int .i64 3)) rfl rfl rfl) ?_; intro w6 hM6; have HM6 := Lib.hid hM6; clear hM6))
        clear c6 HA6 HM5
        obtain ⟨g7, hA7⟩ := at_7 HM6.out
        have c7 := cell_7 hA7 HM6.out
        have HA7 := Lib.hid hA7
        clear hA7
        go_upto_region 8 with (first | (with_reducible refine gate_ (.store 3 (.tmp 105) (.const (.int .i64 31))) rfl ?_; refine store_ex rfl rfl (put_7 HA7.out HM6.out (.tmp 105) (.const (.int .i64 31)) rfl rfl rfl) ?_; intro w7 hM7; have HM7 := Lib.hid hM7; clear hM7))
        clear c7 HA7 HM6
        obtain ⟨g8, hA8⟩ := at_8 HM7.out
        have c8 := cell_8 hA8 HM7.out
        have HA8 := Lib.hid hA8
        clear hA8
        go_upto_region 9 with (first | (with_reducible refine gate_ (.store 77 (.tmp 111) (.tmp 110)) rfl ?_; refine store_ex rfl rfl (put_8 HA8.out HM7.out (.tmp 111) (.tmp 110) rfl rfl rfl) ?_; intro w8 hM8; have HM8 := Lib.hid hM8; clear hM8))
        clear c8 HA8 HM7
        obtain ⟨g9, hA9⟩ := at_9 HM8.out
        have HA9 := Lib.hid hA9
        clear hA9
        rename_i K hK
        refine draw_inv2 mixed (by kernel_rfl) (fun bb a wq => a = ⟨#[.bool false, .slice (some ⟨gb, 0, none⟩) 14 14, undef, undef, undef, undef, undef, undef, undef, undef, undef, undef, undef, undef, undef, undef, undef, undef, undef, undef, undef, undef, undef, undef, undef, undef, undef, undef, undef, undef, undef, undef, undef, undef, undef, undef, undef, undef, undef, undef, undef, undef, undef, undef, undef, undef, undef, undef, undef, undef, .agg (hNil.cells bkNil), .agg ((H 1).cells (bookB [])), .agg ((H 2).cells (bookB [])), .agg ((H 3).cells (bookB [])), .agg ((H 4).cells (bookB [])), .agg ((H 5).cells (bookB [])), .agg ((H 6).cells (bookB [])), .agg ((H 7).cells (bookB [])), .agg ((H 8).cells (bookB [])), .agg ((H 9).cells (bookB [])), .agg #[.int .i64 3, .bool true], v61, .agg ((H 12).cells (bookB [⟨3, true⟩])), v63, .agg ((H 14).cells (bookB seven)), .agg ((H 15).cells (bookB [])), .agg ((H 16).cells (bookB [])), .slice (some ⟨gb, 0, none⟩) 14 14, .slice (some ⟨gb, 0, none⟩) 14 14, .pointer (some ⟨gb, 5, none⟩), .pointer (some ⟨gb, 5, none⟩), .slice (some ⟨g2, 0, none⟩) 3 (HH 1).c0, .pointer (some ⟨g2, 0, none⟩), .pointer (some ⟨g2, 0, none⟩), .slice (some ⟨gb, 0, none⟩) 14 14, .pointer (some ⟨gb, 10, none⟩), .pointer (some ⟨gb, 10, none⟩), .slice (some ⟨g3, 0, none⟩) 3 (HH 2).c0, .agg #[.int .i64 2, .int .i64 6], .pointer (some ⟨g3, 0, none⟩), .pointer (some ⟨g3, 1, none⟩), .slice (some ⟨gb, 0, none⟩) 14 14, .pointer (some ⟨gb, 15, none⟩), .pointer (some ⟨gb, 15, none⟩), .slice (some ⟨g4, 0, none⟩) 3 (HH 3).c0, .agg #[.int .i64 9, .int .i64 10], .pointer (some ⟨g4, 6, none⟩), .pointer (some ⟨g4, 7, none⟩), .slice (some ⟨gb, 0, none⟩) 14 14, .pointer (some ⟨gb, 20, none⟩), .pointer (some ⟨gb, 21, none⟩), .slice (some ⟨g5, 0, none⟩) 2 (HH 4).c1, .pointer (some ⟨g5, 0, none⟩), .pointer (some ⟨g5, 1, none⟩), .slice (some ⟨gb, 0, none⟩) 14 14, .pointer (some ⟨gb, 25, none⟩), .pointer (some ⟨gb, 26, none⟩), .slice (some ⟨g6, 0, none⟩) 2 (HH 5).c1, .pointer (some ⟨g6, 3, none⟩), .pointer (some ⟨g6, 4, none⟩), .slice (some ⟨gb, 0, none⟩) 14 14, .pointer (some ⟨gb, 30, none⟩), .pointer (some ⟨gb, 31, none⟩), .slice (some ⟨g7, 0, none⟩) 2 (HH 6).c1, .pointer (some ⟨g7, 0, none⟩), .pointer (some ⟨g7, 2, none⟩), .slice (some ⟨gb, 0, none⟩) 14 14, .pointer (some ⟨gb, 35, none⟩), .pointer (some ⟨gb, 36, none⟩), .slice (some ⟨g8, 0, none⟩) 2 (HH 7).c1, .agg #[.int .i64 0, .int .i64 1, .int .i64 5], .pointer (some ⟨g8, 3, none⟩), (if bb 0 then .slice (some ⟨gb, 0, none⟩) 14 14 else undef), (if bb 1 then .pointer (some ⟨gb, 40, none⟩) else undef), (if bb 2 then .pointer (some ⟨gb, 42, none⟩) else undef), (if bb 3 then .slice (some ⟨g9, 0, none⟩) 3 (HH 8).c2 else undef), (if bb 4 then .agg #[.int .i64 70, .int .i64 201] else undef), (if bb 5 then .pointer (some ⟨g9, 0, none⟩) else undef), (if bb 6 then .pointer (some ⟨g9, 0, none⟩) else undef), undef, undef, undef, undef, undef, undef, undef, undef, undef, undef, undef, undef, undef, undef, undef, undef, undef, undef, undef, undef, undef, undef, undef, undef, undef, undef, undef, undef, undef, undef, undef, undef, undef, undef, undef, undef, undef, undef, undef, undef, undef, undef, undef, undef, undef, undef, undef, undef, undef, undef, undef, undef, undef, undef, undef, undef, undef, undef, undef, undef, undef, undef, undef, undef, undef, undef, undef, undef, undef, undef, undef, undef, undef, undef, undef, undef, undef, undef, undef, undef, undef, undef, undef, undef, undef, undef, undef, undef, undef, undef, undef, undef, undef, undef, undef, undef, undef, undef, undef, undef, undef, undef, undef, undef, undef, undef, undef, undef, undef, undef, undef, undef, undef, undef, undef, undef, undef, undef, undef, undef, undef, undef, undef, undef, undef, undef, undef, undef, undef, undef, undef, undef, undef, undef, undef, undef, undef, undef, undef, undef, undef, undef, undef, undef, undef, undef, undef, undef, undef, undef, undef, undef, undef, undef, undef, undef, undef, undef, undef, undef, undef, undef, undef, undef, undef, undef, undef, undef, undef, undef, undef, undef, undef, undef, undef, undef, undef, undef, undef, undef, undef, undef, undef, undef, undef, undef, undef, undef, undef, undef, undef, undef, undef, undef, undef, undef, undef, undef, undef, undef, undef, undef, undef, undef, undef, undef, undef, undef, undef, undef, undef, undef, undef, undef, undef, undef, undef, undef, undef, undef, undef, undef, undef, undef, undef, undef, undef, undef, undef, undef, undef, undef, undef, undef, undef, undef, undef, undef, undef, undef, undef, undef, undef, undef, undef, undef, undef, undef, undef, undef, undef, undef, undef, undef, undef, undef, undef, undef, undef, undef, undef, undef, undef, undef, undef, undef, undef, undef, undef, undef, undef, undef, undef, undef, undef, undef, undef, undef, undef, undef, undef, undef, undef, undef, undef, undef, undef, undef, undef, undef, undef, undef, undef, undef, undef, undef, undef, undef, undef, undef, undef, undef, undef, undef, undef, undef, undef, undef, undef, undef, undef, undef, undef, undef, undef, undef, undef, undef, undef, undef, undef, undef, undef, undef, undef, undef, undef, undef, undef, undef, undef, undef, undef, undef, undef, undef, undef, undef, undef, undef, undef, undef, undef, undef, undef, undef, undef, undef, undef, undef, undef, undef, undef, undef, undef, undef, undef, undef, undef, undef, undef, undef, undef, undef, undef, undef, undef, undef, undef, undef, undef, undef, undef, undef, undef, undef, undef, undef, undef, undef, undef, undef, undef, undef, undef, undef, undef, undef, undef, undef, undef, undef, undef, undef, undef, undef, undef, undef, undef, undef, undef, undef, undef, undef, undef, undef, undef, undef, undef, undef, undef, undef, undef, undef, undef, undef], []⟩ ∧ ((bb 7 = false → Bad w gb OO HH (BK 7) wq) ∧ (bb 7 = true → Bad w gb OO HH (BK 8) wq))) ?_ ?_ ?_
        · exact ⟨by simp, by exact ⟨fun _ => HM8.out.on (Below.refl _ _).drew, fun e => by cases e⟩⟩
        · intro i hil bb a wq hI hbi hcame
          obtain ⟨rfl, hst⟩ := hI
          rcases i with _ | _ | _ | _ | _ | _ | _ | _ | i
          · as_aux_lemma =>
              refine op_value rfl rfl (x_assign (.inr rfl)) ⟨by simp [Act.put, Act.eval, upd], ?_⟩
              simpa [upd] using hst
          · as_aux_lemma =>
              have hh := hcame
              simp [Came, Region.binds] at hh
              refine op_value rfl rfl (idx75 (x := .tmp 112) (y := .const (.int .i64 8)) (g := gb) (j := 8) rfl (by simp [Act.eval, hh]) rfl (by decide)) ⟨by simp [Act.put, Act.eval, upd, hh], ?_⟩
              simpa [upd] using hst
          · as_aux_lemma =>
              have hh := hcame
              simp [Came, Region.binds] at hh
              refine op_value rfl rfl (fldO27_2 (x := .tmp 113) (g := gb) (off := 40) rfl (by simp [Act.eval, hh])) ⟨by simp [Act.put, Act.eval, upd, hh], ?_⟩
              simpa [upd] using hst
          · as_aux_lemma =>
              have hh := hcame
              simp [Came, Region.binds] at hh
              have hc : wq.cell? ⟨gb, 42, none⟩ = some (.slice (some ⟨g9, 0, none⟩) 3 (HH 8).c2) := by
                cases e : bb 7 with
                | false => exact cell_9 HA9.out (hst.1 e)
                | true => exact cellb_9 HA9.out (hst.2 e)
              refine op_value rfl rfl (Ops.ld24 (x := .tmp 114) (ad := ⟨gb, 42, none⟩) (A := some ⟨g9, 0, none⟩) (n := 3) (c := (HH 8).c2) rfl (by simp [Act.eval, hh]) hc) ⟨by simp [Act.put, Act.eval, upd, hh], ?_⟩
              simpa [upd] using hst
          · as_aux_lemma =>
              refine op_call rfl rfl (run_call Tryd.func27 (by kernel_rfl) rfl rfl rfl (args := #[.int .i64 70, .int .i64 201]) (by simp [Act.eval])) ((sp_calls 70 201 wq).mono ?_)
              rintro e w5 ⟨rfl, hb5⟩
              refine ⟨_, rfl, by simp [Act.put, upd], ?_⟩
              exact ⟨fun e => (hst.1 (by simpa [upd] using e)).on hb5, fun e => (hst.2 (by simpa [upd] using e)).on hb5⟩
          · as_aux_lemma =>
              have hh := hcame
              simp [Came, Region.binds] at hh
              refine op_value rfl rfl (idx24k (x := .tmp 115) (y := .const (.int .i64 0)) (g := g9) (n := 3) (c := (HH 8).c2) (k := 0) rfl (by simp [Act.eval, hh]) rfl (by decide)) ⟨by simp [Act.put, Act.eval, upd, hh], ?_⟩
              simpa [upd] using hst
          · as_aux_lemma =>
              have hh := hcame
              simp [Came, Region.binds] at hh
              refine op_value rfl rfl (fldO47_0 (x := .tmp 117) (g := g9) (off := 0) rfl (by simp [Act.eval, hh])) ⟨by simp [Act.put, Act.eval, upd, hh], ?_⟩
              simpa [upd] using hst
          · as_aux_lemma =>
              have hh := hcame
              simp [Came, Region.binds] at hh
              refine op_skipE rfl rfl ?_
              refine Exists.imp (fun w1' hs => ⟨hs.1, ?_⟩) (put_9 HA9.out (hst.1 hbi) (.tmp 118) (.tmp 116) rfl (by simp [Act.eval, hh]) (by simp [Act.eval, hh]))
              exact ⟨by simp [Act.put, upd, hh], fun e => by simp [upd] at e, fun _ => hs.2⟩
          · simp at hil; omega
        · intro bb a wf hI hall
          obtain ⟨rfl, hst⟩ := hI
          refine hK _ _ ?_
          simp only [hall 0 (by simp), hall 1 (by simp), hall 2 (by simp), hall 3 (by simp), hall 4 (by simp), hall 5 (by simp), hall 6 (by simp), hall 7 (by simp), if_true]
          have HM9 := Lib.hid (hst.2 (hall 7 (by simp)))
          clear hall hK hst HM8 HA9
          have f10 := blk_frozen HM9.out.blk 48
          have c10 : wf.cell? ⟨gb, 48, none⟩ = some (.int .i64 75) := (HM9.out.cell (j := 9) (by decide) (m := 3) (by decide)).trans rfl
          have z10 := blk_lt HM9.out.blk
          go_upto_region 11 with (first | fail)
          have hM10 : Bad w gb OO HH (BK 11) (wf.setCell ⟨gb, 48, none⟩ (.int .i64 0)) := by
            have h := HM9.out.need (j := 9) (by decide) 0
            rw [BK_up (k := 8) rfl (by rfl), BK_11] at h
            exact h
          generalize wf.setCell ⟨gb, 48, none⟩ (.int .i64 0) = w10 at hM10 ⊢
          clear f10 c10 z10 HM9
          have f11 := blk_frozen hM10.blk 62
          have c11 : w10.cell? ⟨gb, 62, none⟩ = some (.slice (HH 12).A2 3 (HH 12).c2) := (hM10.cell (j := 12) (by decide) (m := 2) (by decide)).trans rfl
          have z11 := blk_lt hM10.blk
          have HM10 := Lib.hid hM10
          clear hM10
          go_upto_region 12 with (first | fail)
          obtain ⟨HJ, hM11⟩ : ∃ HJ, Bad w gb OO HJ (BK 12) (w10.setCell ⟨gb, 62, none⟩ (.slice none 0 0)) := by
            have h := HM10.out.bald (j := 12) (by decide)
            rw [BK_up (k := 11) rfl (by rfl)] at h
            exact ⟨_, h⟩
          generalize w10.setCell ⟨gb, 62, none⟩ (.slice none 0 0) = w11 at hM11 ⊢
          clear f11 c11 z11 HM10
          have HM11 := Lib.hid hM11
          clear hM11
          obtain ⟨g12, hA12⟩ := at_12 HM11.out
          have HA12 := Lib.hid hA12
          clear hA12
          rename_i K hK
          refine draw_inv2 mixed (by kernel_rfl) (fun bb a wq => a = ⟨#[.bool false, .slice (some ⟨gb, 0, none⟩) 14 14, undef, undef, undef, undef, undef, undef, undef, undef, undef, undef, undef, undef, undef, undef, undef, undef, undef, undef, undef, undef, undef, undef, undef, undef, undef, undef, undef, undef, undef, undef, undef, undef, undef, undef, undef, undef, undef, undef, undef, undef, undef, undef, undef, undef, undef, undef, undef, undef, .agg (hNil.cells bkNil), .agg ((H 1).cells (bookB [])), .agg ((H 2).cells (bookB [])), .agg ((H 3).cells (bookB [])), .agg ((H 4).cells (bookB [])), .agg ((H 5).cells (bookB [])), .agg ((H 6).cells (bookB [])), .agg ((H 7).cells (bookB [])), .agg ((H 8).cells (bookB [])), .agg ((H 9).cells (bookB [])), .agg #[.int .i64 3, .bool true], v61, .agg ((H 12).cells (bookB [⟨3, true⟩])), v63, .agg ((H 14).cells (bookB seven)), .agg ((H 15).cells (bookB [])), .agg ((H 16).cells (bookB [])), .slice (some ⟨gb, 0, none⟩) 14 14, .slice (some ⟨gb, 0, none⟩) 14 14, .pointer (some ⟨gb, 5, none⟩), .pointer (some ⟨gb, 5, none⟩), .slice (some ⟨g2, 0, none⟩) 3 (HH 1).c0, .pointer (some ⟨g2, 0, none⟩), .pointer (some ⟨g2, 0, none⟩), .slice (some ⟨gb, 0, none⟩) 14 14, .pointer (some ⟨gb, 10, none⟩), .pointer (some ⟨gb, 10, none⟩), .slice (some ⟨g3, 0, none⟩) 3 (HH 2).c0, .agg #[.int .i64 2, .int .i64 6], .pointer (some ⟨g3, 0, none⟩), .pointer (some ⟨g3, 1, none⟩), .slice (some ⟨gb, 0, none⟩) 14 14, .pointer (some ⟨gb, 15, none⟩), .pointer (some ⟨gb, 15, none⟩), .slice (some ⟨g4, 0, none⟩) 3 (HH 3).c0, .agg #[.int .i64 9, .int .i64 10], .pointer (some ⟨g4, 6, none⟩), .pointer (some ⟨g4, 7, none⟩), .slice (some ⟨gb, 0, none⟩) 14 14, .pointer (some ⟨gb, 20, none⟩), .pointer (some ⟨gb, 21, none⟩), .slice (some ⟨g5, 0, none⟩) 2 (HH 4).c1, .pointer (some ⟨g5, 0, none⟩), .pointer (some ⟨g5, 1, none⟩), .slice (some ⟨gb, 0, none⟩) 14 14, .pointer (some ⟨gb, 25, none⟩), .pointer (some ⟨gb, 26, none⟩), .slice (some ⟨g6, 0, none⟩) 2 (HH 5).c1, .pointer (some ⟨g6, 3, none⟩), .pointer (some ⟨g6, 4, none⟩), .slice (some ⟨gb, 0, none⟩) 14 14, .pointer (some ⟨gb, 30, none⟩), .pointer (some ⟨gb, 31, none⟩), .slice (some ⟨g7, 0, none⟩) 2 (HH 6).c1, .pointer (some ⟨g7, 0, none⟩), .pointer (some ⟨g7, 2, none⟩), .slice (some ⟨gb, 0, none⟩) 14 14, .pointer (some ⟨gb, 35, none⟩), .pointer (some ⟨gb, 36, none⟩), .slice (some ⟨g8, 0, none⟩) 2 (HH 7).c1, .agg #[.int .i64 0, .int .i64 1, .int .i64 5], .pointer (some ⟨g8, 3, none⟩), .slice (some ⟨gb, 0, none⟩) 14 14, .pointer (some ⟨gb, 40, none⟩), .pointer (some ⟨gb, 42, none⟩), .slice (some ⟨g9, 0, none⟩) 3 (HH 8).c2, .agg #[.int .i64 70, .int .i64 201], .pointer (some ⟨g9, 0, none⟩), .pointer (some ⟨g9, 0, none⟩), .slice (some ⟨gb, 0, none⟩) 14 14, .pointer (some ⟨gb, 45, none⟩), .pointer (some ⟨gb, 48, none⟩), .slice (some ⟨gb, 0, none⟩) 14 14, .pointer (some ⟨gb, 60, none⟩), .pointer (some ⟨gb, 62, none⟩), (if bb 0 then .slice (some ⟨gb, 0, none⟩) 14 14 else undef), (if bb 1 then .pointer (some ⟨gb, 65, none⟩) else undef), (if bb 2 then .pointer (some ⟨gb, 67, none⟩) else undef), (if bb 3 then .slice (some ⟨g12, 0, none⟩) 3 (HJ 13).c2 else undef), (if bb 4 then .agg #[.int .i64 5, .int .i64 4] else undef), (if bb 5 then .pointer (some ⟨g12, 4, none⟩) else undef), (if bb 6 then .pointer (some ⟨g12, 6, none⟩) else undef), undef, undef, undef, undef, undef, undef, undef, undef, undef, undef, undef, undef, undef, undef, undef, undef, undef, undef, undef, undef, undef, undef, undef, undef, undef, undef, undef, undef, undef, undef, undef, undef, undef, undef, undef, undef, undef, undef, undef, undef, undef, undef, undef, undef, undef, undef, undef, undef, undef, undef, undef, undef, undef, undef, undef, undef, undef, undef, undef, undef, undef, undef, undef, undef, undef, undef, undef, undef, undef, undef, undef, undef, undef, undef, undef, undef, undef, undef, undef, undef, undef, undef, undef, undef, undef, undef, undef, undef, undef, undef, undef, undef, undef, undef, undef, undef, undef, undef, undef, undef, undef, undef, undef, undef, undef, undef, undef, undef, undef, undef, undef, undef, undef, undef, undef, undef, undef, undef, undef, undef, undef, undef, undef, undef, undef, undef, undef, undef, undef, undef, undef, undef, undef, undef, undef, undef, undef, undef, undef, undef, undef, undef, undef, undef, undef, undef, undef, undef, undef, undef, undef, undef, undef, undef, undef, undef, undef, undef, undef, undef, undef, undef, undef, undef, undef, undef, undef, undef, undef, undef, undef, undef, undef, undef, undef, undef, undef, undef, undef, undef, undef, undef, undef, undef, undef, undef, undef, undef, undef, undef, undef, undef, undef, undef, undef, undef, undef, undef, undef, undef, undef, undef, undef, undef, undef, undef, undef, undef, undef, undef, undef, undef, undef, undef, undef, undef, undef, undef, undef, undef, undef, undef, undef, undef, undef, undef, undef, undef, undef, undef, undef, undef, undef, undef, undef, undef, undef, undef, undef, undef, undef, undef, undef, undef, undef, undef, undef, undef, undef, undef, undef, undef, undef, undef, undef, undef, undef, undef, undef, undef, undef, undef, undef, undef, undef, undef, undef, undef, undef, undef, undef, undef, undef, undef, undef, undef, undef, undef, undef, undef, undef, undef, undef, undef, undef, undef, undef, undef, undef, undef, undef, undef, undef, undef, undef, undef, undef, undef, undef, undef, undef, undef, undef, undef, undef, undef, undef, undef, undef, undef, undef, undef, undef, undef, undef, undef, undef, undef, undef, undef, undef, undef, undef, undef, undef, undef, undef, undef, undef, undef, undef, undef, undef, undef, undef, undef, undef, undef, undef, undef, undef, undef, undef, undef, undef, undef, undef, undef, undef, undef, undef, undef, undef, undef, undef, undef, undef, undef, undef, undef, undef, undef, undef, undef, undef, undef, undef, undef, undef, undef, undef, undef, undef, undef, undef, undef, undef, undef, undef, undef, undef, undef, undef, undef, undef, undef, undef, undef, undef, undef, undef, undef, undef, undef, undef, undef, undef, undef, undef, undef, undef, undef, undef], []⟩ ∧ ((bb 7 = false → Bad w gb OO HJ (BK 12) wq) ∧ (bb 7 = true → Bad w gb OO HJ (BK 13) wq))) ?_ ?_ ?_
          · exact ⟨by simp, by exact ⟨fun _ => HM11.out.on (Below.refl _ _).drew, fun e => by cases e⟩⟩
          · intro i hil bb a wq hI hbi hcame
            obtain ⟨rfl, hst⟩ := hI
            rcases i with _ | _ | _ | _ | _ | _ | _ | _ | i
            · as_aux_lemma =>
                refine op_value rfl rfl (x_assign (.inr rfl)) ⟨by simp [Act.put, Act.eval, upd], ?_⟩
                simpa [upd] using hst
            · as_aux_lemma =>
                have hh := hcame
                simp [Came, Region.binds] at hh
                refine op_value rfl rfl (idx75 (x := .tmp 125) (y := .const (.int .i64 13)) (g := gb) (j := 13) rfl (by simp [Act.eval, hh]) rfl (by decide)) ⟨by simp [Act.put, Act.eval, upd, hh], ?_⟩
                simpa [upd] using hst
            · as_aux_lemma =>
                have hh := hcame
                simp [Came, Region.binds] at hh
                refine op_value rfl rfl (fldO27_2 (x := .tmp 126) (g := gb) (off := 65) rfl (by simp [Act.eval, hh])) ⟨by simp [Act.put, Act.eval, upd, hh], ?_⟩
                simpa [upd] using hst
            · as_aux_lemma =>
                have hh := hcame
                simp [Came, Region.binds] at hh
                have hc : wq.cell? ⟨gb, 67, none⟩ = some (.slice (some ⟨g12, 0, none⟩) 3 (HJ 13).c2) := by
                  cases e : bb 7 with
                  | false => exact cell_12 HA12.out (hst.1 e)
                  | true => exact cellb_12 HA12.out (hst.2 e)
                refine op_value rfl rfl (Ops.ld24 (x := .tmp 127) (ad := ⟨gb, 67, none⟩) (A := some ⟨g12, 0, none⟩) (n := 3) (c := (HJ 13).c2) rfl (by simp [Act.eval, hh]) hc) ⟨by simp [Act.put, Act.eval, upd, hh], ?_⟩
                simpa [upd] using hst
            · as_aux_lemma =>
                refine op_call rfl rfl (run_call Tryd.func27 (by kernel_rfl) rfl rfl rfl (args := #[.int .i64 5, .int .i64 4]) (by simp [Act.eval])) ((sp_calls 5 4 wq).mono ?_)
                rintro e w5 ⟨rfl, hb5⟩
                refine ⟨_, rfl, by simp [Act.put, upd], ?_⟩
                exact ⟨fun e => (hst.1 (by simpa [upd] using e)).on hb5, fun e => (hst.2 (by simpa [upd] using e)).on hb5⟩
            · as_aux_lemma =>
                have hh := hcame
                simp [Came, Region.binds] at hh
                refine op_value rfl rfl (idx24k (x := .tmp 128) (y := .const (.int .i64 1)) (g := g12) (n := 3) (c := (HJ 13).c2) (k := 1) rfl (by simp [Act.eval, hh]) rfl (by decide)) ⟨by simp [Act.put, Act.eval, upd, hh], ?_⟩
                simpa [upd] using hst
            · as_aux_lemma =>
                have hh := hcame
                simp [Came, Region.binds] at hh
                refine op_value rfl rfl (fldO47_1 (x := .tmp 130) (g := g12) (off := 4) rfl (by simp [Act.eval, hh])) ⟨by simp [Act.put, Act.eval, upd, hh], ?_⟩
                simpa [upd] using hst
            · as_aux_lemma =>
                have hh := hcame
                simp [Came, Region.binds] at hh
                refine op_skipE rfl rfl ?_
                refine Exists.imp (fun w1' hs => ⟨hs.1, ?_⟩) (put_12 HA12.out (hst.1 hbi) (.tmp 131) (.tmp 129) rfl (by simp [Act.eval, hh]) (by simp [Act.eval, hh]))
                exact ⟨by simp [Act.put, upd, hh], fun e => by simp [upd] at e, fun _ => hs.2⟩
            · simp at hil; omega
          · intro bb a wf hI hall
            obtain ⟨rfl, hst⟩ := hI
            refine hK _ _ ?_
            simp only [hall 0 (by simp), hall 1 (by simp), hall 2 (by simp), hall 3 (by simp), hall 4 (by simp), hall 5 (by simp), hall 6 (by simp), hall 7 (by simp), if_true]
            have HM12 := Lib.hid (hst.2 (hall 7 (by simp)))
            clear hall hK hst HM11 HA12
            go_upto_region 13 with (first | fail)
            have HD0 := Lib.hid HM12.out.done
            clear HM12
            go_wp2
            go_loopw [2] (fun i wr => ∃ m : Nat, m ≤ 14 ∧ i = .int .i64 m ∧ Aside0 (BadD w gb HJ wr)) (fun i _ => (14 - intOf i).toNat)
            case atStart => exact ⟨0, Nat.zero_le _, by simp, ⟨HD0.out⟩⟩
            case round =>
              clear HD0
              obtain ⟨m, hm, rfl, HX0⟩ := hrel
              by_cases hlt : m < 14
              · as_aux_lemma =>
                  have HS := Lib.hid (bd_sane m hlt)
                  have HC := Lib.hid (bd_ck m hlt)
                  have HL := Lib.hid hlt
                  go_upto_region 17 with (first | (with_reducible refine gate_dst (N := 141) rfl ?_; refine val_of rfl (idx75 (x := .tmp 139) (y := .tmp 140) (g := gb) (j := m) rfl rfl rfl HL.out) ?_) | (with_reducible refine gate_dst (N := 142) rfl ?_; refine val_of rfl (ld27 HX0.out.blk HL.out (x := .tmp 141) rfl rfl) ?_) | (go_at_call 15; refine (bad_right (HX0.out.bk m HL.out) HS.out HC.out).mono ?_; rintro e0 v0 ⟨rfl, hv0⟩; have HX1 := Lib.hid (HX0.out.on hv0); clear hv0))
                  go_upto_region 18 with (first | (with_reducible refine gate_dst (N := 149) rfl ?_; refine val_of rfl (idx75 (x := .tmp 147) (y := .tmp 148) (g := gb) (j := m) rfl rfl rfl HL.out) ?_) | (with_reducible refine gate_dst (N := 150) rfl ?_; refine val_of rfl (ld27 HX1.out.blk HL.out (x := .tmp 149) rfl rfl) ?_) | (go_at_call 17; refine (bad_power (HX1.out.bk m HL.out) HS.out HC.out).mono ?_; rintro e1 v1 ⟨rfl, hv1⟩; have HX2 := Lib.hid (HX1.out.on hv1); clear hv1))
                  have hbv1 := HX2.out.on (below_alloc (Below.refl _ _) (.cells #[.int .i64 0, .int .i64 0] 39))
                  generalize v1.alloc (.cells #[.int .i64 0, .int .i64 0] 39) = y1 at hbv1 ⊢
                  have HY1 := Lib.hid hbv1
                  clear hbv1 HX2
                  go_upto_region 19 with (first | (with_reducible refine gate_dst (N := 157) rfl ?_; refine val_of rfl (idx75 (x := .tmp 155) (y := .tmp 156) (g := gb) (j := m) rfl rfl rfl HL.out) ?_) | (with_reducible refine gate_dst (N := 158) rfl ?_; refine val_of rfl (ld27 HY1.out.blk HL.out (x := .tmp 157) rfl rfl) ?_) | (go_at_call 20; refine (bad_lights (HG.out.below HY1.out.b) (HY1.out.bk m HL.out) HS.out HC.out (-1)).mono ?_; rintro e2 v2 ⟨rfl, hv2⟩; have HX3 := Lib.hid (HY1.out.on hv2); clear hv2))
                  go_upto_region 20 with (first | (with_reducible refine gate_dst (N := 165) rfl ?_; refine val_of rfl (idx75 (x := .tmp 163) (y := .tmp 164) (g := gb) (j := m) rfl rfl rfl HL.out) ?_) | (with_reducible refine gate_dst (N := 166) rfl ?_; refine val_of rfl (ld27 HX3.out.blk HL.out (x := .tmp 165) rfl rfl) ?_) | (go_at_call 18; refine (bad_safe (HG.out.below HX3.out.b) (HX3.out.bk m HL.out) HS.out HC.out).mono ?_; rintro e3 v3 ⟨rfl, hv3⟩; have HX4 := Lib.hid (HX3.out.on hv3); clear hv3))
                  go_upto_region 21 with (first | (with_reducible refine gate_dst (N := 173) rfl ?_; refine val_of rfl (idx75 (x := .tmp 171) (y := .tmp 172) (g := gb) (j := m) rfl rfl rfl HL.out) ?_) | (with_reducible refine gate_dst (N := 174) rfl ?_; refine val_of rfl (ld27 HX4.out.blk HL.out (x := .tmp 173) rfl rfl) ?_) | (go_at_call 34; refine (bad_blame (HG.out.below HX4.out.b) (HX4.out.bk m HL.out) HS.out HC.out (-1)).mono ?_; rintro e4 v4 ⟨⟨A4, c4, rfl⟩, hv4⟩; have HX5 := Lib.hid (HX4.out.on hv4); clear hv4))
                  go_upto_region 22 with (first | (with_reducible refine gate_dst (N := 181) rfl ?_; refine val_of rfl (idx75 (x := .tmp 179) (y := .tmp 180) (g := gb) (j := m) rfl rfl rfl HL.out) ?_) | (with_reducible refine gate_dst (N := 182) rfl ?_; refine val_of rfl (ld27 HX5.out.blk HL.out (x := .tmp 181) rfl rfl) ?_) | (go_at_call 37; refine (bad_less (HG.out.below HX5.out.b) (HX5.out.bk m HL.out) HS.out HC.out (-1)).mono ?_; rintro e5 v5 ⟨rfl, hv5⟩; have HX6 := Lib.hid (HX5.out.on hv5); clear hv5))
                  go_upto_region 23 with (first | (with_reducible refine gate_dst (N := 189) rfl ?_; refine val_of rfl (idx75 (x := .tmp 187) (y := .tmp 188) (g := gb) (j := m) rfl rfl rfl HL.out) ?_) | (with_reducible refine gate_dst (N := 190) rfl ?_; refine val_of rfl (ld27 HX6.out.blk HL.out (x := .tmp 189) rfl rfl) ?_) | (go_at_call 42; refine (bad_damper (HG.out.below HX6.out.b) (HX6.out.bk m HL.out) HS.out HC.out).mono ?_; rintro e6 v6 ⟨rfl, hv6⟩; have HX7 := Lib.hid (HX6.out.on hv6); clear hv6))
                  have hbv6 := HX7.out.on (below_alloc (Below.refl _ _) (.cells #[.int .i64 0, .int .i64 0] 39))
                  generalize v6.alloc (.cells #[.int .i64 0, .int .i64 0] 39) = y6 at hbv6 ⊢
                  have HY6 := Lib.hid hbv6
                  clear hbv6 HX7
                  go_upto_region 24 with (first | (with_reducible refine gate_dst (N := 197) rfl ?_; refine val_of rfl (idx75 (x := .tmp 195) (y := .tmp 196) (g := gb) (j := m) rfl rfl rfl HL.out) ?_) | (with_reducible refine gate_dst (N := 198) rfl ?_; refine val_of rfl (ld27 HY6.out.blk HL.out (x := .tmp 197) rfl rfl) ?_) | (go_at_call 16; refine (bad_wrong (HY6.out.bk m HL.out) HS.out HC.out).mono ?_; rintro e7 v7 ⟨⟨A7, c7, rfl⟩, hv7⟩; have HX8 := Lib.hid (HY6.out.on hv7); clear hv7))
                  go_upto_region 25 with (first | (with_reducible refine gate_dst (N := 205) rfl ?_; refine val_of rfl (idx75 (x := .tmp 203) (y := .tmp 204) (g := gb) (j := m) rfl rfl rfl HL.out) ?_) | (with_reducible refine gate_dst (N := 206) rfl ?_; refine val_of rfl (ld27 HX8.out.blk HL.out (x := .tmp 205) rfl rfl) ?_) | (go_at_call 39; refine (bad_next (HX8.out.bk m HL.out) HS.out HC.out).mono ?_; rintro e8 v8 ⟨rfl, hv8⟩; have HX9 := Lib.hid (HX8.out.on hv8); clear hv8))
                  go_upto_if 251 with (first | (with_reducible refine gate_dst (N := 212) rfl ?_; refine val_of rfl (idx75 (x := .tmp 210) (y := .tmp 211) (g := gb) (j := m) rfl rfl rfl HL.out) ?_) | (with_reducible refine gate_dst (N := 213) rfl ?_; refine val_of rfl (ld27 HX9.out.blk HL.out (x := .tmp 212) rfl rfl) ?_) | (go_at_call 43; refine (bad_check (HX9.out.bk m HL.out) HC.out).mono ?_; rintro e9 v9 ⟨rfl, hv9⟩; have HX10 := Lib.hid (HX9.out.on hv9); clear hv9))
                  go_upto_region 15 with (first | fail)
                  go_wp2
                  refine ⟨⟨m + 1, by omega, by simp, ⟨HX10.out⟩⟩, ?_⟩
                  simp only [intOf]
                  omega
              · have e : m = 14 := by omega
                subst e
                go_upto_region 27 with (first | fail)
                have HB0 := Lib.hid HX0.out.b
                clear HX0 hm hlt
                as_aux_lemma =>
                  go_upto_region 28 with (first | (go_at_call 44; refine torn_calls.mono ?_; rintro e w1 ⟨h1, rfl, hbi1, hb1⟩; have HI1 := Lib.hid hbi1; have HB2 := Lib.hid (below_step HB0.out hb1); clear hbi1 hb1) | (go_at_call 20; refine (Lights_calls (HG.out.below HB2.out) HI1.out (sane_book _) (3)).mono ?_; rw [q27.1, q27.2]; rintro e w3 ⟨rfl, hb3⟩; have HB4 := Lib.hid (below_step HB2.out hb3); clear hb3))
                  clear HI1 HB2 HB0
                  go_upto_region 29 with (first | (go_at_call 44; refine torn_calls.mono ?_; rintro e w5 ⟨h5, rfl, hbi5, hb5⟩; have HI5 := Lib.hid hbi5; have HB6 := Lib.hid (below_step HB4.out hb5); clear hbi5 hb5) | (go_at_call 34; refine (Blame_calls (HG.out.below HB6.out) HI5.out (sane_book _) (-1)).mono ?_; rw [blame_nil q28 (by decide), q28]; rintro e w7 ⟨⟨A7, c7, rfl, _, _⟩, hb7⟩; have HB8 := Lib.hid (below_step HB6.out hb7); clear hb7))
                  clear HI5 HB6 HB4
                  go_upto_region 30 with (first | (go_at_call 44; refine torn_calls.mono ?_; rintro e w9 ⟨h9, rfl, hbi9, hb9⟩; have HI9 := Lib.hid hbi9; have HB10 := Lib.hid (below_step HB8.out hb9); clear hbi9 hb9) | (go_at_call 37; refine (Less_calls (HG.out.below HB10.out) HI9.out (sane_book _) (3)).mono ?_; rw [q29]; rintro e w11 ⟨rfl, hb11⟩; have HB12 := Lib.hid (below_step HB10.out hb11); clear hb11))
                  clear HI9 HB10 HB8
                  go_upto_region 31 with (first | (go_at_call 44; refine torn_calls.mono ?_; rintro e w13 ⟨h13, rfl, hbi13, hb13⟩; have HI13 := Lib.hid hbi13; have HB14 := Lib.hid (below_step HB12.out hb13); clear hbi13 hb13) | (go_at_call 17; refine (Power_calls HI13.out (sane_book _)).mono ?_; rw [q30, ask_torn]; rintro e w15 ⟨rfl, hb15⟩; simp only [s39]; have HB16 := Lib.hid (below_step HB14.out hb15); clear hb15))
                  clear HI13 HB14 HB12
                  obtain ⟨g15, hg15⟩ : ∃ g15, g15 = w15.heap.size := ⟨_, rfl⟩
                  have a15 : (w15.alloc (.cells #[.int .i64 0, .int .i64 0] 39)).heap[g15]? = some (.cells #[.int .i64 0, .int .i64 0] 39 (0, 0)) := new_at hg15
                  have b15 : Below w.heap.size w (w15.alloc (.cells #[.int .i64 0, .int .i64 0] 39)) := HB16.out.alloc HB16.out.size _
                  rw [← hg15]
                  generalize w15.alloc (.cells #[.int .i64 0, .int .i64 0] 39) = y15 at a15 b15  ⊢
                  have HB17 := Lib.hid b15
                  clear b15 hg15 HB16
                  clear a15
                  go_upto_region 32 with (first | (go_at_call 44; refine torn_calls.mono ?_; rintro e w18 ⟨h18, rfl, hbi18, hb18⟩; have HI18 := Lib.hid hbi18; have HB19 := Lib.hid (below_step HB17.out hb18); clear hbi18 hb18) | (go_at_call 20; refine (Lights_calls (HG.out.below HB19.out) HI18.out (sane_book _) (0)).mono ?_; rw [q31.1, q31.2]; rintro e w20 ⟨rfl, hb20⟩; have HB21 := Lib.hid (below_step HB19.out hb20); clear hb20))
                  clear HI18 HB19 HB17
                  go_upto_region 33 with (first | (go_at_call 44; refine torn_calls.mono ?_; rintro e w22 ⟨h22, rfl, hbi22, hb22⟩; have HI22 := Lib.hid hbi22; have HB23 := Lib.hid (below_step HB21.out hb22); clear hbi22 hb22) | (go_at_call 18; refine (Safe_calls (HG.out.below HB23.out) HI22.out (sane_book _)).mono ?_; rw [q32, ask_torn]; rintro e w24 ⟨rfl, hb24⟩; have HB25 := Lib.hid (below_step HB23.out hb24); clear hb24))
                  clear HI22 HB23 HB21
                  go_upto_region 34 with (first | (go_at_call 44; refine torn_calls.mono ?_; rintro e w26 ⟨h26, rfl, hbi26, hb26⟩; have HI26 := Lib.hid hbi26; have HB27 := Lib.hid (below_step HB25.out hb26); clear hbi26 hb26) | (go_at_call 39; refine (Next_calls HI26.out (sane_book _)).mono ?_; rw [q33]; rintro e w28 ⟨rfl, hb28⟩; have HB29 := Lib.hid (below_step HB27.out hb28); clear hb28))
                  clear HI26 HB27 HB25
                  go_upto_region 35 with (first | (go_at_call 44; refine torn_calls.mono ?_; rintro e w30 ⟨h30, rfl, hbi30, hb30⟩; have HI30 := Lib.hid hbi30; have HB31 := Lib.hid (below_step HB29.out hb30); clear hbi30 hb30) | (go_at_call 15; refine (Right_calls HI30.out (sane_book _)).mono ?_; rw [ask_torn, q34]; rintro e w32 ⟨rfl, hb32⟩; have HB33 := Lib.hid (below_step HB31.out hb32); clear hb32))
                  clear HI30 HB31 HB29
                  go_upto_if 324 with (first | fail)
                  go_upto_region 37 with (first | fail)
                  go_upto_region 38 with (first | (go_at_call 45; refine plain_calls.mono ?_; rintro e w34 ⟨h34, rfl, hbi34, hb34⟩; have HI34 := Lib.hid hbi34; have HB35 := Lib.hid (below_step HB33.out hb34); clear hbi34 hb34) | ((with_reducible refine gate_dst (N := 37) rfl ?_); refine b_alloc rfl rfl zb27 ?_) | (refine wpList_store_row rfl 27 (.tmp 37) (.tmp 325) rfl w34.heap.size (h34.cells plainB) rfl rfl 27 z27 (new_at rfl) i27 rfl (cells_one _ _) ?_))
                  clear HB33
                  obtain ⟨g37, hg37⟩ : ∃ g, g = w34.heap.size := ⟨_, rfl⟩
                  have hv37 : ((w34.alloc (.cells z27 27)).setRow w34.heap.size (h34.cells plainB)).heap[w34.heap.size]? = some (.cells (h34.cells plainB) 27 (0, 0)) := var_at
                  have hb37 : Below w34.heap.size w34 ((w34.alloc (.cells z27 27)).setRow w34.heap.size (h34.cells plainB)) := below_row (below_alloc (Below.refl _ _) _) (Nat.le_refl _) _
                  have hle37 : w34.heap.size ≤ g37 := by omega
                  rw [← hg37] at hv37
                  rw [← hg37]
                  rw [show ((w34.alloc (.cells z27 27)).setRow w34.heap.size (h34.cells plainB)) = (w34.alloc (.cells z27 27)).setRow g37 (h34.cells plainB) by rw [hg37]] at hb37 
                  generalize (w34.alloc (.cells z27 27)).setRow g37 (h34.cells plainB) = W37 at hv37 hb37 ⊢
                  clear hg37
                  have f37 := blk_frozen hv37 0
                  have c37 : W37.cell? ⟨g37, 0, none⟩ = some (.slice h34.A0 3 h34.c0) := (blk_cell hv37 0).trans rfl
                  have z37 := blk_lt hv37
                  have HV37 := Lib.hid hv37
                  have HE37 := Lib.hid hb37
                  have HLE37 := Lib.hid hle37
                  clear hv37 hb37 hle37
                  go_upto_region 39 with (first | ((with_reducible refine gate_dst (N := 328) rfl ?_); refine b_value rfl (x_slice (x := .tmp 327) (lo := some (.const (.int .i64 2))) (hi := none) (mx := none) (u := .slice h34.A0 3 h34.c0) (a := some (.int .i64 2)) (b := none) (c := none) rfl rfl rfl rfl rfl (run_from22 _ _ HI34.out.l0 _)) ?_))
                  have hv38 : (W37.setCell ⟨g37, 0, none⟩ (.slice (from2 h34.A0 h34.c0) 1 (h34.c0 - 2))).heap[g37]? = some (.cells ((⟨from2 h34.A0 h34.c0, h34.c0 - 2, h34.A1, h34.c1, h34.A2, h34.c2, h34.A4, h34.c4⟩ : Hd).cells { plainB with salts := [⟨2, ⟨0, 0⟩⟩] }) 27 (0, 0)) := blk_put HV37.out 0 _ rfl
                  have hb38 : Below w34.heap.size w34 (W37.setCell ⟨g37, 0, none⟩ (.slice (from2 h34.A0 h34.c0) 1 (h34.c0 - 2))) := HE37.out.setCell (by simpa using HLE37.out) _
                  generalize W37.setCell ⟨g37, 0, none⟩ (.slice (from2 h34.A0 h34.c0) 1 (h34.c0 - 2)) = W38 at hv38 hb38 ⊢
                  clear f37 c37 z37 HV37 HE37
                  have f37 := blk_frozen hv38 1
                  have c37 : W38.cell? ⟨g37, 1, none⟩ = some (.slice h34.A1 2 h34.c1) := (blk_cell hv38 1).trans rfl
                  have z37 := blk_lt hv38
                  have HV38 := Lib.hid hv38
                  have HE38 := Lib.hid hb38
                  clear hv38 hb38
                  go_upto_region 40 with (first | fail)
                  have hv39 : (W38.setCell ⟨g37, 1, none⟩ (.slice none 0 0)).heap[g37]? = some (.cells ((⟨from2 h34.A0 h34.c0, h34.c0 - 2, none, 0, h34.A2, h34.c2, h34.A4, h34.c4⟩ : Hd).cells oneB) 27 (0, 0)) := blk_put HV38.out 1 _ rfl
                  have hb39 : Below w34.heap.size w34 (W38.setCell ⟨g37, 1, none⟩ (.slice none 0 0)) := HE38.out.setCell (by simpa using HLE37.out) _
                  generalize W38.setCell ⟨g37, 1, none⟩ (.slice none 0 0) = W39 at hv39 hb39 ⊢
                  obtain ⟨ho, hho⟩ : ∃ ho, ho = (⟨from2 h34.A0 h34.c0, h34.c0 - 2, none, 0, h34.A2, h34.c2, h34.A4, h34.c4⟩ : Hd) := ⟨_, rfl⟩
                  rw [← hho] at hv39
                  have hi39 : BkIn W39 ho oneB := by
                    rw [hho]
                    exact one_in (HI34.out.below hb39)
                  have ONE1 := Lib.hid hv39
                  have ONI1 := Lib.hid hi39
                  have HB37 := Lib.hid (below_step HB35.out hb39)
                  clear f37 c37 z37 HV38 HE38 hv39 hb39 hi39 hho HB35 HI34 HLE37
                  go_upto_region 41 with (first | (go_at_call 45; refine plain_calls.mono ?_; rintro e w38 ⟨h38, rfl, hbi38, hb38⟩; have HI38 := Lib.hid hbi38; have HB39 := Lib.hid (below_step HB37.out hb38); have T40 := Lib.hid (blk_below ONE1.out hb38); have T41 := Lib.hid (ONI1.out.below hb38); clear hbi38 hb38) | (go_at_call 34; refine (Blame_calls (HG.out.below HB39.out) HI38.out sane_plain (1)).mono ?_; rw [blame_nil q40 (by decide), q40]; rintro e w42 ⟨⟨A42, c42, rfl, _, _⟩, hb42⟩; have HB43 := Lib.hid (below_step HB39.out hb42); have T44 := Lib.hid (blk_below T40.out hb42); have T45 := Lib.hid (T41.out.below hb42); clear hb42))
                  clear HI38 HB39 T40 T41 HB37 ONE1 ONI1
                  go_upto_region 42 with (first | (go_at_call 41; refine book0_calls.mono ?_; rintro e w46 ⟨h46, rfl, hbi46, hb46⟩; have HI46 := Lib.hid hbi46; have HB47 := Lib.hid (below_step HB43.out hb46); have T48 := Lib.hid (blk_below T44.out hb46); have T49 := Lib.hid (T45.out.below hb46); clear hbi46 hb46) | (go_at_call 37; refine (Less_calls (HG.out.below HB47.out) HI46.out (sane_book _) (0)).mono ?_; rw [q41]; rintro e w50 ⟨rfl, hb50⟩; have HB51 := Lib.hid (below_step HB47.out hb50); have T52 := Lib.hid (blk_below T48.out hb50); have T53 := Lib.hid (T49.out.below hb50); clear hb50))
                  clear HI46 HB47 T48 T49 HB43 T44 T45
                  go_upto_region 43 with (first | (go_at_call 41; refine book0_calls.mono ?_; rintro e w54 ⟨h54, rfl, hbi54, hb54⟩; have HI54 := Lib.hid hbi54; have HB55 := Lib.hid (below_step HB51.out hb54); have T56 := Lib.hid (blk_below T52.out hb54); have T57 := Lib.hid (T53.out.below hb54); clear hbi54 hb54) | (go_at_call 42; refine (Damper_calls (HG.out.below HB55.out) HI54.out (sane_book _)).mono ?_; rw [q42]; rintro e w58 ⟨rfl, hb58⟩; simp only [s39]; have HB59 := Lib.hid (below_step HB55.out hb58); have T60 := Lib.hid (blk_below T56.out hb58); have T61 := Lib.hid (T57.out.below hb58); clear hb58))
                  clear HI54 HB55 T56 T57 HB51 T52 T53
                  go_upto_region 44 with (first | ((with_reducible refine gate_dst (N := 347) rfl ?_); refine wpList_load_row rfl 27 _ rfl g37 rfl 27 (ho.cells oneB) (0, 0) _ T60.out Tryd.underlying27 rfl i27 ?_) | (go_at_call 39; refine (Next_calls T61.out sane_one).mono ?_; rw [q43]; rintro e w62 ⟨rfl, hb62⟩; have HB63 := Lib.hid (below_step HB59.out hb62); have T64 := Lib.hid (blk_below T60.out hb62); have T65 := Lib.hid (T61.out.below hb62); clear hb62))
                  clear HB59 T61 T60 T64 T65
                  go_upto_region 45 with (first | (go_at_call 44; refine torn_calls.mono ?_; rintro e w66 ⟨h66, rfl, hbi66, hb66⟩; have HI66 := Lib.hid hbi66; have HB67 := Lib.hid (below_step HB63.out hb66); clear hbi66 hb66) | (go_at_call 34; refine (Blame_calls (HG.out.below HB67.out) HI66.out (sane_book _) (2)).mono ?_; rw [q44, q44e]; rintro e w68 ⟨⟨A68, c68, rfl, hl68, hr68⟩, hb68⟩; have HB69 := Lib.hid (below_step HB67.out hb68); clear hb68; have HR68 := Lib.hid hr68; have HL68 := Lib.hid hl68; clear hr68 hl68))
                  clear HI66 HB67 HB63
                  go_upto_region 46 with (first | (go_at_call 44; refine torn_calls.mono ?_; rintro e w70 ⟨h70, rfl, hbi70, hb70⟩; have HI70 := Lib.hid hbi70; have HB71 := Lib.hid (below_step HB69.out hb70); have T72 := Lib.hid (HR68.out.below hb70); clear hbi70 hb70) | (go_at_call 37; refine (Less_calls (HG.out.below HB71.out) HI70.out (sane_book _) (2)).mono ?_; rw [q45]; rintro e w73 ⟨rfl, hb73⟩; have HB74 := Lib.hid (below_step HB71.out hb73); have T75 := Lib.hid (T72.out.below hb73); clear hb73))
                  clear HI70 HB71 T72 HB69 HR68
                  go_upto_region 47 with (first | (go_at_call 45; refine plain_calls.mono ?_; rintro e w76 ⟨h76, rfl, hbi76, hb76⟩; have HI76 := Lib.hid hbi76; have HB77 := Lib.hid (below_step HB74.out hb76); have T78 := Lib.hid (T75.out.below hb76); clear hbi76 hb76) | (go_at_call 37; refine (Less_calls (HG.out.below HB77.out) HI76.out sane_plain (0)).mono ?_; rw [q46]; rintro e w79 ⟨rfl, hb79⟩; have HB80 := Lib.hid (below_step HB77.out hb79); have T81 := Lib.hid (T78.out.below hb79); clear hb79))
                  clear HI76 HB77 T78 HB74 T75
                  go_upto_region 48 with (first | (go_at_call 45; refine plain_calls.mono ?_; rintro e w82 ⟨h82, rfl, hbi82, hb82⟩; have HI82 := Lib.hid hbi82; have HB83 := Lib.hid (below_step HB80.out hb82); have T84 := Lib.hid (T81.out.below hb82); clear hbi82 hb82) | (go_at_call 17; refine (Power_calls HI82.out sane_plain).mono ?_; rw [q47, ask_plain]; rintro e w85 ⟨rfl, hb85⟩; simp only [s39]; have HB86 := Lib.hid (below_step HB83.out hb85); have T87 := Lib.hid (T84.out.below hb85); clear hb85))
                  clear HI82 HB83 T84 HB80 T81
                  obtain ⟨g85, hg85⟩ : ∃ g85, g85 = w85.heap.size := ⟨_, rfl⟩
                  have a85 : (w85.alloc (.cells #[.int .i64 21, .int .i64 32] 39)).heap[g85]? = some (.cells #[.int .i64 21, .int .i64 32] 39 (0, 0)) := new_at hg85
                  have b85 : Below w.heap.size w (w85.alloc (.cells #[.int .i64 21, .int .i64 32] 39)) := HB86.out.alloc HB86.out.size _
                  have t89 := T87.out.below (below_alloc (Below.refl _ _) (.cells #[.int .i64 21, .int .i64 32] 39))
                  rw [← hg85]
                  generalize w85.alloc (.cells #[.int .i64 21, .int .i64 32] 39) = y85 at a85 b85 t89 ⊢
                  have HB88 := Lib.hid b85
                  clear b85 hg85 HB86
                  have T89x := Lib.hid t89
                  clear t89 T87
                  have P90 := Lib.hid a85
                  clear a85
                  as_aux_lemma =>
                    rename_i K hK
                    refine draw_inv2 mixed (by kernel_rfl) (fun bb a wq => ∃ (gS : Nat), a = ⟨#[u0, .slice (some ⟨gb, 0, none⟩) 14 14, .int .i64 14, u3, u4, u5, u6, u7, u8, u9, u10, u11, u12, u13, u14, u15, u16, u17, u18, u19, u20, .int .i64 0, .int .i64 4, .slice A7 0 c7, .int .i64 4, .int .i64 0, .int .i64 4, .pointer (some ⟨g15, 0, none⟩), .int .i64 4, .int .i64 0, .int .i64 0, .bool false, .int .i64 0, .int .i64 0, .int .i64 0, .bool false, .int .i64 0, .pointer (some ⟨g37, 0, none⟩), .slice A68 1 c68, .int .i64 1, .int .i64 0, .pointer (some ⟨g85, 0, none⟩), undef, undef, undef, undef, undef, undef, undef, undef, .agg (hNil.cells bkNil), .agg ((H 1).cells (bookB [])), .agg ((H 2).cells (bookB [])), .agg ((H 3).cells (bookB [])), .agg ((H 4).cells (bookB [])), .agg ((H 5).cells (bookB [])), .agg ((H 6).cells (bookB [])), .agg ((H 7).cells (bookB [])), .agg ((H 8).cells (bookB [])), .agg ((H 9).cells (bookB [])), .agg #[.int .i64 3, .bool true], v61, .agg ((H 12).cells (bookB [{ f0 := 3, f1 := true }])), v63, .agg ((H 14).cells (bookB seven)), .agg ((H 15).cells (bookB [])), .agg ((H 16).cells (bookB [])), .slice (some ⟨gb, 0, none⟩) 14 14, .slice (some ⟨gb, 0, none⟩) 14 14, .pointer (some ⟨gb, 5, none⟩), .pointer (some ⟨gb, 5, none⟩), .slice (some ⟨g2, 0, none⟩) 3 (HH 1).c0, .pointer (some ⟨g2, 0, none⟩), .pointer (some ⟨g2, 0, none⟩), .slice (some ⟨gb, 0, none⟩) 14 14, .pointer (some ⟨gb, 10, none⟩), .pointer (some ⟨gb, 10, none⟩), .slice (some ⟨g3, 0, none⟩) 3 (HH 2).c0, .agg #[.int .i64 2, .int .i64 6], .pointer (some ⟨g3, 0, none⟩), .pointer (some ⟨g3, 1, none⟩), .slice (some ⟨gb, 0, none⟩) 14 14, .pointer (some ⟨gb, 15, none⟩), .pointer (some ⟨gb, 15, none⟩), .slice (some ⟨g4, 0, none⟩) 3 (HH 3).c0, .agg #[.int .i64 9, .int .i64 10], .pointer (some ⟨g4, 6, none⟩), .pointer (some ⟨g4, 7, none⟩), .slice (some ⟨gb, 0, none⟩) 14 14, .pointer (some ⟨gb, 20, none⟩), .pointer (some ⟨gb, 21, none⟩), .slice (some ⟨g5, 0, none⟩) 2 (HH 4).c1, .pointer (some ⟨g5, 0, none⟩), .pointer (some ⟨g5, 1, none⟩), .slice (some ⟨gb, 0, none⟩) 14 14, .pointer (some ⟨gb, 25, none⟩), .pointer (some ⟨gb, 26, none⟩), .slice (some ⟨g6, 0, none⟩) 2 (HH 5).c1, .pointer (some ⟨g6, 3, none⟩), .pointer (some ⟨g6, 4, none⟩), .slice (some ⟨gb, 0, none⟩) 14 14, .pointer (some ⟨gb, 30, none⟩), .pointer (some ⟨gb, 31, none⟩), .slice (some ⟨g7, 0, none⟩) 2 (HH 6).c1, .pointer (some ⟨g7, 0, none⟩), .pointer (some ⟨g7, 2, none⟩), .slice (some ⟨gb, 0, none⟩) 14 14, .pointer (some ⟨gb, 35, none⟩), .pointer (some ⟨gb, 36, none⟩), .slice (some ⟨g8, 0, none⟩) 2 (HH 7).c1, .agg #[.int .i64 0, .int .i64 1, .int .i64 5], .pointer (some ⟨g8, 3, none⟩), .slice (some ⟨gb, 0, none⟩) 14 14, .pointer (some ⟨gb, 40, none⟩), .pointer (some ⟨gb, 42, none⟩), .slice (some ⟨g9, 0, none⟩) 3 (HH 8).c2, .agg #[.int .i64 70, .int .i64 201], .pointer (some ⟨g9, 0, none⟩), .pointer (some ⟨g9, 0, none⟩), .slice (some ⟨gb, 0, none⟩) 14 14, .pointer (some ⟨gb, 45, none⟩), .pointer (some ⟨gb, 48, none⟩), .slice (some ⟨gb, 0, none⟩) 14 14, .pointer (some ⟨gb, 60, none⟩), .pointer (some ⟨gb, 62, none⟩), .slice (some ⟨gb, 0, none⟩) 14 14, .pointer (some ⟨gb, 65, none⟩), .pointer (some ⟨gb, 67, none⟩), .slice (some ⟨g12, 0, none⟩) 3 (HJ 13).c2, .agg #[.int .i64 5, .int .i64 4], .pointer (some ⟨g12, 4, none⟩), .pointer (some ⟨g12, 6, none⟩), .int .i64 14, .slice (some ⟨gb, 0, none⟩) 14 14, .int .i64 14, .bool false, u136, u137, u138, u139, u140, u141, u142, u143, u144, u145, u146, u147, u148, u149, u150, u151, u152, u153, u154, u155, u156, u157, u158, u159, u160, u161, u162, u163, u164, u165, u166, u167, u168, u169, u170, u171, u172, u173, u174, u175, u176, u177, u178, u179, u180, u181, u182, u183, u184, u185, u186, u187, u188, u189, u190, u191, u192, u193, u194, u195, u196, u197, u198, u199, u200, u201, u202, u203, u204, u205, u206, u207, u208, u209, u210, u211, u212, u213, u214, u215, u216, u217, u218, u219, u220, u221, u222, u223, u224, u225, u226, u227, u228, u229, u230, u231, u232, u233, u234, u235, u236, u237, u238, u239, u240, u241, u242, u243, u244, u245, u246, u247, u248, u249, u250, u251, .tuple #[.int .i64 0, .int .i64 21], .agg (h1.cells (bookB tornT)), .tuple #[.int .i64 0, .int .i64 21], .int .i64 0, .int .i64 21, .tuple #[.slice A7 0 c7, .int .i64 21], .agg (h5.cells (bookB tornT)), .tuple #[.slice A7 0 c7, .int .i64 21], .slice A7 0 c7, .int .i64 21, .tuple #[.int .i64 0, .int .i64 21], .agg (h9.cells (bookB tornT)), .tuple #[.int .i64 0, .int .i64 21], .int .i64 0, .int .i64 21, .tuple #[.agg #[.int .i64 0, .int .i64 0], .int .i64 22], .agg (h13.cells (bookB tornT)), .tuple #[.agg #[.int .i64 0, .int .i64 0], .int .i64 22], .agg #[.int .i64 0, .int .i64 0], .int .i64 22, .tuple #[.int .i64 0, .int .i64 22], .agg (h18.cells (bookB tornT)), .tuple #[.int .i64 0, .int .i64 22], .int .i64 0, .int .i64 22, .tuple #[.bool false, .int .i64 22], .agg (h22.cells (bookB tornT)), .tuple #[.bool false, .int .i64 22], .bool false, .int .i64 22, .tuple #[.int .i64 0, .int .i64 22], .agg (h26.cells (bookB tornT)), .tuple #[.int .i64 0, .int .i64 22], .int .i64 0, .int .i64 22, .tuple #[.bool false, .int .i64 0], .agg (h30.cells (bookB tornT)), .tuple #[.bool false, .int .i64 0], .bool false, .int .i64 0, .int .i64 21, .bool false, .bool false, .int .i64 21, .bool false, .bool false, .bool false, .int .i64 21, .bool false, .bool false, .bool false, .int .i64 22, .bool false, .bool false, .bool false, .int .i64 22, .bool false, .bool false, .bool false, .int .i64 22, .bool false, .bool false, .bool false, .int .i64 22, .bool false, .bool false, .bool false, .int .i64 0, .bool false, .bool false, .bool false, .bool false, .bool false, .agg (h34.cells plainB), .pointer (some ⟨g37, 0, none⟩), .slice h34.A0 3 h34.c0, .slice (from2 h34.A0 h34.c0) 1 (h34.c0 - 2), .pointer (some ⟨g37, 0, none⟩), .pointer (some ⟨g37, 1, none⟩), .tuple #[.slice A42 0 c42, .int .i64 4], .agg (h38.cells plainB), .tuple #[.slice A42 0 c42, .int .i64 4], .slice A42 0 c42, .int .i64 4, .tuple #[.int .i64 0, .int .i64 4], .agg (h46.cells (bookB [])), .tuple #[.int .i64 0, .int .i64 4], .int .i64 0, .int .i64 4, .tuple #[.agg #[.int .i64 0, .int .i64 0], .int .i64 4], .agg (h54.cells (bookB [])), .tuple #[.agg #[.int .i64 0, .int .i64 0], .int .i64 4], .agg #[.int .i64 0, .int .i64 0], .int .i64 4, .tuple #[.int .i64 0, .int .i64 4], .agg (ho.cells oneB), .tuple #[.int .i64 0, .int .i64 4], .int .i64 0, .int .i64 4, .tuple #[.slice A68 1 c68, .int .i64 0], .agg (h66.cells (bookB tornT)), .tuple #[.slice A68 1 c68, .int .i64 0], .slice A68 1 c68, .int .i64 0, .tuple #[.int .i64 1, .int .i64 0], .agg (h70.cells (bookB tornT)), .tuple #[.int .i64 1, .int .i64 0], .int .i64 1, .int .i64 0, .tuple #[.int .i64 0, .int .i64 0], .agg (h76.cells plainB), .tuple #[.int .i64 0, .int .i64 0], .int .i64 0, .int .i64 0, .tuple #[.agg #[.int .i64 21, .int .i64 32], .int .i64 0], .agg (h82.cells plainB), .tuple #[.agg #[.int .i64 21, .int .i64 32], .int .i64 0], .agg #[.int .i64 21, .int .i64 32], .int .i64 0, (if bb 0 then .int .i64 4 else undef), (if bb 1 then .bool false else undef), (if bb 2 then .bool false else undef), (if bb 3 then .int .i64 4 else undef), (if bb 4 then .bool false else undef), (if bb 5 then .bool false else undef), (if bb 6 then .bool false else undef), (if bb 7 then .int .i64 4 else undef), (if bb 8 then .bool false else undef), (if bb 9 then .bool false else undef), (if bb 10 then .bool false else undef), (if bb 11 then .int .i64 4 else undef), (if bb 12 then .bool false else undef), (if bb 13 then .bool false else undef), (if bb 14 then .bool false else undef), (if bb 15 then .int .i64 0 else undef), (if bb 16 then .bool false else undef), (if bb 17 then .bool false else undef), (if bb 18 then .bool false else undef), (if bb 19 then .slice A68 1 c68 else undef), (if bb 20 then .slice (some ⟨gS, 0, none⟩) 1 1 else undef), (if bb 21 then .bool true else undef), (if bb 22 then .bool false else undef), (if bb 23 then .bool false else undef), (if bb 24 then .bool false else undef), (if bb 25 then .int .i64 0 else undef), (if bb 26 then .bool false else undef), (if bb 27 then .bool false else undef), (if bb 28 then .bool false else undef), (if bb 29 then .int .i64 1 else undef), (if bb 30 then .bool false else undef), (if bb 31 then .bool false else undef), (if bb 32 then .bool false else undef), (if bb 33 then .int .i64 0 else undef), (if bb 34 then .bool false else undef), (if bb 35 then .bool false else undef), (if bb 36 then .bool false else undef), (if bb 37 then .int .i64 0 else undef), (if bb 38 then .bool false else undef), (if bb 39 then .bool false else undef), (if bb 40 then .bool false else undef), (if bb 41 then .int .i64 0 else undef), (if bb 42 then .bool false else undef), (if bb 43 then .bool false else undef), (if bb 44 then .bool false else undef), (if bb 45 then .agg #[.int .i64 21, .int .i64 32] else undef), (if bb 46 then .agg #[.int .i64 21, .int .i64 32] else undef), (if bb 47 then .bool false else undef), (if bb 48 then .bool false else undef), undef, undef, undef, undef, undef, undef, undef, undef, undef, undef, undef, undef, undef, undef, undef, undef, undef, undef, undef, undef, undef, undef, undef, undef, undef, undef, undef, undef, undef, undef, undef, undef, undef, undef, undef, undef, undef, undef, undef, undef, undef, undef, undef, undef, undef, undef, undef, undef, undef, undef, undef, undef, undef, undef, undef, undef, undef, undef, undef, undef, undef, undef, undef, undef, undef, undef, undef, undef, undef, undef, undef, undef, undef, undef, undef, undef, undef, undef, undef, undef, undef, undef, undef, undef, undef, undef, undef, undef, undef, undef, undef, undef, undef, undef, undef, undef, undef, undef, undef, undef, undef, undef, undef, undef, undef, undef, undef, undef, undef, undef, undef, undef, undef, undef, undef], []⟩ ∧ K48 w g85 A68 gS wq (bb 20)) ?_ ?_ ?_
                    · exact ⟨0, by simp, by simpa using (K48.on ⟨HB88.out, P90.out, T89x.out, by simp⟩ (Below.refl _ _).drew : K48 w g85 A68 0 y85.drew false)⟩
                    · intro i hil bb a wq hI hbi hcame
                      obtain ⟨gS, rfl, hst⟩ := hI
                      rcases i with _ | _ | _ | _ | _ | _ | _ | _ | _ | _ | _ | _ | _ | _ | _ | _ | _ | _ | _ | _ | _ | _ | _ | _ | _ | _ | _ | _ | _ | _ | _ | _ | _ | _ | _ | _ | _ | _ | _ | _ | _ | _ | _ | _ | _ | _ | _ | _ | _ | i
                      · as_aux_lemma =>
                          refine op_value rfl rfl (x_assign (.inr rfl)) ⟨gS, by simp [Act.put, Act.eval, upd], ?_⟩
                          simpa [upd] using hst
                      · as_aux_lemma =>
                          have hh := hcame
                          simp [Came, Region.binds] at hh
                          refine op_value rfl rfl (x_ne33 (x := .tmp 371) (y := .const (.int .i64 4)) (i := 4) (j := 4) rfl (by simp [Act.eval, hh]) rfl) ⟨gS, by simp [Act.put, Act.eval, upd, hh], ?_⟩
                          simpa [upd] using hst
                      · as_aux_lemma =>
                          have hh := hcame
                          simp [Came, Region.binds] at hh
                          refine op_value rfl rfl (x_assign (.inr rfl)) ⟨gS, by simp [Act.put, Act.eval, upd, hh], ?_⟩
                          simpa [upd] using hst
                      · as_aux_lemma =>
                          have hh := hcame
                          simp [Came, Region.binds] at hh
                          refine op_value rfl (wanted_of (j := 2) rfl rfl rfl (by simp [hh])) (x_assign (.inr rfl)) ⟨gS, by simp [Act.put, Act.eval, upd, hh], ?_⟩
                          simpa [upd] using hst
                      · as_aux_lemma =>
                          have hh := hcame
                          simp [Came, Region.binds] at hh
                          refine op_value rfl (wanted_of (j := 2) rfl rfl rfl (by simp [hh])) (x_ne33 (x := .tmp 374) (y := .const (.int .i64 4)) (i := 4) (j := 4) rfl (by simp [Act.eval, hh]) rfl) ⟨gS, by simp [Act.put, Act.eval, upd, hh], ?_⟩
                          simpa [upd] using hst
                      · as_aux_lemma =>
                          have hh := hcame
                          simp [Came, Region.binds] at hh
                          refine op_value rfl rfl (x_pickF (c := .tmp 373) (y := .tmp 375) (v := .bool false) rfl (by simp [Act.eval, hh]) (by simp [Act.eval, hh])) ⟨gS, by simp [Act.put, Act.eval, upd, hh], ?_⟩
                          simpa [upd] using hst
                      · as_aux_lemma =>
                          have hh := hcame
                          simp [Came, Region.binds] at hh
                          refine op_value rfl rfl (x_assign (.inr rfl)) ⟨gS, by simp [Act.put, Act.eval, upd, hh], ?_⟩
                          simpa [upd] using hst
                      · as_aux_lemma =>
                          have hh := hcame
                          simp [Came, Region.binds] at hh
                          refine op_value rfl (wanted_of (j := 6) rfl rfl rfl (by simp [hh])) (x_assign (.inr rfl)) ⟨gS, by simp [Act.put, Act.eval, upd, hh], ?_⟩
                          simpa [upd] using hst
                      · as_aux_lemma =>
                          have hh := hcame
                          simp [Came, Region.binds] at hh
                          refine op_value rfl (wanted_of (j := 6) rfl rfl rfl (by simp [hh])) (x_ne33 (x := .tmp 378) (y := .const (.int .i64 4)) (i := 4) (j := 4) rfl (by simp [Act.eval, hh]) rfl) ⟨gS, by simp [Act.put, Act.eval, upd, hh], ?_⟩
                          simpa [upd] using hst
                      · as_aux_lemma =>
                          have hh := hcame
                          simp [Came, Region.binds] at hh
                          refine op_value rfl rfl (x_pickF (c := .tmp 377) (y := .tmp 379) (v := .bool false) rfl (by simp [Act.eval, hh]) (by simp [Act.eval, hh])) ⟨gS, by simp [Act.put, Act.eval, upd, hh], ?_⟩
                          simpa [upd] using hst
                      · as_aux_lemma =>
                          have hh := hcame
                          simp [Came, Region.binds] at hh
                          refine op_value rfl rfl (x_assign (.inr rfl)) ⟨gS, by simp [Act.put, Act.eval, upd, hh], ?_⟩
                          simpa [upd] using hst
                      · as_aux_lemma =>
                          have hh := hcame
                          simp [Came, Region.binds] at hh
                          refine op_value rfl (wanted_of (j := 10) rfl rfl rfl (by simp [hh])) (x_assign (.inr rfl)) ⟨gS, by simp [Act.put, Act.eval, upd, hh], ?_⟩
                          simpa [upd] using hst
                      · as_aux_lemma =>
                          have hh := hcame
                          simp [Came, Region.binds] at hh
                          refine op_value rfl (wanted_of (j := 10) rfl rfl rfl (by simp [hh])) (x_ne33 (x := .tmp 382) (y := .const (.int .i64 4)) (i := 4) (j := 4) rfl (by simp [Act.eval, hh]) rfl) ⟨gS, by simp [Act.put, Act.eval, upd, hh], ?_⟩
                          simpa [upd] using hst
                      · as_aux_lemma =>
                          have hh := hcame
                          simp [Came, Region.binds] at hh
                          refine op_value rfl rfl (x_pickF (c := .tmp 381) (y := .tmp 383) (v := .bool false) rfl (by simp [Act.eval, hh]) (by simp [Act.eval, hh])) ⟨gS, by simp [Act.put, Act.eval, upd, hh], ?_⟩
                          simpa [upd] using hst
                      · as_aux_lemma =>
                          have hh := hcame
                          simp [Came, Region.binds] at hh
                          refine op_value rfl rfl (x_assign (.inr rfl)) ⟨gS, by simp [Act.put, Act.eval, upd, hh], ?_⟩
                          simpa [upd] using hst
                      · as_aux_lemma =>
                          have hh := hcame
                          simp [Came, Region.binds] at hh
                          refine op_value rfl (wanted_of (j := 14) rfl rfl rfl (by simp [hh])) (x_assign (.inr rfl)) ⟨gS, by simp [Act.put, Act.eval, upd, hh], ?_⟩
                          simpa [upd] using hst
                      · as_aux_lemma =>
                          have hh := hcame
                          simp [Came, Region.binds] at hh
                          refine op_value rfl (wanted_of (j := 14) rfl rfl rfl (by simp [hh])) (x_ne33 (x := .tmp 386) (y := .const (.int .i64 0)) (i := 0) (j := 0) rfl (by simp [Act.eval, hh]) rfl) ⟨gS, by simp [Act.put, Act.eval, upd, hh], ?_⟩
                          simpa [upd] using hst
                      · as_aux_lemma =>
                          have hh := hcame
                          simp [Came, Region.binds] at hh
                          refine op_value rfl rfl (x_pickF (c := .tmp 385) (y := .tmp 387) (v := .bool false) rfl (by simp [Act.eval, hh]) (by simp [Act.eval, hh])) ⟨gS, by simp [Act.put, Act.eval, upd, hh], ?_⟩
                          simpa [upd] using hst
                      · as_aux_lemma =>
                          have hh := hcame
                          simp [Came, Region.binds] at hh
                          refine op_value rfl rfl (x_assign (.inr rfl)) ⟨gS, by simp [Act.put, Act.eval, upd, hh], ?_⟩
                          simpa [upd] using hst
                      · as_aux_lemma =>
                          have hh := hcame
                          simp [Came, Region.binds] at hh
                          refine op_value rfl (wanted_of (j := 18) rfl rfl rfl (by simp [hh])) (x_assign (.inr rfl)) ⟨gS, by simp [Act.put, Act.eval, upd, hh], ?_⟩
                          simpa [upd] using hst
                      · as_aux_lemma =>
                          have hh := hcame
                          simp [Came, Region.binds] at hh
                          refine op_value rfl (wanted_of (j := 18) rfl rfl rfl (by simp [hh])) (x_box3 (x := .const (.int .i64 1)) (y := 1) rfl rfl) ⟨wq.heap.size, by simp [Act.put, Act.eval, upd, hh], ?_⟩
                          simpa [upd] using hst.slice
                      · as_aux_lemma =>
                          have hh := hcame
                          simp [Came, Region.binds] at hh
                          refine op_call rfl (wanted_of (j := 18) rfl rfl rfl (by simp [hh])) (run_call Tryd.func46 (by kernel_rfl) rfl rfl rfl (args := #[.slice A68 1 c68, .slice (some ⟨gS, 0, none⟩) 1 1]) (by simp [Act.eval, hh])) ((alike1 hst.bl HL68.out (hst.sl (by simp [hh]))).mono ?_)
                          rintro e w5 ⟨rfl, hb5⟩
                          refine ⟨_, rfl, gS, by simp [Act.put, upd, hh], ?_⟩
                          simpa [upd] using hst.on hb5
                      · as_aux_lemma =>
                          have hh := hcame
                          simp [Came, Region.binds] at hh
                          refine op_value rfl (wanted_of (j := 18) rfl rfl rfl (by simp [hh])) (x_not (x := .tmp 392) (b := true) rfl (by simp [Act.eval, hh])) ⟨gS, by simp [Act.put, Act.eval, upd, hh], ?_⟩
                          simpa [upd] using hst
                      · as_aux_lemma =>
                          have hh := hcame
                          simp [Came, Region.binds] at hh
                          refine op_value rfl rfl (x_pickF (c := .tmp 389) (y := .tmp 393) (v := .bool false) rfl (by simp [Act.eval, hh]) (by simp [Act.eval, hh])) ⟨gS, by simp [Act.put, Act.eval, upd, hh], ?_⟩
                          simpa [upd] using hst
                      · as_aux_lemma =>
                          have hh := hcame
                          simp [Came, Region.binds] at hh
                          refine op_value rfl rfl (x_assign (.inr rfl)) ⟨gS, by simp [Act.put, Act.eval, upd, hh], ?_⟩
                          simpa [upd] using hst
                      · as_aux_lemma =>
                          have hh := hcame
                          simp [Came, Region.binds] at hh
                          refine op_value rfl (wanted_of (j := 24) rfl rfl rfl (by simp [hh])) (x_assign (.inr rfl)) ⟨gS, by simp [Act.put, Act.eval, upd, hh], ?_⟩
                          simpa [upd] using hst
                      · as_aux_lemma =>
                          have hh := hcame
                          simp [Came, Region.binds] at hh
                          refine op_value rfl (wanted_of (j := 24) rfl rfl rfl (by simp [hh])) (x_ne33 (x := .tmp 396) (y := .const (.int .i64 0)) (i := 0) (j := 0) rfl (by simp [Act.eval, hh]) rfl) ⟨gS, by simp [Act.put, Act.eval, upd, hh], ?_⟩
                          simpa [upd] using hst
                      · as_aux_lemma =>
                          have hh := hcame
                          simp [Came, Region.binds] at hh
                          refine op_value rfl rfl (x_pickF (c := .tmp 395) (y := .tmp 397) (v := .bool false) rfl (by simp [Act.eval, hh]) (by simp [Act.eval, hh])) ⟨gS, by simp [Act.put, Act.eval, upd, hh], ?_⟩
                          simpa [upd] using hst
                      · as_aux_lemma =>
                          have hh := hcame
                          simp [Came, Region.binds] at hh
                          refine op_value rfl rfl (x_assign (.inr rfl)) ⟨gS, by simp [Act.put, Act.eval, upd, hh], ?_⟩
                          simpa [upd] using hst
                      · as_aux_lemma =>
                          have hh := hcame
                          simp [Came, Region.binds] at hh
                          refine op_value rfl (wanted_of (j := 28) rfl rfl rfl (by simp [hh])) (x_assign (.inr rfl)) ⟨gS, by simp [Act.put, Act.eval, upd, hh], ?_⟩
                          simpa [upd] using hst
                      · as_aux_lemma =>
                          have hh := hcame
                          simp [Came, Region.binds] at hh
                          refine op_value rfl (wanted_of (j := 28) rfl rfl rfl (by simp [hh])) (x_ne3 (x := .tmp 400) (y := .const (.int .i64 1)) (i := 1) (j := 1) rfl (by simp [Act.eval, hh]) rfl) ⟨gS, by simp [Act.put, Act.eval, upd, hh], ?_⟩
                          simpa [upd] using hst
                      · as_aux_lemma =>
                          have hh := hcame
                          simp [Came, Region.binds] at hh
                          refine op_value rfl rfl (x_pickF (c := .tmp 399) (y := .tmp 401) (v := .bool false) rfl (by simp [Act.eval, hh]) (by simp [Act.eval, hh])) ⟨gS, by simp [Act.put, Act.eval, upd, hh], ?_⟩
                          simpa [upd] using hst
                      · as_aux_lemma =>
                          have hh := hcame
                          simp [Came, Region.binds] at hh
                          refine op_value rfl rfl (x_assign (.inr rfl)) ⟨gS, by simp [Act.put, Act.eval, upd, hh], ?_⟩
                          simpa [upd] using hst
                      · as_aux_lemma =>
                          have hh := hcame
                          simp [Came, Region.binds] at hh
                          refine op_value rfl (wanted_of (j := 32) rfl rfl rfl (by simp [hh])) (x_assign (.inr rfl)) ⟨gS, by simp [Act.put, Act.eval, upd, hh], ?_⟩
                          simpa [upd] using hst
                      · as_aux_lemma =>
                          have hh := hcame
                          simp [Came, Region.binds] at hh
                          refine op_value rfl (wanted_of (j := 32) rfl rfl rfl (by simp [hh])) (x_ne33 (x := .tmp 404) (y := .const (.int .i64 0)) (i := 0) (j := 0) rfl (by simp [Act.eval, hh]) rfl) ⟨gS, by simp [Act.put, Act.eval, upd, hh], ?_⟩
                          simpa [upd] using hst
                      · as_aux_lemma =>
                          have hh := hcame
                          simp [Came, Region.binds] at hh
                          refine op_value rfl rfl (x_pickF (c := .tmp 403) (y := .tmp 405) (v := .bool false) rfl (by simp [Act.eval, hh]) (by simp [Act.eval, hh])) ⟨gS, by simp [Act.put, Act.eval, upd, hh], ?_⟩
                          simpa [upd] using hst
                      · as_aux_lemma =>
                          have hh := hcame
                          simp [Came, Region.binds] at hh
                          refine op_value rfl rfl (x_assign (.inr rfl)) ⟨gS, by simp [Act.put, Act.eval, upd, hh], ?_⟩
                          simpa [upd] using hst
                      · as_aux_lemma =>
                          have hh := hcame
                          simp [Came, Region.binds] at hh
                          refine op_value rfl (wanted_of (j := 36) rfl rfl rfl (by simp [hh])) (x_assign (.inr rfl)) ⟨gS, by simp [Act.put, Act.eval, upd, hh], ?_⟩
                          simpa [upd] using hst
                      · as_aux_lemma =>
                          have hh := hcame
                          simp [Came, Region.binds] at hh
                          refine op_value rfl (wanted_of (j := 36) rfl rfl rfl (by simp [hh])) (x_ne3 (x := .tmp 408) (y := .const (.int .i64 0)) (i := 0) (j := 0) rfl (by simp [Act.eval, hh]) rfl) ⟨gS, by simp [Act.put, Act.eval, upd, hh], ?_⟩
                          simpa [upd] using hst
                      · as_aux_lemma =>
                          have hh := hcame
                          simp [Came, Region.binds] at hh
                          refine op_value rfl rfl (x_pickF (c := .tmp 407) (y := .tmp 409) (v := .bool false) rfl (by simp [Act.eval, hh]) (by simp [Act.eval, hh])) ⟨gS, by simp [Act.put, Act.eval, upd, hh], ?_⟩
                          simpa [upd] using hst
                      · as_aux_lemma =>
                          have hh := hcame
                          simp [Came, Region.binds] at hh
                          refine op_value rfl rfl (x_assign (.inr rfl)) ⟨gS, by simp [Act.put, Act.eval, upd, hh], ?_⟩
                          simpa [upd] using hst
                      · as_aux_lemma =>
                          have hh := hcame
                          simp [Came, Region.binds] at hh
                          refine op_value rfl (wanted_of (j := 40) rfl rfl rfl (by simp [hh])) (x_assign (.inr rfl)) ⟨gS, by simp [Act.put, Act.eval, upd, hh], ?_⟩
                          simpa [upd] using hst
                      · as_aux_lemma =>
                          have hh := hcame
                          simp [Came, Region.binds] at hh
                          refine op_value rfl (wanted_of (j := 40) rfl rfl rfl (by simp [hh])) (x_ne33 (x := .tmp 412) (y := .const (.int .i64 0)) (i := 0) (j := 0) rfl (by simp [Act.eval, hh]) rfl) ⟨gS, by simp [Act.put, Act.eval, upd, hh], ?_⟩
                          simpa [upd] using hst
                      · as_aux_lemma =>
                          have hh := hcame
                          simp [Came, Region.binds] at hh
                          refine op_value rfl rfl (x_pickF (c := .tmp 411) (y := .tmp 413) (v := .bool false) rfl (by simp [Act.eval, hh]) (by simp [Act.eval, hh])) ⟨gS, by simp [Act.put, Act.eval, upd, hh], ?_⟩
                          simpa [upd] using hst
                      · as_aux_lemma =>
                          have hh := hcame
                          simp [Came, Region.binds] at hh
                          refine op_value rfl rfl (x_assign (.inr rfl)) ⟨gS, by simp [Act.put, Act.eval, upd, hh], ?_⟩
                          simpa [upd] using hst
                      · as_aux_lemma =>
                          have hh := hcame
                          simp [Came, Region.binds] at hh
                          refine op_value rfl (wanted_of (j := 44) rfl rfl rfl (by simp [hh])) (x_load (g := g85) rfl rfl hst.t1 Tryd.underlying39 rfl i39) ⟨gS, by simp [Act.put, Act.eval, upd, hh], ?_⟩
                          simpa [upd] using hst
                      · as_aux_lemma =>
                          have hh := hcame
                          simp [Came, Region.binds] at hh
                          refine op_call rfl (wanted_of (j := 44) rfl rfl rfl (by simp [hh])) (run_call Tryd.func27 (by kernel_rfl) rfl rfl rfl (args := #[.int .i64 21, .int .i64 32]) (by simp [Act.eval, hh])) ((sp_calls 21 32 wq).mono ?_)
                          rintro e w5 ⟨rfl, hb5⟩
                          refine ⟨_, rfl, gS, by simp [Act.put, upd, hh], ?_⟩
                          simpa [upd] using hst.on hb5
                      · as_aux_lemma =>
                          have hh := hcame
                          simp [Came, Region.binds] at hh
                          refine op_value rfl (wanted_of (j := 44) rfl rfl rfl (by simp [hh])) (x_ne39 (x := .tmp 416) (y := .tmp 417) (i := 21) (j := 32) (i' := 21) (j' := 32) rfl (by simp [Act.eval, hh]) (by simp [Act.eval, hh])) ⟨gS, by simp [Act.put, Act.eval, upd, hh], ?_⟩
                          simpa [upd] using hst
                      · as_aux_lemma =>
                          have hh := hcame
                          simp [Came, Region.binds] at hh
                          refine op_value rfl rfl (x_pickF (c := .tmp 415) (y := .tmp 418) (v := .bool false) rfl (by simp [Act.eval, hh]) (by simp [Act.eval, hh])) ⟨gS, by simp [Act.put, Act.eval, upd, hh], ?_⟩
                          simpa [upd] using hst
                      · simp at hil; omega
                    · intro bb a wf hI hall
                      obtain ⟨gS, rfl, hst⟩ := hI
                      refine hK _ _ ?_
                      simp only [hall 0 (by simp), hall 1 (by simp), hall 2 (by simp), hall 3 (by simp), hall 4 (by simp), hall 5 (by simp), hall 6 (by simp), hall 7 (by simp), hall 8 (by simp), hall 9 (by simp), hall 10 (by simp), hall 11 (by simp), hall 12 (by simp), hall 13 (by simp), hall 14 (by simp), hall 15 (by simp), hall 16 (by simp), hall 17 (by simp), hall 18 (by simp), hall 19 (by simp), hall 20 (by simp), hall 21 (by simp), hall 22 (by simp), hall 23 (by simp), hall 24 (by simp), hall 25 (by simp), hall 26 (by simp), hall 27 (by simp), hall 28 (by simp), hall 29 (by simp), hall 30 (by simp), hall 31 (by simp), hall 32 (by simp), hall 33 (by simp), hall 34 (by simp), hall 35 (by simp), hall 36 (by simp), hall 37 (by simp), hall 38 (by simp), hall 39 (by simp), hall 40 (by simp), hall 41 (by simp), hall 42 (by simp), hall 43 (by simp), hall 44 (by simp), hall 45 (by simp), hall 46 (by simp), hall 47 (by simp), hall 48 (by simp), if_true]
                      have HBx48 := Lib.hid hst.below
                      clear hall hK hst HB88 P90 T89x HL68
                      as_aux_lemma =>
                        go_upto_region 50 with (first | fail)
                        go_upto_region 51 with (first | (go_at_call 41; refine book0_calls.mono ?_; rintro e w91 ⟨h91, rfl, hbi91, hb91⟩; have HI91 := Lib.hid hbi91; have HB92 := Lib.hid (below_step HBx48.out hb91); clear hbi91 hb91) | (go_at_call 20; refine (Lights_calls (HG.out.below HB92.out) HI91.out (sane_book _) (0)).mono ?_; rw [q50, q50e]; rintro e w93 ⟨rfl, hb93⟩; have HB94 := Lib.hid (below_step HB92.out hb93); clear hb93))
                        clear HI91 HB92 HBx48
                        go_upto_region 52 with (first | (go_at_call 41; refine book0_calls.mono ?_; rintro e w95 ⟨h95, rfl, hbi95, hb95⟩; have HI95 := Lib.hid hbi95; have HB96 := Lib.hid (below_step HB94.out hb95); clear hbi95 hb95) | (go_at_call 20; refine (Lights_calls (HG.out.below HB96.out) HI95.out (sane_book _) (2)).mono ?_; rw [q51, q51e]; rintro e w97 ⟨rfl, hb97⟩; have HB98 := Lib.hid (below_step HB96.out hb97); clear hb97))
                        clear HI95 HB96 HB94
                        go_upto_region 53 with (first | (go_at_call 45; refine plain_calls.mono ?_; rintro e w99 ⟨h99, rfl, hbi99, hb99⟩; have HI99 := Lib.hid hbi99; have HB100 := Lib.hid (below_step HB98.out hb99); clear hbi99 hb99) | (go_at_call 20; refine (Lights_calls (HG.out.below HB100.out) HI99.out sane_plain (1)).mono ?_; rw [q52, q52e]; rintro e w101 ⟨rfl, hb101⟩; have HB102 := Lib.hid (below_step HB100.out hb101); clear hb101))
                        clear HI99 HB100 HB98
                        go_upto_region 54 with (first | (go_at_call 30; refine (lit_calls 1 _).mono ?_; rintro e w103 ⟨rfl, hb103⟩; have HB104 := Lib.hid (below_step HB102.out hb103); clear hb103) | (go_at_call 41; refine (book_of_calls (w0 := w103) (ts := [⟨1, true⟩]) (below_alloc (Below.refl _ _) _) (R_lit59 w103 ⟨1, true⟩)).mono ?_; rintro e w105 ⟨h105, rfl, hbi105, hb105⟩; have HI105 := Lib.hid hbi105; have HB106 := Lib.hid (below_step HB104.out hb105); clear hbi105 hb105) | (go_at_call 20; refine (Lights_calls (HG.out.below HB106.out) HI105.out (sane_book _) (2)).mono ?_; rw [q53, q53e]; rintro e w107 ⟨rfl, hb107⟩; have HB108 := Lib.hid (below_step HB106.out hb107); clear hb107))
                        clear HB104 HI105 HB106 HB102
                        go_upto_region 55 with (first | (go_at_call 41; refine book0_calls.mono ?_; rintro e w109 ⟨h109, rfl, hbi109, hb109⟩; have HI109 := Lib.hid hbi109; have HB110 := Lib.hid (below_step HB108.out hb109); clear hbi109 hb109) | (go_at_call 18; refine (Safe_calls (HG.out.below HB110.out) HI109.out (sane_book _)).mono ?_; rw [q54, ask_book0]; rintro e w111 ⟨rfl, hb111⟩; have HB112 := Lib.hid (below_step HB110.out hb111); clear hb111))
                        clear HI109 HB110 HB108
                        go_upto_region 56 with (first | (go_at_call 30; refine (lit_calls 2 _).mono ?_; rintro e w113 ⟨rfl, hb113⟩; have HB114 := Lib.hid (below_step HB112.out hb113); clear hb113) | (go_at_call 41; refine (book_of_calls (w0 := w113) (ts := [⟨2, true⟩]) (below_alloc (Below.refl _ _) _) (R_lit59 w113 ⟨2, true⟩)).mono ?_; rintro e w115 ⟨h115, rfl, hbi115, hb115⟩; have HI115 := Lib.hid hbi115; have HB116 := Lib.hid (below_step HB114.out hb115); clear hbi115 hb115) | (go_at_call 39; refine (Next_calls HI115.out (sane_book _)).mono ?_; rw [q55]; rintro e w117 ⟨rfl, hb117⟩; have HB118 := Lib.hid (below_step HB116.out hb117); clear hb117))
                        clear HB114 HI115 HB116 HB112
                        go_upto_region 57 with (first | (go_at_call 41; refine book0_calls.mono ?_; rintro e w119 ⟨h119, rfl, hbi119, hb119⟩; have HI119 := Lib.hid hbi119; have HB120 := Lib.hid (below_step HB118.out hb119); clear hbi119 hb119) | (go_at_call 16; refine (Wrong_calls HI119.out (sane_book _)).mono ?_; rw [q56, q56e]; rintro e w121 ⟨⟨A121, c121, rfl, _, _⟩, hb121⟩; have HB122 := Lib.hid (below_step HB120.out hb121); clear hb121))
                        clear HI119 HB120 HB118
                        go_upto_region 58 with (first | (go_at_call 31; refine (not_calls 2 _).mono ?_; rintro e w123 ⟨rfl, hb123⟩; have HB124 := Lib.hid (below_step HB122.out hb123); clear hb123) | (go_at_call 41; refine (book_of_calls (w0 := w123) (ts := [⟨2, false⟩]) (below_alloc (Below.refl _ _) _) (R_lit59 w123 ⟨2, false⟩)).mono ?_; rintro e w125 ⟨h125, rfl, hbi125, hb125⟩; have HI125 := Lib.hid hbi125; have HB126 := Lib.hid (below_step HB124.out hb125); clear hbi125 hb125) | (go_at_call 17; refine (Power_calls HI125.out (sane_book _)).mono ?_; rw [q57, ask_n2]; rintro e w127 ⟨rfl, hb127⟩; simp only [s39]; have HB128 := Lib.hid (below_step HB126.out hb127); clear hb127))
                        clear HB124 HI125 HB126 HB122
                        obtain ⟨g127, hg127⟩ : ∃ g127, g127 = w127.heap.size := ⟨_, rfl⟩
                        have a127 : (w127.alloc (.cells #[.int .i64 21, .int .i64 32] 39)).heap[g127]? = some (.cells #[.int .i64 21, .int .i64 32] 39 (0, 0)) := new_at hg127
                        have b127 : Below w.heap.size w (w127.alloc (.cells #[.int .i64 21, .int .i64 32] 39)) := HB128.out.alloc HB128.out.size _
                        rw [← hg127]
                        generalize w127.alloc (.cells #[.int .i64 21, .int .i64 32] 39) = y127 at a127 b127  ⊢
                        have HB129 := Lib.hid b127
                        clear b127 hg127 HB128
                        have P130 := Lib.hid a127
                        clear a127
                        rename_i K hK
                        refine draw_inv2 mixed (by kernel_rfl) (fun bb a wq => a = ⟨#[(if bb 69 then .bool true else u0), .slice (some ⟨gb, 0, none⟩) 14 14, .int .i64 14, u3, u4, u5, u6, u7, u8, u9, u10, u11, u12, u13, u14, u15, u16, u17, u18, u19, u20, .int .i64 0, .int .i64 0, .slice A7 0 c7, .int .i64 0, .int .i64 0, .int .i64 0, .pointer (some ⟨g15, 0, none⟩), .int .i64 0, .int .i64 0, .int .i64 0, .bool false, .int .i64 0, .int .i64 0, .int .i64 0, .bool false, .int .i64 0, .pointer (some ⟨g37, 0, none⟩), .slice A68 1 c68, .int .i64 1, .int .i64 0, .pointer (some ⟨g85, 0, none⟩), .int .i64 2, .int .i64 1, .int .i64 0, .int .i64 2, .bool false, .int .i64 0, .slice A121 0 c121, .pointer (some ⟨g127, 0, none⟩), .agg (hNil.cells bkNil), .agg ((H 1).cells (bookB [])), .agg ((H 2).cells (bookB [])), .agg ((H 3).cells (bookB [])), .agg ((H 4).cells (bookB [])), .agg ((H 5).cells (bookB [])), .agg ((H 6).cells (bookB [])), .agg ((H 7).cells (bookB [])), .agg ((H 8).cells (bookB [])), .agg ((H 9).cells (bookB [])), .agg #[.int .i64 3, .bool true], v61, .agg ((H 12).cells (bookB [{ f0 := 3, f1 := true }])), v63, .agg ((H 14).cells (bookB seven)), .agg ((H 15).cells (bookB [])), .agg ((H 16).cells (bookB [])), .slice (some ⟨gb, 0, none⟩) 14 14, .slice (some ⟨gb, 0, none⟩) 14 14, .pointer (some ⟨gb, 5, none⟩), .pointer (some ⟨gb, 5, none⟩), .slice (some ⟨g2, 0, none⟩) 3 (HH 1).c0, .pointer (some ⟨g2, 0, none⟩), .pointer (some ⟨g2, 0, none⟩), .slice (some ⟨gb, 0, none⟩) 14 14, .pointer (some ⟨gb, 10, none⟩), .pointer (some ⟨gb, 10, none⟩), .slice (some ⟨g3, 0, none⟩) 3 (HH 2).c0, .agg #[.int .i64 2, .int .i64 6], .pointer (some ⟨g3, 0, none⟩), .pointer (some ⟨g3, 1, none⟩), .slice (some ⟨gb, 0, none⟩) 14 14, .pointer (some ⟨gb, 15, none⟩), .pointer (some ⟨gb, 15, none⟩), .slice (some ⟨g4, 0, none⟩) 3 (HH 3).c0, .agg #[.int .i64 9, .int .i64 10], .pointer (some ⟨g4, 6, none⟩), .pointer (some ⟨g4, 7, none⟩), .slice (some ⟨gb, 0, none⟩) 14 14, .pointer (some ⟨gb, 20, none⟩), .pointer (some ⟨gb, 21, none⟩), .slice (some ⟨g5, 0, none⟩) 2 (HH 4).c1, .pointer (some ⟨g5, 0, none⟩), .pointer (some ⟨g5, 1, none⟩), .slice (some ⟨gb, 0, none⟩) 14 14, .pointer (some ⟨gb, 25, none⟩), .pointer (some ⟨gb, 26, none⟩), .slice (some ⟨g6, 0, none⟩) 2 (HH 5).c1, .pointer (some ⟨g6, 3, none⟩), .pointer (some ⟨g6, 4, none⟩), .slice (some ⟨gb, 0, none⟩) 14 14, .pointer (some ⟨gb, 30, none⟩), .pointer (some ⟨gb, 31, none⟩), .slice (some ⟨g7, 0, none⟩) 2 (HH 6).c1, .pointer (some ⟨g7, 0, none⟩), .pointer (some ⟨g7, 2, none⟩), .slice (some ⟨gb, 0, none⟩) 14 14, .pointer (some ⟨gb, 35, none⟩), .pointer (some ⟨gb, 36, none⟩), .slice (some ⟨g8, 0, none⟩) 2 (HH 7).c1, .agg #[.int .i64 0, .int .i64 1, .int .i64 5], .pointer (some ⟨g8, 3, none⟩), .slice (some ⟨gb, 0, none⟩) 14 14, .pointer (some ⟨gb, 40, none⟩), .pointer (some ⟨gb, 42, none⟩), .slice (some ⟨g9, 0, none⟩) 3 (HH 8).c2, .agg #[.int .i64 70, .int .i64 201], .pointer (some ⟨g9, 0, none⟩), .pointer (some ⟨g9, 0, none⟩), .slice (some ⟨gb, 0, none⟩) 14 14, .pointer (some ⟨gb, 45, none⟩), .pointer (some ⟨gb, 48, none⟩), .slice (some ⟨gb, 0, none⟩) 14 14, .pointer (some ⟨gb, 60, none⟩), .pointer (some ⟨gb, 62, none⟩), .slice (some ⟨gb, 0, none⟩) 14 14, .pointer (some ⟨gb, 65, none⟩), .pointer (some ⟨gb, 67, none⟩), .slice (some ⟨g12, 0, none⟩) 3 (HJ 13).c2, .agg #[.int .i64 5, .int .i64 4], .pointer (some ⟨g12, 4, none⟩), .pointer (some ⟨g12, 6, none⟩), .int .i64 14, .slice (some ⟨gb, 0, none⟩) 14 14, .int .i64 14, .bool false, u136, u137, u138, u139, u140, u141, u142, u143, u144, u145, u146, u147, u148, u149, u150, u151, u152, u153, u154, u155, u156, u157, u158, u159, u160, u161, u162, u163, u164, u165, u166, u167, u168, u169, u170, u171, u172, u173, u174, u175, u176, u177, u178, u179, u180, u181, u182, u183, u184, u185, u186, u187, u188, u189, u190, u191, u192, u193, u194, u195, u196, u197, u198, u199, u200, u201, u202, u203, u204, u205, u206, u207, u208, u209, u210, u211, u212, u213, u214, u215, u216, u217, u218, u219, u220, u221, u222, u223, u224, u225, u226, u227, u228, u229, u230, u231, u232, u233, u234, u235, u236, u237, u238, u239, u240, u241, u242, u243, u244, u245, u246, u247, u248, u249, u250, u251, .tuple #[.int .i64 0, .int .i64 21], .agg (h1.cells (bookB tornT)), .tuple #[.int .i64 0, .int .i64 21], .int .i64 0, .int .i64 21, .tuple #[.slice A7 0 c7, .int .i64 21], .agg (h5.cells (bookB tornT)), .tuple #[.slice A7 0 c7, .int .i64 21], .slice A7 0 c7, .int .i64 21, .tuple #[.int .i64 0, .int .i64 21], .agg (h9.cells (bookB tornT)), .tuple #[.int .i64 0, .int .i64 21], .int .i64 0, .int .i64 21, .tuple #[.agg #[.int .i64 0, .int .i64 0], .int .i64 22], .agg (h13.cells (bookB tornT)), .tuple #[.agg #[.int .i64 0, .int .i64 0], .int .i64 22], .agg #[.int .i64 0, .int .i64 0], .int .i64 22, .tuple #[.int .i64 0, .int .i64 22], .agg (h18.cells (bookB tornT)), .tuple #[.int .i64 0, .int .i64 22], .int .i64 0, .int .i64 22, .tuple #[.bool false, .int .i64 22], .agg (h22.cells (bookB tornT)), .tuple #[.bool false, .int .i64 22], .bool false, .int .i64 22, .tuple #[.int .i64 0, .int .i64 22], .agg (h26.cells (bookB tornT)), .tuple #[.int .i64 0, .int .i64 22], .int .i64 0, .int .i64 22, .tuple #[.bool false, .int .i64 0], .agg (h30.cells (bookB tornT)), .tuple #[.bool false, .int .i64 0], .bool false, .int .i64 0, .int .i64 21, .bool false, .bool false, .int .i64 21, .bool false, .bool false, .bool false, .int .i64 21, .bool false, .bool false, .bool false, .int .i64 22, .bool false, .bool false, .bool false, .int .i64 22, .bool false, .bool false, .bool false, .int .i64 22, .bool false, .bool false, .bool false, .int .i64 22, .bool false, .bool false, .bool false, .int .i64 0, .bool false, .bool false, .bool false, .bool false, .bool false, .agg (h34.cells plainB), .pointer (some ⟨g37, 0, none⟩), .slice h34.A0 3 h34.c0, .slice (from2 h34.A0 h34.c0) 1 (h34.c0 - 2), .pointer (some ⟨g37, 0, none⟩), .pointer (some ⟨g37, 1, none⟩), .tuple #[.slice A42 0 c42, .int .i64 4], .agg (h38.cells plainB), .tuple #[.slice A42 0 c42, .int .i64 4], .slice A42 0 c42, .int .i64 4, .tuple #[.int .i64 0, .int .i64 4], .agg (h46.cells (bookB [])), .tuple #[.int .i64 0, .int .i64 4], .int .i64 0, .int .i64 4, .tuple #[.agg #[.int .i64 0, .int .i64 0], .int .i64 4], .agg (h54.cells (bookB [])), .tuple #[.agg #[.int .i64 0, .int .i64 0], .int .i64 4], .agg #[.int .i64 0, .int .i64 0], .int .i64 4, .tuple #[.int .i64 0, .int .i64 4], .agg (ho.cells oneB), .tuple #[.int .i64 0, .int .i64 4], .int .i64 0, .int .i64 4, .tuple #[.slice A68 1 c68, .int .i64 0], .agg (h66.cells (bookB tornT)), .tuple #[.slice A68 1 c68, .int .i64 0], .slice A68 1 c68, .int .i64 0, .tuple #[.int .i64 1, .int .i64 0], .agg (h70.cells (bookB tornT)), .tuple #[.int .i64 1, .int .i64 0], .int .i64 1, .int .i64 0, .tuple #[.int .i64 0, .int .i64 0], .agg (h76.cells plainB), .tuple #[.int .i64 0, .int .i64 0], .int .i64 0, .int .i64 0, .tuple #[.agg #[.int .i64 21, .int .i64 32], .int .i64 0], .agg (h82.cells plainB), .tuple #[.agg #[.int .i64 21, .int .i64 32], .int .i64 0], .agg #[.int .i64 21, .int .i64 32], .int .i64 0, .int .i64 4, .bool false, .bool false, .int .i64 4, .bool false, .bool false, .bool false, .int .i64 4, .bool false, .bool false, .bool false, .int .i64 4, .bool false, .bool false, .bool false, .int .i64 0, .bool false, .bool false, .bool false, .slice A68 1 c68, .slice (some ⟨gS, 0, none⟩) 1 1, .bool true, .bool false, .bool false, .bool false, .int .i64 0, .bool false, .bool false, .bool false, .int .i64 1, .bool false, .bool false, .bool false, .int .i64 0, .bool false, .bool false, .bool false, .int .i64 0, .bool false, .bool false, .bool false, .int .i64 0, .bool false, .bool false, .bool false, .agg #[.int .i64 21, .int .i64 32], .agg #[.int .i64 21, .int .i64 32], .bool false, .bool false, .tuple #[.int .i64 2, .int .i64 0], .agg (h91.cells (bookB [])), .tuple #[.int .i64 2, .int .i64 0], .int .i64 2, .int .i64 0, .tuple #[.int .i64 1, .int .i64 0], .agg (h95.cells (bookB [])), .tuple #[.int .i64 1, .int .i64 0], .int .i64 1, .int .i64 0, .tuple #[.int .i64 0, .int .i64 0], .agg (h99.cells plainB), .tuple #[.int .i64 0, .int .i64 0], .int .i64 0, .int .i64 0, .tuple #[.int .i64 2, .int .i64 0], .agg #[.int .i64 1, .bool true], .slice (some ⟨w103.heap.size, 0, none⟩) 1 1, .agg (h105.cells (bookB [{ f0 := 1, f1 := true }])), .tuple #[.int .i64 2, .int .i64 0], .int .i64 2, .int .i64 0, .tuple #[.bool false, .int .i64 0], .agg (h109.cells (bookB [])), .tuple #[.bool false, .int .i64 0], .bool false, .int .i64 0, .tuple #[.int .i64 0, .int .i64 0], .agg #[.int .i64 2, .bool true], .slice (some ⟨w113.heap.size, 0, none⟩) 1 1, .agg (h115.cells (bookB [{ f0 := 2, f1 := true }])), .tuple #[.int .i64 0, .int .i64 0], .int .i64 0, .int .i64 0, .tuple #[.slice A121 0 c121, .int .i64 0], .agg (h119.cells (bookB [])), .tuple #[.slice A121 0 c121, .int .i64 0], .slice A121 0 c121, .int .i64 0, .tuple #[.agg #[.int .i64 21, .int .i64 32], .int .i64 0], .agg #[.int .i64 2, .bool false], .slice (some ⟨w123.heap.size, 0, none⟩) 1 1, .agg (h125.cells (bookB [{ f0 := 2, f1 := false }])), .tuple #[.agg #[.int .i64 21, .int .i64 32], .int .i64 0], .agg #[.int .i64 21, .int .i64 32], .int .i64 0, (if bb 0 then .int .i64 0 else undef), (if bb 1 then .bool true else undef), (if bb 2 then .bool true else undef), (if bb 3 then .int .i64 2 else undef), (if bb 4 then .bool true else undef), (if bb 5 then .bool true else undef), (if bb 6 then .bool true else undef), (if bb 7 then .int .i64 0 else undef), (if bb 8 then .bool true else undef), (if bb 9 then .bool true else undef), (if bb 10 then .bool true else undef), (if bb 11 then .int .i64 1 else undef), (if bb 12 then .bool true else undef), (if bb 13 then .bool true else undef), (if bb 14 then .bool true else undef), (if bb 15 then .int .i64 0 else undef), (if bb 16 then .bool true else undef), (if bb 17 then .bool true else undef), (if bb 18 then .bool true else undef), (if bb 19 then .int .i64 0 else undef), (if bb 20 then .bool true else undef), (if bb 21 then .bool true else undef), (if bb 22 then .bool true else undef), (if bb 23 then .int .i64 0 else undef), (if bb 24 then .bool true else undef), (if bb 25 then .bool true else undef), (if bb 26 then .bool true else undef), (if bb 27 then .int .i64 2 else undef), (if bb 28 then .bool true else undef), (if bb 29 then .bool true else undef), (if bb 30 then .bool true else undef), (if bb 31 then .int .i64 0 else undef), (if bb 32 then .bool true else undef), (if bb 33 then .bool true else undef), (if bb 34 then .bool true else undef), (if bb 35 then .bool false else undef), (if bb 36 then .bool true else undef), (if bb 37 then .bool true else undef), (if bb 38 then .bool true else undef), (if bb 39 then .int .i64 0 else undef), (if bb 40 then .bool true else undef), (if bb 41 then .bool true else undef), (if bb 42 then .bool true else undef), (if bb 43 then .int .i64 0 else undef), (if bb 44 then .bool true else undef), (if bb 45 then .bool true else undef), (if bb 46 then .bool true else undef), (if bb 47 then .int .i64 0 else undef), (if bb 48 then .bool true else undef), (if bb 49 then .bool true else undef), (if bb 50 then .bool true else undef), (if bb 51 then .slice A121 0 c121 else undef), (if bb 52 then .int .i64 0 else undef), (if bb 53 then .bool true else undef), (if bb 54 then .bool true else undef), (if bb 55 then .bool true else undef), (if bb 56 then .int .i64 0 else undef), (if bb 57 then .bool true else undef), (if bb 58 then .bool true else undef), (if bb 59 then .bool true else undef), (if bb 60 then .agg #[.int .i64 21, .int .i64 32] else undef), (if bb 61 then .agg #[.int .i64 21, .int .i64 32] else undef), (if bb 62 then .bool true else undef), (if bb 63 then .bool true else undef), (if bb 64 then .bool true else undef), (if bb 65 then .bool true else undef), (if bb 66 then .bool true else undef), (if bb 67 then .bool true else undef), (if bb 68 then .bool true else undef)], []⟩ ∧ K58 w g127 wq) ?_ ?_ ?_
                        · exact ⟨by simp, K58.on ⟨HB129.out, P130.out⟩ (Below.refl _ _).drew⟩
                        · intro i hil bb a wq hI hbi hcame
                          obtain ⟨rfl, hst⟩ := hI
                          rcases i with _ | _ | _ | _ | _ | _ | _ | _ | _ | _ | _ | _ | _ | _ | _ | _ | _ | _ | _ | _ | _ | _ | _ | _ | _ | _ | _ | _ | _ | _ | _ | _ | _ | _ | _ | _ | _ | _ | _ | _ | _ | _ | _ | _ | _ | _ | _ | _ | _ | _ | _ | _ | _ | _ | _ | _ | _ | _ | _ | _ | _ | _ | _ | _ | _ | _ | _ | _ | _ | _ | i
                          · as_aux_lemma =>
                              refine op_value rfl rfl (x_assign (.inr rfl)) ⟨by simp [Act.put, Act.eval, upd], ?_⟩
                              exact hst
                          · as_aux_lemma =>
                              have hh := hcame
                              simp [Came, Region.binds] at hh
                              refine op_value rfl rfl (x_eq33 (x := .tmp 466) (y := .const (.int .i64 0)) (i := 0) (j := 0) rfl (by simp [Act.eval, hh]) rfl) ⟨by simp [Act.put, Act.eval, upd, hh], ?_⟩
                              exact hst
                          · as_aux_lemma =>
                              have hh := hcame
                              simp [Came, Region.binds] at hh
                              refine op_value rfl rfl (x_assign (.inr rfl)) ⟨by simp [Act.put, Act.eval, upd, hh], ?_⟩
                              exact hst
                          · as_aux_lemma =>
                              have hh := hcame
                              simp [Came, Region.binds] at hh
                              refine op_value rfl (wanted_of (j := 2) rfl rfl rfl (by simp [hh])) (x_assign (.inr rfl)) ⟨by simp [Act.put, Act.eval, upd, hh], ?_⟩
                              exact hst
                          · as_aux_lemma =>
                              have hh := hcame
                              simp [Came, Region.binds] at hh
                              refine op_value rfl (wanted_of (j := 2) rfl rfl rfl (by simp [hh])) (x_eq3 (x := .tmp 469) (y := .const (.int .i64 2)) (i := 2) (j := 2) rfl (by simp [Act.eval, hh]) rfl) ⟨by simp [Act.put, Act.eval, upd, hh], ?_⟩
                              exact hst
                          · as_aux_lemma =>
                              have hh := hcame
                              simp [Came, Region.binds] at hh
                              refine op_value rfl rfl (x_pickT (c := .tmp 468) (x := .tmp 470) (v := .bool true) rfl (by simp [Act.eval, hh]) (by simp [Act.eval, hh])) ⟨by simp [Act.put, Act.eval, upd, hh], ?_⟩
                              exact hst
                          · as_aux_lemma =>
                              have hh := hcame
                              simp [Came, Region.binds] at hh
                              refine op_value rfl rfl (x_assign (.inr rfl)) ⟨by simp [Act.put, Act.eval, upd, hh], ?_⟩
                              exact hst
                          · as_aux_lemma =>
                              have hh := hcame
                              simp [Came, Region.binds] at hh
                              refine op_value rfl (wanted_of (j := 6) rfl rfl rfl (by simp [hh])) (x_assign (.inr rfl)) ⟨by simp [Act.put, Act.eval, upd, hh], ?_⟩
                              exact hst
                          · as_aux_lemma =>
                              have hh := hcame
                              simp [Came, Region.binds] at hh
                              refine op_value rfl (wanted_of (j := 6) rfl rfl rfl (by simp [hh])) (x_eq33 (x := .tmp 473) (y := .const (.int .i64 0)) (i := 0) (j := 0) rfl (by simp [Act.eval, hh]) rfl) ⟨by simp [Act.put, Act.eval, upd, hh], ?_⟩
                              exact hst
                          · as_aux_lemma =>
                              have hh := hcame
                              simp [Came, Region.binds] at hh
                              refine op_value rfl rfl (x_pickT (c := .tmp 472) (x := .tmp 474) (v := .bool true) rfl (by simp [Act.eval, hh]) (by simp [Act.eval, hh])) ⟨by simp [Act.put, Act.eval, upd, hh], ?_⟩
                              exact hst
                          · as_aux_lemma =>
                              have hh := hcame
                              simp [Came, Region.binds] at hh
                              refine op_value rfl rfl (x_assign (.inr rfl)) ⟨by simp [Act.put, Act.eval, upd, hh], ?_⟩
                              exact hst
                          · as_aux_lemma =>
                              have hh := hcame
                              simp [Came, Region.binds] at hh
                              refine op_value rfl (wanted_of (j := 10) rfl rfl rfl (by simp [hh])) (x_assign (.inr rfl)) ⟨by simp [Act.put, Act.eval, upd, hh], ?_⟩
                              exact hst
                          · as_aux_lemma =>
                              have hh := hcame
                              simp [Came, Region.binds] at hh
                              refine op_value rfl (wanted_of (j := 10) rfl rfl rfl (by simp [hh])) (x_eq3 (x := .tmp 477) (y := .const (.int .i64 1)) (i := 1) (j := 1) rfl (by simp [Act.eval, hh]) rfl) ⟨by simp [Act.put, Act.eval, upd, hh], ?_⟩
                              exact hst
                          · as_aux_lemma =>
                              have hh := hcame
                              simp [Came, Region.binds] at hh
                              refine op_value rfl rfl (x_pickT (c := .tmp 476) (x := .tmp 478) (v := .bool true) rfl (by simp [Act.eval, hh]) (by simp [Act.eval, hh])) ⟨by simp [Act.put, Act.eval, upd, hh], ?_⟩
                              exact hst
                          · as_aux_lemma =>
                              have hh := hcame
                              simp [Came, Region.binds] at hh
                              refine op_value rfl rfl (x_assign (.inr rfl)) ⟨by simp [Act.put, Act.eval, upd, hh], ?_⟩
                              exact hst
                          · as_aux_lemma =>
                              have hh := hcame
                              simp [Came, Region.binds] at hh
                              refine op_value rfl (wanted_of (j := 14) rfl rfl rfl (by simp [hh])) (x_assign (.inr rfl)) ⟨by simp [Act.put, Act.eval, upd, hh], ?_⟩
                              exact hst
                          · as_aux_lemma =>
                              have hh := hcame
                              simp [Came, Region.binds] at hh
                              refine op_value rfl (wanted_of (j := 14) rfl rfl rfl (by simp [hh])) (x_eq33 (x := .tmp 481) (y := .const (.int .i64 0)) (i := 0) (j := 0) rfl (by simp [Act.eval, hh]) rfl) ⟨by simp [Act.put, Act.eval, upd, hh], ?_⟩
                              exact hst
                          · as_aux_lemma =>
                              have hh := hcame
                              simp [Came, Region.binds] at hh
                              refine op_value rfl rfl (x_pickT (c := .tmp 480) (x := .tmp 482) (v := .bool true) rfl (by simp [Act.eval, hh]) (by simp [Act.eval, hh])) ⟨by simp [Act.put, Act.eval, upd, hh], ?_⟩
                              exact hst
                          · as_aux_lemma =>
                              have hh := hcame
                              simp [Came, Region.binds] at hh
                              refine op_value rfl rfl (x_assign (.inr rfl)) ⟨by simp [Act.put, Act.eval, upd, hh], ?_⟩
                              exact hst
                          · as_aux_lemma =>
                              have hh := hcame
                              simp [Came, Region.binds] at hh
                              refine op_value rfl (wanted_of (j := 18) rfl rfl rfl (by simp [hh])) (x_assign (.inr rfl)) ⟨by simp [Act.put, Act.eval, upd, hh], ?_⟩
                              exact hst
                          · as_aux_lemma =>
                              have hh := hcame
                              simp [Came, Region.binds] at hh
                              refine op_value rfl (wanted_of (j := 18) rfl rfl rfl (by simp [hh])) (x_eq3 (x := .tmp 485) (y := .const (.int .i64 0)) (i := 0) (j := 0) rfl (by simp [Act.eval, hh]) rfl) ⟨by simp [Act.put, Act.eval, upd, hh], ?_⟩
                              exact hst
                          · as_aux_lemma =>
                              have hh := hcame
                              simp [Came, Region.binds] at hh
                              refine op_value rfl rfl (x_pickT (c := .tmp 484) (x := .tmp 486) (v := .bool true) rfl (by simp [Act.eval, hh]) (by simp [Act.eval, hh])) ⟨by simp [Act.put, Act.eval, upd, hh], ?_⟩
                              exact hst
                          · as_aux_lemma =>
                              have hh := hcame
                              simp [Came, Region.binds] at hh
                              refine op_value rfl rfl (x_assign (.inr rfl)) ⟨by simp [Act.put, Act.eval, upd, hh], ?_⟩
                              exact hst
                          · as_aux_lemma =>
                              have hh := hcame
                              simp [Came, Region.binds] at hh
                              refine op_value rfl (wanted_of (j := 22) rfl rfl rfl (by simp [hh])) (x_assign (.inr rfl)) ⟨by simp [Act.put, Act.eval, upd, hh], ?_⟩
                              exact hst
                          · as_aux_lemma =>
                              have hh := hcame
                              simp [Came, Region.binds] at hh
                              refine op_value rfl (wanted_of (j := 22) rfl rfl rfl (by simp [hh])) (x_eq33 (x := .tmp 489) (y := .const (.int .i64 0)) (i := 0) (j := 0) rfl (by simp [Act.eval, hh]) rfl) ⟨by simp [Act.put, Act.eval, upd, hh], ?_⟩
                              exact hst
                          · as_aux_lemma =>
                              have hh := hcame
                              simp [Came, Region.binds] at hh
                              refine op_value rfl rfl (x_pickT (c := .tmp 488) (x := .tmp 490) (v := .bool true) rfl (by simp [Act.eval, hh]) (by simp [Act.eval, hh])) ⟨by simp [Act.put, Act.eval, upd, hh], ?_⟩
                              exact hst
                          · as_aux_lemma =>
                              have hh := hcame
                              simp [Came, Region.binds] at hh
                              refine op_value rfl rfl (x_assign (.inr rfl)) ⟨by simp [Act.put, Act.eval, upd, hh], ?_⟩
                              exact hst
                          · as_aux_lemma =>
                              have hh := hcame
                              simp [Came, Region.binds] at hh
                              refine op_value rfl (wanted_of (j := 26) rfl rfl rfl (by simp [hh])) (x_assign (.inr rfl)) ⟨by simp [Act.put, Act.eval, upd, hh], ?_⟩
                              exact hst
                          · as_aux_lemma =>
                              have hh := hcame
                              simp [Came, Region.binds] at hh
                              refine op_value rfl (wanted_of (j := 26) rfl rfl rfl (by simp [hh])) (x_eq3 (x := .tmp 493) (y := .const (.int .i64 2)) (i := 2) (j := 2) rfl (by simp [Act.eval, hh]) rfl) ⟨by simp [Act.put, Act.eval, upd, hh], ?_⟩
                              exact hst
                          · as_aux_lemma =>
                              have hh := hcame
                              simp [Came, Region.binds] at hh
                              refine op_value rfl rfl (x_pickT (c := .tmp 492) (x := .tmp 494) (v := .bool true) rfl (by simp [Act.eval, hh]) (by simp [Act.eval, hh])) ⟨by simp [Act.put, Act.eval, upd, hh], ?_⟩
                              exact hst
                          · as_aux_lemma =>
                              have hh := hcame
                              simp [Came, Region.binds] at hh
                              refine op_value rfl rfl (x_assign (.inr rfl)) ⟨by simp [Act.put, Act.eval, upd, hh], ?_⟩
                              exact hst
                          · as_aux_lemma =>
                              have hh := hcame
                              simp [Came, Region.binds] at hh
                              refine op_value rfl (wanted_of (j := 30) rfl rfl rfl (by simp [hh])) (x_assign (.inr rfl)) ⟨by simp [Act.put, Act.eval, upd, hh], ?_⟩
                              exact hst
                          · as_aux_lemma =>
                              have hh := hcame
                              simp [Came, Region.binds] at hh
                              refine op_value rfl (wanted_of (j := 30) rfl rfl rfl (by simp [hh])) (x_eq33 (x := .tmp 497) (y := .const (.int .i64 0)) (i := 0) (j := 0) rfl (by simp [Act.eval, hh]) rfl) ⟨by simp [Act.put, Act.eval, upd, hh], ?_⟩
                              exact hst
                          · as_aux_lemma =>
                              have hh := hcame
                              simp [Came, Region.binds] at hh
                              refine op_value rfl rfl (x_pickT (c := .tmp 496) (x := .tmp 498) (v := .bool true) rfl (by simp [Act.eval, hh]) (by simp [Act.eval, hh])) ⟨by simp [Act.put, Act.eval, upd, hh], ?_⟩
                              exact hst
                          · as_aux_lemma =>
                              have hh := hcame
                              simp [Came, Region.binds] at hh
                              refine op_value rfl rfl (x_assign (.inr rfl)) ⟨by simp [Act.put, Act.eval, upd, hh], ?_⟩
                              exact hst
                          · as_aux_lemma =>
                              have hh := hcame
                              simp [Came, Region.binds] at hh
                              refine op_value rfl (wanted_of (j := 34) rfl rfl rfl (by simp [hh])) (x_assign (.inr rfl)) ⟨by simp [Act.put, Act.eval, upd, hh], ?_⟩
                              exact hst
                          · as_aux_lemma =>
                              have hh := hcame
                              simp [Came, Region.binds] at hh
                              refine op_value rfl (wanted_of (j := 34) rfl rfl rfl (by simp [hh])) (x_not (x := .tmp 501) (b := false) rfl (by simp [Act.eval, hh])) ⟨by simp [Act.put, Act.eval, upd, hh], ?_⟩
                              exact hst
                          · as_aux_lemma =>
                              have hh := hcame
                              simp [Came, Region.binds] at hh
                              refine op_value rfl rfl (x_pickT (c := .tmp 500) (x := .tmp 502) (v := .bool true) rfl (by simp [Act.eval, hh]) (by simp [Act.eval, hh])) ⟨by simp [Act.put, Act.eval, upd, hh], ?_⟩
                              exact hst
                          · as_aux_lemma =>
                              have hh := hcame
                              simp [Came, Region.binds] at hh
                              refine op_value rfl rfl (x_assign (.inr rfl)) ⟨by simp [Act.put, Act.eval, upd, hh], ?_⟩
                              exact hst
                          · as_aux_lemma =>
                              have hh := hcame
                              simp [Came, Region.binds] at hh
                              refine op_value rfl (wanted_of (j := 38) rfl rfl rfl (by simp [hh])) (x_assign (.inr rfl)) ⟨by simp [Act.put, Act.eval, upd, hh], ?_⟩
                              exact hst
                          · as_aux_lemma =>
                              have hh := hcame
                              simp [Came, Region.binds] at hh
                              refine op_value rfl (wanted_of (j := 38) rfl rfl rfl (by simp [hh])) (x_eq33 (x := .tmp 505) (y := .const (.int .i64 0)) (i := 0) (j := 0) rfl (by simp [Act.eval, hh]) rfl) ⟨by simp [Act.put, Act.eval, upd, hh], ?_⟩
                              exact hst
                          · as_aux_lemma =>
                              have hh := hcame
                              simp [Came, Region.binds] at hh
                              refine op_value rfl rfl (x_pickT (c := .tmp 504) (x := .tmp 506) (v := .bool true) rfl (by simp [Act.eval, hh]) (by simp [Act.eval, hh])) ⟨by simp [Act.put, Act.eval, upd, hh], ?_⟩
                              exact hst
                          · as_aux_lemma =>
                              have hh := hcame
                              simp [Came, Region.binds] at hh
                              refine op_value rfl rfl (x_assign (.inr rfl)) ⟨by simp [Act.put, Act.eval, upd, hh], ?_⟩
                              exact hst
                          · as_aux_lemma =>
                              have hh := hcame
                              simp [Came, Region.binds] at hh
                              refine op_value rfl (wanted_of (j := 42) rfl rfl rfl (by simp [hh])) (x_assign (.inr rfl)) ⟨by simp [Act.put, Act.eval, upd, hh], ?_⟩
                              exact hst
                          · as_aux_lemma =>
                              have hh := hcame
                              simp [Came, Region.binds] at hh
                              refine op_value rfl (wanted_of (j := 42) rfl rfl rfl (by simp [hh])) (x_eq3 (x := .tmp 509) (y := .const (.int .i64 0)) (i := 0) (j := 0) rfl (by simp [Act.eval, hh]) rfl) ⟨by simp [Act.put, Act.eval, upd, hh], ?_⟩
                              exact hst
                          · as_aux_lemma =>
                              have hh := hcame
                              simp [Came, Region.binds] at hh
                              refine op_value rfl rfl (x_pickT (c := .tmp 508) (x := .tmp 510) (v := .bool true) rfl (by simp [Act.eval, hh]) (by simp [Act.eval, hh])) ⟨by simp [Act.put, Act.eval, upd, hh], ?_⟩
                              exact hst
                          · as_aux_lemma =>
                              have hh := hcame
                              simp [Came, Region.binds] at hh
                              refine op_value rfl rfl (x_assign (.inr rfl)) ⟨by simp [Act.put, Act.eval, upd, hh], ?_⟩
                              exact hst
                          · as_aux_lemma =>
                              have hh := hcame
                              simp [Came, Region.binds] at hh
                              refine op_value rfl (wanted_of (j := 46) rfl rfl rfl (by simp [hh])) (x_assign (.inr rfl)) ⟨by simp [Act.put, Act.eval, upd, hh], ?_⟩
                              exact hst
                          · as_aux_lemma =>
                              have hh := hcame
                              simp [Came, Region.binds] at hh
                              refine op_value rfl (wanted_of (j := 46) rfl rfl rfl (by simp [hh])) (x_eq33 (x := .tmp 513) (y := .const (.int .i64 0)) (i := 0) (j := 0) rfl (by simp [Act.eval, hh]) rfl) ⟨by simp [Act.put, Act.eval, upd, hh], ?_⟩
                              exact hst
                          · as_aux_lemma =>
                              have hh := hcame
                              simp [Came, Region.binds] at hh
                              refine op_value rfl rfl (x_pickT (c := .tmp 512) (x := .tmp 514) (v := .bool true) rfl (by simp [Act.eval, hh]) (by simp [Act.eval, hh])) ⟨by simp [Act.put, Act.eval, upd, hh], ?_⟩
                              exact hst
                          · as_aux_lemma =>
                              have hh := hcame
                              simp [Came, Region.binds] at hh
                              refine op_value rfl rfl (x_assign (.inr rfl)) ⟨by simp [Act.put, Act.eval, upd, hh], ?_⟩
                              exact hst
                          · as_aux_lemma =>
                              have hh := hcame
                              simp [Came, Region.binds] at hh
                              refine op_value rfl (wanted_of (j := 50) rfl rfl rfl (by simp [hh])) (x_assign (.inr rfl)) ⟨by simp [Act.put, Act.eval, upd, hh], ?_⟩
                              exact hst
                          · as_aux_lemma =>
                              have hh := hcame
                              simp [Came, Region.binds] at hh
                              refine op_value rfl (wanted_of (j := 50) rfl rfl rfl (by simp [hh])) (x_len28 (x := .tmp 517) (A := A121) (n := 0) (c := c121) rfl (by simp [Act.eval, hh])) ⟨by simp [Act.put, Act.eval, upd, hh], ?_⟩
                              exact hst
                          · as_aux_lemma =>
                              have hh := hcame
                              simp [Came, Region.binds] at hh
                              refine op_value rfl (wanted_of (j := 50) rfl rfl rfl (by simp [hh])) (x_eq3 (x := .tmp 518) (y := .const (.int .i64 0)) (i := 0) (j := 0) rfl (by simp [Act.eval, hh]) rfl) ⟨by simp [Act.put, Act.eval, upd, hh], ?_⟩
                              exact hst
                          · as_aux_lemma =>
                              have hh := hcame
                              simp [Came, Region.binds] at hh
                              refine op_value rfl rfl (x_pickT (c := .tmp 516) (x := .tmp 519) (v := .bool true) rfl (by simp [Act.eval, hh]) (by simp [Act.eval, hh])) ⟨by simp [Act.put, Act.eval, upd, hh], ?_⟩
                              exact hst
                          · as_aux_lemma =>
                              have hh := hcame
                              simp [Came, Region.binds] at hh
                              refine op_value rfl rfl (x_assign (.inr rfl)) ⟨by simp [Act.put, Act.eval, upd, hh], ?_⟩
                              exact hst
                          · as_aux_lemma =>
                              have hh := hcame
                              simp [Came, Region.binds] at hh
                              refine op_value rfl (wanted_of (j := 55) rfl rfl rfl (by simp [hh])) (x_assign (.inr rfl)) ⟨by simp [Act.put, Act.eval, upd, hh], ?_⟩
                              exact hst
                          · as_aux_lemma =>
                              have hh := hcame
                              simp [Came, Region.binds] at hh
                              refine op_value rfl (wanted_of (j := 55) rfl rfl rfl (by simp [hh])) (x_eq33 (x := .tmp 522) (y := .const (.int .i64 0)) (i := 0) (j := 0) rfl (by simp [Act.eval, hh]) rfl) ⟨by simp [Act.put, Act.eval, upd, hh], ?_⟩
                              exact hst
                          · as_aux_lemma =>
                              have hh := hcame
                              simp [Came, Region.binds] at hh
                              refine op_value rfl rfl (x_pickT (c := .tmp 521) (x := .tmp 523) (v := .bool true) rfl (by simp [Act.eval, hh]) (by simp [Act.eval, hh])) ⟨by simp [Act.put, Act.eval, upd, hh], ?_⟩
                              exact hst
                          · as_aux_lemma =>
                              have hh := hcame
                              simp [Came, Region.binds] at hh
                              refine op_value rfl rfl (x_assign (.inr rfl)) ⟨by simp [Act.put, Act.eval, upd, hh], ?_⟩
                              exact hst
                          · as_aux_lemma =>
                              have hh := hcame
                              simp [Came, Region.binds] at hh
                              refine op_value rfl (wanted_of (j := 59) rfl rfl rfl (by simp [hh])) (x_load (g := g127) rfl rfl hst.t1 Tryd.underlying39 rfl i39) ⟨by simp [Act.put, Act.eval, upd, hh], ?_⟩
                              exact hst
                          · as_aux_lemma =>
                              have hh := hcame
                              simp [Came, Region.binds] at hh
                              refine op_call rfl (wanted_of (j := 59) rfl rfl rfl (by simp [hh])) (run_call Tryd.func27 (by kernel_rfl) rfl rfl rfl (args := #[.int .i64 21, .int .i64 32]) (by simp [Act.eval, hh])) ((sp_calls 21 32 wq).mono ?_)
                              rintro e w5 ⟨rfl, hb5⟩
                              refine ⟨_, rfl, by simp [Act.put, upd, hh], ?_⟩
                              exact hst.on hb5
                          · as_aux_lemma =>
                              have hh := hcame
                              simp [Came, Region.binds] at hh
                              refine op_value rfl (wanted_of (j := 59) rfl rfl rfl (by simp [hh])) (x_eq39 (x := .tmp 526) (y := .tmp 527) (i := 21) (j := 32) (i' := 21) (j' := 32) rfl (by simp [Act.eval, hh]) (by simp [Act.eval, hh])) ⟨by simp [Act.put, Act.eval, upd, hh], ?_⟩
                              exact hst
                          · as_aux_lemma =>
                              have hh := hcame
                              simp [Came, Region.binds] at hh
                              refine op_value rfl rfl (x_pickT (c := .tmp 525) (x := .tmp 528) (v := .bool true) rfl (by simp [Act.eval, hh]) (by simp [Act.eval, hh])) ⟨by simp [Act.put, Act.eval, upd, hh], ?_⟩
                              exact hst
                          · as_aux_lemma =>
                              have hh := hcame
                              simp [Came, Region.binds] at hh
                              refine op_value rfl rfl (x_assign (.inr rfl)) ⟨by simp [Act.put, Act.eval, upd, hh], ?_⟩
                              exact hst
                          · as_aux_lemma =>
                              have hh := hcame
                              simp [Came, Region.binds] at hh
                              refine op_value rfl rfl (x_pickT (c := .tmp 530) (x := .const (.bool true)) (v := .bool true) rfl (by simp [Act.eval, hh]) rfl) ⟨by simp [Act.put, Act.eval, upd, hh], ?_⟩
                              exact hst
                          · as_aux_lemma =>
                              have hh := hcame
                              simp [Came, Region.binds] at hh
                              refine op_value rfl rfl (x_assign (.inr rfl)) ⟨by simp [Act.put, Act.eval, upd, hh], ?_⟩
                              exact hst
                          · as_aux_lemma =>
                              have hh := hcame
                              simp [Came, Region.binds] at hh
                              refine op_call rfl (wanted_of (j := 66) rfl rfl rfl (by simp [hh])) (run_call Tryd.func12 (by kernel_rfl) rfl rfl rfl (args := #[]) (by simp [Act.eval, hh])) ((rubbed_calls (HG.out.below hst.below)).mono ?_)
                              rintro e w5 ⟨rfl, hb5⟩
                              refine ⟨_, rfl, by simp [Act.put, upd, hh], ?_⟩
                              exact hst.on hb5
                          · as_aux_lemma =>
                              have hh := hcame
                              simp [Came, Region.binds] at hh
                              refine op_value rfl rfl (x_pickT (c := .tmp 532) (x := .tmp 533) (v := .bool true) rfl (by simp [Act.eval, hh]) (by simp [Act.eval, hh])) ⟨by simp [Act.put, Act.eval, upd, hh], ?_⟩
                              exact hst
                          · as_aux_lemma =>
                              have hh := hcame
                              simp [Came, Region.binds] at hh
                              refine op_value rfl rfl (x_assign (.inl rfl)) ⟨by simp [Act.put, Act.eval, upd, hh], ?_⟩
                              exact hst
                          · simp at hil; omega
                        · intro bb a wf hI hall
                          obtain ⟨rfl, hst⟩ := hI
                          refine hK _ _ ?_
                          simp only [hall 0 (by simp), hall 1 (by simp), hall 2 (by simp), hall 3 (by simp), hall 4 (by simp), hall 5 (by simp), hall 6 (by simp), hall 7 (by simp), hall 8 (by simp), hall 9 (by simp), hall 10 (by simp), hall 11 (by simp), hall 12 (by simp), hall 13 (by simp), hall 14 (by simp), hall 15 (by simp), hall 16 (by simp), hall 17 (by simp), hall 18 (by simp), hall 19 (by simp), hall 20 (by simp), hall 21 (by simp), hall 22 (by simp), hall 23 (by simp), hall 24 (by simp), hall 25 (by simp), hall 26 (by simp), hall 27 (by simp), hall 28 (by simp), hall 29 (by simp), hall 30 (by simp), hall 31 (by simp), hall 32 (by simp), hall 33 (by simp), hall 34 (by simp), hall 35 (by simp), hall 36 (by simp), hall 37 (by simp), hall 38 (by simp), hall 39 (by simp), hall 40 (by simp), hall 41 (by simp), hall 42 (by simp), hall 43 (by simp), hall 44 (by simp), hall 45 (by simp), hall 46 (by simp), hall 47 (by simp), hall 48 (by simp), hall 49 (by simp), hall 50 (by simp), hall 51 (by simp), hall 52 (by simp), hall 53 (by simp), hall 54 (by simp), hall 55 (by simp), hall 56 (by simp), hall 57 (by simp), hall 58 (by simp), hall 59 (by simp), hall 60 (by simp), hall 61 (by simp), hall 62 (by simp), hall 63 (by simp), hall 64 (by simp), hall 65 (by simp), hall 66 (by simp), hall 67 (by simp), hall 68 (by simp), hall 69 (by simp), if_true]
                          have HBx58 := Lib.hid hst.below
                          clear hall hK hst HB129 P130
                          go_wp2
                          go_ret
                          exact ⟨rfl, HBx58.out⟩
end Go.Proofs.YtghpoldlddghjaaDoor
namespace Go.Proofs.YtghpoldlddghjaaDoor.pasteKnown
open Go Go.ChangeShapes Go.WideShapes Go.ChangeAt Go.RowKit
open Go.Proofs.YtghpoldlddghjaaDoorW.PrintWords Go.Proofs.YtghpoldlddghjaaDoorW.PrintMore Go.Proofs.YtghpoldlddghjaaDoor.PPasteTrue
set_option maxRecDepth 100000 in
theorem contract (H : Type) (enc : TypeId × Value → H) (W : World) (base : Nat) (args : Array Value) (ds gs : List (DataW H)) (before : List MemPlace)
    (hval : ∀ (j : Nat) t v, Tryd.f9.params[j]? = some t → args[j]? = some v → Value.okWide Tryd.prog W .any base t v)
    (hW : DataW.Whole enc Tryd.prog Tryd.f9.params.toList Rows.pasteKnownSpec.vars false W args.toList ds gs before) (hL : laidMetH Tryd.prog Rows.pasteKnownRow.laid W) :
    Calls Tryd.prog 9 args W fun e W' => ∃ v, e = .returned v ∧ Rows.pasteKnownSpec.post enc Tryd.prog Tryd.f9 false true false false W args v W' := by
  have hW' := hW
  obtain ⟨p, q, hA0, hV, rfl, hfz, hnd⟩ := hW
  have hA : DataW.TrodAll enc Tryd.prog W 0 (fun _ => true) true Tryd.f9.params.toList args.toList ds p := hA0
  obtain ⟨rfl, rfl, rfl⟩ := trodAll_none hA
  obtain ⟨rfl, rfl⟩ := trodVars_none hV
  clear hA0 hval
  refine (pasteKnown_calls (asks_of_laid hL) ).mono fun e W' ⟨he, bel⟩ => ?_
  subst he
  exact ⟨_, rfl, _, _, _, [], _, [], hW', trodAll_mk1 (shut_bool Tryd.underlying4 _), trodAll_mk0, rfl, bel.frame _, fun h => by cases h⟩
theorem reads (os : Os) {H : Type} (enc : TypeId × Value → H) : ∃ places, DataW.whole enc Tryd.prog ((World.doorLaid Tryd.prog 600 os).forCall (fun _ _ => 0) ⟨#[], #[], []⟩).memory Tryd.f9.params.toList Rows.pasteKnownSpec.vars false (#[] : Array Value).toList 8 = some ([], [], places) :=
  ⟨[], by kernel_rfl⟩
set_option maxRecDepth 100000 in
theorem lifted (os : Os) (started : os.Started) (H : Type) (enc : TypeId × Value → H) (F : Stop.Interp) :
    ReturnsInHanded {} Tryd.checked os 9 .any ((OpenSpec.ofChange Rows.pasteKnownSpec).preRow enc Tryd.prog Tryd.f9 Rows.pasteKnownRow.domain false Rows.pasteKnownRow.laid) (((OpenSpec.ofChange Rows.pasteKnownSpec).at F).post enc Tryd.prog Tryd.f9 false true false false) := by
  obtain ⟨places, hx⟩ := reads os enc
  refine returnsInHanded_of_row (C := Tryd.checked) (s := OpenSpec.ofChange Rows.pasteKnownSpec) own started (by kernel_rfl) Tryd.func9
    (witness_row_atRef (enc := enc) (C := Tryd.checked) false (World.doorLaid Tryd.prog 600 os) #[] rfl (by kernel_rfl) (by kernel_rfl) (by kernel_rfl)
      (OpenSpec.preRow_of_cond 8 hx (by kernel_rfl) (fun k hk => by cases hk) (by kernel_rfl) (door_met os _))) ?_
  intro W base args ds gs before hval hW _ _ _ hL _ _
  exact contract H enc W base args ds gs before hval hW hL
theorem said : Rows.PasteKnownSaid :=
  OpenClaim.holds_of_cond 9 Tryd.f9 rfl rfl rfl rfl rfl rfl rfl ⟨rfl, rfl, rfl, rfl, rfl⟩ rfl rfl rfl rfl rfl (by kernel_rfl) Tryd.func9 (by kernel_rfl)
    (of_decide_eq_true (by kernel_rfl)) (by unfold Func.isWrapper; first | (rw [if_pos (by decide +kernel)]; kernel_rfl) | (rw [if_neg (by decide +kernel)]; exact ⟨rfl, rfl⟩))
    (fun os started H enc _ F => by rw [OpenClaim.pre_eq_preRow]; exact lifted os started H enc F)
theorem plain (f : FuncId) (fn : Func) (hf : Tryd.pinned.checked.prog.funcNamed "lucifer/luciferlaw02.PasteKnown" = some f) (hfn : Tryd.pinned.checked.prog.funcs[f]? = some fn) :
    false = Tryd.pinned.checked.prog.looks [] ∧ ∀ (j : Nat) t, fn.params[j]? = some t → Tryd.pinned.checked.prog.wantsStandIn t = false := by
  obtain rfl : f = 9 := Option.some.inj ((show Tryd.prog.funcNamed "lucifer/luciferlaw02.PasteKnown" = some 9 by kernel_rfl).symm.trans hf) |>.symm
  obtain rfl : fn = Tryd.f9 := (Option.some.inj (Tryd.func9.symm.trans hfn)).symm
  refine ⟨by kernel_rfl, fun j t ht => ?_⟩
  cases ht
theorem card : Rows.PasteKnownCardSaid :=
  Claim7.holds_tied_plain_at .later [] _ _ _ _ said (fun _ h => by cases h) (by kernel_rfl) (fun _ h => by cases h) pasteKnown_row_tie rfl ⟨rfl, rfl⟩ (by kernel_rfl) rfl plain (by kernel_rfl)
end Go.Proofs.YtghpoldlddghjaaDoor.pasteKnown
namespace Go.Proofs.YtghpoldlddghjaaDoor
theorem pasteKnown_card : Rows.PasteKnownCardSaid := pasteKnown.card
end Go.Proofs.YtghpoldlddghjaaDoor
