/- The walks of the inner functions of a book of paste: rubs, right, possible, power, amounts, opened. Conditions: a book whose numbers are in their bounds. -/
import Derived.Test.YtghpoldlddghjaaDoorMX
import Derived.Laws.Tables
import Derived.Deep.MidRow
import Derived.Lib.Hide
import Derived.Outline
import Derived.RangeFuncRecord
import Derived.Laws.IdiomRangeMap
import Derived.WalkMore
import Derived.Laws.Append
import Derived.ArgAppend
import Derived.IntWalk
import Derived.RangeFuncIn
import Derived.RangeFuncCalls
import Derived.TacticsIn
import Derived.Laws.EntriesVeiled
import Derived.RangeFuncLeaves
set_option linter.unusedVariables false
set_option linter.unusedSimpArgs false
namespace Go.Proofs.YtghpoldlddghjaaDoor
open Go Go.RowKit
open Go.Proofs.YtghpoldlddghjaaDoorW.PrintWords Go.Proofs.YtghpoldlddghjaaDoorW.PrintMore Go.Proofs.YtghpoldlddghjaaDoor.PPasteTrue
section
variable {P : Program} {ops : Array Oper} {rest : List Oper} {o : Oper} {a : Act} {w : World} {Q : Exit → Act → World → Prop}
theorem b_value (hgd : o.guard = none) {v : Value} {w1 : World} (hrun : (execOp a.eval o).run P w = .ok (.value v) w1) (h : wpList P ops Q rest (a.put o.dst v) w1) : wpList P ops Q (o :: rest) a w := by
  refine wpList_plain hgd fun K hK => ?_
  unfold Oper.wp
  rw [hrun]
  exact hK _ _ h
theorem b_skip (hgd : o.guard = none) {w1 : World} (hrun : (execOp a.eval o).run P w = .ok .skip w1) (h : wpList P ops Q rest (a.put o.dst undef) w1) : wpList P ops Q (o :: rest) a w := by
  refine wpList_plain hgd fun K hK => ?_
  unfold Oper.wp
  rw [hrun]
  exact hK _ _ h
theorem b_alloc (hgd : o.guard = none) {t : TypeId} {cs : Array Value} (ho : o.op = .alloc t) (hz : ∀ w, (zeroValue t).run P w = .ok (.agg cs) w)
    (h : wpList P ops Q rest (a.put o.dst (.pointer (some ⟨w.heap.size, 0, none⟩))) (w.alloc (.cells cs t))) : wpList P ops Q (o :: rest) a w := by
  refine b_value hgd ?_ h
  unfold execOp
  simp only [ho, Instr.alloc, Sem.run_bind, hz, Result.andThen_ok]
  rfl
theorem b_box (hgd : o.guard = none) {t : TypeId} {x : Operand} {cs : Array Value} (ho : o.op = .box t x) (hx : a.eval x = .agg cs)
    (h : wpList P ops Q rest (a.put o.dst (.pointer (some ⟨w.heap.size, 0, none⟩))) (w.alloc (.cells cs t))) : wpList P ops Q (o :: rest) a w := by
  refine b_value hgd ?_ h
  unfold execOp
  simp only [ho, hx]
  rfl
end
theorem heap_at (w : World) (o : Obj) (k : Nat) : (w.alloc o).heap[k]? = if k = w.heap.size then some o else w.heap[k]? := by
  show (w.heap.push o)[k]? = _
  rw [Array.getElem?_push]
theorem new_at {w : World} {o : Obj} {k : Nat} (h : k = w.heap.size) : (w.alloc o).heap[k]? = some o := by subst h; exact blk_new w o
def s39 (r : Int × Int) : Array Value := #[.int .i64 r.1, .int .i64 r.2]
theorem i113 : (Tryd.prog.info? 113).map (·.size) = some 518 := by kernel_rfl
theorem i111 : (Tryd.prog.info? 111).map (·.size) = some 512 := by kernel_rfl
theorem i39 : (Tryd.prog.info? 39).map (·.size) = some 2 := by kernel_rfl
theorem z111_size : Tryd.zeroCells111.size = 512 := by kernel_rfl
theorem z111_one : Tryd.zeroCells111.all (·.oneCell') = true := by kernel_rfl
structure Bk where
  salts : List S68
  pairs : List S77
  surfs : List S47
  need : Int
  trials : List S59
structure Hd where
  A0 : Option Addr
  c0 : Nat
  A1 : Option Addr
  c1 : Nat
  A2 : Option Addr
  c2 : Nat
  A4 : Option Addr
  c4 : Nat
def Hd.cells (h : Hd) (b : Bk) : Array Value := #[.slice h.A0 b.salts.length h.c0, .slice h.A1 b.pairs.length h.c1, .slice h.A2 b.surfs.length h.c2, .int .i64 b.need, .slice h.A4 b.trials.length h.c4]
structure BkIn (w : World) (h : Hd) (b : Bk) : Prop where
  r0 : Kd.C k68 w h.A0 b.salts.length b.salts
  r1 : Kd.C k77 w h.A1 b.pairs.length b.pairs
  r2 : Kd.C k47 w h.A2 b.surfs.length b.surfs
  r4 : Kd.C k59 w h.A4 b.trials.length b.trials
  l0 : b.salts.length ≤ h.c0
  l1 : b.pairs.length ≤ h.c1
  l2 : b.surfs.length ≤ h.c2
  l4 : b.trials.length ≤ h.c4
theorem BkIn.below {w w1 : World} {h : Hd} {b : Bk} (x : BkIn w h b) (hb : Below w.heap.size w w1) : BkIn w1 h b :=
  ⟨Kd.C_below x.r0 hb, Kd.C_below x.r1 hb, Kd.C_below x.r2 hb, Kd.C_below x.r4 hb, x.l0, x.l1, x.l2, x.l4⟩
structure IsBook (cs : Array Value) (h : Hd) (b : Bk) (all : Nat → Bool) : Prop where
  size : cs.size = 518
  c0 : cs[0]? = some (.slice h.A0 b.salts.length h.c0)
  c1 : cs[1]? = some (.slice h.A1 b.pairs.length h.c1)
  c2 : cs[2]? = some (.slice h.A2 b.surfs.length h.c2)
  c3 : cs[3]? = some (.int .i64 b.need)
  c4 : cs[4]? = some (.slice h.A4 b.trials.length h.c4)
  one : cs.all (·.oneCell') = true
  all : ∀ n, n < 512 → cs[6 + n]? = some (.bool (all n))
structure Small (b : Bk) : Prop where
  n0 : 0 ≤ b.need
  n1 : b.need ≤ 1000
  s : ∀ x ∈ b.surfs, 0 ≤ x.f0.f0 ∧ x.f0.f0 ≤ 1000 ∧ 0 ≤ x.f0.f1 ∧ x.f0.f1 ≤ 1000 ∧ 0 ≤ x.f1.f0 ∧ x.f1.f0 ≤ 1000 ∧ 0 ≤ x.f1.f1 ∧ x.f1.f1 ≤ 1000
theorem rd47_mem {xs : List S47} {i : Int} (h0 : 0 ≤ i) (h1 : i < xs.length) : rd_T47 xs i ∈ xs := by
  unfold rd_T47
  rw [List.getD_eq_getElem?_getD, List.getElem?_eq_getElem (by omega : i.toNat < xs.length)]
  exact List.getElem_mem _
end Go.Proofs.YtghpoldlddghjaaDoor
namespace Go.Proofs.YtghpoldlddghjaaDoor
open Go Go.RowKit
open Go.Proofs.YtghpoldlddghjaaDoorW.PrintWords Go.Proofs.YtghpoldlddghjaaDoorW.PrintMore Go.Proofs.YtghpoldlddghjaaDoor.PPasteTrue
def upd (b : Nat → Bool) (i : Nat) : Nat → Bool := fun j => if j = i then true else b j
def backw (ops : Array Oper) : Bool := (List.range ops.size).all fun i => ((ops[i]?).map fun o => o.after.all fun e => decide (e.on < i)).getD true
def Came (ops : Array Oper) (b : Nat → Bool) (i : Nat) : Prop := ((ops[i]?).map fun o => o.after.all fun e => !Region.binds .any e || b e.on).getD true = true
section
variable {P : Program} {ops : Array Oper} {Q : Exit → Act → World → Prop}
theorem wpOp_mono' {i : Nat} {K K' : Act → World → Prop} {a : Act} {w : World} (hk : ∀ a w, K a w → K' a w) (h : wpOp P ops Q i K a w) : wpOp P ops Q i K' a w := by
  unfold wpOp at h ⊢
  cases ho : ops[i]? with
  | none => rw [ho] at h; exact hk _ _ h
  | some o =>
    rw [ho] at h
    dsimp only at h ⊢
    split
    · rename_i hw
      rw [if_pos hw] at h
      exact h.imp (fun h => Oper.wp_mono hk h) id
    · rename_i hw
      rw [if_neg hw] at h
      exact hk _ _ h
theorem draw_inv_any (hback : backw ops = true) (I : (Nat → Bool) → Act → World → Prop)
    (hs : ∀ i, i < ops.size → ∀ b a w, I b a w → b i = false → Came ops b i → wpOp P ops Q i (I (upd b i)) a w)
    (he : ∀ b a w, I b a w → (∀ j, j < ops.size → b j = true) → Q .normal a w) :
    ∀ (fuel : Nat) (listed : Array Bool) (b : Nat → Bool) (a : Act) (w : World), listed.size = ops.size → (∀ j, j < ops.size → listed.getD j true = b j) → ((List.range ops.size).filter fun j => !b j).length = fuel → I b a w → wpAny P .any ops Q fuel listed a w := by
  intro fuel
  induction fuel with
  | zero =>
    intro listed b a w hsz hl hc hI
    have hall : ∀ j, j < ops.size → b j = true := by
      intro j hj
      cases hb : b j with
      | true => rfl
      | false =>
        have : j ∈ (List.range ops.size).filter fun j => !b j := List.mem_filter.2 ⟨List.mem_range.2 hj, by simp [hb]⟩
        rw [List.length_eq_zero_iff.1 hc] at this
        cases this
    refine ⟨?_, he b a w hI hall⟩
    unfold Region.ready
    rw [List.filter_eq_nil_iff]
    intro j hj
    rw [hl j (List.mem_range.1 hj), hall j (List.mem_range.1 hj)]
    simp
  | succ n ih =>
    intro listed b a w hsz hl hc hI
    refine ⟨fun hr => ?_, fun i hi => ?_⟩
    · exfalso
      -- the first one that has not come is ready
      have key : ∀ m, m ≤ ops.size → (∀ j, j < m → b j = true) := by
        intro m
        induction m with
        | zero => intro _ j hj; omega
        | succ m ihm =>
          intro hm j hj
          rcases Nat.lt_or_eq_of_le (Nat.le_of_lt_succ hj) with h | rfl
          · exact ihm (by omega) j h
          · cases hb : b j with
            | true => rfl
            | false =>
              have hmem : j ∈ Region.ready .any ops listed := by
                unfold Region.ready
                refine List.mem_filter.2 ⟨List.mem_range.2 (by omega), ?_⟩
                rw [hl j (by omega), hb]
                have hb1 := List.all_eq_true.1 hback j (List.mem_range.2 (by omega))
                have ho : ops[j]? = some ops[j] := Array.getElem?_eq_getElem (by omega)
                rw [ho] at hb1 ⊢
                simp only [Option.map_some, Option.getD_some, Bool.not_false, Bool.true_and] at hb1 ⊢
                rw [Array.all_eq_true_iff_forall_mem] at hb1 ⊢
                intro e hem
                have h1 := of_decide_eq_true (hb1 e hem)
                have h2 := ihm (by omega) e.on h1
                have h3 := hl e.on (by omega)
                have h4 : listed.getD e.on false = listed.getD e.on true := by
                  simp only [Array.getD_eq_getD_getElem?, Array.getElem?_eq_getElem (show e.on < listed.size by omega), Option.getD_some]
                rw [h4, h3, h2]
                simp
              rw [hr] at hmem
              cases hmem
      have hall := key ops.size (Nat.le_refl _)
      have : ((List.range ops.size).filter fun j => !b j) = [] := by
        rw [List.filter_eq_nil_iff]
        intro j hj
        simp [hall j (List.mem_range.1 hj)]
      rw [this] at hc
      simp at hc
    · unfold Region.ready at hi
      obtain ⟨h1, h2⟩ := List.mem_filter.1 hi
      have hlt := List.mem_range.1 h1
      rw [Bool.and_eq_true] at h2
      have hbi : b i = false := by
        have := h2.1
        rw [hl i hlt] at this
        simpa using this
      have hcame : Came ops b i := by
        unfold Came
        have h3 := h2.2
        have ho : ops[i]? = some ops[i] := Array.getElem?_eq_getElem hlt
        have hb1 := List.all_eq_true.1 hback i h1
        rw [ho] at h3 hb1 ⊢
        simp only [Option.map_some, Option.getD_some] at h3 hb1 ⊢
        rw [Array.all_eq_true_iff_forall_mem] at h3 hb1 ⊢
        intro e hem
        have h4 := h3 e hem
        have h5 := of_decide_eq_true (hb1 e hem)
        have h6 : listed.getD e.on false = listed.getD e.on true := by
          simp only [Array.getD_eq_getD_getElem?, Array.getElem?_eq_getElem (show e.on < listed.size by omega), Option.getD_some]
        rw [h6, hl e.on (by omega)] at h4
        exact h4
      refine wpOp_mono' ?_ (hs i hlt b a w hI hbi hcame)
      intro a' w' hI'
      refine ih _ (upd b i) a' w' (by simpa using hsz) ?_ ?_ hI'
      · intro j hj
        unfold upd
        by_cases e : j = i
        · subst e
          simp [Array.getD_eq_getD_getElem?, hsz, hlt]
        · rw [if_neg e, ← hl j hj]
          simp only [Array.getD_eq_getD_getElem?, Array.getElem?_setIfInBounds]
          rw [if_neg (fun h => e h.symm)]
      · have hcount : ∀ (l : List Nat), l.Nodup → i ∈ l → (l.filter fun j => !upd b i j).length + 1 = (l.filter fun j => !b j).length := by
          intro l
          induction l with
          | nil => intro _ h; cases h
          | cons x r ihr =>
            intro hn hm
            rw [List.nodup_cons] at hn
            rcases List.mem_cons.1 hm with rfl | hm
            · have h1 : (r.filter fun j => !upd b i j) = r.filter fun j => !b j := by
                refine List.filter_congr (fun j hj => ?_)
                have : j ≠ i := fun e => hn.1 (by rw [← e]; exact hj)
                simp [upd, this]
              rw [List.filter_cons, List.filter_cons]
              rw [h1]
              simp [upd, hbi]
            · have hxi : x ≠ i := fun e => hn.1 (e ▸ hm)
              have h1 := ihr hn.2 hm
              have h2 : upd b i x = b x := by simp [upd, hxi]
              rw [List.filter_cons, List.filter_cons, h2]
              cases hbx : b x
              · simp only [Bool.not_false, if_true, List.length_cons]
                omega
              · simpa using h1
        have := hcount (List.range ops.size) List.nodup_range (List.mem_range.2 hlt)
        omega
theorem draw_inv {id : Nat} {a : Act} {w : World} (hm : P.follows .mixedOrders = true) (hback : backw ops = true) (I : (Nat → Bool) → Act → World → Prop) (h0 : I (fun _ => false) a w.drew)
    (hs : ∀ i, i < ops.size → ∀ b a w, I b a w → b i = false → Came ops b i → wpOp P ops Q i (I (upd b i)) a w)
    (he : ∀ b a w, I b a w → (∀ j, j < ops.size → b j = true) → Q .normal a w) : (Code.region id ops true).wp P Q a w := by
  refine wp_region_any hm (draw_inv_any hback I hs he ops.size _ (fun _ => false) a _ (by simp) ?_ (by rw [List.filter_eq_self.2 (by simp)]; simp) h0)
  intro j hj
  simp [Array.getD_eq_getD_getElem?, hj]
variable {i : Nat} {o : Oper} {K : Act → World → Prop} {a : Act} {w w1 : World}
theorem op_value (ho : ops[i]? = some o) (hw : Region.wanted o (yielded ops a.tmps) = true) {v : Value} (hrun : (execOp a.eval o).run P w = .ok (.value v) w1) (h : K (a.put o.dst v) w1) : wpOp P ops Q i K a w := by
  unfold wpOp
  rw [ho]
  dsimp only
  rw [if_pos hw]
  refine Or.inl ?_
  unfold Oper.wp
  rw [hrun]
  exact h
theorem op_skip (ho : ops[i]? = some o) (hw : Region.wanted o (yielded ops a.tmps) = true) (hrun : (execOp a.eval o).run P w = .ok .skip w1) (h : K (a.put o.dst undef) w1) : wpOp P ops Q i K a w := by
  unfold wpOp
  rw [ho]
  dsimp only
  rw [if_pos hw]
  refine Or.inl ?_
  unfold Oper.wp
  rw [hrun]
  exact h
theorem op_pass (ho : ops[i]? = some o) (hw : Region.wanted o (yielded ops a.tmps) = false) (h : K (a.put o.dst undef) w) : wpOp P ops Q i K a w := by
  unfold wpOp
  rw [ho]
  dsimp only
  rw [if_neg (by simp [hw])]
  exact h
theorem op_call (ho : ops[i]? = some o) (hw : Region.wanted o (yielded ops a.tmps) = true) {f : FuncId} {args : Array Value} (hrun : (execOp a.eval o).run P w = .ok (.enter f args) w1)
    (h : Calls P f args w1 fun e w2 => ∃ v, e = .returned v ∧ K (a.put o.dst v) w2) : wpOp P ops Q i K a w := by
  unfold wpOp
  rw [ho]
  dsimp only
  rw [if_pos hw]
  refine Or.inl ?_
  unfold Oper.wp
  rw [hrun, Oper.upon_enter]
  refine h.mono fun e w'' hh => ?_
  obtain ⟨v, rfl, hk⟩ := hh
  exact hk
theorem run_call {ρ : Operand → Value} {f : FuncId} {fn : Func} {g : Operand} {xs : Array Operand} {ts : Array TypeId} {first captured : Array Value} (hf : P.funcs[f]? = some fn) (hname : (fn.name == "runtime.NumGoroutine") = false) (hb : fn.body.isSome = true)
    (hop : o.op = .call { callee := .value g, args := xs, argTypes := ts }) (hg : ρ g = .func (.func f) first captured) {args : Array Value} (hargs : first ++ xs.map ρ ++ captured = args) :
    (execOp ρ o).run P w = .ok (.enter f args) w := by
  subst hargs
  have h1 : fn.name ≠ "runtime.NumGoroutine" := by simpa using hname
  obtain ⟨c, hc⟩ := Option.isSome_iff_exists.1 hb
  unfold execOp
  simp [hop, resolve, Deferred.ofValue, invoke, hg, callFunc, hf, h1, hc]
end
theorem b_call {P : Program} {ops : Array Oper} {Q : Exit → Act → World → Prop} {rest : List Oper} {o : Oper} {a : Act} {w w1 : World} (hgd : o.guard = none) {f : FuncId} {args : Array Value} (hrun : (execOp a.eval o).run P w = .ok (.enter f args) w1)
    (h : Calls P f args w1 fun e w2 => ∃ v, e = .returned v ∧ wpList P ops Q rest (a.put o.dst v) w2) : wpList P ops Q (o :: rest) a w := by
  refine wpList_plain hgd fun K hK => ?_
  unfold Oper.wp
  rw [hrun, Oper.upon_enter]
  refine h.mono fun e w'' hh => ?_
  obtain ⟨v, rfl, hk⟩ := hh
  exact hK _ _ hk
theorem res_cell_tmp {P : Program} {fn : Func} {p u : Tmp} {ty : TypeId} (h : fn.results = #[.cell p ty, .tmp u]) (tmps : Array Value) (w : World) (g : Nat) (t : TypeId) (cs : Array Value) (fr : Nat × Nat) (d : TypeDesc)
    (hp : tmps.getD p undef = .pointer (some ⟨g, 0, none⟩)) (hg : w.heap[g]? = some (.cells cs t fr))
    (hu : P.underlying ty = some d) (hd : (match d with | .struct _ | .array _ _ => true | _ => false) = true) (hi : (P.info? ty).map (·.size) = some cs.size) :
    (results fn tmps).run P w = .ok (.tuple #[.agg cs, tmps.getD u undef]) w := by
  have hp' : tmps[p]?.getD undef = .pointer (some ⟨g, 0, none⟩) := by simpa using hp
  simp [results, h, hp', asAddr, run_loadVar_row w g t ty cs fr d hg hu hd hi]
section
variable {P : Program} {o : Oper} {ρ : Operand → Value} {w : World}
theorem x_alloc {t : TypeId} {cs : Array Value} (ho : o.op = .alloc t) (hz : ∀ w, (zeroValue t).run P w = .ok (.agg cs) w) :
    (execOp ρ o).run P w = .ok (.value (.pointer (some ⟨w.heap.size, 0, none⟩))) (w.alloc (.cells cs t)) := by
  unfold execOp
  simp only [ho, Instr.alloc, Sem.run_bind, hz, Result.andThen_ok]
  rfl
theorem x_box {t : TypeId} {x : Operand} {cs : Array Value} (ho : o.op = .box t x) (hx : ρ x = .agg cs) :
    (execOp ρ o).run P w = .ok (.value (.pointer (some ⟨w.heap.size, 0, none⟩))) (w.alloc (.cells cs t)) := by
  unfold execOp
  simp only [ho, hx]
  rfl
theorem x_load {ty : TypeId} {x : Operand} (ho : o.op = .load ty x) {g : Nat} (hx : ρ x = .pointer (some ⟨g, 0, none⟩)) {t : TypeId} {cs : Array Value} {fr : Nat × Nat} {d : TypeDesc} (hg : w.heap[g]? = some (.cells cs t fr))
    (hu : P.underlying ty = some d) (hd : (match d with | .struct _ | .array _ _ => true | _ => false) = true) (hi : (P.info? ty).map (·.size) = some cs.size) : (execOp ρ o).run P w = .ok (.value (.agg cs)) w := by
  unfold execOp
  simp only [ho, hx, Instr.loadAt, Instr.sureAddr, Sem.run_bind, Sem.run_pure, Result.andThen_ok, run_loadVar_row w g t ty cs fr d hg hu hd hi]
theorem x_store {ty : TypeId} {x y : Operand} (ho : o.op = .store ty x y) {g : Nat} {cells : Array Value} (hx : ρ x = .pointer (some ⟨g, 0, none⟩)) (hy : ρ y = .agg cells) {t : TypeId} {old : Array Value}
    (hg : w.heap[g]? = some (.cells old t (0, 0))) (hi : (P.info? ty).map (·.size) = some cells.size) (hold : old.size = cells.size) (h1 : cells.all (·.oneCell') = true) : (execOp ρ o).run P w = .ok .skip (w.setRow g cells) := by
  unfold execOp
  simp only [ho, hx, hy, Instr.storeAt, Instr.sureAddr, Sem.run_bind, Sem.run_pure, Result.andThen_ok, run_storeVar_row w g t ty old cells hg hi hold h1]
theorem x_assign {x : Operand} (ho : o.op = .assign x ∨ o.op = .move x) : (execOp ρ o).run P w = .ok (.value (ρ x)) w := by
  unfold execOp
  rcases ho with ho | ho <;> rw [ho] <;> rfl
theorem x_index {t : TypeId} {x y : Operand} (ho : o.op = .index t x y) {u i v : Value} (hx : ρ x = u) (hy : ρ y = i) (h : (Instr.index t u i).run P w = .ok v w) : (execOp ρ o).run P w = .ok (.value v) w := by
  unfold execOp
  simp only [ho, hx, hy, Sem.run_bind, h, Result.andThen_ok]
  rfl
theorem x_func {f : Fn} {first captured : Array Operand} (ho : o.op = .makeFunc f first captured) : (execOp ρ o).run P w = .ok (.value (.func f (first.map ρ) (captured.map ρ))) w := by
  unfold execOp
  rw [ho]
  rfl
end
theorem mixed : Tryd.prog.follows .mixedOrders = true := by kernel_rfl
def allL (f : Nat → Bool) : List Value := (List.range 512).map fun n => .bool (f n)
def allA (f : Nat → Bool) : Array Value := (allL f).toArray
theorem allL_length (f : Nat → Bool) : (allL f).length = 512 := by simp [allL]
theorem allA_size (f : Nat → Bool) : (allA f).size = 512 := by simp [allA, allL]
theorem allA_get (f : Nat → Bool) (n : Nat) (h : n < 512) : (allA f)[n]? = some (.bool (f n)) := by simp [allA, allL, h]
theorem allA_one (f : Nat → Bool) : (allA f).all (·.oneCell') = true := by
  rw [Array.all_eq_true_iff_forall_mem]
  intro v hv
  simp only [allA, allL, List.mem_toArray, List.mem_map] at hv
  obtain ⟨n, _, rfl⟩ := hv
  rfl
theorem allA_i (f : Nat → Bool) : (Tryd.prog.info? 111).map (·.size) = some (allA f).size := by rw [allA_size]; exact i111
theorem allA_set (f : Nat → Bool) (n : Nat) (v : Bool) : (allA f).setIfInBounds n (.bool v) = allA (fun j => if j = n then v else f j) := by
  apply Array.ext_getElem?
  intro j
  rw [Array.getElem?_setIfInBounds]
  by_cases e : n = j
  · subst e
    by_cases h : n < 512
    · rw [if_pos rfl, if_pos (by rw [allA_size]; exact h), allA_get _ _ h, if_pos rfl]
    · rw [if_pos rfl, if_neg (by rw [allA_size]; exact h), Array.getElem?_eq_none (by rw [allA_size]; omega)]
  · rw [if_neg e]
    by_cases h : j < 512
    · rw [allA_get _ _ h, allA_get _ _ h, if_neg (fun h => e h.symm)]
    · rw [Array.getElem?_eq_none (by rw [allA_size]; omega), Array.getElem?_eq_none (by rw [allA_size]; omega)]
theorem allA_congr {f g : Nat → Bool} (h : ∀ n, n < 512 → f n = g n) : allA f = allA g := by
  have h1 : allL f = allL g := by
    unfold allL
    exact List.map_congr_left (fun n hn => by rw [h n (List.mem_range.1 hn)])
  unfold allA
  rw [h1]
set_option maxRecDepth 100000 in
theorem z111_eq : Tryd.zeroCells111 = allA (fun _ => false) := by kernel_rfl
theorem allA_index (f : Nat → Bool) (n : Nat) (h : n < 512) (w : World) : (Instr.index 111 (.agg (allA f)) (.int .i64 n)).run Tryd.prog w = .ok (.bool (f n)) w := by
  have h1 : (0 : Int) ≤ (n : Int) ∧ (n : Int) < ((512 : Nat) : Int) := by omega
  have hp : (part 4 (allA f) n).run Tryd.prog w = .ok (.bool (f n)) w := by
    unfold part
    rw [Sem.run_bind, Tryd.isAgg4]
    simp [allA_get f n h]
  unfold Instr.index
  simp only [asIntOf, Sem.run_bind, Sem.run_pure, Result.andThen_ok, run_underlying Tryd.underlying111]
  rw [if_pos h1]
  simp only [Sem.run_bind, Tryd.sizeOf4, Result.andThen_ok, Int.toNat_natCast, Nat.mul_one]
  exact hp
end Go.Proofs.YtghpoldlddghjaaDoor
namespace Go.Proofs.YtghpoldlddghjaaDoor
open Go Go.RowKit
open Go.Proofs.YtghpoldlddghjaaDoorW.PrintWords Go.Proofs.YtghpoldlddghjaaDoorW.PrintMore Go.Proofs.YtghpoldlddghjaaDoor.PPasteTrue
abbrev keyV (x y : Int) : Value := .agg #[.int .i64 x, .int .i64 y]
theorem eq129 (x0 x1 y0 y1 : Int) (w : World) : (Op.equal 129 (keyV x0 x1) (keyV y0 y1)).run Tryd.prog w = .ok (x0 == y0 && (x1 == y1)) w := by
  unfold Op.equal
  exact eqA129 9998 w x0 y0 x1 y1
theorem checkKey129 (em : Bool) (x y : Int) (w : World) : (Instr.checkKey em 10000 129 (keyV x y)).run Tryd.prog w = .ok () w := by
  have h3 : ∀ n z, (Instr.checkKey em (n + 1) 3 (.int .i64 z)).run Tryd.prog w = .ok () w := by
    intro n z
    simp [Instr.checkKey, run_underlying Tryd.underlying3]
  rw [show (10000 : Nat) = (9998 + 1) + 1 from rfl]
  unfold Instr.checkKey
  simp only [Sem.run_bind, run_underlying Tryd.underlying129, Result.andThen_ok]
  simp [part, Tryd.isAgg3, h3]
def Others (x y : Int) (l : List MapEntry) : Prop := ∀ e ∈ l, ∃ p q, e.key = keyV p q ∧ ¬ (x = p ∧ y = q)
theorem findAsking_none {x y : Int} (w : World) : ∀ (l : List MapEntry) (i : Nat), Others x y l → (Instr.findAsking 129 (keyV x y) l i).run Tryd.prog w = .ok none w
  | [], _, _ => by simp [Instr.findAsking]
  | e :: l, i, h => by
    obtain ⟨p, q, hk, hne⟩ := h e (by simp)
    have hb : (x == p && (y == q)) = false := by
      rw [Bool.eq_false_iff]
      intro hb
      simp at hb
      exact hne hb
    simp only [Instr.findAsking, Sem.run_bind, hk, eq129, hb, Result.andThen_ok, Bool.false_eq_true, if_false]
    exact findAsking_none w l (i + 1) (fun e' he' => h e' (by simp [he']))
theorem findAsking_last {x y : Int} (w : World) (e : MapEntry) (he : e.key = keyV x y) : ∀ (l : List MapEntry) (i : Nat), Others x y l → (Instr.findAsking 129 (keyV x y) (l ++ [e]) i).run Tryd.prog w = .ok (some (i + l.length, e.val)) w
  | [], i, _ => by simp [Instr.findAsking, he, eq129]
  | e' :: l, i, h => by
    obtain ⟨p, q, hk, hne⟩ := h e' (by simp)
    have hb : (x == p && (y == q)) = false := by
      rw [Bool.eq_false_iff]
      intro hb
      simp at hb
      exact hne hb
    rw [List.cons_append]
    simp only [Instr.findAsking, Sem.run_bind, hk, eq129, hb, Result.andThen_ok, Bool.false_eq_true, if_false]
    rw [findAsking_last w e he l (i + 1) (fun e'' he'' => h e'' (by simp [he''])), List.length_cons]
    congr 3
    omega
theorem findKey_ask {x y : Int} (w : World) {l : List MapEntry} {r : Option (Nat × Value)} (h : (Instr.findAsking 129 (keyV x y) l 0).run Tryd.prog w = .ok r w) : (Instr.findKey 129 (keyV x y) l).run Tryd.prog w = .ok r w := by
  unfold Instr.findKey
  simp only [Sem.run_bind, run_underlying Tryd.underlying129, Result.andThen_ok]
  cases l with
  | nil => simpa [Instr.findNow, Instr.findAsking] using h
  | cons e l =>
    have : Instr.findNow Tryd.prog.types[0]!.desc (keyV x y) [] 0 = some none := rfl
    simp only [Instr.findNow, Instr.sameNow]
    exact h
theorem run_lookup_none {x y : Int} {w : World} {r : Nat} {es : Array MapEntry} {c : Nat} (hr : w.heap[r]? = some (.map es c)) (ho : Others x y es.toList) :
    (Instr.lookup 109 (.map (some r)) (keyV x y) false).run Tryd.prog w = .ok (.int .i64 0) w := by
  have h1 := findKey_ask w (findAsking_none w _ 0 ho)
  unfold Instr.lookup
  simp only [Sem.run_bind, run_underlying Tryd.underlying109, Result.andThen_ok, getObj, Sem.run, hr, checkKey129, Sem.run_pure]
  rw [h1]
  simp [Tryd.zeroValue3]
theorem run_lookup_last {x y : Int} {w : World} {r : Nat} {es : Array MapEntry} {c : Nat} {e : MapEntry} (hr : w.heap[r]? = some (.map (es.push e) c)) (he : e.key = keyV x y) (ho : Others x y es.toList) :
    (Instr.lookup 109 (.map (some r)) (keyV x y) false).run Tryd.prog w = .ok e.val w := by
  have h1 := findKey_ask w (findAsking_last w e he es.toList 0 ho)
  unfold Instr.lookup
  simp only [Sem.run_bind, run_underlying Tryd.underlying109, Result.andThen_ok, getObj, Sem.run, hr, checkKey129, Sem.run_pure, Result.andThen_ok]
  rw [Array.toList_push, h1]
  simp
theorem run_mapEntry {x y : Int} {w : World} {r : Nat} {es : Array MapEntry} {c : Nat} (hr : w.heap[r]? = some (.map es c)) (ho : Others x y es.toList) :
    (Instr.mapEntry 109 (.map (some r)) (keyV x y)).run Tryd.prog w = .ok (.tuple #[.int .i64 0, .int .i64 c]) (w.putObj r (.map (es.push { key := keyV x y, val := .int .i64 0, born := c }) (c + 1))) := by
  have h1 := findKey_ask w (findAsking_none w _ 0 ho)
  unfold Instr.mapEntry
  simp only [Sem.run_bind, run_underlying Tryd.underlying109, Result.andThen_ok, getObj, Sem.run, hr, checkKey129]
  rw [h1]
  simp only [Sem.run_bind, Tryd.zeroValue3, Result.andThen_ok, setObj, Sem.run, hr]
  rfl
theorem run_entryStore {w : World} {r : Nat} {es : Array MapEntry} {c cl : Nat} {k v v' : Value} (hr : w.heap[r]? = some (.map (es.push { key := k, val := v, born := c }) cl)) (hb : ∀ e ∈ es.toList, e.born ≠ c) :
    (Instr.entryStore 109 (.map (some r)) (.int .i64 c) v').run Tryd.prog w = .ok () (w.putObj r (.map (es.push { key := k, val := v', born := c }) cl)) := by
  have hf : (es.push { key := k, val := v, born := c }).findIdx? (fun e => (e.born : Int) == (c : Int)) = some es.size := by
    rw [Array.findIdx?_push]
    have : es.findIdx? (fun e => (e.born : Int) == (c : Int)) = none := by
      rw [Array.findIdx?_eq_none_iff]
      intro e he
      have := hb e (by simpa using he)
      simp
      omega
    rw [this]
    simp
  have hm : (es.push { key := k, val := v, born := c }).modify es.size (fun e => { e with val := v' }) = es.push { key := k, val := v', born := c } := by
    apply Array.ext_getElem?
    intro i
    rw [Array.getElem?_modify]
    by_cases h : es.size = i
    · subst h; simp
    · rw [if_neg h, Array.getElem?_push, Array.getElem?_push]
      rw [if_neg (fun h' => h h'.symm), if_neg (fun h' => h h'.symm)]
  unfold Instr.entryStore
  simp only [Sem.run_bind, Result.andThen_ok, getObj, Sem.run, hr, asInt, asIntOf, Sem.run_pure]
  rw [hf]
  simp only [hm, setObj, Sem.run, hr]
  rfl
theorem run_range' {w : World} {bm : Nat} {es : Array MapEntry} {clock : Nat} (hb : w.heap[bm]? = some (.map es clock)) :
    (Instr.range 109 (.map (some bm))).run Tryd.prog w = .ok (.pointer (some ⟨w.heap.size, 0, none⟩)) (w.alloc (.mapIter (some bm) clock #[] clock)) :=
  run_range_map w 109 129 3 bm es clock Tryd.underlying109 hb
theorem run_next' {w : World} (ty : TypeId) {r bm since c0 : Nat} {seen : Array Nat} {es : Array MapEntry} {clock : Nat} (hr : w.heap[r]? = some (.mapIter (some bm) since seen c0)) (hb : w.heap[bm]? = some (.map es clock))
    (hold : ∀ x ∈ es.toList, x.born < since) (hsc : since ≤ c0) :
    ((leftOf es seen).size = 0 ∧ (Instr.next (.pointer (some ⟨r, 0, none⟩)) false ty).run Tryd.prog w = .ok (.tuple #[.bool false]) w) ∨
    ∃ e ∈ (leftOf es seen).toList, ∃ nd : Nat, (Instr.next (.pointer (some ⟨r, 0, none⟩)) false ty).run Tryd.prog w = .ok (.tuple #[.bool true, e.key, e.val]) ((w.drewN nd).putObj r (.mapIter (some bm) since (seen.push e.born) clock)) := by
  simp only [Instr.next, getObj, Sem.run_bind, Sem.run, hr, hb, Sem.run_pure, Result.andThen_ok, next_test_false seen es since c0 hold hsc, Bool.false_eq_true, if_false]
  unfold leftOf
  have hmem : ∀ x ∈ (Array.filter (fun e => !seen.contains e.born) es).toList, x.born < since := fun x hx => hold x (by simp at hx ⊢; exact hx.1)
  generalize Array.filter (fun e => !seen.contains e.born) es = L at hmem ⊢
  have e1 : L.filter (fun x => decide (x.born < since)) = L := Array.filter_eq_self.2 (fun x hx => by simpa using hmem x (by simpa using hx))
  have e2 : L.filter (fun x => decide (x.born ≥ since)) = #[] := by
    rw [Array.filter_eq_empty_iff]
    intro x hx
    have := hmem x (by simpa using hx)
    simp
    omega
  simp only [e1, e2, Array.append_empty]
  by_cases h0 : L.size = 0
  · left
    have : L = #[] := Array.eq_empty_of_size_eq_zero h0
    subst this
    refine ⟨rfl, ?_⟩
    simp [choose, Sem.run, Question.forced]
  · right
    have hne : L.isEmpty = false := by simp [Array.isEmpty, h0]
    simp only [hne, Bool.false_eq_true, if_false, Array.empty_append, Array.size_map]
    have hch : ∃ (j nd : Nat), j < L.size ∧ (choose (Question.mapNext L.size)).run Tryd.prog w = .ok j (w.drewN nd) := by
      by_cases hf : L.size ≤ 1
      · exact ⟨0, 0, by omega, by simp [choose, Sem.run, Question.forced, hf]; rfl⟩
      · exact ⟨_, 1, Nat.mod_lt _ (by omega), by
          simp only [choose, Sem.run, Question.forced, decide_eq_true_eq, hf, if_false, Question.cut]
          rfl⟩
    obtain ⟨j, nd, hj, hrun⟩ := hch
    refine ⟨L[j], by simp, nd, ?_⟩
    simp only [hrun, Array.getElem?_map, Array.getElem?_eq_getElem hj, Option.map_some, Sem.run_bind, Result.andThen_ok, setObj, Sem.run]
    have hr' : (w.drewN nd).heap[r]? = some (.mapIter (some bm) since seen c0) := hr
    rw [hr']
    rfl
theorem run_entry' {w : World} {r bm since : Nat} {seen : Array Nat} {es : Array MapEntry} {clock : Nat} {e : MapEntry} (hr : w.heap[r]? = some (.mapIter (some bm) since (seen.push e.born) clock)) (hb : w.heap[bm]? = some (.map es clock))
    (he : e ∈ es.toList) (hn : (es.toList.map (·.born)).Nodup) : (Instr.entry (.pointer (some ⟨r, 0, none⟩))).run Tryd.prog w = .ok (.tuple #[e.key, e.val]) w := by
  have hf : es.find? (·.born == e.born) = some e := by rw [← Array.find?_toList]; exact find_born e es.toList hn he
  simp only [Instr.entry, getObj, Sem.run_bind, Sem.run, hr, hb, Sem.run_pure, Result.andThen_ok, Array.back?_push, bne_self_eq_false, Bool.false_eq_true, if_false]
  rw [hf]
  rfl
end Go.Proofs.YtghpoldlddghjaaDoor
namespace Go.Proofs.YtghpoldlddghjaaDoor
open Go Go.RowKit
open Go.Proofs.YtghpoldlddghjaaDoorW.PrintWords Go.Proofs.YtghpoldlddghjaaDoorW.PrintMore Go.Proofs.YtghpoldlddghjaaDoor.PPasteTrue
theorem take_sum (xs : List Int) (k : Nat) (h : k < xs.length) : (xs.take (k + 1)).sum = (xs.take k).sum + rd xs k := by
  rw [List.take_succ_eq_append_getElem h, List.sum_append]
  simp [rd, List.getD_eq_getElem?_getD, List.getElem?_eq_getElem h]
theorem sum_bound : ∀ (xs : List Int) (m : Int), 0 ≤ m → (∀ x ∈ xs, 0 ≤ x ∧ x ≤ m) → 0 ≤ xs.sum ∧ xs.sum ≤ m * xs.length
  | [], m, _, _ => by simp
  | x :: xs, m, hm, h => by
    have h1 := sum_bound xs m hm (fun y hy => h y (by simp [hy]))
    have h2 := h x (by simp)
    rw [List.sum_cons, List.length_cons]
    have h3 : m * ((xs.length + 1 : Nat) : Int) = m * (xs.length : Int) + m := by rw [Int.natCast_add, Int.mul_add]; simp
    omega
set_option maxHeartbeats 400000 in
theorem sum_calls (A : Option Addr) (c : Nat) (xs : List Int) (w : World) (hr : ReadsInt w .i64 A xs.length xs) (hb : ∀ x ∈ xs, 0 ≤ x ∧ x ≤ 1000) (hl : xs.length ≤ 1000) :
    Calls Tryd.prog 113 #[.slice A xs.length c] w fun e w' => e = .returned (.int .i64 xs.sum) ∧ Below w.heap.size w w' := by
  have HR := Lib.hid hr
  clear hr
  have hbd : ∀ k, 0 ≤ (xs.take k).sum ∧ (xs.take k).sum ≤ 1000000 := by
    intro k
    have := sum_bound (xs.take k) 1000 (by omega) (fun x hx => hb x (List.mem_of_mem_take hx))
    have hl2 : (xs.take k).length ≤ xs.length := List.length_take_le' _ _
    omega
  have HBD := Lib.hid hbd
  clear hbd
  go_enter Tryd.func113, Tryd.ntmps113
  go_wp2
  go_loop [3, 8] (fun t i => ∃ k : Nat, k ≤ xs.length ∧ i = .int .i64 k ∧ t = .int .i64 (xs.take k).sum) (fun _ i => xs.length - (intOf i).toNat)
  case atStart => exact ⟨0, Nat.zero_le _, rfl, by simp⟩
  case round =>
    obtain ⟨k, hk, rfl, rfl⟩ := hrel
    by_cases hlt : k < xs.length
    · obtain ⟨ad, hA, hc⟩ := HR.out.at_ k (by omega) (by omega)
      have HA := Lib.hid hA
      clear hA
      have h1 := HBD.out k
      have h2 := HBD.out (k + 1)
      have h3 := take_sum xs k hlt
      rw [h3] at h2
      have H3 := Lib.hid h3
      clear h3
      simp only [Int.toNat_natCast] at hc
      have hA2 := HA.out
      subst hA2
      go_wp2
      go_round
      case rel => exact ⟨k + 1, by omega, by go_num, by rw [H3.out]⟩
      case measure => simp [intOf]; omega
    · obtain rfl : k = xs.length := by omega
      go_wp2
      go_ret
      exact ⟨rfl, Below.refl _ _⟩
structure SP (b : Bk) : Prop where
  s1 : b.salts.length ≤ 4
  p1 : b.pairs.length ≤ 4
  s : ∀ x ∈ b.salts, 0 ≤ x.f0 ∧ x.f0 ≤ 9 ∧ 0 ≤ x.f1.f0 ∧ x.f1.f0 ≤ x.f1.f1 ∧ x.f1.f1 ≤ 9
  p : ∀ p ∈ b.pairs, 0 ≤ p.f0 ∧ p.f0 < b.salts.length ∧ 0 ≤ p.f1 ∧ p.f1 < b.salts.length ∧ 0 ≤ p.f2 ∧ p.f2 ≤ 30
  d : b.pairs.Pairwise fun p q => ¬ (q.f0 = p.f0 ∧ q.f1 = p.f1)
def saltVal (b : Bk) (parts : List Int) (i : Nat) : Int := rd parts i * (rd_T68 b.salts i).f0
def pairVal (parts : List Int) (p : S77) : Int := if rd parts p.f0 = 0 ∨ rd parts p.f1 = 0 then 0 else p.f2
def powerI (b : Bk) (parts : List Int) : Int := ((List.range parts.length).map (saltVal b parts)).sum + (b.pairs.map (pairVal parts)).sum
def mapEs (ps : List S77) : Array MapEntry := (ps.mapIdx fun i p => ({ key := keyV p.f0 p.f1, val := .int .i64 p.f2, born := i } : MapEntry)).toArray
def entryOf (ps : List S77) (i : Nat) : MapEntry := { key := keyV (rd_T77 ps i).f0 (rd_T77 ps i).f1, val := .int .i64 (rd_T77 ps i).f2, born := i }
theorem mapEs_mem {ps : List S77} {e : MapEntry} (h : e ∈ (mapEs ps).toList) : ∃ i, i < ps.length ∧ e = entryOf ps i := by
  unfold mapEs at h
  rw [List.mem_mapIdx] at h
  obtain ⟨i, hi, rfl⟩ := h
  refine ⟨i, hi, ?_⟩
  unfold entryOf rd_T77
  simp [List.getD_eq_getElem?_getD, List.getElem?_eq_getElem hi]
theorem mapEs_born (ps : List S77) : (mapEs ps).toList.map (·.born) = List.range ps.length := by
  unfold mapEs
  apply List.ext_getElem
  · simp
  · intro i h1 h2
    simp
theorem mapEs_at {ps : List S77} {i : Nat} (h : i < ps.length) : entryOf ps i ∈ (mapEs ps).toList := by
  unfold mapEs
  rw [List.mem_mapIdx]
  refine ⟨i, h, ?_⟩
  unfold entryOf rd_T77
  simp [List.getD_eq_getElem?_getD, List.getElem?_eq_getElem h]
theorem mapEs_snoc (ps : List S77) (p : S77) : mapEs (ps ++ [p]) = (mapEs ps).push { key := keyV p.f0 p.f1, val := .int .i64 p.f2, born := ps.length } := by
  unfold mapEs
  rw [List.mapIdx_append]
  simp
theorem perm_sum {l1 l2 : List Int} (h : l1.Perm l2) : l1.sum = l2.sum := by
  induction h with
  | nil => rfl
  | cons x _ ih => rw [List.sum_cons, List.sum_cons, ih]
  | swap x y l => simp only [List.sum_cons]; omega
  | trans _ _ h1 h2 => exact h1.trans h2
theorem seen_all {n : Nat} {seen : List Nat} (hn : seen.Nodup) (hlt : ∀ i ∈ seen, i < n) (hall : ∀ i, i < n → i ∈ seen) (f : Nat → Int) : (seen.map f).sum = ((List.range n).map f).sum := by
  refine perm_sum (List.Perm.map f ?_)
  rw [List.perm_ext_iff_of_nodup hn List.nodup_range]
  intro i
  rw [List.mem_range]
  exact ⟨hlt i, hall i⟩
theorem range_map (ps : List S77) (f : S77 → Int) : ((List.range ps.length).map fun (i : Nat) => f (rd_T77 ps (i : Int))).sum = (ps.map f).sum := by
  congr 1
  apply List.ext_getElem
  · simp
  · intro i h1 h2
    simp at h1 h2
    simp [rd_T77, List.getD_eq_getElem?_getD, List.getElem?_eq_getElem h2]
theorem info3 : (Tryd.prog.info? 3).map (fun i => (i.zero, i.size, i.bytes)) = some (some (.int .i64 0), 1, 8) := by kernel_rfl
theorem rd68_mem {xs : List S68} {i : Nat} (h1 : i < xs.length) : rd_T68 xs i ∈ xs := by
  unfold rd_T68
  rw [List.getD_eq_getElem?_getD, Int.toNat_natCast, List.getElem?_eq_getElem h1]
  exact List.getElem_mem _
theorem rd77_mem {xs : List S77} {i : Nat} (h1 : i < xs.length) : rd_T77 xs i ∈ xs := by
  unfold rd_T77
  rw [List.getD_eq_getElem?_getD, Int.toNat_natCast, List.getElem?_eq_getElem h1]
  exact List.getElem_mem _
end Go.Proofs.YtghpoldlddghjaaDoor
namespace Go.Proofs.YtghpoldlddghjaaDoor
open Go Go.RowKit
open Go.Proofs.YtghpoldlddghjaaDoorW.PrintWords Go.Proofs.YtghpoldlddghjaaDoorW.PrintMore Go.Proofs.YtghpoldlddghjaaDoor.PPasteTrue
attribute [local go_sem] max2_int min2_int max_two min_two
def rubStep (need p s : Int) (x : S47) (r : Int × Int) (t : S59) : Int × Int :=
  if t.f0 = s then (if t.f1 = true then (mx r.1 (need - p + x.f1.f0), r.2) else (r.1, mn r.2 (need - p + x.f1.f1 - 1))) else r
def rubF (need p s : Int) (x : S47) (ts : List S59) : Int × Int := ts.foldl (rubStep need p s x) (x.f0.f0, x.f0.f1)
theorem rubF_snoc (need p s : Int) (x : S47) (ts : List S59) (k : Nat) (h : k < ts.length) : rubF need p s x (ts.take (k + 1)) = rubStep need p s x (rubF need p s x (ts.take k)) (rd_T59 ts k) := by
  unfold rubF rd_T59
  rw [List.take_succ_eq_append_getElem h, List.foldl_append]
  simp [List.getD_eq_getElem?_getD, List.getElem?_eq_getElem h]
structure RubInv (w wr : World) (cs : Array Value) (x : S47) (r : Int × Int) : Prop where
  below : Below w.heap.size w wr
  size : w.heap.size + 4 ≤ wr.heap.size
  b0 : wr.heap[w.heap.size]? = some (.cells cs 113 (0, 0))
  b1 : wr.heap[w.heap.size + 1]? = some (.cells #[.int .i64 0, .int .i64 0] 39 (0, 0))
  b2 : wr.heap[w.heap.size + 1 + 1]? = some (.cells #[.int .i64 x.f0.f0, .int .i64 x.f0.f1, .int .i64 x.f1.f0, .int .i64 x.f1.f1] 47 (0, 0))
  b3 : wr.heap[w.heap.size + 1 + 1 + 1]? = some (.cells #[.int .i64 r.1, .int .i64 r.2] 39 (0, 0))
theorem RubInv.alloc {w wr : World} {cs : Array Value} {x : S47} {r : Int × Int} (h : RubInv w wr cs x r) (o : Obj) : RubInv w (wr.alloc o) cs x r :=
  ⟨h.below.alloc (by have := h.size; omega) _, by have := h.size; simp; omega, blk_alloc h.b0 _, blk_alloc h.b1 _, blk_alloc h.b2 _, blk_alloc h.b3 _⟩
theorem RubInv.set {w wr : World} {cs : Array Value} {x : S47} {r r' : Int × Int} (h : RubInv w wr cs x r) (j : Nat) (u : Value) (e : (#[Value.int .i64 r.1, Value.int .i64 r.2]).setIfInBounds j u = #[Value.int .i64 r'.1, Value.int .i64 r'.2]) : RubInv w (wr.setCell ⟨w.heap.size + 1 + 1 + 1, j, none⟩ u) cs x r' :=
  ⟨h.below.setCell (by simp; omega) _, by have := h.size; simp; omega, blk_far h.b0 (by simp; omega) _, blk_far h.b1 (by simp) _, blk_far h.b2 (by simp) _, blk_put h.b3 _ _ e⟩
set_option maxHeartbeats 400000 in
theorem rubs_calls (cs : Array Value) (A2 : Option Addr) (c2 : Nat) (xs : List S47) (A4 : Option Addr) (c4 : Nat) (ts : List S59) (need s p : Int) (w : World)
   (h2 : cs[2]? = some (.slice A2 xs.length c2)) (h3 : cs[3]? = some (.int .i64 need)) (h4 : cs[4]? = some (.slice A4 ts.length c4))
   (hx : Kd.C k47 w A2 xs.length xs) (ht : Kd.C k59 w A4 ts.length ts) (hs0 : 0 ≤ s) (hs1 : s < xs.length)
   (hn0 : 0 ≤ need) (hn1 : need ≤ 1000) (hp0 : 0 ≤ p) (hp1 : p ≤ 1000) (hd : 0 ≤ (rd_T47 xs s).f1.f0 ∧ (rd_T47 xs s).f1.f0 ≤ 1000 ∧ 0 ≤ (rd_T47 xs s).f1.f1 ∧ (rd_T47 xs s).f1.f1 ≤ 1000) :
   Calls Tryd.prog 116 #[.agg cs, .int .i64 s, .int .i64 p] w fun e w' => e = .returned (.agg (s39 (rubF need p s (rd_T47 xs s) ts))) ∧ Below w.heap.size w w' := by
  have HT := Lib.hid ht
  have hmax := Kd.C_max ht
  obtain ⟨ad, hA2, q0, q1, q2, q3⟩ := at_T47 hx s hs0 hs1
  generalize rd_T47 xs s = x at hd q0 q1 q2 q3 ⊢
  subst hA2
  clear hx ht
  have e1 : (ad.add (s.toNat * 4)).block < w.heap.size := World.block_lt_of_cell? w _ q0
  obtain ⟨d0, d1, d2, d3⟩ := hd
  go_enter Tryd.func116, Tryd.ntmps116
  go_upto_region 3 with (first | (with_reducible refine b_box (t := 113) rfl rfl rfl ?_))
  go_wp2
  clear q0 q1 q2 q3 e1
  go_loopw [23] (fun i wr => ∃ k : Nat, k ≤ ts.length ∧ i = .int .i64 k ∧ Aside0 (RubInv w wr cs x (rubF need p s x (ts.take k)))) (fun i _ => ts.length - (intOf i).toNat)
  case atStart =>
    exact ⟨0, Nat.zero_le _, rfl, ⟨((((Below.refl _ _).alloc (Nat.le_refl _) _).alloc (by simp) _).alloc (by simp; omega) _).alloc (by simp; omega) _, by simp, by repeat (first | (refine new_at ?_; simp; done) | refine blk_alloc ?_ _), by repeat (first | (refine new_at ?_; simp; done) | refine blk_alloc ?_ _), by repeat (first | (refine new_at ?_; simp; done) | refine blk_alloc ?_ _), by repeat (first | (refine new_at ?_; simp; done) | refine blk_alloc ?_ _)⟩⟩
  case round =>
    obtain ⟨k, hk, rfl, HI⟩ := hrel
    have HI' := HI.out
    have c3 := (blk_cell HI'.b0 3).trans h3
    have c2_1 := (blk_cell HI'.b2 2).trans rfl
    have c2_2 := (blk_cell HI'.b2 3).trans rfl
    have c3_0 := (blk_cell HI'.b3 0).trans rfl
    have c3_1 := (blk_cell HI'.b3 1).trans rfl
    have f3_0 := blk_frozen HI'.b3 0
    have f3_1 := blk_frozen HI'.b3 1
    have c1_0 := (blk_cell HI'.b1 0).trans rfl
    have c1_1 := (blk_cell HI'.b1 1).trans rfl
    have f1_0 := blk_frozen HI'.b1 0
    have f1_1 := blk_frozen HI'.b1 1
    have hsz := HI'.size
    clear HI'
    have z0 : w.heap.size < wr.heap.size := by omega
    have z1 : w.heap.size + 1 < wr.heap.size := by omega
    have z2 : w.heap.size + 1 + 1 < wr.heap.size := by omega
    have z3 : w.heap.size + 1 + 1 + 1 < wr.heap.size := by omega
    by_cases hlt : k < ts.length
    · obtain ⟨ad4, hA4, t0, t1⟩ := at_T59 (Kd.C_below HT.out HI.out.below) k (by omega) (by omega)
      subst hA4
      simp only [Int.toNat_natCast] at t0 t1
      have e4 := World.block_lt_of_cell? wr _ t0
      have HS := Aside0.mk (rubF_snoc need p s x ts k hlt)
      have hs' : (rd_T59 ts k).f0 = s ∨ (rd_T59 ts k).f0 ≠ s := Decidable.em _
      rcases hs' with hs' | hs'
      · have hb1 : ((rd_T59 ts k).f0 != s) = false := by simp [hs']
        have hs'' := Aside0.mk hs'
        clear hs'
        rcases Bool.eq_false_or_eq_true (rd_T59 ts k).f1 with hb | hb
        · have hb' := Aside0.mk hb
          go_wp2
          go_roundw
          case rel =>
            refine ⟨k + 1, by omega, by go_num, ⟨?_⟩⟩
            rw [HS.out]
            refine (HI.out.set 0 _ ?_).alloc _
            simp [rubStep, hs''.out, hb'.out, mx]
          case measure => simp [intOf]; omega
        · have hb' := Aside0.mk hb
          go_wp2
          go_roundw
          case rel =>
            refine ⟨k + 1, by omega, by go_num, ⟨?_⟩⟩
            rw [HS.out]
            refine (HI.out.set 1 _ ?_).alloc _
            simp [rubStep, hs''.out, hb'.out, mn]
          case measure => simp [intOf]; omega
      · have hb1 : ((rd_T59 ts k).f0 != s) = true := by simp [hs']
        have hs'' := Aside0.mk hs'
        clear hs'
        go_wp2
        go_roundw
        case rel =>
          refine ⟨k + 1, by omega, by go_num, ⟨?_⟩⟩
          rw [HS.out]
          have := HI.out.alloc (.cells #[.int .i64 (rd_T59 ts k).f0, .bool (rd_T59 ts k).f1] 59)
          simpa [rubStep, hs''.out] using this
        case measure => simp [intOf]; omega
    · obtain rfl : k = ts.length := by omega
      go_wp2
      refine bodyPost_ret (v := .agg (s39 (rubF need p s x ts))) (results_cell_row Tryd.results116 _ _ (w.heap.size + 1) 39 _ (0, 0) _ rfl (blk_set (blk_set (by have := HI.out.b1; exact this) 0 _) 1 _) Tryd.underlying39 rfl (by kernel_rfl)) rfl ⟨rfl, ?_⟩
      exact (HI.out.below.setCell (by simp) _).setCell (by simp) _
end Go.Proofs.YtghpoldlddghjaaDoor
namespace Go.Proofs.YtghpoldlddghjaaDoor
open Go Go.RowKit
open Go.Proofs.YtghpoldlddghjaaDoorW.PrintWords Go.Proofs.YtghpoldlddghjaaDoorW.PrintMore Go.Proofs.YtghpoldlddghjaaDoor.PPasteTrue
theorem below_row {B g : Nat} {w0 w : World} (hb : Below B w0 w) (hBg : B ≤ g) (cs : Array Value) : Below B w0 (w.setRow g cs) :=
  hb.trans ⟨rfl, rfl, rfl, by simp [World.setRow], fun k hk => setRow_other w g k cs (by omega)⟩
theorem zero111 (w : World) : (zeroValue 111).run Tryd.prog w = .ok (.agg (allA fun _ => false)) w := by rw [← z111_eq]; exact Tryd.zeroValue111 w
def noneA : Array Value := allA fun _ => false
theorem noneA_i : (Tryd.prog.info? 111).map (·.size) = some noneA.size := allA_i _
theorem zeroN (w : World) : (zeroValue 111).run Tryd.prog w = .ok (.agg noneA) w := zero111 w
set_option maxHeartbeats 400000 in
theorem none_calls (w : World) : Calls Tryd.prog 99 #[] w fun e w' => e = .returned (.agg noneA) ∧ Below w.heap.size w w' := by
  go_enter Tryd.func99, Tryd.ntmps99
  refine wp_seq_k fun K hK => ?_
  refine wp_region_lit ?_
  refine b_alloc rfl rfl zeroN ?_
  refine wpList_nil ?_
  refine hK _ _ ?_
  refine wp_seq_k fun K hK => ?_
  refine wp_region_lit ?_
  refine b_alloc rfl rfl zeroN ?_
  refine wpList_nil ?_
  refine hK _ _ ?_
  refine wp_seq_k fun K hK => ?_
  refine wp_region_lit ?_
  refine wpList_load_row rfl 111 _ rfl (w.heap.size + 1) (by simp [Act.put, Act.eval]) 111 noneA (0, 0) _ (new_at (by simp)) Tryd.underlying111 rfl noneA_i ?_
  refine wpList_store_row rfl 111 _ _ rfl w.heap.size noneA (by simp [Act.put, Act.eval]) (by simp [Act.put, Act.eval]) 111 noneA (blk_alloc (new_at rfl) _) noneA_i rfl (allA_one _) ?_
  refine wpList_nil ?_
  refine hK _ _ ?_
  refine wp_ret ?_
  refine bodyPost_ret (v := .agg noneA) (results_cell_row Tryd.results99 _ _ w.heap.size 111 _ (0, 0) _ rfl (setRow_heap _ _ _ _ _ _ (blk_alloc (new_at rfl) _)) Tryd.underlying111 rfl noneA_i) rfl ⟨rfl, ?_⟩
  exact below_row (((Below.refl _ _).alloc (Nat.le_refl _) _).alloc (by simp) _) (Nat.le_refl _) _
def rubs (b : Bk) (k : Nat) (p : Int) : Int × Int := rubF b.need p k (rd_T47 b.surfs k) b.trials
def rightB (b : Bk) (p : Int) : Bool := (List.range b.surfs.length).all fun k => decide ((rubs b k p).1 ≤ (rubs b k p).2)
theorem rubs_book {cs : Array Value} {h : Hd} {b : Bk} {all : Nat → Bool} {w : World} (hc : IsBook cs h b all) (hb : BkIn w h b) (hs : Small b) (k : Nat) (hk : k < b.surfs.length) (p : Int) (hp0 : 0 ≤ p) (hp1 : p ≤ 1000) :
    Calls Tryd.prog 116 #[.agg cs, .int .i64 k, .int .i64 p] w fun e w' => e = .returned (.agg (s39 (rubs b k p))) ∧ Below w.heap.size w w' := by
  have hx := hs.s _ (rd47_mem (xs := b.surfs) (i := k) (by omega) (by omega))
  exact rubs_calls cs h.A2 h.c2 b.surfs h.A4 h.c4 b.trials b.need k p w hc.c2 hc.c3 hc.c4 hb.r2 hb.r4 (by omega) (by omega) hs.n0 hs.n1 hp0 hp1 ⟨hx.2.2.2.2.1, hx.2.2.2.2.2.1, hx.2.2.2.2.2.2.1, hx.2.2.2.2.2.2.2⟩
structure OneInv (w wr : World) (cs : Array Value) : Prop where
  below : Below w.heap.size w wr
  size : w.heap.size < wr.heap.size
  b0 : wr.heap[w.heap.size]? = some (.cells cs 113 (0, 0))
theorem OneInv.on {w wr w1 : World} {cs : Array Value} (h : OneInv w wr cs) (hb : Below wr.heap.size wr w1) : OneInv w w1 cs :=
  ⟨below_step h.below hb, Nat.lt_of_lt_of_le h.size hb.size, blk_below h.b0 hb⟩
theorem OneInv.alloc {w wr : World} {cs : Array Value} (h : OneInv w wr cs) (o : Obj) : OneInv w (wr.alloc o) cs := h.on (below_alloc (Below.refl _ _) o)
theorem OneInv.start (w : World) (cs : Array Value) : OneInv w (w.alloc (.cells cs 113)) cs := ⟨below_alloc (Below.refl _ _) _, by simp, new_at rfl⟩
set_option maxHeartbeats 400000 in
theorem right_calls {cs : Array Value} {h : Hd} {b : Bk} {all : Nat → Bool} {w : World} (hc : IsBook cs h b all) (hb : BkIn w h b) (hs : Small b) (p : Int) (hp0 : 0 ≤ p) (hp1 : p ≤ 1000) :
    Calls Tryd.prog 115 #[.agg cs, .int .i64 p] w fun e w' => e = .returned (.bool (rightB b p)) ∧ Below w.heap.size w w' := by
  have h2 := hc.c2
  have hmax := Kd.C_max hb.r2
  have hi : (Tryd.prog.info? 113).map (·.size) = some cs.size := by rw [hc.size]; exact i113
  have HI := Lib.hid hi
  clear hi
  go_enter Tryd.func115, Tryd.ntmps115
  go_wp2_with (first | (with_reducible refine b_box (t := 113) rfl rfl rfl ?_))
  go_loopw [11] (fun i wr => ∃ k : Nat, k ≤ b.surfs.length ∧ i = .int .i64 k ∧ Aside0 (OneInv w wr cs) ∧ Aside0 (∀ j, j < k → (rubs b j p).1 ≤ (rubs b j p).2)) (fun i _ => b.surfs.length - (intOf i).toNat)
  case atStart => exact ⟨0, Nat.zero_le _, rfl, ⟨OneInv.start _ _⟩, ⟨fun j hj => by omega⟩⟩
  case round =>
    obtain ⟨k, hk, rfl, HV, HA⟩ := hrel
    by_cases hlt : k < b.surfs.length
    · by_cases hv : (rubs b k p).2 < (rubs b k p).1
      · have HR := Lib.hid (show rightB b p = false by
          unfold rightB
          rw [List.all_eq_false]
          exact ⟨k, List.mem_range.2 hlt, by simp; omega⟩)
        go_wp2_with (first | ((with_reducible refine gate_dst (N := 14) rfl ?_); refine wpList_load_row rfl 113 _ rfl w.heap.size rfl 113 cs (0, 0) _ HV.out.b0 Tryd.underlying113 rfl HI.out ?_) | (go_at_call 116; refine (rubs_book hc (hb.below HV.out.below) hs k hlt p hp0 hp1).mono ?_; rintro e w1 ⟨rfl, hb1⟩; simp only [s39]))
        go_ret
        exact ⟨by rw [HR.out]; rfl, ((HV.out.on hb1).alloc _).below⟩
      · go_wp2_with (first | ((with_reducible refine gate_dst (N := 14) rfl ?_); refine wpList_load_row rfl 113 _ rfl w.heap.size rfl 113 cs (0, 0) _ HV.out.b0 Tryd.underlying113 rfl HI.out ?_) | (go_at_call 116; refine (rubs_book hc (hb.below HV.out.below) hs k hlt p hp0 hp1).mono ?_; rintro e w1 ⟨rfl, hb1⟩; simp only [s39]))
        go_roundw
        case rel =>
          refine ⟨k + 1, by omega, by go_num, ⟨(HV.out.on hb1).alloc _⟩, ⟨fun j hj => ?_⟩⟩
          rcases Nat.lt_or_eq_of_le (Nat.le_of_lt_succ hj) with e | rfl
          · exact HA.out j e
          · omega
        case measure => simp [intOf]; omega
    · obtain rfl : k = b.surfs.length := by omega
      have HR := Lib.hid (show rightB b p = true by
        unfold rightB
        rw [List.all_eq_true]
        exact fun j hj => by simpa using HA.out j (List.mem_range.1 hj))
      go_wp2
      go_ret
      exact ⟨by rw [HR.out]; rfl, HV.out.below⟩
def possB (b : Bk) (all : Nat → Bool) (n : Nat) : Bool := all n && rightB b n
structure PosInv (w wr : World) (cs : Array Value) : Prop where
  below : Below w.heap.size w wr
  size : w.heap.size + 1 < wr.heap.size
  b0 : wr.heap[w.heap.size]? = some (.cells cs 113 (0, 0))
  b1 : wr.heap[w.heap.size + 1]? = some (.cells noneA 111 (0, 0))
theorem PosInv.on {w wr w1 : World} {cs : Array Value} (h : PosInv w wr cs) (hb : Below wr.heap.size wr w1) : PosInv w w1 cs :=
  ⟨below_step h.below hb, Nat.lt_of_lt_of_le h.size hb.size, blk_below h.b0 hb, blk_below h.b1 hb⟩
theorem PosInv.row {w wr : World} {cs : Array Value} (h : PosInv w wr cs) {g : Nat} (hg : w.heap.size + 2 ≤ g) (c : Array Value) : PosInv w (wr.setRow g c) cs :=
  ⟨below_row h.below (by omega) _, by have := h.size; simp; omega, by rw [setRow_other _ _ _ _ (by omega)]; exact h.b0, by rw [setRow_other _ _ _ _ (by omega)]; exact h.b1⟩
theorem PosInv.set {w wr : World} {cs : Array Value} (h : PosInv w wr cs) {g : Nat} (hg : w.heap.size + 2 ≤ g) (j : Nat) (v : Value) : PosInv w (wr.setCell ⟨g, j, none⟩ v) cs :=
  ⟨h.below.setCell (by simp; omega) _, by have := h.size; simp; omega, blk_far h.b0 (by simp; omega) _, blk_far h.b1 (by simp; omega) _⟩
abbrev rightV (cs : Array Value) : Value := .func (.func 115) #[.agg cs] #[]
def Pos1 (w : World) (cs : Array Value) (b : Nat → Bool) (a : Act) (wr : World) : Prop :=
  ∃ g : Nat, a = ⟨#[.agg cs, .pointer (some ⟨w.heap.size, 0, none⟩), .pointer (some ⟨w.heap.size + 1, 0, none⟩), (if b 4 then rightV cs else undef), (if b 3 then .pointer (some ⟨g, 0, none⟩) else undef), undef, undef,
    (if b 0 then .agg cs else undef), (if b 1 then rightV cs else undef), (if b 2 then .agg noneA else undef), undef, undef, undef, undef, undef, undef, undef, undef, undef, undef, undef, undef, undef, undef, undef, undef], []⟩ ∧
    PosInv w wr cs ∧ (b 3 = true → w.heap.size + 2 ≤ g ∧ wr.heap[g]? = some (.cells noneA 111 (0, 0)))
set_option maxRecDepth 20000 in
set_option maxHeartbeats 400000 in
theorem possible_calls {cs : Array Value} {h : Hd} {b : Bk} {all : Nat → Bool} {w : World} (hc : IsBook cs h b all) (hb : BkIn w h b) (hs : Small b) :
    Calls Tryd.prog 103 #[.agg cs] w fun e w' => e = .returned (.agg (allA (possB b all))) ∧ Below w.heap.size w w' := by
  have HI := Lib.hid (show (Tryd.prog.info? 113).map (·.size) = some cs.size by rw [hc.size]; exact i113)
  go_enter Tryd.func103, Tryd.ntmps103
  refine wp_seq_k fun K hK => ?_
  refine wp_region_lit ?_
  refine b_box (t := 113) rfl rfl rfl ?_
  refine b_alloc rfl rfl zeroN ?_
  refine wpList_nil ?_
  refine hK _ _ ?_
  clear hK K
  refine wp_seq_k fun K hK => ?_
  refine draw_inv mixed (by kernel_rfl) (Pos1 w cs) ?_ ?_ ?_
  · refine ⟨0, ?_, ⟨?_, ?_, ?_, ?_⟩, ?_⟩
    · simp [Act.put]
    · exact (((Below.refl _ _).alloc (Nat.le_refl _) _).alloc (by simp) _).drew
    · simp
    · exact blk_drew (blk_alloc (new_at rfl) _)
    · exact blk_drew (new_at (by simp))
    · intro h; cases h
  · intro i hi b a wr hI hbi hcame
    obtain ⟨g, rfl, hp, hg⟩ := hI
    rcases i with _ | _ | _ | _ | _ | _ | i
    · refine op_value rfl rfl (x_load rfl rfl hp.b0 Tryd.underlying113 rfl HI.out) ⟨g, by simp [Act.put, upd], hp, ?_⟩
      simpa [upd] using hg
    · have h0 : b 0 = true := by simpa [Came, Region.binds] using hcame
      refine op_value rfl rfl (x_func rfl) ⟨g, by simp [Act.put, Act.eval, upd, h0], hp, ?_⟩
      simpa [upd] using hg
    · refine op_call rfl rfl (run_call Tryd.func99 (by kernel_rfl) rfl rfl rfl (args := #[]) (by simp)) ((none_calls _).mono ?_)
      rintro e w1 ⟨rfl, hb1⟩
      refine ⟨_, rfl, g, by simp [Act.put, upd], hp.on hb1, ?_⟩
      intro h3
      have := hg (by simpa [upd] using h3)
      exact ⟨this.1, blk_below this.2 hb1⟩
    · refine op_value rfl rfl (x_alloc rfl zeroN) ⟨wr.heap.size, by simp [Act.put, upd], hp.on (below_alloc (Below.refl _ _) _), ?_⟩
      intro _
      exact ⟨by have := hp.size; omega, new_at rfl⟩
    · have h1 : b 1 = true := by
        simp [Came, Region.binds] at hcame
        exact hcame.1
      refine op_value rfl rfl (x_assign (.inl rfl)) ⟨g, by simp [Act.put, Act.eval, upd, h1], hp, ?_⟩
      simpa [upd] using hg
    · have h3 : b 3 = true ∧ b 2 = true := by
        simp [Came, Region.binds] at hcame
        exact ⟨hcame.1, hcame.2.1⟩
      obtain ⟨hg1, hg2⟩ := hg h3.1
      refine op_skip rfl rfl (x_store rfl (by simp [Act.eval, h3]) (by simp [Act.eval, h3]) hg2 noneA_i rfl (allA_one _)) ⟨g, by simp [Act.put, upd], hp.row hg1 _, ?_⟩
      intro _
      exact ⟨hg1, setRow_heap _ _ _ _ _ _ hg2⟩
    · simp at hi; omega
  · intro bb a wr hI hall
    obtain ⟨g, rfl, hp, hg⟩ := hI
    obtain ⟨hg1, hg2⟩ := hg (hall 3 (by simp))
    refine hK _ _ ?_
    clear hK K
    simp only [hall 0 (by simp), hall 1 (by simp), hall 2 (by simp), hall 3 (by simp), hall 4 (by simp), if_true]
    have h5 := Lib.hid (show wr.rangeAt w.heap.size 6 (allL all) from fun j v hv => by
      have hj : j < 512 := by have := (List.getElem?_eq_some_iff.1 hv).1; rwa [allL_length] at this
      have h6 := hc.all j hj
      rw [blk_cell hp.b0, h6]
      simpa [allL, hj] using hv)
    have HP := Lib.hid hp
    have HG := Lib.hid hg2
    have q1 := hp.below.size
    have q2 := hp.size
    clear hp hg2 hg hall
    go_wp2_with (first | ((with_reducible refine gate_dst (N := 11) rfl ?_); refine wpList_load_mid rfl 111 _ rfl w.heap.size 6 rfl (allL all) _ h5.out Tryd.underlying111 rfl (by rw [allL_length]; exact i111) ?_))
    go_loopw [12] (fun i wr => ∃ k : Nat, k ≤ 512 ∧ i = .int .i64 k ∧ Aside0 (PosInv w wr cs) ∧ Aside0 (wr.heap[g]? = some (.cells (allA fun j => decide (j < k) && possB b all j) 111 (0, 0)))) (fun i _ => 512 - (intOf i).toNat)
    case atStart => exact ⟨0, Nat.zero_le _, rfl, ⟨HP.out⟩, ⟨by rw [allA_congr (g := fun _ => false) (by simp)]; exact HG.out⟩⟩
    case round =>
      clear HP HG h5 q1 q2
      obtain ⟨k, hk, rfl, HV, HG⟩ := hrel
      have z0 := HV.out.size
      by_cases hlt : k < 512
      · have hidx := allA_index all k hlt
        have HX := Lib.hid hidx
        clear hidx
        cases hal : all k with
        | true =>
          rw [hal] at HX
          have HA := Lib.hid hal
          clear hal
          go_wp2_with (first | ((with_reducible refine gate_dst (N := 15) rfl ?_); refine b_value rfl (x_index rfl rfl rfl (HX.out wr)) ?_) | (go_at_call 115; refine (right_calls hc (hb.below HV.out.below) hs k (by omega) (by omega)).mono ?_; rintro e w1 ⟨rfl, hb1⟩; have HG1 := Aside0.mk (blk_below HG.out hb1); have fz := blk_frozen HG1.out k; have cz := (blk_cell HG1.out k).trans (allA_get _ k hlt)))
          go_roundw
          case rel =>
            refine ⟨k + 1, by omega, by go_num, ⟨(HV.out.on hb1).set hg1 _ _⟩, ⟨?_⟩⟩
            refine blk_put HG1.out _ _ ?_
            rw [allA_set]
            refine allA_congr (fun n hn => ?_)
            by_cases e : n = k
            · subst e; simp [possB, HA.out]
            · rw [if_neg e]
              have : decide (n < k + 1) = decide (n < k) := by rw [decide_eq_decide]; omega
              rw [this]
          case measure => simp [intOf]; omega
        | false =>
          rw [hal] at HX
          have HA := Lib.hid hal
          clear hal
          have fz := blk_frozen HG.out k
          have cz := (blk_cell HG.out k).trans (allA_get _ k hlt)
          have z1 : g < wr.heap.size := blk_lt HG.out
          go_wp2_with (first | ((with_reducible refine gate_dst (N := 15) rfl ?_); refine b_value rfl (x_index rfl rfl rfl (HX.out wr)) ?_))
          go_roundw
          case rel =>
            refine ⟨k + 1, by omega, by go_num, ⟨HV.out.set hg1 _ _⟩, ⟨?_⟩⟩
            refine blk_put HG.out _ _ ?_
            rw [allA_set]
            refine allA_congr (fun n hn => ?_)
            by_cases e : n = k
            · subst e; simp [possB, HA.out]
            · rw [if_neg e]
              have : decide (n < k + 1) = decide (n < k) := by rw [decide_eq_decide]; omega
              rw [this]
          case measure => simp [intOf]; omega
      · obtain rfl : k = 512 := by omega
        have HG2 := Aside0.mk (show wr.heap[g]? = some (.cells (allA (possB b all)) 111 (0, 0)) by rw [HG.out, allA_congr (g := possB b all) (fun n hn => by simp [hn])])
        go_wp2_with (first | ((with_reducible refine gate_dst (N := 25) rfl ?_); refine wpList_load_row rfl 111 _ rfl g rfl 111 _ (0, 0) _ HG2.out Tryd.underlying111 rfl (allA_i _) ?_) | ((with_reducible refine gate_store (t := 111) rfl ?_); refine wpList_store_row rfl 111 _ _ rfl (w.heap.size + 1) (allA (possB b all)) rfl rfl 111 noneA HV.out.b1 (allA_i _) (by rw [allA_size]; exact allA_size _) (allA_one _) ?_))
        refine bodyPost_ret (v := .agg (allA (possB b all))) (results_cell_row Tryd.results103 _ _ (w.heap.size + 1) 111 _ (0, 0) _ rfl (setRow_heap _ _ _ _ _ _ HV.out.b1) Tryd.underlying111 rfl (allA_i _)) rfl ⟨rfl, ?_⟩
        exact below_row HV.out.below (by omega) _
end Go.Proofs.YtghpoldlddghjaaDoor
namespace Go.Proofs.YtghpoldlddghjaaDoor
open Go Go.RowKit
open Go.Proofs.YtghpoldlddghjaaDoorW.PrintWords Go.Proofs.YtghpoldlddghjaaDoorW.PrintMore Go.Proofs.YtghpoldlddghjaaDoor.PPasteTrue
section
variable {P : Program} {ρ : Operand → Value} {o : Oper} {w w1 : World}
theorem x_range {t : TypeId} {x : Operand} (ho : o.op = .range t x) {u v : Value} (hx : ρ x = u) (h : (Instr.range t u).run P w = .ok v w1) : (execOp ρ o).run P w = .ok (.value v) w1 := by
  unfold execOp
  simp only [ho, hx, Sem.run_bind, h, Result.andThen_ok]
  rfl
theorem x_next {s : Bool} {x : Operand} (ho : o.op = .next x s) {u v : Value} (hx : ρ x = u) (h : (Instr.next u s o.type).run P w = .ok v w1) : (execOp ρ o).run P w = .ok (.value v) w1 := by
  unfold execOp
  simp only [ho, hx, Sem.run_bind, h, Result.andThen_ok]
  rfl
theorem x_entry {x : Operand} (ho : o.op = .entry x) {u v : Value} (hx : ρ x = u) (h : (Instr.entry u).run P w = .ok v w1) : (execOp ρ o).run P w = .ok (.value v) w1 := by
  unfold execOp
  simp only [ho, hx, Sem.run_bind, h, Result.andThen_ok]
  rfl
theorem x_lookup {t : TypeId} {x y : Operand} {ok : Bool} (ho : o.op = .lookup t x y ok) {u i v : Value} (hx : ρ x = u) (hy : ρ y = i) (h : (Instr.lookup t u i ok).run P w = .ok v w1) : (execOp ρ o).run P w = .ok (.value v) w1 := by
  unfold execOp
  simp only [ho, hx, hy, Sem.run_bind, h, Result.andThen_ok]
  rfl
theorem x_mapEntry {t : TypeId} {x y : Operand} (ho : o.op = .mapEntry t x y) {u i v : Value} (hx : ρ x = u) (hy : ρ y = i) (h : (Instr.mapEntry t u i).run P w = .ok v w1) : (execOp ρ o).run P w = .ok (.value v) w1 := by
  unfold execOp
  simp only [ho, hx, hy, Sem.run_bind, h, Result.andThen_ok]
  rfl
theorem x_entryStore {t : TypeId} {x y z : Operand} (ho : o.op = .entryStore t x y z) {u i q : Value} (hx : ρ x = u) (hy : ρ y = i) (hz : ρ z = q) (h : (Instr.entryStore t u i q).run P w = .ok () w1) : (execOp ρ o).run P w = .ok .skip w1 := by
  unfold execOp
  simp only [ho, hx, hy, hz, Sem.run_bind, h, Result.andThen_ok]
  rfl
end
abbrev PB (w : World) (cs : Array Value) (wr : World) : Prop := Below (w.heap.size + 1) (w.alloc (.cells cs 113)) wr
theorem PB.start (w : World) (cs : Array Value) : PB w cs (w.alloc (.cells cs 113)) := Below.refl _ _
theorem PB.size {w wr : World} {cs : Array Value} (h : PB w cs wr) : w.heap.size + 1 ≤ wr.heap.size := by
  have := Below.size h
  simpa using this
theorem PB.below {w wr : World} {cs : Array Value} (h : PB w cs wr) : Below w.heap.size w wr :=
  (below_alloc (Below.refl _ _) _).trans (Below.mono h (by omega))
theorem PB.b0 {w wr : World} {cs : Array Value} (h : PB w cs wr) : wr.heap[w.heap.size]? = some (.cells cs 113 (0, 0)) :=
  (Below.block h _ (by omega)).trans (new_at rfl)
theorem PB.on {w wr w1 : World} {cs : Array Value} (h : PB w cs wr) (hb : Below wr.heap.size wr w1) : PB w cs w1 :=
  Below.trans h (hb.mono h.size)
theorem PB.alloc {w wr : World} {cs : Array Value} (h : PB w cs wr) (o : Obj) : PB w cs (wr.alloc o) := h.on (below_alloc (Below.refl _ _) o)
theorem i3x : (Tryd.prog.info? 3).map (fun i => (i.zero, i.size, i.bytes)) = some (some (.int .i64 0), 1, 8) := by kernel_rfl
structure PSt (w : World) (cs : Array Value) (b : Bk) (bm it : Nat) (wr : World) (seen : List Nat) : Prop where
  pb : PB w cs wr
  ih : wr.heap[it]? = some (.mapIter (some bm) b.pairs.length seen.toArray b.pairs.length)
  ib : w.heap.size + 1 ≤ it
  nd : seen.Nodup
  lt : ∀ i ∈ seen, i < b.pairs.length
def POwn (w : World) (b : Bk) (parts : List Int) (wr : World) (v : Value) (seen : List Nat) : Prop :=
  ∃ xs : List Int, wr.ownsRow (w.heap.size + 1) 3 1 v xs.length (nums .i64 xs) ∧ (∀ x ∈ xs, 0 ≤ x ∧ x ≤ 1000) ∧ xs.length ≤ 4 + seen.length ∧ xs.sum = ((List.range parts.length).map (saltVal b parts)).sum + (seen.map fun (i : Nat) => pairVal parts (rd_T77 b.pairs i)).sum
structure PInv2 (w : World) (cs : Array Value) (b : Bk) (parts : List Int) (bm it : Nat) (wr : World) (v : Value) (seen : List Nat) : Prop extends PSt w cs b bm it wr seen where
  own : POwn w b parts wr v seen
theorem PSt.on {w : World} {cs : Array Value} {b : Bk} {bm it : Nat} {wr w1 : World} {seen : List Nat} (h : PSt w cs b bm it wr seen) (hb : Below wr.heap.size wr w1) : PSt w cs b bm it w1 seen :=
  ⟨h.pb.on hb, blk_below h.ih hb, h.ib, h.nd, h.lt⟩
theorem own_not {w wr : World} {base : Nat} {e : TypeId} {size n it : Nat} {v : Value} {xs : List Value} {m : Option Nat} {k c : Nat} {s : Array Nat} (h : wr.ownsRow base e size v n xs) (hi : wr.heap[it]? = some (.mapIter m k s c)) : v.ownBlock ≠ some it := by
  rcases h.2 with ⟨rfl, _⟩ | ⟨g, cap, cur, rfl, _, hgb, _⟩
  · simp [Value.ownBlock]
  · intro e'
    obtain rfl : g = it := by simpa [Value.ownBlock] using e'
    rw [hgb] at hi; cases hi
theorem PSt.grown {w : World} {cs : Array Value} {b : Bk} {bm it : Nat} {wr w1 : World} {seen : List Nat} {v : Value} {n : Nat} {xs : List Value} (h : PSt w cs b bm it wr seen) (ho : wr.ownsRow (w.heap.size + 1) 3 1 v n xs) (hp : PB w cs w1) (hg : wr.grownBy w1 v.ownBlock) : PSt w cs b bm it w1 seen :=
  ⟨hp, (hg.block it (blk_lt h.ih) (fun e => own_not (w := w) ho h.ih e.symm)).trans h.ih, h.ib, h.nd, h.lt⟩
theorem nodup_le : ∀ (n : Nat) {seen : List Nat}, seen.Nodup → (∀ i ∈ seen, i < n) → seen.length ≤ n
  | 0, seen, _, hlt => by
    cases seen with
    | nil => simp
    | cons x l => have := hlt x (by simp); omega
  | n + 1, seen, h, hlt => by
    have h1 : (seen.erase n).length ≤ n := nodup_le n (h.erase n) (fun i hi => by
      have h2 := (List.Nodup.mem_erase_iff h).1 hi
      have h3 := hlt i h2.2
      have h4 := h2.1
      omega)
    rw [List.length_erase] at h1
    split at h1 <;> omega
def itLeft (n it : Nat) (wr : World) : Nat := match wr.heap[it]? with | some (.mapIter _ _ s _) => n - s.size | _ => 0
theorem saltVal_le {b : Bk} {parts : List Int} (hq : SP b) (hp : ∀ x ∈ parts, 0 ≤ x ∧ x ≤ 9) (hl : parts.length = b.salts.length) (k : Nat) (hlt : k < parts.length) : 0 ≤ saltVal b parts k ∧ saltVal b parts k ≤ 81 := by
  have hlt2 : k < b.salts.length := hl ▸ hlt
  have hmem := hq.s _ (rd68_mem (xs := b.salts) hlt2)
  have hpm := hp (rd parts k) (by
    unfold rd
    rw [List.getD_eq_getElem?_getD, Int.toNat_natCast, List.getElem?_eq_getElem hlt]
    exact List.getElem_mem _)
  obtain ⟨m0, m1, _⟩ := hmem
  obtain ⟨p0, p1⟩ := hpm
  refine ⟨Int.mul_nonneg p0 m0, ?_⟩
  have := Int.mul_le_mul p1 m1 m0 (by omega)
  unfold saltVal
  omega
theorem PInv2.start {w : World} {cs : Array Value} {b : Bk} {parts : List Int} {bm : Nat} {wr : World} {v : Value} (hq : SP b) (hp : ∀ x ∈ parts, 0 ≤ x ∧ x ≤ 9) (hl : parts.length = b.salts.length) (hv : PB w cs wr)
    (ho : wr.ownsRow (w.heap.size + 1) 3 1 v parts.length (nums .i64 ((List.range parts.length).map (saltVal b parts)))) (hle : parts.length ≤ 4) :
    PInv2 w cs b parts bm wr.heap.size (wr.alloc (.mapIter (some bm) b.pairs.length #[] b.pairs.length)) v [] :=
  ⟨⟨hv.alloc _, blk_new _ _, hv.size, List.nodup_nil, by simp⟩, (List.range parts.length).map (saltVal b parts), by
      have := ho.alloc (.mapIter (some bm) b.pairs.length #[] b.pairs.length)
      simpa using this, by
    intro x hx
    rw [List.mem_map] at hx
    obtain ⟨k, hk, rfl⟩ := hx
    have := saltVal_le hq hp hl k (List.mem_range.1 hk)
    omega, by simp; omega, by simp⟩
theorem PSt.left {w : World} {cs : Array Value} {b : Bk} {bm it : Nat} {wr : World} {seen : List Nat} (h : PSt w cs b bm it wr seen) : itLeft b.pairs.length it wr = b.pairs.length - seen.length := by
  unfold itLeft
  rw [h.ih]
  simp
theorem PSt.fewer {w : World} {cs : Array Value} {b : Bk} {bm it j : Nat} {wr w1 : World} {seen : List Nat} (h : PSt w cs b bm it wr seen) (h1 : PSt w cs b bm it w1 (seen ++ [j])) : itLeft b.pairs.length it w1 < itLeft b.pairs.length it wr := by
  rw [h.left, h1.left]
  have := nodup_le _ h1.nd h1.lt
  simp at this ⊢
  omega
theorem left_none {es : Array MapEntry} {seen : Array Nat} (h : (leftOf es seen).size = 0) {e : MapEntry} (he : e ∈ es.toList) : e.born ∈ seen.toList := by
  have h1 : leftOf es seen = #[] := Array.eq_empty_of_size_eq_zero h
  unfold leftOf at h1
  rw [Array.filter_eq_empty_iff] at h1
  have := h1 e (by simpa using he)
  simpa using this
theorem left_mem {es : Array MapEntry} {seen : Array Nat} {e : MapEntry} (he : e ∈ (leftOf es seen).toList) : e ∈ es.toList ∧ e.born ∉ seen.toList := by
  unfold leftOf at he
  simp at he
  exact ⟨by simpa using he.1, by simpa using he.2⟩
theorem PInv2.done {w : World} {cs : Array Value} {b : Bk} {parts : List Int} {bm it : Nat} {wr : World} {v : Value} {seen : List Nat} (hq : SP b) (h : PInv2 w cs b parts bm it wr v seen) (hz : (leftOf (mapEs b.pairs) seen.toArray).size = 0) :
    ∃ (xs : List Int) (A : Option Addr) (c : Nat), v = .slice A xs.length c ∧ ReadsInt wr .i64 A xs.length xs ∧ (∀ x ∈ xs, 0 ≤ x ∧ x ≤ 1000) ∧ xs.length ≤ 1000 ∧ xs.sum = powerI b parts := by
  obtain ⟨xs, ho, hb, hlen, hsum⟩ := h.own
  obtain ⟨A, c, rfl, hr⟩ := own_reads ho
  have h1 := nodup_le _ h.nd h.lt
  have h2 := hq.p1
  refine ⟨xs, A, c, rfl, hr, hb, by omega, ?_⟩
  rw [hsum, seen_all h.nd h.lt (fun i hi => by simpa [entryOf] using left_none hz (mapEs_at hi)) (fun i => pairVal parts (rd_T77 b.pairs i)), range_map b.pairs (pairVal parts)]
  rfl
theorem PInv2.got {w : World} {cs : Array Value} {b : Bk} {parts : List Int} {bm it : Nat} {wr : World} {v : Value} {seen : List Nat} (h : PInv2 w cs b parts bm it wr v seen) (nd j : Nat) (hj : j < b.pairs.length) (he : entryOf b.pairs j ∈ (leftOf (mapEs b.pairs) seen.toArray).toList)
    {W2 : World} (hW : (wr.drewN nd).putObj it (.mapIter (some bm) b.pairs.length (seen.toArray.push (entryOf b.pairs j).born) b.pairs.length) = W2) : PSt w cs b bm it W2 (seen ++ [j]) ∧ POwn w b parts W2 v seen := by
  subst hW
  have hx := (left_mem he).2
  have hnew : j ∉ seen := by simpa [entryOf] using hx
  have hlt := blk_lt h.ih
  refine ⟨⟨?_, ?_, h.ib, ?_, ?_⟩, ?_⟩
  · refine Below.trans h.pb ⟨rfl, rfl, rfl, by simp [World.drewN], fun k hk => ?_⟩
    have := h.ib
    exact (World.putObj_heap_other (w := wr.drewN nd) (by omega)).trans rfl
  · rw [World.putObj_heap_same (w := wr.drewN nd) hlt]
    simp [entryOf]
  · rw [List.nodup_append]
    refine ⟨h.nd, by simp, ?_⟩
    intro a ha c hc
    simp at hc
    subst hc
    intro e
    subst e
    exact hnew ha
  · intro i hi
    simp at hi
    rcases hi with hi | rfl
    · exact h.lt i hi
    · exact hj
  · obtain ⟨xs, ho, hb, hlen, hsum⟩ := h.own
    refine ⟨xs, ?_, hb, hlen, hsum⟩
    have ho2 : (wr.drewN nd).ownsRow (w.heap.size + 1) 3 1 v xs.length (nums .i64 xs) := ho
    refine ho2.kept ⟨rfl, rfl, rfl, by simp, fun i _ hne => World.putObj_heap_other (w := wr.drewN nd) (by simpa using hne)⟩ (.inr (own_not (w := w) ho h.ih))
theorem POwn.skip {w : World} {b : Bk} {parts : List Int} {wr w1 : World} {v : Value} {seen : List Nat} (h : POwn w b parts wr v seen) (hb : Below wr.heap.size wr w1) {j : Nat} (hz : pairVal parts (rd_T77 b.pairs j) = 0) : POwn w b parts w1 v (seen ++ [j]) := by
  obtain ⟨xs, ho, hx, hlen, hsum⟩ := h
  exact ⟨xs, pw_own_below ho hb, hx, by simp; omega, by rw [hsum]; simp [hz]⟩
theorem POwn.more {w : World} {b : Bk} {parts : List Int} {w1 : World} {v : Value} {seen : List Nat} {xs : List Int} (hx : ∀ x ∈ xs, 0 ≤ x ∧ x ≤ 1000) (hlen : xs.length ≤ 4 + seen.length)
    (hsum : xs.sum = ((List.range parts.length).map (saltVal b parts)).sum + (seen.map fun (i : Nat) => pairVal parts (rd_T77 b.pairs i)).sum) {j : Nat} {y : Int} (hy : pairVal parts (rd_T77 b.pairs j) = y) (hy0 : 0 ≤ y) (hy1 : y ≤ 30)
    (ho : w1.ownsRow (w.heap.size + 1) 3 1 v (xs ++ [y]).length (nums .i64 (xs ++ [y]))) : POwn w b parts w1 v (seen ++ [j]) := by
  refine ⟨xs ++ [y], ho, ?_, by simp; omega, ?_⟩
  · intro x h
    simp at h
    rcases h with h | rfl
    · exact hx x h
    · omega
  · simp [hsum, hy]
    omega
set_option maxRecDepth 20000 in
set_option maxHeartbeats 800000 in
theorem power_calls {cs : Array Value} {h : Hd} {b : Bk} {all : Nat → Bool} {w : World} (hc : IsBook cs h b all) (hb : BkIn w h b) (hq : SP b) (bm : Nat) (h5 : cs[5]? = some (.map (some bm)))
    (hm : w.heap[bm]? = some (.map (mapEs b.pairs) b.pairs.length)) (A : Option Addr) (c : Nat) (parts : List Int) (hr : ReadsInt w .i64 A parts.length parts) (hl : parts.length = b.salts.length) (hp : ∀ x ∈ parts, 0 ≤ x ∧ x ≤ 9) :
    Calls Tryd.prog 101 #[.agg cs, .slice A parts.length c] w fun e w' => e = .returned (.int .i64 (powerI b parts)) ∧ Below w.heap.size w w' := by
  have HI := Lib.hid (show (Tryd.prog.info? 113).map (·.size) = some cs.size by rw [hc.size]; exact i113)
  have h0 := hc.c0
  have HR := Lib.hid hr
  have HP := Lib.hid hp
  have HM := Lib.hid hm
  have HL := Lib.hid hl
  have hle : parts.length ≤ 4 := hl ▸ hq.s1
  clear hr hp hm hl
  go_enter Tryd.func101, Tryd.ntmps101
  go_wp2_with (first | (with_reducible refine b_box (t := 113) rfl rfl rfl ?_))
  go_step3
  go_wp2

  go_loopw [5, 12] (fun v i wr => ∃ k : Nat, k ≤ parts.length ∧ i = .int .i64 k ∧ Aside0 (PB w cs wr) ∧ Aside0 (wr.ownsRow (w.heap.size + 1) 3 1 v k (nums .i64 ((List.range k).map (saltVal b parts))))) (fun _ i _ => parts.length - (intOf i).toNat)
  case atStart => exact ⟨0, Nat.zero_le _, rfl, ⟨PB.start _ _⟩, ⟨own_nil _ _ _ _⟩⟩
  case round =>
    obtain ⟨k, hk, rfl, HV, HO⟩ := hrel
    by_cases hlt : k < parts.length
    · obtain ⟨ad, hA, hcp⟩ := (HR.out.below HV.out.below).at_ k (by omega) (by omega)
      obtain ⟨ad0, hA0, t0, t1, t2⟩ := at_T68 (Kd.C_below hb.r0 HV.out.below) k (by omega) (by have := HL.out; omega)
      subst hA
      simp only [Int.toNat_natCast] at t0 t1 t2 hcp
      have hlt2 : k < b.salts.length := HL.out ▸ hlt
      have hmem := hq.s _ (rd68_mem (xs := b.salts) hlt2)
      have hpm := HP.out (rd parts k) (by
        unfold rd
        rw [List.getD_eq_getElem?_getD, Int.toNat_natCast, List.getElem?_eq_getElem hlt]
        exact List.getElem_mem _)
      obtain ⟨m0, m1, _⟩ := hmem
      obtain ⟨p0, p1⟩ := hpm
      have hx0 : 0 ≤ rd parts k * (rd_T68 b.salts k).f0 := Int.mul_nonneg p0 m0
      have hx1 : rd parts k * (rd_T68 b.salts k).f0 ≤ 81 := by
        have := Int.mul_le_mul p1 m1 m0 (by omega)
        omega
      have h0' := h0
      rw [hA0] at h0'
      have c0 := (blk_cell HV.out.b0 0).trans h0'
      have e4 := World.block_lt_of_cell? wr _ t0
      have e5 := World.block_lt_of_cell? wr _ hcp
      have hz : w.heap.size < wr.heap.size := by have := HV.out.size; omega
      have HS : Aside0 (rd parts k * (rd_T68 b.salts k).f0 = saltVal b parts k) := ⟨rfl⟩
      have hz1 : w.heap.size + 1 ≤ wr.heap.size := HV.out.size
      clear hA0 h0'
      have HOl : Aside0 (((List.range k).map (saltVal b parts)).length = k) := ⟨by simp⟩
      go_wp2_with (first | (at_builtin; refine print_append_num (w0 := w.alloc (.cells cs 113)) (w.heap.size + 1) rfl _ _ 28 3 .i64 8 rfl Tryd.underlying28 i3x (by decide) _ ((List.range k).map (saltVal b parts)) (rd parts k * (rd_T68 b.salts k).f0) rfl rfl (by rw [HOl.out]; exact HO.out) HV.out hz1 (by rw [HOl.out]; omega) ?_; intro v1 w1 HO1 HV1 HG1 _; have HO1 := Aside0.mk HO1; have HV1 := Aside0.mk HV1; clear HG1))
      go_roundw
      case rel =>
        refine ⟨k + 1, by omega, by go_num, ⟨HV1.out⟩, ⟨?_⟩⟩
        have := HO1.out
        rw [HS.out] at this
        simpa [List.range_succ] using this
      case measure => simp [intOf]; omega
    · obtain rfl : k = parts.length := by omega
      clear hlt
      have hz : w.heap.size < wr.heap.size := by have := HV.out.size; omega
      have c5 := (blk_cell HV.out.b0 5).trans h5
      have hmw : wr.heap[bm]? = some (.map (mapEs b.pairs) b.pairs.length) := blk_below HM.out HV.out.below
      have HMW := Lib.hid hmw
      clear hmw
      go_wp2
      go_step3
      go_wp2_with (first | ((with_reducible refine gate_dst (N := 32) rfl ?_); refine b_value rfl (x_range rfl rfl (run_range' HMW.out)) ?_))
      have HT0 := PInv2.start (bm := bm) hq HP.out HL.out HV.out HO.out hle
      clear HO HMW c5
      simp only [Act.put, List.setIfInBounds_toArray, List.set_cons_succ, List.set_cons_zero]
      generalize hit : wr.heap.size = it at HT0 ⊢
      go_loopw [5] (fun v wz => ∃ seen : List Nat, Aside0 (PInv2 w cs b parts bm it wz v seen)) (fun _ wz => itLeft b.pairs.length it wz)
      case atStart => exact ⟨[], ⟨HT0⟩⟩
      case round =>
        obtain ⟨seen, HT⟩ := hrel
        have hmz : wr.heap[bm]? = some (.map (mapEs b.pairs) b.pairs.length) := blk_below HM.out HT.out.pb.below
        have hold : ∀ x ∈ (mapEs b.pairs).toList, x.born < b.pairs.length := by
          intro x hx
          have : x.born ∈ (mapEs b.pairs).toList.map (·.born) := List.mem_map_of_mem hx
          rw [mapEs_born] at this
          exact List.mem_range.1 this
        rcases run_next' (ty := 0) HT.out.ih hmz hold (Nat.le_refl _) with ⟨hz0, hnx⟩ | ⟨e, he, nd, hnx⟩
        · have HX := Lib.hid hnx
          clear hnx hold hmz
          go_wp2_with (first | ((with_reducible refine gate_dst (N := 33) rfl ?_); go_loud (refine b_value rfl (x_next (x := .tmp 32) (s := false) rfl rfl HX.out) ?_)))
          obtain ⟨xs, A', c', rfl, hr', hx', hn', hs'⟩ := HT.out.done hq hz0
          have HR' := Lib.hid hr'
          have HX' := Lib.hid hx'
          have HS' := Aside0.mk hs'
          clear hr' hx' hs' hz0
          go_wp2_with (first | ((with_reducible refine gate_dst (N := 33) rfl ?_); refine b_value rfl (x_next (x := .tmp 32) (s := false) rfl rfl HX.out) ?_) | (go_at_call 113; refine (sum_calls A' c' xs wr HR'.out HX'.out hn').mono ?_; rintro e w1 ⟨rfl, hb1⟩))
          rw [Exit.noGoto_ret]
          go_ret
          exact ⟨by rw [HS'.out]; rfl, below_then HT.out.pb.below (by have := HT.out.pb.size; omega) hb1⟩
        · have HX := Lib.hid hnx
          clear hnx
          obtain ⟨j, hj, rfl⟩ := mapEs_mem (left_mem he).1
          have hmz2 : ((wr.drewN nd).putObj it (.mapIter (some bm) b.pairs.length (seen.toArray.push (entryOf b.pairs j).born) b.pairs.length)).heap[it]? = some (.mapIter (some bm) b.pairs.length (seen.toArray.push (entryOf b.pairs j).born) b.pairs.length) := by
            refine World.putObj_heap_same ?_
            exact blk_lt HT.out.ih
          generalize hW2 : (wr.drewN nd).putObj it (.mapIter (some bm) b.pairs.length (seen.toArray.push (entryOf b.pairs j).born) b.pairs.length) = W2 at HX hmz2
          obtain ⟨hG1, hG2⟩ := HT.out.got nd j hj he hW2
          have HG1 := Aside0.mk hG1
          have HG2 := Aside0.mk hG2
          clear hW2
          have HEN := Lib.hid (run_entry' hmz2 (blk_below HM.out HG1.out.pb.below) (left_mem he).1 (by rw [mapEs_born]; exact List.nodup_range))
          clear hmz2 hmz hG1 hG2 hold he
          obtain ⟨f0, f1, f2, f3, f4, f5⟩ := hq.p _ (rd77_mem (xs := b.pairs) hj)
          simp only [entryOf] at HX HEN
          rw [← HL.out] at f1 f3
          obtain ⟨ad, hA, hc0⟩ := (HR.out.below HG1.out.pb.below).at_ (rd_T77 b.pairs j).f0 f0 f1
          obtain ⟨ad2, hA', hc1⟩ := (HR.out.below HG1.out.pb.below).at_ (rd_T77 b.pairs j).f1 f2 f3
          have hee : ad2 = ad := Option.some.inj (hA'.symm.trans hA)
          rw [hee] at hc1
          clear hee
          have HA := Aside0.mk hA
          clear hA hA'
          have e4 := World.block_lt_of_cell? W2 _ hc0
          have e5 := World.block_lt_of_cell? W2 _ hc1
          have HQ : Aside0 (pairVal parts (rd_T77 b.pairs j) = if rd parts (rd_T77 b.pairs j).f0 = 0 ∨ rd parts (rd_T77 b.pairs j).f1 = 0 then 0 else (rd_T77 b.pairs j).f2) := ⟨rfl⟩
          have hA2 := HA.out
          subst hA2
          by_cases z0 : rd parts (rd_T77 b.pairs j).f0 = 0
          · have hval : Aside0 (pairVal parts (rd_T77 b.pairs j) = 0) := ⟨by rw [HQ.out, if_pos (.inl z0)]⟩
            go_wp2_with (first | ((with_reducible refine gate_dst (N := 33) rfl ?_); refine b_value rfl (x_next (x := .tmp 32) (s := false) rfl rfl HX.out) ?_) | ((with_reducible refine gate_dst (N := 35) rfl ?_); refine b_value rfl (x_entry (x := .tmp 32) rfl rfl HEN.out) ?_))
            go_roundw
            case rel => exact ⟨seen ++ [j], ⟨⟨HG1.out.on (by repeat (first | exact Below.refl _ _ | refine below_alloc ?_ _ | refine below_drew ?_)), HG2.out.skip (by repeat (first | exact Below.refl _ _ | refine below_alloc ?_ _ | refine below_drew ?_)) hval.out⟩⟩⟩
            case measure => exact HT.out.toPSt.fewer (HG1.out.on (by repeat (first | exact Below.refl _ _ | refine below_alloc ?_ _ | refine below_drew ?_)))
          · by_cases z1 : rd parts (rd_T77 b.pairs j).f1 = 0
            · have hval : Aside0 (pairVal parts (rd_T77 b.pairs j) = 0) := ⟨by rw [HQ.out, if_pos (.inr z1)]⟩
              go_wp2_with (first | ((with_reducible refine gate_dst (N := 33) rfl ?_); refine b_value rfl (x_next (x := .tmp 32) (s := false) rfl rfl HX.out) ?_) | ((with_reducible refine gate_dst (N := 35) rfl ?_); refine b_value rfl (x_entry (x := .tmp 32) rfl rfl HEN.out) ?_))
              go_roundw
              case rel => exact ⟨seen ++ [j], ⟨⟨HG1.out.on (by repeat (first | exact Below.refl _ _ | refine below_alloc ?_ _ | refine below_drew ?_)), HG2.out.skip (by repeat (first | exact Below.refl _ _ | refine below_alloc ?_ _ | refine below_drew ?_)) hval.out⟩⟩⟩
              case measure => exact HT.out.toPSt.fewer (HG1.out.on (by repeat (first | exact Below.refl _ _ | refine below_alloc ?_ _ | refine below_drew ?_)))
            · have hval : Aside0 (pairVal parts (rd_T77 b.pairs j) = (rd_T77 b.pairs j).f2) := ⟨by rw [HQ.out, if_neg (by omega)]⟩
              obtain ⟨xs, ho, hx, hlen, hsum⟩ := HG2.out
              have HO := Aside0.mk ho
              have HXS := Lib.hid hx
              have HSUM := Aside0.mk hsum
              have hn' : seen.length ≤ 4 := by have := nodup_le _ HT.out.nd HT.out.lt; have := hq.p1; omega
              clear ho hx hsum
              have zb0 : (rd parts (rd_T77 b.pairs j).f0 == 0) = false := by simpa using z0
              have zb1 : (rd parts (rd_T77 b.pairs j).f1 == 0) = false := by simpa using z1
              have hz1 : w.heap.size + 1 ≤ W2.heap.size + 1 := by have := HG1.out.pb.size; omega
              go_wp2_with (first | ((with_reducible refine gate_dst (N := 33) rfl ?_); refine b_value rfl (x_next (x := .tmp 32) (s := false) rfl rfl HX.out) ?_) | ((with_reducible refine gate_dst (N := 35) rfl ?_); refine b_value rfl (x_entry (x := .tmp 32) rfl rfl HEN.out) ?_) | (at_builtin; go_loud (refine print_append_num (w0 := w.alloc (.cells cs 113)) (w.heap.size + 1) rfl (.tmp 52) (.tmp 54) 28 3 .i64 8 rfl Tryd.underlying28 i3x (by decide) _ xs (rd_T77 b.pairs j).f2 rfl (congrArg (fun z => Value.slice (some ⟨z, 0, none⟩) 1 1) (show W2.heap.size + 1 = _ by simp)) (pw_own_below HO.out (below_alloc (Below.refl _ _) _)) (HG1.out.pb.alloc _) (by simpa using hz1) (by omega) ?_); intro v1 w1 HO1 HV1 HG3 _; have HO1 := Aside0.mk HO1; have HV1 := Aside0.mk HV1; have HG3 := Aside0.mk HG3))
              have HF := PSt.grown (HG1.out.on (below_alloc (Below.refl _ _) _)) (pw_own_below HO.out (below_alloc (Below.refl _ _) _)) HV1.out HG3.out
              go_roundw
              case rel => exact ⟨seen ++ [j], ⟨⟨HF, POwn.more HXS.out hlen HSUM.out hval.out f4 f5 HO1.out⟩⟩⟩
              case measure => exact HT.out.toPSt.fewer HF
end Go.Proofs.YtghpoldlddghjaaDoor
namespace Go.Proofs.YtghpoldlddghjaaDoor
open Go Go.RowKit
open Go.Proofs.YtghpoldlddghjaaDoorW.PrintWords Go.Proofs.YtghpoldlddghjaaDoorW.PrintMore Go.Proofs.YtghpoldlddghjaaDoor.PPasteTrue
theorem run_cut (A : Option Addr) (k c : Nat) (h : k ≤ c) (w : World) : (Instr.sliceAt 28 (.slice A k c) none (some (.int .i64 k)) (some (.int .i64 k))).run Tryd.prog w = .ok (.slice A k k) w := by
  simp [Instr.sliceAt, Instr.slice, Instr.sliceBounds, Instr.sliceBound, asIntOf, go_sem, run_underlying Tryd.underlying28, h]
theorem run_more (ty : TypeId) {A : Option Addr} {xs : List Int} {W : World} (hx : ReadsInt W .i64 A xs.length xs) (hl : xs.length ≤ 1000) (g : Nat) (y : Int) (hg : W.heap[g]? = some (.cells #[.int .i64 y] 3 (0, 0))) :
    ∃ a c w', (Builtin.append_ #[28, 28] ty #[.slice A xs.length xs.length, .slice (some ⟨g, 0, none⟩) 1 1]).run Tryd.prog W = .ok (.slice (some a) (xs.length + 1) c) w' ∧ ReadsInt w' .i64 (some a) (xs.length + 1) (xs ++ [y]) ∧ Below W.heap.size W w' ∧ W.heap.size ≤ a.block ∧ xs.length + 1 ≤ c := by
  obtain ⟨i0, hi, hzz⟩ := Option.map_eq_some_iff.1 i3x
  simp only [Prod.mk.injEq] at hzz
  obtain ⟨hz0, hz1, hz2⟩ := hzz
  have hnews : ∀ j u, [Value.int .i64 y][j]? = some u → W.cell? ((⟨g, 0, none⟩ : Addr).add j) = some u := by
    intro j u hu
    cases j with
    | zero =>
      simp at hu
      subst hu
      have := blk_cell hg 0
      simpa [Addr.add] using this
    | succ j => simp at hu
  have key : ∃ v' w', (Builtin.append_ #[28, 28] ty #[.slice A xs.length xs.length, .slice (some ⟨g, 0, none⟩) 1 1]).run Tryd.prog W = .ok v' w' ∧ w'.ownsRow W.heap.size 3 1 v' (xs.length + 1) (nums .i64 (xs ++ [y])) ∧ W.grownBy w' none := by
    cases A with
    | none =>
      have h0 : xs.length = 0 := by
        rcases Nat.eq_zero_or_pos xs.length with e | e
        · exact e
        · obtain ⟨ad, e2, _⟩ := hx.2.2 e
          cases e2
      have hnil : xs = [] := List.length_eq_zero_iff.1 h0
      subst hnil
      obtain ⟨v', w', h1, h2, h3, _⟩ := run_append_own (P := Tryd.prog) (w := W) W.heap.size 28 ty 3 i0 (.int .i64 0) 1 8 Tryd.underlying28 hi hz0 hz1 hz2 rfl (by decide) (.slice none 0 0) 0 [] (own_nil _ _ _ _) ⟨g, 0, none⟩ 1 1 [.int .i64 y] rfl hnews (by simp [Value.oneCell']) (by simp [maxLen]) (by decide) (Nat.le_refl _)
      exact ⟨v', w', h1, by simpa [nums] using h2, by simpa [Value.ownBlock] using h3⟩
    | some b =>
      obtain ⟨v', w', h1, h2, h3⟩ := run_append_arg_grows (P := Tryd.prog) (w := W) 28 ty 3 i0 (.int .i64 0) 1 8 Tryd.underlying28 hi hz0 hz1 hz2 rfl (by decide) b xs.length xs.length (nums .i64 xs) (by simp [nums]) (by
        intro j u hu
        rw [nums, List.getElem?_map] at hu
        rcases Nat.lt_or_ge j xs.length with hj | hj
        · rw [List.getElem?_eq_getElem hj] at hu
          simp at hu
          subst hu
          obtain ⟨ad, e, hcell⟩ := hx.2.2 (by omega)
          cases e
          have := hcell j hj
          rw [this, List.getD_eq_getElem?_getD, List.getElem?_eq_getElem hj]
          rfl
        · rw [List.getElem?_eq_none hj] at hu
          cases hu) ⟨g, 0, none⟩ 1 1 [.int .i64 y] rfl hnews (by omega) (by simp [maxLen]; omega) (by omega)
      exact ⟨v', w', h1, by simpa [nums] using h2, h3⟩
  obtain ⟨v', w', h1, h2, h3⟩ := key
  rcases h2.2 with ⟨_, h0⟩ | ⟨g', cap, cur, hv, hb, _, hcap, _⟩
  · omega
  · obtain ⟨A', c', hv', hr⟩ := own_reads h2
    subst hv
    simp only [Value.slice.injEq] at hv'
    obtain ⟨rfl, _, rfl⟩ := hv'
    exact ⟨⟨g', 0, none⟩, cap, w', h1, hr, ⟨h3.os, h3.tape, h3.output, h3.size, fun k hk => h3.block k hk (by simp)⟩, hb, hcap⟩
section
variable {P : Program} {ρ : Operand → Value} {o : Oper} {w w1 : World}
theorem x_slice {t : TypeId} {x : Operand} {lo hi mx : Option Operand} (ho : o.op = .slice t x lo hi mx) {u v : Value} {a b c : Option Value} (hx : ρ x = u) (ha : lo.map ρ = a) (hb : hi.map ρ = b) (hc : mx.map ρ = c) (h : (Instr.sliceAt t u a b c).run P w = .ok v w1) : (execOp ρ o).run P w = .ok (.value v) w1 := by
  unfold execOp
  simp only [ho, hx, ha, hb, hc, Sem.run_bind, h, Result.andThen_ok]
  rfl
theorem x_append {s x : Operand} {ts : Array TypeId} (ho : o.op = .call { callee := .builtin .append, args := #[s, x], argTypes := ts }) {u1 u2 v : Value} (hs : ρ s = u1) (hx : ρ x = u2) (h : (Builtin.append_ ts o.type #[u1, u2]).run P w = .ok v w1) : (execOp ρ o).run P w = .ok (.value v) w1 := by
  unfold execOp
  simp only [ho, resolve, invoke, builtin, Sem.run_bind, Sem.run_pure, Result.andThen_ok, List.map_toArray, List.map_cons, List.map_nil, hs, hx, h]
theorem x_not {t : TypeId} {x : Operand} (ho : o.op = .unOp .not t x) {b : Bool} (hx : ρ x = .bool b) : (execOp ρ o).run P w = .ok (.value (.bool !b)) w := by
  unfold execOp
  simp only [ho, hx]
  rfl
theorem x_add3 {x y : Operand} {t' : TypeId} (ho : o.op = .binOp .add 3 x y t') {i j : Int} (hx : ρ x = .int .i64 i) (hy : ρ y = .int .i64 j) (h0 : -9223372036854775808 ≤ i + j) (h1 : i + j ≤ 9223372036854775807) : (execOp ρ o).run Tryd.prog w = .ok (.value (.int .i64 (i + j))) w := by
  have hw : wrap64 (i + j) = i + j := by unfold wrap64; omega
  unfold execOp
  simp only [ho, hx, hy]
  go_simp
  exact IntWalk.i64_in _ ⟨h0, h1⟩
theorem x_box3 {x : Operand} (ho : o.op = .buildSlice 28 1 #[(0, x)]) {y : Int} (hx : ρ x = .int .i64 y) : (execOp ρ o).run Tryd.prog w = .ok (.value (.slice (some ⟨w.heap.size, 0, none⟩) 1 1)) (w.alloc (.cells #[.int .i64 y] 3)) := by
  unfold execOp
  simp only [ho, hx]
  go_simp
end
end Go.Proofs.YtghpoldlddghjaaDoor
namespace Go.Proofs.YtghpoldlddghjaaDoor
open Go Go.RowKit
open Go.Proofs.YtghpoldlddghjaaDoorW.PrintWords Go.Proofs.YtghpoldlddghjaaDoorW.PrintMore Go.Proofs.YtghpoldlddghjaaDoor.PPasteTrue
def fills : List S68 → List (List Int)
  | [] => [[]]
  | s :: ss => (List.range (s.f1.f1 - s.f1.f0 + 1).toNat).flatMap fun (n : Nat) => (fills ss).map ((s.f1.f0 + (n : Int)) :: ·)
def markAll (b : Bk) (all : Nat → Bool) (L : List (List Int)) : Nat → Bool := fun n => all n || L.any fun xs => decide (powerI b xs = n)
abbrev ptr (g : Nat) : Value := .pointer (some ⟨g, 0, none⟩)
def onV (gB gY gO : Nat) : Value := .func (.func 112) #[] #[ptr gB, ptr gY, ptr gO]
structure OnIn (cs0 : Array Value) (gB gY gO l : Nat) (W : World) : Prop where
  hB : W.heap[gB]? = some (.cells cs0 113 (0, 0))
  hY : W.heap[gY]? = some (.cells #[.func (.yield l) #[] #[]] 173 (0, 0))
  hO : W.heap[gO]? = some (.cells #[onV gB gY gO] 173 (0, 0))
structure YieldOk (b : Bk) (h : Hd) (l g3 : Nat) (J : (Nat → Bool) → World → Prop) : Prop where
  below : ∀ all W W', J all W → Below W.heap.size W W' → J all W'
  bk : ∀ all W, J all W → BkIn W h b
  lt : ∀ all W, J all W → g3 < W.heap.size
  y : ∀ all W A c (xs : List Int) n, J all W → ReadsInt W .i64 A xs.length xs → (∀ x ∈ xs, 0 ≤ x ∧ x ≤ 9) → xs.length = b.salts.length → ∃ fn tmps assign body, (Instr.yield l #[.slice A xs.length c]).run Tryd.prog W = .ok (.round l fn tmps assign body) W ∧
    RoundIn Fence.wide n Tryd.prog l fn tmps assign body W (fun e W' => e = .returned (.bool true) ∧ J (markAll b all [xs]) W' ∧ W.grownBy W' (some g3))
theorem OnIn.grown {cs0 : Array Value} {gB gY gO l g3 : Nat} {W W' : World} (h : OnIn cs0 gB gY gO l W) (hg : W.grownBy W' (some g3)) (h1 : gB ≠ g3) (h2 : gY ≠ g3) (h3 : gO ≠ g3) : OnIn cs0 gB gY gO l W' :=
  ⟨(hg.block gB (blk_lt h.hB) (by simpa using h1)).trans h.hB, (hg.block gY (blk_lt h.hY) (by simpa using h2)).trans h.hY, (hg.block gO (blk_lt h.hO) (by simpa using h3)).trans h.hO⟩
theorem OnIn.below {cs0 : Array Value} {gB gY gO l : Nat} {W W' : World} (h : OnIn cs0 gB gY gO l W) (hb : Below W.heap.size W W') : OnIn cs0 gB gY gO l W' :=
  ⟨blk_below h.hB hb, blk_below h.hY hb, blk_below h.hO hb⟩
theorem reads_grown {W W' : World} {A : Option Addr} {n g3 : Nat} {xs : List Int} (h : ReadsInt W .i64 A n xs) (hg : W.grownBy W' (some g3)) (hA : ∀ a, A = some a → a.block ≠ g3) : ReadsInt W' .i64 A n xs :=
  ⟨h.1, h.2.1, fun hn => by
    obtain ⟨ad, e, hc⟩ := h.2.2 hn
    refine ⟨ad, e, fun j hj => ?_⟩
    have h1 := hc j hj
    have h2 := World.block_lt_of_cell? W _ h1
    refine (World.cell?_of_block (hg.block _ h2 ?_)).trans h1
    have := hA ad e
    simp [Addr.add]
    split <;> simpa using this⟩
def part (b : Bk) (xs : List Int) (lo : Int) (n : Nat) : List (List Int) := (List.range n).flatMap fun (m : Nat) => (fills (b.salts.drop (xs.length + 1))).map fun ys => xs ++ (lo + (m : Int)) :: ys
theorem part_zero (b : Bk) (xs : List Int) (lo : Int) : part b xs lo 0 = [] := rfl
theorem part_succ (b : Bk) (xs : List Int) (lo : Int) (n : Nat) : part b xs lo (n + 1) = part b xs lo n ++ (fills (b.salts.drop (xs.length + 1))).map fun ys => xs ++ (lo + (n : Int)) :: ys := by
  unfold part
  rw [List.range_succ, List.flatMap_append]
  simp
theorem markAll_nil (b : Bk) (all : Nat → Bool) : markAll b all [] = all := by
  funext n
  simp [markAll]
theorem markAll_append (b : Bk) (all : Nat → Bool) (L1 L2 : List (List Int)) : markAll b (markAll b all L1) L2 = markAll b all (L1 ++ L2) := by
  funext n
  simp [markAll, Bool.or_assoc]
theorem part_next (b : Bk) (all : Nat → Bool) (xs : List Int) (lo : Int) (n : Nat) : markAll b (markAll b all (part b xs lo n)) ((fills (b.salts.drop (xs.length + 1))).map ((xs ++ [lo + (n : Int)]) ++ ·)) = markAll b all (part b xs lo (n + 1)) := by
  rw [markAll_append, part_succ]
  congr 2
  refine List.map_congr_left (fun ys _ => ?_)
  simp
structure OnSt (J : (Nat → Bool) → World → Prop) (g3 : Nat) (xs : List Int) (y : Int) (all1 all2 : Nat → Bool) (wr wq : World) (b9 b10 b11 : Bool) (v : Value) : Prop where
  i10 : b10 = true → b9 = true
  i11 : b11 = true → b10 = true
  g : wr.grownBy wq (some g3)
  bw : b11 = false → Below wr.heap.size wr wq ∧ J all1 wq
  z9 : b9 = false → wq.heap.size = wr.heap.size
  c9 : b9 = true → b10 = false → wq.heap[wr.heap.size]? = some (.cells #[.int .i64 y] 3 (0, 0))
  c10 : b10 = true → b11 = false → ∃ a c', v = .slice (some a) (xs.length + 1) c' ∧ ReadsInt wq .i64 (some a) (xs.length + 1) (xs ++ [y]) ∧ wr.heap.size ≤ a.block ∧ xs.length + 1 ≤ c'
  c11 : b11 = true → J all2 wq
theorem OnSt.start {J : (Nat → Bool) → World → Prop} {g3 : Nat} {xs : List Int} {y : Int} {all1 all2 : Nat → Bool} {wr : World} {v : Value} (h : J all1 wr.drew) : OnSt J g3 xs y all1 all2 wr wr.drew false false false v :=
  ⟨by simp, by simp, grown_of_below (Below.refl _ _).drew _, fun _ => ⟨(Below.refl _ _).drew, h⟩, fun _ => rfl, by simp, by simp, by simp⟩
theorem OnSt.box {J : (Nat → Bool) → World → Prop} {g3 : Nat} {xs : List Int} {y : Int} {all1 all2 : Nat → Bool} {wr wq : World} {b10 b11 : Bool} {v : Value} (h : OnSt J g3 xs y all1 all2 wr wq false b10 b11 v)
    (hJ : ∀ all W W', J all W → Below W.heap.size W W' → J all W') : b10 = false ∧ b11 = false ∧ OnSt J g3 xs y all1 all2 wr (wq.alloc (.cells #[.int .i64 y] 3)) true b10 b11 v := by
  have e10 : b10 = false := by
    cases b10 with
    | false => rfl
    | true => have := h.i10 rfl; cases this
  subst e10
  have e11 : b11 = false := by
    cases b11 with
    | false => rfl
    | true => have := h.i11 rfl; cases this
  subst e11
  obtain ⟨hb, hj⟩ := h.bw rfl
  have hb2 := below_alloc hb (.cells #[.int .i64 y] 3)
  refine ⟨rfl, rfl, by simp, by simp, grown_of_below hb2 _, fun _ => ⟨hb2, hJ _ _ _ hj (below_alloc (Below.refl _ _) _)⟩, by simp, fun _ _ => new_at (h.z9 rfl).symm, by simp, by simp⟩
theorem OnSt.app {J : (Nat → Bool) → World → Prop} {g3 : Nat} {xs : List Int} {y : Int} {all1 all2 : Nat → Bool} {wr wq w1 : World} {b11 : Bool} {v v' : Value} (h : OnSt J g3 xs y all1 all2 wr wq true false b11 v)
    (hJ : ∀ all W W', J all W → Below W.heap.size W W' → J all W') {a : Addr} {c : Nat} (hv : v' = .slice (some a) (xs.length + 1) c) (hr : ReadsInt w1 .i64 (some a) (xs.length + 1) (xs ++ [y])) (hb : Below wq.heap.size wq w1) (ha : wq.heap.size ≤ a.block) (hc : xs.length + 1 ≤ c) :
    b11 = false ∧ OnSt J g3 xs y all1 all2 wr w1 true true b11 v' := by
  have e11 : b11 = false := by
    cases b11 with
    | false => rfl
    | true => have := h.i11 rfl; cases this
  subst e11
  obtain ⟨hb0, hj⟩ := h.bw rfl
  have hb2 := below_step hb0 hb
  refine ⟨rfl, by simp, by simp, grown_of_below hb2 _, fun _ => ⟨hb2, hJ _ _ _ hj hb⟩, by simp, by simp, fun _ _ => ⟨a, c, hv, hr, Nat.le_trans hb0.size ha, hc⟩, by simp⟩
theorem OnSt.call {J : (Nat → Bool) → World → Prop} {g3 : Nat} {xs : List Int} {y : Int} {all1 all2 : Nat → Bool} {wr wq w1 : World} {v v' : Value} (h : OnSt J g3 xs y all1 all2 wr wq true true false v)
    (hj : J all2 w1) (hg : wq.grownBy w1 (some g3)) : OnSt J g3 xs y all1 all2 wr w1 true true true v' :=
  ⟨by simp, by simp, h.g.trans hg, by simp, by simp, by simp, by simp, fun _ => hj⟩
theorem u173 : (Tryd.prog.info? 173).map (·.size) = some 1 := by kernel_rfl
set_option maxRecDepth 20000 in
set_option maxHeartbeats 800000 in
theorem on_calls {cs0 : Array Value} {h : Hd} {b : Bk} {all0 : Nat → Bool} {l g3 gB gY gO : Nat} {J : (Nat → Bool) → World → Prop} (hc : IsBook cs0 h b all0) (hq : SP b) (hJ : YieldOk b h l g3 J) (h1 : gB ≠ g3) (h2 : gY ≠ g3) (h3 : gO ≠ g3) :
    ∀ (r : Nat) (A : Option Addr) (c : Nat) (xs : List Int) (all : Nat → Bool) (W : World), xs.length + r = b.salts.length → J all W → OnIn cs0 gB gY gO l W → ReadsInt W .i64 A xs.length xs → xs.length ≤ c → (A = none → c = 0) → (∀ a, A = some a → a.block ≠ g3) → (∀ x ∈ xs, 0 ≤ x ∧ x ≤ 9) →
    Calls Tryd.prog 112 #[.slice A xs.length c, ptr gB, ptr gY, ptr gO] W fun e W' => e = .returned (.bool true) ∧ J (markAll b all ((fills (b.salts.drop xs.length)).map (xs ++ ·))) W' ∧ W.grownBy W' (some g3)
  | 0, A, c, xs, all, W, hr, hw, hon, hx, hxc, hA0, hA, hp => by
    have hc0 := hc.c0
    have c0 := (blk_cell hon.hB 0).trans hc0
    have cY : W.cell? ⟨gY, 0, none⟩ = some (.func (.yield l) #[] #[]) := (blk_cell hon.hY 0).trans rfl
    have zB := blk_lt hon.hB
    have zY := blk_lt hon.hY
    have hr' : xs.length = b.salts.length := by omega
    obtain ⟨fn, tmps, assign, body, hy, hround⟩ := hJ.y all W A c xs 0 hw hx hp hr'
    have HY := Lib.hid hy
    have HRD := Lib.hid hround
    have HX := Lib.hid hx
    have HR := Lib.hid hr'
    clear hy hround hx hon hr
    have heq : ((xs.length : Int) == (b.salts.length : Int)) = true := by simp [hr']
    clear hr'
    go_enter Tryd.func112, Tryd.ntmps112
    go_upto_region 3 with (first | fail)
    refine (wpIn_wide (n := 1)).1 ?_
    have hy1 := HY.out
    gi_wp2
    refine HRD.out.mono ?_
    rintro e W1 ⟨rfl, hj, hg⟩
    clear hy1
    have HJ1 := Aside0.mk hj
    have HG1 := Aside0.mk hg
    clear hj hg
    gi_wp2
    go_wp2
    go_ret
    refine ⟨rfl, ?_, HG1.out⟩
    have hd : b.salts.drop xs.length = [] := List.drop_eq_nil_of_le (by have := HR.out; omega)
    rw [hd]
    simpa [fills] using HJ1.out
  | r + 1, A, c, xs, all, W, hr, hw, hon, hx, hxc, hA0, hA, hp => by
    have hc0 := hc.c0
    have c0 := (blk_cell hon.hB 0).trans hc0
    have zB := blk_lt hon.hB
    have zO := blk_lt hon.hO
    have zg := hJ.lt all W hw
    have hk : xs.length < b.salts.length := by omega
    have hle4 := hq.s1
    obtain ⟨ad0, hA0', t0, t1, t2⟩ := at_T68 (hJ.bk all W hw).r0 xs.length (by omega) (by omega)
    obtain ⟨s0, s1, s2, s3, s4⟩ := hq.s _ (rd68_mem (xs := b.salts) hk)
    have HS : Aside0 (fills (b.salts.drop xs.length) = (List.range ((rd_T68 b.salts xs.length).f1.f1 - (rd_T68 b.salts xs.length).f1.f0 + 1).toNat).flatMap fun (n : Nat) => (fills (b.salts.drop (xs.length + 1))).map (((rd_T68 b.salts xs.length).f1.f0 + (n : Int)) :: ·)) := ⟨by
      rw [List.drop_eq_getElem_cons hk]
      have : rd_T68 b.salts xs.length = b.salts[xs.length] := by
        unfold rd_T68
        rw [List.getD_eq_getElem?_getD, Int.toNat_natCast, List.getElem?_eq_getElem hk]
        rfl
      rw [this]
      rfl⟩
    generalize rd_T68 b.salts xs.length = s at *
    simp only [Int.toNat_natCast] at t0 t1 t2
    have e4 := World.block_lt_of_cell? W _ t0
    rw [hA0'] at c0
    have HX := Lib.hid hx
    have HON := Lib.hid hon
    have HJ0 := Aside0.mk hw
    have HRR := Aside0.mk hr
    have HPX := Lib.hid hp
    have heq : ((xs.length : Int) == (b.salts.length : Int)) = false := by simp; omega
    clear hx hon hw hr hc0 hA0' hp
    obtain ⟨lo, hlo⟩ : ∃ lo, lo = s.f1.f0 := ⟨_, rfl⟩
    obtain ⟨hi, hhi⟩ : ∃ hi, hi = s.f1.f1 := ⟨_, rfl⟩
    rw [← hlo] at t1 s2 s3 HS
    rw [← hhi] at t2 s3 s4 HS
    clear hlo hhi
    go_enter Tryd.func112, Tryd.ntmps112
    go_upto_region 6 with (first | fail)
    obtain ⟨N, hN⟩ : ∃ N : Nat, (N : Int) = hi - lo + 1 := ⟨(hi - lo + 1).toNat, by omega⟩
    have hNt : (hi - lo + 1).toNat = N := by omega
    rw [hNt] at HS
    clear hNt
    have HNN := Aside0.mk hN
    obtain ⟨W0, hW0⟩ : ∃ W0, W.alloc (.cells #[.int .i64 lo, .int .i64 hi] 39) = W0 := ⟨_, rfl⟩
    have HW0 := Aside0.mk hW0
    rw [hW0]
    rw [show hi - lo + 1 = (N : Int) from hN.symm]
    clear hW0 hN
    go_loopw [33] (fun i wr => ∃ n : Nat, n ≤ N ∧ i = .int .i64 n ∧ Aside0 (J (markAll b all (part b xs lo n)) wr) ∧ Aside0 (W0.grownBy wr (some g3))) (fun i _ => N - (intOf i).toNat)
    case atStart => exact ⟨0, Nat.zero_le _, rfl, ⟨by rw [part_zero, markAll_nil, ← HW0.out]; exact hJ.below _ _ _ HJ0.out (below_alloc (Below.refl _ _) _)⟩, ⟨grown_of_below (Below.refl _ _) _⟩⟩
    case round =>
      obtain ⟨n, hn, rfl, HJ1, HG1⟩ := hrel
      by_cases hlt : n < N
      · have hBW : Below W.heap.size W W0 := by rw [← HW0.out]; exact below_alloc (Below.refl _ _) _
        go_upto_region 8 with (first | fail)
        have hN := HNN.out
        have hJw : J (markAll b all (part b xs lo n)) wr.drew := hJ.below _ _ _ HJ1.out (Below.refl _ _).drew
        have HON0 := Lib.hid (HON.out.below hBW)
        have HX0 := Lib.hid (HX.out.below hBW)
        have hzg0 : g3 < W0.heap.size := Nat.lt_of_lt_of_le zg hBW.size
        have hS0 : W0.heap[W.heap.size]? = some (.cells #[.int .i64 lo, .int .i64 hi] 39 (0, 0)) := by rw [← HW0.out]; exact blk_new _ _
        have hgs : W.heap.size ≠ g3 := by omega
        rename_i K hK
        refine draw_inv mixed (by kernel_rfl) (fun bb a wq => ∃ v46, a = ⟨#[.slice A xs.length c, ptr gB, ptr gY, ptr gO, undef, u5, .int .i64 xs.length, .pointer (some ⟨W.heap.size, 0, none⟩), .int .i64 n, .slice A xs.length c, .int .i64 xs.length, .int .i64 xs.length, .pointer (some ⟨gB, 0, none⟩), .pointer (some ⟨gB, 0, none⟩), .slice (some ad0) b.salts.length h.c0, .int .i64 b.salts.length, .bool false, undef, undef, undef, .pointer (some ⟨gB, 0, none⟩), .pointer (some ⟨gB, 0, none⟩), .slice (some ad0) b.salts.length h.c0, .int .i64 xs.length, .pointer (some (ad0.add (xs.length * 3))), .pointer (some ⟨(ad0.add (xs.length * 3)).block, (ad0.add (xs.length * 3)).off + 1, none⟩), .agg #[.int .i64 lo, .int .i64 hi], .pointer (some ⟨W.heap.size, 1, none⟩), .int .i64 hi, .pointer (some ⟨W.heap.size, 0, none⟩), .int .i64 lo, .int .i64 (hi - lo), .int .i64 N, .int .i64 n, .bool true, .int .i64 n, (if bb 0 then onV gB gY gO else u36), (if bb 1 then .slice A xs.length c else u37), (if bb 2 then .int .i64 xs.length else u38), (if bb 3 then .int .i64 xs.length else u39), (if bb 4 then .slice A xs.length xs.length else u40), (if bb 5 then ptr W.heap.size else u41), (if bb 6 then .int .i64 lo else u42), (if bb 7 then .int .i64 n else u43), (if bb 8 then .int .i64 (lo + n) else u44), (if bb 9 then .slice (some ⟨wr.heap.size, 0, none⟩) 1 1 else u45), (if bb 10 then v46 else u46), (if bb 11 then .bool true else u47), (if bb 12 then .bool false else u48), u49], []⟩ ∧ OnSt J g3 xs (lo + n) (markAll b all (part b xs lo n)) (markAll b all (part b xs lo (n + 1))) wr wq (bb 9) (bb 10) (bb 11) v46) ?_ ?_ ?_
        · exact ⟨undef, by simp, OnSt.start hJw⟩
        · intro i hi' bb a wq hI hbi hcame
          obtain ⟨v46, rfl, hst⟩ := hI
          have hgq := HG1.out.trans hst.g
          have hon := HON0.out.grown hgq h1 h2 h3
          have cO : wq.cell? ⟨gO, 0, none⟩ = some (onV gB gY gO) := (blk_cell hon.hO 0).trans rfl
          have hS : wq.heap[W.heap.size]? = some (.cells #[.int .i64 lo, .int .i64 hi] 39 (0, 0)) := (hgq.block _ (blk_lt hS0) (by simpa using hgs)).trans hS0
          have cS : wq.cell? ⟨W.heap.size, 0, none⟩ = some (.int .i64 lo) := (blk_cell hS 0).trans rfl
          rcases i with _ | _ | _ | _ | _ | _ | _ | _ | _ | _ | _ | _ | _ | i
          · have hh := hcame
            simp [Came, Region.binds] at hh
            refine op_value rfl rfl (v := onV gB gY gO) (w1 := wq) (by go_simp) ⟨v46, by simp [Act.put, Act.eval, upd], ?_⟩
            simpa [upd] using hst
          · have hh := hcame
            simp [Came, Region.binds] at hh
            refine op_value rfl rfl (x_assign (.inr rfl)) ⟨v46, by simp [Act.put, Act.eval, upd, hh], ?_⟩
            simpa [upd] using hst
          · have hh := hcame
            simp [Came, Region.binds] at hh
            refine op_value rfl rfl (x_assign (.inr rfl)) ⟨v46, by simp [Act.put, Act.eval, upd, hh], ?_⟩
            simpa [upd] using hst
          · have hh := hcame
            simp [Came, Region.binds] at hh
            refine op_value rfl rfl (x_assign (.inr rfl)) ⟨v46, by simp [Act.put, Act.eval, upd, hh], ?_⟩
            simpa [upd] using hst
          · have hh := hcame
            simp [Came, Region.binds] at hh
            refine op_value rfl rfl (x_slice (x := .tmp 37) (lo := none) (hi := some (.tmp 38)) (mx := some (.tmp 39)) (u := .slice A xs.length c) (a := none) (b := some (.int .i64 xs.length)) (c := some (.int .i64 xs.length)) rfl (by simp [Act.eval, hh]) rfl (by simp [Act.eval, hh]) (by simp [Act.eval, hh]) (run_cut A xs.length c hxc _)) ⟨v46, by simp [Act.put, Act.eval, upd, hh], ?_⟩
            simpa [upd] using hst
          · have hh := hcame
            simp [Came, Region.binds] at hh
            refine op_value rfl rfl (v := ptr W.heap.size) (w1 := wq) (by go_simp) ⟨v46, by simp [Act.put, Act.eval, upd, hh], ?_⟩
            simpa [upd] using hst
          · have hh := hcame
            simp [Came, Region.binds] at hh
            refine op_value rfl rfl (v := .int .i64 lo) (w1 := wq) (by simp only [hh, if_true]; go_simp) ⟨v46, by simp [Act.put, Act.eval, upd, hh], ?_⟩
            simpa [upd] using hst
          · have hh := hcame
            simp [Came, Region.binds] at hh
            refine op_value rfl rfl (x_assign (.inr rfl)) ⟨v46, by simp [Act.put, Act.eval, upd, hh], ?_⟩
            simpa [upd] using hst
          · have hh := hcame
            simp [Came, Region.binds] at hh
            refine op_value rfl rfl (x_add3 (x := .tmp 42) (y := .tmp 43) rfl (i := lo) (j := n) (by simp [Act.eval, hh]) (by simp [Act.eval, hh]) (by omega) (by omega)) ⟨v46, by simp [Act.put, Act.eval, upd, hh], ?_⟩
            simpa [upd] using hst
          · have hh := hcame
            simp [Came, Region.binds] at hh
            have hst' := hst
            rw [hbi] at hst'
            obtain ⟨e10, e11, hst2⟩ := hst'.box hJ.below
            refine op_value rfl rfl (x_box3 (x := .tmp 44) rfl (y := lo + n) (by simp [Act.eval, hh])) ⟨v46, ?_, ?_⟩
            · simp [Act.put, Act.eval, upd, hh, hst.z9 hbi]
            · simpa [upd, e10, e11] using hst2
          · have hh := hcame
            simp [Came, Region.binds] at hh
            have hst' := hst
            rw [hbi] at hst'
            have h9 : bb 9 = true := by simp [hh]
            rw [h9] at hst'
            have h11 : bb 11 = false := by
              cases e : bb 11 with
              | false => rfl
              | true => have := hst.i11 e; rw [hbi] at this; cases this
            have hbw := (hst.bw h11).1
            have hxq : ReadsInt wq .i64 A xs.length xs := reads_grown HX0.out hgq hA
            obtain ⟨a', c', w', hrun, hr', hb', ha', hc'⟩ := run_more 28 hxq (by omega) wr.heap.size (lo + n) (hst.c9 h9 hbi)
            obtain ⟨_, hst2⟩ := hst'.app hJ.below rfl hr' hb' ha' hc'
            refine op_value rfl rfl (x_append (s := .tmp 40) (x := .tmp 45) rfl (by simp [Act.eval, hh]) (by simp [Act.eval, hh]) hrun) ⟨.slice (some a') (xs.length + 1) c', ?_, ?_⟩
            · simp [Act.put, Act.eval, upd, hh]
            · simpa [upd, h9, h11] using hst2
          · have hh := hcame
            simp [Came, Region.binds] at hh
            have h10 : bb 10 = true := by simp [hh]
            have h9 := hst.i10 h10
            obtain ⟨a', c', rfl, hr', ha', hc'⟩ := hst.c10 h10 hbi
            obtain ⟨hbw, hjq⟩ := hst.bw hbi
            have hst' := hst
            rw [hbi, h10, h9] at hst'
            have hy0 : ∀ x ∈ xs ++ [lo + (n : Int)], 0 ≤ x ∧ x ≤ 9 := by
              intro x hx
              rw [List.mem_append, List.mem_singleton] at hx
              rcases hx with hx | rfl
              · exact HPX.out x hx
              · omega
            have hgq2 : W0.heap.size ≤ wr.heap.size := HG1.out.size
            have hl1 : (xs ++ [lo + (n : Int)]).length = xs.length + 1 := by simp
            refine op_call rfl (by simp [Region.wanted, yielded]) (run_call Tryd.func112 (by kernel_rfl) rfl rfl (g := .tmp 36) (first := #[]) (captured := #[ptr gB, ptr gY, ptr gO]) (by simp [Act.eval, hh, onV]) (args := #[.slice (some a') (xs.length + 1) c', ptr gB, ptr gY, ptr gO]) (by simp [Act.eval, hh])) ?_
            have hcall := on_calls hc hq hJ h1 h2 h3 r (some a') c' (xs ++ [lo + (n : Int)]) _ wq (by rw [hl1]; have := HRR.out; omega) hjq hon (by rw [hl1]; exact hr') (by rw [hl1]; exact hc') (by simp) (by intro a e; cases e; omega) hy0
            rw [hl1, part_next] at hcall
            refine hcall.mono ?_
            rintro e w5 ⟨rfl, hj5, hg5⟩
            refine ⟨_, rfl, .slice (some a') (xs.length + 1) c', ?_, ?_⟩
            · simp [Act.put, Act.eval, upd, hh]
            · have := hst'.call (v' := .slice (some a') (xs.length + 1) c') hj5 hg5
              simpa [upd, h9, h10] using this
          · have hh := hcame
            simp [Came, Region.binds] at hh
            refine op_value rfl rfl (x_not (x := .tmp 47) rfl (b := true) (by simp [Act.eval, hh])) ⟨v46, by simp [Act.put, Act.eval, upd, hh], ?_⟩
            simpa [upd] using hst
          · simp at hi'; omega
        · intro bb a w4 hI hall
          obtain ⟨v46, rfl, hst⟩ := hI
          refine hK _ _ ?_
          have hj4 := hst.c11 (hall 11 (by simp))
          have HJ4 := Aside0.mk hj4
          have HG4 := Aside0.mk (HG1.out.trans hst.g)
          clear hst hj4
          simp only [hall 0 (by simp), hall 1 (by simp), hall 2 (by simp), hall 3 (by simp), hall 4 (by simp), hall 5 (by simp), hall 6 (by simp), hall 7 (by simp), hall 8 (by simp), hall 9 (by simp), hall 10 (by simp), hall 11 (by simp), hall 12 (by simp), if_true]
          clear hall
          go_wp2
          go_roundw
          case rel => exact ⟨n + 1, by omega, by go_num, ⟨HJ4.out⟩, ⟨HG4.out⟩⟩
          case measure => simp [intOf]; omega
      · obtain rfl : n = N := by omega
        go_wp2
        go_ret
        refine ⟨rfl, ?_, ?_⟩
        · rw [HS.out]
          have := HJ1.out
          unfold part at this
          rw [List.map_flatMap]
          simpa [Function.comp_def] using this
        · have h1 : W.grownBy W0 (some g3) := by rw [← HW0.out]; exact grown_of_below (below_alloc (Below.refl _ _) _) _
          exact h1.trans HG1.out
end Go.Proofs.YtghpoldlddghjaaDoor
namespace Go.Proofs.YtghpoldlddghjaaDoor
open Go Go.RowKit
open Go.Proofs.YtghpoldlddghjaaDoorW.PrintWords Go.Proofs.YtghpoldlddghjaaDoorW.PrintMore Go.Proofs.YtghpoldlddghjaaDoor.PPasteTrue
set_option maxRecDepth 20000 in
theorem amounts1_calls {cs0 : Array Value} {h : Hd} {b : Bk} {all0 : Nat → Bool} {l g3 gB : Nat} {J : (Nat → Bool) → World → Prop} (hc : IsBook cs0 h b all0) (hq : SP b) (hJ : YieldOk b h l g3 J) (h1 : gB ≠ g3) (all : Nat → Bool) (W : World)
    (hw : J all W) (hB : W.heap[gB]? = some (.cells cs0 113 (0, 0))) :
    Calls Tryd.prog 111 #[.func (.yield l) #[] #[], ptr gB] W fun e W' => e = .returned (.tuple #[]) ∧ J (markAll b all (fills b.salts)) W' ∧ W.grownBy W' (some g3) := by
  have zg := hJ.lt all W hw
  have HB := Lib.hid hB
  have HJ0 := Aside0.mk hw
  clear hB hw
  go_enter Tryd.func111, Tryd.ntmps111
  have hb2 : Below W.heap.size W ((W.alloc (.cells #[.func (.yield l) #[] #[]] 173)).alloc (.cells #[.func (.func 112) #[] #[ptr gB, .pointer (some ⟨W.heap.size, 0, none⟩), .pointer (some ⟨W.heap.size + 1, 0, none⟩)]] 173)) := below_alloc (below_alloc (Below.refl _ _) _) _
  have HB2 := Lib.hid hb2
  clear hb2
  go_wp2_with (first | (go_at_call 112; refine (on_calls (gY := W.heap.size) (gO := W.heap.size + 1) hc hq hJ h1 (by omega) (by omega) b.salts.length none 0 [] all _ (by simp) (hJ.below _ _ _ HJ0.out HB2.out) ⟨blk_alloc (blk_alloc HB.out _) _, blk_alloc (new_at rfl) _, new_at (by simp)⟩ ⟨rfl, by simp, by simp⟩ (by simp) (by simp) (by simp) (by simp)).mono ?_; rintro e w1 ⟨rfl, hj1, hg1⟩; have HJ1 := Aside0.mk hj1; have HG1 := Aside0.mk hg1; clear hj1 hg1))
  go_end0
  refine ⟨rfl, ?_, ?_⟩
  · simpa using HJ1.out
  · exact (grown_of_below HB2.out (some g3)).trans HG1.out
set_option maxRecDepth 20000 in
theorem amounts_calls (cs : Array Value) (w : World) : Calls Tryd.prog 100 #[.agg cs] w fun e w' => e = .returned (.func (.func 111) #[] #[ptr w.heap.size]) ∧ w' = w.alloc (.cells cs 113) := by
  go_enter Tryd.func100, Tryd.ntmps100
  go_wp2_with (first | (with_reducible refine b_box (t := 113) rfl rfl rfl ?_))
  go_ret
  exact ⟨rfl, rfl⟩
end Go.Proofs.YtghpoldlddghjaaDoor
namespace Go.Proofs.YtghpoldlddghjaaDoor
open Go Go.RowKit
open Go.Proofs.YtghpoldlddghjaaDoorW.PrintWords Go.Proofs.YtghpoldlddghjaaDoorW.PrintMore Go.Proofs.YtghpoldlddghjaaDoor.PPasteTrue
theorem z113_size : Tryd.zeroCells113.size = 518 := by kernel_rfl
theorem z113_one : Tryd.zeroCells113.all (·.oneCell') = true := by kernel_rfl
theorem info113 : (Tryd.prog.info? 113).map (·.zero) = some (some (.agg Tryd.zeroCells113)) := by kernel_rfl
theorem place27 : (Tryd.prog.info? 27).map (·.size) = some 5 := by kernel_rfl
theorem place109 : (Tryd.prog.info? 109).map (·.size) = some 1 := by kernel_rfl
def lay (off : Nat) (vs : Array Value) (cs : Array Value) : Array Value := vs.zipIdx.foldl (fun cs (c, j) => cs.setIfInBounds (off + j) c) cs
theorem lay_list (off : Nat) : ∀ (l : List Value) (k : Nat) (cs : Array Value), (l.zipIdx k).foldl (fun cs (c, j) => cs.setIfInBounds (off + j) c) cs = (l.zipIdx k).foldl (fun cs (c, j) => cs.setIfInBounds (off + j) c) cs ∧
    ((l.zipIdx k).foldl (fun cs (c, j) => cs.setIfInBounds (off + j) c) cs).size = cs.size ∧
    ∀ i, ((l.zipIdx k).foldl (fun cs (c, j) => cs.setIfInBounds (off + j) c) cs)[i]? = if i < cs.size ∧ off + k ≤ i ∧ i < off + k + l.length then l[i - (off + k)]? else cs[i]?
  | [], k, cs => by
    refine ⟨rfl, rfl, fun i => ?_⟩
    rw [if_neg (by simp only [List.length_nil]; omega)]
    rfl
  | x :: l, k, cs => by
    obtain ⟨_, h2, h3⟩ := lay_list off l (k + 1) (cs.setIfInBounds (off + k) x)
    refine ⟨rfl, ?_, fun i => ?_⟩
    · rw [List.zipIdx_cons, List.foldl_cons, h2]
      simp
    · rw [List.zipIdx_cons, List.foldl_cons, h3 i]
      simp only [Array.size_setIfInBounds, List.length_cons]
      by_cases c1 : i < cs.size ∧ off + (k + 1) ≤ i ∧ i < off + (k + 1) + l.length
      · rw [if_pos c1, if_pos (by omega)]
        have : i - (off + k) = (i - (off + (k + 1))) + 1 := by omega
        rw [this]
        simp
      · rw [if_neg c1]
        by_cases c2 : i < cs.size ∧ off + k ≤ i ∧ i < off + k + (l.length + 1)
        · have e : i = off + k := by omega
          subst e
          rw [if_pos c2]
          simp [c2.1]
        · rw [if_neg c2, Array.getElem?_setIfInBounds]
          by_cases e : off + k = i
          · subst e
            rw [if_pos rfl]
            have : ¬ off + k < cs.size := by omega
            simp [this]
          · rw [if_neg e]
theorem lay_size (off : Nat) (vs cs : Array Value) : (lay off vs cs).size = cs.size := by
  have := (lay_list off vs.toList 0 cs).2.1
  unfold lay
  rw [← Array.foldl_toList]
  simpa [Array.toList_zipIdx] using this
theorem lay_get (off : Nat) (vs cs : Array Value) (i : Nat) : (lay off vs cs)[i]? = if i < cs.size ∧ off ≤ i ∧ i < off + vs.size then vs[i - off]? else cs[i]? := by
  have := (lay_list off vs.toList 0 cs).2.2 i
  unfold lay
  rw [← Array.foldl_toList]
  simpa [Array.toList_zipIdx] using this
noncomputable def bookA (c5 : Array Value) (m : Value) : Array Value := lay 6 noneA (lay 5 #[m] (lay 0 c5 Tryd.zeroCells113))
theorem bookA_size (c5 : Array Value) (m : Value) : (bookA c5 m).size = 518 := by simp [bookA, lay_size, z113_size]
theorem build113 (c5 : Array Value) (h5 : c5.size = 5) (r : Nat) (w : World) : (Instr.build 113 #[(0, .agg c5), (1, .map (some r)), (2, .agg noneA)]).run Tryd.prog w = .ok (.agg (bookA c5 (.map (some r)))) w := by
  refine run_build (P := Tryd.prog) w 113 _ _ ?_
  obtain ⟨i0, hi, hz⟩ := Option.map_eq_some_iff.1 info113
  obtain ⟨i1, hi1, hs1⟩ := Option.map_eq_some_iff.1 place27
  obtain ⟨i2, hi2, hs2⟩ := Option.map_eq_some_iff.1 place109
  obtain ⟨i3, hi3, hs3⟩ := Option.map_eq_some_iff.1 i111
  have hn : noneA.size = 512 := allA_size _
  unfold Program.built
  simp only [hi, hz, Tryd.underlying113]
  simp only [List.mapM_cons, List.mapM_nil, hi1, hi2, hi3, hs1, hs2, hs3, Option.map_some, Option.bind_eq_bind, Option.pure_def]
  have hz8 := z113_size
  unfold bookA
  generalize Tryd.zeroCells113 = z at hz8 ⊢
  generalize noneA = nA at hn ⊢
  have e1 : (lay 0 c5 z).size = 518 := by rw [lay_size, hz8]
  have e2 : (lay 5 #[.map (some r)] (lay 0 c5 z)).size = 518 := by rw [lay_size, e1]
  unfold lay at *
  simp [Instr.fill, Value.cells, h5, hn, hz8, e1, e2]
  simp [h5] at e1
  omega
theorem bookA_book (h : Hd) (b : Bk) (r : Nat) : IsBook (bookA (h.cells b) (.map (some r))) h b (fun _ => false) ∧ (bookA (h.cells b) (.map (some r)))[5]? = some (.map (some r)) := by
  have hz8 := z113_size
  have hz1 := z113_one
  have hn : noneA.size = 512 := allA_size _
  have hg : ∀ i, (bookA (h.cells b) (.map (some r)))[i]? = if i < 5 then (h.cells b)[i]? else if i = 5 then some (.map (some r)) else if i < 518 then noneA[i - 6]? else none := by
    intro i
    unfold bookA
    rw [lay_get, lay_get, lay_get, lay_size, lay_size, hz8, hn]
    have h5 : (h.cells b).size = 5 := rfl
    rw [h5]
    by_cases c1 : i < 5
    · rw [if_neg (by omega), if_neg (by simp; omega), if_pos (by omega), if_pos c1]
      rfl
    · rw [if_neg c1]
      by_cases c2 : i = 5
      · subst c2
        rw [if_neg (by omega), if_pos (by simp), if_pos rfl]
        rfl
      · rw [if_neg c2]
        by_cases c3 : i < 518
        · rw [if_pos (by omega), if_pos c3]
        · rw [if_neg (by omega), if_neg (by simp; omega), if_neg (by omega), if_neg c3]
          exact Array.getElem?_eq_none (by omega)
  refine ⟨⟨bookA_size _ _, by rw [hg]; rfl, by rw [hg]; rfl, by rw [hg]; rfl, by rw [hg]; rfl, by rw [hg]; rfl, ?_, ?_⟩, by rw [hg]; rfl⟩
  · rw [Array.all_eq_true_iff_forall_mem]
    intro v hv
    obtain ⟨i, hi⟩ := Array.mem_iff_getElem?.1 hv
    clear hv
    rw [hg] at hi
    clear hg
    by_cases c1 : i < 5
    · rw [if_pos c1] at hi
      have h5 : (h.cells b).all (·.oneCell') = true := by simp [Hd.cells, Value.oneCell']
      rw [Array.all_eq_true_iff_forall_mem] at h5
      exact h5 _ (Array.mem_of_getElem? hi)
    · rw [if_neg c1] at hi
      by_cases c2 : i = 5
      · rw [if_pos c2] at hi
        have hi := Option.some.inj hi
        subst hi
        simp [Value.oneCell']
      · rw [if_neg c2] at hi
        by_cases c3 : i < 518
        · rw [if_pos c3] at hi
          have h5 := allA_one (fun _ => false)
          rw [Array.all_eq_true_iff_forall_mem] at h5
          exact h5 _ (Array.mem_of_getElem? hi)
        · rw [if_neg c3] at hi
          cases hi
  · intro n hn'
    rw [hg, if_neg (by omega), if_neg (by omega), if_pos (by omega)]
    have : 6 + n - 6 = n := by omega
    rw [this]
    exact allA_get _ n hn'
end Go.Proofs.YtghpoldlddghjaaDoor
namespace Go.Proofs.YtghpoldlddghjaaDoor
open Go Go.RowKit
open Go.Proofs.YtghpoldlddghjaaDoorW.PrintWords Go.Proofs.YtghpoldlddghjaaDoorW.PrintMore Go.Proofs.YtghpoldlddghjaaDoor.PPasteTrue
theorem power_range {b : Bk} {xs : List Int} (hq : SP b) (hp : ∀ x ∈ xs, 0 ≤ x ∧ x ≤ 9) (hl : xs.length = b.salts.length) : 0 ≤ powerI b xs ∧ powerI b xs < 512 := by
  have h1 := sum_bound ((List.range xs.length).map (saltVal b xs)) 81 (by omega) (by
    intro x hx
    rw [List.mem_map] at hx
    obtain ⟨k, hk, rfl⟩ := hx
    exact saltVal_le hq hp hl k (List.mem_range.1 hk))
  have h2 := sum_bound (b.pairs.map (pairVal xs)) 30 (by omega) (by
    intro x hx
    rw [List.mem_map] at hx
    obtain ⟨p, hpm, rfl⟩ := hx
    have := hq.p p hpm
    unfold pairVal
    split <;> omega)
  have h3 := hq.s1
  have h4 := hq.p1
  simp only [List.length_map, List.length_range] at h1 h2
  unfold powerI
  omega
theorem IsBook.mark {cs : Array Value} {h : Hd} {b : Bk} {all all' : Nat → Bool} (hc : IsBook cs h b all) (p : Nat) (hall : ∀ n, n < 512 → all' n = (all n || decide (n = p))) : IsBook (cs.setIfInBounds (6 + p) (.bool true)) h b all' := by
  have hs := hc.size
  have hk : ∀ i, i < 6 → (cs.setIfInBounds (6 + p) (.bool true))[i]? = cs[i]? := fun i hi => by
    rw [Array.getElem?_setIfInBounds]
    rw [if_neg (by omega)]
  refine ⟨by simpa using hs, (hk 0 (by omega)).trans hc.c0, (hk 1 (by omega)).trans hc.c1, (hk 2 (by omega)).trans hc.c2, (hk 3 (by omega)).trans hc.c3, (hk 4 (by omega)).trans hc.c4, ?_, ?_⟩
  · rw [Array.all_eq_true_iff_forall_mem]
    intro v hv
    obtain ⟨i, hi⟩ := Array.mem_iff_getElem?.1 hv
    rw [Array.getElem?_setIfInBounds] at hi
    have h1 := hc.one
    rw [Array.all_eq_true_iff_forall_mem] at h1
    split at hi
    · split at hi
      · have := Option.some.inj hi
        subst this
        simp [Value.oneCell']
      · cases hi
    · exact h1 v (Array.mem_of_getElem? hi)
  · intro n hn
    rw [Array.getElem?_setIfInBounds, hall n hn]
    by_cases e : n = p
    · subst e
      rw [if_pos rfl, if_pos (by omega)]
      simp
    · rw [if_neg (by omega), hc.all n hn]
      simp [e]
structure JIn (w : World) (h : Hd) (b : Bk) (g3 bm l D : Nat) (r : Loop) (all : Nat → Bool) (W : World) : Prop where
  cs : ∃ cs, IsBook cs h b all ∧ cs[5]? = some (.map (some bm)) ∧ W.heap[g3]? = some (.cells cs 113 (0, 0))
  hm : W.heap[bm]? = some (.map (mapEs b.pairs) b.pairs.length)
  hl : W.heap[l]? = some (.loop r)
  hD : W.heap[D]? = some (.deferred (some []))
  h2 : W.heap[w.heap.size + 1]? = some (.cells Tryd.zeroCells113 113 (0, 0))
  below : Below w.heap.size w W
theorem JIn.on {w : World} {h : Hd} {b : Bk} {g3 bm l D : Nat} {r : Loop} {all : Nat → Bool} {W W' : World} (s : JIn w h b g3 bm l D r all W) (hb : Below W.heap.size W W') : JIn w h b g3 bm l D r all W' := by
  obtain ⟨⟨cs, h1, h2, h3⟩, h4, h5, h6, h7, h8⟩ := s
  exact ⟨⟨cs, h1, h2, blk_below h3 hb⟩, blk_below h4 hb, blk_below h5 hb, blk_below h6 hb, blk_below h7 hb, below_step h8 hb⟩
theorem yield_ok {w : World} {h : Hd} {b : Bk} {g3 bm l D : Nat} {r : Loop} (hb : BkIn w h b) (hq : SP b) (n3 : w.heap.size + 2 ≤ g3) (nl : w.heap.size + 2 ≤ l) (hst : r.state = .ready) (hpe : r.pending = none) (hps : r.params = #[34]) (T : Value → Array Value)
    (hA : ∀ n v W (Q : Exit → Act → World → Prop), Q .normal { tmps := T v, defers := [] } W → r.assign.wpIn (Fence.wide.inRound l) n Tryd.prog Q { tmps := r.tmps.setIfInBounds 34 v, defers := [] } W)
    (hB : ∀ n A c (xs : List Int) cs all W (Q : Exit → Act → World → Prop), IsBook cs h b all → cs[5]? = some (.map (some bm)) → W.heap[g3]? = some (.cells cs 113 (0, 0)) → W.heap[bm]? = some (.map (mapEs b.pairs) b.pairs.length) → BkIn W h b →
      ReadsInt W .i64 A xs.length xs → (∀ x ∈ xs, 0 ≤ x ∧ x ≤ 9) → xs.length = b.salts.length →
      (∀ a w3, Below W.heap.size W w3 → Q .normal a (w3.setCell ⟨g3, 6 + (powerI b xs).toNat, none⟩ (.bool true))) → r.body.wpIn (Fence.wide.inRound l) n Tryd.prog Q { tmps := T (.slice A xs.length c), defers := [] } W) :
    YieldOk b h l g3 (JIn w h b g3 bm l D r) where
  below := fun all W W' s hbl => s.on hbl
  bk := fun all W s => hb.below s.below
  lt := fun all W s => by
    obtain ⟨⟨cs, _, _, h3⟩, _⟩ := s
    exact blk_lt h3
  y := fun all W A c xs n s hx hp hl => by
    have hy := run_yield (P := Tryd.prog) (args := #[.slice A xs.length c]) s.hl (by rw [hps]; rfl)
    rw [hps] at hy
    refine ⟨r.fn, r.tmps.setIfInBounds 34 (.slice A xs.length c), r.assign, r.body, by simpa using hy, ?_⟩
    refine roundIn_of_wpIn trivial (hA _ _ _ _ ?_)
    have hlt := blk_lt s.hl
    obtain ⟨⟨cs, hc, h5, h3⟩, hm, hL, hD, h2, hbl⟩ := s
    have hne : ∀ {g : Nat} {o : Obj}, W.heap[g]? = some o → (∀ r', o ≠ .loop r') → g ≠ l := by
      intro g o hg ho e
      subst e
      rw [hL] at hg
      exact ho r (Option.some.inj hg).symm
    have n3l := hne h3 (by simp)
    have nml := hne hm (by simp)
    have nDl := hne hD (by simp)
    have n2l := hne h2 (by simp)
    have hmg : bm ≠ g3 := by
      intro e
      subst e
      rw [hm] at h3
      cases h3
    have hDg : D ≠ g3 := by
      intro e
      subst e
      rw [hD] at h3
      cases h3
    show ∃ w₂, _
    refine ⟨_, run_beginRound hL hst, ?_⟩
    obtain ⟨W2, hW2⟩ : ∃ W2, W.putObj l (.loop { r with state := .busy }) = W2 := ⟨_, rfl⟩
    have hk2 : ∀ i, i ≠ l → W2.heap[i]? = W.heap[i]? := fun i hi => by rw [← hW2]; exact World.putObj_heap_other hi
    have hs2 : W2.heap.size = W.heap.size := by rw [← hW2]; simp
    have hb2 : Below w.heap.size w W2 := by
      rw [← hW2]
      exact hbl.trans ⟨rfl, rfl, rfl, by simp, fun i hi => World.putObj_heap_other (by omega)⟩
    have hL2 : W2.heap[l]? = some (.loop { r with state := .busy }) := by rw [← hW2]; exact World.putObj_heap_same hlt
    have ho2 : W2.os = W.os ∧ W2.tape = W.tape ∧ W2.output = W.output := by rw [← hW2]; exact ⟨rfl, rfl, rfl⟩
    rw [hW2]
    clear hW2
    have hx2 : ReadsInt W2 .i64 A xs.length xs := ⟨hx.1, hx.2.1, fun hn => by
      obtain ⟨ad, e, hcell⟩ := hx.2.2 hn
      refine ⟨ad, e, fun j hj => ?_⟩
      have h1 := hcell j hj
      have hbk : (ad.add j).block ≠ l := by
        intro e2
        unfold World.cell? at h1
        rw [e2, hL] at h1
        cases h1
      exact (World.cell?_of_block (hk2 _ hbk)).trans h1⟩
    refine hB _ _ _ _ cs all W2 _ hc h5 ((hk2 _ n3l).trans h3) ((hk2 _ nml).trans hm) (hb.below hb2) hx2 hp hl ?_
    intro a w3 hb3
    obtain ⟨p0, p1⟩ := power_range hq hp hl
    obtain ⟨p, hpp⟩ : ∃ p : Nat, powerI b xs = p := ⟨(powerI b xs).toNat, by omega⟩
    have e6 : (powerI b xs).toNat = p := by omega
    rw [e6]
    have hL3 : (w3.setCell ⟨g3, 6 + p, none⟩ (.bool true)).heap[l]? = some (.loop { r with state := .busy }) := (Below.heap_setCell _ _ _ _ n3l.symm).trans (blk_below hL2 hb3)
    have hend := run_endRound (P := Tryd.prog) none hL3
    have hr : ({ ({ r with state := .busy } : Loop) with state := if (none : Option Code).isNone then .ready else .done, pending := none } : Loop) = r := by
      cases r
      simp only at hst hpe
      subst hst
      subst hpe
      rfl
    rw [hr] at hend
    refine ⟨_, _, hend, rfl, ?_, ?_⟩
    · have hl4 := blk_lt hL3
      have hkk : ∀ {g : Nat} {o : Obj}, W.heap[g]? = some o → g ≠ l → g ≠ g3 → ((w3.setCell ⟨g3, 6 + p, none⟩ (.bool true)).putObj l (.loop r)).heap[g]? = some o := by
        intro g o hg e1 e2
        exact (World.putObj_heap_other e1).trans ((Below.heap_setCell _ _ _ _ e2).trans (blk_below ((hk2 _ e1).trans hg) hb3))
      refine ⟨⟨cs.setIfInBounds (6 + p) (.bool true), hc.mark p ?_, ?_, ?_⟩, hkk hm nml hmg, World.putObj_heap_same hl4, hkk hD nDl hDg, hkk h2 n2l (by omega), ?_⟩
      · intro n hn
        simp only [markAll, List.any_cons, List.any_nil, Bool.or_false, hpp]
        congr 1
        rw [decide_eq_decide]
        omega
      · rw [Array.getElem?_setIfInBounds, if_neg (by omega)]
        exact h5
      · exact (World.putObj_heap_other n3l).trans (blk_put (blk_below ((hk2 _ n3l).trans h3) hb3) _ _ rfl)
      · refine (hb2.trans (hb3.mono (by rw [hs2]; exact hbl.size))).trans ⟨rfl, rfl, rfl, by simp [World.setCell], fun i hi => ?_⟩
        exact (World.putObj_heap_other (by omega)).trans (Below.heap_setCell _ _ _ _ (by simp; omega))
    · refine ⟨hb3.os.trans ho2.1, hb3.tape.trans ho2.2.1, hb3.output.trans ho2.2.2, ?_, ?_⟩
      · have := hb3.size
        simp [World.setCell]
        omega
      · intro k hk hne3
        have hne3' : k ≠ g3 := by simpa using hne3
        by_cases e : k = l
        · subst e
          exact (World.putObj_heap_same (blk_lt hL3)).trans hL.symm
        · exact (World.putObj_heap_other e).trans ((Below.heap_setCell _ _ _ _ hne3').trans ((hb3.block k (by omega)).trans (hk2 k e)))
end Go.Proofs.YtghpoldlddghjaaDoor
namespace Go.Proofs.YtghpoldlddghjaaDoor
open Go Go.RowKit
attribute [local go_sem] Oper.semAt_some
open Go.Proofs.YtghpoldlddghjaaDoorW.PrintWords Go.Proofs.YtghpoldlddghjaaDoorW.PrintMore Go.Proofs.YtghpoldlddghjaaDoor.PPasteTrue
theorem i27 : (Tryd.prog.info? 27).map (·.size) = some 5 := by kernel_rfl
theorem zb113 (w : World) : (zeroValue 113).run Tryd.prog w = .ok (.agg Tryd.zeroCells113) w := Tryd.zeroValue113 w
theorem x_build {P : Program} {ρ : Operand → Value} {o : Oper} {w : World} {t : TypeId} {ps : Array (Nat × Operand)} (ho : o.op = .build t ps) {qs : Array (Nat × Value)} {v : Value} (hq : ps.map (fun (i, x) => (i, ρ x)) = qs) (h : (Instr.build t qs).run P w = .ok v w) : (execOp ρ o).run P w = .ok (.value v) w := by
  subst hq
  unfold execOp
  simp only [ho, Sem.run_bind, h, Result.andThen_ok]
  rfl
theorem x_makeMap109 {ρ : Operand → Value} {o : Oper} {w : World} (ho : o.op = .makeMap 109 none) : (execOp ρ o).run Tryd.prog w = .ok (.value (.map (some w.heap.size))) (w.alloc (.map #[] 0)) := by
  unfold execOp
  simp [ho, Instr.makeMap, go_sem]
structure OpIn (w : World) (h : Hd) (b : Bk) (cs0 : Array Value) (g3 bm k : Nat) (wr : World) : Prop where
  below : Below w.heap.size w wr
  h1 : wr.heap[w.heap.size]? = some (.cells (h.cells b) 27 (0, 0))
  h2 : wr.heap[w.heap.size + 1]? = some (.cells Tryd.zeroCells113 113 (0, 0))
  n3 : w.heap.size + 2 ≤ g3
  nm : w.heap.size + 2 ≤ bm
  h3 : wr.heap[g3]? = some (.cells cs0 113 (0, 0))
  hm : wr.heap[bm]? = some (.map (mapEs (b.pairs.take k)) k)
theorem OpIn.on {w : World} {h : Hd} {b : Bk} {cs0 : Array Value} {g3 bm k : Nat} {wr w1 : World} (s : OpIn w h b cs0 g3 bm k wr) (hb : Below wr.heap.size wr w1) : OpIn w h b cs0 g3 bm k w1 :=
  ⟨below_step s.below hb, blk_below s.h1 hb, blk_below s.h2 hb, s.n3, s.nm, blk_below s.h3 hb, blk_below s.hm hb⟩
structure MkSt (w : World) (h : Hd) (b : Bk) (g3 bm : Nat) (wq : World) (b1 b4 b5 : Bool) : Prop where
  below : Below w.heap.size w wq
  h1 : wq.heap[w.heap.size]? = some (.cells (h.cells b) 27 (0, 0))
  h2 : wq.heap[w.heap.size + 1]? = some (.cells Tryd.zeroCells113 113 (0, 0))
  m : b1 = true → w.heap.size + 2 ≤ bm ∧ wq.heap[bm]? = some (.map #[] 0)
  i5 : b5 = true → b1 = true ∧ b4 = true
  a : b4 = true → w.heap.size + 2 ≤ g3 ∧ wq.heap[g3]? = some (.cells (if b5 then bookA (h.cells b) (.map (some bm)) else Tryd.zeroCells113) 113 (0, 0))
theorem MkSt.on {w : World} {h : Hd} {b : Bk} {g3 bm : Nat} {wq w1 : World} {b1 b4 b5 : Bool} (s : MkSt w h b g3 bm wq b1 b4 b5) (hb : Below wq.heap.size wq w1) : MkSt w h b g3 bm w1 b1 b4 b5 :=
  ⟨below_step s.below hb, blk_below s.h1 hb, blk_below s.h2 hb, fun e => ⟨(s.m e).1, blk_below (s.m e).2 hb⟩, s.i5, fun e => ⟨(s.a e).1, blk_below (s.a e).2 hb⟩⟩
theorem MkSt.map {w : World} {h : Hd} {b : Bk} {g3 bm : Nat} {wq : World} {b4 : Bool} (s : MkSt w h b g3 bm wq false b4 false) : MkSt w h b g3 wq.heap.size (wq.alloc (.map #[] 0)) true b4 false :=
  ⟨below_alloc s.below _, blk_alloc s.h1 _, blk_alloc s.h2 _, fun _ => ⟨by have := blk_lt s.h2; omega, new_at rfl⟩, by simp, fun e => ⟨(s.a e).1, by simpa using blk_alloc (s.a e).2 _⟩⟩
theorem MkSt.var {w : World} {h : Hd} {b : Bk} {g3 bm : Nat} {wq : World} {b1 : Bool} (s : MkSt w h b g3 bm wq b1 false false) : MkSt w h b wq.heap.size bm (wq.alloc (.cells Tryd.zeroCells113 113)) b1 true false :=
  ⟨below_alloc s.below _, blk_alloc s.h1 _, blk_alloc s.h2 _, fun e => ⟨(s.m e).1, blk_alloc (s.m e).2 _⟩, by simp, fun _ => ⟨by have := blk_lt s.h2; omega, by simpa using (new_at rfl : (wq.alloc (.cells Tryd.zeroCells113 113)).heap[wq.heap.size]? = _)⟩⟩
theorem MkSt.set {w : World} {h : Hd} {b : Bk} {g3 bm : Nat} {wq : World} (s : MkSt w h b g3 bm wq true true false) : MkSt w h b g3 bm (wq.setRow g3 (bookA (h.cells b) (.map (some bm)))) true true true := by
  obtain ⟨n3, h3⟩ := s.a rfl
  obtain ⟨nm, hm⟩ := s.m rfl
  have hne : bm ≠ g3 := by
    intro e
    subst e
    rw [hm] at h3
    cases h3
  refine ⟨below_row s.below (by omega) _, (setRow_other wq g3 _ _ (by omega)).trans s.h1, (setRow_other wq g3 _ _ (by omega)).trans s.h2, fun _ => ⟨nm, (setRow_other wq g3 bm _ hne).trans hm⟩, fun _ => ⟨rfl, rfl⟩, fun _ => ⟨n3, ?_⟩⟩
  simpa using setRow_heap wq g3 _ _ 113 _ h3
theorem wp_range_closure {P : Program} {g : Operand} {ps : Array Tmp} {assign body : Code} {Q : Exit → Act → World → Prop} {a : Act} {w : World} {f : FuncId} {fu : Func} {cap : Array Value}
    (hf : P.funcs[f]? = some fu) (hname : (fu.name == "runtime.NumGoroutine") = false) (hb : fu.body.isSome = true) (hg : a.eval g = .func (.func f) #[] cap)
    (h : ∀ lr : Loop, lr.state = .ready → lr.pending = none → lr.params = ps → lr.tmps = a.tmps → lr.assign = assign → lr.body = body → Calls P f (#[.func (.yield (w.heap.size + 1)) #[] #[]] ++ cap) ((w.alloc (.deferred (some []))).alloc (.loop lr)) fun e w3 =>
      (∃ v, e = .returned v) ∧ ∃ r, w3.heap[w.heap.size + 1]? = some (.loop r) ∧ r.state ≠ .busy ∧ r.pending = none ∧ Q .normal { a with defers := [{ target := .collected w.heap.size, args := #[] }] ++ a.defers } (w3.putObj (w.heap.size + 1) (.loop { r with state := .exhausted }))) :
    (Code.rangeFunc g ps assign body).wp P Q a w := by
  have h1 : fu.name ≠ "runtime.NumGoroutine" := by simpa using hname
  obtain ⟨c, hc⟩ := Option.isSome_iff_exists.1 hb
  refine (wpIn_wide (n := 5)).1 (wpIn_rangeFunc ?_)
  intro fn hfn
  have hh := h { state := .ready, pending := none, fn, tmps := a.tmps, params := ps, assign, body, defers := w.heap.size } rfl rfl rfl rfl rfl rfl
  generalize hW : (w.alloc (.deferred (some []))).alloc (.loop { state := .ready, pending := none, fn, tmps := a.tmps, params := ps, assign, body, defers := w.heap.size }) = W1 at hh
  refine ⟨w.heap.size + 1, [{ target := .collected w.heap.size, args := #[] }], W1, { target := .fn (.func f) cap, args := #[.func (.yield (w.heap.size + 1)) #[] #[]] }, W1, f, #[.func (.yield (w.heap.size + 1)) #[] #[]] ++ cap, W1, ?_, ?_, fun _ _ => trivial, ?_, fun _ => by omega, ?_⟩
  · rw [← hW]
    exact run_enterLoop_outer _ _ _ _ _
  · simp [resolve, Deferred.ofValue, hg]
    rfl
  · simp [invoke, callFunc, hf, h1, hc]
  · refine callsIn_wide.2 (hh.mono ?_)
    rintro e w3 ⟨⟨v, rfl⟩, r, hr, hbz, hp, hq⟩
    exact ⟨none, _, (run_endLoop hr hbz).trans (by rw [hp]), hq⟩
theorem bi_value {P : Program} {l n : Nat} {ops : Array Oper} {rest : List Oper} {o : Oper} {a : Act} {w w1 : World} {Q : Exit → Act → World → Prop} (hgd : o.guard = none) (hd : ∀ c, o.op ≠ .defer c) {v : Value} (hrun : (execOp a.eval o).run P w = .ok (.value v) w1)
    (h : wpListIn (Fence.wide.inRound l) n P ops Q rest (a.put o.dst v) w1) : wpListIn (Fence.wide.inRound l) n P ops Q (o :: rest) a w := by
  refine wpListIn_plain hgd fun K hK => ⟨fun _ _ => trivial, ?_⟩
  show o.uponIn _ n P a K Q ((o.semAt (some l) a.eval).run P w)
  rw [Oper.semAt_some l _ _ hd, hrun]
  exact hK _ _ h
theorem others_of {b : Bk} (hq : SP b) {k : Nat} (hk : k < b.pairs.length) : Others (rd_T77 b.pairs k).f0 (rd_T77 b.pairs k).f1 (mapEs (b.pairs.take k)).toList := by
  intro e he
  obtain ⟨i, hi, rfl⟩ := mapEs_mem he
  have hik : i < k := by simp at hi; omega
  have e1 : rd_T77 (b.pairs.take k) i = b.pairs[i] := by
    unfold rd_T77
    rw [List.getD_eq_getElem?_getD, Int.toNat_natCast, List.getElem?_eq_getElem hi]
    simp
  have e2 : rd_T77 b.pairs k = b.pairs[k] := by
    unfold rd_T77
    rw [List.getD_eq_getElem?_getD, Int.toNat_natCast, List.getElem?_eq_getElem hk]
    rfl
  refine ⟨_, _, rfl, ?_⟩
  rw [e1, e2]
  exact List.pairwise_iff_getElem.1 hq.d i k (by omega) hk hik
theorem born_of {ps : List S77} {k : Nat} (h : ps.length = k) : ∀ e ∈ (mapEs ps).toList, e.born ≠ k := by
  intro e he
  have : e.born ∈ (mapEs ps).toList.map (·.born) := List.mem_map_of_mem he
  rw [mapEs_born] at this
  have := List.mem_range.1 this
  omega
theorem take_snoc {ps : List S77} {k : Nat} (hk : k < ps.length) : ps.take (k + 1) = ps.take k ++ [rd_T77 ps k] := by
  rw [List.take_succ_eq_append_getElem hk]
  unfold rd_T77
  rw [List.getD_eq_getElem?_getD, Int.toNat_natCast, List.getElem?_eq_getElem hk]
  rfl
def midMap (b : Bk) (k : Nat) (b11 b13 : Bool) : Obj :=
  if b13 then .map (mapEs (b.pairs.take (k + 1))) (k + 1)
  else if b11 then .map ((mapEs (b.pairs.take k)).push { key := keyV (rd_T77 b.pairs k).f0 (rd_T77 b.pairs k).f1, val := .int .i64 0, born := k }) (k + 1)
  else .map (mapEs (b.pairs.take k)) k
structure PrSt (w : World) (h : Hd) (b : Bk) (cs0 : Array Value) (g3 bm q k : Nat) (wq : World) (b11 b13 : Bool) : Prop where
  below : Below w.heap.size w wq
  h1 : wq.heap[w.heap.size]? = some (.cells (h.cells b) 27 (0, 0))
  h2 : wq.heap[w.heap.size + 1]? = some (.cells Tryd.zeroCells113 113 (0, 0))
  n3 : w.heap.size + 2 ≤ g3
  nm : w.heap.size + 2 ≤ bm
  h3 : wq.heap[g3]? = some (.cells cs0 113 (0, 0))
  hp : wq.heap[q]? = some (.cells #[.int .i64 (rd_T77 b.pairs k).f0, .int .i64 (rd_T77 b.pairs k).f1, .int .i64 (rd_T77 b.pairs k).f2] 77 (0, 0))
  hm : wq.heap[bm]? = some (midMap b k b11 b13)
theorem PrSt.start {w : World} {h : Hd} {b : Bk} {cs0 : Array Value} {g3 bm k : Nat} {wr : World} (s : OpIn w h b cs0 g3 bm k wr) : PrSt w h b cs0 g3 bm wr.heap.size k (wr.alloc (.cells #[.int .i64 (rd_T77 b.pairs k).f0, .int .i64 (rd_T77 b.pairs k).f1, .int .i64 (rd_T77 b.pairs k).f2] 77)).drew false false :=
  ⟨(below_alloc s.below _).drew, blk_alloc s.h1 _, blk_alloc s.h2 _, s.n3, s.nm, blk_alloc s.h3 _, new_at rfl, blk_alloc s.hm _⟩
theorem PrSt.put {w : World} {h : Hd} {b : Bk} {cs0 : Array Value} {g3 bm q k : Nat} {wq : World} {b11 b13 c11 c13 : Bool} (s : PrSt w h b cs0 g3 bm q k wq b11 b13) {es : Array MapEntry} {c : Nat} (hc : midMap b k c11 c13 = .map es c) : PrSt w h b cs0 g3 bm q k (wq.putObj bm (.map es c)) c11 c13 := by
  have hlt := blk_lt s.hm
  have hnm := s.nm
  have hm1 : ∃ es1 c1, wq.heap[bm]? = some (.map es1 c1) := by
    have := s.hm
    unfold midMap at this
    split at this
    · exact ⟨_, _, this⟩
    · split at this <;> exact ⟨_, _, this⟩
  obtain ⟨es1, c1, hm1⟩ := hm1
  have hne : ∀ {g : Nat} {cs : Array Value} {t : TypeId}, wq.heap[g]? = some (.cells cs t (0, 0)) → g ≠ bm := by
    intro g cs t hg e
    subst e
    rw [hm1] at hg
    cases hg
  refine ⟨s.below.trans ⟨rfl, rfl, rfl, by simp, fun i hi => World.putObj_heap_other (by omega)⟩, (World.putObj_heap_other (hne s.h1)).trans s.h1, (World.putObj_heap_other (hne s.h2)).trans s.h2, s.n3, s.nm, (World.putObj_heap_other (hne s.h3)).trans s.h3, (World.putObj_heap_other (hne s.hp)).trans s.hp, ?_⟩
  rw [hc]
  exact World.putObj_heap_same hlt
theorem PrSt.done {w : World} {h : Hd} {b : Bk} {cs0 : Array Value} {g3 bm q k : Nat} {wq : World} (s : PrSt w h b cs0 g3 bm q k wq true true) : OpIn w h b cs0 g3 bm (k + 1) wq :=
  ⟨s.below, s.h1, s.h2, s.n3, s.nm, s.h3, s.hm⟩
theorem x_extract {P : Program} {ρ : Operand → Value} {o : Oper} {w : World} {x : Operand} {i : Nat} (ho : o.op = .extract x i) {vs : Array Value} {v : Value} (hx : ρ x = .tuple vs) (h : (Instr.extract (.tuple vs) i).run P w = .ok v w) : (execOp ρ o).run P w = .ok (.value v) w := by
  unfold execOp
  simp only [ho, hx, Sem.run_bind, h, Result.andThen_ok]
  rfl
set_option maxRecDepth 20000 in
set_option maxHeartbeats 800000 in
theorem opened_calls {h : Hd} {b : Bk} {w : World} (hb : BkIn w h b) (hq : SP b) (hs : Small b) :
    Calls Tryd.prog 61 #[.agg (h.cells b)] w fun e w' => ∃ cs, e = .returned (.agg cs) ∧ IsBook cs h b (markAll b (fun _ => false) (fills b.salts)) ∧ Below w.heap.size w w' := by
  refine (callsIn_wide (n := 5)).1 (callsIn_of_wp_marks Tryd.func61 rfl trivial (wpIn_wide.2 ?_))
  simp only [Tryd.ntmps61, List.size_toArray, List.length_cons, List.length_nil, Nat.reduceAdd, Nat.reduceSub, Array.replicate_succ,
     Array.replicate_zero, List.push_toArray, List.append_toArray, List.nil_append, List.cons_append]
  refine wp_seq_k fun K hK => ?_
  refine wp_region_lit ?_
  refine b_box (t := 27) rfl rfl rfl ?_
  refine b_alloc rfl rfl zb113 ?_
  refine wpList_nil ?_
  refine hK _ _ ?_
  clear hK K
  simp only [Act.put, List.setIfInBounds_toArray, List.set_cons_succ, List.set_cons_zero]
  refine wp_seq_k fun K hK => ?_
  have hst0 : MkSt w h b 0 0 (((w.alloc (.cells (h.cells b) 27)).alloc (.cells Tryd.zeroCells113 113)).drew) false false false :=
    ⟨(below_alloc (below_alloc (Below.refl _ _) _) _).drew, blk_alloc (new_at rfl) _, new_at (by simp), by simp, by simp, by simp⟩
  refine draw_inv mixed (by kernel_rfl) (fun bb a wq => ∃ g3 bm, a = ⟨#[.agg (h.cells b), .pointer (some ⟨w.heap.size, 0, none⟩), .pointer (some ⟨w.heap.size + 1, 0, none⟩), (if bb 4 then .pointer (some ⟨g3, 0, none⟩) else undef), undef, undef, undef, (if bb 0 then .agg (h.cells b) else undef), (if bb 1 then .map (some bm) else undef), (if bb 2 then .agg noneA else undef), (if bb 3 then .agg (bookA (h.cells b) (.map (some bm))) else undef), undef, undef, undef, undef, undef, undef, undef, undef, undef, undef, undef, undef, undef, undef, undef, undef, undef, undef, undef, undef, undef, undef, undef, undef, undef, undef, undef, undef, undef, undef], []⟩ ∧ MkSt w h b g3 bm wq (bb 1) (bb 4) (bb 5) ∧ (bb 3 = true → bb 1 = true)) ?_ ?_ ?_
  · exact ⟨0, 0, by simp, hst0, by simp⟩
  · intro i hi bb a wq hI hbi hcame
    obtain ⟨g3, bm, rfl, hst, hi3⟩ := hI
    rcases i with _ | _ | _ | _ | _ | _ | i
    · refine op_value rfl rfl (x_load (g := w.heap.size) rfl rfl hst.h1 Tryd.underlying27 rfl i27) ⟨g3, bm, by simp [Act.put, upd], ?_⟩
      exact ⟨by simpa [upd] using hst, by simpa [upd] using hi3⟩
    · have e5 : bb 5 = false := by
        cases e : bb 5 with
        | false => rfl
        | true => have := (hst.i5 e).1; rw [hbi] at this; cases this
      refine op_value rfl rfl (x_makeMap109 rfl) ⟨g3, wq.heap.size, ?_, ?_⟩
      · have e3 : bb 3 = false := by
          cases e : bb 3 with
          | false => rfl
          | true => have := hi3 e; rw [hbi] at this; cases this
        simp [Act.put, upd, e3]
      · rw [hbi, e5] at hst
        exact ⟨by simpa [upd, e5] using hst.map, by simp [upd]⟩
    · refine op_call rfl (by simp [Region.wanted, yielded]) (run_call Tryd.func99 (by kernel_rfl) rfl rfl rfl (args := #[]) (by simp)) ((none_calls _).mono ?_)
      rintro e w5 ⟨rfl, hb5⟩
      refine ⟨_, rfl, g3, bm, by simp [Act.put, upd], ?_⟩
      exact ⟨by simpa [upd] using hst.on hb5, by simpa [upd] using hi3⟩
    · have hh := hcame
      simp [Came, Region.binds] at hh
      refine op_value rfl rfl (x_build (qs := #[(0, .agg (h.cells b)), (1, .map (some bm)), (2, .agg noneA)]) rfl (by simp [Act.eval, hh]) (build113 (h.cells b) rfl bm wq)) ⟨g3, bm, by simp [Act.put, upd], ?_⟩
      exact ⟨by simpa [upd] using hst, by simp [upd, hh]⟩
    · have e5 : bb 5 = false := by
        cases e : bb 5 with
        | false => rfl
        | true => have := (hst.i5 e).2; rw [hbi] at this; cases this
      refine op_value rfl rfl (x_alloc rfl zb113) ⟨wq.heap.size, bm, by simp [Act.put, upd], ?_⟩
      rw [hbi, e5] at hst
      exact ⟨by simpa [upd, e5] using hst.var, by simpa [upd] using hi3⟩
    · have hh := hcame
      simp [Came, Region.binds] at hh
      have h1 : bb 1 = true := by simp [hh]
      have h4 : bb 4 = true := by simp [hh]
      rw [hbi, h1, h4] at hst
      refine op_skip rfl (by simp [Region.wanted, yielded]) (x_store (g := g3) (cells := bookA (h.cells b) (.map (some bm))) rfl (by simp [Act.eval, hh]) (by simp [Act.eval, hh]) (by simpa using (hst.a rfl).2) (by rw [bookA_size]; exact i113) (by rw [bookA_size, z113_size]) (bookA_book h b bm).1.one) ⟨g3, bm, by simp [Act.put, upd, hh], ?_⟩
      exact ⟨by simpa [upd, h1, h4] using hst.set, by simp [upd, h1]⟩
    · simp at hi; omega
  · intro bb a w4 hI hall
    obtain ⟨g3, bm, rfl, hst, _⟩ := hI
    refine hK _ _ ?_
    simp only [hall 0 (by simp), hall 1 (by simp), hall 2 (by simp), hall 3 (by simp), hall 4 (by simp), if_true]
    rw [hall 1 (by simp), hall 4 (by simp), hall 5 (by simp)] at hst
    clear hall hK hst0
    have HO := Aside0.mk (show OpIn w h b (bookA (h.cells b) (.map (some bm))) g3 bm 0 w4 from ⟨hst.below, hst.h1, hst.h2, (hst.a rfl).1, (hst.m rfl).1, by simpa using (hst.a rfl).2, (hst.m rfl).2⟩)
    obtain ⟨hbk, hb5⟩ := bookA_book h b bm
    clear hst
    generalize bookA (h.cells b) (.map (some bm)) = cs0 at *
    have HBK := Lib.hid hbk
    have HB5 := Lib.hid hb5
    clear hbk hb5
    have c1 : w4.cell? ⟨w.heap.size, 1, none⟩ = some (.slice h.A1 b.pairs.length h.c1) := (blk_cell HO.out.h1 1).trans rfl
    have hz1 := blk_lt HO.out.h1
    have hp4 := hq.p1
    go_wp2
    clear c1 hz1
    go_loopw [14] (fun i wr => ∃ k : Nat, k ≤ b.pairs.length ∧ i = .int .i64 k ∧ Aside0 (OpIn w h b cs0 g3 bm k wr)) (fun i _ => b.pairs.length - (intOf i).toNat)
    case atStart => exact ⟨0, Nat.zero_le _, rfl, HO⟩
    case round =>
      obtain ⟨k, hk, rfl, HV⟩ := hrel
      by_cases hlt : k < b.pairs.length
      · obtain ⟨ad, hA, t0, t1, t2⟩ := at_T77 (Kd.C_below hb.r1 HV.out.below) k (by omega) (by omega)
        have HA := Aside0.mk hA
        rw [hA]
        simp only [Int.toNat_natCast] at t0 t1 t2
        have e4 := World.block_lt_of_cell? wr _ t0
        clear hA
        go_upto_region 5 with (first | fail)
        rename_i K hK
        obtain ⟨q0, q1, q2, q3, q4, q5⟩ := hq.p _ (rd77_mem (xs := b.pairs) hlt)
        have HOT := Aside0.mk (others_of hq hlt)
        have hsz : (b.pairs.take k).length = k := by simp; omega
        have HBN := Aside0.mk (born_of hsz)
        clear hsz t0 t1 t2 e4 HA
        refine draw_inv mixed (by kernel_rfl) (fun bb a wq => a = ⟨#[.agg (h.cells b), .pointer (some ⟨w.heap.size, 0, none⟩), .pointer (some ⟨w.heap.size + 1, 0, none⟩), .pointer (some ⟨g3, 0, none⟩), undef, .pointer (some ⟨wr.heap.size, 0, none⟩), undef, .agg (h.cells b), .map (some bm), .agg noneA, .agg cs0, .pointer (some ⟨w.heap.size, 1, none⟩), .slice (some ad) b.pairs.length h.c1, .int .i64 b.pairs.length, .int .i64 k, .bool true, .pointer (some (ad.add (k * 3))), .agg #[.int .i64 (rd_T77 b.pairs k).f0, .int .i64 (rd_T77 b.pairs k).f1, .int .i64 (rd_T77 b.pairs k).f2], (if bb 0 then .pointer (some ⟨g3, 5, none⟩) else u18), (if bb 1 then .map (some bm) else u19), (if bb 2 then .pointer (some ⟨wr.heap.size, 0, none⟩) else u20), (if bb 3 then .int .i64 (rd_T77 b.pairs k).f0 else u21), (if bb 4 then .pointer (some ⟨wr.heap.size, 1, none⟩) else u22), (if bb 5 then .int .i64 (rd_T77 b.pairs k).f1 else u23), (if bb 6 then keyV (rd_T77 b.pairs k).f0 (rd_T77 b.pairs k).f1 else u24), (if bb 7 then .int .i64 0 else u25), (if bb 8 then .pointer (some ⟨wr.heap.size, 2, none⟩) else u26), (if bb 9 then .int .i64 (rd_T77 b.pairs k).f2 else u27), (if bb 10 then .int .i64 (rd_T77 b.pairs k).f2 else u28), (if bb 11 then .tuple #[.int .i64 0, .int .i64 k] else u29), (if bb 12 then .int .i64 k else u30), u31, undef, undef, undef, undef, undef, undef, undef, undef, undef], []⟩ ∧ PrSt w h b cs0 g3 bm wr.heap.size k wq (bb 11) (bb 13) ∧ (bb 13 = true → bb 11 = true ∧ bb 7 = true)) ?_ ?_ ?_
        · exact ⟨by simp, PrSt.start HV.out, by simp⟩
        · intro i hi bb a wq hI hbi hcame
          obtain ⟨rfl, hst, hi13⟩ := hI
          have c5 : wq.cell? ⟨g3, 5, none⟩ = some (.map (some bm)) := (blk_cell hst.h3 5).trans HB5.out
          have p0 : wq.cell? ⟨wr.heap.size, 0, none⟩ = some (.int .i64 (rd_T77 b.pairs k).f0) := (blk_cell hst.hp 0).trans rfl
          have p1 : wq.cell? ⟨wr.heap.size, 1, none⟩ = some (.int .i64 (rd_T77 b.pairs k).f1) := (blk_cell hst.hp 1).trans rfl
          have p2 : wq.cell? ⟨wr.heap.size, 2, none⟩ = some (.int .i64 (rd_T77 b.pairs k).f2) := (blk_cell hst.hp 2).trans rfl
          have z3 := blk_lt hst.h3
          have zp := blk_lt hst.hp
          rcases i with _ | _ | _ | _ | _ | _ | _ | _ | _ | _ | _ | _ | _ | _ | i
          · refine op_value rfl rfl (v := .pointer (some ⟨g3, 5, none⟩)) (w1 := wq) (by go_simp) ⟨by simp [Act.put, Act.eval, upd], ?_, ?_⟩
            · simpa [upd] using hst
            · simpa [upd] using hi13
          · have hh := hcame
            simp [Came, Region.binds] at hh
            refine op_value rfl rfl (v := .map (some bm)) (w1 := wq) (by simp only [hh, if_true]; go_simp) ⟨by simp [Act.put, Act.eval, upd, hh], ?_, ?_⟩
            · simpa [upd] using hst
            · simpa [upd] using hi13
          · refine op_value rfl rfl (v := .pointer (some ⟨wr.heap.size, 0, none⟩)) (w1 := wq) (by go_simp) ⟨by simp [Act.put, Act.eval, upd], ?_, ?_⟩
            · simpa [upd] using hst
            · simpa [upd] using hi13
          · have hh := hcame
            simp [Came, Region.binds] at hh
            refine op_value rfl rfl (v := .int .i64 (rd_T77 b.pairs k).f0) (w1 := wq) (by simp only [hh, if_true]; go_simp) ⟨by simp [Act.put, Act.eval, upd, hh], ?_, ?_⟩
            · simpa [upd] using hst
            · simpa [upd] using hi13
          · refine op_value rfl rfl (v := .pointer (some ⟨wr.heap.size, 1, none⟩)) (w1 := wq) (by go_simp) ⟨by simp [Act.put, Act.eval, upd], ?_, ?_⟩
            · simpa [upd] using hst
            · simpa [upd] using hi13
          · have hh := hcame
            simp [Came, Region.binds] at hh
            refine op_value rfl rfl (v := .int .i64 (rd_T77 b.pairs k).f1) (w1 := wq) (by simp only [hh, if_true]; go_simp) ⟨by simp [Act.put, Act.eval, upd, hh], ?_, ?_⟩
            · simpa [upd] using hst
            · simpa [upd] using hi13
          · have hh := hcame
            simp [Came, Region.binds] at hh
            refine op_value rfl rfl (v := keyV (rd_T77 b.pairs k).f0 (rd_T77 b.pairs k).f1) (w1 := wq) (by simp only [hh, if_true]; go_simp) ⟨by simp [Act.put, Act.eval, upd, hh], ?_, ?_⟩
            · simpa [upd] using hst
            · simpa [upd] using hi13
          · have hh := hcame
            simp [Came, Region.binds] at hh
            have h13 : bb 13 = false := by
              cases e : bb 13 with
              | false => rfl
              | true => have := (hi13 e).2; rw [hbi] at this; cases this
            refine op_value rfl rfl (x_lookup (x := .tmp 19) (y := .tmp 24) (ok := false) (w1 := wq) (v := .int .i64 0) (u := .map (some bm)) (i := keyV (rd_T77 b.pairs k).f0 (rd_T77 b.pairs k).f1) rfl (by simp [Act.eval, hh]) (by simp [Act.eval, hh]) ?_) ⟨by simp [Act.put, Act.eval, upd, hh], ?_, ?_⟩
            · have hm := hst.hm
              rw [h13] at hm
              cases e11 : bb 11 with
              | false => rw [e11] at hm; exact run_lookup_none hm HOT.out
              | true => rw [e11] at hm; exact run_lookup_last hm rfl HOT.out
            · simpa [upd] using hst
            · simp [upd, h13]
          · refine op_value rfl rfl (v := .pointer (some ⟨wr.heap.size, 2, none⟩)) (w1 := wq) (by go_simp) ⟨by simp [Act.put, Act.eval, upd], ?_, ?_⟩
            · simpa [upd] using hst
            · simpa [upd] using hi13
          · have hh := hcame
            simp [Came, Region.binds] at hh
            refine op_value rfl rfl (v := .int .i64 (rd_T77 b.pairs k).f2) (w1 := wq) (by simp only [hh, if_true]; go_simp) ⟨by simp [Act.put, Act.eval, upd, hh], ?_, ?_⟩
            · simpa [upd] using hst
            · simpa [upd] using hi13
          · have hh := hcame
            simp [Came, Region.binds] at hh
            refine op_value rfl rfl (x_add3 (x := .tmp 25) (y := .tmp 27) rfl (i := 0) (j := (rd_T77 b.pairs k).f2) (by simp [Act.eval, hh]) (by simp [Act.eval, hh]) (by omega) (by omega)) ⟨by simp [Act.put, Act.eval, upd, hh], ?_, ?_⟩
            · simpa [upd] using hst
            · simpa [upd] using hi13
          · have hh := hcame
            simp [Came, Region.binds] at hh
            have h13 : bb 13 = false := by
              cases e : bb 13 with
              | false => rfl
              | true => have := (hi13 e).1; rw [hbi] at this; cases this
            have hm := hst.hm
            rw [h13, hbi] at hm
            refine op_value rfl rfl (x_mapEntry (x := .tmp 19) (y := .tmp 24) (u := .map (some bm)) (i := keyV (rd_T77 b.pairs k).f0 (rd_T77 b.pairs k).f1) rfl (by simp [Act.eval, hh]) (by simp [Act.eval, hh]) (run_mapEntry hm HOT.out)) ⟨by simp [Act.put, Act.eval, upd, hh], ?_, ?_⟩
            · have := hst.put (c11 := true) (c13 := false) rfl
              simpa [upd, h13] using this
            · simp [upd, h13]
          · have hh := hcame
            simp [Came, Region.binds] at hh
            refine op_value rfl rfl (x_extract (x := .tmp 29) (i := 1) (vs := #[.int .i64 0, .int .i64 k]) (v := .int .i64 k) rfl (by simp [Act.eval, hh]) (by go_simp)) ⟨by simp [Act.put, Act.eval, upd, hh], ?_, ?_⟩
            · simpa [upd] using hst
            · simpa [upd] using hi13
          · have hh := hcame
            simp [Came, Region.binds] at hh
            have h11 : bb 11 = true := by simp [hh]
            have hm := hst.hm
            rw [h11, hbi] at hm
            have he : midMap b k true true = .map ((mapEs (b.pairs.take k)).push { key := keyV (rd_T77 b.pairs k).f0 (rd_T77 b.pairs k).f1, val := .int .i64 (rd_T77 b.pairs k).f2, born := k }) (k + 1) := by
              unfold midMap
              rw [if_pos rfl, take_snoc hlt, mapEs_snoc]
              have hsz : (b.pairs.take k).length = k := by simp; omega
              rw [hsz]
            refine op_skip rfl (by simp [Region.wanted, yielded]) (x_entryStore (x := .tmp 19) (y := .tmp 30) (z := .tmp 28) (u := .map (some bm)) (i := .int .i64 k) (q := .int .i64 (rd_T77 b.pairs k).f2) rfl (by simp [Act.eval, hh]) (by simp [Act.eval, hh]) (by simp [Act.eval, hh]) (run_entryStore hm HBN.out)) ⟨by simp [Act.put, Act.eval, upd, hh], ?_, ?_⟩
            · have := hst.put (c11 := true) (c13 := true) he
              simpa [upd, h11] using this
            · simp [upd, h11, hh]
          · simp at hi; omega
        · intro bb a wf hI hall
          obtain ⟨rfl, hst, _⟩ := hI
          refine hK _ _ ?_
          have hdn := hst
          rw [hall 11 (by simp), hall 13 (by simp)] at hdn
          have HD := Aside0.mk hdn.done
          clear hst hdn
          simp only [hall 0 (by simp), hall 1 (by simp), hall 2 (by simp), hall 3 (by simp), hall 4 (by simp), hall 5 (by simp), hall 6 (by simp), hall 7 (by simp), hall 8 (by simp), hall 9 (by simp), hall 10 (by simp), hall 11 (by simp), hall 12 (by simp), if_true]
          clear hall
          go_wp2
          go_roundw
          case rel => exact ⟨k + 1, by omega, by go_num, HD⟩
          case measure => simp [intOf]; omega
      · obtain rfl : k = b.pairs.length := by omega
        have HI := Lib.hid (show (Tryd.prog.info? 113).map (·.size) = some cs0.size by rw [HBK.out.size]; exact i113)
        clear hlt hk
        go_wp2_with (first | ((with_reducible refine gate_dst (N := 32) rfl ?_); refine wpList_load_row rfl 113 _ rfl g3 rfl 113 cs0 (0, 0) _ HV.out.h3 Tryd.underlying113 rfl HI.out ?_) | (go_at_call 100; refine (amounts_calls cs0 wr).mono ?_; rintro e w1 ⟨rfl, rfl⟩))
        refine wp_range_closure (f := 111) (cap := #[ptr wr.heap.size]) Tryd.func111 (by kernel_rfl) rfl rfl ?_
        intro lr hl1 hl2 hl3 hl4 hl5 hl6
        have hHV := HV.out.on (below_alloc (Below.refl _ _) (.cells cs0 113))
        have hgB : (wr.alloc (.cells cs0 113)).heap[wr.heap.size]? = some (.cells cs0 113 (0, 0)) := new_at rfl
        have hlt3 := blk_lt HV.out.h3
        have hlts := HV.out.below.size
        have hlt2 := blk_lt HV.out.h2
        have hszW : (wr.alloc (.cells cs0 113)).heap.size = wr.heap.size + 1 := by simp
        generalize wr.alloc (.cells cs0 113) = W0 at hHV hgB hszW ⊢
        have HHV := Lib.hid hHV
        have HGB := Lib.hid hgB
        have hn3 := HV.out.n3
        clear hHV hgB
        have hm0 : W0.heap[bm]? = some (.map (mapEs b.pairs) b.pairs.length) := by
          have := HHV.out.hm
          rwa [List.take_length] at this
        refine (amounts1_calls (l := W0.heap.size + 1) (g3 := g3) HBK.out hq (yield_ok (w := w) (bm := bm) (D := W0.heap.size) (r := lr) hb hq hn3 (by omega) ?hst ?hpe ?hps (fun v => (lr.tmps.setIfInBounds 34 v).setIfInBounds 6 v) ?hA ?hB) (by omega) (fun _ => false) _ ?hw ?hgb).mono ?fin
        case hw => exact ⟨⟨cs0, HBK.out, HB5.out, blk_alloc (blk_alloc HHV.out.h3 _) _⟩, blk_alloc (blk_alloc hm0 _) _, new_at (by simp), blk_alloc (new_at rfl) _, blk_alloc (blk_alloc HHV.out.h2 _) _, HHV.out.below.trans ((below_alloc (below_alloc (Below.refl _ _) _) _).mono HHV.out.below.size)⟩
        case hgb => exact blk_alloc (blk_alloc HGB.out _) _
        case hst => exact hl1
        case hpe => exact hl2
        case hps => exact hl3
        case hA =>
          intro n v W Q hQ
          rw [hl4] at hQ
          simp only [List.setIfInBounds_toArray, List.set_cons_succ, List.set_cons_zero] at hQ
          rw [hl4, hl5]
          simp only [List.setIfInBounds_toArray, List.set_cons_succ, List.set_cons_zero]
          have HQ := Aside0.mk hQ
          clear hQ
          gi_wp2
          exact HQ.out
        case hB =>
          intro n A c xs cs all W Q hc h5 h3 hm hbk hx hp hl hQ
          have HIc := Lib.hid (show (Tryd.prog.info? 113).map (·.size) = some cs.size by rw [hc.size]; exact i113)
          have HQ := Aside0.mk hQ
          have HC := Lib.hid hc
          have H5 := Lib.hid h5
          have H3 := Lib.hid h3
          have HM := Lib.hid hm
          have HX := Lib.hid hx
          have HP := Lib.hid hp
          have HL := Lib.hid hl
          obtain ⟨p0, p1⟩ := power_range hq hp hl
          clear hQ hc h5 h3 hm hx hp hl
          rw [hl4, hl6]
          simp only [List.setIfInBounds_toArray, List.set_cons_succ, List.set_cons_zero]
          obtain ⟨p, hpp⟩ : ∃ p : Nat, powerI b xs = p := ⟨(powerI b xs).toNat, by omega⟩
          have hp512 : p < 512 := by omega
          have HPP := Aside0.mk hpp
          have HPN : Aside0 ((powerI b xs).toNat = p) := ⟨by omega⟩
          clear hpp p0 p1
          gi_wp2_with (first | (refine bi_value rfl (by simp) (x_load (x := .tmp 3) (g := g3) rfl rfl H3.out Tryd.underlying113 rfl HIc.out) ?_))
          refine ⟨trivial, fun hh => (by simp [Fence.wide] at hh), ?_⟩
          refine (CallsIn.inRound _ (callsIn_wide.2 (power_calls HC.out hbk hq bm H5.out HM.out A c xs HX.out HL.out HP.out))).mono ?_
          rintro e w5 ⟨rfl, hb5⟩
          rw [HPP.out]
          have c6 := (blk_cell (blk_below H3.out hb5) (6 + p)).trans (HC.out.all p hp512)
          have f6 := blk_frozen (blk_below H3.out hb5) (6 + p)
          have zz := blk_lt (blk_below H3.out hb5)
          have HB6 := Aside0.mk hb5
          gi_wp2
          have hfin := fun a => HQ.out a w5 HB6.out
          rw [HPN.out] at hfin
          exact hfin _
        case fin =>
          rintro e w3 ⟨rfl, hj3, hg3⟩
          refine ⟨⟨_, rfl⟩, lr, hj3.hl, by rw [hl1]; simp, hl2, ?_⟩
          obtain ⟨⟨cs', hc', h5', h3'⟩, hm', hL', hD', h2', hbl'⟩ := hj3
          have hne : ∀ {g : Nat} {o : Obj}, w3.heap[g]? = some o → (∀ r', o ≠ .loop r') → g ≠ W0.heap.size + 1 := by
            intro g o hg ho e
            subst e
            rw [hL'] at hg
            exact ho lr (Option.some.inj hg).symm
          have k3 := (World.putObj_heap_other (w := w3) (o := .loop { lr with state := .exhausted }) (hne h3' (by simp))).trans h3'
          have k2 := (World.putObj_heap_other (w := w3) (o := .loop { lr with state := .exhausted }) (hne h2' (by simp))).trans h2'
          have kD := (World.putObj_heap_other (w := w3) (o := .loop { lr with state := .exhausted }) (hne hD' (by simp))).trans hD'
          have kb : Below w.heap.size w (w3.putObj (W0.heap.size + 1) (.loop { lr with state := .exhausted })) := hbl'.trans ⟨rfl, rfl, rfl, by simp, fun i hi => World.putObj_heap_other (by omega)⟩
          generalize w3.putObj (W0.heap.size + 1) (.loop { lr with state := .exhausted }) = W5 at k3 k2 kD kb ⊢
          clear hD' h2' hL' hm' h3' hne
          have HIc := Lib.hid (show (Tryd.prog.info? 113).map (·.size) = some cs'.size by rw [hc'.size]; exact i113)
          have hsz : Tryd.zeroCells113.size = cs'.size := by rw [hc'.size]; exact z113_size
          have K3 := Lib.hid k3
          have K2 := Lib.hid k2
          have KD := Lib.hid kD
          have HSZ := Lib.hid hsz
          have HC' := Lib.hid hc'
          have KB := Lib.hid kb
          clear k3 k2 kD hsz hc' kb h5'
          simp only [Exit.inBlock, Exit.then]
          refine (by assumption : ∀ a w, _ → _) _ _ ?_
          go_wp2_with (first | ((with_reducible refine gate_dst (N := 40) rfl ?_); refine wpList_load_row rfl 113 _ rfl g3 rfl 113 cs' (0, 0) _ K3.out Tryd.underlying113 rfl HIc.out ?_) | (refine wpList_store_row rfl 113 (.tmp 2) (.tmp 40) rfl (w.heap.size + 1) cs' rfl rfl 113 Tryd.zeroCells113 K2.out HIc.out HSZ.out HC'.out.one ?_))
          have hlt0 : w.heap.size + 1 < W0.heap.size := by omega
          have hD5 : (W5.setRow (w.heap.size + 1) cs').heap[W0.heap.size]? = some (.deferred (some [])) := (setRow_other W5 (w.heap.size + 1) W0.heap.size cs' (by omega)).trans KD.out
          have h25 : ((W5.setRow (w.heap.size + 1) cs').putObj W0.heap.size (.deferred none)).heap[w.heap.size + 1]? = some (.cells cs' 113 (0, 0)) := (World.putObj_heap_other (by omega)).trans (setRow_heap W5 (w.heap.size + 1) _ _ 113 _ K2.out)
          rw [hszW] at hlt0 hD5 h25
          refine ⟨by simp, .inl ⟨wr.heap.size + 1, _, rfl, run_takeDeferred hD5, ?_⟩⟩
          refine ⟨_, results_cell_row Tryd.results61 _ _ (w.heap.size + 1) 113 cs' (0, 0) _ rfl h25 Tryd.underlying113 rfl HIc.out, cs', rfl, HC'.out, ?_⟩
          refine (below_row KB.out (by omega) _).trans ⟨rfl, rfl, rfl, by simp, fun i hi => World.putObj_heap_other (by omega)⟩
end Go.Proofs.YtghpoldlddghjaaDoor
