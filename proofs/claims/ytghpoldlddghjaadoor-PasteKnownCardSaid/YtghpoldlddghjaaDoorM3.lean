/- The walks of Next, Wrong and of the examples. Conditions: a book whose pairs are sane; the table of the two questions lies as its text lays it. -/
import Derived.Test.YtghpoldlddghjaaDoorM1
import Derived.Test.YtghpoldlddghjaaDoorM2
import Derived.Laws.Shifts
import Derived.Laws.BitsLemmas
import Derived.Test.YtghpoldlddghjaaDoorMY
import Derived.Laws.StructEq
set_option linter.unusedVariables false
set_option linter.unusedSimpArgs false
namespace Go.Proofs.YtghpoldlddghjaaDoor
open Go Go.RowKit
open Go.Proofs.YtghpoldlddghjaaDoorW.PrintWords Go.Proofs.YtghpoldlddghjaaDoorW.PrintMore Go.Proofs.YtghpoldlddghjaaDoor.PPasteTrue
theorem run_cut25 (A : Option Addr) (k c : Nat) (h : k ≤ c) (w : World) : (Instr.sliceAt 25 (.slice A k c) none (some (.int .i64 k)) (some (.int .i64 k))).run Tryd.prog w = .ok (.slice A k k) w := by
  simp [Instr.sliceAt, Instr.slice, Instr.sliceBounds, Instr.sliceBound, asIntOf, go_sem, run_underlying Tryd.underlying25, h]
theorem i59x : (Tryd.prog.info? 59).map (fun i => (i.zero, i.size, i.bytes)) = some (some (.agg #[.int .i64 0, .bool false]), 2, 16) := by kernel_rfl
def flat59 : List S59 → List Value
  | [] => []
  | t :: l => .int .i64 t.f0 :: .bool t.f1 :: flat59 l
theorem flat59_len : ∀ l : List S59, (flat59 l).length = l.length * 2
  | [] => rfl
  | t :: l => by simp only [flat59, List.length_cons, flat59_len l]; omega
theorem flat59_snoc : ∀ (l : List S59) (t : S59), flat59 (l ++ [t]) = flat59 l ++ [.int .i64 t.f0, .bool t.f1]
  | [], t => rfl
  | x :: l, t => by simp only [List.cons_append, flat59, flat59_snoc l t]
theorem flat59_at : ∀ (l : List S59) (j : Nat) (u : Value), (flat59 l)[j]? = some u → ∃ t i, l[i]? = some t ∧ ((j = i * 2 ∧ u = .int .i64 t.f0) ∨ (j = i * 2 + 1 ∧ u = .bool t.f1))
  | [], j, u, h => by simp [flat59] at h
  | t :: l, 0, u, h => by simp [flat59] at h; exact ⟨t, 0, rfl, .inl ⟨rfl, h.symm⟩⟩
  | t :: l, 1, u, h => by simp [flat59] at h; exact ⟨t, 0, rfl, .inr ⟨rfl, h.symm⟩⟩
  | t :: l, j + 2, u, h => by
    simp only [flat59, List.getElem?_cons_succ] at h
    obtain ⟨x, i, h1, h2⟩ := flat59_at l j u h
    refine ⟨x, i + 1, by simpa using h1, ?_⟩
    rcases h2 with ⟨e, h2⟩ | ⟨e, h2⟩
    · exact .inl ⟨by omega, h2⟩
    · exact .inr ⟨by omega, h2⟩
theorem reps59 (w : World) (base : Nat) (ok : Nat → Prop) : ∀ l : List S59, Reps (k59.M w base ok) 2 l (flat59 l)
  | [] => Reps.none _ _
  | t :: l => by
    refine ⟨flat59_len _, fun j p hj => ?_⟩
    cases j with
    | zero =>
      simp at hj
      subst hj
      simpa [flat59] using k59_mkM w base ok t
    | succ j =>
      have h1 := (reps59 w base ok l).2 j p (by simpa using hj)
      have e : (flat59 (t :: l)).drop ((j + 1) * 2) = (flat59 l).drop (j * 2) := by
        rw [show (j + 1) * 2 = j * 2 + 2 by omega, flat59]
        rfl
      rw [e]
      exact h1
theorem run_more59 (ty : TypeId) {A : Option Addr} {xs : List S59} {W : World} (hx : Kd.C k59 W A xs.length xs) (hl : xs.length ≤ 1000) (g : Nat) (y : S59) (hg : W.heap[g]? = some (.cells #[.int .i64 y.f0, .bool y.f1] 59 (0, 0))) :
    ∃ v' w', (Builtin.append_ #[25, 25] ty #[.slice A xs.length xs.length, .slice (some ⟨g, 0, none⟩) 1 1]).run Tryd.prog W = .ok v' w' ∧ k59.R 59 w' W.heap.size (fun _ => True) v' (xs ++ [y]) ∧ Below W.heap.size W w' := by
  obtain ⟨i0, hi, hzz⟩ := Option.map_eq_some_iff.1 i59x
  simp only [Prod.mk.injEq] at hzz
  obtain ⟨hz0, hz1, hz2⟩ := hzz
  have hnews : ∀ j u, [Value.int .i64 y.f0, .bool y.f1][j]? = some u → W.cell? ((⟨g, 0, none⟩ : Addr).add j) = some u := by
    intro j u hu
    rcases j with _ | _ | j
    · simp at hu
      subst hu
      have := blk_cell hg 0
      simpa [Addr.add] using this
    · simp at hu
      subst hu
      have := blk_cell hg 1
      simpa [Addr.add] using this
    · simp at hu
  have key : ∃ v' w', (Builtin.append_ #[25, 25] ty #[.slice A xs.length xs.length, .slice (some ⟨g, 0, none⟩) 1 1]).run Tryd.prog W = .ok v' w' ∧ w'.ownsRow W.heap.size 59 2 v' (xs.length + 1) (flat59 (xs ++ [y])) ∧ W.grownBy w' none := by
    rw [flat59_snoc]
    cases A with
    | none =>
      have h0 : xs.length = 0 := by
        rcases Nat.eq_zero_or_pos xs.length with e | e
        · exact e
        · obtain ⟨ad, e2, _⟩ := hx.2.2 e
          cases e2
      have hnil : xs = [] := List.length_eq_zero_iff.1 h0
      subst hnil
      obtain ⟨v', w', h1, h2, h3, _⟩ := run_append_own (P := Tryd.prog) (w := W) W.heap.size 25 ty 59 i0 (.agg #[.int .i64 0, .bool false]) 2 16 Tryd.underlying25 hi hz0 hz1 hz2 rfl (by decide) (.slice none 0 0) 0 [] (own_nil _ _ _ _) ⟨g, 0, none⟩ 1 1 [.int .i64 y.f0, .bool y.f1] rfl hnews (by simp [Value.oneCell']) (by simp [maxLen]) (by decide) (Nat.le_refl _)
      exact ⟨v', w', h1, by simpa [flat59] using h2, by simpa [Value.ownBlock] using h3⟩
    | some b =>
      obtain ⟨v', w', h1, h2, h3⟩ := run_append_arg_grows (P := Tryd.prog) (w := W) 25 ty 59 i0 (.agg #[.int .i64 0, .bool false]) 2 16 Tryd.underlying25 hi hz0 hz1 hz2 rfl (by decide) b xs.length xs.length (flat59 xs) (flat59_len xs) (by
        intro j u hu
        obtain ⟨t, i, hi, hc⟩ := flat59_at xs j u hu
        have hlt := (List.getElem?_eq_some_iff.1 hi).1
        obtain ⟨ad, e, t0, t1⟩ := at_T59 hx i (by omega) (by omega)
        cases e
        have hr : rd_T59 xs i = t := by
          unfold rd_T59
          rw [List.getD_eq_getElem?_getD, Int.toNat_natCast, hi]
          rfl
        rw [hr] at t0 t1
        simp only [Int.toNat_natCast] at t0 t1
        rcases hc with ⟨rfl, rfl⟩ | ⟨rfl, rfl⟩
        · exact t0
        · have h2 := hx.2.2 (by omega)
          rw [add_field _ _ 1 (by omega)]
          exact t1) ⟨g, 0, none⟩ 1 1 [.int .i64 y.f0, .bool y.f1] rfl hnews (by omega) (by simp [maxLen]; omega) (by omega)
      exact ⟨v', w', h1, h2, h3⟩
  obtain ⟨v', w', h1, h2, h3⟩ := key
  refine ⟨v', w', h1, ⟨fun _ _ => trivial, flat59 (xs ++ [y]), by simpa [k59, Kd.iso, Kd.pair, Kd.int, Kd.bool, Kd.scalar] using h2, reps59 _ _ _ _⟩, ⟨h3.os, h3.tape, h3.output, h3.size, fun k hk => h3.block k hk (by simp)⟩⟩
end Go.Proofs.YtghpoldlddghjaaDoor
namespace Go.Proofs.YtghpoldlddghjaaDoor
open Go Go.RowKit
open Go.Proofs.YtghpoldlddghjaaDoorW.PrintWords Go.Proofs.YtghpoldlddghjaaDoorW.PrintMore Go.Proofs.YtghpoldlddghjaaDoor.PPasteTrue
attribute [local go_sem] max2_int min2_int max_two min_two
theorem IsBook.trial {cs : Array Value} {h : Hd} {b : Bk} {all : Nat → Bool} (hc : IsBook cs h b all) (A : Option Addr) (n c : Nat) (l : List S59) (hl : l.length = n) :
    IsBook (cs.setIfInBounds 4 (.slice A n c)) { h with A4 := A, c4 := c } { b with trials := l } all := by
  have hs := hc.size
  have hk : ∀ i, i ≠ 4 → (cs.setIfInBounds 4 (.slice A n c))[i]? = cs[i]? := fun i hi => by
    rw [Array.getElem?_setIfInBounds, if_neg (by omega)]
  refine ⟨by simpa using hs, (hk 0 (by omega)).trans hc.c0, (hk 1 (by omega)).trans hc.c1, (hk 2 (by omega)).trans hc.c2, (hk 3 (by omega)).trans hc.c3, ?_, ?_, fun n hn => (hk _ (by omega)).trans (hc.all n hn)⟩
  · rw [Array.getElem?_setIfInBounds, if_pos rfl, if_pos (by omega), hl]
  · rw [Array.all_eq_true_iff_forall_mem]
    intro v hv
    obtain ⟨i, hi⟩ := Array.mem_iff_getElem?.1 hv
    rw [Array.getElem?_setIfInBounds] at hi
    have h1 := hc.one
    rw [Array.all_eq_true_iff_forall_mem] at h1
    split at hi
    · split at hi
      · have := Option.some.inj hi
        subst this
        simp [Value.oneCell']
      · cases hi
    · exact h1 v (Array.mem_of_getElem? hi)
def with1 (b : Bk) (k : Int) (is : Bool) : Bk := { b with trials := b.trials ++ [⟨k, is⟩] }
def k1 (b : Bk) (k : Int) (is : Bool) : Int × Int := knownR (possB (with1 b k is) (allB b))
def can1 (b : Bk) (k : Int) (is : Bool) : Bool := anyB (possB (with1 b k is) (allB b))
theorem kF_bd (f : Nat → Bool) : ∀ k, k ≤ 512 → -1 ≤ (kF f k).1 ∧ (kF f k).1 ≤ 512 ∧ 0 ≤ (kF f k).2 ∧ (kF f k).2 ≤ 512
  | 0, _ => by simp [kF]
  | k + 1, h => by
    have ih := kF_bd f k (by omega)
    rw [kF_succ]
    unfold kStep
    split
    · split <;> simp only <;> omega
    · exact ih
theorem knownR_bd (f : Nat → Bool) : -1 ≤ (knownR f).1 ∧ (knownR f).1 ≤ 512 ∧ 0 ≤ (knownR f).2 ∧ (knownR f).2 ≤ 512 := by
  have h1 := kF_bd f 512 (by omega)
  have h2 : knownR f = kF f 512 ∨ knownR f = (0, 0) := by
    unfold knownR
    generalize kF f 512 = x
    generalize anyB f = c
    cases c
    · exact .inr rfl
    · exact .inl rfl
  rcases h2 with h2 | h2 <;> rw [h2]
  · exact h1
  · exact ⟨by decide, by decide, by decide, by decide⟩
def worst1 (b : Bk) (k : Int) (r : Int) (is : Bool) : Int := if can1 b k is = true then mx r ((k1 b k is).2 - (k1 b k is).1) else r
def litAt (j : Nat) : Bool := decide (j = 0)
def worstTo (b : Bk) (k : Int) (j : Nat) : Int := ((List.range j).map litAt).foldl (worst1 b k) (-1)
theorem worstTo_succ (b : Bk) (k : Int) (j : Nat) : worstTo b k (j + 1) = worst1 b k (worstTo b k j) (litAt j) := by
  simp only [worstTo, List.range_succ, List.map_append, List.foldl_append, List.map_cons, List.map_nil, List.foldl_cons, List.foldl_nil]
def nextStep (b : Bk) (r : Int × Int) (k : Nat) : Int × Int := if r.1 < 0 ∨ worstTo b k 2 < r.2 then ((k : Int), worstTo b k 2) else r
def nextF (b : Bk) (k : Nat) : Int × Int := (List.range k).foldl (nextStep b) (-1, 0)
theorem nextF_succ (b : Bk) (k : Nat) : nextF b (k + 1) = nextStep b (nextF b k) k := by
  simp only [nextF, List.range_succ, List.foldl_append, List.foldl_cons, List.foldl_nil]
def nextR (b : Bk) : Int × Int := if askE b true = 0 then (if (knownR (pB b)).1 = (knownR (pB b)).2 then (0, 4) else ((nextF b b.surfs.length).1, 0)) else (0, askE b true)
theorem small_with1 {b : Bk} (hs : Small b) (k : Int) (is : Bool) : Small (with1 b k is) := ⟨hs.n0, hs.n1, hs.s⟩
set_option maxRecDepth 20000 in
set_option maxHeartbeats 800000 in
theorem Next_calls {h : Hd} {b : Bk} {w : World} (hb : BkIn w h b) (hsa : Sane b) :
    Calls Tryd.prog 39 #[.agg (h.cells b)] w fun e w' => e = .returned (.tuple #[.int .i64 (nextR b).1, .int .i64 (nextR b).2]) ∧ Below w.heap.size w w' := by
  have HS := Lib.hid hsa
  clear hsa
  have HO := Lib.hid (One.start w (h.cells b) 27)
  by_cases h0 : askE b true = 0
  · obtain ⟨g1, _, _⟩ := askE_zero h0
    obtain ⟨lo, hi1, hkr⟩ : ∃ lo hi1, knownR (pB b) = (lo, hi1) := ⟨_, _, rfl⟩
    have HR := Lib.hid (show nextR b = (if lo = hi1 then (0, 4) else ((nextF b b.surfs.length).1, 0)) by unfold nextR; rw [if_pos h0, hkr])
    have HK := Lib.hid hkr
    have HV := Lib.hid h0
    have HG1 := Lib.hid g1
    clear h0 g1 hkr
    go_enter Tryd.func39, Tryd.ntmps39
    go_upto_region 4 with (first | (with_reducible refine b_box (t := 27) rfl rfl rfl ?_) | ((with_reducible refine gate_dst (N := 18) rfl ?_); refine wpList_load_row rfl 27 _ rfl w.heap.size rfl 27 (h.cells b) (0, 0) _ HO.out.b1 Tryd.underlying27 rfl i27 ?_) | (go_at_call 60; refine (asked_calls (hb.below HO.out.below) HS.out true).mono ?_; rintro e w1 ⟨cs, rfl, ha, hb1⟩; rw [HV.out]; have HA := Lib.hid ha; have HO1 := Lib.hid (HO.out.on hb1); clear ha hb1) | ((with_reducible refine gate_dst (N := 4) rfl ?_); refine b_alloc rfl rfl zb113 ?_) | (refine wpList_store_row rfl 113 (.tmp 4) (.tmp 20) rfl w1.heap.size cs rfl rfl 113 Tryd.zeroCells113 (new_at rfl) HA.out.i HA.out.z HA.out.one ?_))
    have HO2 := Lib.hid (HO1.out.var Tryd.zeroCells113 cs 113)
    have H4 : ((w1.alloc (.cells Tryd.zeroCells113 113)).setRow w1.heap.size cs).heap[w1.heap.size]? = some (.cells cs 113 (0, 0)) := var_at
    generalize (w1.alloc (.cells Tryd.zeroCells113 113)).setRow w1.heap.size cs = W2 at HO2 H4 ⊢
    have H42 := Lib.hid H4
    clear H4
    have HBK := Lib.hid (HA.out.book HG1.out rfl)
    have HGG := Lib.hid (HA.out.good HG1.out)
    by_cases heq : lo = hi1
    · have hq : (lo == hi1) = true := by simp [heq]
      have HF := Lib.hid (show nextR b = (0, 4) by rw [HR.out, if_pos heq])
      clear heq
      go_wp2_with (first | ((with_reducible refine gate_dst (N := 26) rfl ?_); refine wpList_load_row rfl 113 _ rfl w1.heap.size rfl 113 cs (0, 0) _ H42.out Tryd.underlying113 rfl HA.out.i ?_) | (go_at_call 63; refine (known_calls HBK.out (hb.below HO2.out.below) HGG.out.sm).mono ?_; rintro e w5 ⟨rfl, hb5⟩; rw [show possB b (allB b) = pB b from rfl, HK.out]; simp only [s39]; have HO3 := Lib.hid (HO2.out.on hb5); clear hb5))
      go_ret2
      exact ⟨by rw [HF.out]; rfl, HO3.out.below.alloc (Nat.le_of_lt (blk_lt HO3.out.b1)) _⟩
    · have hq : (lo == hi1) = false := by simpa using heq
      have HF := Lib.hid (show nextR b = ((nextF b b.surfs.length).1, 0) by rw [HR.out, if_neg heq])
      clear heq
      go_upto_region 8 with (first | ((with_reducible refine gate_dst (N := 26) rfl ?_); refine wpList_load_row rfl 113 _ rfl w1.heap.size rfl 113 cs (0, 0) _ H42.out Tryd.underlying113 rfl HA.out.i ?_) | (go_at_call 63; refine (known_calls HBK.out (hb.below HO2.out.below) HGG.out.sm).mono ?_; rintro e w5 ⟨rfl, hb5⟩; rw [show possB b (allB b) = pB b from rfl, HK.out]; simp only [s39]; have HO3 := Lib.hid (HO2.out.on hb5); have H43 := Lib.hid (blk_below H42.out hb5); clear hb5))
      generalize hW5 : w5.alloc (.cells #[.int .i64 lo, .int .i64 hi1] 39) = W5
      have HO5 := Lib.hid (show One w (h.cells b) 27 W5 by rw [← hW5]; exact HO3.out.on (below_alloc (Below.refl _ _) _))
      have H45 := Lib.hid (show W5.heap[w1.heap.size]? = some (.cells cs 113 (0, 0)) by rw [← hW5]; exact blk_alloc H43.out _)
      have c2 : W5.cell? ⟨w.heap.size, 2, none⟩ = some (.slice h.A2 b.surfs.length h.c2) := (blk_cell HO5.out.b1 2).trans rfl
      have zz := blk_lt HO5.out.b1
      have hu1 := HGG.out.u1
      have ht1 := HGG.out.t1
      have hl4 := hb.l4
      clear hW5 hq
      go_wp2
      clear c2
      go_loopw [8, 9, 38] (fun v8 v9 i wr => ∃ k : Nat, k ≤ b.surfs.length ∧ i = .int .i64 k ∧ v8 = .int .i64 (nextF b k).1 ∧ v9 = .int .i64 (nextF b k).2 ∧ Aside0 (Below W5.heap.size W5 wr)) (fun _ _ i _ => b.surfs.length - (intOf i).toNat)
      case atStart => exact ⟨0, Nat.zero_le _, rfl, rfl, rfl, ⟨Below.refl _ _⟩⟩
      case round =>
        obtain ⟨k, hk, rfl, rfl, rfl, HV5⟩ := hrel
        by_cases hlt : k < b.surfs.length
        · go_upto_region 12 with (first | fail)
          obtain ⟨V, hVV⟩ : ∃ V, V = wr := ⟨_, rfl⟩
          subst hVV
          go_wp2
          obtain ⟨gs, hgs⟩ : ∃ gs, gs = V.heap.size := ⟨_, rfl⟩
          have hS0 : (V.alloc (.cells #[.bool true, .bool false] 4)).heap[gs]? = some (.cells #[.bool true, .bool false] 4 (0, 0)) := new_at hgs
          have hV6 : Below W5.heap.size W5 (V.alloc (.cells #[.bool true, .bool false] 4)) := HV5.out.alloc HV5.out.size _
          rw [← hgs]
          generalize V.alloc (.cells #[.bool true, .bool false] 4) = W6 at hS0 hV6 ⊢
          have HV6 := Lib.hid hV6
          have HS0 := Lib.hid hS0
          clear hS0 hV6 hgs
          go_loopw [11, 43] (fun v11 i wr => ∃ j : Nat, j ≤ 2 ∧ i = .int .i64 j ∧ v11 = .int .i64 (worstTo b k j) ∧ Aside0 (Below W6.heap.size W6 wr)) (fun _ i _ => 2 - (intOf i).toNat)
          case atStart => exact ⟨0, Nat.zero_le _, rfl, rfl, ⟨Below.refl _ _⟩⟩
          case round =>
            obtain ⟨j, hj, rfl, rfl, HV7⟩ := hrel
            have HS7 := Lib.hid (blk_below HS0.out HV7.out)
            have HO7 := Lib.hid ((HO5.out.on HV6.out).on HV7.out)
            by_cases hlj : j < 2
            · have d0 : wr.cell? ⟨gs, j, none⟩ = some (.bool (litAt j)) := by
                rw [blk_cell HS7.out j]
                rcases j with _ | _ | j
                · rfl
                · rfl
                · omega
              have zgs := blk_lt HS7.out
              go_upto_region 16 with (first | ((with_reducible refine gate_dst (N := 47) rfl ?_); refine wpList_load_row rfl 113 _ rfl w1.heap.size rfl 113 cs (0, 0) _ (blk_below H45.out (below_then HV6.out HV6.out.size HV7.out)) Tryd.underlying113 rfl HA.out.i ?_) | ((with_reducible refine gate_dst (N := 14) rfl ?_); refine b_alloc rfl rfl zb113 ?_) | (refine wpList_store_row rfl 113 (.tmp 14) (.tmp 47) rfl wr.heap.size cs rfl rfl 113 Tryd.zeroCells113 (new_at rfl) HA.out.i HA.out.z HA.out.one ?_))
              have hO8 := HO7.out.var Tryd.zeroCells113 cs 113
              have hB8 : Below wr.heap.size wr ((wr.alloc (.cells Tryd.zeroCells113 113)).setRow wr.heap.size cs) := below_row (below_alloc (Below.refl _ _) _) (Nat.le_refl _) _
              have h14 : ((wr.alloc (.cells Tryd.zeroCells113 113)).setRow wr.heap.size cs).heap[wr.heap.size]? = some (.cells cs 113 (0, 0)) := var_at
              generalize (wr.alloc (.cells Tryd.zeroCells113 113)).setRow wr.heap.size cs = W8 at hO8 hB8 h14 ⊢
              have HO8 := Lib.hid hO8
              have HB8 := Lib.hid hB8
              have H14 := Lib.hid h14
              have c4 : W8.cell? ⟨w.heap.size, 4, none⟩ = some (.slice h.A4 b.trials.length h.c4) := (blk_cell hO8.b1 4).trans rfl
              have zz8 := blk_lt hO8.b1
              have z14 := blk_lt h14
              obtain ⟨li, hli⟩ : ∃ li, li = litAt j := ⟨_, rfl⟩
              rw [← hli]
              have HLI := Lib.hid hli
              have HB9 := Lib.hid (hb.below (hO8.on (below_alloc (Below.refl _ _) (.cells #[.int .i64 k, .bool li] 59))).below)
              clear hO8 hB8 h14 d0 zgs hli
              go_upto_region 17 with (first | ((with_reducible refine gate_dst (N := 56) rfl ?_); refine b_value rfl (x_slice (x := .tmp 49) (lo := none) (hi := some (.tmp 52)) (mx := some (.tmp 55)) (u := .slice h.A4 b.trials.length h.c4) (a := none) (b := some (.int .i64 b.trials.length)) (c := some (.int .i64 b.trials.length)) rfl rfl rfl rfl rfl (run_cut25 _ _ _ hl4 _)) ?_) | ((with_reducible refine gate_dst (N := 61) rfl ?_); obtain ⟨v7, w7, hrun7, hr7, hb7⟩ := run_more59 25 HB9.out.r4 (by omega) W8.heap.size ⟨k, li⟩ (new_at rfl); obtain ⟨gv, cap, rfl, hgv1, hgv2⟩ := R_form' hr7 (by simp); rw [List.length_append, List.length_singleton] at hrun7 hr7; refine b_value rfl (x_append (s := .tmp 56) (x := .tmp 60) rfl rfl rfl hrun7) ?_; have HR7 := Lib.hid hr7; have HB7 := Lib.hid hb7; have H147 := Lib.hid (blk_below (blk_alloc H14.out (.cells #[.int .i64 k, .bool li] 59)) hb7); have f8 := blk_frozen H147.out 4; have c8 : w7.cell? ⟨wr.heap.size, 4, none⟩ = some (.slice h.A4 b.trials.length h.c4) := (blk_cell H147.out 4).trans HBK.out.c4; have z8 := blk_lt H147.out; clear hr7 hb7 hrun7))
              obtain ⟨cs1, hcs1⟩ : ∃ cs1, cs1 = cs.setIfInBounds 4 (.slice (some ⟨gv, 0, none⟩) (b.trials.length + 1) cap) := ⟨_, rfl⟩
              obtain ⟨h2, hh2⟩ : ∃ h2 : Hd, h2 = { h with A4 := some ⟨gv, 0, none⟩, c4 := cap } := ⟨_, rfl⟩
              have hbk1 : IsBook cs1 h2 (with1 b k li) (allB b) := by
                rw [hcs1, hh2]
                exact HBK.out.trial _ _ _ _ (by simp)
              have hB8' : Below wr.heap.size wr w7 := below_then HB8.out HB8.out.size (below_step (below_alloc (Below.refl _ _) (.cells #[.int .i64 k, .bool li] 59)) HB7.out)
              have hO9 : One w (h.cells b) 27 (w7.setCell ⟨wr.heap.size, 4, none⟩ (.slice (some ⟨gv, 0, none⟩) (b.trials.length + 1) cap)) := by
                have hz := blk_lt HO7.out.b1
                have ho := HO7.out.on hB8'
                exact ⟨ho.below.setCell (by simp; omega) _, blk_far ho.b1 (by simp; omega) _⟩
              have hB9 : Below wr.heap.size wr (w7.setCell ⟨wr.heap.size, 4, none⟩ (.slice (some ⟨gv, 0, none⟩) (b.trials.length + 1) cap)) := hB8'.setCell (by simp) _
              have h149 := blk_put H147.out 4 (.slice (some ⟨gv, 0, none⟩) (b.trials.length + 1) cap) hcs1.symm
              have hR9 := Kd.R_set HR7.out H147.out (by decide) 4 (.slice (some ⟨gv, 0, none⟩) (b.trials.length + 1) cap)
              generalize w7.setCell ⟨wr.heap.size, 4, none⟩ (.slice (some ⟨gv, 0, none⟩) (b.trials.length + 1) cap) = W9 at hO9 hB9 h149 hR9 ⊢
              obtain ⟨p1, p2, p3⟩ := Kd.R_reads' hR9
              clear p1
              have hbl := hb.below hO9.below
              have hBI : BkIn W9 h2 (with1 b k li) := by
                rw [hh2]
                exact ⟨hbl.r0, hbl.r1, hbl.r2, p3, hbl.l0, hbl.l1, hbl.l2, by show (b.trials ++ [_]).length ≤ cap; simp; omega⟩
              have HO9 := Lib.hid hO9
              have HB99 := Lib.hid hB9
              have H149 := Lib.hid h149
              have HBI := Lib.hid hBI
              have HBK1 := Lib.hid hbk1
              have HI1 := Lib.hid (show (Tryd.prog.info? 113).map (·.size) = some cs1.size by rw [hbk1.size]; exact i113)
              have HSM := Lib.hid (small_with1 HGG.out.sm k li)
              have HWS := Lib.hid (worstTo_succ b k j)
              rw [← HLI.out] at HWS
              obtain ⟨lo2, hi2, hk2⟩ : ∃ lo2 hi2, k1 b k li = (lo2, hi2) := ⟨_, _, rfl⟩
              have hbd : -1 ≤ lo2 ∧ lo2 ≤ 512 ∧ 0 ≤ hi2 ∧ hi2 ≤ 512 := by
                have := knownR_bd (possB (with1 b k li) (allB b))
                rw [show knownR (possB (with1 b k li) (allB b)) = (lo2, hi2) from hk2] at this
                exact this
              obtain ⟨bd1, bd2, bd3, bd4⟩ := hbd
              have HK2 := Lib.hid hk2
              clear hO9 hB9 h149 hR9 hB8' hBI hbk1 hbl p2 p3 hcs1 hh2 hk2 c8 f8 z8 c4
              cases hok : can1 b k li with
              | true =>
                have HOK := Lib.hid hok
                clear hok
                go_wp2_with (first | ((with_reducible refine gate_dst (N := 65) rfl ?_); refine wpList_load_row rfl 113 _ rfl wr.heap.size rfl 113 cs1 (0, 0) _ H149.out Tryd.underlying113 rfl HI1.out ?_) | (go_at_call 63; refine (known_calls HBK1.out HBI.out HSM.out).mono ?_; rintro e w10 ⟨rfl, hb10⟩; rw [show knownR (possB (with1 b k li) (allB b)) = (lo2, hi2) from HK2.out, show anyB (possB (with1 b k li) (allB b)) = true from HOK.out]; simp only [s39]; have HBA := Lib.hid (below_then HB99.out HB99.out.size hb10); clear hb10))
                go_roundw
                case rel => 
                  refine ⟨j + 1, by omega, by go_num, ?_, ⟨below_then HV7.out HV7.out.size (HBA.out.alloc HBA.out.size _)⟩⟩
                  rw [HWS.out]
                  simp [worst1, HOK.out, HK2.out, mx]
                case measure => simp [intOf]; omega
              | false =>
                have HOK := Lib.hid hok
                clear hok
                go_wp2_with (first | ((with_reducible refine gate_dst (N := 65) rfl ?_); refine wpList_load_row rfl 113 _ rfl wr.heap.size rfl 113 cs1 (0, 0) _ H149.out Tryd.underlying113 rfl HI1.out ?_) | (go_at_call 63; refine (known_calls HBK1.out HBI.out HSM.out).mono ?_; rintro e w10 ⟨rfl, hb10⟩; rw [show knownR (possB (with1 b k li) (allB b)) = (lo2, hi2) from HK2.out, show anyB (possB (with1 b k li) (allB b)) = false from HOK.out]; simp only [s39]; have HBA := Lib.hid (below_then HB99.out HB99.out.size hb10); clear hb10))
                go_roundw
                case rel => 
                  refine ⟨j + 1, by omega, by go_num, ?_, ⟨below_then HV7.out HV7.out.size (HBA.out.alloc HBA.out.size _)⟩⟩
                  rw [HWS.out]
                  simp [worst1, HOK.out]
                case measure => simp [intOf]; omega
            · obtain rfl : j = 2 := by omega
              have HNS := Lib.hid (nextF_succ b k)
              obtain ⟨best, least, hbl⟩ : ∃ best least, nextF b k = (best, least) := ⟨_, _, rfl⟩
              obtain ⟨wo, hwo⟩ : ∃ wo, wo = worstTo b k 2 := ⟨_, rfl⟩
              rw [hbl, ← hwo]
              have HBL := Lib.hid hbl
              have HWO := Lib.hid hwo
              clear hbl hwo
              simp only []
              by_cases hb0 : best < 0
              · go_wp2
                go_roundw
                case rel => exact ⟨k + 1, by omega, by go_num, by rw [HNS.out, HBL.out]; simp [nextStep, hb0], by rw [HNS.out, HBL.out]; simp [nextStep, hb0, HWO.out], ⟨below_then HV6.out HV6.out.size HV7.out⟩⟩
                case measure => simp [intOf]; omega
              · by_cases hw0 : wo < least
                · go_wp2
                  go_roundw
                  case rel => exact ⟨k + 1, by omega, by go_num, by rw [HNS.out, HBL.out]; simp [nextStep, hb0, ← HWO.out, hw0], by rw [HNS.out, HBL.out]; simp [nextStep, hb0, ← HWO.out, hw0], ⟨below_then HV6.out HV6.out.size HV7.out⟩⟩
                  case measure => simp [intOf]; omega
                · go_wp2
                  go_roundw
                  case rel => exact ⟨k + 1, by omega, by go_num, by rw [HNS.out, HBL.out]; simp [nextStep, hb0, ← HWO.out, hw0], by rw [HNS.out, HBL.out]; simp [nextStep, hb0, ← HWO.out, hw0], ⟨below_then HV6.out HV6.out.size HV7.out⟩⟩
                  case measure => simp [intOf]; omega
        · obtain rfl : k = b.surfs.length := by omega
          go_wp2
          go_ret2
          exact ⟨by rw [HF.out]; rfl, (HO5.out.on HV5.out).below⟩
  · have hv : askE b true = 20 ∨ askE b true = 22 := by
      rcases askE_cases b with h | h | h
      · exact absurd h h0
      · exact .inl h
      · exact .inr h
    have HR := Lib.hid (show nextR b = (0, askE b true) by unfold nextR; rw [if_neg h0])
    clear h0
    rcases hv with hv | hv <;>
    · rw [hv] at HR
      have HV := Lib.hid hv
      clear hv
      go_enter Tryd.func39, Tryd.ntmps39
      go_wp2_with (first | (with_reducible refine b_box (t := 27) rfl rfl rfl ?_) | ((with_reducible refine gate_dst (N := 18) rfl ?_); refine wpList_load_row rfl 27 _ rfl w.heap.size rfl 27 (h.cells b) (0, 0) _ HO.out.b1 Tryd.underlying27 rfl i27 ?_) | (go_at_call 60; refine (asked_calls (hb.below HO.out.below) HS.out true).mono ?_; rintro e w1 ⟨cs, rfl, ha, hb1⟩; rw [HV.out]; have HA := Lib.hid ha; have HO1 := Lib.hid (HO.out.on hb1); have HO2 := Lib.hid ((HO.out.on hb1).var Tryd.zeroCells113 cs 113); clear ha hb1) | ((with_reducible refine gate_dst (N := 4) rfl ?_); refine b_alloc rfl rfl zb113 ?_) | (refine wpList_store_row rfl 113 (.tmp 4) (.tmp 20) rfl w1.heap.size cs rfl rfl 113 Tryd.zeroCells113 (new_at rfl) HA.out.i HA.out.z HA.out.one ?_))
      go_ret2
      exact ⟨by rw [HR.out]; rfl, HO2.out.below⟩
end Go.Proofs.YtghpoldlddghjaaDoor
namespace Go.Proofs.YtghpoldlddghjaaDoor
open Go Go.RowKit
open Go.Proofs.YtghpoldlddghjaaDoorW.PrintWords Go.Proofs.YtghpoldlddghjaaDoorW.PrintMore Go.Proofs.YtghpoldlddghjaaDoor.PPasteTrue
theorem x_shl1 {ρ : Operand → Value} {o : Oper} {w : World} {x y : Operand} {t' : TypeId} (ho : o.op = .binOp .shl 3 x y t') {n : Nat} (hx : ρ x = .int .i64 1) (hy : ρ y = .int .i64 n) (hn : n ≤ 6) : (execOp ρ o).run Tryd.prog w = .ok (.value (.int .i64 ((2 ^ n : Nat) : Int))) w := by
  have hw : IntKind.i64.wrap (1 * 2 ^ min (n : Int).toNat IntKind.i64.bits) = ((2 ^ n : Nat) : Int) := by
    have : n = 0 ∨ n = 1 ∨ n = 2 ∨ n = 3 ∨ n = 4 ∨ n = 5 ∨ n = 6 := by omega
    rcases this with rfl | rfl | rfl | rfl | rfl | rfl | rfl <;> rfl
  unfold execOp
  simp only [ho, hx, hy]
  simp only [binOp, Sem.run_bind, shift_shl_any _ _ _ _ (Int.natCast_nonneg n), hw]
  rfl
theorem x_shr {ρ : Operand → Value} {o : Oper} {w : World} {x y : Operand} {t' : TypeId} (ho : o.op = .binOp .shr 3 x y t') {s k : Nat} (hx : ρ x = .int .i64 s) (hy : ρ y = .int .i64 k) (hk : k ≤ 6) : (execOp ρ o).run Tryd.prog w = .ok (.value (.int .i64 ((s / 2 ^ k : Nat) : Int))) w := by
  have hw : (s : Int) / 2 ^ min (k : Int).toNat IntKind.i64.bits = ((s / 2 ^ k : Nat) : Int) := by
    rw [show min (k : Int).toNat IntKind.i64.bits = k by have : IntKind.i64.bits = 64 := rfl; omega]
    simp
  unfold execOp
  simp only [ho, hx, hy]
  simp only [binOp, Sem.run_bind, shift_shr_any _ _ _ _ (Int.natCast_nonneg k), hw]
  rfl
theorem x_and1 {ρ : Operand → Value} {o : Oper} {w : World} {x : Operand} {t' : TypeId} (ho : o.op = .binOp .and 3 x (.const (.int .i64 1)) t') {s : Nat} (hx : ρ x = .int .i64 s) (hs : s ≤ 1000) (hy : ρ (.const (.int .i64 1)) = .int .i64 1) : (execOp ρ o).run Tryd.prog w = .ok (.value (.int .i64 ((s % 2 : Nat) : Int))) w := by
  have hw : bits .and .i64 (s : Int) 1 = ((s % 2 : Nat) : Int) := by
    have := bits_mask .i64 10 (by decide) (fun n h0 h1 => by rw [IntKind.wrap_i64]; omega) 1 (by decide) (s : Int) (by omega) (by omega)
    simpa using this
  unfold execOp
  simp only [ho, hx, hy]
  go_simp
def bitB (s k : Nat) : Bool := decide (s / 2 ^ k % 2 = 1)
def cmpI (l0 l1 : List Int) : Int := (slices_Compare_int_int.f (l0.length + 1) l0 l1).getD 0
theorem cmp_one (a b : Int) : ∃ r, cmp_Compare_int.f a b = some r := by
  unfold cmp_Compare_int.f cmp_isNaN_int.f
  simp only [Option.bind_some]
  split
  · split <;> exact ⟨_, rfl⟩
  · split
    · exact ⟨_, rfl⟩
    · split
      · exact ⟨_, rfl⟩
      · split <;> exact ⟨_, rfl⟩
theorem cmp_l0 (l0 l1 : List Int) (hl : l0.length ≤ 1000) : ∀ (k i : Nat), i ≤ l0.length → l0.length < i + k → ∃ r, slices_Compare_int_int.l0 k l0 l1 l0 (l0.length : Int) (i : Int) = some r
  | 0, i, h1, h2 => by omega
  | k + 1, i, h1, h2 => by
    unfold slices_Compare_int_int.l0
    by_cases hlt : i < l0.length
    · rw [if_pos (by omega), if_pos (by omega), if_pos (by omega)]
      by_cases h3 : l1.length ≤ i
      · rw [if_pos (by omega)]
        exact ⟨_, rfl⟩
      · rw [if_neg (by omega), if_pos (by omega)]
        obtain ⟨r, hr⟩ := cmp_one (rd l0 i) (rd l1 i)
        rw [hr]
        simp only [Option.bind_some]
        split
        · have hw : wrap64 ((i : Int) + 1) = ((i + 1 : Nat) : Int) := by unfold wrap64; omega
          rw [hw]
          exact cmp_l0 l0 l1 hl k (i + 1) (by omega) (by omega)
        · exact ⟨_, rfl⟩
    · rw [if_neg (by omega)]
      split <;> exact ⟨_, rfl⟩
theorem cmp_calls {A0 : Option Addr} {c0 : Nat} {l0 : List Int} {A1 : Option Addr} {c1 : Nat} {l1 : List Int} {w : World} (hr0 : Kd.C (Kd.int .i64) w A0 l0.length l0) (hc0 : l0.length ≤ c0) (hr1 : Kd.C (Kd.int .i64) w A1 l1.length l1) (hc1 : l1.length ≤ c1) (hl : l0.length ≤ 1000) :
    Calls Tryd.prog 62 #[.slice A0 l0.length c0, .slice A1 l1.length c1] w fun e w' => e = .returned (.int .i64 (cmpI l0 l1)) ∧ Below w.heap.size w w' := by
  obtain ⟨r, hr⟩ := cmp_l0 l0 l1 hl (l0.length + 1) 0 (by omega) (by omega)
  have h2 : slices_Compare_int_int.f (l0.length + 1) l0 l1 = some r := hr
  have h3 : cmpI l0 l1 = r := by unfold cmpI; rw [h2]; rfl
  rw [h3]
  refine (slices_Compare_int_int.calls _ A0 c0 l0 A1 c1 l1 r w hr0 hc0 hr1 hc1 h2).mono ?_
  rintro e w' ⟨he, hd⟩
  exact ⟨he, hd.below⟩
end Go.Proofs.YtghpoldlddghjaaDoor
namespace Go.Proofs.YtghpoldlddghjaaDoor
open Go Go.RowKit
open Go.Proofs.YtghpoldlddghjaaDoorW.PrintWords Go.Proofs.YtghpoldlddghjaaDoorW.PrintMore Go.Proofs.YtghpoldlddghjaaDoor.PPasteTrue
theorem R_two {α β : Type} {d : Kd α} {d2 : Kd β} {e e2 : Nat} {w w1 : World} {base b2 : Nat} {v v2 : Value} {xs : List α} {ys : List β} (h : d.R e w base (fun _ => True) v xs) (h2 : d2.R e2 w b2 (fun _ => True) v2 ys) (hE : ∀ q, q ∈ e :: d.E → q ≠ e2) (hg : w.grownBy w1 v2.ownBlock) : d.R e w1 base (fun _ => True) v xs := by
  cases hv : v2.ownBlock with
  | none =>
    rw [hv] at hg
    exact Kd.R_grown h hg (fun _ _ => by simp)
  | some g =>
    rw [hv] at hg
    obtain ⟨inner, ho⟩ := Kd.R_own h2
    obtain ⟨cells, hc⟩ := own_typed ho g hv
    exact Kd.R_mono (Kd.R_grown (Kd.R_types h hc hE) hg (fun k hk e => hk.2 (Option.some.inj e))) (fun _ _ => trivial)
theorem R_from {α : Type} {d : Kd α} {e : Nat} {w : World} {base : Nat} {ok : Nat → Prop} {v : Value} {xs : List α} (h : d.R e w base ok v xs) : ∀ k, v.ownBlock = some k → base ≤ k := by
  obtain ⟨inner, ho⟩ := Kd.R_own h
  exact fun k hk => own_base ho k hk
def outTo (s k : Nat) : List Int := ((List.range k).filter (bitB s)).map fun (i : Nat) => (i : Int)
def restTo (b : Bk) (s k : Nat) : List S59 := ((List.range k).filter fun i => !bitB s i).map fun (i : Nat) => rd_T59 b.trials i
theorem outTo_succ (s k : Nat) : outTo s (k + 1) = if bitB s k = true then outTo s k ++ [(k : Int)] else outTo s k := by
  unfold outTo
  rw [List.range_succ, List.filter_append, List.map_append]
  cases h : bitB s k <;> simp [h]
theorem restTo_succ (b : Bk) (s k : Nat) : restTo b s (k + 1) = if bitB s k = true then restTo b s k else restTo b s k ++ [rd_T59 b.trials k] := by
  unfold restTo
  rw [List.range_succ, List.filter_append, List.map_append]
  cases h : bitB s k <;> simp [h]
theorem outTo_len (s k : Nat) : (outTo s k).length ≤ k := by
  unfold outTo
  rw [List.length_map]
  have := List.length_filter_le (bitB s) (List.range k)
  simpa using this
theorem restTo_len (b : Bk) (s k : Nat) : (restTo b s k).length ≤ k := by
  unfold restTo
  rw [List.length_map]
  have := List.length_filter_le (fun i => !bitB s i) (List.range k)
  simpa using this
def woB (b : Bk) (s : Nat) : Bk := { b with trials := restTo b s b.trials.length }
def canW (b : Bk) (s : Nat) : Bool := anyB (possB (woB b s) (allB b))
def wStep (b : Bk) (r : List Int × Bool) (s : Nat) : List Int × Bool :=
  if r.2 = true ∧ (r.1.length < (outTo s b.trials.length).length ∨ ((outTo s b.trials.length).length = r.1.length ∧ 0 ≤ cmpI (outTo s b.trials.length) r.1)) then r
  else if canW b s = true then (outTo s b.trials.length, true) else r
def wrongF (b : Bk) (k : Nat) : List Int × Bool := (List.range k).foldl (wStep b) ([], false)
theorem wrongF_succ (b : Bk) (k : Nat) : wrongF b (k + 1) = wStep b (wrongF b k) k := by
  simp only [wrongF, List.range_succ, List.foldl_append, List.foldl_cons, List.foldl_nil]
def wrongL (b : Bk) : List Int := if checkB b = true then (wrongF b (2 ^ b.trials.length)).1 else []
def wrongE (b : Bk) : Int := if checkB b = true then 0 else 20
theorem small_wo {b : Bk} (hs : Small b) (s : Nat) : Small (woB b s) := ⟨hs.n0, hs.n1, hs.s⟩
theorem pow_le64 {n : Nat} (h : n ≤ 6) : 2 ^ n ≤ 64 := by
  have := Nat.pow_le_pow_right (show 0 < 2 by decide) h
  simpa using this
set_option maxRecDepth 20000 in
set_option maxHeartbeats 1600000 in
theorem Wrong_calls {h : Hd} {b : Bk} {w : World} (hb : BkIn w h b) (hsa : Sane b) :
    Calls Tryd.prog 16 #[.agg (h.cells b)] w fun e w' => (∃ A c, e = .returned (.tuple #[.slice A (wrongL b).length c, .int .i64 (wrongE b)]) ∧ (wrongL b).length ≤ c ∧ Kd.C (Kd.int .i64) w' A (wrongL b).length (wrongL b)) ∧ Below w.heap.size w w' := by
  have HS := Lib.hid hsa
  clear hsa
  have HO := Lib.hid (One.start w (h.cells b) 27)
  cases hc : checkB b with
  | false =>
    have HL := Lib.hid (show wrongL b = [] by unfold wrongL; rw [if_neg (by rw [hc]; exact Bool.false_ne_true)])
    have HE := Lib.hid (show wrongE b = 20 by unfold wrongE; rw [if_neg (by rw [hc]; exact Bool.false_ne_true)])
    have HC := Lib.hid hc
    clear hc
    go_enter Tryd.func16, Tryd.ntmps16
    go_wp2_with (first | (with_reducible refine b_box (t := 27) rfl rfl rfl ?_) | ((with_reducible refine gate_dst (N := 15) rfl ?_); refine wpList_load_row rfl 27 _ rfl w.heap.size rfl 27 (h.cells b) (0, 0) _ HO.out.b1 Tryd.underlying27 rfl i27 ?_) | (go_at_call 43; refine (check_calls (hb.below HO.out.below)).mono ?_; rintro e w5 ⟨rfl, hb5⟩; rw [HC.out]; have HO5 := Lib.hid (HO.out.on hb5); clear hb5))
    go_ret2
    refine ⟨⟨none, 0, by rw [HL.out, HE.out]; rfl, by rw [HL.out]; exact Nat.le_refl _, by rw [HL.out]; exact Kd.C_nil _ _⟩, HO5.out.below⟩
  | true =>
    have hgd := good_of hc HS.out
    have HGD := Lib.hid hgd
    have HC := Lib.hid hc
    have HL := Lib.hid (show wrongL b = (wrongF b (2 ^ b.trials.length)).1 by unfold wrongL; rw [if_pos hc])
    have HE := Lib.hid (show wrongE b = 0 by unfold wrongE; rw [if_pos hc])
    have ht1 := hgd.t1
    clear hc hgd
    go_enter Tryd.func16, Tryd.ntmps16
    go_upto_region 5 with (first | (with_reducible refine b_box (t := 27) rfl rfl rfl ?_) | ((with_reducible refine gate_dst (N := 15) rfl ?_); refine wpList_load_row rfl 27 _ rfl w.heap.size rfl 27 (h.cells b) (0, 0) _ HO.out.b1 Tryd.underlying27 rfl i27 ?_) | (go_at_call 43; refine (check_calls (hb.below HO.out.below)).mono ?_; rintro e w1 ⟨rfl, hb1⟩; rw [HC.out]; have HO1 := Lib.hid (HO.out.on hb1); clear hb1) | ((with_reducible refine gate_dst (N := 20) rfl ?_); refine wpList_load_row rfl 27 _ rfl w.heap.size rfl 27 (h.cells b) (0, 0) _ HO1.out.b1 Tryd.underlying27 rfl i27 ?_) | (go_at_call 61; refine (opened_calls (hb.below HO1.out.below) HGD.out.sp HGD.out.sm).mono ?_; rintro e w3 ⟨cs, rfl, hbk, hb3⟩; have HO3 := Lib.hid (HO1.out.on hb3); have HBK := Lib.hid (show IsBook cs h b (allB b) from hbk); have HIc := Lib.hid (show (Tryd.prog.info? 113).map (·.size) = some cs.size by rw [hbk.size]; exact i113); have HSZ := Lib.hid (show Tryd.zeroCells113.size = cs.size by rw [hbk.size]; exact z113_size); clear hb3 hbk) | ((with_reducible refine gate_dst (N := 5) rfl ?_); refine b_alloc rfl rfl zb113 ?_) | (refine wpList_store_row rfl 113 (.tmp 5) (.tmp 21) rfl w3.heap.size cs rfl rfl 113 Tryd.zeroCells113 (new_at rfl) HIc.out HSZ.out HBK.out.one ?_))
    have hO4 := HO3.out.var Tryd.zeroCells113 cs 113
    have h5 : ((w3.alloc (.cells Tryd.zeroCells113 113)).setRow w3.heap.size cs).heap[w3.heap.size]? = some (.cells cs 113 (0, 0)) := var_at
    generalize (w3.alloc (.cells Tryd.zeroCells113 113)).setRow w3.heap.size cs = W4 at hO4 h5 ⊢
    obtain ⟨A4, hA4⟩ : ∃ A4, A4 = h.A4 := ⟨_, rfl⟩
    have c4 : W4.cell? ⟨w.heap.size, 4, none⟩ = some (.slice A4 b.trials.length h.c4) := by rw [hA4]; exact (blk_cell hO4.b1 4).trans rfl
    have zz := blk_lt hO4.b1
    have HO4 := Lib.hid hO4
    have H5 := Lib.hid h5
    have HR4 := Lib.hid (show Kd.C k59 W4 A4 b.trials.length b.trials by rw [hA4]; exact (hb.below hO4.below).r4)
    have HA4 := Lib.hid hA4
    clear hO4 h5 hA4 HO3 HO1
    obtain ⟨N, hN⟩ : ∃ N, N = 2 ^ b.trials.length := ⟨_, rfl⟩
    have hN64 : N ≤ 64 := by rw [hN]; exact pow_le64 ht1
    rw [← hN] at HL
    have HN := Lib.hid hN
    clear hN
    go_wp2_with (first | ((with_reducible refine gate_dst (N := 25) rfl ?_); refine b_value rfl (show (execOp _ _).run Tryd.prog _ = .ok (.value (.int .i64 N)) _ by rw [HN.out]; exact x_shl1 (x := .const (.int .i64 1)) (y := .tmp 24) (n := b.trials.length) rfl rfl rfl ht1) ?_))
    clear c4
    go_loopw [6, 7, 26] (fun v6 v7 i wr => ∃ s : Nat, s ≤ N ∧ i = .int .i64 s ∧ v7 = .bool (wrongF b s).2 ∧ Aside0 (Below W4.heap.size W4 wr) ∧ Aside0 (Kd.R (Kd.int .i64) 3 wr W4.heap.size (fun _ => True) v6 (wrongF b s).1)) (fun _ _ i _ => N - (intOf i).toNat)
    case atStart => exact ⟨0, Nat.zero_le _, rfl, rfl, ⟨Below.refl _ _⟩, ⟨Kd.R_nil _ _ _ _ _⟩⟩
    case round =>
      obtain ⟨s, hs, rfl, rfl, HV4, HB6⟩ := hrel
      have HOV := Lib.hid (HO4.out.on HV4.out)
      by_cases hlt : s < N
      · have hOV := HOV.out
        go_upto_region 11 with (first | ((with_reducible refine gate_dst (N := 29) rfl ?_); refine wpList_load_row rfl 113 _ rfl w3.heap.size rfl 113 cs (0, 0) _ (blk_below H5.out HV4.out) Tryd.underlying113 rfl HIc.out ?_) | ((with_reducible refine gate_dst (N := 9) rfl ?_); refine b_alloc rfl rfl zb113 ?_) | (refine wpList_store_row rfl 113 (.tmp 9) (.tmp 29) rfl wr.heap.size cs rfl rfl 113 Tryd.zeroCells113 (new_at rfl) HIc.out HSZ.out HBK.out.one ?_))
        have hO6 := HOV.out.var Tryd.zeroCells113 cs 113
        have hB6 : Below wr.heap.size wr ((wr.alloc (.cells Tryd.zeroCells113 113)).setRow wr.heap.size cs) := below_row (below_alloc (Below.refl _ _) _) (Nat.le_refl _) _
        have h9 : ((wr.alloc (.cells Tryd.zeroCells113 113)).setRow wr.heap.size cs).heap[wr.heap.size]? = some (.cells cs 113 (0, 0)) := var_at
        generalize (wr.alloc (.cells Tryd.zeroCells113 113)).setRow wr.heap.size cs = W6 at hO6 hB6 h9 ⊢
        have f8 := blk_frozen h9 4
        have c8 : W6.cell? ⟨wr.heap.size, 4, none⟩ = some (.slice h.A4 b.trials.length h.c4) := (blk_cell h9 4).trans HBK.out.c4
        have z8 := blk_lt h9
        have HO6 := Lib.hid hO6
        have HB60 := Lib.hid hB6
        have H9 := Lib.hid h9
        clear hOV hO6 hB6 h9
        go_upto_region 12 with (first | fail)
        obtain ⟨V, hVV⟩ : ∃ V, V = wr := ⟨_, rfl⟩
        subst hVV
        have hz := blk_lt HOV.out.b1
        have h97 := blk_put H9.out 4 (.slice none 0 0) rfl
        have hB7 : Below V.heap.size V (W6.setCell ⟨V.heap.size, 4, none⟩ (.slice none 0 0)) := HB60.out.setCell (by simp) _
        have hO7 := HOV.out.on hB7
        generalize W6.setCell ⟨V.heap.size, 4, none⟩ (.slice none 0 0) = W7 at h97 hB7 hO7 ⊢
        have c4 : W7.cell? ⟨w.heap.size, 4, none⟩ = some (.slice A4 b.trials.length h.c4) := by rw [HA4.out]; exact (blk_cell hO7.b1 4).trans rfl
        have zz7 := blk_lt hO7.b1
        have HRV := Lib.hid (Kd.C_below HR4.out HV4.out)
        have HB7 := Lib.hid hB7
        have HO7 := Lib.hid hO7
        have H97 := Lib.hid h97
        have hz7 : V.heap.size < W7.heap.size := blk_lt h97
        clear hB7 hO7 h97 f8 c8 z8 hz H9 HO6 HB60
        go_wp2
        clear c4
        go_loopw [10, 35] (fun v10 i wr => ∃ k : Nat, k ≤ b.trials.length ∧ i = .int .i64 k ∧ Aside0 (Below V.heap.size V wr) ∧ Aside0 (W7.heap.size ≤ wr.heap.size) ∧ Aside0 (Kd.R (Kd.int .i64) 3 wr W7.heap.size (fun _ => True) v10 (outTo s k)) ∧ Aside0 (∃ v9, wr.heap[V.heap.size]? = some (.cells (cs.setIfInBounds 4 v9) 113 (0, 0)) ∧ Kd.R k59 59 wr W7.heap.size (fun _ => True) v9 (restTo b s k))) (fun _ i _ => b.trials.length - (intOf i).toNat)
        case atStart => exact ⟨0, Nat.zero_le _, rfl, ⟨HB7.out⟩, ⟨Nat.le_refl _⟩, ⟨Kd.R_nil _ _ _ _ _⟩, ⟨_, H97.out, Kd.R_nil _ _ _ _ _⟩⟩
        case round =>
          obtain ⟨k, hk, rfl, HV8, HW8, HR10, HX⟩ := hrel
          obtain ⟨v9, h98, hr9⟩ := HX.out
          obtain ⟨A9, c9, hv9⟩ := Kd.R_slice hr9
          subst hv9
          have H98 := Lib.hid h98
          have HR9 := Lib.hid hr9
          have hz8 := HW8.out
          have hzV := HV4.out.size
          have hz9 := blk_lt h98
          clear HX h98 hr9
          by_cases hlk : k < b.trials.length
          · obtain ⟨ad, hA4', t0, t1⟩ := at_T59 (Kd.C_below HRV.out HV8.out) k (by omega) (by omega)
            subst hA4'
            simp only [Int.toNat_natCast] at t0 t1
            have e4 := World.block_lt_of_cell? wr _ t0
            obtain ⟨tr, htr⟩ : ∃ tr, tr = rd_T59 b.trials k := ⟨_, rfl⟩
            rw [← htr] at t0 t1
            have HTR := Lib.hid htr
            clear htr
            go_upto_region 16 with (first | fail)
            have h12 : (wr.alloc (.cells #[.int .i64 tr.f0, .bool tr.f1] 59)).heap[wr.heap.size]? = some (.cells #[.int .i64 tr.f0, .bool tr.f1] 59 (0, 0)) := new_at rfl
            have hb9 : Below V.heap.size V (wr.alloc (.cells #[.int .i64 tr.f0, .bool tr.f1] 59)) := HV8.out.alloc HV8.out.size _
            have hs9 : W7.heap.size ≤ (wr.alloc (.cells #[.int .i64 tr.f0, .bool tr.f1] 59)).heap.size := by simp; omega
            have hr10 := Kd.R_alloc HR10.out (.cells #[.int .i64 tr.f0, .bool tr.f1] 59)
            have hr9 := Kd.R_alloc HR9.out (.cells #[.int .i64 tr.f0, .bool tr.f1] 59)
            have h99 := blk_alloc H98.out (.cells #[.int .i64 tr.f0, .bool tr.f1] 59)
            generalize wr.alloc (.cells #[.int .i64 tr.f0, .bool tr.f1] 59) = W9 at h12 hb9 hs9 hr10 hr9 h99 ⊢
            have c12_0 : W9.cell? ⟨wr.heap.size, 0, none⟩ = some (.int .i64 tr.f0) := (blk_cell h12 0).trans rfl
            have c12_1 : W9.cell? ⟨wr.heap.size, 1, none⟩ = some (.bool tr.f1) := (blk_cell h12 1).trans rfl
            have z12 := blk_lt h12
            have z99 := blk_lt h99
            have HB9 := Lib.hid hb9
            have HR10' := Lib.hid hr10
            have HR9' := Lib.hid hr9
            have H99 := Lib.hid h99
            have hc4 : W9.cell? ⟨V.heap.size, 4, none⟩ = some (.slice A9 (restTo b s k).length c9) := by
              rw [blk_cell h99 4, Array.getElem?_setIfInBounds, if_pos rfl, if_pos (by have := HBK.out.size; omega)]
            have f99 := blk_frozen h99 4
            clear HR10 HR9 H98 HV8 HW8 h12 hb9 hr10 hr9 h99 t0 t1 e4
            obtain ⟨q, hq⟩ : ∃ q, q = s / 2 ^ k := ⟨_, rfl⟩
            obtain ⟨r, hr⟩ : ∃ r, r = q % 2 := ⟨_, rfl⟩
            have hq64 : q ≤ 1000 := by rw [hq]; exact Nat.le_trans (Nat.div_le_self _ _) (by omega)
            have hk6 : k ≤ 6 := by omega
            have HQ := Lib.hid hq
            have HRR := Lib.hid hr
            have HOL := Lib.hid (outTo_len s k)
            have HRL := Lib.hid (restTo_len b s k)
            have HOS := Lib.hid (outTo_succ s k)
            have HRS := Lib.hid (restTo_succ b s k)
            cases hbit : bitB s k with
            | true =>
              have he : ((r : Int) == 1) = true := by
                have h1 : s / 2 ^ k % 2 = 1 := by simpa [bitB] using hbit
                rw [hr, hq, h1]
                rfl
              rw [hbit] at HOS HRS
              clear hbit hq hr
              go_wp2_with (first | ((with_reducible refine gate_dst (N := 42) rfl ?_); refine b_value rfl (show (execOp _ _).run Tryd.prog _ = .ok (.value (.int .i64 q)) _ by rw [HQ.out]; exact x_shr (x := .tmp 40) (y := .tmp 41) rfl rfl rfl hk6) ?_) | ((with_reducible refine gate_dst (N := 43) rfl ?_); refine b_value rfl (show (execOp _ _).run Tryd.prog _ = .ok (.value (.int .i64 r)) _ by rw [HRR.out]; exact x_and1 (x := .tmp 42) rfl rfl hq64 rfl) ?_) | (at_builtin; go_loud (refine Kd.R_append (Kd.int .i64) (w0 := W9) W7.heap.size rfl (.tmp 45) (.tmp 47) 28 3 (.int .i64 0) 8 rfl Tryd.underlying28 i3x rfl (by decide) (by decide) _ (outTo s k) (k : Int) [.int .i64 k] (fun _ => True) (fun _ => False) rfl rfl rfl (fun _ h => h.elim) (fun _ _ => trivial) HR10'.out (Below.refl _ _) hs9 (by have := HOL.out; omega) ?_); intro v1 w12 hr1 hb1 hg1 ha1; have HR1 := Aside0.mk hr1; have HG1 := Aside0.mk hg1; have HBX := Aside0.mk hb1; clear hr1 hb1 hg1 ha1))
              go_roundw
              case rel =>
                refine ⟨k + 1, by omega, by go_num, ⟨HB9.out.grown HG1.out HB9.out.size (fun g hg => Nat.le_trans (Nat.le_of_lt hz7) (R_from HR10'.out g hg))⟩, ⟨Nat.le_trans hs9 HG1.out.size⟩, ⟨by rw [HOS.out]; exact HR1.out⟩, ⟨⟨_, blk_grown H99.out HG1.out (Kd.R_ne HR10'.out H99.out (by decide)), by rw [HRS.out]; exact R_two HR9'.out HR10'.out (by decide) HG1.out⟩⟩⟩
              case measure => simp [intOf]; omega
            | false =>
              have he : ((r : Int) == 1) = false := by
                have h1 : ¬ s / 2 ^ k % 2 = 1 := by simpa [bitB] using hbit
                have h2 : ¬ r = 1 := by rw [hr, hq]; exact h1
                rw [beq_eq_false_iff_ne]
                omega
              rw [hbit] at HOS HRS
              clear hbit hq hr
              go_wp2_with (first | ((with_reducible refine gate_dst (N := 42) rfl ?_); refine b_value rfl (show (execOp _ _).run Tryd.prog _ = .ok (.value (.int .i64 q)) _ by rw [HQ.out]; exact x_shr (x := .tmp 40) (y := .tmp 41) rfl rfl rfl hk6) ?_) | ((with_reducible refine gate_dst (N := 43) rfl ?_); refine b_value rfl (show (execOp _ _).run Tryd.prog _ = .ok (.value (.int .i64 r)) _ by rw [HRR.out]; exact x_and1 (x := .tmp 42) rfl rfl hq64 rfl) ?_) | (at_builtin; go_loud (refine Kd.R_append k59 (w0 := W9) W7.heap.size rfl (.tmp 51) (.tmp 53) 25 59 (.agg #[.int .i64 0, .bool false]) 16 rfl Tryd.underlying25 i59x rfl (by decide) (by decide) _ (restTo b s k) tr [.int .i64 tr.f0, .bool tr.f1] (fun _ => True) (fun _ => False) rfl rfl (k59_mkM _ _ _ _) (fun _ h => h.elim) (fun _ _ => trivial) HR9'.out (Below.refl _ _) hs9 (by have := HRL.out; omega) ?_); intro v1 w12 hr1 hb1 hg1 ha1; obtain ⟨A1, c1, hv1⟩ := Kd.R_slice hr1; subst hv1; rw [List.length_append, List.length_singleton] at hr1; have hn1 := blk_grown H99.out hg1 (Kd.R_ne HR9'.out H99.out (by decide)); have f1 := blk_frozen hn1 4; have cc1 : w12.cell? ⟨V.heap.size, 4, none⟩ = some (.slice A9 (restTo b s k).length c9) := by {rw [blk_cell hn1 4, Array.getElem?_setIfInBounds, if_pos rfl, if_pos (by have := HBK.out.size; omega)]}; have z1 := blk_lt hn1; have HR1 := Aside0.mk hr1; have HG1 := Aside0.mk hg1; have HBX := Aside0.mk hb1; have HN1 := Aside0.mk hn1; clear hr1 hb1 hg1 ha1 hn1))
              go_roundw
              case rel =>
                have hb2 : Below V.heap.size V w12 := HB9.out.grown HG1.out HB9.out.size (fun g hg => Nat.le_trans (Nat.le_of_lt hz7) (R_from HR9'.out g hg))
                have hput := blk_put HN1.out 4 (.slice A1 ((restTo b s k).length + 1) c1) rfl
                rw [Array.setIfInBounds_setIfInBounds] at hput
                have ho := Kd.R_set (R_two HR10'.out HR9'.out (by decide) HG1.out) HN1.out (by decide) 4 (.slice A1 ((restTo b s k).length + 1) c1)
                have hr := Kd.R_set HR1.out HN1.out (by decide) 4 (.slice A1 ((restTo b s k).length + 1) c1)
                refine ⟨k + 1, by omega, by go_num, ⟨hb2.setCell (by simp) _⟩, ⟨by simpa using Nat.le_trans hs9 HG1.out.size⟩, ⟨by rw [HOS.out, if_neg Bool.false_ne_true]; exact ho⟩, ⟨⟨_, hput, by rw [HRS.out, if_neg Bool.false_ne_true, ← HTR.out]; exact hr⟩⟩⟩
              case measure => simp [intOf]; omega
          · obtain rfl : k = b.trials.length := by omega
            obtain ⟨l, f, hlf⟩ : ∃ l f, wrongF b s = (l, f) := ⟨_, _, rfl⟩
            have HWS := wrongF_succ b s
            have HB6' := HB6.out
            rw [hlf] at HWS HB6' ⊢
            have HB7' := Kd.R_below HB6' HV8.out
            obtain ⟨A6, c6, hv6, hl6, hr6⟩ := Kd.R_reads HB7'
            subst hv6
            obtain ⟨o, ho⟩ : ∃ o, o = outTo s b.trials.length := ⟨_, rfl⟩
            have HR10' := HR10.out
            rw [← ho] at HR10'
            obtain ⟨A10, c10, hv10, hl10, hr10⟩ := Kd.R_reads HR10'
            subst hv10
            have hol : o.length ≤ 6 := by rw [ho]; exact Nat.le_trans (outTo_len _ _) ht1
            have HC6 := Lib.hid hr6
            have HC10 := Lib.hid hr10
            have HRB := Lib.hid HB7'
            have HRO := Lib.hid HR10'
            unfold wStep at HWS
            rw [← ho] at HWS
            have HWS := Lib.hid HWS
            clear hr6 hr10 HB6 HB6' HB7' HR10 HR10' hlf ho
            obtain ⟨lo2, hi2, hk2⟩ : ∃ lo2 hi2, knownR (possB (woB b s) (allB b)) = (lo2, hi2) := ⟨_, _, rfl⟩
            have HK2 := Lib.hid hk2
            obtain ⟨cs2, hcs2⟩ : ∃ cs2, cs2 = cs.setIfInBounds 4 (.slice A9 (restTo b s b.trials.length).length c9) := ⟨_, rfl⟩
            obtain ⟨h2, hh2⟩ : ∃ h2 : Hd, h2 = { h with A4 := A9, c4 := c9 } := ⟨_, rfl⟩
            have hbk2 : IsBook cs2 h2 (woB b s) (allB b) := by
              rw [hcs2, hh2]
              exact HBK.out.trial _ _ _ _ rfl
            obtain ⟨p1, p2, p3⟩ := Kd.R_reads' HR9.out
            have hbl := hb.below (HOV.out.on HV8.out).below
            have hBI : BkIn wr h2 (woB b s) := by
              rw [hh2]
              exact ⟨hbl.r0, hbl.r1, hbl.r2, p3, hbl.l0, hbl.l1, hbl.l2, p2⟩
            have h982 := H98.out
            rw [← hcs2] at h982
            have H982 := Lib.hid h982
            have HBI := Lib.hid hBI
            have HBK2 := Lib.hid hbk2
            have HI2 := Lib.hid (show (Tryd.prog.info? 113).map (·.size) = some cs2.size by rw [hbk2.size]; exact i113)
            have HSM := Lib.hid (small_wo HGD.out.sm s)
            clear hk2 hcs2 hh2 hbk2 p1 p2 p3 hbl hBI h982 H98 HR9
            cases f with
            | false =>
              have HWE := Lib.hid (show wrongF b (s + 1) = if canW b s = true then (o, true) else (l, false) by rw [HWS.out, if_neg (by simp)])
              clear HWS
              cases hok : canW b s with
              | true =>
                have HOK := Lib.hid hok
                rw [hok] at HWE
                clear hok
                go_wp2_with (first | ((with_reducible refine gate_dst (N := 80) rfl ?_); refine wpList_load_row rfl 113 _ rfl V.heap.size rfl 113 cs2 (0, 0) _ H982.out Tryd.underlying113 rfl HI2.out ?_) | (go_at_call 63; refine (known_calls HBK2.out HBI.out HSM.out).mono ?_; rintro e w10 ⟨rfl, hb10⟩; rw [show knownR (possB (woB b s) (allB b)) = (lo2, hi2) from HK2.out, show anyB (possB (woB b s) (allB b)) = true from HOK.out]; simp only [s39]; have HBA := Lib.hid hb10; clear hb10))
                go_roundw
                case rel =>
                  have hbx : Below wr.heap.size wr (w10.alloc (.cells #[.int .i64 lo2, .int .i64 hi2] 39)) := (below_step HBA.out (below_alloc (Below.refl _ _) _))
                  refine ⟨s + 1, by omega, by go_num, by rw [HWE.out]; rfl, ⟨below_then (below_then HV4.out HV4.out.size HV8.out) (by omega) hbx⟩, ⟨by rw [HWE.out]; exact Kd.R_lower (Kd.R_below HRO.out hbx) (by omega)⟩⟩
                case measure => simp [intOf]; omega
              | false =>
                have HOK := Lib.hid hok
                rw [hok] at HWE
                clear hok
                go_wp2_with (first | ((with_reducible refine gate_dst (N := 80) rfl ?_); refine wpList_load_row rfl 113 _ rfl V.heap.size rfl 113 cs2 (0, 0) _ H982.out Tryd.underlying113 rfl HI2.out ?_) | (go_at_call 63; refine (known_calls HBK2.out HBI.out HSM.out).mono ?_; rintro e w10 ⟨rfl, hb10⟩; rw [show knownR (possB (woB b s) (allB b)) = (lo2, hi2) from HK2.out, show anyB (possB (woB b s) (allB b)) = false from HOK.out]; simp only [s39]; have HBA := Lib.hid hb10; clear hb10))
                go_roundw
                case rel =>
                  have hbx : Below wr.heap.size wr (w10.alloc (.cells #[.int .i64 lo2, .int .i64 hi2] 39)) := (below_step HBA.out (below_alloc (Below.refl _ _) _))
                  refine ⟨s + 1, by omega, by go_num, by rw [HWE.out]; rfl, ⟨below_then (below_then HV4.out HV4.out.size HV8.out) (by omega) hbx⟩, ⟨by rw [HWE.out]; exact Kd.R_below HRB.out hbx⟩⟩
                case measure => simp [intOf]; omega
            | true =>
              by_cases hgt : l.length < o.length
              · have HWE := Lib.hid (show wrongF b (s + 1) = (l, true) by rw [HWS.out, if_pos ⟨rfl, .inl hgt⟩])
                clear HWS
                go_wp2_with (first | fail)
                go_roundw
                case rel =>
                  refine ⟨s + 1, by omega, by go_num, by rw [HWE.out], ⟨below_then HV4.out HV4.out.size HV8.out⟩, ⟨by rw [HWE.out]; exact HRB.out⟩⟩
                case measure => simp [intOf]; omega
              · by_cases heq : o.length = l.length
                · have hbe : ((o.length : Int) == (l.length : Int)) = true := by rw [heq]; exact beq_self_eq_true _
                  obtain ⟨ci, hci⟩ : ∃ ci, ci = cmpI o l := ⟨_, rfl⟩
                  have HCI := Lib.hid hci
                  by_cases hc0 : 0 ≤ ci
                  · have HWE := Lib.hid (show wrongF b (s + 1) = (l, true) by rw [HWS.out, if_pos ⟨rfl, .inr ⟨heq, by rw [← hci]; exact hc0⟩⟩])
                    clear HWS hci heq
                    go_wp2_with (first | (go_at_call 62; refine (cmp_calls HC10.out hl10 HC6.out hl6 (by omega)).mono ?_; rintro e w5 ⟨rfl, hb5⟩; rw [← HCI.out]; have HB5 := Lib.hid hb5; clear hb5))
                    go_roundw
                    case rel =>
                      refine ⟨s + 1, by omega, by go_num, by rw [HWE.out], ⟨below_then (below_then HV4.out HV4.out.size HV8.out) (by omega) HB5.out⟩, ⟨by rw [HWE.out]; exact Kd.R_below HRB.out HB5.out⟩⟩
                    case measure => simp [intOf]; omega
                  · have HWE := Lib.hid (show wrongF b (s + 1) = if canW b s = true then (o, true) else (l, true) by rw [HWS.out, if_neg (by rintro ⟨_, h1 | ⟨_, h1⟩⟩; exact hgt h1; rw [← hci] at h1; exact hc0 h1)])
                    clear HWS hci heq
                    cases hok : canW b s with
                    | true =>
                      have HOK := Lib.hid hok
                      rw [hok] at HWE
                      clear hok
                      go_wp2_with (first | (go_at_call 62; refine (cmp_calls HC10.out hl10 HC6.out hl6 (by omega)).mono ?_; rintro e w5 ⟨rfl, hb5⟩; rw [← HCI.out]; have HB5 := Lib.hid hb5; clear hb5) | ((with_reducible refine gate_dst (N := 80) rfl ?_); refine wpList_load_row rfl 113 _ rfl V.heap.size rfl 113 cs2 (0, 0) _ (blk_below H982.out HB5.out) Tryd.underlying113 rfl HI2.out ?_) | (go_at_call 63; refine (known_calls HBK2.out (HBI.out.below HB5.out) HSM.out).mono ?_; rintro e w10 ⟨rfl, hb10⟩; rw [show knownR (possB (woB b s) (allB b)) = (lo2, hi2) from HK2.out, show anyB (possB (woB b s) (allB b)) = true from HOK.out]; simp only [s39]; have HBA := Lib.hid hb10; clear hb10))
                      go_roundw
                      case rel =>
                        have hbx : Below wr.heap.size wr (w10.alloc (.cells #[.int .i64 lo2, .int .i64 hi2] 39)) := (below_step (below_step HB5.out HBA.out) (below_alloc (Below.refl _ _) _))
                        refine ⟨s + 1, by omega, by go_num, by rw [HWE.out]; rfl, ⟨below_then (below_then HV4.out HV4.out.size HV8.out) (by omega) hbx⟩, ⟨by rw [HWE.out]; exact Kd.R_lower (Kd.R_below HRO.out hbx) (by omega)⟩⟩
                      case measure => simp [intOf]; omega
                    | false =>
                      have HOK := Lib.hid hok
                      rw [hok] at HWE
                      clear hok
                      go_wp2_with (first | (go_at_call 62; refine (cmp_calls HC10.out hl10 HC6.out hl6 (by omega)).mono ?_; rintro e w5 ⟨rfl, hb5⟩; rw [← HCI.out]; have HB5 := Lib.hid hb5; clear hb5) | ((with_reducible refine gate_dst (N := 80) rfl ?_); refine wpList_load_row rfl 113 _ rfl V.heap.size rfl 113 cs2 (0, 0) _ (blk_below H982.out HB5.out) Tryd.underlying113 rfl HI2.out ?_) | (go_at_call 63; refine (known_calls HBK2.out (HBI.out.below HB5.out) HSM.out).mono ?_; rintro e w10 ⟨rfl, hb10⟩; rw [show knownR (possB (woB b s) (allB b)) = (lo2, hi2) from HK2.out, show anyB (possB (woB b s) (allB b)) = false from HOK.out]; simp only [s39]; have HBA := Lib.hid hb10; clear hb10))
                      go_roundw
                      case rel =>
                        have hbx : Below wr.heap.size wr (w10.alloc (.cells #[.int .i64 lo2, .int .i64 hi2] 39)) := (below_step (below_step HB5.out HBA.out) (below_alloc (Below.refl _ _) _))
                        refine ⟨s + 1, by omega, by go_num, by rw [HWE.out]; rfl, ⟨below_then (below_then HV4.out HV4.out.size HV8.out) (by omega) hbx⟩, ⟨by rw [HWE.out]; exact Kd.R_below HRB.out hbx⟩⟩
                      case measure => simp [intOf]; omega
                · have hbe : ((o.length : Int) == (l.length : Int)) = false := by rw [beq_eq_false_iff_ne]; omega
                  have HWE := Lib.hid (show wrongF b (s + 1) = if canW b s = true then (o, true) else (l, true) by rw [HWS.out, if_neg (by rintro ⟨_, h1 | ⟨h1, _⟩⟩; exact hgt h1; exact heq h1)])
                  clear HWS heq
                  cases hok : canW b s with
                  | true =>
                    have HOK := Lib.hid hok
                    rw [hok] at HWE
                    clear hok
                    go_wp2_with (first | ((with_reducible refine gate_dst (N := 80) rfl ?_); refine wpList_load_row rfl 113 _ rfl V.heap.size rfl 113 cs2 (0, 0) _ H982.out Tryd.underlying113 rfl HI2.out ?_) | (go_at_call 63; refine (known_calls HBK2.out HBI.out HSM.out).mono ?_; rintro e w10 ⟨rfl, hb10⟩; rw [show knownR (possB (woB b s) (allB b)) = (lo2, hi2) from HK2.out, show anyB (possB (woB b s) (allB b)) = true from HOK.out]; simp only [s39]; have HBA := Lib.hid hb10; clear hb10))
                    go_roundw
                    case rel =>
                      have hbx : Below wr.heap.size wr (w10.alloc (.cells #[.int .i64 lo2, .int .i64 hi2] 39)) := (below_step HBA.out (below_alloc (Below.refl _ _) _))
                      refine ⟨s + 1, by omega, by go_num, by rw [HWE.out]; rfl, ⟨below_then (below_then HV4.out HV4.out.size HV8.out) (by omega) hbx⟩, ⟨by rw [HWE.out]; exact Kd.R_lower (Kd.R_below HRO.out hbx) (by omega)⟩⟩
                    case measure => simp [intOf]; omega
                  | false =>
                    have HOK := Lib.hid hok
                    rw [hok] at HWE
                    clear hok
                    go_wp2_with (first | ((with_reducible refine gate_dst (N := 80) rfl ?_); refine wpList_load_row rfl 113 _ rfl V.heap.size rfl 113 cs2 (0, 0) _ H982.out Tryd.underlying113 rfl HI2.out ?_) | (go_at_call 63; refine (known_calls HBK2.out HBI.out HSM.out).mono ?_; rintro e w10 ⟨rfl, hb10⟩; rw [show knownR (possB (woB b s) (allB b)) = (lo2, hi2) from HK2.out, show anyB (possB (woB b s) (allB b)) = false from HOK.out]; simp only [s39]; have HBA := Lib.hid hb10; clear hb10))
                    go_roundw
                    case rel =>
                      have hbx : Below wr.heap.size wr (w10.alloc (.cells #[.int .i64 lo2, .int .i64 hi2] 39)) := (below_step HBA.out (below_alloc (Below.refl _ _) _))
                      refine ⟨s + 1, by omega, by go_num, by rw [HWE.out]; rfl, ⟨below_then (below_then HV4.out HV4.out.size HV8.out) (by omega) hbx⟩, ⟨by rw [HWE.out]; exact Kd.R_below HRB.out hbx⟩⟩
                    case measure => simp [intOf]; omega
      · obtain rfl : s = N := by omega
        obtain ⟨l, f, hlf⟩ : ∃ l f, wrongF b s = (l, f) := ⟨_, _, rfl⟩
        rw [hlf] at HB6 HL ⊢
        obtain ⟨A6, c6, hv6, hl6, hr6⟩ := Kd.R_reads HB6.out
        subst hv6
        have HR6 := Lib.hid hr6
        clear hr6 hlf HB6
        go_wp2_with (first | ((with_reducible refine gate_dst (N := 92) rfl ?_); refine b_value rfl (x_slice (x := .tmp 87) (lo := none) (hi := some (.tmp 89)) (mx := some (.tmp 91)) (u := .slice A6 l.length c6) (a := none) (b := some (.int .i64 l.length)) (c := some (.int .i64 l.length)) rfl rfl rfl rfl rfl (run_cut A6 l.length c6 hl6 _)) ?_))
        go_ret2
        refine ⟨⟨A6, l.length, by rw [HE.out, HL.out]; rfl, by rw [HL.out]; exact Nat.le_refl _, by rw [HL.out]; exact HR6.out⟩, HOV.out.below⟩
end Go.Proofs.YtghpoldlddghjaaDoor
namespace Go.Proofs.YtghpoldlddghjaaDoor
open Go Go.RowKit
open Go.Proofs.YtghpoldlddghjaaDoorW.PrintWords Go.Proofs.YtghpoldlddghjaaDoorW.PrintMore Go.Proofs.YtghpoldlddghjaaDoor.PPasteTrue
def Fit : List S68 → List Int → Prop
  | [], [] => True
  | s :: ss, x :: xs => s.f1.f0 ≤ x ∧ x ≤ s.f1.f1 ∧ Fit ss xs
  | _, _ => False
theorem mem_fills : ∀ (ss : List S68) (xs : List Int), xs ∈ fills ss ↔ Fit ss xs
  | [], [] => by simp [fills, Fit]
  | [], x :: xs => by simp [fills, Fit]
  | s :: ss, [] => by simp [fills, Fit]
  | s :: ss, x :: xs => by
    have ih := mem_fills ss xs
    simp only [fills, List.mem_flatMap, List.mem_range, List.mem_map, Fit, List.cons.injEq]
    constructor
    · rintro ⟨n, hn, ys, hy, rfl, rfl⟩
      exact ⟨by omega, by omega, ih.1 hy⟩
    · rintro ⟨h1, h2, h3⟩
      exact ⟨(x - s.f1.f0).toNat, by omega, xs, ih.2 h3, by omega, rfl⟩
theorem Fit.len : ∀ {ss : List S68} {xs : List Int}, Fit ss xs → xs.length = ss.length
  | [], [], _ => rfl
  | s :: ss, x :: xs, h => by simp [Fit.len h.2.2]
theorem Fit.small : ∀ {ss : List S68} {xs : List Int}, Fit ss xs → (∀ x ∈ ss, 0 ≤ x.f0 ∧ x.f0 ≤ 9 ∧ 0 ≤ x.f1.f0 ∧ x.f1.f0 ≤ x.f1.f1 ∧ x.f1.f1 ≤ 9) → ∀ x ∈ xs, 0 ≤ x ∧ x ≤ 9
  | [], [], _, _ => by simp
  | s :: ss, x :: xs, h, hs => by
    intro y hy
    rcases List.mem_cons.1 hy with rfl | hy
    · have := hs s (by simp)
      have := h.1
      have := h.2.1
      omega
    · exact Fit.small h.2.2 (fun z hz => hs z (by simp [hz])) y hy
def pws (b : Bk) : List Int := (fills b.salts).map (powerI b)
def trs (b : Bk) : List Int := (pws b).filter (rightB b)
theorem mem_pws {b : Bk} {p : Int} : p ∈ pws b ↔ ∃ xs, Fit b.salts xs ∧ powerI b xs = p := by
  unfold pws
  rw [List.mem_map]
  constructor
  · rintro ⟨xs, h1, h2⟩
    exact ⟨xs, (mem_fills _ _).1 h1, h2⟩
  · rintro ⟨xs, h1, h2⟩
    exact ⟨xs, (mem_fills _ _).2 h1, h2⟩
theorem mem_trs {b : Bk} {p : Int} : p ∈ trs b ↔ p ∈ pws b ∧ rightB b p = true := by
  unfold trs
  rw [List.mem_filter]
theorem pws_range {b : Bk} (hs : SP b) {p : Int} (h : p ∈ pws b) : 0 ≤ p ∧ p < 512 := by
  obtain ⟨xs, h1, rfl⟩ := mem_pws.1 h
  exact power_range hs (h1.small hs.s) h1.len
theorem trs_range {b : Bk} (hs : SP b) {p : Int} (h : p ∈ trs b) : 0 ≤ p ∧ p < 512 := pws_range hs (mem_trs.1 h).1
theorem allB_iff (b : Bk) (n : Nat) : allB b n = true ↔ (n : Int) ∈ pws b := by
  unfold allB markAll pws
  simp
theorem pB_iff (b : Bk) (n : Nat) : pB b n = true ↔ (n : Int) ∈ trs b := by
  unfold pB possB
  rw [Bool.and_eq_true, allB_iff, mem_trs]
theorem any_trs {b : Bk} (hs : SP b) (f : Nat → Bool) (g : Int → Bool) (h : ∀ n : Nat, f n = g n) : ((List.range 512).any fun n => pB b n && f n) = (trs b).any g := by
  rw [Bool.eq_iff_iff, List.any_eq_true, List.any_eq_true]
  constructor
  · rintro ⟨n, hn, h1⟩
    rw [Bool.and_eq_true, pB_iff] at h1
    exact ⟨n, h1.1, by rw [← h]; exact h1.2⟩
  · rintro ⟨p, hp, h1⟩
    have := trs_range hs hp
    obtain ⟨n, rfl⟩ := Int.eq_ofNat_of_zero_le this.1
    exact ⟨n, List.mem_range.2 (by omega), by rw [Bool.and_eq_true, pB_iff]; exact ⟨hp, by rw [h]; exact h1⟩⟩
theorem all_trs {b : Bk} (hs : SP b) (f : Nat → Bool) (g : Int → Bool) (h : ∀ n : Nat, f n = g n) : ((List.range 512).all fun n => !pB b n || f n) = (trs b).all g := by
  rw [Bool.eq_iff_iff, List.all_eq_true, List.all_eq_true]
  constructor
  · intro h1 p hp
    have := trs_range hs hp
    obtain ⟨n, rfl⟩ := Int.eq_ofNat_of_zero_le this.1
    have h2 := h1 n (List.mem_range.2 (by omega))
    rw [(pB_iff b n).2 hp] at h2
    rw [← h]
    simpa using h2
  · intro h1 n hn
    cases hp : pB b n with
    | false => rfl
    | true =>
      have := h1 n ((pB_iff b n).1 hp)
      rw [h, this]
      rfl
def lowI (b : Bk) (k : Nat) (p : Int) : Int := p + (rubs b k p).1 - (rd_T47 b.surfs k).f1.f1
def highI (b : Bk) (k : Nat) (p : Int) : Int := p + (rubs b k p).2 - (rd_T47 b.surfs k).f1.f0
def sureL (b : Bk) (k : Nat) : Bool := (trs b).all fun p => decide (b.need ≤ lowI b k p)
def mayL (b : Bk) (k : Nat) : Bool := (trs b).any fun p => decide (b.need ≤ highI b k p)
theorem surely_eq {b : Bk} (hs : SP b) (k : Nat) : surelyB b (allB b) k = sureL b k := all_trs hs _ _ (fun _ => rfl)
theorem perhaps_eq {b : Bk} (hs : SP b) (k : Nat) : perhapsB b (allB b) k = mayL b k := any_trs hs _ _ (fun _ => rfl)
def lightsL (b : Bk) (k : Nat) : Int := if mayL b k = true then (if sureL b k = true then 2 else 1) else 0
theorem lights_eq {b : Bk} (hs : SP b) (k : Nat) : lightsI b (allB b) k = lightsL b k := by
  unfold lightsI lightsL
  rw [surely_eq hs, perhaps_eq hs]
def othersL (b : Bk) : Bool := (List.range b.surfs.length).all fun k => k == 0 || decide (lightsL b k = 0)
theorem others_eq {b : Bk} (hs : SP b) : othersB b (allB b) = othersL b := by
  simp only [othersB, othersL, lights_eq hs]
def safeL (b : Bk) : Bool := decide (lightsL b 0 = 2) && othersL b
theorem safe_eq {b : Bk} (hs : SP b) : safeB b (allB b) = safeL b := by
  unfold safeB safeL
  rw [lights_eq hs, others_eq hs]
theorem any_and_true (f : Nat → Bool) : ∀ l : List Nat, (l.any fun n => f n && true) = l.any f
  | [] => rfl
  | n :: l => by rw [List.any_cons, List.any_cons, any_and_true f l, Bool.and_true]
theorem can_any {b : Bk} (hs : SP b) : canB b = (trs b).any (fun _ => true) :=
  (any_and_true (pB b) (List.range 512)).symm.trans (any_trs hs (fun _ => true) (fun _ => true) (fun _ => rfl))
theorem can_iff {b : Bk} (hs : SP b) : canB b = true ↔ ∃ p, p ∈ trs b := by
  have h := can_any hs
  generalize trs b = l at h ⊢
  generalize canB b = c at h ⊢
  subst h
  rw [List.any_eq_true]
  simp
theorem can_eq {b : Bk} (hs : SP b) : canB b = !(trs b).isEmpty := by
  rw [Bool.eq_iff_iff, can_iff hs]
  cases trs b with
  | nil => simp
  | cons p l => simp
theorem kF_or (f : Nat → Bool) : ∀ k, ((∀ n, n < k → f n = false) ∧ kF f k = (-1, 0)) ∨ ∃ lo hi : Nat, kF f k = ((lo : Int), (hi : Int)) ∧ lo < k ∧ hi < k ∧ f lo = true ∧ f hi = true ∧ ∀ n, n < k → f n = true → lo ≤ n ∧ n ≤ hi
  | 0 => .inl ⟨by simp, rfl⟩
  | k + 1 => by
    rw [kF_succ]
    unfold kStep
    cases hk : f k with
    | false =>
      rw [if_neg Bool.false_ne_true]
      rcases kF_or f k with ⟨h1, h2⟩ | ⟨lo, hi, h2, h3, h4, h5, h6, h7⟩
      · refine .inl ⟨fun n hn => ?_, h2⟩
        rcases Nat.lt_or_eq_of_le (Nat.le_of_lt_succ hn) with h | rfl
        · exact h1 n h
        · exact hk
      · refine .inr ⟨lo, hi, h2, by omega, by omega, h5, h6, fun n hn hf => ?_⟩
        rcases Nat.lt_or_eq_of_le (Nat.le_of_lt_succ hn) with h | rfl
        · exact h7 n h hf
        · rw [hk] at hf; cases hf
    | true =>
      rw [if_pos rfl]
      rcases kF_or f k with ⟨h1, h2⟩ | ⟨lo, hi, h2, h3, h4, h5, h6, h7⟩
      · rw [h2]
        refine .inr ⟨k, k, by simp, by omega, by omega, hk, hk, fun n hn hf => ?_⟩
        rcases Nat.lt_or_eq_of_le (Nat.le_of_lt_succ hn) with h | rfl
        · rw [h1 n h] at hf; cases hf
        · exact ⟨Nat.le_refl _, Nat.le_refl _⟩
      · rw [h2]
        refine .inr ⟨lo, k, by simp; omega, by omega, by omega, h5, hk, fun n hn hf => ?_⟩
        rcases Nat.lt_or_eq_of_le (Nat.le_of_lt_succ hn) with h | rfl
        · have := h7 n h hf
          omega
        · omega
theorem known_none {f : Nat → Bool} (h : anyB f = false) : knownR f = (0, 0) := by
  unfold knownR
  rw [if_neg (by rw [h]; exact Bool.false_ne_true)]
theorem known_some {b : Bk} (hs : SP b) (h : canB b = true) : ∃ lo hi, knownR (pB b) = (lo, hi) ∧ lo ∈ trs b ∧ hi ∈ trs b ∧ ∀ p ∈ trs b, lo ≤ p ∧ p ≤ hi := by
  have hk : knownR (pB b) = kF (pB b) 512 := by
    unfold knownR
    rw [if_pos (show anyB (pB b) = true from h)]
  rw [hk]
  rcases kF_or (pB b) 512 with ⟨h1, h2⟩ | ⟨lo, hi, h2, h3, h4, h5, h6, h7⟩
  · exfalso
    obtain ⟨p, hp⟩ := (can_iff hs).1 h
    have hr := trs_range hs hp
    obtain ⟨n, rfl⟩ := Int.eq_ofNat_of_zero_le hr.1
    have := h1 n (by omega)
    rw [(pB_iff b n).2 hp] at this
    cases this
  · refine ⟨lo, hi, h2, (pB_iff b lo).1 h5, (pB_iff b hi).1 h6, fun p hp => ?_⟩
    have hr := trs_range hs hp
    obtain ⟨n, rfl⟩ := Int.eq_ofNat_of_zero_le hr.1
    have := h7 n (by omega) ((pB_iff b n).2 hp)
    omega
def fkn (b : Bk) : Int × Int := match trs b with
  | [] => (0, 0)
  | p :: l => (l.foldl (fun a c => if c < a then c else a) p, l.foldl (fun a c => if a < c then c else a) p)
theorem fold_lo : ∀ (l : List Int) (p : Int), (l.foldl (fun a c => if c < a then c else a) p) ∈ p :: l ∧ ∀ q ∈ p :: l, (l.foldl (fun a c => if c < a then c else a) p) ≤ q
  | [], p => by simp
  | c :: l, p => by
    rw [List.foldl_cons]
    obtain ⟨h1, h2⟩ := fold_lo l (if c < p then c else p)
    generalize l.foldl (fun a c => if c < a then c else a) (if c < p then c else p) = m at h1 h2
    refine ⟨?_, fun q hq => ?_⟩
    · rcases List.mem_cons.1 h1 with h | h
      · split at h <;> simp [h]
      · simp [h]
    · have h3 := h2 _ List.mem_cons_self
      simp only [List.mem_cons] at hq
      rcases hq with rfl | rfl | hq
      · split at h3 <;> omega
      · split at h3 <;> omega
      · exact h2 q (List.mem_cons_of_mem _ hq)
theorem fold_hi : ∀ (l : List Int) (p : Int), (l.foldl (fun a c => if a < c then c else a) p) ∈ p :: l ∧ ∀ q ∈ p :: l, q ≤ (l.foldl (fun a c => if a < c then c else a) p)
  | [], p => by simp
  | c :: l, p => by
    rw [List.foldl_cons]
    obtain ⟨h1, h2⟩ := fold_hi l (if p < c then c else p)
    generalize l.foldl (fun a c => if a < c then c else a) (if p < c then c else p) = m at h1 h2
    refine ⟨?_, fun q hq => ?_⟩
    · rcases List.mem_cons.1 h1 with h | h
      · split at h <;> simp [h]
      · simp [h]
    · have h3 := h2 _ List.mem_cons_self
      simp only [List.mem_cons] at hq
      rcases hq with rfl | rfl | hq
      · split at h3 <;> omega
      · split at h3 <;> omega
      · exact h2 q (List.mem_cons_of_mem _ hq)
theorem known_eq {b : Bk} (hs : SP b) : knownR (pB b) = fkn b := by
  cases hc : canB b with
  | false =>
    rw [known_none hc]
    have h := can_eq hs
    rw [hc] at h
    have : trs b = [] := by
      cases ht : trs b with
      | nil => rfl
      | cons p l => rw [ht] at h; simp at h
    unfold fkn
    rw [this]
  | true =>
    obtain ⟨lo, hi, h1, h2, h3, h4⟩ := known_some hs hc
    rw [h1]
    unfold fkn
    cases ht : trs b with
    | nil => rw [ht] at h2; cases h2
    | cons p l =>
      rw [ht] at h2 h3 h4
      obtain ⟨a1, a2⟩ := fold_lo l p
      obtain ⟨a3, a4⟩ := fold_hi l p
      have b1 := h4 _ a1
      have b2 := h4 _ a3
      have b3 := a2 _ h2
      have b4 := a4 _ h3
      simp only [Prod.mk.injEq]
      omega
end Go.Proofs.YtghpoldlddghjaaDoor
namespace Go.Proofs.YtghpoldlddghjaaDoor
open Go Go.RowKit
open Go.Proofs.YtghpoldlddghjaaDoorW.PrintWords Go.Proofs.YtghpoldlddghjaaDoorW.PrintMore Go.Proofs.YtghpoldlddghjaaDoor.PPasteTrue
def bookB (ts : List S59) : Bk := ⟨[⟨3, ⟨2, 4⟩⟩, ⟨5, ⟨1, 2⟩⟩, ⟨2, ⟨0, 1⟩⟩], [⟨0, 1, 10⟩, ⟨1, 2, 20⟩], [⟨⟨70, 80⟩, ⟨5, 10⟩⟩, ⟨⟨20, 30⟩, ⟨0, 5⟩⟩, ⟨⟨45, 50⟩, ⟨10, 12⟩⟩], 75, ts⟩
def plainB : Bk := ⟨[⟨3, ⟨2, 4⟩⟩, ⟨5, ⟨1, 2⟩⟩, ⟨2, ⟨0, 0⟩⟩], [⟨0, 1, 10⟩, ⟨1, 2, 20⟩], [⟨⟨70, 80⟩, ⟨5, 10⟩⟩, ⟨⟨20, 30⟩, ⟨0, 5⟩⟩, ⟨⟨45, 50⟩, ⟨10, 12⟩⟩], 75, []⟩
def tornT : List S59 := [⟨1, true⟩, ⟨2, false⟩]
theorem sane_book (ts : List S59) : Sane (bookB ts) := by
  intro p hp
  simp [bookB] at hp
  rcases hp with rfl | rfl <;> decide
theorem sane_plain : Sane plainB := by
  intro p hp
  simp [plainB] at hp
  rcases hp with rfl | rfl <;> decide
theorem ck_book0 : checkB (bookB []) = true := by kernel_rfl
theorem ck_book1 : checkB (bookB [⟨1, true⟩]) = true := by kernel_rfl
theorem ck_torn : checkB (bookB tornT) = true := by kernel_rfl
theorem ck_plain : checkB plainB = true := by kernel_rfl
theorem gd_book0 : Good (bookB []) := good_of ck_book0 (sane_book _)
theorem gd_book1 : Good (bookB [⟨1, true⟩]) := good_of ck_book1 (sane_book _)
theorem gd_torn : Good (bookB tornT) := good_of ck_torn (sane_book _)
theorem gd_plain : Good plainB := good_of ck_plain sane_plain
theorem ask_of {b : Bk} (hc : checkB b = true) (hs : SP b) (h : (trs b).isEmpty = false) : askE b true = 0 := by
  unfold askE
  rw [if_pos hc, if_pos rfl, if_pos (by rw [can_eq hs, h]; rfl)]
theorem ask_book0 : askE (bookB []) true = 0 := ask_of ck_book0 gd_book0.sp (by kernel_rfl)
theorem ask_book1 : askE (bookB [⟨1, true⟩]) true = 0 := ask_of ck_book1 gd_book1.sp (by kernel_rfl)
theorem ask_plain : askE plainB true = 0 := ask_of ck_plain gd_plain.sp (by kernel_rfl)
theorem kR_of {b : Bk} (h : askE b true = 0) (hs : SP b) : kR b = fkn b := by
  unfold kR
  rw [if_pos h, known_eq hs]
theorem kR_book0 : kR (bookB []) = (21, 54) := (kR_of ask_book0 gd_book0.sp).trans (by kernel_rfl)
theorem kR_book1 : kR (bookB [⟨1, true⟩]) = (46, 54) := (kR_of ask_book1 gd_book1.sp).trans (by kernel_rfl)
theorem eL_of {b : Bk} {n : Int} (h : askE b true = 0) (hn : isSurfB b n = true) : eL b n = 0 := by
  unfold eL
  rw [hn, h]
theorem lR_of {b : Bk} {n : Int} (h : eL b n = 0) (hs : SP b) : lR b n = lightsL b n.toNat := by
  unfold lR
  rw [if_pos h, lights_eq hs]
theorem eL_book0 : eL (bookB []) 1 = 0 := eL_of ask_book0 (by kernel_rfl)
theorem lR_book0 : lR (bookB []) 1 = 1 := (lR_of eL_book0 gd_book0.sp).trans (by kernel_rfl)
theorem safeR_of {b : Bk} (h : askE b true = 0) (hs : SP b) : safeR b = safeL b := by
  unfold safeR
  rw [h, safe_eq hs]
  rfl
theorem safe_plain : safeR plainB = true := (safeR_of ask_plain gd_plain.sp).trans (by kernel_rfl)
def blameLs (b : Bk) (n k : Nat) : List Int := ((List.range k).filter fun j => decide (lightsL (unpair b j) n = 0)).map fun (i : Nat) => (i : Int)
theorem blameTo_eq {b : Bk} (hg : Good b) (n k : Nat) : blameTo b n k = blameLs b n k := by
  unfold blameTo blameLs blameOk
  simp only [fun j => lights_eq (good_unpair hg j).sp n]
theorem blameE_of {b : Bk} {n : Int} (hc : checkB b = true) (hg : Good b) (hn : isSurfB b n = true) (he : askE b.bare true = 0) : blameE b n = if lightsL b.bare n.toNat = 0 then 4 else 0 := by
  unfold blameE eB
  rw [if_pos hc, hn, if_pos he, lights_eq (good_bare hg).sp]
theorem blameE_book0 : blameE (bookB []) 1 = 0 := (blameE_of ck_book0 gd_book0 (by kernel_rfl) ask_book0).trans (by kernel_rfl)
theorem blameL_of {b : Bk} {n : Int} (hg : Good b) (h : blameE b n = 0) : blameL b n = blameLs b n.toNat b.pairs.length := by
  unfold blameL
  rw [if_pos h, blameTo_eq hg]
theorem blameL_book0 : blameL (bookB []) 1 = [0, 1] := (blameL_of gd_book0 blameE_book0).trans (by kernel_rfl)
def lessRs (b : Bk) (k : Nat) : Int × Int := match (List.range (lessN b k)).find? (fun m => othersL (less b k m)) with | some m => ((m : Int), 0) | none => (0, 4)
theorem find_congr {f g : Nat → Bool} : ∀ l : List Nat, (∀ x ∈ l, f x = g x) → l.find? f = l.find? g
  | [], _ => rfl
  | x :: l, h => by
    rw [List.find?_cons, List.find?_cons, h x (by simp), find_congr l (fun y hy => h y (by simp [hy]))]
theorem lessR_of {b : Bk} {n : Int} (hc : checkB b = true) (hg : Good b) (hn : isSaltB b n = true) : lessR b n = lessRs b n.toNat := by
  have hsl := isSalt_of hg hn
  have e : (List.range (lessN b n.toNat)).find? (lessOk b n.toNat) = (List.range (lessN b n.toNat)).find? (fun m => othersL (less b n.toNat m)) := by
    refine find_congr _ (fun m hm => ?_)
    rw [List.mem_range] at hm
    unfold lessN at hm
    exact others_eq (good_less hg (by omega) (by omega)).sp
  unfold lessR lessRs
  rw [if_pos hc, if_pos hn, e]
  generalize (List.range (lessN b n.toNat)).find? (fun m => othersL (less b n.toNat m)) = o
  cases o <;> rfl
theorem lessR_book0 : lessR (bookB []) 2 = (1, 0) := (lessR_of ck_book0 gd_book0 (by kernel_rfl)).trans (by kernel_rfl)
theorem sp_damp {b : Bk} (h : SP b) (n : Nat) : SP (damp b n) := ⟨h.s1, h.p1, h.s, h.p, h.d⟩
def dampLs (b : Bk) (n : Nat) : List Int := ((List.range n).filter fun m => safeL (damp b m)).map fun (i : Nat) => (i : Int)
theorem dampL_eq {b : Bk} (hs : SP b) (n : Nat) : dampL b n = dampLs b n := by
  unfold dampL dampLs
  have e : dampOk b = fun m => safeL (damp b m) := by
    funext m
    exact safe_eq (sp_damp hs m)
  rw [e]
def damperRs (b : Bk) : (Int × Int) × Int := match dampLs b 201 with
  | [] => ((0, 0), 4)
  | x :: l => ((x, rd (x :: l) (l.length : Int)), 0)
theorem damperR_of {b : Bk} (hc : checkB b = true) (hs : SP b) : damperR b = damperRs b := by
  unfold damperR damperRs
  rw [if_pos hc, dampL_eq hs]
  cases dampLs b 201 with
  | nil => rfl
  | cons x l =>
    rw [if_neg (by simp)]
    simp [rd]
theorem damper_plain : damperR plainB = ((0, 6), 0) := (damperR_of ck_plain gd_plain.sp).trans (by kernel_rfl)
theorem sp_with1 {b : Bk} (h : SP b) (k : Int) (is : Bool) : SP (with1 b k is) := ⟨h.s1, h.p1, h.s, h.p, h.d⟩
def worst1s (b : Bk) (k : Int) (r : Int) (is : Bool) : Int := if (trs (with1 b k is)).isEmpty = true then r else mx r ((fkn (with1 b k is)).2 - (fkn (with1 b k is)).1)
theorem worst1_eq {b : Bk} (hs : SP b) (k : Int) : worst1 b k = worst1s b k := by
  funext r is
  unfold worst1 worst1s
  rw [show can1 b k is = canB (with1 b k is) from rfl, can_eq (sp_with1 hs k is), show k1 b k is = fkn (with1 b k is) from known_eq (sp_with1 hs k is)]
  cases (trs (with1 b k is)).isEmpty <;> rfl
def worstS (b : Bk) (k : Int) : Int := [true, false].foldl (worst1s b k) (-1)
theorem worst_eq {b : Bk} (hs : SP b) (k : Int) : worstTo b k 2 = worstS b k := by
  unfold worstTo worstS
  rw [worst1_eq hs]
  rfl
def nextSt (b : Bk) (r : Int × Int) (k : Nat) : Int × Int := if r.1 < 0 ∨ worstS b k < r.2 then ((k : Int), worstS b k) else r
def nextFs (b : Bk) (k : Nat) : Int × Int := (List.range k).foldl (nextSt b) (-1, 0)
theorem nextF_eq {b : Bk} (hs : SP b) (k : Nat) : nextF b k = nextFs b k := by
  unfold nextF nextFs
  have e : nextStep b = nextSt b := by
    funext r k
    unfold nextStep nextSt
    rw [worst_eq hs]
  rw [e]
def nextRs (b : Bk) : Int × Int := if (fkn b).1 = (fkn b).2 then (0, 4) else ((nextFs b b.surfs.length).1, 0)
theorem nextR_of {b : Bk} (h : askE b true = 0) (hs : SP b) : nextR b = nextRs b := by
  unfold nextR nextRs
  rw [if_pos h, known_eq hs, nextF_eq hs]
theorem next_book0 : nextR (bookB []) = (2, 0) := (nextR_of ask_book0 gd_book0.sp).trans (by kernel_rfl)
theorem sp_wo {b : Bk} (h : SP b) (s : Nat) : SP (woB b s) := ⟨h.s1, h.p1, h.s, h.p, h.d⟩
def wSt (b : Bk) (r : List Int × Bool) (s : Nat) : List Int × Bool :=
  if r.2 = true ∧ (r.1.length < (outTo s b.trials.length).length ∨ ((outTo s b.trials.length).length = r.1.length ∧ 0 ≤ cmpI (outTo s b.trials.length) r.1)) then r
  else if (trs (woB b s)).isEmpty = true then r else (outTo s b.trials.length, true)
def wrongFs (b : Bk) (k : Nat) : List Int × Bool := (List.range k).foldl (wSt b) ([], false)
theorem wrongF_eq {b : Bk} (hs : SP b) (k : Nat) : wrongF b k = wrongFs b k := by
  unfold wrongF wrongFs
  have e : wStep b = wSt b := by
    funext r s
    unfold wStep wSt
    rw [show canW b s = canB (woB b s) from rfl, can_eq (sp_wo hs s)]
    cases (trs (woB b s)).isEmpty <;> rfl
  rw [e]
theorem wrongL_of {b : Bk} (hc : checkB b = true) (hs : SP b) : wrongL b = (wrongFs b (2 ^ b.trials.length)).1 := by
  unfold wrongL
  rw [if_pos hc, wrongF_eq hs]
theorem wrongL_torn : wrongL (bookB tornT) = [0] := (wrongL_of ck_torn gd_torn.sp).trans (by kernel_rfl)
theorem wrongE_torn : wrongE (bookB tornT) = 0 := by unfold wrongE; rw [if_pos ck_torn]
theorem eRight_book0 : eRight (bookB []) = 0 := by
  unfold eRight
  rw [ask_book0]
  rfl
end Go.Proofs.YtghpoldlddghjaaDoor
namespace Go.Proofs.YtghpoldlddghjaaDoor
open Go Go.RowKit
open Go.Proofs.YtghpoldlddghjaaDoorW.PrintWords Go.Proofs.YtghpoldlddghjaaDoorW.PrintMore Go.Proofs.YtghpoldlddghjaaDoor.PPasteTrue
theorem bk_of_rows {w : World} {base : Nat} {ok : Nat → Prop} {v0 v1 v2 v4 : Value} (b : Bk) (h0 : Kd.R k68 68 w base ok v0 b.salts) (h1 : Kd.R k77 77 w base ok v1 b.pairs) (h2 : Kd.R k47 47 w base ok v2 b.surfs) (h4 : Kd.R k59 59 w base ok v4 b.trials) :
    ∃ h : Hd, #[v0, v1, v2, .int .i64 b.need, v4] = h.cells b ∧ BkIn w h b := by
  obtain ⟨A0, c0, e0, l0, r0⟩ := Kd.R_reads h0
  obtain ⟨A1, c1, e1, l1, r1⟩ := Kd.R_reads h1
  obtain ⟨A2, c2, e2, l2, r2⟩ := Kd.R_reads h2
  obtain ⟨A4, c4, e4, l4, r4⟩ := Kd.R_reads h4
  refine ⟨⟨A0, c0, A1, c1, A2, c2, A4, c4⟩, ?_, ⟨r0, r1, r2, r4, l0, l1, l2, l4⟩⟩
  rw [e0, e1, e2, e4]
  rfl
theorem book_f (ts : List S59) : luciferlaw02_book.f ts = some ((bookB ts).salts, (bookB ts).pairs, (bookB ts).surfs, (bookB ts).need, (bookB ts).trials) := rfl
theorem torn_f : luciferlaw02_torn.f = some ((bookB tornT).salts, (bookB tornT).pairs, (bookB tornT).surfs, (bookB tornT).need, (bookB tornT).trials) := rfl
theorem plain_f : luciferlaw02_plain.f = some (plainB.salts, plainB.pairs, plainB.surfs, plainB.need, plainB.trials) := by kernel_rfl
theorem book0_calls {w : World} : Calls Tryd.prog 41 #[.slice none 0 0] w fun e w' => ∃ h : Hd, e = .returned (.agg (h.cells (bookB []))) ∧ BkIn w' h (bookB []) ∧ Below w.heap.size w w' := by
  refine (luciferlaw02_book.calls (fun _ => True) (.slice none 0 0) [] _ _ _ _ _ w w (Below.refl _ _) (Kd.R_nil _ _ _ _ _) (book_f [])).mono ?_
  rintro e w' ⟨v0, v1, v2, v4, rfl, h0, h1, h2, h4, hb, _⟩
  obtain ⟨h, he, hi⟩ := bk_of_rows (bookB []) h0 h1 h2 h4
  exact ⟨h, by rw [← he], hi, hb⟩
theorem book_of_calls {u : Value} {ts : List S59} {w0 w : World} (hB : Below w0.heap.size w0 w) (hr : Kd.R k59 59 w w0.heap.size (fun _ => True) u ts) :
    Calls Tryd.prog 41 #[u] w fun e w' => ∃ h : Hd, e = .returned (.agg (h.cells (bookB ts))) ∧ BkIn w' h (bookB ts) ∧ Below w0.heap.size w0 w' := by
  refine (luciferlaw02_book.calls (fun _ => True) u ts _ _ _ _ _ w0 w hB hr (book_f ts)).mono ?_
  rintro e w' ⟨v0, v1, v2, v4, rfl, h0, h1, h2, h4, hb, _⟩
  obtain ⟨h, he, hi⟩ := bk_of_rows (bookB ts) h0 h1 h2 h4
  exact ⟨h, by rw [← he], hi, hb⟩
theorem torn_calls {w : World} : Calls Tryd.prog 44 #[] w fun e w' => ∃ h : Hd, e = .returned (.agg (h.cells (bookB tornT))) ∧ BkIn w' h (bookB tornT) ∧ Below w.heap.size w w' := by
  refine (luciferlaw02_torn.calls _ _ _ _ _ w torn_f).mono ?_
  rintro e w' ⟨v0, v1, v2, v4, rfl, h0, h1, h2, h4, hb⟩
  obtain ⟨h, he, hi⟩ := bk_of_rows (bookB tornT) h0 h1 h2 h4
  exact ⟨h, by rw [← he], hi, hb⟩
theorem plain_calls {w : World} : Calls Tryd.prog 45 #[] w fun e w' => ∃ h : Hd, e = .returned (.agg (h.cells plainB)) ∧ BkIn w' h plainB ∧ Below w.heap.size w w' := by
  refine (luciferlaw02_plain.calls _ _ _ _ _ w plain_f).mono ?_
  rintro e w' ⟨v0, v1, v2, v4, rfl, h0, h1, h2, h4, hb⟩
  obtain ⟨h, he, hi⟩ := bk_of_rows plainB h0 h1 h2 h4
  exact ⟨h, by rw [← he], hi, hb⟩
theorem lit_calls (k : Int) (w : World) : Calls Tryd.prog 30 #[.int .i64 k] w fun e w' => e = .returned (.agg #[.int .i64 k, .bool true]) ∧ Below w.heap.size w w' := luciferlaw02_lit.calls k k true w rfl
theorem not_calls (k : Int) (w : World) : Calls Tryd.prog 31 #[.int .i64 k] w fun e w' => e = .returned (.agg #[.int .i64 k, .bool false]) ∧ Below w.heap.size w w' := luciferlaw02_not.calls k k false w rfl
theorem sp_calls (x y : Int) (w : World) : Calls Tryd.prog 27 #[.int .i64 x, .int .i64 y] w fun e w' => e = .returned (.agg #[.int .i64 x, .int .i64 y]) ∧ Below w.heap.size w w' := luciferref00_Sp.calls x y x y w rfl
theorem R_lit59 (w : World) (t : S59) : Kd.R k59 59 (w.alloc (.cells #[.int .i64 t.f0, .bool t.f1] 59)) w.heap.size (fun _ => True) (.slice (some ⟨w.heap.size, 0, none⟩) 1 1) [t] := by
  refine ⟨fun _ _ => trivial, [.int .i64 t.f0, .bool t.f1], ⟨by simp [k59, Kd.iso, Kd.pair, Kd.int, Kd.bool, Kd.scalar], .inr ⟨w.heap.size, 1, #[.int .i64 t.f0, .bool t.f1], rfl, Nat.le_refl _, new_at rfl, by simp, by simp [maxLen], by simp [k59, Kd.iso, Kd.pair, Kd.int, Kd.bool, Kd.scalar], by simp [k59, Kd.iso, Kd.pair, Kd.int, Kd.bool, Kd.scalar]⟩⟩, ?_⟩
  have := reps59 (w.alloc (.cells #[.int .i64 t.f0, .bool t.f1] 59)) w.heap.size (fun k => True ∧ some k ≠ (Value.slice (some ⟨w.heap.size, 0, none⟩) 1 1).ownBlock) [t]
  exact this
theorem C_of_reads {w : World} {A : Option Addr} {n : Nat} {xs : List Int} (h : ReadsInt w .i64 A n xs) : Kd.C (Kd.int .i64) w A n xs := by
  refine ⟨h.1, h.2.1, fun hp => ?_⟩
  obtain ⟨ad, e, hc⟩ := h.2.2 hp
  refine ⟨ad, e, fun j p hj => ⟨[.int .i64 p], rfl, rfl, fun i u hu => ?_⟩⟩
  have hlt := (List.getElem?_eq_some_iff.1 hj).1
  have h1 := h.1
  rcases i with _ | i
  · simp at hu
    subst hu
    have h2 := hc j (by omega)
    rw [List.getD_eq_getElem?_getD, hj] at h2
    simpa [Kd.int, Kd.scalar] using h2
  · simp at hu
def alikeB (l0 l1 : List Int) : Bool := (luciferref00_Alike.f (l0.length + 1) l0 l1).getD false
end Go.Proofs.YtghpoldlddghjaaDoor
namespace Go.Proofs.YtghpoldlddghjaaDoor
open Go Go.RowKit
open Go.Proofs.YtghpoldlddghjaaDoorW.PrintWords Go.Proofs.YtghpoldlddghjaaDoorW.PrintMore Go.Proofs.YtghpoldlddghjaaDoor.PPasteTrue
theorem wanted_of {ops : Array Oper} {o oj : Oper} {tmps : Array Value} {j d : Nat} {want : Bool} (hg : o.guard = some (j, want)) (ho : ops[j]? = some oj) (hd : oj.dst = some d) (ht : tmps[d]? = some (.bool want)) : Region.wanted o (yielded ops tmps) = true := by
  unfold Region.wanted yielded
  simp [hg, ho, hd, ht]
section
variable {ρ : Operand → Value} {o : Oper} {w : World}
theorem x_pickF {c x y : Operand} (ho : o.op = .pick c x y) {v : Value} (hc : ρ c = .bool false) (hy : ρ y = v) : (execOp ρ o).run Tryd.prog w = .ok (.value v) w := by
  unfold execOp
  simp only [ho, hc, hy]
  rfl
theorem x_pickT {c x y : Operand} (ho : o.op = .pick c x y) {v : Value} (hc : ρ c = .bool true) (hx : ρ x = v) : (execOp ρ o).run Tryd.prog w = .ok (.value v) w := by
  unfold execOp
  simp only [ho, hc, hx]
  rfl
theorem x_ne33 {x y : Operand} {t' : TypeId} (ho : o.op = .binOp .neq 33 x y t') {i j : Int} (hx : ρ x = .int .i64 i) (hy : ρ y = .int .i64 j) : (execOp ρ o).run Tryd.prog w = .ok (.value (.bool (i != j))) w := by
  unfold execOp
  simp only [ho, hx, hy]
  go_simp
theorem x_eq33 {x y : Operand} {t' : TypeId} (ho : o.op = .binOp .eql 33 x y t') {i j : Int} (hx : ρ x = .int .i64 i) (hy : ρ y = .int .i64 j) : (execOp ρ o).run Tryd.prog w = .ok (.value (.bool (i == j))) w := by
  unfold execOp
  simp only [ho, hx, hy]
  go_simp
theorem x_ne3 {x y : Operand} {t' : TypeId} (ho : o.op = .binOp .neq 3 x y t') {i j : Int} (hx : ρ x = .int .i64 i) (hy : ρ y = .int .i64 j) : (execOp ρ o).run Tryd.prog w = .ok (.value (.bool (i != j))) w := by
  unfold execOp
  simp only [ho, hx, hy]
  go_simp
theorem x_eq3 {x y : Operand} {t' : TypeId} (ho : o.op = .binOp .eql 3 x y t') {i j : Int} (hx : ρ x = .int .i64 i) (hy : ρ y = .int .i64 j) : (execOp ρ o).run Tryd.prog w = .ok (.value (.bool (i == j))) w := by
  unfold execOp
  simp only [ho, hx, hy]
  go_simp
theorem x_ne39 {x y : Operand} {t' : TypeId} (ho : o.op = .binOp .neq 39 x y t') {i j i' j' : Int} (hx : ρ x = .agg #[.int .i64 i, .int .i64 j]) (hy : ρ y = .agg #[.int .i64 i', .int .i64 j']) : (execOp ρ o).run Tryd.prog w = .ok (.value (.bool (!((i == i') && (j == j'))))) w := by
  unfold execOp
  simp only [ho, hx, hy]
  go_simp
  by_cases h1 : i = i' <;> by_cases h2 : j = j' <;> simp [h1, h2]
theorem x_eq39 {x y : Operand} {t' : TypeId} (ho : o.op = .binOp .eql 39 x y t') {i j i' j' : Int} (hx : ρ x = .agg #[.int .i64 i, .int .i64 j]) (hy : ρ y = .agg #[.int .i64 i', .int .i64 j']) : (execOp ρ o).run Tryd.prog w = .ok (.value (.bool ((i == i') && (j == j')))) w := by
  unfold execOp
  simp only [ho, hx, hy]
  go_simp
  by_cases h1 : i = i' <;> by_cases h2 : j = j' <;> simp [h1, h2]
theorem x_box32 {x y : Operand} (ho : o.op = .buildSlice 28 2 #[(0, x), (1, y)]) {i j : Int} (hx : ρ x = .int .i64 i) (hy : ρ y = .int .i64 j) : (execOp ρ o).run Tryd.prog w = .ok (.value (.slice (some ⟨w.heap.size, 0, none⟩) 2 2)) (w.alloc (.cells #[.int .i64 i, .int .i64 j] 3)) := by
  unfold execOp
  simp only [ho, hx, hy]
  go_simp
end
theorem reads_block {w : World} {g : Nat} {xs : List Int} (h : w.heap[g]? = some (.cells (nums .i64 xs).toArray 3 (0, 0))) (hl : xs.length ≤ 1000) : ReadsInt w .i64 (some ⟨g, 0, none⟩) xs.length xs := by
  refine ⟨rfl, by omega, fun _ => ⟨⟨g, 0, none⟩, rfl, fun j hj => ?_⟩⟩
  have := blk_cell h j
  rw [add_plain, this]
  simp [nums, List.getD_eq_getElem?_getD, List.getElem?_eq_getElem hj]
structure RSt (w0 : World) (g1 : Nat) (A9 : Option Addr) (gS : Nat) (wq : World) (b33 : Bool) : Prop where
  below : Below w0.heap.size w0 wq
  t1 : wq.heap[g1]? = some (.cells #[.int .i64 21, .int .i64 54] 39 (0, 0))
  bl : ReadsInt wq .i64 A9 2 [0, 1]
  sl : b33 = true → wq.heap[gS]? = some (.cells #[.int .i64 0, .int .i64 1] 3 (0, 0))
theorem RSt.on {w0 : World} {g1 : Nat} {A9 : Option Addr} {gS : Nat} {wq w1 : World} {b33 : Bool} (s : RSt w0 g1 A9 gS wq b33) (hb : Below wq.heap.size wq w1) : RSt w0 g1 A9 gS w1 b33 :=
  ⟨below_step s.below hb, blk_below s.t1 hb, s.bl.below hb, fun e => blk_below (s.sl e) hb⟩
theorem RSt.slice {w0 : World} {g1 : Nat} {A9 : Option Addr} {gS : Nat} {wq : World} {b33 : Bool} (s : RSt w0 g1 A9 gS wq b33) : RSt w0 g1 A9 wq.heap.size (wq.alloc (.cells #[.int .i64 0, .int .i64 1] 3)) true :=
  ⟨below_step s.below (below_alloc (Below.refl _ _) _), blk_alloc s.t1 _, s.bl.allocS _, fun _ => new_at rfl⟩
theorem alike01 {A9 : Option Addr} {c9 gS : Nat} {w : World} (h9 : ReadsInt w .i64 A9 2 [0, 1]) (hl : 2 ≤ c9) (hS : w.heap[gS]? = some (.cells #[.int .i64 0, .int .i64 1] 3 (0, 0))) :
    Calls Tryd.prog 46 #[.slice A9 2 c9, .slice (some ⟨gS, 0, none⟩) 2 2] w fun e w' => e = .returned (.bool true) ∧ Below w.heap.size w w' := by
  refine (luciferref00_Alike.calls 3 A9 c9 [0, 1] (some ⟨gS, 0, none⟩) 2 [0, 1] true w (C_of_reads h9) hl (C_of_reads (reads_block (xs := [0, 1]) hS (by decide))) (Nat.le_refl _) (by kernel_rfl)).mono ?_
  rintro e w' ⟨he, hd⟩
  exact ⟨he, hd.below⟩
structure RSu (w0 : World) (g11 g12 : Nat) (A9 : Option Addr) (gS : Nat) (wq : World) (b30 : Bool) : Prop where
  below : Below w0.heap.size w0 wq
  t11 : wq.heap[g11]? = some (.cells #[.int .i64 0, .int .i64 6] 39 (0, 0))
  t12 : wq.heap[g12]? = some (.cells #[.int .i64 46, .int .i64 54] 39 (0, 0))
  bl : Kd.C (Kd.int .i64) wq A9 1 [0]
  sl : b30 = true → wq.heap[gS]? = some (.cells #[.int .i64 0] 3 (0, 0))
theorem RSu.on {w0 : World} {g11 g12 : Nat} {A9 : Option Addr} {gS : Nat} {wq w1 : World} {b30 : Bool} (s : RSu w0 g11 g12 A9 gS wq b30) (hb : Below wq.heap.size wq w1) : RSu w0 g11 g12 A9 gS w1 b30 :=
  ⟨below_step s.below hb, blk_below s.t11 hb, blk_below s.t12 hb, Kd.C_below s.bl hb, fun e => blk_below (s.sl e) hb⟩
theorem RSu.slice {w0 : World} {g11 g12 : Nat} {A9 : Option Addr} {gS : Nat} {wq : World} {b30 : Bool} (s : RSu w0 g11 g12 A9 gS wq b30) : RSu w0 g11 g12 A9 wq.heap.size (wq.alloc (.cells #[.int .i64 0] 3)) true :=
  ⟨below_step s.below (below_alloc (Below.refl _ _) _), blk_alloc s.t11 _, blk_alloc s.t12 _, Kd.C_below s.bl (below_alloc (Below.refl _ _) _), fun _ => new_at rfl⟩
theorem alike0 {A9 : Option Addr} {c9 gS : Nat} {w : World} (h9 : Kd.C (Kd.int .i64) w A9 1 [0]) (hl : 1 ≤ c9) (hS : w.heap[gS]? = some (.cells #[.int .i64 0] 3 (0, 0))) :
    Calls Tryd.prog 46 #[.slice A9 1 c9, .slice (some ⟨gS, 0, none⟩) 1 1] w fun e w' => e = .returned (.bool true) ∧ Below w.heap.size w w' := by
  refine (luciferref00_Alike.calls 2 A9 c9 [0] (some ⟨gS, 0, none⟩) 1 [0] true w h9 hl (C_of_reads (reads_block (xs := [0]) hS (by decide))) (Nat.le_refl _) (by kernel_rfl)).mono ?_
  rintro e w' ⟨he, hd⟩
  exact ⟨he, hd.below⟩
end Go.Proofs.YtghpoldlddghjaaDoor
namespace Go.Proofs.YtghpoldlddghjaaDoor
open Go Go.RowKit
open Go.Proofs.YtghpoldlddghjaaDoorW.PrintWords Go.Proofs.YtghpoldlddghjaaDoorW.PrintMore Go.Proofs.YtghpoldlddghjaaDoor.PPasteTrue
set_option maxRecDepth 20000 in
set_option maxHeartbeats 800000 in
theorem rubbed_calls {w : World} (hg : Asks w) : Calls Tryd.prog 12 #[] w fun e w' => e = .returned (.bool true) ∧ Below w.heap.size w w' := by
  have HG := Lib.hid hg
  clear hg
  go_enter Tryd.func12, Tryd.ntmps12
  go_upto_region 2 with (first | (go_at_call 41; refine book0_calls.mono ?_; rintro e w1 ⟨h1, rfl, hbi1, hb1⟩; have HBI1 := Lib.hid hbi1; have HB1 := Lib.hid hb1; clear hbi1 hb1) | (go_at_call 17; refine (Power_calls HBI1.out (sane_book _)).mono ?_; rintro e w2 ⟨rfl, hb2⟩; rw [kR_book0, ask_book0]; simp only [s39]; have HB2 := Lib.hid (below_step HB1.out hb2); clear hb2))
  obtain ⟨g1, hg1⟩ : ∃ g1, g1 = w2.heap.size := ⟨_, rfl⟩
  have h1' : (w2.alloc (.cells #[.int .i64 21, .int .i64 54] 39)).heap[g1]? = some (.cells #[.int .i64 21, .int .i64 54] 39 (0, 0)) := new_at hg1
  have hb3 : Below w.heap.size w (w2.alloc (.cells #[.int .i64 21, .int .i64 54] 39)) := HB2.out.alloc HB2.out.size _
  rw [← hg1]
  generalize w2.alloc (.cells #[.int .i64 21, .int .i64 54] 39) = w3 at h1' hb3 ⊢
  have HT1 := Lib.hid h1'
  have HB3 := Lib.hid hb3
  clear h1' hb3 hg1 HBI1 HB1 HB2
  go_upto_region 3 with (first | (go_at_call 41; refine book0_calls.mono ?_; rintro e w4 ⟨h4, rfl, hbi4, hb4⟩; have HBI4 := Lib.hid hbi4; have HB4 := Lib.hid (below_step HB3.out hb4); have HT4 := Lib.hid (blk_below HT1.out hb4); clear hbi4 hb4) | (go_at_call 20; refine (Lights_calls (HG.out.below HB4.out) HBI4.out (sane_book _) 1).mono ?_; rintro e w5 ⟨rfl, hb5⟩; rw [lR_book0, eL_book0]; have HB5 := Lib.hid (below_step HB4.out hb5); have HT5 := Lib.hid (blk_below HT4.out hb5); clear hb5))
  clear HBI4 HB4 HT4 HT1 HB3
  go_upto_region 4 with (first | (go_at_call 45; refine plain_calls.mono ?_; rintro e w6 ⟨h6, rfl, hbi6, hb6⟩; have HBI6 := Lib.hid hbi6; have HB6 := Lib.hid (below_step HB5.out hb6); have HT6 := Lib.hid (blk_below HT5.out hb6); clear hbi6 hb6) | (go_at_call 18; refine (Safe_calls (HG.out.below HB6.out) HBI6.out sane_plain).mono ?_; rintro e w7 ⟨rfl, hb7⟩; rw [safe_plain, ask_plain]; have HB7 := Lib.hid (below_step HB6.out hb7); have HT7 := Lib.hid (blk_below HT6.out hb7); clear hb7))
  clear HBI6 HB6 HT6 HT5 HB5
  go_upto_region 5 with (first | (go_at_call 41; refine book0_calls.mono ?_; rintro e w8 ⟨h8, rfl, hbi8, hb8⟩; have HBI8 := Lib.hid hbi8; have HB8 := Lib.hid (below_step HB7.out hb8); have HT8 := Lib.hid (blk_below HT7.out hb8); clear hbi8 hb8) | (go_at_call 34; refine (Blame_calls (HG.out.below HB8.out) HBI8.out (sane_book _) 1).mono ?_; rw [blameL_book0, blameE_book0]; rintro e w9 ⟨⟨A9, c9, rfl, hl9, hr9⟩, hb9⟩; have HB9 := Lib.hid (below_step HB8.out hb9); have HT9 := Lib.hid (blk_below HT8.out hb9); have HR9 := Lib.hid hr9; have HL9 := Lib.hid hl9; clear hb9 hr9 hl9))
  clear HBI8 HB8 HT8 HT7 HB7
  go_upto_region 6 with (first | (go_at_call 41; refine book0_calls.mono ?_; rintro e wA ⟨hA, rfl, hbiA, hbA⟩; have HBIA := Lib.hid hbiA; have HBA := Lib.hid (below_step HB9.out hbA); have HTA := Lib.hid (blk_below HT9.out hbA); have HRA := Lib.hid (HR9.out.below hbA); clear hbiA hbA) | (go_at_call 37; refine (Less_calls (HG.out.below HBA.out) HBIA.out (sane_book _) 2).mono ?_; rw [lessR_book0]; rintro e wB ⟨rfl, hbB⟩; have HBB := Lib.hid (below_step HBA.out hbB); have HTB := Lib.hid (blk_below HTA.out hbB); have HRB := Lib.hid (HRA.out.below hbB); clear hbB))
  clear HBIA HBA HTA HRA HT9 HB9 HR9
  rename_i K hK
  refine draw_inv2 mixed (by kernel_rfl) (fun bb a wq => ∃ gS : Nat, a = ⟨#[.bool false, .pointer (some ⟨g1, 0, none⟩), .int .i64 0, .int .i64 1, .int .i64 0, .bool true, .int .i64 0, .slice A9 2 c9, .int .i64 0, .int .i64 1, .int .i64 0, undef, undef, undef, undef, undef, .tuple #[.agg #[.int .i64 21, .int .i64 54], .int .i64 0], .agg (h1.cells (bookB [])), .tuple #[.agg #[.int .i64 21, .int .i64 54], .int .i64 0], .agg #[.int .i64 21, .int .i64 54], .int .i64 0, .tuple #[.int .i64 1, .int .i64 0], .agg (h4.cells (bookB [])), .tuple #[.int .i64 1, .int .i64 0], .int .i64 1, .int .i64 0, .tuple #[.bool true, .int .i64 0], .agg (h6.cells plainB), .tuple #[.bool true, .int .i64 0], .bool true, .int .i64 0, .tuple #[.slice A9 2 c9, .int .i64 0], .agg (h8.cells (bookB [])), .tuple #[.slice A9 2 c9, .int .i64 0], .slice A9 2 c9, .int .i64 0, .tuple #[.int .i64 1, .int .i64 0], .agg (hA.cells (bookB [])), .tuple #[.int .i64 1, .int .i64 0], .int .i64 1, .int .i64 0, (if bb 0 then .int .i64 0 else undef), (if bb 1 then .bool false else undef), (if bb 2 then .bool false else undef), (if bb 3 then .int .i64 0 else undef), (if bb 4 then .bool false else undef), (if bb 5 then .bool false else undef), (if bb 6 then .bool false else undef), (if bb 7 then .int .i64 0 else undef), (if bb 8 then .bool false else undef), (if bb 9 then .bool false else undef), (if bb 10 then .bool false else undef), (if bb 11 then .int .i64 0 else undef), (if bb 12 then .bool false else undef), (if bb 13 then .bool false else undef), (if bb 14 then .bool false else undef), (if bb 15 then .int .i64 0 else undef), (if bb 16 then .bool false else undef), (if bb 17 then .bool false else undef), (if bb 18 then .bool false else undef), (if bb 19 then .agg #[.int .i64 21, .int .i64 54] else undef), (if bb 20 then .agg #[.int .i64 21, .int .i64 54] else undef), (if bb 21 then .bool false else undef), (if bb 22 then .bool false else undef), (if bb 23 then .bool false else undef), (if bb 24 then .int .i64 1 else undef), (if bb 25 then .bool false else undef), (if bb 26 then .bool false else undef), (if bb 27 then .bool false else undef), (if bb 28 then .bool true else undef), (if bb 29 then .bool false else undef), (if bb 30 then .bool false else undef), (if bb 31 then .bool false else undef), (if bb 32 then .slice A9 2 c9 else undef), (if bb 33 then .slice (some ⟨gS, 0, none⟩) 2 2 else undef), (if bb 34 then .bool true else undef), (if bb 35 then .bool false else undef), (if bb 36 then .bool false else undef), (if bb 37 then .bool false else undef), (if bb 38 then .int .i64 1 else undef), (if bb 39 then .bool false else undef), (if bb 40 then .bool false else undef), undef, undef, undef, undef, undef, undef, undef, undef, undef, undef, undef, undef, undef, undef, undef, undef, undef, undef, undef, undef, undef, undef, undef, undef, undef, undef, undef, undef, undef, undef, undef, undef, undef, undef, undef, undef, undef, undef, undef, undef, undef, undef, undef, undef, undef, undef, undef, undef, undef, undef, undef, undef, undef, undef, undef, undef, undef, undef, undef, undef, undef, undef, undef, undef, undef, undef, undef], []⟩ ∧ RSt wB g1 A9 gS wq (bb 33)) ?_ ?_ ?_
  · exact ⟨0, by simp, by simpa using (RSt.on ⟨Below.refl _ _, HTB.out, HRB.out, by simp⟩ (Below.refl _ _).drew : RSt wB g1 A9 0 wB.drew false)⟩
  · intro i hi bb a wq hI hbi hcame
    obtain ⟨gS, rfl, hst⟩ := hI
    rcases i with _ | _ | _ | _ | _ | _ | _ | _ | _ | _ | _ | _ | _ | _ | _ | _ | _ | _ | _ | _ | _ | _ | _ | _ | _ | _ | _ | _ | _ | _ | _ | _ | _ | _ | _ | _ | _ | _ | _ | _ | _ | i
    · refine op_value rfl rfl (x_assign (.inr rfl)) ⟨gS, by simp [Act.put, Act.eval, upd], ?_⟩
      simpa [upd] using hst
    · have hh := hcame
      simp [Came, Region.binds] at hh
      refine op_value rfl rfl (x_ne33 (x := .tmp 41) (y := .const (.int .i64 0)) (i := 0) (j := 0) rfl (by simp [Act.eval, hh]) rfl) ⟨gS, by simp [Act.put, Act.eval, upd, hh], ?_⟩
      simpa [upd] using hst
    · have hh := hcame
      simp [Came, Region.binds] at hh
      refine op_value rfl rfl (x_assign (.inr rfl)) ⟨gS, by simp [Act.put, Act.eval, upd, hh], ?_⟩
      simpa [upd] using hst
    · have hh := hcame
      simp [Came, Region.binds] at hh
      refine op_value rfl (wanted_of (j := 2) rfl rfl rfl (by simp [hh])) (x_assign (.inr rfl)) ⟨gS, by simp [Act.put, Act.eval, upd, hh], ?_⟩
      simpa [upd] using hst
    · have hh := hcame
      simp [Came, Region.binds] at hh
      refine op_value rfl (wanted_of (j := 2) rfl rfl rfl (by simp [hh])) (x_ne33 (x := .tmp 44) (y := .const (.int .i64 0)) (i := 0) (j := 0) rfl (by simp [Act.eval, hh]) rfl) ⟨gS, by simp [Act.put, Act.eval, upd, hh], ?_⟩
      simpa [upd] using hst
    · have hh := hcame
      simp [Came, Region.binds] at hh
      refine op_value rfl rfl (x_pickF (c := .tmp 43) (y := .tmp 45) (v := .bool false) rfl (by simp [Act.eval, hh]) (by simp [Act.eval, hh])) ⟨gS, by simp [Act.put, Act.eval, upd, hh], ?_⟩
      simpa [upd] using hst
    · have hh := hcame
      simp [Came, Region.binds] at hh
      refine op_value rfl rfl (x_assign (.inr rfl)) ⟨gS, by simp [Act.put, Act.eval, upd, hh], ?_⟩
      simpa [upd] using hst
    · have hh := hcame
      simp [Came, Region.binds] at hh
      refine op_value rfl (wanted_of (j := 6) rfl rfl rfl (by simp [hh])) (x_assign (.inr rfl)) ⟨gS, by simp [Act.put, Act.eval, upd, hh], ?_⟩
      simpa [upd] using hst
    · have hh := hcame
      simp [Came, Region.binds] at hh
      refine op_value rfl (wanted_of (j := 6) rfl rfl rfl (by simp [hh])) (x_ne33 (x := .tmp 48) (y := .const (.int .i64 0)) (i := 0) (j := 0) rfl (by simp [Act.eval, hh]) rfl) ⟨gS, by simp [Act.put, Act.eval, upd, hh], ?_⟩
      simpa [upd] using hst
    · have hh := hcame
      simp [Came, Region.binds] at hh
      refine op_value rfl rfl (x_pickF (c := .tmp 47) (y := .tmp 49) (v := .bool false) rfl (by simp [Act.eval, hh]) (by simp [Act.eval, hh])) ⟨gS, by simp [Act.put, Act.eval, upd, hh], ?_⟩
      simpa [upd] using hst
    · have hh := hcame
      simp [Came, Region.binds] at hh
      refine op_value rfl rfl (x_assign (.inr rfl)) ⟨gS, by simp [Act.put, Act.eval, upd, hh], ?_⟩
      simpa [upd] using hst
    · have hh := hcame
      simp [Came, Region.binds] at hh
      refine op_value rfl (wanted_of (j := 10) rfl rfl rfl (by simp [hh])) (x_assign (.inr rfl)) ⟨gS, by simp [Act.put, Act.eval, upd, hh], ?_⟩
      simpa [upd] using hst
    · have hh := hcame
      simp [Came, Region.binds] at hh
      refine op_value rfl (wanted_of (j := 10) rfl rfl rfl (by simp [hh])) (x_ne33 (x := .tmp 52) (y := .const (.int .i64 0)) (i := 0) (j := 0) rfl (by simp [Act.eval, hh]) rfl) ⟨gS, by simp [Act.put, Act.eval, upd, hh], ?_⟩
      simpa [upd] using hst
    · have hh := hcame
      simp [Came, Region.binds] at hh
      refine op_value rfl rfl (x_pickF (c := .tmp 51) (y := .tmp 53) (v := .bool false) rfl (by simp [Act.eval, hh]) (by simp [Act.eval, hh])) ⟨gS, by simp [Act.put, Act.eval, upd, hh], ?_⟩
      simpa [upd] using hst
    · have hh := hcame
      simp [Came, Region.binds] at hh
      refine op_value rfl rfl (x_assign (.inr rfl)) ⟨gS, by simp [Act.put, Act.eval, upd, hh], ?_⟩
      simpa [upd] using hst
    · have hh := hcame
      simp [Came, Region.binds] at hh
      refine op_value rfl (wanted_of (j := 14) rfl rfl rfl (by simp [hh])) (x_assign (.inr rfl)) ⟨gS, by simp [Act.put, Act.eval, upd, hh], ?_⟩
      simpa [upd] using hst
    · have hh := hcame
      simp [Came, Region.binds] at hh
      refine op_value rfl (wanted_of (j := 14) rfl rfl rfl (by simp [hh])) (x_ne33 (x := .tmp 56) (y := .const (.int .i64 0)) (i := 0) (j := 0) rfl (by simp [Act.eval, hh]) rfl) ⟨gS, by simp [Act.put, Act.eval, upd, hh], ?_⟩
      simpa [upd] using hst
    · have hh := hcame
      simp [Came, Region.binds] at hh
      refine op_value rfl rfl (x_pickF (c := .tmp 55) (y := .tmp 57) (v := .bool false) rfl (by simp [Act.eval, hh]) (by simp [Act.eval, hh])) ⟨gS, by simp [Act.put, Act.eval, upd, hh], ?_⟩
      simpa [upd] using hst
    · have hh := hcame
      simp [Came, Region.binds] at hh
      refine op_value rfl rfl (x_assign (.inr rfl)) ⟨gS, by simp [Act.put, Act.eval, upd, hh], ?_⟩
      simpa [upd] using hst
    · have hh := hcame
      simp [Came, Region.binds] at hh
      refine op_value rfl (wanted_of (j := 18) rfl rfl rfl (by simp [hh])) (x_load (g := g1) rfl rfl hst.t1 Tryd.underlying39 rfl i39) ⟨gS, by simp [Act.put, Act.eval, upd, hh], ?_⟩
      simpa [upd] using hst
    · have hh := hcame
      simp [Came, Region.binds] at hh
      refine op_call rfl (wanted_of (j := 18) rfl rfl rfl (by simp [hh])) (run_call Tryd.func27 (by kernel_rfl) rfl rfl rfl (args := #[.int .i64 21, .int .i64 54]) (by simp [Act.eval])) ((sp_calls 21 54 _).mono ?_)
      rintro e w5 ⟨rfl, hb5⟩
      refine ⟨_, rfl, gS, by simp [Act.put, upd, hh], ?_⟩
      simpa [upd] using hst.on hb5
    · have hh := hcame
      simp [Came, Region.binds] at hh
      refine op_value rfl (wanted_of (j := 18) rfl rfl rfl (by simp [hh])) (x_ne39 (x := .tmp 60) (y := .tmp 61) (i := 21) (j := 54) (i' := 21) (j' := 54) rfl (by simp [Act.eval, hh]) (by simp [Act.eval, hh])) ⟨gS, by simp [Act.put, Act.eval, upd, hh], ?_⟩
      simpa [upd] using hst
    · have hh := hcame
      simp [Came, Region.binds] at hh
      refine op_value rfl rfl (x_pickF (c := .tmp 59) (y := .tmp 62) (v := .bool false) rfl (by simp [Act.eval, hh]) (by simp [Act.eval, hh])) ⟨gS, by simp [Act.put, Act.eval, upd, hh], ?_⟩
      simpa [upd] using hst
    · have hh := hcame
      simp [Came, Region.binds] at hh
      refine op_value rfl rfl (x_assign (.inr rfl)) ⟨gS, by simp [Act.put, Act.eval, upd, hh], ?_⟩
      simpa [upd] using hst
    · have hh := hcame
      simp [Came, Region.binds] at hh
      refine op_value rfl (wanted_of (j := 23) rfl rfl rfl (by simp [hh])) (x_assign (.inr rfl)) ⟨gS, by simp [Act.put, Act.eval, upd, hh], ?_⟩
      simpa [upd] using hst
    · have hh := hcame
      simp [Came, Region.binds] at hh
      refine op_value rfl (wanted_of (j := 23) rfl rfl rfl (by simp [hh])) (x_ne3 (x := .tmp 65) (y := .const (.int .i64 1)) (i := 1) (j := 1) rfl (by simp [Act.eval, hh]) rfl) ⟨gS, by simp [Act.put, Act.eval, upd, hh], ?_⟩
      simpa [upd] using hst
    · have hh := hcame
      simp [Came, Region.binds] at hh
      refine op_value rfl rfl (x_pickF (c := .tmp 64) (y := .tmp 66) (v := .bool false) rfl (by simp [Act.eval, hh]) (by simp [Act.eval, hh])) ⟨gS, by simp [Act.put, Act.eval, upd, hh], ?_⟩
      simpa [upd] using hst
    · have hh := hcame
      simp [Came, Region.binds] at hh
      refine op_value rfl rfl (x_assign (.inr rfl)) ⟨gS, by simp [Act.put, Act.eval, upd, hh], ?_⟩
      simpa [upd] using hst
    · have hh := hcame
      simp [Came, Region.binds] at hh
      refine op_value rfl (wanted_of (j := 27) rfl rfl rfl (by simp [hh])) (x_assign (.inr rfl)) ⟨gS, by simp [Act.put, Act.eval, upd, hh], ?_⟩
      simpa [upd] using hst
    · have hh := hcame
      simp [Came, Region.binds] at hh
      refine op_value rfl (wanted_of (j := 27) rfl rfl rfl (by simp [hh])) (x_not (x := .tmp 69) (b := true) rfl (by simp [Act.eval, hh])) ⟨gS, by simp [Act.put, Act.eval, upd, hh], ?_⟩
      simpa [upd] using hst
    · have hh := hcame
      simp [Came, Region.binds] at hh
      refine op_value rfl rfl (x_pickF (c := .tmp 68) (y := .tmp 70) (v := .bool false) rfl (by simp [Act.eval, hh]) (by simp [Act.eval, hh])) ⟨gS, by simp [Act.put, Act.eval, upd, hh], ?_⟩
      simpa [upd] using hst
    · have hh := hcame
      simp [Came, Region.binds] at hh
      refine op_value rfl rfl (x_assign (.inr rfl)) ⟨gS, by simp [Act.put, Act.eval, upd, hh], ?_⟩
      simpa [upd] using hst
    · have hh := hcame
      simp [Came, Region.binds] at hh
      refine op_value rfl (wanted_of (j := 31) rfl rfl rfl (by simp [hh])) (x_assign (.inr rfl)) ⟨gS, by simp [Act.put, Act.eval, upd, hh], ?_⟩
      simpa [upd] using hst
    · have hh := hcame
      simp [Came, Region.binds] at hh
      refine op_value rfl (wanted_of (j := 31) rfl rfl rfl (by simp [hh])) (x_box32 (x := .const (.int .i64 0)) (y := .const (.int .i64 1)) (i := 0) (j := 1) rfl rfl rfl) ⟨wq.heap.size, by simp [Act.put, Act.eval, upd, hh, hbi], ?_⟩
      simpa [upd] using hst.slice
    · have hh := hcame
      simp [Came, Region.binds] at hh
      refine op_call rfl (wanted_of (j := 31) rfl rfl rfl (by simp [hh])) (run_call Tryd.func46 (by kernel_rfl) rfl rfl rfl (args := #[.slice A9 2 c9, .slice (some ⟨gS, 0, none⟩) 2 2]) (by simp [Act.eval, hh])) ((alike01 hst.bl HL9.out (hst.sl (by simp [hh]))).mono ?_)
      rintro e w5 ⟨rfl, hb5⟩
      refine ⟨_, rfl, gS, by simp [Act.put, upd, hh], ?_⟩
      simpa [upd] using hst.on hb5
    · have hh := hcame
      simp [Came, Region.binds] at hh
      refine op_value rfl (wanted_of (j := 31) rfl rfl rfl (by simp [hh])) (x_not (x := .tmp 75) (b := true) rfl (by simp [Act.eval, hh])) ⟨gS, by simp [Act.put, Act.eval, upd, hh], ?_⟩
      simpa [upd] using hst
    · have hh := hcame
      simp [Came, Region.binds] at hh
      refine op_value rfl rfl (x_pickF (c := .tmp 72) (y := .tmp 76) (v := .bool false) rfl (by simp [Act.eval, hh]) (by simp [Act.eval, hh])) ⟨gS, by simp [Act.put, Act.eval, upd, hh], ?_⟩
      simpa [upd] using hst
    · have hh := hcame
      simp [Came, Region.binds] at hh
      refine op_value rfl rfl (x_assign (.inr rfl)) ⟨gS, by simp [Act.put, Act.eval, upd, hh], ?_⟩
      simpa [upd] using hst
    · have hh := hcame
      simp [Came, Region.binds] at hh
      refine op_value rfl (wanted_of (j := 37) rfl rfl rfl (by simp [hh])) (x_assign (.inr rfl)) ⟨gS, by simp [Act.put, Act.eval, upd, hh], ?_⟩
      simpa [upd] using hst
    · have hh := hcame
      simp [Came, Region.binds] at hh
      refine op_value rfl (wanted_of (j := 37) rfl rfl rfl (by simp [hh])) (x_ne3 (x := .tmp 79) (y := .const (.int .i64 1)) (i := 1) (j := 1) rfl (by simp [Act.eval, hh]) rfl) ⟨gS, by simp [Act.put, Act.eval, upd, hh], ?_⟩
      simpa [upd] using hst
    · have hh := hcame
      simp [Came, Region.binds] at hh
      refine op_value rfl rfl (x_pickF (c := .tmp 78) (y := .tmp 80) (v := .bool false) rfl (by simp [Act.eval, hh]) (by simp [Act.eval, hh])) ⟨gS, by simp [Act.put, Act.eval, upd, hh], ?_⟩
      simpa [upd] using hst
    · simp at hi; omega
  · intro bb a wf hI hall
    obtain ⟨gS, rfl, hst⟩ := hI
    refine hK _ _ ?_
    simp only [hall 0 (by simp), hall 1 (by simp), hall 2 (by simp), hall 3 (by simp), hall 4 (by simp), hall 5 (by simp), hall 6 (by simp), hall 7 (by simp), hall 8 (by simp), hall 9 (by simp), hall 10 (by simp), hall 11 (by simp), hall 12 (by simp), hall 13 (by simp), hall 14 (by simp), hall 15 (by simp), hall 16 (by simp), hall 17 (by simp), hall 18 (by simp), hall 19 (by simp), hall 20 (by simp), hall 21 (by simp), hall 22 (by simp), hall 23 (by simp), hall 24 (by simp), hall 25 (by simp), hall 26 (by simp), hall 27 (by simp), hall 28 (by simp), hall 29 (by simp), hall 30 (by simp), hall 31 (by simp), hall 32 (by simp), hall 33 (by simp), hall 34 (by simp), hall 35 (by simp), hall 36 (by simp), hall 37 (by simp), hall 38 (by simp), hall 39 (by simp), hall 40 (by simp), if_true]
    clear hall hK
    have HBC := Lib.hid (below_step HBB.out (show Below wB.heap.size wB wf from hst.below))
    clear hst HTB HRB
    obtain ⟨gR, hgR⟩ : ∃ gR, gR = gS := ⟨_, rfl⟩
    subst hgR
    go_upto_region 9 with (first | (go_at_call 45; refine plain_calls.mono ?_; rintro e wC ⟨hC, rfl, hbiC, hbC⟩; have HBIC := Lib.hid hbiC; have HBD := Lib.hid (below_step HBC.out hbC); clear hbiC hbC) | (go_at_call 42; refine (Damper_calls (HG.out.below HBD.out) HBIC.out sane_plain).mono ?_; rw [damper_plain]; rintro e wD ⟨rfl, hbD⟩; simp only [s39]; have HBE := Lib.hid (below_step HBD.out hbD); clear hbD))
    obtain ⟨g11, hg11⟩ : ∃ g11, g11 = wD.heap.size := ⟨_, rfl⟩
    have h11 : (wD.alloc (.cells #[.int .i64 0, .int .i64 6] 39)).heap[g11]? = some (.cells #[.int .i64 0, .int .i64 6] 39 (0, 0)) := new_at hg11
    have hbE : Below w.heap.size w (wD.alloc (.cells #[.int .i64 0, .int .i64 6] 39)) := HBE.out.alloc HBE.out.size _
    rw [← hg11]
    generalize wD.alloc (.cells #[.int .i64 0, .int .i64 6] 39) = wE at h11 hbE ⊢
    have HTE := Lib.hid h11
    have HBF := Lib.hid hbE
    clear h11 hbE hg11 HBIC HBD HBE HBC
    go_upto_region 10 with (first | (go_at_call 30; refine (lit_calls 1 _).mono ?_; rintro e wF ⟨rfl, hbF⟩; have HBG := Lib.hid (below_step HBF.out hbF); have HTF := Lib.hid (blk_below HTE.out hbF); clear hbF) | (go_at_call 41; refine (book_of_calls (w0 := wF) (ts := [⟨1, true⟩]) (below_alloc (Below.refl _ _) _) (R_lit59 wF ⟨1, true⟩)).mono ?_; rintro e wG ⟨hGG, rfl, hbiG, hbG⟩; have HBIG := Lib.hid hbiG; have HBH := Lib.hid (below_step HBG.out hbG); have HTG := Lib.hid (blk_below HTF.out hbG); clear hbiG hbG) | (go_at_call 17; refine (Power_calls HBIG.out (sane_book _)).mono ?_; rintro e wH ⟨rfl, hbH⟩; rw [kR_book1, ask_book1]; simp only [s39]; have HBI := Lib.hid (below_step HBH.out hbH); have HTH := Lib.hid (blk_below HTG.out hbH); clear hbH))
    obtain ⟨g12, hg12⟩ : ∃ g12, g12 = wH.heap.size := ⟨_, rfl⟩
    have h12 : (wH.alloc (.cells #[.int .i64 46, .int .i64 54] 39)).heap[g12]? = some (.cells #[.int .i64 46, .int .i64 54] 39 (0, 0)) := new_at hg12
    have h112 := blk_alloc HTH.out (.cells #[.int .i64 46, .int .i64 54] 39)
    have hbI : Below w.heap.size w (wH.alloc (.cells #[.int .i64 46, .int .i64 54] 39)) := HBI.out.alloc HBI.out.size _
    rw [← hg12]
    generalize wH.alloc (.cells #[.int .i64 46, .int .i64 54] 39) = wI at h12 h112 hbI ⊢
    have HU1 := Lib.hid h112
    have HU2 := Lib.hid h12
    have HBJ := Lib.hid hbI
    clear h12 h112 hbI hg12 HBIG HTE HTF HTG HTH HBF HBG HBH HBI
    go_upto_region 11 with (first | (go_at_call 44; refine torn_calls.mono ?_; rintro e wJ ⟨hJ, rfl, hbiJ, hbJ⟩; have HBIJ := Lib.hid hbiJ; have HBK := Lib.hid (below_step HBJ.out hbJ); have HV1 := Lib.hid (blk_below HU1.out hbJ); have HV2 := Lib.hid (blk_below HU2.out hbJ); clear hbiJ hbJ) | (go_at_call 16; refine (Wrong_calls HBIJ.out (sane_book _)).mono ?_; rw [wrongL_torn, wrongE_torn]; rintro e wK ⟨⟨AK, cK, rfl, hlK, hrK⟩, hbK⟩; have HLK := Lib.hid hlK; have HRK := Lib.hid hrK; have HBL := Lib.hid (below_step HBK.out hbK); have HW1 := Lib.hid (blk_below HV1.out hbK); have HW2 := Lib.hid (blk_below HV2.out hbK); clear hbK hlK hrK))
    clear HBIJ HU1 HU2 HV1 HV2 HBJ HBK
    go_upto_region 12 with (first | (go_at_call 41; refine book0_calls.mono ?_; rintro e wL ⟨hL, rfl, hbiL, hbL⟩; have HBIL := Lib.hid hbiL; have HBM := Lib.hid (below_step HBL.out hbL); have HX1 := Lib.hid (blk_below HW1.out hbL); have HX2 := Lib.hid (blk_below HW2.out hbL); have HRL := Lib.hid (Kd.C_below HRK.out hbL); clear hbiL hbL) | (go_at_call 39; refine (Next_calls HBIL.out (sane_book _)).mono ?_; rw [next_book0]; rintro e wM ⟨rfl, hbM⟩; have HBN := Lib.hid (below_step HBM.out hbM); have HY1 := Lib.hid (blk_below HX1.out hbM); have HY2 := Lib.hid (blk_below HX2.out hbM); have HRM := Lib.hid (Kd.C_below HRL.out hbM); clear hbM))
    clear HBIL HW1 HW2 HX1 HX2 HRK HRL HBL HBM
    go_upto_region 13 with (first | (go_at_call 41; refine book0_calls.mono ?_; rintro e wN ⟨hN, rfl, hbiN, hbN⟩; have HBIN := Lib.hid hbiN; have HBO := Lib.hid (below_step HBN.out hbN); have HZ1 := Lib.hid (blk_below HY1.out hbN); have HZ2 := Lib.hid (blk_below HY2.out hbN); have HRN := Lib.hid (Kd.C_below HRM.out hbN); clear hbiN hbN) | (go_at_call 15; refine (Right_calls HBIN.out (sane_book _)).mono ?_; rw [ask_book0, eRight_book0]; rintro e wO ⟨rfl, hbO⟩; have HBP := Lib.hid (below_step HBO.out hbO); have HA1 := Lib.hid (blk_below HZ1.out hbO); have HA2 := Lib.hid (blk_below HZ2.out hbO); have HRO := Lib.hid (Kd.C_below HRN.out hbO); clear hbO))
    clear HBIN HY1 HY2 HZ1 HZ2 HRM HRN HBN HBO
    rename_i K hK
    refine draw_inv2 mixed (by kernel_rfl) (fun bb a wq => ∃ gS : Nat, a = ⟨#[(if bb 40 then .bool true else .bool false), .pointer (some ⟨g1, 0, none⟩), .int .i64 0, .int .i64 1, .int .i64 0, .bool true, .int .i64 0, .slice A9 2 c9, .int .i64 0, .int .i64 1, .int .i64 0, .pointer (some ⟨g11, 0, none⟩), .pointer (some ⟨g12, 0, none⟩), .slice AK 1 cK, .int .i64 2, .bool true, .tuple #[.agg #[.int .i64 21, .int .i64 54], .int .i64 0], .agg (h1.cells (bookB [])), .tuple #[.agg #[.int .i64 21, .int .i64 54], .int .i64 0], .agg #[.int .i64 21, .int .i64 54], .int .i64 0, .tuple #[.int .i64 1, .int .i64 0], .agg (h4.cells (bookB [])), .tuple #[.int .i64 1, .int .i64 0], .int .i64 1, .int .i64 0, .tuple #[.bool true, .int .i64 0], .agg (h6.cells plainB), .tuple #[.bool true, .int .i64 0], .bool true, .int .i64 0, .tuple #[.slice A9 2 c9, .int .i64 0], .agg (h8.cells (bookB [])), .tuple #[.slice A9 2 c9, .int .i64 0], .slice A9 2 c9, .int .i64 0, .tuple #[.int .i64 1, .int .i64 0], .agg (hA.cells (bookB [])), .tuple #[.int .i64 1, .int .i64 0], .int .i64 1, .int .i64 0, .int .i64 0, .bool false, .bool false, .int .i64 0, .bool false, .bool false, .bool false, .int .i64 0, .bool false, .bool false, .bool false, .int .i64 0, .bool false, .bool false, .bool false, .int .i64 0, .bool false, .bool false, .bool false, .agg #[.int .i64 21, .int .i64 54], .agg #[.int .i64 21, .int .i64 54], .bool false, .bool false, .bool false, .int .i64 1, .bool false, .bool false, .bool false, .bool true, .bool false, .bool false, .bool false, .slice A9 2 c9, .slice (some ⟨gR, 0, none⟩) 2 2, .bool true, .bool false, .bool false, .bool false, .int .i64 1, .bool false, .bool false, .tuple #[.agg #[.int .i64 0, .int .i64 6], .int .i64 0], .agg (hC.cells plainB), .tuple #[.agg #[.int .i64 0, .int .i64 6], .int .i64 0], .agg #[.int .i64 0, .int .i64 6], .int .i64 0, .tuple #[.agg #[.int .i64 46, .int .i64 54], .int .i64 0], .agg #[.int .i64 1, .bool true], .slice (some { block := wF.heap.size, off := 0 }) 1 1, .agg (hGG.cells (bookB [{ f0 := 1, f1 := true }])), .tuple #[.agg #[.int .i64 46, .int .i64 54], .int .i64 0], .agg #[.int .i64 46, .int .i64 54], .int .i64 0, .tuple #[.slice AK 1 cK, .int .i64 0], .agg (hJ.cells (bookB tornT)), .tuple #[.slice AK 1 cK, .int .i64 0], .slice AK 1 cK, .int .i64 0, .tuple #[.int .i64 2, .int .i64 0], .agg (hL.cells (bookB [])), .tuple #[.int .i64 2, .int .i64 0], .int .i64 2, .int .i64 0, .tuple #[.bool true, .int .i64 0], .agg (hN.cells (bookB [])), .tuple #[.bool true, .int .i64 0], .bool true, .int .i64 0, (if bb 0 then .int .i64 0 else undef), (if bb 1 then .bool true else undef), (if bb 2 then .bool true else undef), (if bb 3 then .int .i64 0 else undef), (if bb 4 then .bool true else undef), (if bb 5 then .bool true else undef), (if bb 6 then .bool true else undef), (if bb 7 then .int .i64 0 else undef), (if bb 8 then .bool true else undef), (if bb 9 then .bool true else undef), (if bb 10 then .bool true else undef), (if bb 11 then .int .i64 0 else undef), (if bb 12 then .bool true else undef), (if bb 13 then .bool true else undef), (if bb 14 then .bool true else undef), (if bb 15 then .int .i64 0 else undef), (if bb 16 then .bool true else undef), (if bb 17 then .bool true else undef), (if bb 18 then .bool true else undef), (if bb 19 then .agg #[.int .i64 0, .int .i64 6] else undef), (if bb 20 then .agg #[.int .i64 0, .int .i64 6] else undef), (if bb 21 then .bool true else undef), (if bb 22 then .bool true else undef), (if bb 23 then .bool true else undef), (if bb 24 then .agg #[.int .i64 46, .int .i64 54] else undef), (if bb 25 then .agg #[.int .i64 46, .int .i64 54] else undef), (if bb 26 then .bool true else undef), (if bb 27 then .bool true else undef), (if bb 28 then .bool true else undef), (if bb 29 then .slice AK 1 cK else undef), (if bb 30 then .slice (some ⟨gS, 0, none⟩) 1 1 else undef), (if bb 31 then .bool true else undef), (if bb 32 then .bool true else undef), (if bb 33 then .bool true else undef), (if bb 34 then .int .i64 2 else undef), (if bb 35 then .bool true else undef), (if bb 36 then .bool true else undef), (if bb 37 then .bool true else undef), (if bb 38 then .bool true else undef), (if bb 39 then .bool true else undef)], []⟩ ∧ RSu wO g11 g12 AK gS wq (bb 30)) ?_ ?_ ?_
    · exact ⟨0, by simp, by simpa using (RSu.on ⟨Below.refl _ _, HA1.out, HA2.out, HRO.out, by simp⟩ (Below.refl _ _).drew : RSu wO g11 g12 AK 0 wO.drew false)⟩
    · intro i hi bb a wq hI hbi hcame
      obtain ⟨gS, rfl, hst⟩ := hI
      rcases i with _ | _ | _ | _ | _ | _ | _ | _ | _ | _ | _ | _ | _ | _ | _ | _ | _ | _ | _ | _ | _ | _ | _ | _ | _ | _ | _ | _ | _ | _ | _ | _ | _ | _ | _ | _ | _ | _ | _ | _ | _ | i
      · refine op_value rfl rfl (x_assign (.inr rfl)) ⟨gS, by simp [Act.put, Act.eval, upd], ?_⟩
        simpa [upd] using hst
      · have hh := hcame
        simp [Came, Region.binds] at hh
        refine op_value rfl rfl (x_eq33 (x := .tmp 109) (y := .const (.int .i64 0)) (i := 0) (j := 0) rfl (by simp [Act.eval, hh]) rfl) ⟨gS, by simp [Act.put, Act.eval, upd, hh], ?_⟩
        simpa [upd] using hst
      · have hh := hcame
        simp [Came, Region.binds] at hh
        refine op_value rfl rfl (x_assign (.inr rfl)) ⟨gS, by simp [Act.put, Act.eval, upd, hh], ?_⟩
        simpa [upd] using hst
      · have hh := hcame
        simp [Came, Region.binds] at hh
        refine op_value rfl (wanted_of (j := 2) rfl rfl rfl (by simp [hh])) (x_assign (.inr rfl)) ⟨gS, by simp [Act.put, Act.eval, upd, hh], ?_⟩
        simpa [upd] using hst
      · have hh := hcame
        simp [Came, Region.binds] at hh
        refine op_value rfl (wanted_of (j := 2) rfl rfl rfl (by simp [hh])) (x_eq33 (x := .tmp 112) (y := .const (.int .i64 0)) (i := 0) (j := 0) rfl (by simp [Act.eval, hh]) rfl) ⟨gS, by simp [Act.put, Act.eval, upd, hh], ?_⟩
        simpa [upd] using hst
      · have hh := hcame
        simp [Came, Region.binds] at hh
        refine op_value rfl rfl (x_pickT (c := .tmp 111) (x := .tmp 113) (v := .bool true) rfl (by simp [Act.eval, hh]) (by simp [Act.eval, hh])) ⟨gS, by simp [Act.put, Act.eval, upd, hh], ?_⟩
        simpa [upd] using hst
      · have hh := hcame
        simp [Came, Region.binds] at hh
        refine op_value rfl rfl (x_assign (.inr rfl)) ⟨gS, by simp [Act.put, Act.eval, upd, hh], ?_⟩
        simpa [upd] using hst
      · have hh := hcame
        simp [Came, Region.binds] at hh
        refine op_value rfl (wanted_of (j := 6) rfl rfl rfl (by simp [hh])) (x_assign (.inr rfl)) ⟨gS, by simp [Act.put, Act.eval, upd, hh], ?_⟩
        simpa [upd] using hst
      · have hh := hcame
        simp [Came, Region.binds] at hh
        refine op_value rfl (wanted_of (j := 6) rfl rfl rfl (by simp [hh])) (x_eq33 (x := .tmp 116) (y := .const (.int .i64 0)) (i := 0) (j := 0) rfl (by simp [Act.eval, hh]) rfl) ⟨gS, by simp [Act.put, Act.eval, upd, hh], ?_⟩
        simpa [upd] using hst
      · have hh := hcame
        simp [Came, Region.binds] at hh
        refine op_value rfl rfl (x_pickT (c := .tmp 115) (x := .tmp 117) (v := .bool true) rfl (by simp [Act.eval, hh]) (by simp [Act.eval, hh])) ⟨gS, by simp [Act.put, Act.eval, upd, hh], ?_⟩
        simpa [upd] using hst
      · have hh := hcame
        simp [Came, Region.binds] at hh
        refine op_value rfl rfl (x_assign (.inr rfl)) ⟨gS, by simp [Act.put, Act.eval, upd, hh], ?_⟩
        simpa [upd] using hst
      · have hh := hcame
        simp [Came, Region.binds] at hh
        refine op_value rfl (wanted_of (j := 10) rfl rfl rfl (by simp [hh])) (x_assign (.inr rfl)) ⟨gS, by simp [Act.put, Act.eval, upd, hh], ?_⟩
        simpa [upd] using hst
      · have hh := hcame
        simp [Came, Region.binds] at hh
        refine op_value rfl (wanted_of (j := 10) rfl rfl rfl (by simp [hh])) (x_eq33 (x := .tmp 120) (y := .const (.int .i64 0)) (i := 0) (j := 0) rfl (by simp [Act.eval, hh]) rfl) ⟨gS, by simp [Act.put, Act.eval, upd, hh], ?_⟩
        simpa [upd] using hst
      · have hh := hcame
        simp [Came, Region.binds] at hh
        refine op_value rfl rfl (x_pickT (c := .tmp 119) (x := .tmp 121) (v := .bool true) rfl (by simp [Act.eval, hh]) (by simp [Act.eval, hh])) ⟨gS, by simp [Act.put, Act.eval, upd, hh], ?_⟩
        simpa [upd] using hst
      · have hh := hcame
        simp [Came, Region.binds] at hh
        refine op_value rfl rfl (x_assign (.inr rfl)) ⟨gS, by simp [Act.put, Act.eval, upd, hh], ?_⟩
        simpa [upd] using hst
      · have hh := hcame
        simp [Came, Region.binds] at hh
        refine op_value rfl (wanted_of (j := 14) rfl rfl rfl (by simp [hh])) (x_assign (.inr rfl)) ⟨gS, by simp [Act.put, Act.eval, upd, hh], ?_⟩
        simpa [upd] using hst
      · have hh := hcame
        simp [Came, Region.binds] at hh
        refine op_value rfl (wanted_of (j := 14) rfl rfl rfl (by simp [hh])) (x_eq33 (x := .tmp 124) (y := .const (.int .i64 0)) (i := 0) (j := 0) rfl (by simp [Act.eval, hh]) rfl) ⟨gS, by simp [Act.put, Act.eval, upd, hh], ?_⟩
        simpa [upd] using hst
      · have hh := hcame
        simp [Came, Region.binds] at hh
        refine op_value rfl rfl (x_pickT (c := .tmp 123) (x := .tmp 125) (v := .bool true) rfl (by simp [Act.eval, hh]) (by simp [Act.eval, hh])) ⟨gS, by simp [Act.put, Act.eval, upd, hh], ?_⟩
        simpa [upd] using hst
      · have hh := hcame
        simp [Came, Region.binds] at hh
        refine op_value rfl rfl (x_assign (.inr rfl)) ⟨gS, by simp [Act.put, Act.eval, upd, hh], ?_⟩
        simpa [upd] using hst
      · have hh := hcame
        simp [Came, Region.binds] at hh
        refine op_value rfl (wanted_of (j := 18) rfl rfl rfl (by simp [hh])) (x_load (g := g11) rfl rfl hst.t11 Tryd.underlying39 rfl i39) ⟨gS, by simp [Act.put, Act.eval, upd, hh], ?_⟩
        simpa [upd] using hst
      · have hh := hcame
        simp [Came, Region.binds] at hh
        refine op_call rfl (wanted_of (j := 18) rfl rfl rfl (by simp [hh])) (run_call Tryd.func27 (by kernel_rfl) rfl rfl rfl (args := #[.int .i64 0, .int .i64 6]) (by simp [Act.eval])) ((sp_calls 0 6 _).mono ?_)
        rintro e w5 ⟨rfl, hb5⟩
        refine ⟨_, rfl, gS, by simp [Act.put, upd, hh], ?_⟩
        simpa [upd] using hst.on hb5
      · have hh := hcame
        simp [Came, Region.binds] at hh
        refine op_value rfl (wanted_of (j := 18) rfl rfl rfl (by simp [hh])) (x_eq39 (x := .tmp 128) (y := .tmp 129) (i := 0) (j := 6) (i' := 0) (j' := 6) rfl (by simp [Act.eval, hh]) (by simp [Act.eval, hh])) ⟨gS, by simp [Act.put, Act.eval, upd, hh], ?_⟩
        simpa [upd] using hst
      · have hh := hcame
        simp [Came, Region.binds] at hh
        refine op_value rfl rfl (x_pickT (c := .tmp 127) (x := .tmp 130) (v := .bool true) rfl (by simp [Act.eval, hh]) (by simp [Act.eval, hh])) ⟨gS, by simp [Act.put, Act.eval, upd, hh], ?_⟩
        simpa [upd] using hst
      · have hh := hcame
        simp [Came, Region.binds] at hh
        refine op_value rfl rfl (x_assign (.inr rfl)) ⟨gS, by simp [Act.put, Act.eval, upd, hh], ?_⟩
        simpa [upd] using hst
      · have hh := hcame
        simp [Came, Region.binds] at hh
        refine op_value rfl (wanted_of (j := 23) rfl rfl rfl (by simp [hh])) (x_load (g := g12) rfl rfl hst.t12 Tryd.underlying39 rfl i39) ⟨gS, by simp [Act.put, Act.eval, upd, hh], ?_⟩
        simpa [upd] using hst
      · have hh := hcame
        simp [Came, Region.binds] at hh
        refine op_call rfl (wanted_of (j := 23) rfl rfl rfl (by simp [hh])) (run_call Tryd.func27 (by kernel_rfl) rfl rfl rfl (args := #[.int .i64 46, .int .i64 54]) (by simp [Act.eval])) ((sp_calls 46 54 _).mono ?_)
        rintro e w5 ⟨rfl, hb5⟩
        refine ⟨_, rfl, gS, by simp [Act.put, upd, hh], ?_⟩
        simpa [upd] using hst.on hb5
      · have hh := hcame
        simp [Came, Region.binds] at hh
        refine op_value rfl (wanted_of (j := 23) rfl rfl rfl (by simp [hh])) (x_eq39 (x := .tmp 133) (y := .tmp 134) (i := 46) (j := 54) (i' := 46) (j' := 54) rfl (by simp [Act.eval, hh]) (by simp [Act.eval, hh])) ⟨gS, by simp [Act.put, Act.eval, upd, hh], ?_⟩
        simpa [upd] using hst
      · have hh := hcame
        simp [Came, Region.binds] at hh
        refine op_value rfl rfl (x_pickT (c := .tmp 132) (x := .tmp 135) (v := .bool true) rfl (by simp [Act.eval, hh]) (by simp [Act.eval, hh])) ⟨gS, by simp [Act.put, Act.eval, upd, hh], ?_⟩
        simpa [upd] using hst
      · have hh := hcame
        simp [Came, Region.binds] at hh
        refine op_value rfl rfl (x_assign (.inr rfl)) ⟨gS, by simp [Act.put, Act.eval, upd, hh], ?_⟩
        simpa [upd] using hst
      · have hh := hcame
        simp [Came, Region.binds] at hh
        refine op_value rfl (wanted_of (j := 28) rfl rfl rfl (by simp [hh])) (x_assign (.inr rfl)) ⟨gS, by simp [Act.put, Act.eval, upd, hh], ?_⟩
        simpa [upd] using hst
      · have hh := hcame
        simp [Came, Region.binds] at hh
        refine op_value rfl (wanted_of (j := 28) rfl rfl rfl (by simp [hh])) (x_box3 (x := .const (.int .i64 0)) (y := 0) rfl rfl) ⟨wq.heap.size, by simp [Act.put, Act.eval, upd, hh, hbi], ?_⟩
        simpa [upd] using hst.slice
      · have hh := hcame
        simp [Came, Region.binds] at hh
        refine op_call rfl (wanted_of (j := 28) rfl rfl rfl (by simp [hh])) (run_call Tryd.func46 (by kernel_rfl) rfl rfl rfl (args := #[.slice AK 1 cK, .slice (some ⟨gS, 0, none⟩) 1 1]) (by simp [Act.eval, hh])) ((alike0 hst.bl HLK.out (hst.sl (by simp [hh]))).mono ?_)
        rintro e w5 ⟨rfl, hb5⟩
        refine ⟨_, rfl, gS, by simp [Act.put, upd, hh], ?_⟩
        simpa [upd] using hst.on hb5
      · have hh := hcame
        simp [Came, Region.binds] at hh
        refine op_value rfl rfl (x_pickT (c := .tmp 137) (x := .tmp 140) (v := .bool true) rfl (by simp [Act.eval, hh]) (by simp [Act.eval, hh])) ⟨gS, by simp [Act.put, Act.eval, upd, hh], ?_⟩
        simpa [upd] using hst
      · have hh := hcame
        simp [Came, Region.binds] at hh
        refine op_value rfl rfl (x_assign (.inr rfl)) ⟨gS, by simp [Act.put, Act.eval, upd, hh], ?_⟩
        simpa [upd] using hst
      · have hh := hcame
        simp [Came, Region.binds] at hh
        refine op_value rfl (wanted_of (j := 33) rfl rfl rfl (by simp [hh])) (x_assign (.inr rfl)) ⟨gS, by simp [Act.put, Act.eval, upd, hh], ?_⟩
        simpa [upd] using hst
      · have hh := hcame
        simp [Came, Region.binds] at hh
        refine op_value rfl (wanted_of (j := 33) rfl rfl rfl (by simp [hh])) (x_eq3 (x := .tmp 143) (y := .const (.int .i64 2)) (i := 2) (j := 2) rfl (by simp [Act.eval, hh]) rfl) ⟨gS, by simp [Act.put, Act.eval, upd, hh], ?_⟩
        simpa [upd] using hst
      · have hh := hcame
        simp [Came, Region.binds] at hh
        refine op_value rfl rfl (x_pickT (c := .tmp 142) (x := .tmp 144) (v := .bool true) rfl (by simp [Act.eval, hh]) (by simp [Act.eval, hh])) ⟨gS, by simp [Act.put, Act.eval, upd, hh], ?_⟩
        simpa [upd] using hst
      · have hh := hcame
        simp [Came, Region.binds] at hh
        refine op_value rfl rfl (x_assign (.inr rfl)) ⟨gS, by simp [Act.put, Act.eval, upd, hh], ?_⟩
        simpa [upd] using hst
      · have hh := hcame
        simp [Came, Region.binds] at hh
        refine op_value rfl (wanted_of (j := 37) rfl rfl rfl (by simp [hh])) (x_assign (.inr rfl)) ⟨gS, by simp [Act.put, Act.eval, upd, hh], ?_⟩
        simpa [upd] using hst
      · have hh := hcame
        simp [Came, Region.binds] at hh
        refine op_value rfl rfl (x_pickT (c := .tmp 146) (x := .tmp 147) (v := .bool true) rfl (by simp [Act.eval, hh]) (by simp [Act.eval, hh])) ⟨gS, by simp [Act.put, Act.eval, upd, hh], ?_⟩
        simpa [upd] using hst
      · have hh := hcame
        simp [Came, Region.binds] at hh
        refine op_value rfl rfl (x_assign (.inl rfl)) ⟨gS, by simp [Act.put, Act.eval, upd, hh], ?_⟩
        simpa [upd] using hst
      · simp at hi; omega
    · intro bb a wf hI hall
      obtain ⟨gS, rfl, hst⟩ := hI
      refine hK _ _ ?_
      simp only [hall 0 (by simp), hall 1 (by simp), hall 2 (by simp), hall 3 (by simp), hall 4 (by simp), hall 5 (by simp), hall 6 (by simp), hall 7 (by simp), hall 8 (by simp), hall 9 (by simp), hall 10 (by simp), hall 11 (by simp), hall 12 (by simp), hall 13 (by simp), hall 14 (by simp), hall 15 (by simp), hall 16 (by simp), hall 17 (by simp), hall 18 (by simp), hall 19 (by simp), hall 20 (by simp), hall 21 (by simp), hall 22 (by simp), hall 23 (by simp), hall 24 (by simp), hall 25 (by simp), hall 26 (by simp), hall 27 (by simp), hall 28 (by simp), hall 29 (by simp), hall 30 (by simp), hall 31 (by simp), hall 32 (by simp), hall 33 (by simp), hall 34 (by simp), hall 35 (by simp), hall 36 (by simp), hall 37 (by simp), hall 38 (by simp), hall 39 (by simp), hall 40 (by simp), if_true]
      clear hall hK
      have HBQ := Lib.hid (below_step HBP.out (show Below wO.heap.size wO wf from hst.below))
      clear hst
      go_wp2
      go_ret
      exact ⟨rfl, HBQ.out⟩
end Go.Proofs.YtghpoldlddghjaaDoor
