/- The walks of what the laws share, and a book that comes in. Conditions: none beyond what each law says. -/
import Derived.Test.YtghpoldlddghjaaDoorM3
import Derived.Test.YtghpoldlddghjaaDoorMX
import Derived.Deep.QuietTactic
import Derived.BigQuiet
import Derived.Lib.SmallJoins
import Derived.Test.YtghpoldlddghjaaDoorRows
import Derived.LaidMore
import Derived.LaidHandle
import Derived.OpenShut
set_option linter.unusedVariables false
set_option linter.unusedSimpArgs false
namespace Go.Proofs.YtghpoldlddghjaaDoor
open Go Go.RowKit
open Go.Proofs.YtghpoldlddghjaaDoorW.PrintWords Go.Proofs.YtghpoldlddghjaaDoorW.PrintMore Go.Proofs.YtghpoldlddghjaaDoor.PPasteTrue
theorem op_if {P : Program} {ops : Array Oper} {Q : Exit → Act → World → Prop} {i : Nat} {o : Oper} {K : Act → World → Prop} {a : Act} {w : World} (ho : ops[i]? = some o)
    (h : if Region.wanted o (yielded ops a.tmps) = true then Oper.wp P o a w K Q else K (a.put o.dst undef) w) : wpOp P ops Q i K a w := by
  unfold wpOp
  rw [ho]
  dsimp only
  split
  · rename_i hw
    rw [if_pos hw] at h
    exact .inl h
  · rename_i hw
    rw [if_neg hw] at h
    exact h
theorem false_of {x y : Bool} (h : y = true → x = true) (hx : x = false) : y = false := by
  cases y with
  | false => rfl
  | true => rw [h rfl] at hx; cases hx
section
variable {w : World} {h : Hd} {b : Bk} {t : S59} {base g7 g12 : Nat} {v10 : Value} {A : Option Addr} {n c : Nat} {wq : World} {b0 b3 b5 b6 b8 : Bool}
end
end Go.Proofs.YtghpoldlddghjaaDoor
namespace Go.Proofs.YtghpoldlddghjaaDoor
open Go Go.RowKit
open Go.Proofs.YtghpoldlddghjaaDoorW.PrintWords Go.Proofs.YtghpoldlddghjaaDoorW.PrintMore Go.Proofs.YtghpoldlddghjaaDoor.PPasteTrue
theorem fits_f (a lo hi : Int) : luciferref00_Fits.f a lo hi = some (inB a lo hi) := by unfold luciferref00_Fits.f inB; by_cases h : lo ≤ a <;> simp [h]
theorem fits_calls (a lo hi : Int) (w : World) : Calls Tryd.prog 24 #[.int .i64 a, .int .i64 lo, .int .i64 hi] w fun e w' => e = .returned (.bool (inB a lo hi)) ∧ Below w.heap.size w w' := by
  refine (luciferref00_Fits.calls a lo hi (inB a lo hi) w (by unfold luciferref00_Fits.f inB; by_cases h : lo ≤ a <;> simp [h])).mono ?_
  rintro e w' ⟨he, hd⟩
  exact ⟨he, hd.below⟩
theorem span_calls (x y hi : Int) (w : World) : Calls Tryd.prog 59 #[.agg #[.int .i64 x, .int .i64 y], .int .i64 0, .int .i64 hi] w fun e w' => e = .returned (.bool (spanB ⟨x, y⟩ hi)) ∧ Below w.heap.size w w' :=
  luciferref00_Right.calls x y 0 hi (spanB ⟨x, y⟩ hi) w (by unfold luciferref00_Right.f spanB; by_cases h : 0 ≤ x <;> by_cases h2 : x ≤ y <;> simp [h, h2])
def pOk (b : Bk) (p : S77) : Bool := inB p.f0 0 ((b.salts.length : Int) - 1) && (inB p.f1 0 ((b.salts.length : Int) - 1) && inB p.f2 1 30)
def soundB (b : Bk) : Bool := checkB b && b.pairs.all (pOk b)
theorem sound_good {b : Bk} (h : soundB b = true) : checkB b = true ∧ Sane b ∧ Good b := by
  unfold soundB at h
  rw [Bool.and_eq_true, List.all_eq_true] at h
  have hs : Sane b := by
    intro p hp
    have := h.2 p hp
    unfold pOk at this
    simp only [Bool.and_eq_true, inB_iff] at this
    omega
  exact ⟨h.1, hs, good_of h.1 hs⟩
structure Heads (b : Bk) : Prop where
  s0 : inB b.salts.length 1 4 = true
  p0 : b.pairs.length ≤ 4
  u0 : inB b.surfs.length 1 4 = true
  n0 : inB b.need 1 400 = true
  t0 : b.trials.length ≤ 6
  s : ∀ x ∈ b.salts, inB x.f0 0 9 = true ∧ spanB x.f1 9 = true
  u : ∀ x ∈ b.surfs, spanB x.f0 200 = true ∧ spanB x.f1 200 = true
  t : ∀ x ∈ b.trials, inB x.f0 0 ((b.surfs.length : Int) - 1) = true
theorem heads_of {b : Bk} (hc : checkB b = true) : Heads b := by
  unfold checkB headB at hc
  simp only [Bool.and_eq_true, decide_eq_true_eq, List.all_eq_true, List.mem_range] at hc
  obtain ⟨⟨⟨⟨⟨a1, a2, a3, a4, a5⟩, hs⟩, hp⟩, hu⟩, ht⟩ := hc
  refine ⟨a1, by omega, a3, a4, by omega, ?_, ?_, ?_⟩
  · intro x hx
    have := hs x hx
    unfold saltB at this
    simp only [Bool.and_eq_true] at this
    exact ⟨this.1, this.2.1⟩
  · intro x hx
    have := hu x hx
    unfold surfB at this
    rw [Bool.and_eq_true] at this
    exact this
  · intro x hx
    have h1 := ht x hx
    unfold trialB at h1
    have h2 := (inB_iff _ _ _).1 a3
    rw [show wrap64 ((b.surfs.length : Int) - 1) = (b.surfs.length : Int) - 1 by unfold wrap64; omega] at h1
    exact h1
def pTo (b : Bk) (k : Nat) : Bool := (b.pairs.take k).all (pOk b)
theorem pTo_succ {b : Bk} {k : Nat} (h : k < b.pairs.length) : pTo b (k + 1) = (pTo b k && pOk b (rd_T77 b.pairs k)) := by
  have hr : rd_T77 b.pairs k = b.pairs[k] := by
    unfold rd_T77
    rw [List.getD_eq_getElem?_getD, Int.toNat_natCast, List.getElem?_eq_getElem h]
    rfl
  unfold pTo
  rw [List.take_succ_eq_append_getElem h, List.all_append, hr]
  simp
theorem pTo_false {b : Bk} {k : Nat} (h : pTo b k = false) : b.pairs.all (pOk b) = false := by
  cases e : b.pairs.all (pOk b) with
  | false => rfl
  | true =>
    rw [List.all_eq_true] at e
    unfold pTo at h
    have : (b.pairs.take k).all (pOk b) = true := by
      rw [List.all_eq_true]
      exact fun p hp => e p (List.mem_of_mem_take hp)
    rw [this] at h
    cases h
theorem rd59_mem {xs : List S59} {k : Nat} (h : k < xs.length) : rd_T59 xs k ∈ xs := by
  unfold rd_T59
  rw [List.getD_eq_getElem?_getD, Int.toNat_natCast, List.getElem?_eq_getElem h]
  exact List.getElem_mem _
theorem One.c0 {w wr : World} {h : Hd} {b : Bk} {A : Option Addr} (H : One w (h.cells b) 27 wr) (e : A = h.A0) : wr.cell? ⟨w.heap.size, 0, none⟩ = some (.slice A b.salts.length h.c0) := by rw [e]; exact (blk_cell H.b1 0).trans rfl
theorem One.c1 {w wr : World} {h : Hd} {b : Bk} {A : Option Addr} (H : One w (h.cells b) 27 wr) (e : A = h.A1) : wr.cell? ⟨w.heap.size, 1, none⟩ = some (.slice A b.pairs.length h.c1) := by rw [e]; exact (blk_cell H.b1 1).trans rfl
theorem One.c2 {w wr : World} {h : Hd} {b : Bk} {A : Option Addr} (H : One w (h.cells b) 27 wr) (e : A = h.A2) : wr.cell? ⟨w.heap.size, 2, none⟩ = some (.slice A b.surfs.length h.c2) := by rw [e]; exact (blk_cell H.b1 2).trans rfl
theorem One.c3 {w wr : World} {h : Hd} {b : Bk} (H : One w (h.cells b) 27 wr) : wr.cell? ⟨w.heap.size, 3, none⟩ = some (.int .i64 b.need) := (blk_cell H.b1 3).trans rfl
theorem One.c4 {w wr : World} {h : Hd} {b : Bk} {A : Option Addr} (H : One w (h.cells b) 27 wr) (e : A = h.A4) : wr.cell? ⟨w.heap.size, 4, none⟩ = some (.slice A b.trials.length h.c4) := by rw [e]; exact (blk_cell H.b1 4).trans rfl
set_option maxRecDepth 20000 in
set_option maxHeartbeats 1600000 in
theorem sound_calls {h : Hd} {b : Bk} {w : World} (hb : BkIn w h b) : Calls Tryd.prog 11 #[.agg (h.cells b)] w fun e w' => e = .returned (.bool (soundB b)) ∧ Below w.heap.size w w' := by
  have HO := Lib.hid (One.start w (h.cells b) 27)
  cases hc : checkB b with
  | false =>
    have HE := Lib.hid (show soundB b = false by unfold soundB; rw [hc]; rfl)
    have HC := Lib.hid hc
    rw [HE.out]
    clear hc
    go_enter Tryd.func11, Tryd.ntmps11
    go_wp2_with (first | (with_reducible refine b_box (t := 27) rfl rfl rfl ?_) | ((with_reducible refine gate_dst (N := 9) rfl ?_); refine wpList_load_row rfl 27 _ rfl w.heap.size rfl 27 (h.cells b) (0, 0) _ HO.out.b1 Tryd.underlying27 rfl i27 ?_) | (go_at_call 43; refine (check_calls (hb.below HO.out.below)).mono ?_; rintro e w5 ⟨rfl, hb5⟩; rw [HC.out]; have HO5 := Lib.hid (HO.out.on hb5); clear hb5))
    go_loopw [3, 4] (fun v i wr => v = .bool false ∧ i = .int .i64 0 ∧ Aside0 (Below w.heap.size w wr)) (fun _ _ _ => 0)
    case atStart => exact ⟨rfl, rfl, ⟨HO5.out.below⟩⟩
    case round =>
      obtain ⟨rfl, rfl, HF1⟩ := hrel
      go_wp2
      go_loopw [3, 5] (fun v i wr => v = .bool false ∧ i = .int .i64 0 ∧ Aside0 (Below w.heap.size w wr)) (fun _ _ _ => 0)
      case atStart => exact ⟨rfl, rfl, ⟨HF1.out⟩⟩
      case round =>
        obtain ⟨rfl, rfl, HF2⟩ := hrel
        go_wp2
        go_loopw [3, 7] (fun v i wr => v = .bool false ∧ i = .int .i64 0 ∧ Aside0 (Below w.heap.size w wr)) (fun _ _ _ => 0)
        case atStart => exact ⟨rfl, rfl, ⟨HF2.out⟩⟩
        case round =>
          obtain ⟨rfl, rfl, HF3⟩ := hrel
          go_wp2
          go_loopw [3, 8] (fun v i wr => v = .bool false ∧ i = .int .i64 0 ∧ Aside0 (Below w.heap.size w wr)) (fun _ _ _ => 0)
          case atStart => exact ⟨rfl, rfl, ⟨HF3.out⟩⟩
          case round =>
            obtain ⟨rfl, rfl, HF4⟩ := hrel
            go_wp2
            go_ret
            exact ⟨rfl, HF4.out⟩
  | true =>
    have HC := Lib.hid hc
    have hh := heads_of hc
    have HH := Lib.hid hh
    have HE := Lib.hid (show soundB b = b.pairs.all (pOk b) by unfold soundB; rw [hc]; rfl)
    have hs4 := (inB_iff _ _ _).1 hh.s0
    have hu4 := (inB_iff _ _ _).1 hh.u0
    have hp4 := hh.p0
    have ht6 := hh.t0
    have f1 := hh.s0
    have f2 := hh.u0
    have f3 := hh.n0
    clear hc hh
    obtain ⟨A0, hA0⟩ : ∃ A, A = h.A0 := ⟨_, rfl⟩
    obtain ⟨A1, hA1⟩ : ∃ A, A = h.A1 := ⟨_, rfl⟩
    obtain ⟨A2, hA2⟩ : ∃ A, A = h.A2 := ⟨_, rfl⟩
    obtain ⟨A4, hA4⟩ : ∃ A, A = h.A4 := ⟨_, rfl⟩
    have HA0 := Lib.hid hA0
    have HA1 := Lib.hid hA1
    have HA2 := Lib.hid hA2
    have HA4 := Lib.hid hA4
    have HR0 := Lib.hid (show Kd.C k68 w A0 b.salts.length b.salts by rw [hA0]; exact hb.r0)
    have HR1 := Lib.hid (show Kd.C k77 w A1 b.pairs.length b.pairs by rw [hA1]; exact hb.r1)
    have HR2 := Lib.hid (show Kd.C k47 w A2 b.surfs.length b.surfs by rw [hA2]; exact hb.r2)
    have HR4 := Lib.hid (show Kd.C k59 w A4 b.trials.length b.trials by rw [hA4]; exact hb.r4)
    clear hA0 hA1 hA2 hA4
    go_enter Tryd.func11, Tryd.ntmps11
    go_upto_region 2 with (first | (with_reducible refine b_box (t := 27) rfl rfl rfl ?_) | ((with_reducible refine gate_dst (N := 9) rfl ?_); refine wpList_load_row rfl 27 _ rfl w.heap.size rfl 27 (h.cells b) (0, 0) _ HO.out.b1 Tryd.underlying27 rfl i27 ?_) | (go_at_call 43; refine (check_calls (hb.below HO.out.below)).mono ?_; rintro e w5 ⟨rfl, hb5⟩; rw [HC.out]; have HO5 := Lib.hid (HO.out.on hb5); have c0 := HO5.out.c0 HA0.out; clear hb5) | (go_at_call 24; refine (fits_calls _ _ _ _).mono ?_; rintro e w6 ⟨rfl, hb6⟩; rw [f1]; have HO6 := Lib.hid (HO5.out.on hb6); have c1 := HO6.out.c1 HA1.out; have c2 := HO6.out.c2 HA2.out; clear hb6) | (go_at_call 24; refine (fits_calls _ _ _ _).mono ?_; rintro e w7 ⟨rfl, hb7⟩; rw [f2]; have HO7 := Lib.hid (HO6.out.on hb7); have c3 := HO7.out.c3; clear hb7) | (go_at_call 24; refine (fits_calls _ _ _ _).mono ?_; rintro e w8 ⟨rfl, hb8⟩; rw [f3]; have HO8 := Lib.hid (HO7.out.on hb8); have c4 := HO8.out.c4 HA4.out; clear hb8))
    have HO9 := Lib.hid HO8.out
    clear c0 c1 c2 c3 c4 f1 f2 f3 HO HO5 HO6 HO7 HO8
    go_wp2
    go_loopw [3, 4] (fun v i wr => ∃ k : Nat, k ≤ b.salts.length ∧ i = .int .i64 k ∧ v = .bool true ∧ Aside0 (One w (h.cells b) 27 wr)) (fun _ i _ => b.salts.length - (intOf i).toNat)
    case atStart => exact ⟨0, Nat.zero_le _, rfl, by simp; omega, ⟨HO9.out⟩⟩
    case round =>
      clear HO9
      obtain ⟨k, hk, rfl, rfl, HI⟩ := hrel
      have c0 := HI.out.c0 HA0.out
      have zz := blk_lt HI.out.b1
      by_cases hlt : k < b.salts.length
      · obtain ⟨ad, hA, t0, t1, t2⟩ := at_T68 (Kd.C_below HR0.out HI.out.below) k (by omega) (by omega)
        subst hA
        simp only [Int.toNat_natCast] at t0 t1 t2
        have hx := HH.out.s _ (rd68_mem (xs := b.salts) hlt)
        generalize rd_T68 b.salts k = x at t0 t1 t2 hx
        obtain ⟨g1, g2⟩ := hx
        have e4 := World.block_lt_of_cell? wr _ t0
        go_wp2_with (first | (go_at_call 24; refine (fits_calls _ _ _ _).mono ?_; rintro e w5 ⟨rfl, hb5⟩; rw [g1]; have HI5 := Lib.hid (HI.out.on hb5); have c05 := HI5.out.c0 HA0.out; have t15 := pw_cell_below hb5 t1; have t25 := pw_cell_below hb5 t2; clear hb5) | (go_at_call 59; refine (span_calls _ _ _ _).mono ?_; rintro e w6 ⟨rfl, hb6⟩; rw [show spanB ⟨x.f1.f0, x.f1.f1⟩ 9 = true from g2]; have HI6 := Lib.hid (HI5.out.on hb6); clear hb6))
        go_roundw
        case rel => exact ⟨k + 1, by omega, by go_num, rfl, ⟨HI6.out⟩⟩
        case measure => simp [intOf]; omega
      · obtain rfl : k = b.salts.length := by omega
        go_wp2
        clear c0 zz
        go_loopw [3, 5] (fun v i wr => ∃ k : Nat, k ≤ b.pairs.length ∧ i = .int .i64 k ∧ v = .bool (pTo b k) ∧ Aside0 (One w (h.cells b) 27 wr)) (fun _ i _ => b.pairs.length - (intOf i).toNat)
        case atStart => exact ⟨0, Nat.zero_le _, rfl, rfl, ⟨HI.out⟩⟩
        case round =>
          clear HI hk hlt
          obtain ⟨k, hk, rfl, rfl, HI⟩ := hrel
          have c1 := HI.out.c1 HA1.out
          have zz := blk_lt HI.out.b1
          cases hpt : pTo b k with
          | false =>
            have HF := Lib.hid (show soundB b = false by rw [HE.out]; exact pTo_false hpt)
            clear hpt
            go_wp2
            clear c1 zz
            go_loopw [3, 7] (fun v i wr => v = .bool false ∧ i = .int .i64 0 ∧ Aside0 (Below w.heap.size w wr)) (fun _ _ _ => 0)
            case atStart => exact ⟨rfl, rfl, ⟨HI.out.below⟩⟩
            case round =>
              obtain ⟨rfl, rfl, HF3⟩ := hrel
              go_wp2
              go_loopw [3, 8] (fun v i wr => v = .bool false ∧ i = .int .i64 0 ∧ Aside0 (Below w.heap.size w wr)) (fun _ _ _ => 0)
              case atStart => exact ⟨rfl, rfl, ⟨HF3.out⟩⟩
              case round =>
                obtain ⟨rfl, rfl, HF4⟩ := hrel
                go_wp2
                go_ret
                exact ⟨by rw [HF.out]; rfl, HF4.out⟩
          | true =>
            by_cases hlt : k < b.pairs.length
            · have HPS := pTo_succ hlt
              rw [hpt, Bool.true_and] at HPS
              have HPS := Lib.hid HPS
              clear hpt
              obtain ⟨ad, hA, t0, t1, t2⟩ := at_T77 (Kd.C_below HR1.out HI.out.below) k (by omega) (by omega)
              subst hA
              simp only [Int.toNat_natCast] at t0 t1 t2
              obtain ⟨p, hp⟩ : ∃ p, p = rd_T77 b.pairs k := ⟨_, rfl⟩
              rw [← hp] at t0 t1 t2 HPS
              clear hp
              have e4 := World.block_lt_of_cell? wr _ t0
              go_upto_region 10 with (first | fail)
              have h6 : (wr.alloc (.cells #[.int .i64 p.f0, .int .i64 p.f1, .int .i64 p.f2] 77)).heap[wr.heap.size]? = some (.cells #[.int .i64 p.f0, .int .i64 p.f1, .int .i64 p.f2] 77 (0, 0)) := new_at rfl
              have ho := HI.out.on (below_alloc (Below.refl _ _) (.cells #[.int .i64 p.f0, .int .i64 p.f1, .int .i64 p.f2] 77))
              generalize wr.alloc (.cells #[.int .i64 p.f0, .int .i64 p.f1, .int .i64 p.f2] 77) = W6 at h6 ho ⊢
              clear t0 t1 t2 e4 c1
              have d0 := (blk_cell h6 0).trans rfl
              have z6 := blk_lt h6
              have H6 := Lib.hid h6
              have HO6 := Lib.hid ho
              have c0 := ho.c0 HA0.out
              have z0 := blk_lt ho.b1
              clear h6 ho
              have hpk : pOk b p = (inB p.f0 0 ((b.salts.length : Int) - 1) && (inB p.f1 0 ((b.salts.length : Int) - 1) && inB p.f2 1 30)) := rfl
              cases e1 : inB p.f0 0 ((b.salts.length : Int) - 1) with
              | false =>
                rw [e1, Bool.false_and] at hpk
                have HPK := Lib.hid hpk
                clear hpk
                go_wp2_with (first | (go_at_call 24; refine (fits_calls _ _ _ _).mono ?_; rintro e w7 ⟨rfl, hb7⟩; rw [e1]; have HO7 := Lib.hid (HO6.out.on hb7); clear hb7))
                go_roundw
                case rel => exact ⟨k + 1, by omega, by go_num, by rw [HPS.out, HPK.out], ⟨HO7.out⟩⟩
                case measure => simp [intOf]; omega
              | true =>
                cases e2 : inB p.f1 0 ((b.salts.length : Int) - 1) with
                | false =>
                  rw [e1, e2, Bool.false_and, Bool.and_false] at hpk
                  have HPK := Lib.hid hpk
                  clear hpk
                  go_wp2_with (first | (go_at_call 24; refine (fits_calls _ _ _ _).mono ?_; rintro e w7 ⟨rfl, hb7⟩; rw [e1]; have HO7 := Lib.hid (HO6.out.on hb7); have d17 := (blk_cell (blk_below H6.out hb7) 1).trans rfl; have c07 := HO7.out.c0 HA0.out; clear hb7) | (go_at_call 24; refine (fits_calls _ _ _ _).mono ?_; rintro e w8 ⟨rfl, hb8⟩; rw [e2]; have HO8 := Lib.hid (HO7.out.on hb8); clear hb8))
                  go_roundw
                  case rel => exact ⟨k + 1, by omega, by go_num, by rw [HPS.out, HPK.out], ⟨HO8.out⟩⟩
                  case measure => simp [intOf]; omega
                | true =>
                  rw [e1, e2, Bool.true_and, Bool.true_and] at hpk
                  obtain ⟨r3, hr3⟩ : ∃ r3, r3 = inB p.f2 1 30 := ⟨_, rfl⟩
                  rw [← hr3] at hpk
                  have HPK := Lib.hid hpk
                  have HR3 := Lib.hid hr3
                  clear hpk hr3
                  go_wp2_with (first | (go_at_call 24; refine (fits_calls _ _ _ _).mono ?_; rintro e w7 ⟨rfl, hb7⟩; rw [e1]; have HO7 := Lib.hid (HO6.out.on hb7); have H67 := Lib.hid (blk_below H6.out hb7); have d17 := (blk_cell H67.out 1).trans rfl; have c07 := HO7.out.c0 HA0.out; clear hb7) | (go_at_call 24; refine (fits_calls _ _ _ _).mono ?_; rintro e w8 ⟨rfl, hb8⟩; rw [e2]; have HO8 := Lib.hid (HO7.out.on hb8); have d28 := (blk_cell (blk_below H67.out hb8) 2).trans rfl; clear hb8) | (go_at_call 24; refine (fits_calls _ _ _ _).mono ?_; rintro e w9 ⟨rfl, hb9⟩; rw [← HR3.out]; have HO9 := Lib.hid (HO8.out.on hb9); clear hb9))
                  go_roundw
                  case rel => exact ⟨k + 1, by omega, by go_num, by rw [HPS.out, HPK.out], ⟨HO9.out⟩⟩
                  case measure => simp [intOf]; omega
            · obtain rfl : k = b.pairs.length := by omega
              have HT := Lib.hid (show soundB b = true by rw [HE.out, ← hpt]; unfold pTo; rw [List.take_length])
              clear hpt
              go_wp2
              clear c1 zz
              go_loopw [3, 7] (fun v i wr => ∃ k : Nat, k ≤ b.surfs.length ∧ i = .int .i64 k ∧ v = .bool true ∧ Aside0 (One w (h.cells b) 27 wr)) (fun _ i _ => b.surfs.length - (intOf i).toNat)
              case atStart => exact ⟨0, Nat.zero_le _, rfl, rfl, ⟨HI.out⟩⟩
              case round =>
                clear HI hk hlt
                obtain ⟨k, hk, rfl, rfl, HI⟩ := hrel
                have c2 := HI.out.c2 HA2.out
                have zz := blk_lt HI.out.b1
                by_cases hlt : k < b.surfs.length
                · obtain ⟨ad, hA, t0, t1, t2, t3⟩ := at_T47 (Kd.C_below HR2.out HI.out.below) k (by omega) (by omega)
                  subst hA
                  simp only [Int.toNat_natCast] at t0 t1 t2 t3
                  have hx := HH.out.u _ (rd47_mem (xs := b.surfs) (i := (k : Int)) (by omega) (by omega))
                  generalize rd_T47 b.surfs k = x at t0 t1 t2 t3 hx
                  obtain ⟨g1, g2⟩ := hx
                  have e4 := World.block_lt_of_cell? wr _ t0
                  go_wp2_with (first | (go_at_call 59; refine (span_calls _ _ _ _).mono ?_; rintro e w5 ⟨rfl, hb5⟩; rw [show spanB ⟨x.f0.f0, x.f0.f1⟩ 200 = true from g1]; have HI5 := Lib.hid (HI.out.on hb5); have c05 := HI5.out.c2 HA2.out; have t25 := pw_cell_below hb5 t2; have t35 := pw_cell_below hb5 t3; clear hb5) | (go_at_call 59; refine (span_calls _ _ _ _).mono ?_; rintro e w6 ⟨rfl, hb6⟩; rw [show spanB ⟨x.f1.f0, x.f1.f1⟩ 200 = true from g2]; have HI6 := Lib.hid (HI5.out.on hb6); clear hb6))
                  go_roundw
                  case rel => exact ⟨k + 1, by omega, by go_num, rfl, ⟨HI6.out⟩⟩
                  case measure => simp [intOf]; omega
                · obtain rfl : k = b.surfs.length := by omega
                  go_wp2
                  clear c2 zz
                  go_loopw [3, 8] (fun v i wr => ∃ k : Nat, k ≤ b.trials.length ∧ i = .int .i64 k ∧ v = .bool true ∧ Aside0 (One w (h.cells b) 27 wr)) (fun _ i _ => b.trials.length - (intOf i).toNat)
                  case atStart => exact ⟨0, Nat.zero_le _, rfl, rfl, ⟨HI.out⟩⟩
                  case round =>
                    clear HI hk hlt
                    obtain ⟨k, hk, rfl, rfl, HI⟩ := hrel
                    have c4 := HI.out.c4 HA4.out
                    have c2 := HI.out.c2 HA2.out
                    have zz := blk_lt HI.out.b1
                    by_cases hlt : k < b.trials.length
                    · obtain ⟨ad, hA, t0, t1⟩ := at_T59 (Kd.C_below HR4.out HI.out.below) k (by omega) (by omega)
                      subst hA
                      simp only [Int.toNat_natCast] at t0 t1
                      have hx := HH.out.t _ (rd59_mem hlt)
                      generalize rd_T59 b.trials k = x at t0 t1 hx
                      have e4 := World.block_lt_of_cell? wr _ t0
                      go_upto_region 18 with (first | fail)
                      go_quiet (first | (go_at_call 24; (with_reducible refine (luciferref00_Fits.calls x.f0 0 ((b.surfs.length : Int) - 1) true _ (by rw [fits_f, hx])).mono ?_); rintro e w' ⟨rfl, ⟨nd, rfl⟩⟩; (try first | exact ⟨rfl, _, World.drewN_drewN _ _ _⟩ | exact ⟨rfl, _, Eq.trans (World.drewN_drewN _ _ _) (congrArg (World.drewN _) (Nat.add_assoc _ _ _))⟩)))
                      go_wp2
                      go_roundw
                      case rel => exact ⟨k + 1, by omega, by go_num, rfl, ⟨HI.out.on (pw_below_drewN (Below.refl _ _) _)⟩⟩
                      case measure => simp [intOf]; omega
                    · obtain rfl : k = b.trials.length := by omega
                      go_wp2
                      go_ret
                      exact ⟨by rw [HT.out]; rfl, HI.out.below⟩
end Go.Proofs.YtghpoldlddghjaaDoor
namespace Go.Proofs.YtghpoldlddghjaaDoor
open Go Go.RowKit
open Go.Proofs.YtghpoldlddghjaaDoorW.PrintWords Go.Proofs.YtghpoldlddghjaaDoorW.PrintMore Go.Proofs.YtghpoldlddghjaaDoor.PPasteTrue
def spinI (n m : Int) : Int := (luciferref00_Spin.f n m).getD 0
theorem spin_f (n m : Int) (h1 : 1 ≤ m) (h2 : m ≤ 9223372036854775807) : luciferref00_Spin.f n m = some (spinI n m) ∧ 0 ≤ spinI n m ∧ spinI n m < m := by
  have hlt := Int.tmod_lt_of_pos n (show 0 < m by omega)
  have hgt : -m < Int.tmod n m := by
    have h3 := Int.tmod_lt_of_pos (-n) (show 0 < m by omega)
    rw [Int.neg_tmod] at h3
    omega
  have key : luciferref00_Spin.f n m = some (if Int.tmod n m < 0 then Int.tmod n m + m else Int.tmod n m) := by
    unfold luciferref00_Spin.f
    rw [if_neg (by omega), if_neg (by omega)]
    split
    · rw [show wrap64 (Int.tmod n m + m) = Int.tmod n m + m by unfold wrap64; omega]
    · rfl
  unfold spinI
  rw [key]
  refine ⟨rfl, ?_⟩
  simp only [Option.getD_some]
  split <;> omega
theorem spin_calls (n m : Int) (h1 : 1 ≤ m) (h2 : m ≤ 9223372036854775807) (w : World) : Calls Tryd.prog 26 #[.int .i64 n, .int .i64 m] w fun e w' => e = .returned (.int .i64 (spinI n m)) ∧ Below w.heap.size w w' := by
  refine (luciferref00_Spin.calls n m _ w (spin_f n m h1 h2).1).mono ?_
  rintro e w' ⟨he, hd⟩
  exact ⟨he, hd.below⟩
end Go.Proofs.YtghpoldlddghjaaDoor
namespace Go.Proofs.YtghpoldlddghjaaDoor
open Go Go.RowKit
open Go.Proofs.YtghpoldlddghjaaDoorW.PrintWords Go.Proofs.YtghpoldlddghjaaDoorW.PrintMore Go.Proofs.YtghpoldlddghjaaDoor.PPasteTrue
theorem co3 : Tryd.prog.cellsOf 3 = 1 := by kernel_rfl
theorem co4 : Tryd.prog.cellsOf 4 = 1 := by kernel_rfl
theorem co39 : Tryd.prog.cellsOf 39 = 2 := by kernel_rfl
theorem co68 : Tryd.prog.cellsOf 68 = 3 := by kernel_rfl
theorem co77 : Tryd.prog.cellsOf 77 = 3 := by kernel_rfl
theorem co47 : Tryd.prog.cellsOf 47 = 4 := by kernel_rfl
theorem co59 : Tryd.prog.cellsOf 59 = 2 := by kernel_rfl
theorem co27 : Tryd.prog.cellsOf 27 = 5 := by kernel_rfl
theorem co22 : Tryd.prog.cellsOf 22 = 1 := by kernel_rfl
theorem co23 : Tryd.prog.cellsOf 23 = 1 := by kernel_rfl
theorem co24 : Tryd.prog.cellsOf 24 = 1 := by kernel_rfl
theorem co25 : Tryd.prog.cellsOf 25 = 1 := by kernel_rfl
theorem len2 {α : Type} {l : List α} (h : l.length = 2) : ∃ a b, l = [a, b] := by
  match l, h with
  | [a, b], _ => exact ⟨a, b, rfl⟩
theorem len3 {α : Type} {l : List α} (h : l.length = 3) : ∃ a b c, l = [a, b, c] := by
  match l, h with
  | [a, b, c], _ => exact ⟨a, b, c, rfl⟩
theorem len4 {α : Type} {l : List α} (h : l.length = 4) : ∃ a b c d, l = [a, b, c, d] := by
  match l, h with
  | [a, b, c, d], _ => exact ⟨a, b, c, d, rfl⟩
theorem len5 {α : Type} {l : List α} (h : l.length = 5) : ∃ a b c d e, l = [a, b, c, d, e] := by
  match l, h with
  | [a, b, c, d, e], _ => exact ⟨a, b, c, d, e, rfl⟩
section
variable {H : Type} {enc : TypeId × Value → H} {W : World} {base : Nat} {sp : Nat → Bool} {held : Bool}
theorem open39 {fuel : Nat} {cs : List Value} {x : DataW H × List MemPlace} (h : DataW.trod enc Tryd.prog W base sp held fuel 39 cs = some x) : ∃ s : S39, cs = [.int .i64 s.f0, .int .i64 s.f1] := by
  obtain ⟨y0, y1, n, _, hl, h0, h1⟩ := ChangeShapes.trod_struct2 Tryd.underlying39 h
  rw [co39] at hl
  obtain ⟨c0, c1, rfl⟩ := len2 hl
  rw [co3] at h0 h1
  obtain ⟨a, e0, _⟩ := DataW.trod_int Tryd.underlying3 h0
  obtain ⟨b, e1, _⟩ := DataW.trod_int Tryd.underlying3 h1
  simp at e0 e1
  exact ⟨⟨a, b⟩, by rw [e0, e1]⟩
theorem open68 {fuel : Nat} {cs : List Value} {x : DataW H × List MemPlace} (h : DataW.trod enc Tryd.prog W base sp held fuel 68 cs = some x) : ∃ s : S68, k68.K W s cs := by
  obtain ⟨y0, y1, n, _, hl, h0, h1⟩ := ChangeShapes.trod_struct2 Tryd.underlying68 h
  rw [co68] at hl
  obtain ⟨c0, c1, c2, rfl⟩ := len3 hl
  rw [co3] at h0
  rw [co39] at h1
  obtain ⟨a, e0, _⟩ := DataW.trod_int Tryd.underlying3 h0
  obtain ⟨s, e1⟩ := open39 h1
  simp at e0 e1
  refine ⟨⟨a, s⟩, ?_⟩
  rw [e0, e1.1, e1.2]
  exact k68_mk W ⟨a, s⟩
theorem open77 {fuel : Nat} {cs : List Value} {x : DataW H × List MemPlace} (h : DataW.trod enc Tryd.prog W base sp held fuel 77 cs = some x) : ∃ s : S77, k77.K W s cs := by
  obtain ⟨y0, y1, y2, n, _, hl, h0, h1, h2⟩ := Deep.trod_struct3 Tryd.underlying77 h
  rw [co77] at hl
  obtain ⟨c0, c1, c2, rfl⟩ := len3 hl
  rw [co3] at h0 h1 h2
  obtain ⟨a, e0, _⟩ := DataW.trod_int Tryd.underlying3 h0
  obtain ⟨b, e1, _⟩ := DataW.trod_int Tryd.underlying3 h1
  obtain ⟨c, e2, _⟩ := DataW.trod_int Tryd.underlying3 h2
  simp at e0 e1 e2
  refine ⟨⟨a, b, c⟩, ?_⟩
  rw [e0, e1, e2]
  exact k77_mk W ⟨a, b, c⟩
theorem open47 {fuel : Nat} {cs : List Value} {x : DataW H × List MemPlace} (h : DataW.trod enc Tryd.prog W base sp held fuel 47 cs = some x) : ∃ s : S47, k47.K W s cs := by
  obtain ⟨y0, y1, n, _, hl, h0, h1⟩ := ChangeShapes.trod_struct2 Tryd.underlying47 h
  rw [co47] at hl
  obtain ⟨c0, c1, c2, c3, rfl⟩ := len4 hl
  rw [co39] at h0 h1
  obtain ⟨s, e0⟩ := open39 h0
  obtain ⟨t, e1⟩ := open39 h1
  simp at e0 e1
  refine ⟨⟨s, t⟩, ?_⟩
  rw [e0.1, e0.2, e1.1, e1.2]
  exact k47_mk W ⟨s, t⟩
theorem open59 {fuel : Nat} {cs : List Value} {x : DataW H × List MemPlace} (h : DataW.trod enc Tryd.prog W base sp held fuel 59 cs = some x) : ∃ s : S59, k59.K W s cs := by
  obtain ⟨y0, y1, n, _, hl, h0, h1⟩ := ChangeShapes.trod_struct2 Tryd.underlying59 h
  rw [co59] at hl
  obtain ⟨c0, c1, rfl⟩ := len2 hl
  rw [co3] at h0
  rw [co4] at h1
  obtain ⟨a, e0, _⟩ := DataW.trod_int Tryd.underlying3 h0
  obtain ⟨b, e1, _⟩ := DataW.trod_bool Tryd.underlying4 h1
  simp at e0 e1
  refine ⟨⟨a, b⟩, ?_⟩
  rw [e0, e1]
  exact k59_mk W ⟨a, b⟩
theorem C_open {α : Type} [Inhabited α] (d : Kd α) {t e : TypeId} (ht : Tryd.prog.underlying t = some (.slice e)) (hc : Tryd.prog.cellsOf e = d.sz)
    (elem : ∀ {n : Nat} {cs : List Value} {x : DataW H × List MemPlace}, DataW.trod enc Tryd.prog W base sp held n e cs = some x → ∃ p, d.K W p cs)
    {fuel : Nat} {cs : List Value} {x : DataW H × List MemPlace} (h : DataW.trod enc Tryd.prog W base sp held fuel t cs = some x) :
    ∃ (A : Option Addr) (c : Nat) (xs : List α), cs = [.slice A xs.length c] ∧ xs.length ≤ c ∧ d.C W A xs.length xs := by
  rcases Deep.open_slice ht h with ⟨rfl, _⟩ | ⟨a, len, cap, m, n, D, Pl, rfl, hb, hl, hm, hmm, _, hx⟩
  · exact ⟨none, 0, [], rfl, Nat.le_refl _, Kd.C_nil _ _⟩
  have hlm : len ≤ m := by rw [hmm]; split <;> omega
  have hch : ∀ i, i < len → ∃ p : α, ∃ cs', d.K W p cs' ∧ cs'.length = d.sz ∧ ∀ j, j < d.sz → W.cell? ((a.add (i * d.sz)).add j) = cs'[j]? := by
    intro i hi
    obtain ⟨cs', h1, h2⟩ := hx i (by omega)
    rw [hc] at h1
    obtain ⟨_, h3, h4⟩ := World.cells?_some h1
    obtain ⟨p, hp⟩ := elem h2
    exact ⟨p, cs', hp, h3, h4⟩
  have hch2 : ∀ i, ∃ p : α, i < len → ∃ cs', d.K W p cs' ∧ cs'.length = d.sz ∧ ∀ j, j < d.sz → W.cell? ((a.add (i * d.sz)).add j) = cs'[j]? := by
    intro i
    by_cases hi : i < len
    · obtain ⟨p, hp⟩ := hch i hi
      exact ⟨p, fun _ => hp⟩
    · exact ⟨default, fun h => absurd h hi⟩
  obtain ⟨f, hf⟩ := Classical.axiomOfChoice hch2
  have hlen : ((List.range len).map f).length = len := by simp
  refine ⟨some a, cap, (List.range len).map f, by rw [hlen], by rw [hlen]; exact hl, rfl, by rw [hlen]; exact Nat.le_trans hl hm, fun _ => ⟨a, rfl, fun j p hj => ?_⟩⟩
  have hjl : j < len := by
    have := (List.getElem?_eq_some_iff.1 hj).1
    simpa using this
  have hpf : p = f j := by
    rw [List.getElem?_map, List.getElem?_range hjl] at hj
    simpa using hj.symm
  obtain ⟨cs', h1, h2, h3⟩ := hf j hjl
  refine ⟨cs', h2, by rw [hpf]; exact h1, fun i u hu => ?_⟩
  have hi : i < d.sz := by rw [← h2]; exact (List.getElem?_eq_some_iff.1 hu).1
  have h4 := h3 i hi
  rw [hu] at h4
  rw [← h4, Deep.add_add]
set_option maxRecDepth 100000 in
open Go.ChangeShapes Go.WideShapes in
theorem open27 {b0 : Nat} {r : Reach} {v : Value} {d : DataW H} {ps : List MemPlace} (hv : Value.okWide Tryd.prog W r b0 27 v) (h : DataW.Trod enc Tryd.prog W base sp held 27 v d ps) :
    ∃ (hh : Hd) (b : Bk), v = .agg (hh.cells b) ∧ BkIn W hh b := by
  obtain ⟨cs, rfl, hsz⟩ := okWide_struct Tryd.underlying27 hv
  obtain ⟨fuel, hf⟩ := h
  obtain ⟨xs, n, _, _, hl, hlen, hx⟩ := DataW.trod_struct Tryd.underlying27 hf
  simp only [Value.cells] at hl hx
  rw [co27] at hl
  obtain ⟨v0, v1, v2, v3, v4, hcs⟩ := len5 hl
  rw [hcs] at hx
  obtain ⟨y0, y1, y2, y3, y4, hxs⟩ := len5 hlen
  have h0 : DataW.trod enc Tryd.prog W base sp held n 22 (([v0, v1, v2, v3, v4].drop 0).take (Tryd.prog.cellsOf 22)) = some y0 := by rw [show some y0 = xs[0]? by rw [hxs]; rfl]; exact hx 0 _ rfl
  have h1 : DataW.trod enc Tryd.prog W base sp held n 23 (([v0, v1, v2, v3, v4].drop 1).take (Tryd.prog.cellsOf 23)) = some y1 := by rw [show some y1 = xs[1]? by rw [hxs]; rfl]; exact hx 1 _ rfl
  have h2 : DataW.trod enc Tryd.prog W base sp held n 24 (([v0, v1, v2, v3, v4].drop 2).take (Tryd.prog.cellsOf 24)) = some y2 := by rw [show some y2 = xs[2]? by rw [hxs]; rfl]; exact hx 2 _ rfl
  have h3 : DataW.trod enc Tryd.prog W base sp held n 3 (([v0, v1, v2, v3, v4].drop 3).take (Tryd.prog.cellsOf 3)) = some y3 := by rw [show some y3 = xs[3]? by rw [hxs]; rfl]; exact hx 3 _ rfl
  have h4 : DataW.trod enc Tryd.prog W base sp held n 25 (([v0, v1, v2, v3, v4].drop 4).take (Tryd.prog.cellsOf 25)) = some y4 := by rw [show some y4 = xs[4]? by rw [hxs]; rfl]; exact hx 4 _ rfl
  rw [co22] at h0
  rw [co23] at h1
  rw [co24] at h2
  rw [co3] at h3
  rw [co25] at h4
  obtain ⟨A0, c0, l0, e0, hl0, hr0⟩ := @C_open H enc W base sp held S68 ⟨z68⟩ k68 _ _ Tryd.underlying22 co68 open68 _ _ _ h0
  obtain ⟨A1, c1, l1, e1, hl1, hr1⟩ := @C_open H enc W base sp held S77 ⟨z77⟩ k77 _ _ Tryd.underlying23 co77 open77 _ _ _ h1
  obtain ⟨A2, c2, l2, e2, hl2, hr2⟩ := @C_open H enc W base sp held S47 ⟨z47⟩ k47 _ _ Tryd.underlying24 co47 open47 _ _ _ h2
  obtain ⟨nd, e3, _⟩ := DataW.trod_int Tryd.underlying3 h3
  obtain ⟨A4, c4, l4, e4, hl4, hr4⟩ := @C_open H enc W base sp held S59 ⟨z59⟩ k59 _ _ Tryd.underlying25 co59 open59 _ _ _ h4
  simp at e0 e1 e2 e3 e4
  refine ⟨⟨A0, c0, A1, c1, A2, c2, A4, c4⟩, ⟨l0, l1, l2, nd, l4⟩, ?_, ⟨hr0, hr1, hr2, hr4, hl0, hl1, hl2, hl4⟩⟩
  have : cs = #[v0, v1, v2, v3, v4] := by rw [← hcs]
  rw [this, e0, e1, e2, e3, e4]
  rfl
end
end Go.Proofs.YtghpoldlddghjaaDoor
namespace Go.Proofs.YtghpoldlddghjaaDoor
open Go Go.RowKit
theorem gAsks : Tryd.prog.globalNamed "lucifer/paste.asks" = some 0 := by kernel_rfl
theorem tAsks : (Tryd.prog.globals[0]?).map (·.type) = some 164 := by kernel_rfl
theorem co163 : Tryd.prog.cellsOf 163 = 1 := by kernel_rfl
theorem co164 : Tryd.prog.cellsOf 164 = 2 := by kernel_rfl
def laidAsks : List (String × DataW Unit) := [("lucifer/paste.asks", Rows.laid_lucifer_paste_asks)]
set_option maxRecDepth 100000 in
theorem asks_of_laid {W : World} (h : laidMetH Tryd.prog laidAsks W) : Asks W := by
  obtain ⟨g, t, cs, fuel, p, hg, ht, hv, hd⟩ := h.funcs (List.mem_singleton.2 rfl)
  obtain rfl := Option.some.inj (gAsks.symm.trans hg)
  obtain rfl := Option.some.inj (tAsks.symm.trans ht)
  have hd' : DataW.trod (funcToken Tryd.prog) Tryd.prog W 0 (fun _ => true) true fuel 164 cs.toList = some (.agg [.held [40, 108, 117, 99, 105, 102, 101, 114, 47, 112, 97, 115, 116, 101, 46, 98, 111, 111, 107, 41, 46, 112, 101, 114, 104, 97, 112, 115], .held [40, 108, 117, 99, 105, 102, 101, 114, 47, 112, 97, 115, 116, 101, 46, 98, 111, 111, 107, 41, 46, 115, 117, 114, 101, 108, 121]], p) := hd
  obtain ⟨xs, m, _, hx, hl, hlen, hel⟩ := DataW.trod_array Tryd.underlying164 hd'
  obtain ⟨y0, y1, hxs⟩ := len2 hlen
  rw [co164] at hl
  obtain ⟨c0, c1, hcs⟩ := len2 hl
  have h0 := hel 0 (by decide)
  have h1 := hel 1 (by decide)
  rw [hcs, co163, hxs] at h0 h1
  rw [hxs] at hx
  simp only [Prod.mk.injEq, DataW.agg.injEq, List.map_cons, List.map_nil, List.cons.injEq] at hx
  obtain ⟨⟨e0, e1, _⟩, _⟩ := hx
  have h0' : DataW.trod (funcToken Tryd.prog) Tryd.prog W 0 (fun _ => true) true m 163 [c0] = some y0 := h0
  have h1' : DataW.trod (funcToken Tryd.prog) Tryd.prog W 0 (fun _ => true) true m 163 [c1] = some y1 := h1
  rw [show y0 = (y0.1, y0.2) from rfl, ← e0] at h0'
  rw [show y1 = (y1.1, y1.2) from rfl, ← e1] at h1'
  obtain rfl := func_of_trod (f0 := 133) Tryd.underlying163 (by kernel_rfl) h0'
  obtain rfl := func_of_trod (f0 := 134) Tryd.underlying163 (by kernel_rfl) h1'
  have k0 := World.var?_cell hg hv 0
  have k1 := World.var?_cell hg hv 1
  have hca : cs = #[.func (.func 133) #[] #[], .func (.func 134) #[] #[]] := by rw [← hcs]
  rw [hca] at k0 k1
  exact ⟨by simpa using k0, by simpa using k1⟩
theorem door_met (os : Os) (args : Array Value) : laidMetH Tryd.prog laidAsks ((World.doorLaid Tryd.prog 600 os).forCall (fun _ _ => 0) ⟨#[], args, []⟩).memory :=
  laidMetH_of_parts3 (fuel := 8) (laidMet_of_run' 8 (by kernel_rfl) (by kernel_rfl)) (by kernel_rfl) (by kernel_rfl)
theorem own : ownKnob Tryd.prog.godebug = none := by kernel_rfl
theorem laidOut : laidOutB Tryd.prog = true := by kernel_rfl
end Go.Proofs.YtghpoldlddghjaaDoor
