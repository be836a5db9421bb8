/- The law PasteNext: its walk, its row and its card. Conditions: none. -/
import Derived.Test.YtghpoldlddghjaaDoorM4
import Derived.Test.YtghpoldlddghjaaDoorCards
import Derived.Test.YtghpoldlddghjaaDoorTie
import Derived.WalkKit
import Derived.ProofKit
import Derived.OpenShut
import Derived.Deep.DeepHandedRow
import Derived.Deep.DeepWitnessRowRef
namespace Go.Proofs.YtghpoldlddghjaaDoor
open Go Go.RowKit
open Go.Proofs.YtghpoldlddghjaaDoorW.PrintWords Go.Proofs.YtghpoldlddghjaaDoorW.PrintMore Go.Proofs.YtghpoldlddghjaaDoor.PPasteTrue
attribute [local go_sem] max2_int min2_int max_two min_two
def litS (k : Int) : S59 := ⟨k, true⟩
def notS (k : Int) : S59 := ⟨k, false⟩
theorem ap_ge {b : Bk} (hs : SP b) (t : S59) : -1 ≤ apI b t := by
  unfold apI
  cases hc : canB (withT b t) with
  | false => rw [if_neg Bool.false_ne_true]; exact Int.le_refl _
  | true =>
    rw [if_pos rfl]
    have hsx : SP (withT b t) := ⟨hs.s1, hs.p1, hs.s, hs.p, hs.d⟩
    obtain ⟨lo, hi, hk, hlo, hhi, hall⟩ := known_some hsx hc
    rw [hk]
    have := (hall lo hlo).2
    omega
theorem worst1_ap {b : Bk} (hs : SP b) (k r : Int) (is : Bool) (hr : -1 ≤ r) : worst1 b k r is = mx r (apI b ⟨k, is⟩) := by
  unfold worst1 apI
  rw [show can1 b k is = canB (withT b ⟨k, is⟩) from rfl, show k1 b k is = knownR (pB (withT b ⟨k, is⟩)) from rfl]
  cases canB (withT b ⟨k, is⟩)
  · simp [mx]; omega
  · simp
theorem worst_ap {b : Bk} (hs : SP b) (k : Int) : worstTo b k 2 = mx (apI b (litS k)) (apI b (notS k)) := by
  have e : worstTo b k 2 = worst1 b k (worst1 b k (-1) true) false := by
    have e1 := worstTo_succ b k 1
    have e2 := worstTo_succ b k 0
    rw [e1, e2]
    simp [litAt, worstTo]
  have h1 := ap_ge hs ⟨k, true⟩
  have h2 := ap_ge hs ⟨k, false⟩
  rw [e, worst1_ap hs k (-1) true (by omega)]
  have h3 : mx (-1) (apI b ⟨k, true⟩) = apI b ⟨k, true⟩ := by unfold mx; split <;> omega
  rw [h3, worst1_ap hs k _ false h1]
  rfl
theorem min_step (W : Nat → Int) (F : Nat → Int × Int) (h0 : F 0 = (-1, 0)) (hF : ∀ k, F (k + 1) = if (F k).1 < 0 ∨ W k < (F k).2 then ((k : Int), W k) else F k) :
    ∀ n : Nat, (n = 0 ∧ F n = (-1, 0)) ∨ ∃ a : Nat, a < n ∧ F n = ((a : Int), W a) ∧ ∀ k : Nat, k < n → W a < W k ∨ (W a = W k ∧ a ≤ k)
  | 0 => .inl ⟨rfl, h0⟩
  | n + 1 => by
    refine .inr ?_
    rw [hF]
    rcases min_step W F h0 hF n with ⟨h1, h2⟩ | ⟨a, ha, h1, h2⟩
    · rw [h2]
      refine ⟨n, by omega, by rw [if_pos (.inl (by decide))], fun k hk => .inr ⟨?_, by omega⟩⟩
      have e : k = n := by omega
      rw [e]
    · rw [h1]
      by_cases hlt : W n < W a
      · refine ⟨n, by omega, by rw [if_pos (.inr hlt)], fun k hk => ?_⟩
        rcases Nat.lt_or_eq_of_le (Nat.le_of_lt_succ hk) with h | rfl
        · have := h2 k h
          exact .inl (by omega)
        · exact .inr ⟨rfl, Nat.le_refl _⟩
      · refine ⟨a, by omega, by rw [if_neg (by simp; omega)], fun k hk => ?_⟩
        rcases Nat.lt_or_eq_of_le (Nat.le_of_lt_succ hk) with h | rfl
        · exact h2 k h
        · rcases Int.lt_or_le (W a) (W k) with h | h
          · exact .inl h
          · exact .inr ⟨by omega, by omega⟩
theorem nextF_min {b : Bk} (n : Nat) : (n = 0 ∧ nextF b n = (-1, 0)) ∨ ∃ a : Nat, a < n ∧ nextF b n = ((a : Int), worstTo b a 2) ∧ ∀ k : Nat, k < n → worstTo b a 2 < worstTo b k 2 ∨ (worstTo b a 2 = worstTo b k 2 ∧ a ≤ k) :=
  min_step (fun k => worstTo b k 2) (nextF b) rfl (fun k => by rw [nextF_succ]; rfl) n
theorem x_min {ρ : Operand → Value} {o : Oper} {w : World} {x y : Operand} (ho : o.op = .call { callee := .builtin .min, args := #[x, y], argTypes := #[3, 3] }) {i j : Int} (hx : ρ x = .int .i64 i) (hy : ρ y = .int .i64 j) : (execOp ρ o).run Tryd.prog w = .ok (.value (.int .i64 (mn i j))) w := by
  unfold execOp
  simp only [ho]
  go_simp
  rfl
theorem x_gtT {ρ : Operand → Value} {o : Oper} {w : World} {x y : Operand} {t' : TypeId} (ho : o.op = .binOp .gtr 3 x y t') {i j : Int} (hx : ρ x = .int .i64 i) (hy : ρ y = .int .i64 j) (h : j < i) : (execOp ρ o).run Tryd.prog w = .ok (.value (.bool true)) w := by
  unfold execOp
  simp only [ho, hx, hy]
  go_simp
theorem mn_gt {i j c : Int} (h1 : c < i) (h2 : c < j) : c < mn i j := by
  unfold mn
  split <;> assumption
theorem ap_at {h : Hd} {b : Bk} {w : World} (hb : BkIn w h b) (hsa : Sane b) (t : S59) (hc : checkB (withT b t) = true) (hl : b.trials.length ≤ 1000) {p : Int} (hp : p = apI b t) :
    Calls Tryd.prog 40 #[.agg (h.cells b), .agg #[.int .i64 t.f0, .bool t.f1]] w fun e w' => e = .returned (.int .i64 p) ∧ Below w.heap.size w w' := by
  rw [hp]
  exact apart_calls hb hsa t hc hl
set_option maxRecDepth 20000 in
set_option maxHeartbeats 1600000 in
theorem pasteNext_calls {h : Hd} {b : Bk} {w : World} (hg : Asks w) (hb : BkIn w h b) (n : Int) : Calls Tryd.prog 8 #[.agg (h.cells b), .int .i64 n] w fun e w' => e = .returned (.bool true) ∧ Below w.heap.size w w' := by
  have HG := Lib.hid hg
  clear hg
  have HO := Lib.hid (One.start w (h.cells b) 27)
  cases hsd : soundB b with
  | false =>
    have HS := Lib.hid hsd
    clear hsd
    go_enter Tryd.func8, Tryd.ntmps8
    go_wp2_with (first | (with_reducible refine b_box (t := 27) rfl rfl rfl ?_) | ((with_reducible refine gate_dst (N := 16) rfl ?_); refine wpList_load_row rfl 27 _ rfl w.heap.size rfl 27 (h.cells b) (0, 0) _ HO.out.b1 Tryd.underlying27 rfl i27 ?_) | (go_at_call 11; refine (sound_calls (hb.below HO.out.below)).mono ?_; rintro e w1 ⟨rfl, hb1⟩; rw [HS.out]; have HB1 := Lib.hid (below_step HO.out.below hb1); clear hb1) | (go_at_call 12; refine (rubbed_calls (HG.out.below HB1.out)).mono ?_; rintro e w2 ⟨rfl, hb2⟩; have HB2 := Lib.hid (below_step HB1.out hb2); clear hb2))
    go_ret
    exact ⟨rfl, HB2.out⟩
  | true =>
    have HS := Lib.hid hsd
    obtain ⟨hck, hsa, hgd⟩ := sound_good hsd
    have HSA := Lib.hid hsa
    have ht6 := hgd.t1
    by_cases h6 : b.trials.length = 6
    · have h6b : ((b.trials.length : Int) == 6) = true := by rw [h6]; rfl
      clear hsd hck hsa hgd h6
      go_enter Tryd.func8, Tryd.ntmps8
      go_wp2_with (first | (with_reducible refine b_box (t := 27) rfl rfl rfl ?_) | ((with_reducible refine gate_dst (N := 16) rfl ?_); refine wpList_load_row rfl 27 _ rfl w.heap.size rfl 27 (h.cells b) (0, 0) _ HO.out.b1 Tryd.underlying27 rfl i27 ?_) | (go_at_call 11; refine (sound_calls (hb.below HO.out.below)).mono ?_; rintro e w1 ⟨rfl, hb1⟩; rw [HS.out]; have HO1 := Lib.hid (HO.out.on hb1); have c4 := HO1.out.c4 (A := h.A4) rfl; have HB1 := Lib.hid (below_step HO.out.below hb1); clear hb1) | (go_at_call 12; refine (rubbed_calls (HG.out.below HB1.out)).mono ?_; rintro e w2 ⟨rfl, hb2⟩; have HB2 := Lib.hid (below_step HB1.out hb2); clear hb2))
      go_ret
      exact ⟨rfl, HB2.out⟩
    · have h6b : ((b.trials.length : Int) == 6) = false := by rw [beq_eq_false_iff_ne]; omega
      have HT5 := Lib.hid (show b.trials.length ≤ 5 by omega)
      have HCK := Lib.hid hck
      have HGD := Lib.hid hgd
      clear h6 hsd
      cases hcan : canB b with
      | false =>
        have hask : askE b true = 22 := by unfold askE; rw [if_pos hck, if_pos rfl, hcan]; rfl
        have HA := Lib.hid hask
        have HN := Lib.hid (show nextR b = (0, 22) by unfold nextR; rw [if_neg (by rw [hask]; decide), hask])
        have HK := Lib.hid (show kR b = (0, 0) by unfold kR; rw [if_neg (by rw [hask]; decide)])
        clear hask hcan hck hsa hgd
        go_enter Tryd.func8, Tryd.ntmps8
        go_wp2_with (first | (with_reducible refine b_box (t := 27) rfl rfl rfl ?_) | ((with_reducible refine gate_dst (N := 16) rfl ?_); refine wpList_load_row rfl 27 _ rfl w.heap.size rfl 27 (h.cells b) (0, 0) _ HO.out.b1 Tryd.underlying27 rfl i27 ?_) | (go_at_call 11; refine (sound_calls (hb.below HO.out.below)).mono ?_; rintro e w1 ⟨rfl, hb1⟩; rw [HS.out]; have HO1 := Lib.hid (HO.out.on hb1); have c4 := HO1.out.c4 (A := h.A4) rfl; clear hb1) | ((with_reducible refine gate_dst (N := 27) rfl ?_); refine wpList_load_row rfl 27 _ rfl w.heap.size rfl 27 (h.cells b) (0, 0) _ HO1.out.b1 Tryd.underlying27 rfl i27 ?_) | (go_at_call 39; refine (Next_calls (hb.below HO1.out.below) HSA.out).mono ?_; rintro e w2 ⟨rfl, hb2⟩; rw [HN.out]; have HO2 := Lib.hid (HO1.out.on hb2); clear hb2) | ((with_reducible refine gate_dst (N := 32) rfl ?_); refine wpList_load_row rfl 27 _ rfl w.heap.size rfl 27 (h.cells b) (0, 0) _ HO2.out.b1 Tryd.underlying27 rfl i27 ?_) | (go_at_call 17; refine (Power_calls (hb.below HO2.out.below) HSA.out).mono ?_; rintro e w3 ⟨rfl, hb3⟩; rw [HK.out, HA.out]; simp only [s39]; have HB3 := Lib.hid (HO2.out.on hb3).below; clear hb3) | (go_at_call 12; refine (rubbed_calls (HG.out.below (HB3.out.alloc HB3.out.size _))).mono ?_; rintro e w4 ⟨rfl, hb4⟩; have HB4 := Lib.hid (below_step (HB3.out.alloc HB3.out.size (.cells #[.int .i64 0, .int .i64 0] 39)) hb4); clear hb4))
        go_ret
        exact ⟨rfl, HB4.out⟩
      | true =>
        have hask : askE b true = 0 := by unfold askE; rw [if_pos hck, if_pos rfl, hcan]; rfl
        obtain ⟨lo, hi, hk, hlo, hhi, hall⟩ := known_some hgd.sp hcan
        have HA := Lib.hid hask
        have HK := Lib.hid (show kR b = (lo, hi) by unfold kR; rw [if_pos hask, hk])
        by_cases heq : lo = hi
        · have hq : (lo == hi) = true := by simp [heq]
          have HN := Lib.hid (show nextR b = (0, 4) by unfold nextR; rw [if_pos hask, hk, if_pos heq])
          clear hask hcan hck hsa hgd hk hlo hhi hall heq
          go_enter Tryd.func8, Tryd.ntmps8
          go_wp2_with (first | (with_reducible refine b_box (t := 27) rfl rfl rfl ?_) | ((with_reducible refine gate_dst (N := 16) rfl ?_); refine wpList_load_row rfl 27 _ rfl w.heap.size rfl 27 (h.cells b) (0, 0) _ HO.out.b1 Tryd.underlying27 rfl i27 ?_) | (go_at_call 11; refine (sound_calls (hb.below HO.out.below)).mono ?_; rintro e w1 ⟨rfl, hb1⟩; rw [HS.out]; have HO1 := Lib.hid (HO.out.on hb1); have c4 := HO1.out.c4 (A := h.A4) rfl; clear hb1) | ((with_reducible refine gate_dst (N := 27) rfl ?_); refine wpList_load_row rfl 27 _ rfl w.heap.size rfl 27 (h.cells b) (0, 0) _ HO1.out.b1 Tryd.underlying27 rfl i27 ?_) | (go_at_call 39; refine (Next_calls (hb.below HO1.out.below) HSA.out).mono ?_; rintro e w2 ⟨rfl, hb2⟩; rw [HN.out]; have HO2 := Lib.hid (HO1.out.on hb2); clear hb2) | ((with_reducible refine gate_dst (N := 32) rfl ?_); refine wpList_load_row rfl 27 _ rfl w.heap.size rfl 27 (h.cells b) (0, 0) _ HO2.out.b1 Tryd.underlying27 rfl i27 ?_) | (go_at_call 17; refine (Power_calls (hb.below HO2.out.below) HSA.out).mono ?_; rintro e w3 ⟨rfl, hb3⟩; rw [HK.out, HA.out]; simp only [s39]; have HB3 := Lib.hid (HO2.out.on hb3).below; clear hb3) | (go_at_call 12; refine (rubbed_calls (HG.out.below (HB3.out.alloc HB3.out.size _))).mono ?_; rintro e w4 ⟨rfl, hb4⟩; have HB4 := Lib.hid (below_step (HB3.out.alloc HB3.out.size (.cells #[.int .i64 lo, .int .i64 hi] 39)) hb4); clear hb4))
          go_ret
          exact ⟨rfl, HB4.out⟩
        · have hq : (lo == hi) = false := by simpa using heq
          have hu0 := hgd.u0
          have hu1 := hgd.u1
          rcases nextF_min (b := b) b.surfs.length with ⟨h0, _⟩ | ⟨a, ha, h1, h2⟩
          · omega
          have HN := Lib.hid (show nextR b = ((a : Int), 0) by unfold nextR; rw [if_pos hask, hk, if_neg heq, h1])
          have HMIN := Lib.hid h2
          have hfit := Lib.hid (show inB (a : Int) 0 ((b.surfs.length : Int) - 1) = true by rw [inB_iff]; omega)
          clear hask hcan hck hsa hgd hk hlo hhi hall heq h1 h2
          go_enter Tryd.func8, Tryd.ntmps8
          go_upto_region 11 with (first | (with_reducible refine b_box (t := 27) rfl rfl rfl ?_) | ((with_reducible refine gate_dst (N := 16) rfl ?_); refine wpList_load_row rfl 27 _ rfl w.heap.size rfl 27 (h.cells b) (0, 0) _ HO.out.b1 Tryd.underlying27 rfl i27 ?_) | (go_at_call 11; refine (sound_calls (hb.below HO.out.below)).mono ?_; rintro e w1 ⟨rfl, hb1⟩; rw [HS.out]; have HO1 := Lib.hid (HO.out.on hb1); have c4 := HO1.out.c4 (A := h.A4) rfl; clear hb1) | ((with_reducible refine gate_dst (N := 27) rfl ?_); refine wpList_load_row rfl 27 _ rfl w.heap.size rfl 27 (h.cells b) (0, 0) _ HO1.out.b1 Tryd.underlying27 rfl i27 ?_) | (go_at_call 39; refine (Next_calls (hb.below HO1.out.below) HSA.out).mono ?_; rintro e w2 ⟨rfl, hb2⟩; rw [HN.out]; have HO2 := Lib.hid (HO1.out.on hb2); clear hb2) | ((with_reducible refine gate_dst (N := 32) rfl ?_); refine wpList_load_row rfl 27 _ rfl w.heap.size rfl 27 (h.cells b) (0, 0) _ HO2.out.b1 Tryd.underlying27 rfl i27 ?_) | (go_at_call 17; refine (Power_calls (hb.below HO2.out.below) HSA.out).mono ?_; rintro e w3 ⟨rfl, hb3⟩; rw [HK.out, HA.out]; simp only [s39]; have HO3 := Lib.hid (HO2.out.on hb3); clear hb3))
          have hO4 := HO3.out.on (below_alloc (Below.refl _ _) (.cells #[.int .i64 lo, .int .i64 hi] 39))
          generalize w3.alloc (.cells #[.int .i64 lo, .int .i64 hi] 39) = W4 at hO4 ⊢
          have c2 := hO4.c2 (A := h.A2) rfl
          have zz := blk_lt hO4.b1
          have HO4 := Lib.hid hO4
          clear hO4 c4
          go_upto_region 14 with (first | (go_at_call 24; refine (fits_calls _ _ _ _).mono ?_; rintro e w5 ⟨rfl, hb5⟩; rw [hfit.out]; have HO5 := Lib.hid (HO4.out.on hb5); have c25 := HO5.out.c2 (A := h.A2) rfl; have zz5 := blk_lt HO5.out.b1; clear hb5) | (go_at_call 26; refine (spin_calls n b.surfs.length (by omega) (by omega) _).mono ?_; rintro e w6 ⟨rfl, hb6⟩; have HO6 := Lib.hid (HO5.out.on hb6); clear hb6))
          obtain ⟨an, han⟩ : ∃ an, an = a := ⟨_, rfl⟩
          subst han
          obtain ⟨hs1, hs2⟩ := (spin_f n b.surfs.length (by omega) (by omega)).2
          obtain ⟨k, hk⟩ := Int.eq_ofNat_of_zero_le hs1
          rw [hk] at hs2 ⊢
          have hkl : k < b.surfs.length := by omega
          clear hk hs1 hs2
          have HCAT := Lib.hid (check_with (t := ⟨an, true⟩) HCK.out HT5.out (Int.natCast_nonneg an) (show (an : Int) < b.surfs.length by omega) hu1)
          have HCAF := Lib.hid (check_with (t := ⟨an, false⟩) HCK.out HT5.out (Int.natCast_nonneg an) (show (an : Int) < b.surfs.length by omega) hu1)
          have HCKT := Lib.hid (check_with (t := ⟨k, true⟩) HCK.out HT5.out (Int.natCast_nonneg k) (show (k : Int) < b.surfs.length by omega) hu1)
          have HCKF := Lib.hid (check_with (t := ⟨k, false⟩) HCK.out HT5.out (Int.natCast_nonneg k) (show (k : Int) < b.surfs.length by omega) hu1)
          have hmin := HMIN.out k hkl
          rw [worst_ap HGD.out.sp, worst_ap HGD.out.sp] at hmin
          have hp1 := ap_ge HGD.out.sp (litS an)
          have hq1 := ap_ge HGD.out.sp (notS an)
          have hr1 := ap_ge HGD.out.sp (litS k)
          have ht1 := ap_ge HGD.out.sp (notS k)
          obtain ⟨p, hp⟩ : ∃ p, p = apI b (litS an) := ⟨_, rfl⟩
          obtain ⟨q, hq'⟩ : ∃ q, q = apI b (notS an) := ⟨_, rfl⟩
          obtain ⟨r, hr⟩ : ∃ r, r = apI b (litS k) := ⟨_, rfl⟩
          obtain ⟨t, ht⟩ : ∃ t, t = apI b (notS k) := ⟨_, rfl⟩
          rw [← hp, ← hq', ← hr, ← ht] at hmin
          rw [← hp] at hp1
          rw [← hq'] at hq1
          rw [← hr] at hr1
          rw [← ht] at ht1
          have HPp := Lib.hid hp
          have HPq := Lib.hid hq'
          have HPr := Lib.hid hr
          have HPt := Lib.hid ht
          have HM := Lib.hid hmin
          clear hp hq' hr ht hmin HMIN
          rename_i K hK
          refine draw_inv2 mixed (by kernel_rfl) (fun bb a wq => a = ⟨#[.agg (h.cells b), .int .i64 n, .pointer (some { block := w.heap.size, off := 0 }), undef, .bool false, .int .i64 an, .int .i64 0, .pointer (some { block := w3.heap.size, off := 0 }), .int .i64 0, .int .i64 k, (if bb 16 then .int .i64 p else undef), (if bb 17 then .int .i64 q else undef), (if bb 18 then .int .i64 r else undef), (if bb 19 then .int .i64 t else undef), undef, undef, .agg (h.cells b), .bool true, .bool false, .bool false, .pointer (some { block := w.heap.size, off := 4 }), .slice h.A4 b.trials.length h.c4, .int .i64 b.trials.length, .bool false, .bool false, undef, .tuple #[.int .i64 an, .int .i64 0], .agg (h.cells b), .tuple #[.int .i64 an, .int .i64 0], .int .i64 an, .int .i64 0, .tuple #[.agg #[.int .i64 lo, .int .i64 hi], .int .i64 0], .agg (h.cells b), .tuple #[.agg #[.int .i64 lo, .int .i64 hi], .int .i64 0], .agg #[.int .i64 lo, .int .i64 hi], .int .i64 0, .int .i64 0, .bool false, undef, undef, undef, undef, undef, undef, undef, undef, undef, undef, undef, undef, undef, undef, .int .i64 0, .bool false, .pointer (some { block := w3.heap.size, off := 0 }), .int .i64 lo, .pointer (some { block := w3.heap.size, off := 1 }), .int .i64 hi, .bool false, .bool false, .bool false, .int .i64 0, .bool false, .bool false, undef, undef, undef, undef, undef, undef, .bool false, .bool false, .int .i64 0, .bool false, undef, .int .i64 an, .pointer (some { block := w.heap.size, off := 2 }), .slice h.A2 b.surfs.length h.c2, .int .i64 b.surfs.length, .int .i64 (b.surfs.length - 1), .bool true, .bool false, .int .i64 n, .pointer (some { block := w.heap.size, off := 2 }), .slice h.A2 b.surfs.length h.c2, .int .i64 b.surfs.length, .int .i64 k, (if bb 0 then .agg (h.cells b) else undef), (if bb 1 then .int .i64 an else undef), (if bb 2 then .agg #[.int .i64 an, .bool true] else undef), (if bb 3 then .int .i64 p else undef), (if bb 4 then .agg (h.cells b) else undef), (if bb 5 then .int .i64 an else undef), (if bb 6 then .agg #[.int .i64 an, .bool false] else undef), (if bb 7 then .int .i64 q else undef), (if bb 8 then .agg (h.cells b) else undef), (if bb 9 then .int .i64 k else undef), (if bb 10 then .agg #[.int .i64 k, .bool true] else undef), (if bb 11 then .int .i64 r else undef), (if bb 12 then .agg (h.cells b) else undef), (if bb 13 then .int .i64 k else undef), (if bb 14 then .agg #[.int .i64 k, .bool false] else undef), (if bb 15 then .int .i64 t else undef), undef, undef, undef, undef, undef, undef, undef, undef, undef, undef, undef, undef, undef, undef, undef, undef, undef, undef, undef, undef, undef, undef, undef, undef, undef, undef, undef, undef, undef, undef, undef, undef], []⟩ ∧ One w (h.cells b) 27 wq) ?_ ?_ ?_
          · exact ⟨by simp, by simpa using HO6.out.on (Below.refl _ _).drew⟩
          · intro i hi bb a wq hI hbi hcame
            obtain ⟨rfl, hst⟩ := hI
            rcases i with _ | _ | _ | _ | _ | _ | _ | _ | _ | _ | _ | _ | _ | _ | _ | _ | _ | _ | _ | _ | i
            · refine op_value rfl rfl (x_load (g := w.heap.size) rfl rfl hst.b1 Tryd.underlying27 rfl i27) ⟨by simp [Act.put, Act.eval, upd], ?_⟩
              simpa [upd] using hst
            · refine op_value rfl rfl (x_assign (.inr rfl)) ⟨by simp [Act.put, Act.eval, upd], ?_⟩
              simpa [upd] using hst
            · have hh := hcame
              simp [Came, Region.binds] at hh
              refine op_call rfl rfl (run_call Tryd.func30 (by kernel_rfl) rfl rfl rfl (args := #[.int .i64 an]) (by simp [Act.eval, hh])) ((lit_calls (an : Int) _).mono ?_)
              rintro e w5 ⟨rfl, hb5⟩
              refine ⟨_, rfl, by simp [Act.put, upd, hh], ?_⟩
              simpa [upd] using hst.on hb5
            · have hh := hcame
              simp [Came, Region.binds] at hh
              refine op_call rfl rfl (run_call Tryd.func40 (by kernel_rfl) rfl rfl rfl (args := #[.agg (h.cells b), .agg #[.int .i64 an, .bool true]]) (by simp [Act.eval, hh])) ((ap_at (hb.below hst.below) HSA.out ⟨an, true⟩ HCAT.out (by have := HT5.out; omega) HPp.out).mono ?_)
              rintro e w5 ⟨rfl, hb5⟩
              refine ⟨_, rfl, by simp [Act.put, upd, hh], ?_⟩
              simpa [upd] using hst.on hb5
            · refine op_value rfl rfl (x_load (g := w.heap.size) rfl rfl hst.b1 Tryd.underlying27 rfl i27) ⟨by simp [Act.put, Act.eval, upd], ?_⟩
              simpa [upd] using hst
            · refine op_value rfl rfl (x_assign (.inr rfl)) ⟨by simp [Act.put, Act.eval, upd], ?_⟩
              simpa [upd] using hst
            · have hh := hcame
              simp [Came, Region.binds] at hh
              refine op_call rfl rfl (run_call Tryd.func31 (by kernel_rfl) rfl rfl rfl (args := #[.int .i64 an]) (by simp [Act.eval, hh])) ((not_calls (an : Int) _).mono ?_)
              rintro e w5 ⟨rfl, hb5⟩
              refine ⟨_, rfl, by simp [Act.put, upd, hh], ?_⟩
              simpa [upd] using hst.on hb5
            · have hh := hcame
              simp [Came, Region.binds] at hh
              refine op_call rfl rfl (run_call Tryd.func40 (by kernel_rfl) rfl rfl rfl (args := #[.agg (h.cells b), .agg #[.int .i64 an, .bool false]]) (by simp [Act.eval, hh])) ((ap_at (hb.below hst.below) HSA.out ⟨an, false⟩ HCAF.out (by have := HT5.out; omega) HPq.out).mono ?_)
              rintro e w5 ⟨rfl, hb5⟩
              refine ⟨_, rfl, by simp [Act.put, upd, hh], ?_⟩
              simpa [upd] using hst.on hb5
            · refine op_value rfl rfl (x_load (g := w.heap.size) rfl rfl hst.b1 Tryd.underlying27 rfl i27) ⟨by simp [Act.put, Act.eval, upd], ?_⟩
              simpa [upd] using hst
            · refine op_value rfl rfl (x_assign (.inr rfl)) ⟨by simp [Act.put, Act.eval, upd], ?_⟩
              simpa [upd] using hst
            · have hh := hcame
              simp [Came, Region.binds] at hh
              refine op_call rfl rfl (run_call Tryd.func30 (by kernel_rfl) rfl rfl rfl (args := #[.int .i64 k]) (by simp [Act.eval, hh])) ((lit_calls (k : Int) _).mono ?_)
              rintro e w5 ⟨rfl, hb5⟩
              refine ⟨_, rfl, by simp [Act.put, upd, hh], ?_⟩
              simpa [upd] using hst.on hb5
            · have hh := hcame
              simp [Came, Region.binds] at hh
              refine op_call rfl rfl (run_call Tryd.func40 (by kernel_rfl) rfl rfl rfl (args := #[.agg (h.cells b), .agg #[.int .i64 k, .bool true]]) (by simp [Act.eval, hh])) ((ap_at (hb.below hst.below) HSA.out ⟨k, true⟩ HCKT.out (by have := HT5.out; omega) HPr.out).mono ?_)
              rintro e w5 ⟨rfl, hb5⟩
              refine ⟨_, rfl, by simp [Act.put, upd, hh], ?_⟩
              simpa [upd] using hst.on hb5
            · refine op_value rfl rfl (x_load (g := w.heap.size) rfl rfl hst.b1 Tryd.underlying27 rfl i27) ⟨by simp [Act.put, Act.eval, upd], ?_⟩
              simpa [upd] using hst
            · refine op_value rfl rfl (x_assign (.inr rfl)) ⟨by simp [Act.put, Act.eval, upd], ?_⟩
              simpa [upd] using hst
            · have hh := hcame
              simp [Came, Region.binds] at hh
              refine op_call rfl rfl (run_call Tryd.func31 (by kernel_rfl) rfl rfl rfl (args := #[.int .i64 k]) (by simp [Act.eval, hh])) ((not_calls (k : Int) _).mono ?_)
              rintro e w5 ⟨rfl, hb5⟩
              refine ⟨_, rfl, by simp [Act.put, upd, hh], ?_⟩
              simpa [upd] using hst.on hb5
            · have hh := hcame
              simp [Came, Region.binds] at hh
              refine op_call rfl rfl (run_call Tryd.func40 (by kernel_rfl) rfl rfl rfl (args := #[.agg (h.cells b), .agg #[.int .i64 k, .bool false]]) (by simp [Act.eval, hh])) ((ap_at (hb.below hst.below) HSA.out ⟨k, false⟩ HCKF.out (by have := HT5.out; omega) HPt.out).mono ?_)
              rintro e w5 ⟨rfl, hb5⟩
              refine ⟨_, rfl, by simp [Act.put, upd, hh], ?_⟩
              simpa [upd] using hst.on hb5
            · have hh := hcame
              simp [Came, Region.binds] at hh
              refine op_value rfl rfl (x_assign (.inl rfl)) ⟨by simp [Act.put, Act.eval, upd, hh], ?_⟩
              simpa [upd] using hst
            · have hh := hcame
              simp [Came, Region.binds] at hh
              refine op_value rfl rfl (x_assign (.inl rfl)) ⟨by simp [Act.put, Act.eval, upd, hh], ?_⟩
              simpa [upd] using hst
            · have hh := hcame
              simp [Came, Region.binds] at hh
              refine op_value rfl rfl (x_assign (.inl rfl)) ⟨by simp [Act.put, Act.eval, upd, hh], ?_⟩
              simpa [upd] using hst
            · have hh := hcame
              simp [Came, Region.binds] at hh
              refine op_value rfl rfl (x_assign (.inl rfl)) ⟨by simp [Act.put, Act.eval, upd, hh], ?_⟩
              simpa [upd] using hst
            · simp at hi; omega
          · intro bb a wf hI hall
            obtain ⟨rfl, hst⟩ := hI
            refine hK _ _ ?_
            simp only [hall 0 (by simp), hall 1 (by simp), hall 2 (by simp), hall 3 (by simp), hall 4 (by simp), hall 5 (by simp), hall 6 (by simp), hall 7 (by simp), hall 8 (by simp), hall 9 (by simp), hall 10 (by simp), hall 11 (by simp), hall 12 (by simp), hall 13 (by simp), hall 14 (by simp), hall 15 (by simp), hall 16 (by simp), hall 17 (by simp), hall 18 (by simp), hall 19 (by simp), if_true]
            clear hall hK
            have HW := Lib.hid hst
            clear hst
            go_upto_region 16 with (first | fail)
            have hm := HM.out
            rw [show mx p q = (if p < q then q else p) from rfl, show mx r t = (if r < t then t else r) from rfl] at hm
            generalize (if p < q then q else p) = X at hm ⊢
            generalize (if r < t then t else r) = Y at hm ⊢
            have HMM := Lib.hid (mn_gt (c := -2) (mn_gt (c := -2) (show (-2 : Int) < p by omega) (show (-2 : Int) < q by omega)) (mn_gt (c := -2) (show (-2 : Int) < r by omega) (show (-2 : Int) < t by omega)))
            rcases hm with hm | ⟨hm, hak⟩
            · go_wp2_with (first | ((with_reducible refine gate_dst (N := 111) rfl ?_); refine b_value rfl (x_min (x := .tmp 109) (y := .tmp 110) (i := p) (j := q) rfl rfl rfl) ?_) | ((with_reducible refine gate_dst (N := 114) rfl ?_); refine b_value rfl (x_min (x := .tmp 112) (y := .tmp 113) (i := r) (j := t) rfl rfl rfl) ?_) | ((with_reducible refine gate_dst (N := 115) rfl ?_); refine b_value rfl (x_min (x := .tmp 111) (y := .tmp 114) (i := mn p q) (j := mn r t) rfl rfl rfl) ?_) | ((with_reducible refine gate_dst (N := 116) rfl ?_); refine b_value rfl (x_gtT (x := .tmp 115) (y := .const (.int .i64 (-2))) (i := mn (mn p q) (mn r t)) (j := -2) rfl rfl rfl HMM.out) ?_) | (go_at_call 12; refine (rubbed_calls (HG.out.below HW.out.below)).mono ?_; rintro e w7 ⟨rfl, hb7⟩; have HB7 := Lib.hid (below_step HW.out.below hb7); clear hb7))
              go_ret
              exact ⟨rfl, HB7.out⟩
            · have hxy : ¬ X < Y := by omega
              have hbe : (X == Y) = true := by rw [hm]; exact beq_self_eq_true _
              have hak' : (an : Int) ≤ (k : Int) := by omega
              clear hm
              go_wp2_with (first | ((with_reducible refine gate_dst (N := 111) rfl ?_); refine b_value rfl (x_min (x := .tmp 109) (y := .tmp 110) (i := p) (j := q) rfl rfl rfl) ?_) | ((with_reducible refine gate_dst (N := 114) rfl ?_); refine b_value rfl (x_min (x := .tmp 112) (y := .tmp 113) (i := r) (j := t) rfl rfl rfl) ?_) | ((with_reducible refine gate_dst (N := 115) rfl ?_); refine b_value rfl (x_min (x := .tmp 111) (y := .tmp 114) (i := mn p q) (j := mn r t) rfl rfl rfl) ?_) | ((with_reducible refine gate_dst (N := 116) rfl ?_); refine b_value rfl (x_gtT (x := .tmp 115) (y := .const (.int .i64 (-2))) (i := mn (mn p q) (mn r t)) (j := -2) rfl rfl rfl HMM.out) ?_) | (go_at_call 12; refine (rubbed_calls (HG.out.below HW.out.below)).mono ?_; rintro e w7 ⟨rfl, hb7⟩; have HB7 := Lib.hid (below_step HW.out.below hb7); clear hb7))
              go_ret
              exact ⟨rfl, HB7.out⟩
end Go.Proofs.YtghpoldlddghjaaDoor
namespace Go.Proofs.YtghpoldlddghjaaDoor.pasteNext
open Go Go.ChangeShapes Go.WideShapes Go.ChangeAt Go.RowKit
open Go.Proofs.YtghpoldlddghjaaDoorW.PrintWords Go.Proofs.YtghpoldlddghjaaDoorW.PrintMore Go.Proofs.YtghpoldlddghjaaDoor.PPasteTrue
set_option maxRecDepth 100000 in
theorem contract (H : Type) (enc : TypeId × Value → H) (W : World) (base : Nat) (args : Array Value) (ds gs : List (DataW H)) (before : List MemPlace)
    (hval : ∀ (j : Nat) t v, Tryd.f8.params[j]? = some t → args[j]? = some v → Value.okWide Tryd.prog W .any base t v)
    (hW : DataW.Whole enc Tryd.prog Tryd.f8.params.toList Rows.pasteNextSpec.vars false W args.toList ds gs before) (hL : laidMetH Tryd.prog Rows.pasteNextRow.laid W) :
    Calls Tryd.prog 8 args W fun e W' => ∃ v, e = .returned v ∧ Rows.pasteNextSpec.post enc Tryd.prog Tryd.f8 false true false false W args v W' := by
  have hW' := hW
  obtain ⟨p, q, hA0, hV, rfl, hfz, hnd⟩ := hW
  have hA : DataW.TrodAll enc Tryd.prog W 0 (fun _ => true) true Tryd.f8.params.toList args.toList ds p := hA0
  rw [Tryd.params8] at hA hval
  obtain ⟨v0, vs0, d0, ds0, p0, q0, hargs, rfl, rfl, h0, r0⟩ := trodAll_cons hA
  obtain ⟨v1, vs1, d1, ds1, p1, q1, rfl, rfl, rfl, h1, r1⟩ := trodAll_cons r0
  obtain ⟨rfl, rfl, rfl⟩ := trodAll_nil r1
  obtain rfl : args = #[v0, v1] := by cases args; simp_all
  obtain ⟨rfl, rfl⟩ := trodVars_none hV
  have k0 := h0
  have lt0 : ∀ x ∈ p0, x.block < W.heap.size := by obtain ⟨m, hm⟩ := k0; exact DataW.trod_lt m _ _ _ hm
  obtain ⟨hh, b, rfl, hb⟩ := open27 (hval 0 27 v0 rfl rfl) h0
  have k1 := h1
  obtain ⟨a1, rfl, rfl, rfl, w1⟩ := open_int Tryd.underlying3 (hval 1 3 v1 rfl rfl) h1
  clear hA0 hval
  refine (pasteNext_calls (asks_of_laid hL) hb a1).mono fun e W' ⟨he, bel⟩ => ?_
  subst he
  exact ⟨_, rfl, _, _, _, [], _, [], hW', trodAll_mk1 (shut_bool Tryd.underlying4 _), (trodAll_cons_mk (Below.trod laidOut (by kernel_rfl) (of_decide_eq_true (by kernel_rfl)) k0 bel lt0) (trodAll_cons_mk (shut_int Tryd.underlying3 w1) trodAll_mk0)), rfl, bel.frame _, fun h => by cases h⟩
theorem reads (os : Os) {H : Type} (enc : TypeId × Value → H) : ∃ places, DataW.whole enc Tryd.prog ((World.doorLaid Tryd.prog 600 os).forCall (fun _ _ => 0) ⟨#[], #[.agg #[.slice none 0 0, .slice none 0 0, .slice none 0 0, .int .i64 0, .slice none 0 0], .int .i64 0], []⟩).memory Tryd.f8.params.toList Rows.pasteNextSpec.vars false (#[.agg #[.slice none 0 0, .slice none 0 0, .slice none 0 0, .int .i64 0, .slice none 0 0], .int .i64 0] : Array Value).toList 8 = some ([.agg [.nil, .nil, .nil, .lit (.int .i64 0), .nil], .lit (.int .i64 0)], [], places) :=
  ⟨[], by kernel_rfl⟩
set_option maxRecDepth 100000 in
theorem lifted (os : Os) (started : os.Started) (H : Type) (enc : TypeId × Value → H) (F : Stop.Interp) :
    ReturnsInHanded {} Tryd.checked os 8 .any ((OpenSpec.ofChange Rows.pasteNextSpec).preRow enc Tryd.prog Tryd.f8 Rows.pasteNextRow.domain false Rows.pasteNextRow.laid) (((OpenSpec.ofChange Rows.pasteNextSpec).at F).post enc Tryd.prog Tryd.f8 false true false false) := by
  obtain ⟨places, hx⟩ := reads os enc
  refine returnsInHanded_of_row (C := Tryd.checked) (s := OpenSpec.ofChange Rows.pasteNextSpec) own started (by kernel_rfl) Tryd.func8
    (witness_row_atRef (enc := enc) (C := Tryd.checked) false (World.doorLaid Tryd.prog 600 os) #[.agg #[.slice none 0 0, .slice none 0 0, .slice none 0 0, .int .i64 0, .slice none 0 0], .int .i64 0] rfl (by kernel_rfl) (by kernel_rfl) (by kernel_rfl)
      (OpenSpec.preRow_of_cond 8 hx (by kernel_rfl) (fun k hk => by cases hk) (by kernel_rfl) (door_met os _))) ?_
  intro W base args ds gs before hval hW _ _ _ hL _ _
  exact contract H enc W base args ds gs before hval hW hL
theorem said : Rows.PasteNextSaid :=
  OpenClaim.holds_of_cond 8 Tryd.f8 rfl rfl rfl rfl rfl rfl rfl ⟨rfl, rfl, rfl, rfl, rfl⟩ rfl rfl rfl rfl rfl (by kernel_rfl) Tryd.func8 (by kernel_rfl)
    (of_decide_eq_true (by kernel_rfl)) (by unfold Func.isWrapper; first | (rw [if_pos (by decide +kernel)]; kernel_rfl) | (rw [if_neg (by decide +kernel)]; exact ⟨rfl, rfl⟩))
    (fun os started H enc _ F => by rw [OpenClaim.pre_eq_preRow]; exact lifted os started H enc F)
theorem plain (f : FuncId) (fn : Func) (hf : Tryd.pinned.checked.prog.funcNamed "lucifer/luciferlaw02.PasteNext" = some f) (hfn : Tryd.pinned.checked.prog.funcs[f]? = some fn) :
    false = Tryd.pinned.checked.prog.looks [] ∧ ∀ (j : Nat) t, fn.params[j]? = some t → Tryd.pinned.checked.prog.wantsStandIn t = false := by
  obtain rfl : f = 8 := Option.some.inj ((show Tryd.prog.funcNamed "lucifer/luciferlaw02.PasteNext" = some 8 by kernel_rfl).symm.trans hf) |>.symm
  obtain rfl : fn = Tryd.f8 := (Option.some.inj (Tryd.func8.symm.trans hfn)).symm
  refine ⟨by kernel_rfl, fun j t ht => ?_⟩
  rw [Tryd.params8] at ht
  have w0 : Tryd.prog.wantsStandIn 27 = false := by kernel_rfl
  have w1 : Tryd.prog.wantsStandIn 3 = false := by kernel_rfl
  have hm : t = 27 ∨ t = 3 := by simpa using Array.mem_of_getElem? ht
  rcases hm with rfl | rfl
  · exact w0
  · exact w1
theorem card : Rows.PasteNextCardSaid :=
  Claim7.holds_tied_plain_at .later [] _ _ _ _ said (fun _ h => by cases h) (by kernel_rfl) (fun _ h => by cases h) pasteNext_row_tie rfl ⟨rfl, rfl⟩ (by kernel_rfl) rfl plain (by kernel_rfl)
end Go.Proofs.YtghpoldlddghjaaDoor.pasteNext
namespace Go.Proofs.YtghpoldlddghjaaDoor
theorem pasteNext_card : Rows.PasteNextCardSaid := pasteNext.card
end Go.Proofs.YtghpoldlddghjaaDoor
