/- The walks of what the laws share, and a book that comes in. Conditions: none beyond what each law says. -/
import Derived.Test.YtghpoldlddghjaaDoorM3
import Derived.Test.YtghpoldlddghjaaDoorMX
import Derived.Deep.QuietTactic
import Derived.BigQuiet
import Derived.Lib.SmallJoins
import Derived.Test.YtghpoldlddghjaaDoorRows
import Derived.LaidMore
import Derived.LaidHandle
import Derived.OpenShut
set_option linter.unusedVariables false
set_option linter.unusedSimpArgs false
namespace Go.Proofs.YtghpoldlddghjaaDoorW.PrintWords.Kd
open Go Go.RowKit
theorem R_typed {α : Type} {d : Kd α} {e : Nat} {w : World} {base : Nat} {ok : Nat → Prop} {v : Value} {xs : List α} (h : d.R e w base ok v xs) : ∀ k, v.ownBlock = some k → ∃ cells, w.heap[k]? = some (.cells cells e (0, 0)) := by
  obtain ⟨inner, ho⟩ := R_own h
  exact fun k hk => own_typed ho k hk
end Go.Proofs.YtghpoldlddghjaaDoorW.PrintWords.Kd
namespace Go.Proofs.YtghpoldlddghjaaDoor
open Go Go.RowKit
open Go.Proofs.YtghpoldlddghjaaDoorW.PrintWords Go.Proofs.YtghpoldlddghjaaDoorW.PrintMore Go.Proofs.YtghpoldlddghjaaDoor.PPasteTrue
theorem x_box251 {ρ : Operand → Value} {o : Oper} {w : World} {x : Operand} (ho : o.op = .buildSlice 25 1 #[(0, x)]) {t : S59} (hx : ρ x = .agg #[.int .i64 t.f0, .bool t.f1]) : (execOp ρ o).run Tryd.prog w = .ok (.value (.slice (some ⟨w.heap.size, 0, none⟩) 1 1)) (w.alloc (.cells #[.int .i64 t.f0, .bool t.f1] 59)) := by
  unfold execOp
  simp only [ho, hx]
  go_simp
theorem false_of {x y : Bool} (h : y = true → x = true) (hx : x = false) : y = false := by
  cases y with
  | false => rfl
  | true => rw [h rfl] at hx; cases hx
section
variable {w : World} {h : Hd} {b : Bk} {t : S59} {base g7 g12 : Nat} {v10 : Value} {A : Option Addr} {n c : Nat} {wq : World} {b0 b3 b5 b6 b8 : Bool}
end
end Go.Proofs.YtghpoldlddghjaaDoor
namespace Go.Proofs.YtghpoldlddghjaaDoor
open Go Go.RowKit
open Go.Proofs.YtghpoldlddghjaaDoorW.PrintWords Go.Proofs.YtghpoldlddghjaaDoorW.PrintMore Go.Proofs.YtghpoldlddghjaaDoor.PPasteTrue
end Go.Proofs.YtghpoldlddghjaaDoor
namespace Go.Proofs.YtghpoldlddghjaaDoor
open Go Go.RowKit
open Go.Proofs.YtghpoldlddghjaaDoorW.PrintWords Go.Proofs.YtghpoldlddghjaaDoorW.PrintMore Go.Proofs.YtghpoldlddghjaaDoor.PPasteTrue
end Go.Proofs.YtghpoldlddghjaaDoor
namespace Go.Proofs.YtghpoldlddghjaaDoor
open Go Go.RowKit
open Go.Proofs.YtghpoldlddghjaaDoorW.PrintWords Go.Proofs.YtghpoldlddghjaaDoorW.PrintMore Go.Proofs.YtghpoldlddghjaaDoor.PPasteTrue
theorem len2 {α : Type} {l : List α} (h : l.length = 2) : ∃ a b, l = [a, b] := by
  match l, h with
  | [a, b], _ => exact ⟨a, b, rfl⟩
section
variable {H : Type} {enc : TypeId × Value → H} {W : World} {base : Nat} {sp : Nat → Bool} {held : Bool}
end
end Go.Proofs.YtghpoldlddghjaaDoor
namespace Go.Proofs.YtghpoldlddghjaaDoor
open Go Go.RowKit
theorem gAsks : Tryd.prog.globalNamed "lucifer/paste.asks" = some 0 := by kernel_rfl
theorem tAsks : (Tryd.prog.globals[0]?).map (·.type) = some 164 := by kernel_rfl
theorem co163 : Tryd.prog.cellsOf 163 = 1 := by kernel_rfl
theorem co164 : Tryd.prog.cellsOf 164 = 2 := by kernel_rfl
def laidAsks : List (String × DataW Unit) := [("lucifer/paste.asks", Rows.laid_lucifer_paste_asks)]
set_option maxRecDepth 100000 in
theorem asks_of_laid {W : World} (h : laidMetH Tryd.prog laidAsks W) : Asks W := by
  obtain ⟨g, t, cs, fuel, p, hg, ht, hv, hd⟩ := h.funcs (List.mem_singleton.2 rfl)
  obtain rfl := Option.some.inj (gAsks.symm.trans hg)
  obtain rfl := Option.some.inj (tAsks.symm.trans ht)
  have hd' : DataW.trod (funcToken Tryd.prog) Tryd.prog W 0 (fun _ => true) true fuel 164 cs.toList = some (.agg [.held [40, 108, 117, 99, 105, 102, 101, 114, 47, 112, 97, 115, 116, 101, 46, 98, 111, 111, 107, 41, 46, 112, 101, 114, 104, 97, 112, 115], .held [40, 108, 117, 99, 105, 102, 101, 114, 47, 112, 97, 115, 116, 101, 46, 98, 111, 111, 107, 41, 46, 115, 117, 114, 101, 108, 121]], p) := hd
  obtain ⟨xs, m, _, hx, hl, hlen, hel⟩ := DataW.trod_array Tryd.underlying164 hd'
  obtain ⟨y0, y1, hxs⟩ := len2 hlen
  rw [co164] at hl
  obtain ⟨c0, c1, hcs⟩ := len2 hl
  have h0 := hel 0 (by decide)
  have h1 := hel 1 (by decide)
  rw [hcs, co163, hxs] at h0 h1
  rw [hxs] at hx
  simp only [Prod.mk.injEq, DataW.agg.injEq, List.map_cons, List.map_nil, List.cons.injEq] at hx
  obtain ⟨⟨e0, e1, _⟩, _⟩ := hx
  have h0' : DataW.trod (funcToken Tryd.prog) Tryd.prog W 0 (fun _ => true) true m 163 [c0] = some y0 := h0
  have h1' : DataW.trod (funcToken Tryd.prog) Tryd.prog W 0 (fun _ => true) true m 163 [c1] = some y1 := h1
  rw [show y0 = (y0.1, y0.2) from rfl, ← e0] at h0'
  rw [show y1 = (y1.1, y1.2) from rfl, ← e1] at h1'
  obtain rfl := func_of_trod (f0 := 133) Tryd.underlying163 (by kernel_rfl) h0'
  obtain rfl := func_of_trod (f0 := 134) Tryd.underlying163 (by kernel_rfl) h1'
  have k0 := World.var?_cell hg hv 0
  have k1 := World.var?_cell hg hv 1
  have hca : cs = #[.func (.func 133) #[] #[], .func (.func 134) #[] #[]] := by rw [← hcs]
  rw [hca] at k0 k1
  exact ⟨by simpa using k0, by simpa using k1⟩
theorem door_met (os : Os) (args : Array Value) : laidMetH Tryd.prog laidAsks ((World.doorLaid Tryd.prog 600 os).forCall (fun _ _ => 0) ⟨#[], args, []⟩).memory :=
  laidMetH_of_parts3 (fuel := 8) (laidMet_of_run' 8 (by kernel_rfl) (by kernel_rfl)) (by kernel_rfl) (by kernel_rfl)
theorem own : ownKnob Tryd.prog.godebug = none := by kernel_rfl
end Go.Proofs.YtghpoldlddghjaaDoor
