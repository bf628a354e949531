/- Found copies: their cells; operations on them; laws inside a round. -/
import Derived.Test.YtcaalfpfkalalaaO5
import Derived.Test.YtcaalfpfkalalaaS3
import Derived.RangeFuncNested
import Derived.RangeFuncBound
import Derived.RangeFuncCalls
import Derived.RangeFuncLeaves
import Derived.Shelf.Abstract
import Derived.Shelf.RegionOpenPlain
import Derived.OwnWalkIn
import Derived.TacticsInMore
import Derived.LoopNIn
import Derived.LoopIn
set_option linter.unusedVariables false
set_option linter.unusedSimpArgs false
set_option maxRecDepth 10000
set_option maxHeartbeats 4000000
namespace Go.Proofs.Ytcaalfpfkalalaa
open Go.RowKit Qd
open Go.Proofs.YtcaalfpfkalalaaW.PrintLast
def foundVals (s : Sec) (at' : Int) (g : Bool) : List Value := secVals s ++ [.int .i64 at', .bool g]
theorem foundVals_one (s : Sec) (at' : Int) (g : Bool) : ∀ v ∈ foundVals s at' g, v.oneCell' = true := fun v hv => by
  rcases List.mem_append.1 hv with hv | hv
  · exact secVals_one _ v hv
  · simp at hv; rcases hv with rfl | rfl <;> rfl
theorem found66 {s : Sec} (hs : SecOk s) (at' : Int) (g : Bool) : (foundVals s at' g).length = 66 := by simp [foundVals, secVals, hs.1]
theorem uFound : ∃ d, Try.prog.underlying 95 = some d ∧ d.isRow = true := by
  have h : (Try.prog.underlying 95).map (·.isRow) = some true := by kernel_rfl
  obtain ⟨d, h1, h2⟩ := Option.map_eq_some_iff.1 h
  exact ⟨d, h1, h2⟩
theorem sFound : (Try.prog.info? 95).map (·.size) = some 66 := by kernel_rfl
theorem zFound (w : World) : (zeroValue 95).run Try.prog w = .ok (.agg (foundVals zeroSec 0 false).toArray) w := by kernel_rfl
theorem uFounds : Try.prog.underlying 114 = some (.slice 95) := by kernel_rfl
theorem iFound : (Try.prog.info? 95).map (fun i => (i.zero, i.size, i.bytes)) = some (some (.agg (foundVals zeroSec 0 false).toArray), 66, 80) := by kernel_rfl
section
variable {w0 w : World} {rs : List Res} {k : Nat} {o : Oper} {ρ : Operand → Value}
theorem exb_found {x y : Operand} (ho : o.op = .build 95 #[(0, x), (1, y)]) {s : Sec} {i : Int} (hs : SecOk s) (hx : ρ x = .agg (secVals s).toArray) (hy : ρ y = .int .i64 i) : (execOp ρ o).run Try.prog w = .ok (.value (.agg (foundVals s i false).toArray)) w := by
  have h : ∀ u v, Try.prog.built 95 [(0, u), (1, v)] = Instr.fill (#[(0, 64), (64, 1), (65, 1)][·]?) (foundVals zeroSec 0 false).toArray [(0, u), (1, v)] := fun u v => by kernel_rfl
  have hb : Try.prog.built 95 [(0, .agg (secVals s).toArray), (1, .int .i64 i)] = some (foundVals s i false).toArray := by
    rw [h, fill_cons, fill_one (off := 0) (size := 64) rfl (by simp [Value.cells, sec64 hs]) (by rw [List.size_toArray, found66 zeroSec_ok]; omega), Option.bind_some]
    have e : ((foundVals zeroSec 0 false).toArray).toList.drop (0 + 64) = [.int .i64 0, .bool false] := by rfl
    rw [e, fill_one (off := 64) (size := 1) rfl rfl (by simp [Value.cells, secVals, hs.1])]
    have e1 : (secVals s).length = 64 := sec64 hs
    simp [Value.cells, foundVals, List.take_append, List.drop_append, e1, List.take_of_length_le]
  have := run_build (P := Try.prog) w 95 #[(0, .agg (secVals s).toArray), (1, .int .i64 i)] _ hb
  unfold execOp
  simp only [ho, List.map_toArray, List.map_cons, List.map_nil, hx, hy, Sem.run_bind, this, Result.andThen_ok, Sem.run_pure]
theorem Own.xafound (n : Tmp) (h : Own w0 w rs) (hd : o.dst = some n) (ho : o.op = .alloc 95) : ∃ v w1, (execOp ρ o).run Try.prog w = .ok (.value v) w1 ∧ ∃ b, v = .pointer (some ⟨b, 0, none⟩) ∧ Own w0 w1 (rs ++ [blkR b (foundVals zeroSec 0 false).toArray 95]) :=
  ⟨_, _, ex_alloc ho (zFound w), _, rfl, h.alloc _ _⟩
theorem Own.xsfound {x y : Operand} {b : Nat} {s s' : Sec} {i i' : Int} {g g' : Bool} (h : Own w0 w rs) (ho : o.op = .store 95 x y) (hx : ρ x = .pointer (some ⟨b, 0, none⟩)) (hk : rs[k]? = some (blkR b (foundVals s i g).toArray 95)) (hs : SecOk s) (hs' : SecOk s')
    (hy : ρ y = .agg (foundVals s' i' g').toArray) : ∃ w1, (execOp ρ o).run Try.prog w = .ok .skip w1 ∧ Own w0 w1 (rs.set k (blkR b (foundVals s' i' g').toArray 95)) := by
  have hl := found66 hs i g
  have hl' := found66 hs' i' g'
  refine ⟨_, ex_store ho hx hy ((h.blk hk).1.there 0 _ (by rw [List.size_toArray, hl, hl']; omega)) (by rw [hl']; exact sFound) (foundVals_one _ _ _), h.set hk (by rw [List.size_toArray, hl, hl']; omega) ?_⟩
  rw [List.take_zero, List.nil_append, List.drop_eq_nil_of_le (by simp [hl, hl']), List.append_nil]
theorem Own.xlfound {x : Operand} {b : Nat} {s : Sec} {i : Int} {g : Bool} (h : Own w0 w rs) (ho : o.op = .load 95 x) (hx : ρ x = .pointer (some ⟨b, 0, none⟩)) (hk : rs[k]? = some (blkR b (foundVals s i g).toArray 95)) (hs : SecOk s) :
    (execOp ρ o).run Try.prog w = .ok (.value (.agg (foundVals s i g).toArray)) w := by
  obtain ⟨d, h1, h2⟩ := uFound
  exact ex_load ho hx ((h.blk hk).1.range 0 _ (fun j _ => by rw [Nat.zero_add]; simp)) h1 h2 (by rw [found66 hs]; exact sFound)
theorem Own.xsbyte {x : Operand} {b j : Nat} {s : Sec} {t : TypeId} (h : Own w0 w rs) (ho : o.op = .load 5 x) (hx : ρ x = .pointer (some ⟨b, j, none⟩)) (hk : rs[k]? = some (blkR b (secVals s).toArray t)) (hs : SecOk s) (hj : j < 64) :
    (execOp ρ o).run Try.prog w = .ok (.value (.int .u8 (s.getD j 0))) w := by
  have hc := (sec_cell (h.blk hk).1 hs hj).1
  unfold execOp
  simp only [ho, hx]
  go_simp
theorem Own.xgood {x y : Operand} {b : Nat} {s : Sec} {i : Int} {g g' : Bool} (h : Own w0 w rs) (ho : o.op = .store 4 x y) (hx : ρ x = .pointer (some ⟨b, 65, none⟩)) (hk : rs[k]? = some (blkR b (foundVals s i g).toArray 95)) (hs : SecOk s)
    (hy : ρ y = .bool g') : ∃ w1, (execOp ρ o).run Try.prog w = .ok .skip w1 ∧ Own w0 w1 (rs.set k (blkR b (foundVals s i g').toArray 95)) := by
  have hb := (h.blk hk).1
  have hc : w.cell? ⟨b, 65, none⟩ = some (.bool g) := by
    rw [hb.cell]
    simp [foundVals, List.getElem?_append_right, secVals, hs.1]
  have hf := hb.frozen 65
  refine ⟨w.setCells b 65 [.bool g'], ?_, h.set hk (by rw [List.size_toArray, found66 hs]; simp) ?_⟩
  · unfold execOp
    simp only [ho, hx, hy]
    go_simp
    rfl
  · have e1 : (secVals s).length = 64 := sec64 hs
    simp [foundVals, List.take_append, List.drop_append, e1, List.take_of_length_le]
end
end Go.Proofs.Ytcaalfpfkalalaa
