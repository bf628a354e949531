/- '==' between sectors and between cells. -/
import Derived.Test.YtcaalfpfkalalaaL1
set_option linter.unusedVariables false
set_option linter.unusedSimpArgs false
namespace Go.Proofs.Ytcaalfpfkalalaa
open Go.RowKit Qd
section
variable {P : Program} (w : World)
theorem run_equalIn_ints (d : Nat) (t e : TypeId) (k : IntKind) (len : Nat) (hu : P.underlying t = some (.array len e)) (he : P.underlying e = some (.int k)) (i : TypeInfo) (hi : P.info? e = some i) (hs : i.size = 1)
  (xs ys : List Int) (hx : xs.length = len) (hy : ys.length = len) : (Op.equalIn (d + 2) t (.agg (xs.map (Value.int k)).toArray) (.agg (ys.map (Value.int k)).toArray)).run P w = .ok (decide (xs = ys)) w := by
  have hpx : ∀ (l : List Int) j, j < l.length → (part e (l.map (Value.int k)).toArray j).run P w = .ok (.int k (l.getD j 0)) w := fun l j hj => by
    have hagg : (isAgg e).run P w = .ok false w := by unfold isAgg; rw [Sem.run_bind, run_underlying he w]; rfl
    unfold part
    rw [Sem.run_bind, hagg]
    simp [hj, Result.andThen]
  unfold Op.equalIn
  simp only [Sem.run_bind, run_underlying hu, Result.andThen_ok, sizeOf, typeInfo, run_program, hi, Sem.run_pure, hs, Nat.mul_one, Std.Legacy.Range.forIn_eq_forIn_range', Std.Legacy.Range.size]
  rw [show (len - 0 + 1 - 1) / 1 = len from by omega]
  obtain ⟨j, hj0⟩ : ∃ j, j = 0 := ⟨0, rfl⟩
  obtain ⟨n, hn0⟩ : ∃ n, n = len := ⟨_, rfl⟩
  rw [show List.range' 0 len = List.range' j n from by rw [hj0, hn0]]
  have hj : j + n = len := by omega
  have hall : ∀ i, i < j → xs.getD i 0 = ys.getD i 0 := fun i hi => by omega
  clear hj0 hn0
  induction n generalizing j with
    | zero =>
      have hxy : xs = ys := by
        apply List.ext_getElem (by omega)
        intro i h1 h2
        have := hall i (by omega)
        rwa [List.getD_eq_getElem?_getD, List.getD_eq_getElem?_getD, List.getElem?_eq_getElem h1, List.getElem?_eq_getElem h2] at this
      simp [hxy, Result.andThen]
    | succ n ih =>
      rw [List.range'_succ, List.forIn_cons]
      simp only [Sem.run_bind, hpx xs j (by omega), hpx ys j (by omega), Result.andThen_ok, run_equalIn_int w d e k k _ _ he]
      by_cases hq : xs.getD j 0 = ys.getD j 0
      · have hb : (xs.getD j 0 == ys.getD j 0) = true := by rw [hq]; simp
        simp only [hb, Bool.not_true, Bool.false_eq_true, if_false, Sem.run_pure, Result.andThen_ok]
        exact ih (j + 1) (by omega) (fun i hi => by
          rcases Nat.lt_or_ge i j with h | h
          · exact hall i h
          · obtain rfl : i = j := by omega
            exact hq)
      · have hb : (xs.getD j 0 == ys.getD j 0) = false := by simpa using hq
        have hne : xs ≠ ys := fun e0 => hq (by rw [e0])
        simp only [hb, Bool.not_false, if_true, Sem.run_pure, Result.andThen_ok]
        simp [hne]

theorem guard_eql (t : TypeId) (x y : Operand) (a b : Array Value) (h : P.eqGuardType P.depth t = false) : (eqGuard .eql t x y (.agg a) (.agg b)).run P w = .ok () w := by
  unfold eqGuard
  simp [h, run_program, Sem.run_bind, Result.andThen]
theorem guard_neq (t : TypeId) (x y : Operand) (a b : Array Value) (h : P.eqGuardType P.depth t = false) : (eqGuard .neq t x y (.agg a) (.agg b)).run P w = .ok () w := by
  unfold eqGuard
  simp [h, run_program, Sem.run_bind, Result.andThen]
end
section
variable {o : Oper} {w : World} {ρ : Operand → Value}
theorem gSector : Try.prog.eqGuardType Try.prog.depth 29 = false := by kernel_rfl
theorem gCell : Try.prog.eqGuardType Try.prog.depth 100 = false := by kernel_rfl
theorem eq_sec_run (a b : Sec) (ha : SecOk a) (hb : SecOk b) (d : Nat) (w : World) : (Op.equalIn (d + 2) 29 (.agg (secVals a).toArray) (.agg (secVals b).toArray)).run Try.prog w = .ok (decide (a = b)) w := by
  have hi : (Try.prog.info? 5).map (·.size) = some 1 := by kernel_rfl
  obtain ⟨i, h1, h2⟩ := Option.map_eq_some_iff.1 hi
  exact run_equalIn_ints w d _ _ .u8 64 uSector uU8 i h1 h2 a b ha.1 hb.1
theorem exe_sec {x y : Operand} {T : TypeId} (ho : o.op = .binOp .eql 29 x y T) {a b : Sec} (ha : SecOk a) (hb : SecOk b) (hx : ρ x = .agg (secVals a).toArray) (hy : ρ y = .agg (secVals b).toArray) :
    (execOp ρ o).run Try.prog w = .ok (.value (.bool (decide (a = b)))) w := by
  unfold execOp
  simp only [ho, hx, hy, Sem.run_bind, guard_eql w _ _ _ _ _ gSector, Result.andThen_ok, run_eql_struct, eq_sec_run a b ha hb 9998, Sem.run_pure]
theorem exn_sec {x y : Operand} {T : TypeId} (ho : o.op = .binOp .neq 29 x y T) {a b : Sec} (ha : SecOk a) (hb : SecOk b) (hx : ρ x = .agg (secVals a).toArray) (hy : ρ y = .agg (secVals b).toArray) :
    (execOp ρ o).run Try.prog w = .ok (.value (.bool (!decide (a = b)))) w := by
  unfold execOp
  simp only [ho, hx, hy, Sem.run_bind, guard_neq w _ _ _ _ _ gSector, Result.andThen_ok, run_neq_struct, eq_sec_run a b ha hb 9998, Sem.run_pure]
theorem hu118 : Try.prog.underlying 100 = some (.struct (Try.prog.fieldsOf 100)) := by kernel_rfl
theorem hp118 : Try.prog.stoodInHeld 100 = false := by kernel_rfl
theorem ubool : Try.prog.underlying 4 = some .bool := by kernel_rfl
theorem p1_cell (c : Qd.Cell) (hc : SecOk c.s) : (part 29 (cellVals c).toArray 0).run Try.prog w = .ok (.agg (secVals c.s).toArray) w := by
  have hagg : (isAgg 29).run Try.prog w = .ok true w := by unfold isAgg; rw [Sem.run_bind, run_underlying uSector w]; rfl
  obtain ⟨i, h1, h2⟩ := Option.map_eq_some_iff.1 sSector
  have hsz : (sizeOf 29).run Try.prog w = .ok 64 w := by simp [sizeOf, typeInfo, h1, h2]
  have e : (cellVals c).toArray.extract 0 (0 + 64) = (secVals c.s).toArray := by
    apply Array.ext'
    rw [Array.toList_extract, List.toList_toArray, List.extract_eq_take_drop]
    unfold cellVals
    rw [List.drop_zero, List.take_append_of_le_length (by rw [sec64 hc]; omega), List.take_of_length_le (by rw [sec64 hc]; omega)]
  unfold part
  rw [Sem.run_bind, hagg]
  simp only [Result.andThen_ok, if_true, Sem.run_bind, hsz, Sem.run_pure, e]
theorem p2_cell (c : Qd.Cell) (hc : SecOk c.s) : (part 4 (cellVals c).toArray 64).run Try.prog w = .ok (.bool c.bad) w := by
  have hagg : (isAgg 4).run Try.prog w = .ok false w := by unfold isAgg; rw [Sem.run_bind, run_underlying ubool w]; rfl
  have e : (cellVals c).toArray[64]? = some (.bool c.bad) := by
    unfold cellVals
    rw [List.getElem?_toArray, List.getElem?_append_right (by rw [sec64 hc]; exact Nat.le_refl _), sec64 hc]; rfl
  unfold part
  rw [Sem.run_bind, hagg]
  simp only [Result.andThen_ok, Bool.false_eq_true, if_false, e, Sem.run_pure]
theorem eq_cell_run (a b : Qd.Cell) (ha : SecOk a.s) (hb : SecOk b.s) (d : Nat) (w : World) : (Op.equalIn (d + 3) 100 (.agg (cellVals a).toArray) (.agg (cellVals b).toArray)).run Try.prog w = .ok (decide (a = b)) w := by
  have hf : (Try.prog.fieldsOf 100).toList.map (fun f => (f.name, f.type, f.offset)) = [("s", 29, 0), ("bad", 4, 64)] := by kernel_rfl
  rw [run_equalIn_struct w (d + 2) _ _ _ hu118 hp118]
  generalize (Try.prog.fieldsOf 100).toList = fs at hf
  obtain ⟨f1, f2, rfl⟩ : ∃ f1 f2, fs = [f1, f2] := by
    have hl : fs.length = 2 := by have := congrArg List.length hf; simpa using this
    obtain ⟨x, r, rfl⟩ := List.exists_cons_of_length_eq_add_one hl
    obtain ⟨y, r', rfl⟩ := List.exists_cons_of_length_eq_add_one (by simpa using hl : r.length = 0 + 1)
    have : r' = [] := List.eq_nil_of_length_eq_zero (by simpa using hl)
    exact ⟨x, y, by rw [this]⟩
  · simp only [List.map_cons, List.map_nil, List.cons.injEq, Prod.mk.injEq, and_true] at hf
    obtain ⟨⟨n1, t1, o1⟩, n2, t2, o2⟩ := hf
    have hn1 : f1.name ≠ "_" := by rw [n1]; decide
    have hn2 : f2.name ≠ "_" := by rw [n2]; decide
    simp only [Op.eqFields, hn1, hn2, ne_eq, not_false_eq_true, if_true, t1, t2, o1, o2, Sem.run_bind, p1_cell a ha, p1_cell b hb, Result.andThen_ok, eq_sec_run a.s b.s ha hb d, Sem.run_ite]
    by_cases h1 : a.s = b.s
    · simp only [h1, decide_true, Bool.not_true, Bool.false_eq_true, if_false, Sem.run_bind, p2_cell a ha, p2_cell b hb, Result.andThen_ok, run_equalIn_bool' w (d + 1) _ _ _ ubool, Sem.run_ite, Sem.run_pure]
      by_cases h2 : a.bad = b.bad
      · have : a = b := by cases a; cases b; simp_all
        simp [this]
      · have : a ≠ b := fun e => h2 (by rw [e])
        simp [h2, this]
    · have : a ≠ b := fun e => h1 (by rw [e])
      simp [h1, this]
theorem exn_cell {x y : Operand} {T : TypeId} (ho : o.op = .binOp .neq 100 x y T) {a b : Qd.Cell} (ha : SecOk a.s) (hb : SecOk b.s) (hx : ρ x = .agg (cellVals a).toArray) (hy : ρ y = .agg (cellVals b).toArray) :
    (execOp ρ o).run Try.prog w = .ok (.value (.bool (!decide (a = b)))) w := by
  unfold execOp
  simp only [ho, hx, hy, Sem.run_bind, guard_neq w _ _ _ _ _ gCell, Result.andThen_ok, run_neq_struct, eq_cell_run a b ha hb 9997 w, Sem.run_pure]
end
end Go.Proofs.Ytcaalfpfkalalaa
