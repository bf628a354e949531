/- The specification's disk: the piece of one cell in its row, read and written; New, Rot. -/
import Derived.Test.YtcaalfpfkalalaaT2
set_option linter.unusedVariables false
set_option linter.unusedSimpArgs false
set_option maxRecDepth 10000
set_option maxHeartbeats 4000000
namespace Go.Proofs.Ytcaalfpfkalalaa
open Go.RowKit Qd
open Go.Proofs.YtcaalfpfkalalaaW.PrintLast
theorem refSplit {cs : List Qd.Cell} {vs : List Value} (hc : ∀ c ∈ cs, SecOk c.s) (hl : vs.length = cs.length) {i : Nat} (hi : i < cs.length) :
    ∃ A B : List Value, A.length = i * 66 ∧ refRow cs vs = A ++ refCell (cs.getD i zeroCell, vs.getD i (.slice none 0 0)) ++ B ∧ ∀ (c : Qd.Cell) (v : Value), SecOk c.s → refRow (cs.set i c) (vs.set i v) = A ++ refCell (c, v) ++ B := by
  have hlen := refRow_len hc hl
  refine ⟨(refRow cs vs).take (i * 66), (refRow cs vs).drop (i * 66 + 66), by rw [List.length_take, hlen]; omega, ?_, fun c v hs => refRow_set hc hl hi hs v⟩
  have hci : SecOk (cs.getD i zeroCell).s := by
    rw [List.getD_eq_getElem?_getD, List.getElem?_eq_getElem hi]
    exact hc _ (List.getElem_mem hi)
  have h := refRow_set hc hl hi hci (vs.getD i (.slice none 0 0))
  have e1 : cs.set i (cs.getD i zeroCell) = cs := by
    rw [List.getD_eq_getElem?_getD, List.getElem?_eq_getElem hi]
    exact List.set_getElem_self hi
  have e2 : vs.set i (vs.getD i (.slice none 0 0)) = vs := by
    rw [List.getD_eq_getElem?_getD, List.getElem?_eq_getElem (by omega)]
    exact List.set_getElem_self (by omega)
  rw [e1, e2] at h
  exact h
theorem uRefCell : ∃ d, Try.prog.underlying 110 = some d ∧ d.isRow = true := by
  have h : (Try.prog.underlying 110).map (·.isRow) = some true := by kernel_rfl
  obtain ⟨d, h1, h2⟩ := Option.map_eq_some_iff.1 h
  exact ⟨d, h1, h2⟩
theorem sRefCell : (Try.prog.info? 110).map (·.size) = some 66 := by kernel_rfl
theorem iRefCell : (Try.prog.info? 110).map (fun i => (i.zero, i.size, i.bytes)) = some (some (.agg (((Array.replicate 64 (.int .u8 0)).push (.bool false)).push (.slice none 0 0))), 66, 96) := by kernel_rfl
theorem uRefCells : Try.prog.underlying 105 = some (.slice 110) := by kernel_rfl
theorem zRefCell (w : World) : (zeroValue 110).run Try.prog w = .ok (.agg (refCell (zeroCell, .slice none 0 0)).toArray) w := by kernel_rfl
theorem refCell_one {c : Qd.Cell} {v : Value} (hv : v.oneCell' = true) : ∀ u ∈ refCell (c, v), u.oneCell' = true := fun u hu => by
  rcases List.mem_append.1 hu with hu | hu
  · exact cellVals_one c u hu
  · simp at hu; subst hu; exact hv
section
variable {w0 w : World} {rs : List Res} {p bc k i b j : Nat} {vs A B : List Value} {d : Disk} {o : Oper} {ρ : Operand → Value} {x y : Operand} {c : Qd.Cell} {v : Value} {t : TypeId}
theorem Own.setMid {P Y Y' Q : List Value} (h : Own w0 w rs) (hk : rs[k]? = some (blkR b (P ++ (Y ++ Q)).toArray t)) {j : Nat} (hj : P.length = j) (hl : Y'.length = Y.length) : Own w0 (w.setCells b j Y') (rs.set k (blkR b (P ++ (Y' ++ Q)).toArray t)) := by
  refine h.set hk (by simp; omega) ?_
  subst hj
  rw [hl]
  simp [List.take_left', List.drop_append]
theorem cell_range (h : Own w0 w rs) (hk : rs[k]? = some (blkR b (A ++ refCell (c, v) ++ B).toArray t)) (hA : A.length = i * 66) : w.rangeAt b (i * 66) (refCell (c, v)) :=
  (h.blk hk).1.range _ _ (fun j hj => by
    rw [List.getElem?_toArray, List.append_assoc, List.getElem?_append_right (by omega), hA, show i * 66 + j - i * 66 = j by omega, List.getElem?_append_left hj])
theorem cell_sec (hc : SecOk c.s) (hr : w.rangeAt b j (refCell (c, v))) : w.rangeAt b j (secVals c.s) := fun n u hn => hr n u (by
  have := (List.getElem?_eq_some_iff.1 hn).1
  unfold refCell cellVals
  rw [List.append_assoc, List.getElem?_append_left this]
  exact hn)
theorem cell_bad (hc : SecOk c.s) (hr : w.rangeAt b j (refCell (c, v))) : w.cell? ⟨b, j + 64, none⟩ = some (.bool c.bad) := hr 64 _ (by
  unfold refCell cellVals
  rw [List.append_assoc, List.getElem?_append_right (by rw [sec64 hc]; omega), sec64 hc]
  rfl)
theorem cell_open (hc : SecOk c.s) (hr : w.rangeAt b j (refCell (c, v))) : w.cell? ⟨b, j + 65, none⟩ = some v := hr 65 _ (by
  unfold refCell cellVals
  rw [List.append_assoc, List.getElem?_append_right (by rw [sec64 hc]; omega), sec64 hc]
  rfl)
theorem Own.xrload (h : Own w0 w rs) (hk : rs[k]? = some (blkR b (A ++ refCell (c, v) ++ B).toArray t)) (hA : A.length = i * 66) (hc : SecOk c.s) (ho : o.op = .load 110 x) (hx : ρ x = .pointer (some ⟨b, i * 66, none⟩)) :
    (execOp ρ o).run Try.prog w = .ok (.value (.agg (refCell (c, v)).toArray)) w := by
  obtain ⟨d, h1, h2⟩ := uRefCell
  exact ex_load ho hx (cell_range h hk hA) h1 h2 (by rw [refCell_len hc]; exact sRefCell)
theorem Own.xrlsec (h : Own w0 w rs) (hk : rs[k]? = some (blkR b (A ++ refCell (c, v) ++ B).toArray t)) (hA : A.length = i * 66) (hc : SecOk c.s) (ho : o.op = .load 29 x) (hx : ρ x = .pointer (some ⟨b, i * 66, none⟩)) :
    (execOp ρ o).run Try.prog w = .ok (.value (.agg (secVals c.s).toArray)) w := exl_sec ho hx hc (cell_sec hc (cell_range h hk hA))
theorem Own.xrlbad (h : Own w0 w rs) (hk : rs[k]? = some (blkR b (A ++ refCell (c, v) ++ B).toArray t)) (hA : A.length = i * 66) (hc : SecOk c.s) (ho : o.op = .load 4 x) (hx : ρ x = .pointer (some ⟨b, i * 66 + 64, none⟩)) :
    (execOp ρ o).run Try.prog w = .ok (.value (.bool c.bad)) w := exl_bool ho hx (cell_bad hc (cell_range h hk hA))
theorem Own.xrlopen {a : Option Addr} {m cp : Nat} (h : Own w0 w rs) (hk : rs[k]? = some (blkR b (A ++ refCell (c, .slice a m cp) ++ B).toArray t)) (hA : A.length = i * 66) (hc : SecOk c.s) (ho : o.op = .load 87 x) (hx : ρ x = .pointer (some ⟨b, i * 66 + 65, none⟩)) :
    (execOp ρ o).run Try.prog w = .ok (.value (.slice a m cp)) w := exl_secsl ho hx (cell_open hc (cell_range h hk hA))
/-- One cell of a piece is stored. -/
theorem Own.xrsbad {u : Bool} (h : Own w0 w rs) (hk : rs[k]? = some (blkR b (A ++ refCell (c, v) ++ B).toArray t)) (hA : A.length = i * 66) (hc : SecOk c.s) (ho : o.op = .store 4 x y) (hx : ρ x = .pointer (some ⟨b, i * 66 + 64, none⟩)) (hy : ρ y = .bool u) :
    ∃ w1, (execOp ρ o).run Try.prog w = .ok .skip w1 ∧ Own w0 w1 (rs.set k (blkR b (A ++ refCell (⟨c.s, u⟩, v) ++ B).toArray t)) := by
  refine ⟨_, exs_bool ho hx hy (cell_bad hc (cell_range h hk hA)) ((h.blk hk).1.frozen _), ?_⟩
  have e : ∀ u : Bool, A ++ refCell (⟨c.s, u⟩, v) ++ B = (A ++ secVals c.s) ++ ([.bool u] ++ ([v] ++ B)) := fun u => by simp [refCell, cellVals]
  have e0 : A ++ refCell (c, v) ++ B = (A ++ secVals c.s) ++ ([.bool c.bad] ++ ([v] ++ B)) := by simp [refCell, cellVals]
  rw [e0] at hk
  rw [e]
  exact h.setMid hk (Y' := [.bool u]) (by rw [List.length_append, sec64 hc]; omega) rfl
theorem Own.xrsopen {a : Option Addr} {m cp : Nat} (h : Own w0 w rs) (hk : rs[k]? = some (blkR b (A ++ refCell (c, v) ++ B).toArray t)) (hA : A.length = i * 66) (hc : SecOk c.s) (ho : o.op = .store 87 x y) (hx : ρ x = .pointer (some ⟨b, i * 66 + 65, none⟩)) (hy : ρ y = .slice a m cp) :
    ∃ w1, (execOp ρ o).run Try.prog w = .ok .skip w1 ∧ Own w0 w1 (rs.set k (blkR b (A ++ refCell (c, .slice a m cp) ++ B).toArray t)) := by
  refine ⟨_, exs_secsl ho hx hy (cell_open hc (cell_range h hk hA)) ((h.blk hk).1.frozen _), ?_⟩
  have e : ∀ v : Value, A ++ refCell (c, v) ++ B = (A ++ cellVals c) ++ ([v] ++ B) := fun u => by simp [refCell]
  rw [e] at hk
  rw [e]
  exact h.setMid hk (Y' := [.slice a m cp]) (by simp [cellVals, sec64 hc]; omega) rfl
theorem Own.xrssec {s : Sec} (h : Own w0 w rs) (hk : rs[k]? = some (blkR b (A ++ refCell (c, v) ++ B).toArray t)) (hA : A.length = i * 66) (hc : SecOk c.s) (hs : SecOk s) (ho : o.op = .store 29 x y) (hx : ρ x = .pointer (some ⟨b, i * 66, none⟩)) (hy : ρ y = .agg (secVals s).toArray) :
    ∃ w1, (execOp ρ o).run Try.prog w = .ok .skip w1 ∧ Own w0 w1 (rs.set k (blkR b (A ++ refCell (⟨s, c.bad⟩, v) ++ B).toArray t)) := by
  have hr := cell_sec hc (cell_range h hk hA)
  have e : ∀ s : Sec, A ++ refCell (⟨s, c.bad⟩, v) ++ B = A ++ (secVals s ++ ([.bool c.bad, v] ++ B)) := fun u => by simp [refCell, cellVals]
  have hk' := hk
  rw [show A ++ refCell (c, v) ++ B = A ++ (secVals c.s ++ ([.bool c.bad, v] ++ B)) from e c.s] at hk
  refine ⟨_, exs_sec ho hx hs hy ((h.blk hk).1.there _ _ (by rw [List.size_toArray]; simp [sec64 hc]; omega)), ?_⟩
  rw [e]
  exact h.setMid hk (by omega) (by rw [sec64 hs, sec64 hc])
theorem Own.xrsbyte {n : Nat} {u : Int} (h : Own w0 w rs) (hk : rs[k]? = some (blkR b (A ++ refCell (c, v) ++ B).toArray t)) (hA : A.length = i * 66) (hc : SecOk c.s) (hn : n < 64) (ho : o.op = .store 5 x y) (hx : ρ x = .pointer (some ⟨b, i * 66 + n, none⟩)) (hy : ρ y = .int .u8 u) :
    ∃ w1, (execOp ρ o).run Try.prog w = .ok .skip w1 ∧ Own w0 w1 (rs.set k (blkR b (A ++ refCell (⟨c.s.set n u, c.bad⟩, v) ++ B).toArray t)) := by
  have hr := cell_sec hc (cell_range h hk hA)
  have hl : n < (secVals c.s).length := by rw [sec64 hc]; exact hn
  have hcell := hr n _ (List.getElem?_eq_getElem hl)
  refine ⟨_, ex_store_byte ho hx hy hcell ((h.blk hk).1.frozen _), ?_⟩
  obtain ⟨z, hz⟩ : ∃ z, z = (secVals c.s)[n] := ⟨_, rfl⟩
  obtain ⟨X, Y, hX, hs, hs2⟩ : ∃ X Y : List Value, X.length = n ∧ secVals c.s = X ++ ([z] ++ Y) ∧ secVals (c.s.set n u) = X ++ ([.int .u8 u] ++ Y) := by
    refine ⟨(secVals c.s).take n, (secVals c.s).drop (n + 1), by rw [List.length_take]; omega, ?_, ?_⟩
    · rw [hz, List.singleton_append, ← List.drop_eq_getElem_cons hl, List.take_append_drop]
    · have : secVals (c.s.set n u) = (secVals c.s).set n (.int .u8 u) := by simp [secVals, List.map_set]
      rw [this, List.set_eq_take_append_cons_drop, if_pos hl]
      rfl
  have e0 : A ++ refCell (c, v) ++ B = (A ++ X) ++ ([z] ++ (Y ++ ([.bool c.bad, v] ++ B))) := by
    unfold refCell cellVals
    rw [hs]
    simp
  have e1 : A ++ refCell (⟨c.s.set n u, c.bad⟩, v) ++ B = (A ++ X) ++ ([.int .u8 u] ++ (Y ++ ([.bool c.bad, v] ++ B))) := by
    unfold refCell cellVals
    simp only []
    rw [hs2]
    simp
  rw [e0] at hk
  rw [e1]
  exact h.setMid hk (Y' := [.int .u8 u]) (by rw [List.length_append]; omega) rfl
theorem Own.xrscell {c' : Qd.Cell} {v' : Value} (h : Own w0 w rs) (hk : rs[k]? = some (blkR b (A ++ refCell (c, v) ++ B).toArray t)) (hA : A.length = i * 66) (hc : SecOk c.s) (hc' : SecOk c'.s) (hv' : v'.oneCell' = true) (ho : o.op = .store 110 x y) (hx : ρ x = .pointer (some ⟨b, i * 66, none⟩)) (hy : ρ y = .agg (refCell (c', v')).toArray) :
    ∃ w1, (execOp ρ o).run Try.prog w = .ok .skip w1 ∧ Own w0 w1 (rs.set k (blkR b (A ++ refCell (c', v') ++ B).toArray t)) := by
  rw [List.append_assoc] at hk
  refine ⟨_, ex_store ho hx hy ((h.blk hk).1.there _ _ (by rw [List.size_toArray]; simp [refCell_len hc, refCell_len hc']; omega)) (by rw [refCell_len hc']; exact sRefCell) (refCell_one hv'), ?_⟩
  rw [List.append_assoc]
  exact h.setMid hk (by omega) (by rw [refCell_len hc, refCell_len hc'])
/-! ### New -/
theorem refZero_madeCells (m : Nat) : madeCells (Value.agg (((Array.replicate 64 (.int .u8 0)).push (.bool false)).push (.slice none 0 0))).cells (m * 66) = (refRow (List.replicate m zeroCell) (List.replicate m (.slice none 0 0))).toArray := by
  apply Array.ext'
  rw [List.toList_toArray]
  have e : (List.replicate m zeroCell).zip (List.replicate m (Value.slice none 0 0)) = List.replicate m (zeroCell, Value.slice none 0 0) := by
    simp
  unfold refRow
  rw [e]
  have hl : ∀ c ∈ List.replicate m (zeroCell, Value.slice none 0 0), (refCell c).length = 66 := fun c hc => by rw [List.eq_of_mem_replicate hc]; rfl
  apply List.ext_getElem?
  intro j
  by_cases hj : j < m * 66
  · have hq : j / 66 < m := by omega
    have h1 := flatMap_piece hl (j / 66) (zeroCell, Value.slice none 0 0) (by rw [List.getElem?_replicate, if_pos hq]) (j % 66) (Nat.mod_lt _ (by omega))
    rw [Nat.div_add_mod'] at h1
    rw [h1]
    simp only [madeCells, Array.toList_map, Array.toList_range, List.getElem?_map, List.getElem?_range hj, Option.map_some]
    have : (Value.agg (((Array.replicate 64 (.int .u8 0)).push (.bool false)).push (.slice none 0 0))).cells = (refCell (zeroCell, Value.slice none 0 0)).toArray := by rfl
    rw [this]
    have h65 : (refCell (zeroCell, Value.slice none 0 0)).toArray.size = 66 := by rfl
    have hlt : j % 66 < (refCell (zeroCell, Value.slice none 0 0)).toArray.size := by rw [h65]; omega
    rw [h65, getElem!_pos (refCell (zeroCell, Value.slice none 0 0)).toArray (j % 66) hlt]
    simp
  · rw [List.getElem?_eq_none (by simp [size_madeCells]; omega), List.getElem?_eq_none (by rw [flatMap_len hl]; simp; omega)]
theorem Own.xrmake (n : Tmp) {m : Nat} (h : Own w0 w rs) (hd : o.dst = some n) (ho : o.op = .makeSlice 105 x y) (hx : ρ x = .int .i64 (m : Int)) (hy : ρ y = .int .i64 (m : Int)) (hm : m ≤ 65536) (h1 : 1 ≤ m) :
    ∃ v w1, (execOp ρ o).run Try.prog w = .ok (.value v) w1 ∧ ∃ b, v = .slice (some ⟨b, 0, none⟩) m m ∧ Own w0 w1 (rs ++ [blkR b (refRow (List.replicate m zeroCell) (List.replicate m (.slice none 0 0))).toArray 110]) := by
  have hmk : (Instr.makeSlice 105 (.int .i64 (m : Int)) (.int .i64 (m : Int))).run Try.prog w = .ok (.slice (some ⟨w.heap.size, 0, none⟩) m m) (w.alloc (.cells (refRow (List.replicate m zeroCell) (List.replicate m (.slice none 0 0))).toArray 110)) := by
    obtain ⟨i, hi, hz⟩ := Option.map_eq_some_iff.1 iRefCell
    simp only [Prod.mk.injEq] at hz
    have := run_make (P := Try.prog) w 105 110 i _ uRefCells hi hz.1 .i64 .i64 (m : Int) (m : Int) (by omega) (by omega) (by rw [hz.2.2]; omega) (by omega)
    rw [Int.toNat_natCast, hz.2.1, refZero_madeCells] at this
    exact this
  refine ⟨_, _, ?_, w.heap.size, rfl, h.alloc _ _⟩
  unfold execOp
  simp only [ho, hx, hy]
  simp [hmk, Sem.run, Result.andThen]
theorem rowsR_nil (S : Nat → Prop) (m : Nat) : (rowsR (List.replicate m (.slice none 0 0)) (fun _ => [])).holds w S := fun k v hv => by
  have : v = .slice none 0 0 := List.eq_of_mem_replicate (List.mem_of_getElem? hv)
  subst this
  exact ⟨⟨World.ownsRow_nil _ _ _ _, fun _ => rfl⟩, fun b hb => by simp [Value.ownBlock] at hb⟩
theorem Own.rowsNil (h : Own w0 w rs) (m : Nat) : Own w0 w (rs ++ [rowsR (List.replicate m (.slice none 0 0)) (fun _ => [])]) :=
  h.push (S := fun _ => False) (Turn.refl _ w) (fun b hb => hb.elim) (rowsR_nil _ m)
theorem Own.rnew_ (h : Own w0 w rs) (m : Nat) (h1 : 1 ≤ m) (h2 : m ≤ 65536) : Calls Try.prog 19 #[.int .i64 (m : Int)] w fun e w' => ∃ p, e = .returned (.pointer (some ⟨p, 0, none⟩)) ∧ Own w0 w' (rs ++ [refR p (Disk.new m)]) := by
  have ho : Own w0 w [starR rs] := Own.star (l := rs) (b := []) (by rw [List.append_nil]; exact h)
  have HEND : Hid (∀ (w' : World) (p bc : Nat), Own w0 w' [starR rs, blkR bc (refRow (List.replicate m zeroCell) (List.replicate m (.slice none 0 0))).toArray 110, blkR p (refObj bc (Disk.new m)).toArray 107] → Own w0 w' (rs ++ [refR p (Disk.new m)])) := Lib.hid (fun w' p bc hh => by
    have h3 := (hh.rowsNil m).pick (rs' := [starR rs] ++ refL p bc (List.replicate m (.slice none 0 0)) (Disk.new m)) [0, 2, 1, 3] (by decide) rfl
    have h4 := h3.newRef (by simp [Disk.new]) (Disk.ok_new h1 h2)
    exact Own.unstar (l := rs) (b := [refR p (Disk.new m)]) h4)
  have hl : (Disk.new m).cells.length = m := by simp [Disk.new]
  have HL := Lib.hid hl
  clear h hl
  go_enter Try.func19, Try.ntmps19
  go_wp2_with (first
    | (refine go_val_ex rfl (ho.xrmake 10 (m := m) rfl rfl rfl rfl h2 h1) ?_; rintro v w1 ⟨bc, rfl, hq⟩; simp only [Act.put, List.setIfInBounds_toArray, List.set_cons_zero, List.set_cons_succ]; (try simp only [List.nil_append, List.cons_append, List.set_cons_zero, List.set_cons_succ] at hq); replace ho := hq; clear hq)
    | (refine go_val_ex rfl (ho.xbox 12 rfl rfl (cs := [.slice (some ⟨bc, 0, none⟩) m m, .int .i64 0, .int .i64 (-1), .bool false]) rfl) ?_; rintro v w1 ⟨bp, rfl, hq⟩; simp only [Act.put, List.setIfInBounds_toArray, List.set_cons_zero, List.set_cons_succ]; (try simp only [List.nil_append, List.cons_append, List.set_cons_zero, List.set_cons_succ] at hq); replace ho := hq; clear hq))
  go_ret
  refine ⟨bp, rfl, HEND.out _ bp bc ?_⟩
  unfold refObj
  rw [HL.out]
  exact ho
theorem rnew_no (n : Int) (h : n < 1 ∨ 65536 < n) : Calls Try.prog 19 #[.int .i64 n] w fun e w' => e = .returned (.pointer none) ∧ w' = w := by
  rcases h with h | h
  · go_enter Try.func19, Try.ntmps19
    go_wp2
    go_ret
    exact ⟨rfl, rfl⟩
  · have h1 : ¬ n < 1 := by omega
    go_enter Try.func19, Try.ntmps19
    go_wp2
    go_ret
    exact ⟨rfl, rfl⟩
end
end Go.Proofs.Ytcaalfpfkalalaa
