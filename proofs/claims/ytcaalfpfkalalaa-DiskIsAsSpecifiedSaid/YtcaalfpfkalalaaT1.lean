/- The specification's disk in memory: one thing that a call owns. -/
import Derived.Test.YtcaalfpfkalalaaO6
set_option linter.unusedVariables false
set_option linter.unusedSimpArgs false
set_option maxRecDepth 10000
set_option maxHeartbeats 4000000
namespace Go.Proofs.Ytcaalfpfkalalaa
open Go.RowKit Qd
open Go.Proofs.YtcaalfpfkalalaaW.PrintLast
def refObj (bc : Nat) (d : Disk) : List Value := [.slice (some ⟨bc, 0, none⟩) d.cells.length d.cells.length, .int .i64 d.steps, .int .i64 d.after, .bool d.dead]
def refCell (x : Qd.Cell × Value) : List Value := cellVals x.1 ++ [x.2]
def refRow (cs : List Qd.Cell) (vs : List Value) : List Value := (cs.zip vs).flatMap refCell
/-- The rows of open writes. -/
def rowsR (vs : List Value) (opn : Nat → List Sec) : Res := ⟨fun w S => ∀ k v, vs[k]? = some v → (w.ownsRow 0 29 64 v (opn k).length (manyVals (opn k)) ∧ (opn k = [] → v = .slice none 0 0)) ∧ ∀ b, v.ownBlock = some b → S b,
  fun h hk k v hv => by
    obtain ⟨⟨h1, h2⟩, h3⟩ := h k v hv
    exact ⟨⟨ownsRow_same h1 (fun b hb => hk b (h3 b hb)), h2⟩, h3⟩⟩
def refL (p bc : Nat) (vs : List Value) (d : Disk) : List Res := [blkR p (refObj bc d).toArray 107, blkR bc (refRow d.cells vs).toArray 110, rowsR vs d.opn]
def refR (p : Nat) (d : Disk) : Res := ⟨fun w S => ∃ x : Nat × List Value, (x.2.length = d.cells.length ∧ d.Ok) ∧ (starR (refL p x.1 x.2 d)).holds w S,
  fun h hk => by
    obtain ⟨x, h1, h2⟩ := h
    exact ⟨x, h1, (starR _).same h2 hk⟩⟩
section
variable {w0 w : World} {rs : List Res} {p bc k : Nat} {vs : List Value} {d : Disk}
theorem Own.openRef (h : Own w0 w rs) (hk : rs[k]? = some (refR p d)) : ∃ bc vs, vs.length = d.cells.length ∧ d.Ok ∧ Own w0 w (refL p bc vs d ++ [restR rs (· = k)]) := by
  obtain ⟨x, ⟨h1, h2⟩, ho⟩ := (h.focus hk).takeEx (a := []) (α := Nat × List Value) (R := fun x => starR (refL p x.1 x.2 d)) (P := fun x => x.2.length = d.cells.length ∧ d.Ok) (fun w S h => h)
  exact ⟨x.1, x.2, h1, h2, ho.unstar⟩
theorem Own.shutRef (h : Own w0 w (refL p bc vs d ++ [restR rs (· = k)])) (hl : vs.length = d.cells.length) (hok : d.Ok) : Own w0 w (rs.set k (refR p d)) :=
  (Own.turnTo (a := []) (r' := refR p d) h.star (fun w S hs => ⟨(bc, vs), ⟨hl, hok⟩, hs⟩)).back
theorem Own.newRef (h : Own w0 w (rs ++ refL p bc vs d)) (hl : vs.length = d.cells.length) (hok : d.Ok) : Own w0 w (rs ++ [refR p d]) :=
  Own.turnTo (r' := refR p d) h.starLast (fun w S hs => ⟨(bc, vs), ⟨hl, hok⟩, hs⟩)
theorem Own.rokOf (h : Own w0 w rs) (hk : rs[k]? = some (refR p d)) : d.Ok := by obtain ⟨bc, vs, _, h2, _⟩ := h.openRef hk; exact h2
theorem refCell_len {c : Qd.Cell} (hc : SecOk c.s) (v : Value) : (refCell (c, v)).length = 66 := by simp [refCell, cellVals, sec64 hc]
theorem zip_ok {cs : List Qd.Cell} {vs : List Value} (hc : ∀ c ∈ cs, SecOk c.s) : ∀ x ∈ cs.zip vs, (refCell x).length = 66 := fun x hx => refCell_len (hc x.1 (List.of_mem_zip hx).1) x.2
theorem refRow_len {cs : List Qd.Cell} {vs : List Value} (hc : ∀ c ∈ cs, SecOk c.s) (hl : vs.length = cs.length) : (refRow cs vs).length = cs.length * 66 := by
  rw [refRow, flatMap_len (m := 66) (zip_ok hc), List.length_zip, hl, Nat.min_self]
theorem zip_get {cs : List Qd.Cell} {vs : List Value} (hl : vs.length = cs.length) {i : Nat} (hi : i < cs.length) : (cs.zip vs)[i]? = some (cs.getD i zeroCell, vs.getD i (.slice none 0 0)) := by
  rw [List.getElem?_zip_eq_some]
  simp [List.getD_eq_getElem?_getD, hi, hl]
theorem refRow_get {cs : List Qd.Cell} {vs : List Value} (hc : ∀ c ∈ cs, SecOk c.s) (hl : vs.length = cs.length) {i j : Nat} (hi : i < cs.length) (hj : j < 66) : (refRow cs vs)[i * 66 + j]? = (refCell (cs.getD i zeroCell, vs.getD i (.slice none 0 0)))[j]? :=
  flatMap_piece (m := 66) (zip_ok hc) i _ (zip_get hl hi) j hj
theorem refRow_set {cs : List Qd.Cell} {vs : List Value} (hc : ∀ c ∈ cs, SecOk c.s) (hl : vs.length = cs.length) {i : Nat} (hi : i < cs.length) {c : Qd.Cell} (hs : SecOk c.s) (v : Value) :
    refRow (cs.set i c) (vs.set i v) = (refRow cs vs).take (i * 66) ++ refCell (c, v) ++ (refRow cs vs).drop (i * 66 + 66) := by
  have e : (cs.set i c).zip (vs.set i v) = (cs.zip vs).set i (c, v) := by
    apply List.ext_getElem?
    intro n
    by_cases hn : n = i
    · subst hn
      rw [List.getElem?_set_self (by simp [hl, hi]), List.getElem?_zip_eq_some]
      simp [hi, hl]
    · rw [List.getElem?_set_ne (by omega)]
      simp only [List.zip, List.getElem?_zipWith, List.getElem?_set_ne (show i ≠ n by omega)]
  rw [refRow, e, flatMap_set (m := 66) (zip_ok hc) i (c, v) (by simp [hl, hi]) (refCell_len hs v)]
  rfl
/-! ### Operations -/
variable {o : Oper} {ρ : Operand → Value} {x y : Operand}
theorem exl_bool {b j : Nat} {u : Bool} (ho : o.op = .load 4 x) (hx : ρ x = .pointer (some ⟨b, j, none⟩)) (hc : w.cell? ⟨b, j, none⟩ = some (.bool u)) : (execOp ρ o).run Try.prog w = .ok (.value (.bool u)) w := by
  unfold execOp
  simp only [ho, hx]
  go_simp
theorem exl_cellsl {b j : Nat} {a : Option Addr} {m c : Nat} (ho : o.op = .load 105 x) (hx : ρ x = .pointer (some ⟨b, j, none⟩)) (hc : w.cell? ⟨b, j, none⟩ = some (.slice a m c)) : (execOp ρ o).run Try.prog w = .ok (.value (.slice a m c)) w := by
  unfold execOp
  simp only [ho, hx]
  go_simp
theorem exl_secsl {b j : Nat} {a : Option Addr} {m c : Nat} (ho : o.op = .load 87 x) (hx : ρ x = .pointer (some ⟨b, j, none⟩)) (hc : w.cell? ⟨b, j, none⟩ = some (.slice a m c)) : (execOp ρ o).run Try.prog w = .ok (.value (.slice a m c)) w := by
  unfold execOp
  simp only [ho, hx]
  go_simp
theorem exs_int {b j : Nat} {u : Int} {c : Value} (ho : o.op = .store 3 x y) (hx : ρ x = .pointer (some ⟨b, j, none⟩)) (hy : ρ y = .int .i64 u) (hc : w.cell? ⟨b, j, none⟩ = some c) (hf : w.frozen? ⟨b, j, none⟩ = false) : (execOp ρ o).run Try.prog w = .ok .skip (w.setCell ⟨b, j, none⟩ (.int .i64 u)) := by
  unfold execOp
  simp only [ho, hx, hy]
  go_simp
theorem exs_bool {b j : Nat} {u : Bool} {c : Value} (ho : o.op = .store 4 x y) (hx : ρ x = .pointer (some ⟨b, j, none⟩)) (hy : ρ y = .bool u) (hc : w.cell? ⟨b, j, none⟩ = some c) (hf : w.frozen? ⟨b, j, none⟩ = false) : (execOp ρ o).run Try.prog w = .ok .skip (w.setCell ⟨b, j, none⟩ (.bool u)) := by
  unfold execOp
  simp only [ho, hx, hy]
  go_simp
theorem exs_secsl {b j : Nat} {a : Option Addr} {m cp : Nat} {c : Value} (ho : o.op = .store 87 x y) (hx : ρ x = .pointer (some ⟨b, j, none⟩)) (hy : ρ y = .slice a m cp) (hc : w.cell? ⟨b, j, none⟩ = some c) (hf : w.frozen? ⟨b, j, none⟩ = false) : (execOp ρ o).run Try.prog w = .ok .skip (w.setCell ⟨b, j, none⟩ (.slice a m cp)) := by
  unfold execOp
  simp only [ho, hx, hy]
  go_simp
theorem Own.set1 {b j : Nat} {v : Value} {cs : List Value} {t : TypeId} (h : Own w0 w rs) (hk : rs[k]? = some (blkR b cs.toArray t)) (hj : j < cs.length) : Own w0 (w.setCell ⟨b, j, none⟩ v) (rs.set k (blkR b (cs.set j v).toArray t)) := by
  refine h.set hk (o := j) (vs := [v]) (by simp; omega) ?_
  rw [List.set_eq_take_append_cons_drop, if_pos hj]
  simp
theorem Own.cellOf {b j : Nat} {cs : List Value} {t : TypeId} (h : Own w0 w rs) (hk : rs[k]? = some (blkR b cs.toArray t)) : w.cell? ⟨b, j, none⟩ = cs[j]? := by rw [(h.blk hk).1.cell]; simp
theorem Own.xsi1 {b j : Nat} {u : Int} {cs : List Value} {t : TypeId} (h : Own w0 w rs) (hk : rs[k]? = some (blkR b cs.toArray t)) (ho : o.op = .store 3 x y) (hx : ρ x = .pointer (some ⟨b, j, none⟩)) (hy : ρ y = .int .i64 u) (hj : j < cs.length) :
    ∃ w1, (execOp ρ o).run Try.prog w = .ok .skip w1 ∧ Own w0 w1 (rs.set k (blkR b (cs.set j (.int .i64 u)).toArray t)) :=
  ⟨_, exs_int ho hx hy (c := cs[j]) (by rw [h.cellOf hk, List.getElem?_eq_getElem hj]) ((h.blk hk).1.frozen j), h.set1 hk hj⟩
theorem Own.xsb1 {b j : Nat} {u : Bool} {cs : List Value} {t : TypeId} (h : Own w0 w rs) (hk : rs[k]? = some (blkR b cs.toArray t)) (ho : o.op = .store 4 x y) (hx : ρ x = .pointer (some ⟨b, j, none⟩)) (hy : ρ y = .bool u) (hj : j < cs.length) :
    ∃ w1, (execOp ρ o).run Try.prog w = .ok .skip w1 ∧ Own w0 w1 (rs.set k (blkR b (cs.set j (.bool u)).toArray t)) :=
  ⟨_, exs_bool ho hx hy (c := cs[j]) (by rw [h.cellOf hk, List.getElem?_eq_getElem hj]) ((h.blk hk).1.frozen j), h.set1 hk hj⟩
theorem Own.xssecs {b j : Nat} {a : Option Addr} {m cp : Nat} {cs : List Value} {t : TypeId} (h : Own w0 w rs) (hk : rs[k]? = some (blkR b cs.toArray t)) (ho : o.op = .store 87 x y) (hx : ρ x = .pointer (some ⟨b, j, none⟩)) (hy : ρ y = .slice a m cp) (hj : j < cs.length) :
    ∃ w1, (execOp ρ o).run Try.prog w = .ok .skip w1 ∧ Own w0 w1 (rs.set k (blkR b (cs.set j (.slice a m cp)).toArray t)) :=
  ⟨_, exs_secsl ho hx hy (c := cs[j]) (by rw [h.cellOf hk, List.getElem?_eq_getElem hj]) ((h.blk hk).1.frozen j), h.set1 hk hj⟩
theorem Own.xlbool {b j : Nat} {u : Bool} {cs : List Value} {t : TypeId} (h : Own w0 w rs) (hk : rs[k]? = some (blkR b cs.toArray t)) (ho : o.op = .load 4 x) (hx : ρ x = .pointer (some ⟨b, j, none⟩)) (hv : cs[j]? = some (.bool u)) : (execOp ρ o).run Try.prog w = .ok (.value (.bool u)) w := exl_bool ho hx (by rw [h.cellOf hk]; exact hv)
theorem Own.xlcells {b j : Nat} {a : Option Addr} {m c : Nat} {cs : List Value} {t : TypeId} (h : Own w0 w rs) (hk : rs[k]? = some (blkR b cs.toArray t)) (ho : o.op = .load 105 x) (hx : ρ x = .pointer (some ⟨b, j, none⟩)) (hv : cs[j]? = some (.slice a m c)) : (execOp ρ o).run Try.prog w = .ok (.value (.slice a m c)) w := exl_cellsl ho hx (by rw [h.cellOf hk]; exact hv)
theorem Own.xlsecs {b j : Nat} {a : Option Addr} {m c : Nat} {cs : List Value} {t : TypeId} (h : Own w0 w rs) (hk : rs[k]? = some (blkR b cs.toArray t)) (ho : o.op = .load 87 x) (hx : ρ x = .pointer (some ⟨b, j, none⟩)) (hv : cs[j]? = some (.slice a m c)) : (execOp ρ o).run Try.prog w = .ok (.value (.slice a m c)) w := exl_secsl ho hx (by rw [h.cellOf hk]; exact hv)
theorem Own.rowOf {v : Value} {i : Nat} {opn : Nat → List Sec} (h : Own w0 w rs) (hk : rs[k]? = some (rowsR vs opn)) (hi : vs[i]? = some v) : w.ownsRow 0 29 64 v (opn i).length (manyVals (opn i)) ∧ (opn i = [] → v = .slice none 0 0) := by
  obtain ⟨S, hs, _⟩ := h.get hk
  exact (hs i v hi).1
end
end Go.Proofs.Ytcaalfpfkalalaa
