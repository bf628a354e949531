/- Laws at single operations: whole sectors and cells loaded and stored, allocations, look-ups. -/
import Derived.Test.YtcaalfpfkalalaaA2
import Derived.Test.YtcaalfpfkalalaaF1
import Derived.Test.YtcaalfpfkalalaaWLast
import Derived.Lib.Hide
set_option linter.unusedVariables false
set_option linter.unusedSimpArgs false
namespace Go.Proofs.Ytcaalfpfkalalaa
open Go.RowKit Qd
/-- New blocks alone. -/
abbrev Nw (w w' : World) : Prop := Turn (fun _ => False) w (fun _ => False) w'
theorem Nw.refl (w : World) : Nw w w := Turn.refl _ w
theorem Nw.trans {w w' w'' : World} (h : Nw w w') (k : Nw w' w'') : Nw w w'' := Turn.trans h k
theorem Nw.alloc {w w' : World} (h : Nw w w') (o : Obj) : Nw w (w'.alloc o) := h.trans (Turn.alloc _ _ _)
theorem Nw.drew {w w' : World} (h : Nw w w') : Nw w w'.drew := h.trans (Turn.drew _ _)
/-- A store into a block that is new since w. -/
theorem Nw.setCell {w w' : World} (h : Nw w w') {a : Addr} (ha : w.heap.size ≤ a.block) (v : Value) : Nw w (w'.setCell a v) :=
  ⟨h.os, h.tape, h.output, Nat.le_trans h.size (by simp [World.setCell]), fun k hk hs => (heap_setCell_other w' a k v (by omega)).trans (h.block k hk hs), fun _ hk => hk.elim⟩
theorem Nw.setCells {w w' : World} (h : Nw w w') {b o : Nat} {cs : Array Value} {t : TypeId} (hb : Blk w' b cs t) (vs : List Value) (hl : o + vs.length ≤ cs.size) (ha : w.heap.size ≤ b) : Nw w (w'.setCells b o vs) :=
  have k := Turn.setCells (S := fun x => x = b) hb vs hl rfl
  ⟨k.os.trans h.os, k.tape.trans h.tape, k.output.trans h.output, Nat.le_trans h.size k.size, fun i hi hs => (k.block i (Nat.lt_of_lt_of_le hi h.size) (by omega)).trans (h.block i hi hs), fun _ hk => hk.elim⟩
theorem Nw.grown {w w' w'' : World} {row : Option Nat} (h : Nw w w') (hg : w'.grownBy w'' row) (hr : ∀ k, row = some k → w.heap.size ≤ k) : Nw w w'' :=
  ⟨hg.os.trans h.os, hg.tape.trans h.tape, hg.output.trans h.output, Nat.le_trans h.size hg.size, fun i hi hs => (hg.block i (Nat.lt_of_lt_of_le hi h.size) (fun e => by have := hr i e.symm; omega)).trans (h.block i hi hs), fun _ hk => hk.elim⟩
theorem DiskIn.nw {w w' : World} {S : Nat → Prop} {p : Nat} {d : Disk} (h : DiskIn w S p d) (ht : Nw w w') : DiskIn w' S p d := h.turn ht (fun _ _ h => h)
theorem range_alloc {w : World} {b o : Nat} {cs : List Value} (h : w.rangeAt b o cs) (ob : Obj) : (w.alloc ob).rangeAt b o cs := World.rangeAt_alloc h ob
theorem MapIs.alloc {w : World} {bm : Nat} {f : Int → Option Value} (h : MapIs w bm f) (o : Obj) : MapIs (w.alloc o) bm f := h.same ((MapKept.heap_alloc w o).2 _ h.lt)
theorem MapIs.nw {w w' : World} {bm : Nat} {f : Int → Option Value} (h : MapIs w bm f) (ht : Nw w w') : MapIs w' bm f := h.same (ht.block _ h.lt (fun h => h))
theorem Blk.alloc {w : World} {b : Nat} {cs : Array Value} {t : TypeId} (h : Blk w b cs t) (o : Obj) : Blk (w.alloc o) b cs t := ((MapKept.heap_alloc w o).2 _ h.lt).trans h
theorem Blk.new (w : World) (cs : Array Value) (t : TypeId) : Blk (w.alloc (.cells cs t)) w.heap.size cs t := (MapKept.heap_alloc w _).1
theorem Blk.drew {w : World} {b : Nat} {cs : Array Value} {t : TypeId} (h : Blk w b cs t) : Blk w.drew b cs t := h
theorem Blk.turn {S S' : Nat → Prop} {w w' : World} {b : Nat} {cs : Array Value} {t : TypeId} (h : Blk w b cs t) (ht : Turn S w S' w') (hs : ¬ S b) : Blk w' b cs t := ht.blk h hs
theorem Blk.nw {w w' : World} {b : Nat} {cs : Array Value} {t : TypeId} (h : Blk w b cs t) (ht : Nw w w') : Blk w' b cs t := ht.blk h (fun h => h)

section
variable {P : Program} {ops : Array Oper} {rest : List Oper} {o : Oper} {a : Act} {Q : Exit → Act → World → Prop} {w w1 : World} {ρ : Operand → Value}
/-- An operation of a plain region, by its run. -/
theorem go_val {v : Value} (hgd : o.guard = none) (hrun : (execOp a.eval o).run P w = .ok (.value v) w1) (h : wpList P ops Q rest (a.put o.dst v) w1) : wpList P ops Q (o :: rest) a w := by
  refine wpList_plain hgd fun K hK => ?_
  unfold Oper.wp
  rw [hrun]
  exact hK _ _ h
theorem go_skp (hgd : o.guard = none) (hrun : (execOp a.eval o).run P w = .ok .skip w1) (h : wpList P ops Q rest (a.put o.dst undef) w1) : wpList P ops Q (o :: rest) a w := by
  refine wpList_plain hgd fun K hK => ?_
  unfold Oper.wp
  rw [hrun]
  exact hK _ _ h
theorem go_val_ex {C : Value → World → Prop} (hgd : o.guard = none) (hrun : ∃ v w1, (execOp a.eval o).run P w = .ok (.value v) w1 ∧ C v w1) (h : ∀ v w1, C v w1 → wpList P ops Q rest (a.put o.dst v) w1) : wpList P ops Q (o :: rest) a w := by
  obtain ⟨v, w1, hr, hc⟩ := hrun
  exact go_val hgd hr (h v w1 hc)
theorem go_skp_ex {C : World → Prop} (hgd : o.guard = none) (hrun : ∃ w1, (execOp a.eval o).run P w = .ok .skip w1 ∧ C w1) (h : ∀ w1, C w1 → wpList P ops Q rest (a.put o.dst undef) w1) : wpList P ops Q (o :: rest) a w := by
  obtain ⟨w1, hr, hc⟩ := hrun
  exact go_skp hgd hr (h w1 hc)
/-- In a region that draws its order. -/
theorem value_ex {N : Option Tmp} {K : Act → World → Prop} {C : Value → World → Prop} (hw : Region.wanted o (yielded ops a.tmps) = true) (hN : o.dst = N) (hrun : ∃ v w1, (execOp a.eval o).run P w = .ok (.value v) w1 ∧ C v w1)
    (h : ∀ v w1, C v w1 → K (a.put N v) w1) : if Region.wanted o (yielded ops a.tmps) = true then Oper.wp P o a w K Q else K (a.put N undef) w := by
  obtain ⟨v, w1, hr, hc⟩ := hrun
  exact Go.Proofs.YtcaalfpfkalalaaW.PrintLast.value_ hw hN hr (h v w1 hc)
theorem skip_ex {K : Act → World → Prop} {C : World → Prop} (hw : Region.wanted o (yielded ops a.tmps) = true) (hN : o.dst = none) (hrun : ∃ w1, (execOp a.eval o).run P w = .ok .skip w1 ∧ C w1)
    (h : ∀ w1, C w1 → K a w1) : if Region.wanted o (yielded ops a.tmps) = true then Oper.wp P o a w K Q else K (a.put none undef) w := by
  obtain ⟨w1, hr, hc⟩ := hrun
  exact Go.Proofs.YtcaalfpfkalalaaW.PrintLast.skip_ hw hN hr (h w1 hc)
theorem ex_load {ty : TypeId} {x : Operand} (ho : o.op = .load ty x) {b k : Nat} (hx : ρ x = .pointer (some ⟨b, k, none⟩)) {cs : List Value} {d : TypeDesc} (hc : w.rangeAt b k cs) (hu : P.underlying ty = some d) (hd : d.isRow = true) (hi : (P.info? ty).map (·.size) = some cs.length) :
    (execOp ρ o).run P w = .ok (.value (.agg cs.toArray)) w := by
  unfold execOp
  simp only [ho, hx, Sem.run_bind, Sem.run_pure, Result.andThen_ok, run_loadAt_mid w b k ty cs d hc hu hd hi]
theorem ex_store {ty : TypeId} {x y : Operand} (ho : o.op = .store ty x y) {b k : Nat} (hx : ρ x = .pointer (some ⟨b, k, none⟩)) {cs : List Value} (hy : ρ y = .agg cs.toArray) (ht : w.there b k cs.length) (hi : (P.info? ty).map (·.size) = some cs.length) (h1 : ∀ v ∈ cs, v.oneCell' = true) :
    (execOp ρ o).run P w = .ok .skip (w.setCells b k cs) := by
  unfold execOp
  simp only [ho, hx, hy, Sem.run_bind, Sem.run_pure, Result.andThen_ok, run_storeAt_mid w b k ty cs.toArray (by simpa using ht) (by simpa using hi) (all_oneCell_toArray h1), List.toList_toArray]
theorem ex_alloc {ty : TypeId} (ho : o.op = .alloc ty) {cs : List Value} (hz : (zeroValue ty).run P w = .ok (.agg cs.toArray) w) : (execOp ρ o).run P w = .ok (.value (.pointer (some ⟨w.heap.size, 0, none⟩))) (w.alloc (.cells cs.toArray ty)) := by
  unfold execOp
  simp only [ho]
  simp [Instr.alloc, hz, newVar, newRow, newObj, Sem.run, Result.andThen, Value.cells]
theorem ex_box {ty : TypeId} {x : Operand} (ho : o.op = .box ty x) {cs : List Value} (hx : ρ x = .agg cs.toArray) : (execOp ρ o).run P w = .ok (.value (.pointer (some ⟨w.heap.size, 0, none⟩))) (w.alloc (.cells cs.toArray ty)) := by
  unfold execOp
  simp only [ho, hx]
  simp [Instr.box, newVar, newRow, newObj, Sem.run, Result.andThen, Value.cells]
theorem ex_lookup {T K E : TypeId} {x y : Operand} (ho : o.op = .lookup T x y false) {bm : Nat} {f : Int → Option Value} {k : Int} {z v : Value} (hT : P.underlying T = some (.map K E)) (hK : P.underlying K = some (.int .i64)) (hz : (zeroValue E).run P w = .ok z w)
    (hx : ρ x = .map (some bm)) (hy : ρ y = .int .i64 k) (hm : MapIs w bm f) (hv : (f k).getD z = v) : (execOp ρ o).run P w = .ok (.value v) w := by
  have hr := map_lookup (P := P) hT hK hz hm k
  rw [hv] at hr
  unfold execOp
  simp only [ho, hx, hy, Sem.run_bind, hr, Result.andThen_ok, Sem.run_pure]
end

section
variable {P : Program} {ops : Array Oper} {rest : List Oper} {o : Oper} {a : Act} {Q : Exit → Act → World → Prop} {w : World} {ρ : Operand → Value}
theorem ex_range {T K E : TypeId} {x : Operand} {bm : Nat} {f : Int → Option Value} (ho : o.op = .range T x) (hT : P.underlying T = some (.map K E)) (hx : ρ x = .map (some bm)) (hm : MapIs w bm f) :
    ∃ v w', (execOp ρ o).run P w = .ok (.value v) w' ∧ ∃ cnt, v = .pointer (some ⟨w.heap.size, 0, none⟩) ∧ RangeIs w' bm w.heap.size f (fun k => (f k).isSome) cnt ∧ w.grownBy w' none ∧ w'.heap.size = w.heap.size + 1 := by
  obtain ⟨w', cnt, h1, h2, h3, h4⟩ := map_range (P := P) hT hm
  refine ⟨_, w', ?_, cnt, rfl, h2, h3, h4⟩
  unfold execOp
  simp only [ho, hx, Sem.run_bind, h1, Result.andThen_ok, Sem.run_pure]
/-- 'for k, v := range m', the step: nothing is left, or a key comes. -/
theorem go_next {x : Operand} {bm r cnt : Nat} {f : Int → Option Value} {left : Int → Bool} (hgd : o.guard = none) (ho : o.op = .next x false) (hx : a.eval x = .pointer (some ⟨r, 0, none⟩)) (hm : RangeIs w bm r f left cnt)
    (h0 : (∀ k, left k = false) → wpList P ops Q rest (a.put o.dst (.tuple #[.bool false])) w)
    (h1 : ∀ k v w1 cnt1, left k = true → f k = some v → RangeIs w1 bm r f (fun x => left x && x != k) cnt1 → cnt1 < cnt → w.grownBy w1 (some r) → w1.heap.size = w.heap.size →
      (Instr.entry (.pointer (some ⟨r, 0, none⟩))).run P w1 = .ok (.tuple #[.int .i64 k, v]) w1 → wpList P ops Q rest (a.put o.dst (.tuple #[.bool true, .int .i64 k, v])) w1) :
    wpList P ops Q (o :: rest) a w := by
  rcases range_next (P := P) hm o.type with ⟨h2, h3⟩ | ⟨k, v, w1, cnt1, h2, h3, h4, h5, h6, h7, h8, h9⟩
  · refine go_val hgd ?_ (h0 h2)
    unfold execOp
    simp only [ho, hx, Sem.run_bind, h3, Result.andThen_ok, Sem.run_pure]
  · refine go_val hgd ?_ (h1 k v w1 cnt1 h2 h3 h5 h6 h7 h8 h9)
    unfold execOp
    simp only [ho, hx, Sem.run_bind, h4, Result.andThen_ok, Sem.run_pure]
theorem ex_del_range {T K E : TypeId} {x y : Operand} {bm r cnt : Nat} {f : Int → Option Value} {left : Int → Bool} {k : Int} (ho : o.op = .call { callee := .builtin .delete, args := #[x, y], argTypes := #[T, K] }) (hT : P.underlying T = some (.map K E)) (hK : P.underlying K = some (.int .i64))
    (hx : ρ x = .map (some bm)) (hy : ρ y = .int .i64 k) (hm : RangeIs w bm r f left cnt) :
    ∃ v w', (execOp ρ o).run P w = .ok (.value v) w' ∧ ∃ cnt', RangeIs w' bm r (fun x => if x = k then none else f x) (fun x => left x && x != k) cnt' ∧ cnt' ≤ cnt ∧ w.grownBy w' (some bm) ∧ w'.heap.size = w.heap.size := by
  obtain ⟨w', cnt', h1, h2, h3, h4, h5⟩ := range_delete (P := P) hT hK hm k o.type
  refine ⟨.tuple #[], w', ?_, cnt', h2, h3, h4, h5⟩
  unfold execOp
  simp only [ho, resolve, invoke, builtin, Sem.run_bind, Sem.run_pure, Result.andThen_ok, List.map_toArray, List.map_cons, List.map_nil, hx, hy, h1]
theorem ex_del {T K E : TypeId} {x y : Operand} {bm : Nat} {f : Int → Option Value} {k : Int} (ho : o.op = .call { callee := .builtin .delete, args := #[x, y], argTypes := #[T, K] }) (hT : P.underlying T = some (.map K E)) (hK : P.underlying K = some (.int .i64))
    (hx : ρ x = .map (some bm)) (hy : ρ y = .int .i64 k) (hm : MapIs w bm f) :
    ∃ v w', (execOp ρ o).run P w = .ok (.value v) w' ∧ MapIs w' bm (fun x => if x = k then none else f x) ∧ w.grownBy w' (some bm) ∧ w'.heap.size = w.heap.size := by
  obtain ⟨w', h1, h2, h4, h5⟩ := map_delete (P := P) hT hK hm k o.type
  refine ⟨.tuple #[], w', ?_, h2, h4, h5⟩
  unfold execOp
  simp only [ho, resolve, invoke, builtin, Sem.run_bind, Sem.run_pure, Result.andThen_ok, List.map_toArray, List.map_cons, List.map_nil, hx, hy, h1]
end
/-! ### Parts laid into a value -/
theorem fill_fold (off : Nat) : ∀ (l : List Value) (k : Nat) (acc : Array Value), off + k + l.length ≤ acc.size →
    (l.zipIdx k).foldl (fun (cs : Array Value) (x : Value × Nat) => cs.setIfInBounds (off + x.2) x.1) acc = (acc.toList.take (off + k) ++ l ++ acc.toList.drop (off + k + l.length)).toArray
  | [], k, acc, _ => by simp
  | v :: r, k, acc, h => by
    simp only [List.length_cons] at h
    rw [List.zipIdx_cons, List.foldl_cons, fill_fold off r (k + 1) _ (by rw [Array.size_setIfInBounds]; omega)]
    have ho : off + k < acc.toList.length := by simp; omega
    simp only [List.length_cons]
    rw [Array.toList_setIfInBounds, show off + (k + 1) = off + k + 1 from by omega, List.drop_set_of_lt (by omega), List.take_succ_eq_append_getElem (by simp; omega), List.take_set, List.getElem_set_self, List.set_eq_of_length_le (by simp; omega)]
    simp [Nat.add_assoc, Nat.add_comm 1]
theorem fill_one {place : Nat → Option (Nat × Nat)} {cells : Array Value} {i off size : Nat} {v : Value} (hp : place i = some (off, size)) (hs : v.cells.size = size) (hb : off + size ≤ cells.size) :
    Instr.fill place cells [(i, v)] = some (cells.toList.take off ++ v.cells.toList ++ cells.toList.drop (off + size)).toArray := by
  have h1 : (v.cells.zipIdx.foldl (fun cs (x : Value × Nat) => cs.setIfInBounds (off + x.2) x.1) cells) = (cells.toList.take off ++ v.cells.toList ++ cells.toList.drop (off + size)).toArray := by
    rw [← Array.foldl_toList, Array.toList_zipIdx, fill_fold off v.cells.toList 0 cells (by rw [Array.length_toList, hs]; omega)]
    simp [hs]
  simp only [Instr.fill, hp, hs]
  have hf : (decide (size ≠ size) || decide (off + size > cells.size)) = false := by
    rw [decide_eq_false (by simp), decide_eq_false (by omega)]; rfl
  rw [hf, if_neg (by simp)]
  exact congrArg some h1
section
variable {P : Program} {o : Oper} {w : World} {ρ : Operand → Value}
theorem ex_build {t : TypeId} {i : Nat} {x : Operand} {v : Value} {cells : Array Value} (ho : o.op = .build t #[(i, x)]) (hx : ρ x = v) (h : P.built t [(i, v)] = some cells) : (execOp ρ o).run P w = .ok (.value (.agg cells)) w := by
  have := run_build (P := P) w t #[(i, v)] cells h
  unfold execOp
  simp only [ho, List.map_toArray, List.map_cons, List.map_nil, hx, Sem.run_bind, this, Result.andThen_ok, Sem.run_pure]
theorem ex_slice1 {T E : TypeId} {x : Operand} {z : Value} {cs : List Value} {size : Nat} (ho : o.op = .buildSlice T 1 #[(0, x)]) (hT : P.underlying T = some (.slice E)) (hi : (P.info? E).map (fun i => (i.zero, i.size)) = some (some z, size)) (hz : z.cells.size = size) (hs : 0 < size) (hm : size ≤ 16777216)
    (hx : (ρ x).cells = cs.toArray) (hl : cs.length = size) : (execOp ρ o).run P w = .ok (.value (.slice (some ⟨w.heap.size, 0, none⟩) 1 1)) (w.alloc (.cells cs.toArray E)) := by
  obtain ⟨i, hi1, hi2⟩ := Option.map_eq_some_iff.1 hi
  simp only [Prod.mk.injEq] at hi2
  have hz1 : (zeroValue E).run P w = .ok z w := by simp [zeroValue, typeInfo, hi1, hi2.1]
  have hs1 : (sizeOf E).run P w = .ok size w := by simp [sizeOf, typeInfo, hi1, hi2.2]
  have hf : Instr.fill (fun i => some (i * size, size)) ((Array.range size).map (z.cells[· % z.cells.size]!)) [(0, ρ x)] = some cs.toArray := by
    rw [fill_one (off := 0) (size := size) (by simp) (by rw [hx]; simpa using hl) (by simp)]
    rw [hx]
    simp [hl]
  have hne : ¬ size = 0 := by omega
  have hle : ¬ 16777216 < size := by omega
  unfold execOp
  simp only [ho, List.map_toArray, List.map_cons, List.map_nil]
  simp [Instr.buildSlice, run_underlying hT, hs1, hz1, hne, hle, hf, newRow, newObj, Sem.run, Result.andThen]
theorem ex_append {t e : TypeId} {s x : Operand} {z v : Value} {size bytes n m c : Nat} {xs news : List Value} {ad : Addr} (ho : o.op = .call { callee := .builtin .append, args := #[s, x], argTypes := #[t, t] })
    (ht : P.underlying t = some (.slice e)) (hi : (P.info? e).map (fun i => (i.zero, i.size, i.bytes)) = some (some z, size, bytes)) (hzs : z.cells.size = size) (hsz : 0 < size)
    (hs : ρ s = v) (hown : w.ownsRow 0 e size v n xs) (hx : ρ x = .slice (some ad) m c) (hl : news.length = m * size) (hnews : ∀ j u, news[j]? = some u → w.cell? (ad.add j) = some u) (h1 : ∀ u ∈ news, u.oneCell' = true)
    (h63 : n + m ≤ maxLen) (hbytes : (n + m) * bytes ≤ 140737488355328) :
    ∃ v' w', (execOp ρ o).run P w = .ok (.value v') w' ∧ w'.ownsRow 0 e size v' (n + m) (xs ++ news) ∧ w.grownBy w' v.ownBlock ∧ (v'.ownBlock = v.ownBlock ∨ v'.ownBlock = some w.heap.size) := by
  obtain ⟨i, hi1, hi2⟩ := Option.map_eq_some_iff.1 hi
  simp only [Prod.mk.injEq] at hi2
  obtain ⟨v', w', hr, h2, h3, _, h5⟩ := run_append_own_at (P := P) w 0 t o.type e i z size bytes ht hi1 hi2.1 hi2.2.1 hi2.2.2 hzs hsz v n xs hown ad m c news hl hnews h1 h63 hbytes (Nat.zero_le _)
  refine ⟨v', w', ?_, h2, h3, h5⟩
  unfold execOp
  simp only [ho, resolve, invoke, builtin, Sem.run_bind, Sem.run_pure, Result.andThen_ok, List.map_toArray, List.map_cons, List.map_nil, hs, hx, hr]
theorem ex_update {T K E : TypeId} {x y z : Operand} {bm : Nat} {f : Int → Option Value} {k : Int} {v : Value} (ho : o.op = .mapUpdate T x y z) (hT : P.underlying T = some (.map K E)) (hK : P.underlying K = some (.int .i64))
    (hx : ρ x = .map (some bm)) (hy : ρ y = .int .i64 k) (hz : ρ z = v) (hm : MapIs w bm f) :
    ∃ w', (execOp ρ o).run P w = .ok .skip w' ∧ MapIs w' bm (fun x => if x = k then some v else f x) ∧ w.grownBy w' (some bm) ∧ w'.heap.size = w.heap.size := by
  obtain ⟨w', h1, h2⟩ := map_update (P := P) hT hK hm k v
  refine ⟨w', ?_, h2⟩
  unfold execOp
  simp only [ho, hx, hy, hz, Sem.run_bind, h1, Result.andThen_ok, Sem.run_pure]
end

/-! ### At this program's types -/
section
variable {ops : Array Oper} {rest : List Oper} {o : Oper} {a : Act} {Q : Exit → Act → World → Prop} {w w1 : World} {ρ : Operand → Value}
theorem sec64 {s : Sec} (hs : SecOk s) : (secVals s).length = 64 := by simp [secVals, hs.1]
theorem cell65 {c : Qd.Cell} (hs : SecOk c.s) : (cellVals c).length = 65 := by simp [cellVals, secVals, hs.1]
theorem zSec (w : World) : (zeroValue 29).run Try.prog w = .ok (.agg (secVals zeroSec).toArray) w := by kernel_rfl
theorem zCell (w : World) : (zeroValue 100).run Try.prog w = .ok (.agg (cellVals zeroCell).toArray) w := by kernel_rfl
theorem exl_sec {x : Operand} (ho : o.op = .load 29 x) {b k : Nat} (hx : ρ x = .pointer (some ⟨b, k, none⟩)) {s : Sec} (hs : SecOk s) (hr : w.rangeAt b k (secVals s)) : (execOp ρ o).run Try.prog w = .ok (.value (.agg (secVals s).toArray)) w :=
  ex_load ho hx hr uSector rfl (by rw [sec64 hs]; exact sSector)
theorem exs_sec {x y : Operand} (ho : o.op = .store 29 x y) {b k : Nat} (hx : ρ x = .pointer (some ⟨b, k, none⟩)) {s : Sec} (hs : SecOk s) (hy : ρ y = .agg (secVals s).toArray) (hr : w.there b k 64) : (execOp ρ o).run Try.prog w = .ok .skip (w.setCells b k (secVals s)) :=
  ex_store ho hx hy (by rw [sec64 hs]; exact hr) (by rw [sec64 hs]; exact sSector) (secVals_one s)
theorem exl_cell {x : Operand} (ho : o.op = .load 100 x) {b k : Nat} (hx : ρ x = .pointer (some ⟨b, k, none⟩)) {c : Qd.Cell} (hs : SecOk c.s) (hr : w.rangeAt b k (cellVals c)) : (execOp ρ o).run Try.prog w = .ok (.value (.agg (cellVals c).toArray)) w := by
  obtain ⟨fs, hu⟩ := uCell
  exact ex_load ho hx hr hu rfl (by rw [cell65 hs]; exact sCell)
theorem exs_cell {x y : Operand} (ho : o.op = .store 100 x y) {b k : Nat} (hx : ρ x = .pointer (some ⟨b, k, none⟩)) {c : Qd.Cell} (hs : SecOk c.s) (hy : ρ y = .agg (cellVals c).toArray) (hr : w.there b k 65) : (execOp ρ o).run Try.prog w = .ok .skip (w.setCells b k (cellVals c)) :=
  ex_store ho hx hy (by rw [cell65 hs]; exact hr) (by rw [cell65 hs]; exact sCell) (cellVals_one c)
theorem exa_sec (ho : o.op = .alloc 29) : (execOp ρ o).run Try.prog w = .ok (.value (.pointer (some ⟨w.heap.size, 0, none⟩))) (w.alloc (.cells (secVals zeroSec).toArray 29)) := ex_alloc ho (zSec w)
theorem exa_cell (ho : o.op = .alloc 100) : (execOp ρ o).run Try.prog w = .ok (.value (.pointer (some ⟨w.heap.size, 0, none⟩))) (w.alloc (.cells (cellVals zeroCell).toArray 100)) := ex_alloc ho (zCell w)
theorem exb_cell {x : Operand} (ho : o.op = .build 100 #[(0, x)]) {s : Sec} (hs : SecOk s) (hx : ρ x = .agg (secVals s).toArray) : (execOp ρ o).run Try.prog w = .ok (.value (.agg (cellVals ⟨s, false⟩).toArray)) w := by
  have h : ∀ v, Try.prog.built 100 [(0, v)] = Instr.fill (#[(0, 64), (64, 1)][·]?) (cellVals zeroCell).toArray [(0, v)] := fun v => by kernel_rfl
  refine ex_build ho hx ?_
  rw [h, fill_one (off := 0) (size := 64) rfl (by simp [Value.cells, sec64 hs]) (by rw [List.size_toArray, cell65 (c := zeroCell) zeroSec_ok]; omega)]
  have e : ((cellVals zeroCell).toArray).toList.drop (0 + 64) = [.bool false] := by rfl
  rw [e]
  simp [Value.cells, cellVals]
theorem exb_rot {x : Operand} (ho : o.op = .build 100 #[(1, x)]) (hx : ρ x = .bool true) : (execOp ρ o).run Try.prog w = .ok (.value (.agg (cellVals rotCell).toArray)) w := by
  have h : Try.prog.built 100 [(1, .bool true)] = some (cellVals rotCell).toArray := by kernel_rfl
  exact ex_build ho hx h
theorem exz_sec {x : Operand} (ho : o.op = .buildSlice 87 1 #[(0, x)]) {s : Sec} (hs : SecOk s) (hx : ρ x = .agg (secVals s).toArray) : (execOp ρ o).run Try.prog w = .ok (.value (.slice (some ⟨w.heap.size, 0, none⟩) 1 1)) (w.alloc (.cells (secVals s).toArray 29)) := by
  have hi : (Try.prog.info? 29).map (fun i => (i.zero, i.size)) = some (some (.agg (secVals zeroSec).toArray), 64) := by kernel_rfl
  exact ex_slice1 ho uSecs hi (by simp [Value.cells, sec64 zeroSec_ok]) (by omega) (by omega) (by rw [hx]; rfl) (sec64 hs)
/-- append(v, s). -/
theorem exp_sec {s x : Operand} {v : Value} {n : Nat} {l : List Sec} {sec : Sec} {b : Nat} (ho : o.op = .call { callee := .builtin .append, args := #[s, x], argTypes := #[87, 87] }) (hs : ρ s = v) (hl : l.length = n) (hown : w.ownsRow 0 29 64 v n (manyVals l))
    (hx : ρ x = .slice (some ⟨b, 0, none⟩) 1 1) (hsec : SecOk sec) (hb : w.rangeAt b 0 (secVals sec)) (hn : n < 1099511627776) :
    ∃ v' w', (execOp ρ o).run Try.prog w = .ok (.value v') w' ∧ w'.ownsRow 0 29 64 v' (l ++ [sec]).length (manyVals (l ++ [sec])) ∧ w.grownBy w' v.ownBlock ∧ (v'.ownBlock = v.ownBlock ∨ v'.ownBlock = some w.heap.size) := by
  have hi : (Try.prog.info? 29).map (fun i => (i.zero, i.size, i.bytes)) = some (some (.agg (secVals zeroSec).toArray), 64, 64) := by kernel_rfl
  have := ex_append (P := Try.prog) ho uSecs hi (by simp [Value.cells, sec64 zeroSec_ok]) (by omega) hs hown hx (m := 1) (news := secVals sec) (by rw [sec64 hsec]) (fun j u hu => by rw [Addr.add_mid]; exact hb j u hu) (secVals_one sec) (by simp [maxLen]; omega) (by omega)
  have e1 : (l ++ [sec]).length = n + 1 := by simp [hl]
  have e2 : manyVals (l ++ [sec]) = manyVals l ++ secVals sec := by simp [manyVals]
  rw [e1, e2]; exact this
theorem exu_open {x y z : Operand} {bm : Nat} {f : Int → Option Value} {k : Int} {v : Value} (ho : o.op = .mapUpdate 83 x y z) (hx : ρ x = .map (some bm)) (hy : ρ y = .int .i64 k) (hz : ρ z = v) (hm : MapIs w bm f) :
    ∃ w', (execOp ρ o).run Try.prog w = .ok .skip w' ∧ MapIs w' bm (fun x => if x = k then some v else f x) ∧ w.grownBy w' (some bm) ∧ w'.heap.size = w.heap.size := ex_update ho uOpen uInt hx hy hz hm
/-- 'api.Sector{}'. -/
theorem exb_sec (ho : o.op = .build 29 #[]) : (execOp ρ o).run Try.prog w = .ok (.value (.agg (secVals zeroSec).toArray)) w := by
  have h : (Instr.build 29 #[]).run Try.prog w = .ok (.agg (secVals zeroSec).toArray) w := by kernel_rfl
  unfold execOp
  simp only [ho, List.map_toArray, List.map_nil, Sem.run_bind, h, Result.andThen_ok, Sem.run_pure]
theorem exk_open {x y : Operand} (ho : o.op = .lookup 83 x y false) {bm : Nat} {f : Int → Option Value} {k : Int} {v : Value} (hx : ρ x = .map (some bm)) (hy : ρ y = .int .i64 k)
    (hm : MapIs w bm f) (hv : (f k).getD (.slice none 0 0) = v) : (execOp ρ o).run Try.prog w = .ok (.value v) w := ex_lookup ho uOpen uInt (zSecs w) hx hy hm hv
end
section
variable {w : World}
theorem sec_range_of_blk {b : Nat} {s : Sec} {t : TypeId} (h : Blk w b (secVals s).toArray t) : w.rangeAt b 0 (secVals s) := h.range 0 _ (fun j _ => by rw [Nat.zero_add]; simp)
theorem sec_there_of_blk {b : Nat} {s : Sec} {t : TypeId} (hs : SecOk s) (h : Blk w b (secVals s).toArray t) : w.there b 0 64 := h.there 0 64 (by rw [List.size_toArray, sec64 hs]; omega)
theorem cell_range_of_blk {b : Nat} {c : Qd.Cell} {t : TypeId} (h : Blk w b (cellVals c).toArray t) : w.rangeAt b 0 (cellVals c) := h.range 0 _ (fun j _ => by rw [Nat.zero_add]; simp)
theorem cell_there_of_blk {b : Nat} {c : Qd.Cell} {t : TypeId} (hs : SecOk c.s) (h : Blk w b (cellVals c).toArray t) : w.there b 0 65 := h.there 0 65 (by rw [List.size_toArray, cell65 hs]; omega)
/-- A whole block is overwritten. -/
theorem blk_over {b : Nat} {xs ys : List Value} {t : TypeId} (h : Blk w b xs.toArray t) (hl : ys.length = xs.length) : Blk (w.setCells b 0 ys) b ys.toArray t := by
  have := h.setCells (o := 0) ys (by simp [hl])
  simpa [hl] using this
theorem many_range {g cap : Nat} {l : List Sec} (hl : ∀ s ∈ l, SecOk s) (h : w.ownsRow 0 29 64 (.slice (some ⟨g, 0, none⟩) l.length cap) l.length (manyVals l)) {i : Nat} (hi : i < l.length) : w.rangeAt g (i * 64) (secVals (l.getD i zeroSec)) := by
  intro j v hv
  have hj : j < 64 := by
    have := (List.getElem?_eq_some_iff.1 hv).1
    rwa [secVals_len, (getD_ok hl i).1] at this
  have hc : l[i]? = some (l.getD i zeroSec) := by rw [List.getElem?_eq_getElem hi, List.getD_eq_getElem?_getD, List.getElem?_eq_getElem hi]; rfl
  have h1 := flatMap_piece (g := secVals) (m := 64) (many_len hl) i _ hc j hj
  rw [hv] at h1
  have := h.cells (g := g) rfl _ _ h1
  rwa [Addr.add_mid, Nat.zero_add] at this
theorem own_form {v : Value} {n : Nat} {xs : List Value} {e size : Nat} (h : w.ownsRow 0 e size v n xs) (hn : 0 < n) : ∃ g cap, v = .slice (some ⟨g, 0, none⟩) n cap := by
  rcases h.2 with ⟨_, h1⟩ | ⟨g, cap, cur, rfl, _⟩
  · omega
  · exact ⟨g, cap, rfl⟩
theorem own_max {v : Value} {n : Nat} {xs : List Value} {e size : Nat} (h : w.ownsRow 0 e size v n xs) : n ≤ 9223372036854775807 := by
  rcases h.2 with ⟨_, h1⟩ | ⟨g, cap, cur, rfl, _, _, h1, h2, _⟩
  · omega
  · simp only [maxLen] at h2; omega
theorem lastSec_getD {l : List Sec} (h : l ≠ []) : lastSec l = l.getD (l.length - 1) zeroSec := by
  unfold lastSec
  rw [List.getLastD_eq_getLast?, List.getLast?_eq_getElem?, List.getD_eq_getElem?_getD]
theorem results_sec_tmp {fn : Func} {p u : Tmp} (h : fn.results = #[.cell p 29, .tmp u]) (tmps : Array Value) {b : Nat} {s : Sec} (hs : SecOk s) (hp : tmps.getD p undef = .pointer (some ⟨b, 0, none⟩)) (hr : w.rangeAt b 0 (secVals s)) {v : Value} (hv : tmps.getD u undef = v) :
    (results fn tmps).run Try.prog w = .ok (.tuple #[.agg (secVals s).toArray, v]) w := by
  rw [results_cell_tmp h, hp, hv]
  have := run_loadVar_mid (P := Try.prog) w b 0 29 (secVals s) _ hr uSector rfl (by rw [sec64 hs]; exact sSector)
  simp [asAddr, this, Result.andThen]
theorem results_cell_one {fn : Func} {p : Tmp} (h : fn.results = #[.cell p 100]) (tmps : Array Value) {b : Nat} {c : Qd.Cell} (hs : SecOk c.s) (hp : tmps.getD p undef = .pointer (some ⟨b, 0, none⟩)) (hr : w.rangeAt b 0 (cellVals c)) :
    (results fn tmps).run Try.prog w = .ok (.agg (cellVals c).toArray) w := by
  obtain ⟨fs, hu⟩ := uCell
  have := run_loadVar_mid (P := Try.prog) w b 0 100 (cellVals c) _ hr hu rfl (by rw [cell65 hs]; exact sCell)
  have hp' : tmps[p]?.getD undef = .pointer (some ⟨b, 0, none⟩) := by simpa using hp
  simp [results, h, hp', asAddr, this]
end
end Go.Proofs.Ytcaalfpfkalalaa
