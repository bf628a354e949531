/- Rows of sectors that are built in one go; guarded operations; own rows of numbers. -/
import Derived.Test.YtcaalfpfkalalaaO2
set_option linter.unusedVariables false
set_option linter.unusedSimpArgs false
namespace Go.Proofs.Ytcaalfpfkalalaa
open Go.RowKit Qd
theorem fill_cons {place : Nat → Option (Nat × Nat)} {cells : Array Value} {i : Nat} {v : Value} {rest : List (Nat × Value)} :
    Instr.fill place cells ((i, v) :: rest) = (Instr.fill place cells [(i, v)]).bind (fun c => Instr.fill place c rest) := by
  simp only [Instr.fill]
  cases place i with
  | none => rfl
  | some p =>
    simp only
    split <;> rfl
theorem fill_seq {size : Nat} : ∀ (vs : List Value) (k : Nat) (pre post : List Value), (∀ v ∈ vs, v.cells.size = size) → pre.length = k * size → post.length = vs.length * size →
    Instr.fill (fun i => some (i * size, size)) (pre ++ post).toArray ((vs.zipIdx k).map fun x => (x.2, x.1)) = some (pre ++ vs.flatMap fun v => v.cells.toList).toArray
  | [], k, pre, post, _, _, h => by
    have : post = [] := List.eq_nil_of_length_eq_zero (by simpa using h)
    subst this
    simp [Instr.fill]
  | v :: r, k, pre, post, hv, hp, hq => by
    have hs := hv v (by simp)
    rw [List.length_cons, Nat.succ_mul] at hq
    rw [List.zipIdx_cons, List.map_cons, fill_cons, fill_one (off := k * size) (size := size) rfl hs (by rw [List.size_toArray, List.length_append, hp, hq]; omega)]
    simp only [Option.bind_some]
    have e1 : (pre ++ post).toArray.toList.take (k * size) = pre := by
      show (pre ++ post).take (k * size) = pre
      rw [List.take_left' hp]
    have e2 : (pre ++ post).toArray.toList.drop (k * size + size) = post.drop size := by
      show (pre ++ post).drop (k * size + size) = post.drop size
      rw [← hp, List.drop_length_add_append]
    rw [e1, e2, fill_seq r (k + 1) (pre ++ v.cells.toList) (post.drop size) (fun x hx => hv x (by simp [hx])) (by rw [List.length_append, hp, Nat.succ_mul]; have : v.cells.toList.length = size := hs; omega) (by rw [List.length_drop, hq]; omega)]
    simp
section
variable {P : Program} {o : Oper} {w : World} {ρ : Operand → Value}
theorem ex_sliceN {T E : TypeId} {parts : Array (Nat × Operand)} {z : Value} {size n : Nat} {vs : List Value} (ho : o.op = .buildSlice T n parts) (hT : P.underlying T = some (.slice E)) (hi : (P.info? E).map (fun i => (i.zero, i.size)) = some (some z, size)) (hz : z.cells.size = size) (hs : 0 < size) (hn : 0 < n) (hm : n * size ≤ 16777216)
    (hp : parts.toList.map (fun x => (x.1, ρ x.2)) = (vs.zipIdx 0).map fun x => (x.2, x.1)) (hv : ∀ v ∈ vs, v.cells.size = size) (hl : vs.length = n) :
    (execOp ρ o).run P w = .ok (.value (.slice (some ⟨w.heap.size, 0, none⟩) n n)) (w.alloc (.cells (vs.flatMap fun v => v.cells.toList).toArray E)) := by
  obtain ⟨i, hi1, hi2⟩ := Option.map_eq_some_iff.1 hi
  simp only [Prod.mk.injEq] at hi2
  have hz1 : (zeroValue E).run P w = .ok z w := by simp [zeroValue, typeInfo, hi1, hi2.1]
  have hs1 : (sizeOf E).run P w = .ok size w := by simp [sizeOf, typeInfo, hi1, hi2.2]
  have hf : Instr.fill (fun i => some (i * size, size)) ((Array.range (n * size)).map (z.cells[· % z.cells.size]!)) (parts.toList.map (fun x => (x.1, ρ x.2))) = some (vs.flatMap fun v => v.cells.toList).toArray := by
    rw [hp]
    have := fill_seq (size := size) vs 0 ([] : List Value) ((Array.range (n * size)).map (z.cells[· % z.cells.size]!)).toList hv (by simp) (by simp [hl])
    rw [List.nil_append, List.nil_append, Array.toArray_toList] at this
    exact this
  have hne : ¬ (n * size = 0) := by
    have := Nat.mul_pos hn hs
    omega
  have hle : ¬ 16777216 < n * size := by omega
  have hmap : (parts.map fun x => (x.1, ρ x.2)).toList = parts.toList.map (fun x => (x.1, ρ x.2)) := by simp
  unfold execOp
  simp only [ho]
  simp [Instr.buildSlice, run_underlying hT, hs1, hz1, hne, hle, hf, newRow, newObj, Sem.run, Result.andThen]
end
section
variable {P : Program} {ops : Array Oper} {rest : List Oper} {o : Oper} {a : Act} {Q : Exit → Act → World → Prop} {w w1 : World}
theorem go_vg_ex {C : Value → World → Prop} (hw : Region.wanted o (yielded ops a.tmps) = true) (hrun : ∃ v w1, (execOp a.eval o).run P w = .ok (.value v) w1 ∧ C v w1) (h : ∀ v w1, C v w1 → wpList P ops Q rest (a.put o.dst v) w1) : wpList P ops Q (o :: rest) a w := by
  obtain ⟨v, w1, hr, hc⟩ := hrun
  exact go_vg hw hr (h v w1 hc)
end
section
variable {w0 w : World} {rs : List Res} {k : Nat}
theorem Own.left {l1 l2 : List Res} (h : Own w0 w (l1 ++ l2)) : Own w0 w l1 := by
  obtain ⟨h0, F, h1, h2, h3⟩ := h
  exact ⟨h0, F, fun i r hi => h1 i r (by rw [List.getElem?_append_left (List.getElem?_eq_some_iff.1 hi).1]; exact hi), h2, h3⟩
/-- The alloc that fills slot n. -/
theorem Own.xallocAt {o : Oper} {ρ : Operand → Value} (n : Tmp) (h : Own w0 w rs) (hd : o.dst = some n) (ho : o.op = .alloc 29) : ∃ v w1, (execOp ρ o).run Try.prog w = .ok (.value v) w1 ∧ ∃ b, v = .pointer (some ⟨b, 0, none⟩) ∧ Own w0 w1 (rs ++ [blkR b (secVals zeroSec).toArray 29]) := h.xalloc ho
theorem Own.xint {o : Oper} {ρ : Operand → Value} {x : Operand} {i : Int} (h : Own w0 w rs) (ho : o.op = .buildSlice 33 1 #[(0, x)]) (hx : ρ x = .int .i64 i) :
    ∃ v w1, (execOp ρ o).run Try.prog w = .ok (.value v) w1 ∧ ∃ b, v = .slice (some ⟨b, 0, none⟩) 1 1 ∧ KeepIs w1 v [i] ∧ Nw w w1 ∧ Own w0 w1 (rs ++ [blkR b #[.int .i64 i] 3]) :=
  ⟨_, _, exz_int ho hx, _, rfl, ⟨_, _, rfl, fun _ => ⟨_, 0, rfl, (Blk.new w #[.int .i64 i] 3).range 0 _ (fun j _ => by simp)⟩⟩, (Nw.refl w).alloc _, h.alloc _ _⟩
theorem Own.xsecs {o : Oper} {ρ : Operand → Value} {n : Nat} {parts : Array (Nat × Operand)} {l : List Sec} (h : Own w0 w rs) (ho : o.op = .buildSlice 87 n parts) (hn : 0 < n) (hm : n ≤ 1000) (hl : ∀ s ∈ l, SecOk s) (hlen : l.length = n)
    (hp : parts.toList.map (fun x => (x.1, ρ x.2)) = ((l.map fun s => Value.agg (secVals s).toArray).zipIdx 0).map fun x => (x.2, x.1)) :
    ∃ v w1, (execOp ρ o).run Try.prog w = .ok (.value v) w1 ∧ ∃ b, v = .slice (some ⟨b, 0, none⟩) n n ∧ Nw w w1 ∧ Own w0 w1 (rs ++ [blkR b (manyVals l).toArray 29]) := by
  have hi : (Try.prog.info? 29).map (fun i => (i.zero, i.size)) = some (some (.agg (secVals zeroSec).toArray), 64) := by kernel_rfl
  have hr := ex_sliceN (P := Try.prog) (w := w) ho uSecs hi (by simp [Value.cells, sec64 zeroSec_ok]) (by omega) hn (by omega) hp (fun v hv => by
    obtain ⟨s, hs, rfl⟩ := List.mem_map.1 hv
    simp [Value.cells, sec64 (hl s hs)]) (by simp [hlen])
  have e : ((l.map fun s => Value.agg (secVals s).toArray).flatMap fun v => v.cells.toList) = manyVals l := by
    unfold manyVals
    rw [List.flatMap_map]
    rfl
  rw [e] at hr
  exact ⟨_, _, hr, _, rfl, (Nw.refl w).alloc _, h.alloc _ _⟩
theorem ex_store_byte {o : Oper} {ρ : Operand → Value} {x y : Operand} {b j : Nat} {u : Int} {c : Value} (ho : o.op = .store 5 x y) (hx : ρ x = .pointer (some ⟨b, j, none⟩)) (hy : ρ y = .int .u8 u) (hc : w.cell? ⟨b, j, none⟩ = some c) (hf : w.frozen? ⟨b, j, none⟩ = false) :
    (execOp ρ o).run Try.prog w = .ok .skip (w.setCell ⟨b, j, none⟩ (.int .u8 u)) := by
  unfold execOp
  simp only [ho, hx, hy]
  go_simp
theorem Own.xbyte {o : Oper} {ρ : Operand → Value} {x y : Operand} {b j : Nat} {u : Int} {cs cs' : Array Value} {t : TypeId} (h : Own w0 w rs) (ho : o.op = .store 5 x y) (hx : ρ x = .pointer (some ⟨b, j, none⟩)) (hk : rs[k]? = some (blkR b cs t)) (hy : ρ y = .int .u8 u) (hj : j < cs.size)
    (hc : cs' = (cs.toList.take j ++ [Value.int .u8 u] ++ cs.toList.drop (j + [Value.int .u8 u].length)).toArray) : ∃ w1, (execOp ρ o).run Try.prog w = .ok .skip w1 ∧ Own w0 w1 (rs.set k (blkR b cs' t)) := by
  have hb := (h.blk hk).1
  exact ⟨_, ex_store_byte ho hx hy (c := cs[j]) (by rw [hb.cell]; simp [hj]) (hb.frozen j), h.set hk (vs := [Value.int .u8 u]) (by simp; omega) hc⟩
end
end Go.Proofs.Ytcaalfpfkalalaa
