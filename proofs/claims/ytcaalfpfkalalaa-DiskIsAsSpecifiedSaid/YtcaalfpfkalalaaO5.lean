/- Maps among what a call owns; some of the things, in another order; cells; lists of calls that came in. -/
import Derived.Test.YtcaalfpfkalalaaO4
set_option linter.unusedVariables false
set_option linter.unusedSimpArgs false
namespace Go.Proofs.Ytcaalfpfkalalaa
open Go.RowKit Qd
/-- A map from numbers. -/
def mapR (b : Nat) (f : Int → Option Value) : Res := ⟨fun w S => S b ∧ MapIs w b f, fun h hk => ⟨h.1, h.2.same (hk _ h.1)⟩⟩
/-- .. that is ranged over, by the iterator r. -/
def rangeR (b r : Nat) (f : Int → Option Value) (left : Int → Bool) (cnt : Nat) : Res := ⟨fun w S => S b ∧ S r ∧ RangeIs w b r f left cnt, fun h hk => ⟨h.1, h.2.1, h.2.2.same (hk _ h.1) (hk _ h.2.1)⟩⟩
section
variable {w0 w : World} {rs rs' : List Res} {k : Nat}
/-- Some of the things, in another order. -/
theorem Own.sub (h : Own w0 w rs) (f : List Nat) (hf : f.Nodup) (hr : ∀ (i : Nat) (r : Res), rs'[i]? = some r → ∃ j, f[i]? = some j ∧ rs[j]? = some r) : Own w0 w rs' := by
  obtain ⟨h0, F, h1, h2, h3⟩ := h
  refine ⟨h0, fun i b => ∃ j, f[i]? = some j ∧ F j b, fun i r hi => ?_, fun i b hb => ?_, fun i i' b hb hb' => ?_⟩
  · obtain ⟨j, hj, hjr⟩ := hr i r hi
    have e : (fun b => ∃ j, f[i]? = some j ∧ F j b) = F j := by
      funext b
      apply propext
      constructor
      · rintro ⟨j', hj', hb⟩
        rw [hj] at hj'; injection hj' with hj'; subst hj'; exact hb
      · intro hb; exact ⟨j, hj, hb⟩
    show r.holds w (fun b => ∃ j, f[i]? = some j ∧ F j b)
    rw [e]
    exact h1 j r hjr
  · obtain ⟨j, hj, hb⟩ := hb
    exact h2 j b hb
  · obtain ⟨j, hj, hb⟩ := hb
    obtain ⟨j', hj', hb'⟩ := hb'
    have := h3 j j' b hb hb'
    subst this
    obtain ⟨hi, e1⟩ := List.getElem?_eq_some_iff.1 hj
    obtain ⟨hi', e2⟩ := List.getElem?_eq_some_iff.1 hj'
    have hp := List.pairwise_iff_getElem.1 hf
    rcases Nat.lt_trichotomy i i' with h | h | h
    · exact absurd (e1.trans e2.symm) (hp i i' hi hi' h)
    · exact h
    · exact absurd (e2.trans e1.symm) (hp i' i hi' hi h)
theorem Own.pick (h : Own w0 w rs) (f : List Nat) (hf : f.Nodup) (hr : rs'.map some = f.map (fun j => rs[j]?)) : Own w0 w rs' := by
  refine h.sub f hf (fun i r hi => ?_)
  have h1 : (rs'.map some)[i]? = some (some r) := by rw [List.getElem?_map, hi]; rfl
  rw [hr, List.getElem?_map] at h1
  obtain ⟨j, hj, hjr⟩ := Option.map_eq_some_iff.1 h1
  exact ⟨j, hj, hjr⟩
theorem Own.mapGet {b : Nat} {f : Int → Option Value} (h : Own w0 w rs) (hk : rs[k]? = some (mapR b f)) : MapIs w b f := by
  obtain ⟨S, hs, _⟩ := h.get hk
  exact hs.2
theorem Own.rangeGet {b r cnt : Nat} {f : Int → Option Value} {left : Int → Bool} (h : Own w0 w rs) (hk : rs[k]? = some (rangeR b r f left cnt)) : RangeIs w b r f left cnt := by
  obtain ⟨S, hs, _⟩ := h.get hk
  exact hs.2.2
section
variable {o : Oper} {ρ : Operand → Value} {T K E : TypeId}
theorem Own.xmake (h : Own w0 w rs) (ho : o.op = .makeMap T none) (hT : Try.prog.underlying T = some (.map K E)) :
    ∃ v w1, (execOp ρ o).run Try.prog w = .ok (.value v) w1 ∧ ∃ b, v = .map (some b) ∧ Own w0 w1 (rs ++ [mapR b (fun _ => none)]) := by
  refine ⟨_, w.alloc (.map #[] 0), ?_, w.heap.size, rfl, ?_⟩
  · unfold execOp
    simp only [ho]
    simp [run_makeMap]
  · refine h.push (S := fun b => b = w.heap.size) ?_ (fun b hb => by rw [hb, World.size_alloc]; omega) ⟨rfl, map_made w⟩
    have := Turn.alloc (fun _ => False) w (.map #[] 0)
    exact ⟨this.os, this.tape, this.output, this.size, this.block, fun b hb => Or.inr (by rw [hb]; exact Nat.le_refl _)⟩
theorem Own.xput {b : Nat} {f : Int → Option Value} {i : Int} {v : Value} {x y z : Operand} (h : Own w0 w rs) (hk : rs[k]? = some (mapR b f)) (ho : o.op = .mapUpdate T x y z) (hT : Try.prog.underlying T = some (.map 3 E))
    (hx : ρ x = .map (some b)) (hy : ρ y = .int .i64 i) (hz : ρ z = v) : ∃ w1, (execOp ρ o).run Try.prog w = .ok .skip w1 ∧ Own w0 w1 (rs.set k (mapR b (fun x => if x = i then some v else f x))) := by
  obtain ⟨S, hs, h2, hup⟩ := h.upd hk
  obtain ⟨w1, hr, hm, hg, hsz⟩ := ex_update ho hT uInt hx hy hz hs.2
  exact ⟨w1, hr, hup w1 S _ (Turn.of_grown hg (fun k e => by injection e with e; rw [← e]; exact hs.1)) (fun c hc => by rw [hsz]; exact (h2 c hc).2) ⟨hs.1, hm⟩⟩
theorem Own.xlook {b : Nat} {f : Int → Option Value} {i : Int} {z v : Value} {x y : Operand} (h : Own w0 w rs) (hk : rs[k]? = some (mapR b f)) (ho : o.op = .lookup T x y false) (hT : Try.prog.underlying T = some (.map 3 E)) (hz : ∀ w, (zeroValue E).run Try.prog w = .ok z w)
    (hx : ρ x = .map (some b)) (hy : ρ y = .int .i64 i) (hv : (f i).getD z = v) : (execOp ρ o).run Try.prog w = .ok (.value v) w := ex_lookup ho hT uInt (hz w) hx hy (h.mapGet hk) hv
theorem Own.xlookok {b : Nat} {f : Int → Option Value} {i : Int} {z v : Value} {g : Bool} {x y : Operand} (h : Own w0 w rs) (hk : rs[k]? = some (mapR b f)) (ho : o.op = .lookup T x y true) (hT : Try.prog.underlying T = some (.map 3 E)) (hz : ∀ w, (zeroValue E).run Try.prog w = .ok z w)
    (hx : ρ x = .map (some b)) (hy : ρ y = .int .i64 i) (hv : (f i).getD z = v) (hg : (f i).isSome = g) : (execOp ρ o).run Try.prog w = .ok (.value (.tuple #[v, .bool g])) w := by
  have hr := map_lookup_ok (P := Try.prog) hT uInt (hz w) (h.mapGet hk) i
  rw [hv, hg] at hr
  unfold execOp
  simp only [ho, hx, hy, Sem.run_bind, hr, Result.andThen_ok, Sem.run_pure]
theorem Own.xrange {b : Nat} {f : Int → Option Value} {x : Operand} (h : Own w0 w rs) (hk : rs[k]? = some (mapR b f)) (ho : o.op = .range T x) (hT : Try.prog.underlying T = some (.map K E)) (hx : ρ x = .map (some b)) :
    ∃ v w1, (execOp ρ o).run Try.prog w = .ok (.value v) w1 ∧ ∃ r cnt, v = .pointer (some ⟨r, 0, none⟩) ∧ Own w0 w1 (rs.set k (rangeR b r f (fun x => (f x).isSome) cnt)) := by
  obtain ⟨S, hs, h2, hup⟩ := h.upd hk
  obtain ⟨v, w1, hr, cnt, rfl, hrg, hg, hsz⟩ := ex_range ho hT hx hs.2
  refine ⟨_, w1, hr, w.heap.size, cnt, rfl, hup w1 (fun c => S c ∨ c = w.heap.size) _ ((Turn.of_grown hg (fun k e => by cases e)).less (fun c hc => hc.elim Or.inl (fun e => Or.inr (Or.inr (by omega))))) (fun c hc => ?_) ⟨Or.inl hs.1, Or.inr rfl, hrg⟩⟩
  rcases hc with hc | hc
  · have := (h2 c hc).2; omega
  · omega
end
section
variable {ops : Array Oper} {rest : List Oper} {o : Oper} {a : Act} {Q : Exit → Act → World → Prop}
theorem Own.next {x : Operand} {b r cnt : Nat} {f : Int → Option Value} {left : Int → Bool} (h : Own w0 w rs) (hk : rs[k]? = some (rangeR b r f left cnt)) (hgd : o.guard = none) (ho : o.op = .next x false) (hx : a.eval x = .pointer (some ⟨r, 0, none⟩))
    (h0 : (∀ i, left i = false) → wpList Try.prog ops Q rest (a.put o.dst (.tuple #[.bool false])) w)
    (h1 : ∀ i v w1 cnt1, left i = true → f i = some v → cnt1 < cnt → Own w0 w1 (rs.set k (rangeR b r f (fun x => left x && x != i) cnt1)) →
      (Instr.entry (.pointer (some ⟨r, 0, none⟩))).run Try.prog w1 = .ok (.tuple #[.int .i64 i, v]) w1 → wpList Try.prog ops Q rest (a.put o.dst (.tuple #[.bool true, .int .i64 i, v])) w1) :
    wpList Try.prog ops Q (o :: rest) a w := by
  obtain ⟨S, hs, h2, hup⟩ := h.upd hk
  refine go_next hgd ho hx hs.2.2 h0 (fun i v w1 cnt1 hl hf hrg hlt hg hsz hen => h1 i v w1 cnt1 hl hf hlt ?_ hen)
  exact hup w1 S _ (Turn.of_grown hg (fun k e => by injection e with e; rw [← e]; exact hs.2.1)) (fun c hc => by rw [hsz]; exact (h2 c hc).2) ⟨hs.1, hs.2.1, hrg⟩
end
/-- A number in a cell of a block. -/
theorem exl_int {o : Oper} {ρ : Operand → Value} {x : Operand} {b j : Nat} {u : Int} (ho : o.op = .load 3 x) (hx : ρ x = .pointer (some ⟨b, j, none⟩)) (hc : w.cell? ⟨b, j, none⟩ = some (.int .i64 u)) :
    (execOp ρ o).run Try.prog w = .ok (.value (.int .i64 u)) w := by
  unfold execOp
  simp only [ho, hx]
  go_simp
theorem Own.xint1 {o : Oper} {ρ : Operand → Value} {x : Operand} {b j : Nat} {u : Int} {cs : Array Value} {t : TypeId} (h : Own w0 w rs) (hk : rs[k]? = some (blkR b cs t)) (ho : o.op = .load 3 x) (hx : ρ x = .pointer (some ⟨b, j, none⟩)) (hv : cs[j]? = some (.int .i64 u)) :
    (execOp ρ o).run Try.prog w = .ok (.value (.int .i64 u)) w := exl_int ho hx (by rw [(h.blk hk).1.cell]; exact hv)
/-- A call of the specification's list: three numbers. -/
structure DOp where
  kind : Int
  a : Int
  b : Int
def DOp.ok (x : DOp) : Prop := (-9223372036854775808 ≤ x.kind ∧ x.kind ≤ 9223372036854775807) ∧ (-9223372036854775808 ≤ x.a ∧ x.a ≤ 9223372036854775807) ∧ (-9223372036854775808 ≤ x.b ∧ x.b ≤ 9223372036854775807)
def opVals (x : DOp) : List Value := [.int .i64 x.kind, .int .i64 x.a, .int .i64 x.b]
def OpsIs (w : World) (v : Value) (l : List DOp) : Prop := ∃ a cap, v = .slice a l.length cap ∧ (l ≠ [] → ∃ kb ko, a = some ⟨kb, ko, none⟩ ∧ w.rangeAt kb ko (l.flatMap opVals))
theorem ops_at {kb ko : Nat} {l : List DOp} (h : w.rangeAt kb ko (l.flatMap opVals)) {i : Nat} (hi : i < l.length) : w.rangeAt kb (ko + i * 3) (opVals l[i]) := fun j v hj => by
  have hj3 : j < 3 := (List.getElem?_eq_some_iff.1 hj).1
  have := h (i * 3 + j) v (by rw [flatMap_piece (g := opVals) (m := 3) (fun _ _ => rfl) i l[i] (List.getElem?_eq_getElem hi) j hj3]; exact hj)
  rwa [show ko + i * 3 + j = ko + (i * 3 + j) from by omega]
theorem range_of_nw {w w' : World} {b o : Nat} {cs : List Value} (h : w.rangeAt b o cs) (hn : Nw w w') : w'.rangeAt b o cs := fun j v hj => hn.cell (h j v hj) (fun h => h)
theorem uOp : ∃ d, Try.prog.underlying 50 = some d ∧ d.isRow = true := by
  have h : (Try.prog.underlying 50).map (·.isRow) = some true := by kernel_rfl
  obtain ⟨d, h1, h2⟩ := Option.map_eq_some_iff.1 h
  exact ⟨d, h1, h2⟩
theorem sOp : (Try.prog.info? 50).map (·.size) = some 3 := by kernel_rfl
theorem zOp (w : World) : (zeroValue 50).run Try.prog w = .ok (.agg [Value.int .i64 0, .int .i64 0, .int .i64 0].toArray) w := by kernel_rfl
theorem exl_op {o : Oper} {ρ : Operand → Value} {x : Operand} (ho : o.op = .load 50 x) {b k : Nat} (hx : ρ x = .pointer (some ⟨b, k, none⟩)) {p : DOp} (hr : w.rangeAt b k (opVals p)) : (execOp ρ o).run Try.prog w = .ok (.value (.agg (opVals p).toArray)) w := by
  obtain ⟨d, h1, h2⟩ := uOp
  exact ex_load ho hx hr h1 h2 sOp
theorem Own.xaop {o : Oper} {ρ : Operand → Value} (h : Own w0 w rs) (ho : o.op = .alloc 50) : ∃ v w1, (execOp ρ o).run Try.prog w = .ok (.value v) w1 ∧ ∃ b, v = .pointer (some ⟨b, 0, none⟩) ∧ Own w0 w1 (rs ++ [blkR b (opVals ⟨0, 0, 0⟩).toArray 50]) :=
  ⟨_, _, ex_alloc ho (zOp w), _, rfl, h.alloc _ _⟩
theorem Own.xsop {o : Oper} {ρ : Operand → Value} {x y : Operand} {b : Nat} {p q : DOp} (h : Own w0 w rs) (ho : o.op = .store 50 x y) (hx : ρ x = .pointer (some ⟨b, 0, none⟩)) (hk : rs[k]? = some (blkR b (opVals q).toArray 50))
    (hy : ρ y = .agg (opVals p).toArray) : ∃ w1, (execOp ρ o).run Try.prog w = .ok .skip w1 ∧ Own w0 w1 (rs.set k (blkR b (opVals p).toArray 50)) :=
  ⟨_, ex_store ho hx hy ((h.blk hk).1.there 0 3 (by simp [opVals])) sOp (fun v hv => by simp [opVals] at hv; rcases hv with rfl | rfl | rfl <;> rfl), h.set hk (by simp [opVals]) (by simp [opVals])⟩
end
end Go.Proofs.Ytcaalfpfkalalaa
