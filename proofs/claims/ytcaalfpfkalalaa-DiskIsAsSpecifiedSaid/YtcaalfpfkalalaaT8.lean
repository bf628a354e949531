/- Rows of sectors that a call itself makes, among what is owned. -/
import Derived.Test.YtcaalfpfkalalaaT7
import Derived.Deep.Upon
set_option linter.unusedVariables false
set_option linter.unusedSimpArgs false
set_option maxRecDepth 10000
set_option maxHeartbeats 4000000
namespace Go.Proofs.Ytcaalfpfkalalaa
open Go.RowKit Qd
open Go.Proofs.YtcaalfpfkalalaaW.PrintLast
def secsR (v : Value) (l : List Sec) : Res := ⟨fun w S => w.ownsRow 0 29 64 v l.length (manyVals l) ∧ ∀ k, v.ownBlock = some k → S k, fun h hk => ⟨ownsRow_same h.1 (fun b hb => hk b (h.2 b hb)), h.2⟩⟩
theorem iSectorS : (Try.prog.info? 29).map (fun i => (i.zero, i.size, i.bytes)) = some (some (.agg (secVals zeroSec).toArray), 64, 64) := by kernel_rfl
theorem manyVals_one (l : List Sec) : ∀ u ∈ manyVals l, u.oneCell' = true := fun u hu => by
  obtain ⟨s, _, hs⟩ := List.mem_flatMap.1 hu
  exact secVals_one s u hs
section
variable {w0 w : World} {rs : List Res} {k : Nat} {o : Oper} {ρ : Operand → Value}
/-- '[]api.Sector{}'. -/
theorem exz_secs0 (ho : o.op = .buildSlice 87 0 #[]) : (execOp ρ o).run Try.prog w = .ok (.value (.slice (some ⟨w.heap.size, 0, none⟩) 0 0)) (w.alloc (.cells #[] 29)) := by
  obtain ⟨i, hi1, hi2⟩ := Option.map_eq_some_iff.1 iSectorS
  simp only [Prod.mk.injEq] at hi2
  have hz1 : (zeroValue 29).run Try.prog w = .ok (.agg (secVals zeroSec).toArray) w := by simp only [zeroValue, typeInfo]; simp [hi1]; rw [hi2.1]; rfl
  have hs1 : (sizeOf 29).run Try.prog w = .ok 64 w := by simp [sizeOf, typeInfo, hi1, hi2.2.1]
  unfold execOp
  simp only [ho, List.map_toArray, List.map_cons, List.map_nil]
  simp [Instr.buildSlice, run_underlying uSecs, hs1, hz1, Instr.fill, newRow, newObj, Sem.run, Result.andThen]
  rw [show Array.range 0 = #[] by decide, List.map_toArray]
  rfl
theorem Own.xsecs0 (h : Own w0 w rs) (ho : o.op = .buildSlice 87 0 #[]) : ∃ v w1, (execOp ρ o).run Try.prog w = .ok (.value v) w1 ∧ ∃ b, v = .slice (some ⟨b, 0, none⟩) 0 0 ∧ Own w0 w1 (rs ++ [secsR v []]) := by
  refine ⟨_, _, exz_secs0 ho, _, rfl, h.push (S := fun b => b = w.heap.size) ⟨rfl, rfl, rfl, by rw [World.size_alloc]; omega, fun k hk _ => (World.grownBy_alloc w _ none).block k hk (by simp), fun k hk => Or.inr (by rw [hk]; exact Nat.le_refl _)⟩ (fun b hb => by rw [hb, World.size_alloc]; omega) ?_⟩
  refine ⟨⟨rfl, Or.inr ⟨_, 0, #[], rfl, Nat.zero_le _, heap_alloc_new w _, Nat.le_refl _, by simp [maxLen], rfl, rfl⟩⟩, fun k hk => ?_⟩
  simp [Value.ownBlock] at hk
  exact hk.symm
theorem Own.xappsecs {b p m c : Nat} (N' : Nat) {s x : Operand} {v : Value} {l ks : List Sec} (h : Own w0 w rs) (hk : rs[k]? = some (secsR v l)) (ho : o.op = .call { callee := .builtin .append, args := #[s, x], argTypes := #[87, 87] }) (hs : ρ s = v)
    (hx : ρ x = .slice (some ⟨b, p, none⟩) m c) (hm : ks.length = m) (hks : ∀ s ∈ ks, SecOk s) (hr : w.rangeAt b p (manyVals ks)) (hn : l.length + m < 1099511627776) (hN' : l.length + m = N') :
    ∃ v' w1, (execOp ρ o).run Try.prog w = .ok (.value v') w1 ∧ (∃ a c', v' = .slice a N' c') ∧ Own w0 w1 (rs.set k (secsR v' (l ++ ks))) := by
  obtain ⟨S, ⟨hown, hsb⟩, hlt, hup⟩ := h.upd hk
  obtain ⟨v', w', hrun, h2, h3, h5⟩ := ex_append_b (P := Try.prog) (Nat.zero_le _) ho uSecs iSectorS (by simp [Value.cells, sec64 zeroSec_ok]) (by omega) hs hown hx (news := manyVals ks) (by rw [many_len' hks, hm]) (fun j u hu => by rw [Addr.add_mid]; exact hr j u hu) (manyVals_one ks) (by simp [maxLen]; omega) (by omega)
  have hsz := h3.size
  have hl2 := h2.lt
  refine ⟨v', w', hrun, by rw [← hN']; exact own_slice h2, hup w' (fun k => S k ∨ (w.heap.size ≤ k ∧ k < w'.heap.size)) _ ⟨h3.os, h3.tape, h3.output, hsz, fun k hk hs => h3.block k hk (fun e => hs (hsb k e.symm)), fun k hk => ?_⟩ (fun b hb => ?_) ⟨?_, fun k hk => ?_⟩⟩
  · rcases hk with hk | hk
    · exact Or.inl hk
    · exact Or.inr hk.1
  · rcases hb with hb | hb
    · have := (hlt b hb).2; omega
    · exact hb.2
  · rw [List.length_append, hm]
    have e : manyVals (l ++ ks) = manyVals l ++ manyVals ks := by simp [manyVals]
    rw [e]
    exact h2
  · rcases h5 with h5 | h5
    · rw [h5] at hk; exact Or.inl (hsb k hk)
    · have := (hl2 k hk).2
      rw [h5] at hk
      injection hk with hk
      exact Or.inr ⟨by omega, this⟩
theorem ex_append_none {s x : Operand} {a : Option Addr} {m c : Nat} (hmc : m ≤ c) (ho : o.op = .call { callee := .builtin .append, args := #[s, x], argTypes := #[87, 87] }) (hs : ρ s = .slice a m c) (hx : ρ x = .slice none 0 0) :
    (execOp ρ o).run Try.prog w = .ok (.value (.slice a m c)) w := by
  obtain ⟨i, hi1, hi2⟩ := Option.map_eq_some_iff.1 iSectorS
  have h := run_append_nothing (P := Try.prog) w 87 87 o.type 29 i uSecs hi1 a m c hmc (.slice none 0 0) ⟨Or.inl ⟨_, uSecs⟩, fun _ => rfl, by simp [Builtin.firstCells], by simp [Builtin.firstCells], by simp, by simp⟩
  unfold execOp
  simp only [ho, resolve, invoke, builtin, Sem.run_bind, Sem.run_pure, Result.andThen_ok, List.map_toArray, List.map_cons, List.map_nil, hs, hx, h]
theorem Own.xsec1 {x : Operand} {s : Sec} (h : Own w0 w rs) (ho : o.op = .buildSlice 87 1 #[(0, x)]) (hs : SecOk s) (hx : ρ x = .agg (secVals s).toArray) :
    ∃ v w1, (execOp ρ o).run Try.prog w = .ok (.value v) w1 ∧ ∃ b, v = .slice (some ⟨b, 0, none⟩) 1 1 ∧ Own w0 w1 (rs ++ [blkR b (secVals s).toArray 29]) := ⟨_, _, exz_sec ho hs hx, _, rfl, h.alloc _ _⟩
theorem many1 {b : Nat} {s : Sec} {t : TypeId} (h : Blk w b (secVals s).toArray t) : w.rangeAt b 0 (manyVals [s]) := by
  have e : manyVals [s] = secVals s := by simp [manyVals]
  rw [e]
  exact sec_range_of_blk h
theorem own_range {g n cap : Nat} {l : List Sec} (h : w.ownsRow 0 29 64 (.slice (some ⟨g, 0, none⟩) n cap) n (manyVals l)) : w.rangeAt g 0 (manyVals l) := by
  intro j v hv
  have := h.cells (g := g) rfl _ _ hv
  rwa [Addr.add_mid] at this
theorem Own.rowMany {vs : List Value} {opn : Nat → List Sec} {i n g cp : Nat} (h : Own w0 w rs) (hk : rs[k]? = some (rowsR vs opn)) (hi : vs[i]? = some (.slice (some ⟨g, 0, none⟩) n cp)) : w.rangeAt g 0 (manyVals (opn i)) := by
  have hr := (h.rowOf hk hi).1
  have hn : n = (opn i).length := by
    obtain ⟨a, c, e⟩ := own_slice hr
    injection e
  subst hn
  exact own_range hr
/-- The row of sector m is another one. -/
theorem Own.rowsPut {vs : List Value} {opn : Nat → List Sec} {v : Value} {l : List Sec} {m : Nat} {b : List Res} (h : Own w0 w (rowsR vs opn :: secsR v l :: b)) (hne : l ≠ []) : Own w0 w (rowsR (vs.set m v) (fun k => if k = m then l else opn k) :: b) := by
  refine Own.turnTo (a := []) (r := starR [rowsR vs opn, secsR v l]) (Own.star (l := [rowsR vs opn, secsR v l]) h) (fun w S hs => ?_)
  obtain ⟨F, h1, h2, h3⟩ := hs
  have g0 := h1 0 _ rfl
  have g1 := h1 1 _ rfl
  intro k u hu
  by_cases hk : k = m
  · subst hk
    have hkl := (List.getElem?_eq_some_iff.1 hu).1
    rw [List.getElem?_set_self (by simpa using hkl)] at hu
    injection hu with hu
    subst hu
    simp only [if_true]
    exact ⟨⟨g1.1, fun e => absurd e hne⟩, fun b hb => h2 1 b (by simp) (g1.2 b hb)⟩
  · rw [List.getElem?_set_ne (by omega)] at hu
    simp only [if_neg hk]
    exact ⟨(g0 k u hu).1, fun b hb => h2 0 b (by simp) ((g0 k u hu).2 b hb)⟩
/-- .. is empty. -/
theorem Own.rowsDrop {vs : List Value} {opn : Nat → List Sec} {m : Nat} {b : List Res} (h : Own w0 w (rowsR vs opn :: b)) : Own w0 w (rowsR (vs.set m (.slice none 0 0)) (fun k => if k = m then [] else opn k) :: b) := by
  refine Own.turnTo (a := []) h (fun w S hs k u hu => ?_)
  by_cases hk : k = m
  · subst hk
    have hkl := (List.getElem?_eq_some_iff.1 hu).1
    rw [List.getElem?_set_self (by simpa using hkl)] at hu
    injection hu with hu
    subst hu
    simp only [if_true]
    exact ⟨⟨World.ownsRow_nil _ _ _ _, fun _ => by first | rfl | trivial⟩, fun b hb => by simp [Value.ownBlock] at hb⟩
  · rw [List.getElem?_set_ne (by omega)] at hu
    simp only [if_neg hk]
    exact hs k u hu
end
end Go.Proofs.Ytcaalfpfkalalaa
