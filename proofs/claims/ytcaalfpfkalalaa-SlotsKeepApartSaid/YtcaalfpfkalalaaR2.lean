/- How layer 22's lists of calls are read. -/
import Derived.Test.YtcaalfpfkalalaaS19
import Derived.Test.YtcaalfpfkalalaaR0
set_option linter.unusedVariables false
set_option linter.unusedSimpArgs false
set_option maxRecDepth 10000
namespace Go.Proofs.Ytcaalfpfkalalaa
open Go.ChangeShapes Go.WideShapes Go.ChangeAt Go.RowKit Go.Deep Qd
theorem ownK22 : ownKnob Try.prog.godebug = none := by kernel_rfl
theorem laidOutK22 : laidOutB Try.prog = true := by kernel_rfl
section
variable {H : Type} {enc : TypeId × Value → H} {w : World} {base : Nat} {spare : Nat → Bool} {held : Bool}
theorem trod_slice_cell {t e : TypeId} {fuel : Nat} {v : Value} {x : DataW H × List MemPlace} (ht : Try.prog.underlying t = some (.slice e)) (h : DataW.trod enc Try.prog w base spare held fuel t [v] = some x) : ∃ a n c, v = .slice a n c := by
  rcases open_slice ht h with ⟨hcs, _⟩ | ⟨a, len, cap, m, n, D, Pl, hcs, _⟩
  · injection hcs with hcs _; exact ⟨_, _, _, hcs⟩
  · injection hcs with hcs _; exact ⟨_, _, _, hcs⟩
theorem sops_open {fuel : Nat} {a : Option Addr} {len cap : Nat} {x : DataW H × List MemPlace} (h : DataW.trod enc Try.prog w base spare held fuel 22 [.slice a len cap] = some x) :
    ∃ l : List SOp, SOpsIs w (.slice a len cap) l ∧ l.length = len ∧ (∀ x ∈ l, x.ok) ∧ len ≤ maxLen := by
  have hfs : Try.prog.underlying 37 = some (.struct (Try.prog.fieldsOf 37)) := by kernel_rfl
  have hsz : (Try.prog.fieldsOf 37).size = 4 := by kernel_rfl
  have ft0 : ((Try.prog.fieldsOf 37)[0]?).map (·.type) = some 3 := by kernel_rfl
  have ft1 : ((Try.prog.fieldsOf 37)[1]?).map (·.type) = some 3 := by kernel_rfl
  have ft2 : ((Try.prog.fieldsOf 37)[2]?).map (·.type) = some 9 := by kernel_rfl
  have ft3 : ((Try.prog.fieldsOf 37)[3]?).map (·.type) = some 33 := by kernel_rfl
  rcases open_slice_fields (e := 37) (by kernel_rfl) hfs (by kernel_rfl) (by kernel_rfl) h with ⟨hcs, _⟩ | ⟨b, l, c, m, D, Pl, hcs, _, hl, hm, hmm, _, hcell⟩
  · simp only [List.cons.injEq, Value.slice.injEq, and_true] at hcs
    obtain ⟨rfl, rfl, rfl⟩ := hcs
    exact ⟨[], ⟨⟨none, 0, rfl, fun h => absurd rfl h⟩, by simp⟩, rfl, by simp, by unfold maxLen; omega⟩
  · simp only [List.cons.injEq, Value.slice.injEq, and_true] at hcs
    obtain ⟨rfl, rfl, rfl⟩ := hcs
    have hml : len ≤ m := by rw [hmm]; split <;> omega
    have hone : ∀ i, ∃ x : SOp, i < len → x.ok ∧ KeepIs w (.slice x.ka x.kl x.kc) x.keep ∧ ∀ j v, (sopVals x)[j]? = some v → w.cell? (b.add (i * 4 + j)) = some v := by
      intro i
      by_cases hi : i < len
      · obtain ⟨ys, nn, _, _, _, hf⟩ := hcell i (by omega)
        obtain ⟨f0, hf0, e0⟩ := Option.map_eq_some_iff.1 ft0
        obtain ⟨f1, hf1, e1⟩ := Option.map_eq_some_iff.1 ft1
        obtain ⟨f2, hf2, e2⟩ := Option.map_eq_some_iff.1 ft2
        obtain ⟨f3, hf3, e3⟩ := Option.map_eq_some_iff.1 ft3
        obtain ⟨v0, y0, c0, _, t0⟩ := hf 0 f0 hf0
        obtain ⟨v1, y1, c1, _, t1⟩ := hf 1 f1 hf1
        obtain ⟨v2, y2, c2, _, t2⟩ := hf 2 f2 hf2
        obtain ⟨v3, y3, c3, _, t3⟩ := hf 3 f3 hf3
        rw [hsz] at c0 c1 c2 c3
        rw [e0] at t0
        rw [e1] at t1
        rw [e2] at t2
        rw [e3] at t3
        obtain ⟨n0, q0, _, w0⟩ := DataW.trod_int (k := .i64) (by kernel_rfl) t0
        obtain ⟨n1, q1, _, w1⟩ := DataW.trod_int (k := .i64) (by kernel_rfl) t1
        obtain ⟨s, q2, _, w2⟩ := DataW.trod_string (by kernel_rfl) t2
        obtain ⟨ka, kl, kc, rfl⟩ := trod_slice_cell (e := 3) (by kernel_rfl) t3
        obtain ⟨keep, k1, k2, k3, k4⟩ := keep_open t3
        injection q0 with q0 _
        injection q1 with q1 _
        injection q2 with q2 _
        subst q0 q1 q2
        refine ⟨⟨n0, n1, s, ka, kl, kc, keep⟩, fun _ => ⟨⟨lit64 w0, lit64 w1, w2, by show keep.length ≤ maxLen; omega, k3⟩, k1, fun j v hj => ?_⟩⟩
        rcases j with _ | _ | _ | _ | j
        · simp [sopVals] at hj; rw [← hj]; exact c0
        · simp [sopVals] at hj; rw [← hj]; exact c1
        · simp [sopVals] at hj; rw [← hj]; exact c2
        · simp [sopVals] at hj; rw [← hj]; exact c3
        · simp [sopVals] at hj
      · exact ⟨sop0, fun h => absurd h hi⟩
    obtain ⟨F, hF⟩ : ∃ F : Nat → SOp, ∀ i, i < len → (F i).ok ∧ KeepIs w (.slice (F i).ka (F i).kl (F i).kc) (F i).keep ∧ ∀ j v, (sopVals (F i))[j]? = some v → w.cell? (b.add (i * 4 + j)) = some v :=
      ⟨fun i => (hone i).choose, fun i => (hone i).choose_spec⟩
    refine ⟨(List.range len).map F, ⟨⟨some b, cap, by simp, fun hne => ?_⟩, fun y hy => ?_⟩, by simp, fun y hy => ?_, by omega⟩
    · have h0 : 0 < len := by
        rcases Nat.eq_zero_or_pos len with h | h
        · rw [h] at hne; simp at hne
        · exact h
      have hc0 := (hF 0 h0).2.2 0 _ rfl
      have hs : b.spot = none := by
        have := spot_none hc0
        unfold Addr.add at this
        split at this <;> simp_all
      obtain ⟨bb, bo, bs⟩ := b
      simp only at hs
      subst hs
      refine ⟨bb, bo, rfl, fun j v hj => ?_⟩
      have hlen : (((List.range len).map F).flatMap sopVals).length = len * 4 := by rw [flatMap_len (g := sopVals) (m := 4) (fun _ _ => rfl)]; simp
      have hj3 : j < len * 4 := by rw [← hlen]; exact (List.getElem?_eq_some_iff.1 hj).1
      have hp := flatMap_piece (g := sopVals) (m := 4) (l := (List.range len).map F) (fun _ _ => rfl) (j / 4) (F (j / 4)) (by rw [List.getElem?_map, List.getElem?_range (by omega)]; rfl) (j % 4) (by omega)
      rw [show j / 4 * 4 + j % 4 = j from by omega, hj] at hp
      have := (hF (j / 4) (by omega)).2.2 (j % 4) v hp.symm
      rw [Addr.add_mid, show bo + (j / 4 * 4 + j % 4) = bo + j from by omega] at this
      exact this
    · obtain ⟨i, hi, rfl⟩ := List.mem_map.1 hy
      exact (hF i (List.mem_range.1 hi)).2.1
    · obtain ⟨i, hi, rfl⟩ := List.mem_map.1 hy
      exact (hF i (List.mem_range.1 hi)).1
end
end Go.Proofs.Ytcaalfpfkalalaa
