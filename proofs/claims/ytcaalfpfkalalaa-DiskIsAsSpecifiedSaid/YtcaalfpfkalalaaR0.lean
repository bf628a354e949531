/- How arguments are read: lists of numbers, lists of calls. -/
import Derived.Test.YtcaalfpfkalalaaO5
import Derived.ProofKit
import Derived.OpenShut
import Derived.ShutString
import Derived.ChangeOld
import Derived.Below
import Derived.Deep.Slices
import Derived.Deep.Fields
import Derived.ChangeSame
set_option linter.unusedVariables false
set_option linter.unusedSimpArgs false
namespace Go.Proofs.Ytcaalfpfkalalaa
open Go.ChangeShapes Go.WideShapes Go.ChangeAt Go.RowKit Go.Deep Qd
section
variable {H : Type} {enc : TypeId × Value → H} {P : Program} {w : World} {base : Nat} {spare : Nat → Bool} {held : Bool}
theorem open_slice_fields {t e : TypeId} {fs : Array Field} {fuel : Nat} {cs : List Value} {x : DataW H × List MemPlace} (ht : P.underlying t = some (.slice e)) (he : P.underlying e = some (.struct fs))
    (hone : oneCellFields P fs = true) (hC : P.cellsOf e = fs.size) (h : DataW.trod enc P w base spare held fuel t cs = some x) :
    (cs = [.slice none 0 0] ∧ x = (.nil, [])) ∨
    ∃ (a : Addr) (len cap m : Nat) (D : Nat → DataW H) (Pl : Nat → List MemPlace), cs = [.slice (some a) len cap] ∧ base ≤ a.block ∧ len ≤ cap ∧ cap ≤ maxLen ∧ m = (if spare a.block then cap else len) ∧
      x = (.slice ((List.range len).map D) ((List.range (m - len)).map fun j => D (len + j)), MemPlace.row a (m * fs.size) ++ (List.range m).flatMap Pl) ∧
      ∀ i, i < m → ∃ (ys : List (DataW H × List MemPlace)) (n : Nat), D i = .agg (ys.map (·.1)) ∧ Pl i = ys.flatMap (·.2) ∧ ys.length = fs.size ∧
        ∀ (j : Nat) (f : Field), fs[j]? = some f → ∃ (v : Value) (y : DataW H × List MemPlace), w.cell? (a.add (i * fs.size + j)) = some v ∧ ys[j]? = some y ∧ DataW.trod enc P w base spare held n f.type [v] = some y := by
  rcases open_slice ht h with h0 | ⟨a, len, cap, m, n, D, Pl, hcs, hb, hl, hm, hmm, hx, hi⟩
  · exact .inl h0
  · refine .inr ⟨a, len, cap, m, D, Pl, hcs, hb, hl, hm, hmm, by rw [hC] at hx; exact hx, fun i him => ?_⟩
    obtain ⟨cs', hc, ht'⟩ := hi i him
    rw [hC] at hc
    obtain ⟨ys, n', hn', hy, hlen, hyl, hf⟩ := DataW.trod_struct he ht'
    obtain ⟨_, hcl, hat⟩ := World.cells?_some hc
    simp only [Prod.mk.injEq] at hy
    refine ⟨ys, n', hy.1, hy.2, hyl, fun j f hj => ?_⟩
    obtain ⟨ho, hk⟩ := hone_of hone j f hj
    have hjl : j < fs.size := (Array.getElem?_eq_some_iff.1 hj).1
    have hcell := hat j hjl
    have hv : cs'[j]? = some (cs'[j]'(by omega)) := List.getElem?_eq_getElem (by omega)
    have h1 := hf j f hj
    rw [ho, hk] at h1
    have hone' : (cs'.drop j).take 1 = [cs'[j]'(by omega)] := by
      rw [List.drop_eq_getElem_cons (by omega)]
      rfl
    rw [hone'] at h1
    have hys : ys[j]? = some (ys[j]'(by omega)) := List.getElem?_eq_getElem (by omega)
    refine ⟨_, _, ?_, hys, h1.trans hys⟩
    rw [← Go.Deep.add_add, hcell, hv]
end
theorem lit64 {n : Int} (h : (Lit.int .i64 n).wf = true) : -9223372036854775808 ≤ n ∧ n ≤ 9223372036854775807 := by
  simp [Lit.wf, IntKind.min, IntKind.max, IntKind.wrap, IntKind.bits, IntKind.signed] at h
  omega
section
variable {H : Type} {enc : TypeId × Value → H} {w : World} {base : Nat} {spare : Nat → Bool} {held : Bool}
theorem spot_none {a : Addr} {v : Value} (h : w.cell? a = some v) : a.spot = none := World.cell?_spot h
theorem keep_open {fuel : Nat} {a : Option Addr} {len cap : Nat} {x : DataW H × List MemPlace} (h : DataW.trod enc Try.prog w base spare held fuel 33 [.slice a len cap] = some x) :
    ∃ l : List Int, KeepIs w (.slice a len cap) l ∧ l.length = len ∧ (∀ x ∈ l, -9223372036854775808 ≤ x ∧ x ≤ 9223372036854775807) ∧ len ≤ maxLen := by
  rcases open_ints (k := .i64) (e := 3) (by kernel_rfl) (by kernel_rfl) (by kernel_rfl) h with ⟨hcs, _⟩ | ⟨b, l, c, zs, hcs, _, hl, hm, hz, _, hcell, hwz⟩
  · simp only [List.cons.injEq, Value.slice.injEq, and_true] at hcs
    obtain ⟨rfl, rfl, rfl⟩ := hcs
    exact ⟨[], ⟨none, 0, rfl, fun h => absurd rfl h⟩, rfl, by simp, by unfold maxLen; omega⟩
  · simp only [List.cons.injEq, Value.slice.injEq, and_true] at hcs
    obtain ⟨rfl, rfl, rfl⟩ := hcs
    have hzl : len ≤ zs.length := by rw [hz]; split <;> omega
    refine ⟨zs.take len, ⟨some b, cap, by rw [List.length_take, Nat.min_eq_left hzl], fun hne => ?_⟩, by rw [List.length_take, Nat.min_eq_left hzl], fun y hy => lit64 (hwz y (List.mem_of_mem_take hy)), by omega⟩
    have h0 : 0 < len := by
      rcases Nat.eq_zero_or_pos len with h | h
      · rw [h] at hne; simp at hne
      · exact h
    have hc0 := hcell 0 (by omega)
    have hs : b.spot = none := by
      have := spot_none hc0
      unfold Addr.add at this
      split at this <;> simp_all
    obtain ⟨bb, bo, bs⟩ := b
    simp only at hs
    subst hs
    refine ⟨bb, bo, rfl, fun j v hj => ?_⟩
    have hjl : j < len := by
      have := (List.getElem?_eq_some_iff.1 hj).1
      simp [intVals] at this; omega
    have hcj := hcell j (by omega)
    rw [Addr.add_mid] at hcj
    rw [hcj]
    have e : (intVals (zs.take len))[j]? = some (.int .i64 (zs.getD j 0)) := by
      simp only [intVals, List.getElem?_map, List.getElem?_take_of_lt hjl, List.getD_eq_getElem?_getD]
      rw [List.getElem?_eq_getElem (by omega)]; rfl
    rw [← hj, e]
theorem ops_open {fuel : Nat} {a : Option Addr} {len cap : Nat} {x : DataW H × List MemPlace} (h : DataW.trod enc Try.prog w base spare held fuel 46 [.slice a len cap] = some x) :
    ∃ l : List DOp, OpsIs w (.slice a len cap) l ∧ l.length = len ∧ (∀ x ∈ l, x.ok) ∧ len ≤ maxLen := by
  have hfs : Try.prog.underlying 50 = some (.struct (Try.prog.fieldsOf 50)) := by kernel_rfl
  have hsz : (Try.prog.fieldsOf 50).size = 3 := by kernel_rfl
  have hft : ∀ j, j < 3 → ((Try.prog.fieldsOf 50)[j]?).map (·.type) = some 3 := by
    intro j hj
    rcases j with _ | _ | _ | j
    · kernel_rfl
    · kernel_rfl
    · kernel_rfl
    · omega
  rcases open_slice_fields (e := 50) (by kernel_rfl) hfs (by kernel_rfl) (by kernel_rfl) h with ⟨hcs, _⟩ | ⟨b, l, c, m, D, Pl, hcs, _, hl, hm, hmm, _, hcell⟩
  · simp only [List.cons.injEq, Value.slice.injEq, and_true] at hcs
    obtain ⟨rfl, rfl, rfl⟩ := hcs
    exact ⟨[], ⟨none, 0, rfl, fun h => absurd rfl h⟩, rfl, by simp, by unfold maxLen; omega⟩
  · simp only [List.cons.injEq, Value.slice.injEq, and_true] at hcs
    obtain ⟨rfl, rfl, rfl⟩ := hcs
    have hml : len ≤ m := by rw [hmm]; split <;> omega
    have hnum : ∀ i j, i < len → j < 3 → ∃ n : Int, (-9223372036854775808 ≤ n ∧ n ≤ 9223372036854775807) ∧ w.cell? (b.add (i * 3 + j)) = some (.int .i64 n) := by
      intro i j hi hj
      obtain ⟨ys, nn, _, _, _, hf⟩ := hcell i (by omega)
      obtain ⟨f, hf1, hf2⟩ := Option.map_eq_some_iff.1 (hft j hj)
      obtain ⟨v, y, hv, _, ht⟩ := hf j f hf1
      rw [hf2] at ht
      rw [hsz] at hv
      obtain ⟨n, hvn, _, hw⟩ := DataW.trod_int (k := .i64) (by kernel_rfl) ht
      injection hvn with hvn _
      subst hvn
      exact ⟨n, lit64 hw, hv⟩
    have hpick : ∃ F : Nat → DOp, ∀ i, i < len → (F i).ok ∧ ∀ j v, (opVals (F i))[j]? = some v → w.cell? (b.add (i * 3 + j)) = some v := by
      have hone : ∀ i, ∃ x : DOp, i < len → x.ok ∧ ∀ j v, (opVals x)[j]? = some v → w.cell? (b.add (i * 3 + j)) = some v := by
        intro i
        by_cases hi : i < len
        · obtain ⟨n0, h0, c0⟩ := hnum i 0 hi (by omega)
          obtain ⟨n1, h1, c1⟩ := hnum i 1 hi (by omega)
          obtain ⟨n2, h2, c2⟩ := hnum i 2 hi (by omega)
          refine ⟨⟨n0, n1, n2⟩, fun _ => ⟨⟨h0, h1, h2⟩, fun j v hj => ?_⟩⟩
          rcases j with _ | _ | _ | j
          · simp [opVals] at hj; rw [← hj]; exact c0
          · simp [opVals] at hj; rw [← hj]; exact c1
          · simp [opVals] at hj; rw [← hj]; exact c2
          · simp [opVals] at hj
        · exact ⟨⟨0, 0, 0⟩, fun h => absurd h hi⟩
      exact ⟨fun i => (hone i).choose, fun i => (hone i).choose_spec⟩
    obtain ⟨F, hF⟩ := hpick
    refine ⟨(List.range len).map F, ⟨some b, cap, by simp, fun hne => ?_⟩, by simp, fun y hy => ?_, by omega⟩
    · have h0 : 0 < len := by
        rcases Nat.eq_zero_or_pos len with h | h
        · rw [h] at hne; simp at hne
        · exact h
      have hc0 := (hF 0 h0).2 0 _ rfl
      have hs : b.spot = none := by
        have := spot_none hc0
        unfold Addr.add at this
        split at this <;> simp_all
      obtain ⟨bb, bo, bs⟩ := b
      simp only at hs
      subst hs
      refine ⟨bb, bo, rfl, fun j v hj => ?_⟩
      have hlen : (((List.range len).map F).flatMap opVals).length = len * 3 := by rw [flatMap_len (g := opVals) (m := 3) (fun _ _ => rfl)]; simp
      have hj3 : j < len * 3 := by rw [← hlen]; exact (List.getElem?_eq_some_iff.1 hj).1
      have hp := flatMap_piece (g := opVals) (m := 3) (l := (List.range len).map F) (fun _ _ => rfl) (j / 3) (F (j / 3)) (by rw [List.getElem?_map, List.getElem?_range (by omega)]; rfl) (j % 3) (by omega)
      rw [show j / 3 * 3 + j % 3 = j from by omega, hj] at hp
      have := (hF (j / 3) (by omega)).2 (j % 3) v hp.symm
      rw [Addr.add_mid, show bo + (j / 3 * 3 + j % 3) = bo + j from by omega] at this
      exact this
    · obtain ⟨i, hi, rfl⟩ := List.mem_map.1 hy
      exact (hF i (List.mem_range.1 hi)).1
end
end Go.Proofs.Ytcaalfpfkalalaa
