/- More laws of operations: copy; parts of rows. -/
import Derived.Test.YtcaalfpfkalalaaB5
set_option linter.unusedVariables false
set_option linter.unusedSimpArgs false
namespace Go.Proofs.Ytcaalfpfkalalaa
open Go.RowKit Qd
section
variable {P : Program} {o : Oper} {w : World} {ρ : Operand → Value}
theorem copy_cells (w : World) (dT sT ty elem : TypeId) (b p dLen dCap : Nat) (a : Addr) (sLen sCap size : Nat) (cs : List Value)
    (hu : P.underlying dT = some (.slice elem)) (hs : (P.info? elem).map (·.size) = some size) (hn : cs.length = Nat.min sLen dLen * size)
    (hsrc : ∀ j v, cs[j]? = some v → w.cell? (a.add j) = some v) (ht : w.there b p cs.length) (h1 : ∀ v ∈ cs, v.oneCell' = true) :
    (Builtin.copy_ #[dT, sT] ty #[.slice (some ⟨b, p, none⟩) dLen dCap, .slice (some a) sLen sCap]).run P w = .ok (goInt (Nat.min sLen dLen)) (w.setCells b p cs) := by
  have hl := run_loadCells_list (P := P) w a cs hsrc
  have hst := run_storeCells_cells (P := P) b p cs 0 w (fun j hj => by simpa using (ht j hj).1) (fun j hj => by simpa using (ht j hj).2) h1
  cases hq : P.info? elem with
  | none => simp [hq] at hs
  | some i =>
    have hi : i.size = size := by simpa [hq] using hs
    rw [hn] at hl
    have hl' : (loadCells a (sLen.min dLen * size)).run P w = .ok cs.toArray w := hl
    simp [Builtin.copy_, run_underlying hu, Builtin.lenOf, Builtin.firstCells, sizeOf, typeInfo, hq, hi, hl', hst]
theorem ex_copy {dT sT elem : TypeId} {x y : Operand} {b p dLen dCap sb so sLen sCap size : Nat} {cs : List Value} (ho : o.op = .call { callee := .builtin .copy, args := #[x, y], argTypes := #[dT, sT] })
    (hu : P.underlying dT = some (.slice elem)) (hs : (P.info? elem).map (·.size) = some size) (hx : ρ x = .slice (some ⟨b, p, none⟩) dLen dCap) (hy : ρ y = .slice (some ⟨sb, so, none⟩) sLen sCap)
    (hn : cs.length = Nat.min sLen dLen * size) (hr : w.rangeAt sb so cs) (ht : w.there b p cs.length) (h1 : ∀ v ∈ cs, v.oneCell' = true) :
    (execOp ρ o).run P w = .ok (.value (goInt (Nat.min sLen dLen))) (w.setCells b p cs) := by
  have h := copy_cells (P := P) w dT sT o.type elem b p dLen dCap ⟨sb, so, none⟩ sLen sCap size cs hu hs hn (fun j v hj => by rw [Addr.add_mid]; exact hr j v hj) ht h1
  unfold execOp
  simp only [ho, resolve, invoke, builtin, Sem.run_bind, Sem.run_pure, Result.andThen_ok, List.map_toArray, List.map_cons, List.map_nil, hx, hy, h]
theorem cell_sec_range {b k : Nat} {c : Qd.Cell} (h : w.rangeAt b k (cellVals c)) : w.rangeAt b k (secVals c.s) := fun j v hj => h j v (by
  unfold cellVals
  rw [List.getElem?_append_left (List.getElem?_eq_some_iff.1 hj).1]; exact hj)
theorem many_sub {g : Nat} {l : List Sec} (hl : ∀ s ∈ l, SecOk s) (h : w.rangeAt g 0 (manyVals l)) {i : Nat} (hi : i < l.length) : w.rangeAt g (i * 64) (secVals (l.getD i zeroSec)) := by
  intro j v hv
  have hj : j < 64 := by
    have := (List.getElem?_eq_some_iff.1 hv).1
    rwa [secVals_len, (getD_ok hl i).1] at this
  have hc : l[i]? = some (l.getD i zeroSec) := by rw [List.getElem?_eq_getElem hi, List.getD_eq_getElem?_getD, List.getElem?_eq_getElem hi]; rfl
  have h1 := flatMap_piece (g := secVals) (m := 64) (many_len hl) i _ hc j hj
  rw [hv] at h1
  have := h _ _ h1
  rwa [Nat.zero_add] at this
end
end Go.Proofs.Ytcaalfpfkalalaa
