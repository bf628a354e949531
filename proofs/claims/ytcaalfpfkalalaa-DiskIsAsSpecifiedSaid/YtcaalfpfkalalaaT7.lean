/- The specification's disk: Open. -/
import Derived.Test.YtcaalfpfkalalaaT6
set_option linter.unusedVariables false
set_option linter.unusedSimpArgs false
set_option maxRecDepth 10000
set_option maxHeartbeats 4000000
namespace Qd
def Disk.opens (d : Disk) (j : Nat) : List Int := ((List.range j).map fun k => List.replicate (d.opn k).length (k : Int)).flatten
theorem opens_succ (d : Disk) (j : Nat) : d.opens (j + 1) = d.opens j ++ List.replicate (d.opn j).length (j : Int) := by
  unfold Disk.opens
  rw [List.range_succ, List.map_append, List.flatten_append]
  simp
theorem flatten_filter {α β : Type} (f : α → List β) (p : α → Bool) : ∀ l : List α, (∀ x ∈ l, p x = false → f x = []) → ((l.filter p).map f).flatten = (l.map f).flatten
  | [], _ => rfl
  | a :: l, h => by
    have ih := flatten_filter f p l (fun x hx => h x (by simp [hx]))
    by_cases hp : p a = true
    · rw [List.filter_cons_of_pos hp, List.map_cons, List.map_cons, List.flatten_cons, List.flatten_cons, ih]
    · rw [List.filter_cons_of_neg hp, ih, List.map_cons, List.flatten_cons, h a (by simp) (by simpa using hp), List.nil_append]
theorem opens_all (d : Disk) : d.opens d.cells.length = d.openList := by
  unfold Disk.opens Disk.openList Disk.busy
  rw [flatten_filter]
  intro x _ hx
  have : d.opn x = [] := by simpa using hx
  rw [this]; rfl
theorem opens_len {d : Disk} (h : d.Ok) (j : Nat) : ((d.opens j).length : Int) ≤ j * d.steps := by
  induction j with
  | zero => simp [Disk.opens]
  | succ j ih =>
    rw [opens_succ, List.length_append, List.length_replicate]
    have := h.opnLen j
    have e : ((j + 1 : Nat) : Int) * d.steps = j * d.steps + d.steps := by
      rw [Int.natCast_add, Int.add_mul]; simp
    rw [e]
    omega
end Qd
namespace Go.Proofs.Ytcaalfpfkalalaa
open Go.RowKit Qd
open Go.Proofs.YtcaalfpfkalalaaW.PrintLast
theorem refRow_open {cs : List Qd.Cell} {vs : List Value} (hc : ∀ c ∈ cs, SecOk c.s) (hl : vs.length = cs.length) {i : Nat} (hi : i < cs.length) : (refRow cs vs)[i * 66 + 65]? = vs[i]? := by
  rw [refRow_get hc hl hi (by omega)]
  have h := hc (cs.getD i zeroCell) (by rw [List.getD_eq_getElem?_getD, List.getElem?_eq_getElem hi]; exact List.getElem_mem hi)
  unfold refCell cellVals
  rw [List.append_assoc, List.getElem?_append_right (by rw [sec64 h]; omega), sec64 h, List.getElem?_eq_getElem (show i < vs.length by omega)]
  show some (vs.getD i (.slice none 0 0)) = _
  rw [List.getD_eq_getElem?_getD, List.getElem?_eq_getElem (show i < vs.length by omega)]
  rfl
theorem opens_zero (d : Disk) : d.opens 0 = [] := rfl
attribute [local irreducible] diskR blkR restR rowsR secVals SecOk refRow Own refCell gotVals intsR Disk.opens
section
variable {w0 w : World} {rs : List Res} {p k : Nat} {d : Disk}
theorem Own.ropen_ (h : Own w0 w rs) (hk : rs[k]? = some (refR p d)) (hst : d.steps ≤ 1000000) : Calls Try.prog 50 #[.pointer (some ⟨p, 0, none⟩)] w fun e w' =>
    ∃ a c, e = .returned (.slice a d.openList.length c) ∧ KeepIs w' (.slice a d.openList.length c) d.openList ∧ Own w0 w' rs := by
  have hsame := list_set_same hk
  obtain ⟨bc, vs, hl, hok, ho⟩ := (h.focus hk).openRef0
  have HEND : Hid (∀ w', Own w0 w' (refL p bc vs d ++ [restR rs (· = k)]) → Own w0 w' rs) := Lib.hid (fun w' h' => by have := (h'.shutRef0 hl hok).back; rwa [hsame] at this)
  simp only [refL, refObj, List.cons_append, List.nil_append] at ho HEND
  have hrow : ∀ i, i < d.cells.length → (refRow d.cells vs)[i * 66 + 65]? = vs[i]? := fun i hi => refRow_open hok.sec hl hi
  have hsl := hok.len
  have hall := opens_all d
  have hlen := fun j => opens_len hok j
  have hst0 := hok.st0
  have HVS : Hid (∀ i, i < d.cells.length → ∃ v, vs[i]? = some v) := Lib.hid (fun i hi => ⟨_, List.getElem?_eq_getElem (by omega)⟩)
  obtain ⟨N, hN⟩ : ∃ N, N = d.cells.length := ⟨_, rfl⟩
  rw [← hN] at ho HEND hrow hsl hall HVS
  have HROW := Lib.hid hrow
  have HALL := Lib.hid hall
  have HLEN := Lib.hid hlen
  clear h hk hsame hl hok hrow hN hall hlen
  go_enter Try.func50, Try.ntmps50
  go_wp2_with (fail)
  replace ho := ho.intsNil
  simp only [List.cons_append, List.nil_append] at ho
  go_loopw [3, 4] (fun v i wr => ∃ j : Nat, j ≤ N ∧ i = .int .i64 (j : Int) ∧ Own w0 wr [blkR p [Value.slice (some ⟨bc, 0, none⟩) N N, .int .i64 d.steps, .int .i64 d.after, .bool d.dead].toArray 107, blkR bc (refRow d.cells vs).toArray 110, rowsR vs d.opn, restR rs (· = k), intsR v (d.opens j)])
    (fun _ i _ => N - (intOf i).toNat)
  case atStart => exact ⟨0, by omega, rfl, by rw [opens_zero]; exact ho⟩
  case round =>
    clear ho
    obtain ⟨j, hj, rfl, ho⟩ := hrel
    have hj0 : (0 : Int) ≤ (j : Int) := Int.natCast_nonneg j
    by_cases hjN : j < N
    · have hjN' : (j : Int) < (N : Int) := by omega
      obtain ⟨v, hv⟩ := HVS.out j hjN
      obtain ⟨a, cp, rfl⟩ := own_slice (ho.rowOf (k := 2) rfl hv).1
      have hrj := (HROW.out j hjN).trans hv
      have hmax := own_max (ho.rowOf (k := 2) rfl hv).1
      have hlj := HLEN.out j
      have hlj1 := HLEN.out (j + 1)
      have hs1 := opens_succ d j
      rw [hs1, List.length_append, List.length_replicate] at hlj1
      obtain ⟨n, hn⟩ : ∃ n, n = (d.opn j).length := ⟨_, rfl⟩
      obtain ⟨out, hout⟩ : ∃ l, l = d.opens j := ⟨_, rfl⟩
      rw [← hn] at hrj hmax hs1 hlj1
      rw [← hout] at ho hlj hs1 hlj1
      have hb2 : (out.length : Int) + n ≤ 65537 * 1000000 := by
        have e : ((j + 1 : Nat) : Int) * d.steps ≤ 65537 * 1000000 := by
          apply Int.mul_le_mul <;> omega
        omega
      have HR := Lib.hid hrj
      have HS := Lib.hid hs1
      clear hv hn hout hlj hlj1 hrj hs1
      go_wp2_with (refine go_val rfl (ho.xlcells (k := 0) (j := 0) (x := .tmp 9) rfl rfl rfl rfl) ?_; simp only [Act.put, List.setIfInBounds_toArray, List.set_cons_zero, List.set_cons_succ])
      go_loopw [3, 5] (fun v i wr => ∃ y : Nat, y ≤ n ∧ i = .int .i64 (y : Int) ∧ Own w0 wr [blkR p [Value.slice (some ⟨bc, 0, none⟩) N N, .int .i64 d.steps, .int .i64 d.after, .bool d.dead].toArray 107, blkR bc (refRow d.cells vs).toArray 110, rowsR vs d.opn, restR rs (· = k), intsR v (out ++ List.replicate y (j : Int))])
        (fun _ i _ => n - (intOf i).toNat)
      case atStart => exact ⟨0, by omega, rfl, by rw [List.replicate_zero, List.append_nil]; exact ho⟩
      case round =>
        clear ho
        obtain ⟨y, hy, rfl, ho⟩ := hrel
        have hy0 : (0 : Int) ≤ (y : Int) := Int.natCast_nonneg y
        by_cases hyn : y < n
        · have hyn' : (y : Int) < (n : Int) := by omega
          have hln : (out ++ List.replicate y (j : Int)).length + 1 < 1099511627776 := by rw [List.length_append, List.length_replicate]; omega
          have hsn : (out ++ List.replicate y (j : Int)) ++ [(j : Int)] = out ++ List.replicate (y + 1) (j : Int) := by rw [List.append_assoc, ← List.replicate_succ']
          have HSN := Lib.hid hsn
          clear hsn
          go_wp2_with (first
            | (refine go_val rfl (ho.xlcells (k := 0) (j := 0) (x := .tmp 18) rfl rfl rfl rfl) ?_; simp only [Act.put, List.setIfInBounds_toArray, List.set_cons_zero, List.set_cons_succ])
            | (refine go_val rfl (ho.xlsecs (k := 1) (j := j * 66 + 65) (x := .tmp 22) rfl rfl rfl HR.out) ?_; simp only [Act.put, List.setIfInBounds_toArray, List.set_cons_zero, List.set_cons_succ])
            | (refine go_val_ex rfl (ho.xint (x := .tmp 29) rfl rfl) ?_; rintro v w1 ⟨bi, rfl, -, -, hq⟩; simp only [Act.put, List.setIfInBounds_toArray, List.set_cons_zero, List.set_cons_succ]; (try simp only [List.nil_append, List.cons_append, List.set_cons_zero, List.set_cons_succ] at hq); replace ho := hq; clear hq)
            | (refine go_val_ex rfl (ho.xints (k := 4) (s := .tmp 28) (x := .tmp 30) (ks := [(j : Int)]) rfl rfl rfl rfl rfl ((ho.blk (i := 5) rfl).1.range 0 _ (fun j _ => by simp [intVals])) hln) ?_; rintro v w1 ⟨-, hq⟩; rw [HSN.out] at hq; simp only [Act.put, List.setIfInBounds_toArray, List.set_cons_zero, List.set_cons_succ]; (try simp only [List.nil_append, List.cons_append, List.set_cons_zero, List.set_cons_succ] at hq); replace ho := hq; clear hq))
          exact ⟨⟨y + 1, by omega, by go_num, ho.pick [0, 1, 2, 3, 4] (by decide) rfl⟩, by simp [intOf]; omega⟩
        · have hyn' : ¬ (y : Int) < (n : Int) := by omega
          have e : y = n := by omega
          subst e
          rw [← HS.out] at ho
          go_wp2_with (first
            | (refine go_val rfl (ho.xlcells (k := 0) (j := 0) (x := .tmp 18) rfl rfl rfl rfl) ?_; simp only [Act.put, List.setIfInBounds_toArray, List.set_cons_zero, List.set_cons_succ])
            | (refine go_val rfl (ho.xlsecs (k := 1) (j := j * 66 + 65) (x := .tmp 22) rfl rfl rfl HR.out) ?_; simp only [Act.put, List.setIfInBounds_toArray, List.set_cons_zero, List.set_cons_succ]))
          exact ⟨⟨j + 1, by omega, by go_num, ho⟩, by simp [intOf]; omega⟩
    · have hjN' : ¬ (j : Int) < (N : Int) := by omega
      have e : j = N := by omega
      subst e
      rw [HALL.out] at ho
      go_wp2_with (refine go_val rfl (ho.xlcells (k := 0) (j := 0) (x := .tmp 9) rfl rfl rfl rfl) ?_; simp only [Act.put, List.setIfInBounds_toArray, List.set_cons_zero, List.set_cons_succ])
      obtain ⟨a, c, rfl⟩ := ho.intsIs (k := 4) rfl
      have hkp := ho.intsKeep (k := 4) rfl
      go_ret
      exact ⟨a, c, rfl, hkp, HEND.out _ (ho.pick [0, 1, 2, 3] (by decide) rfl)⟩
end
end Go.Proofs.Ytcaalfpfkalalaa
