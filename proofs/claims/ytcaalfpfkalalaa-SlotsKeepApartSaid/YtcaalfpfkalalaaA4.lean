/- Plain laws of a disk that is written and synced, for the statements of layer 21. -/
import Derived.Test.YtcaalfpfkalalaaA3
set_option linter.unusedVariables false
set_option linter.unusedSimpArgs false
namespace Qd
/-- A disk of 16 sectors that never failed, with at most m steps. -/
structure Fine (D : Disk) (m : Nat) : Prop where
  ok : D.Ok
  len : D.cells.length = 16
  dead : D.dead = false
  after : D.after = -1
  steps : D.steps ≤ m
  bad : ∀ k, (D.cell k).bad = false
variable {D : Disk} {m : Nat}
theorem Fine.start : Fine (Disk.new 16) 0 where
  ok := Disk.ok_new (by omega) (by omega)
  len := by simp [Disk.new]
  dead := rfl
  after := rfl
  steps := by simp [Disk.new]
  bad := fun k => by
    by_cases hk : k < 16
    · rw [new_cell hk]; rfl
    · simp [Disk.cell, Disk.new, List.getD_eq_getElem?_getD, hk, zeroCell]
theorem Fine.check (h : Fine D m) {k : Nat} (hk : k < 16) : D.check k = 0 := by
  unfold Disk.check
  rw [if_neg (by rw [h.dead]; simp), if_neg (by rw [h.len]; omega)]
theorem Fine.step (h : Fine D m) : D.step.1 = { D with steps := D.steps + 1 } := by
  have ha := h.after
  unfold Disk.step
  rw [if_neg (by omega)]
  simp only [ha]
  cases D
  simp_all
theorem Fine.write_eq (h : Fine D m) {k : Nat} (hk : k < 16) (s : Sec) : D.write k s = (({ D with steps := D.steps + 1 } : Disk).push k s, 0) := by
  have ha := h.after
  rw [Disk.write, h.check hk, if_neg (by simp), if_neg (by omega), h.step]; simp
theorem Fine.sync_eq (h : Fine D m) : D.sync = (({ D with steps := D.steps + 1 } : Disk).flush, 0) := by
  have ha := h.after
  rw [Disk.sync, if_neg (by rw [h.dead]; simp), if_neg (by omega), h.step]
theorem Fine.write (h : Fine D m) {k : Nat} (hk : k < 16) {s : Sec} (hs : SecOk s) : Fine (D.write k s).1 (m + 1) := by
  have hok := h.ok.write k hs
  rw [h.write_eq hk] at hok ⊢
  exact ⟨hok, h.len, h.dead, h.after, by have := h.steps; simp [Disk.push]; omega, h.bad⟩
theorem Fine.write_opn (h : Fine D m) {k : Nat} (hk : k < 16) (s : Sec) : (D.write k s).1.opn = fun x => if x = k then D.opn k ++ [s] else D.opn x := by
  rw [h.write_eq hk]; rfl
theorem Fine.write_cell (h : Fine D m) {k : Nat} (hk : k < 16) (s : Sec) (x : Nat) : (D.write k s).1.cell x = D.cell x := by
  rw [h.write_eq hk]; rfl
theorem flush_cell {k : Nat} (hk : k < D.cells.length) : D.flush.cell k = D.settled k := by
  simp [Disk.flush, Disk.cell, List.getD_eq_getElem?_getD, hk]
theorem Fine.sync_cell (h : Fine D m) {k : Nat} (hk : k < 16) : D.sync.1.cell k = ⟨if D.opn k ≠ [] then lastSec (D.opn k) else (D.cell k).s, false⟩ := by
  rw [h.sync_eq]
  show (({ D with steps := D.steps + 1 } : Disk).flush).cell k = _
  rw [flush_cell (by rw [show ({ D with steps := D.steps + 1 } : Disk).cells = D.cells from rfl, h.len]; exact hk)]
  have hb := h.bad k
  show D.settled k = _
  unfold Disk.settled
  split
  · rfl
  · cases hc : D.cell k
    rw [hc] at hb
    simp_all
theorem Fine.sync_opn (h : Fine D m) : D.sync.1.opn = fun _ => [] := by rw [h.sync_eq]; rfl
theorem Fine.sync (h : Fine D m) : Fine D.sync.1 (m + 1) := by
  have hok := h.ok.sync
  have hb : ∀ k, (D.sync.1.cell k).bad = false := fun k => by
    by_cases hk : k < 16
    · rw [h.sync_cell hk]
    · rw [h.sync_eq]
      simp [Disk.cell, Disk.flush, List.getD_eq_getElem?_getD, h.len, hk, zeroCell]
  refine ⟨hok, ?_, ?_, ?_, ?_, hb⟩ <;> rw [h.sync_eq]
  · simp [Disk.flush, h.len]
  · exact h.dead
  · exact h.after
  · have := h.steps; simp [Disk.flush]; omega
theorem Fine.read (h : Fine D m) {k : Nat} (hk : k < 16) : D.read k = (if D.opn k ≠ [] then lastSec (D.opn k) else (D.cell k).s, 0) := by
  rw [Disk.read, h.check hk, if_neg (by simp), Int.toNat_natCast]
  split
  · rfl
  · rw [if_neg (by rw [h.bad k]; simp)]
/-- What may be found of a sector. -/
def possibleB (s : Sec) (e : Int) (sure : Sec) (l : List Sec) : Bool :=
  if e = 14 then decide (s = zeroSec)
  else ((decide (e = 0) && decide (s = sure)) || l.any (fun x => decide (e = 0) && decide (s = x))) ||
    (decide (e = 0) && decide (s = torn (if 1 < l.length then l.getD (l.length - 2) zeroSec else sure) (l.getD (l.length - 1) zeroSec)))
theorem found_possible {c : Cell} {l : List Sec} (x : Int) (hc : c.bad = false) (hl : l ≠ []) :
    possibleB (if (found c l x).bad = true then zeroSec else (found c l x).s) (if (found c l x).bad = true then 14 else 0) c.s l = true := by
  have hn : 0 < l.length := List.length_pos_iff.2 hl
  obtain ⟨n, hn'⟩ : ∃ n : Int, n = l.length := ⟨_, rfl⟩
  obtain ⟨r, hr⟩ : ∃ r, r = (x.tmod (n + 3) + n + 3).tmod (n + 3) := ⟨_, rfl⟩
  have h0 : 0 ≤ r ∧ r < n + 3 := by
    have h1 := Int.tmod_lt_of_pos x (show 0 < n + 3 by omega)
    have h2 : -(n + 3) < x.tmod (n + 3) := by
      have := Int.tmod_lt_of_pos (-x) (show 0 < n + 3 by omega)
      rw [Int.neg_tmod] at this
      omega
    rw [hr]
    exact ⟨Int.tmod_nonneg _ (by omega), Int.tmod_lt_of_pos _ (by omega)⟩
  have e : found c l x = if r = 0 then c else if r ≤ n then ⟨l.getD (r - 1).toNat zeroSec, false⟩ else if r = n + 1 then rotCell else ⟨torn (if 1 < n then l.getD (n - 2).toNat zeroSec else c.s) (l.getD (n - 1).toNat zeroSec), false⟩ := by
    rw [hr, hn']; rfl
  rw [e]
  by_cases c1 : r = 0
  · simp [c1, hc, possibleB]
  · rw [if_neg c1]
    by_cases c2 : r ≤ n
    · rw [if_pos c2]
      have hm : l.getD (r - 1).toNat zeroSec ∈ l := by
        rw [List.getD_eq_getElem?_getD, List.getElem?_eq_getElem (by omega)]
        exact List.getElem_mem _
      have : l.any (fun y => decide (l.getD (r - 1).toNat zeroSec = y)) = true := List.any_eq_true.2 ⟨_, hm, by simp⟩
      simp only [possibleB, Bool.false_eq_true, if_false, decide_true, Bool.true_and]
      rw [if_neg (by omega), this]
      simp
    · rw [if_neg c2]
      by_cases c3 : r = n + 1
      · rw [if_pos c3]
        simp [rotCell, possibleB]
      · rw [if_neg c3]
        have e1 : (n - 1).toNat = l.length - 1 := by omega
        have e2 : (n - 2).toNat = l.length - 2 := by omega
        have e3 : (if 1 < n then l.getD (n - 2).toNat zeroSec else c.s) = if 1 < l.length then l.getD (l.length - 2) zeroSec else c.s := by
          rw [e2]
          by_cases h1 : 1 < l.length
          · rw [if_pos h1, if_pos (by omega)]
          · rw [if_neg h1, if_neg (by omega)]
        rw [e1, e3]
        simp [possibleB]
theorem Fine.crash_open (h : Fine D m) (keep : List Int) {k : Nat} (hk : k < 16) (ho : D.opn k ≠ []) : possibleB ((D.crash keep).read k).1 ((D.crash keep).read k).2 (D.cell k).s (D.opn k) = true := by
  have := found_possible (keepAt keep (D.busy.idxOf k)) (h.bad k) ho
  rw [crash_read (by rw [h.len]; exact hk), Disk.crashCell, if_neg ho]
  split at this
  · rename_i hb; rw [if_pos hb]; exact this
  · rename_i hb; rw [if_neg hb]; exact this
theorem Fine.crash_sure (h : Fine D m) (keep : List Int) {k : Nat} (hk : k < 16) (ho : D.opn k = []) : (D.crash keep).read k = ((D.cell k).s, 0) := by
  rw [crash_read (by rw [h.len]; exact hk), Disk.crashCell, if_pos ho, if_neg (by rw [h.bad k]; simp)]
theorem xor_twice (a b : Nat) : (a ^^^ b) ^^^ b = a := by rw [Nat.xor_assoc, Nat.xor_self, Nat.xor_zero]
theorem flip_twice {s : Sec} (hs : SecOk s) {b : Nat} (hb : b < 512) : flipBit (flipBit s b) b = s := by
  have hl : b / 8 < s.length := by rw [hs.1]; omega
  unfold flipBit
  simp only [List.getD_eq_getElem?_getD, List.getElem?_set_self hl, Option.getD_some, List.set_set]
  rw [List.getElem?_eq_getElem hl]
  simp only [Option.getD_some, Int.toNat_natCast, xor_twice]
  have h0 := (hs.2 _ (List.getElem_mem hl)).1
  rw [Int.toNat_of_nonneg h0, List.set_getElem_self]
/-- The disk of DiskSpoils, at each of its steps: no sector has open writes. -/
structure Idle (D : Disk) (sure : Nat → Sec) (m : Nat) : Prop where
  fine : Fine D m
  opn : ∀ k, D.opn k = []
  sure : ∀ k, k < 16 → (D.cell k).s = sure k
theorem set_cell {D : Disk} {i k : Nat} {c : Cell} (hi : i < D.cells.length) : ({ D with cells := D.cells.set i c } : Disk).cell k = if k = i then c else D.cell k := by
  by_cases hk : k = i
  · subst hk; simp [Disk.cell, List.getD_eq_getElem?_getD, List.getElem?_set_self hi]
  · simp [Disk.cell, List.getD_eq_getElem?_getD, List.getElem?_set_ne (Ne.symm hk), hk]
theorem Idle.flip {sure : Nat → Sec} (h : Idle D sure m) {i b : Nat} (hi : i < 16) (hb : b < 512) : (D.flip i b).2 = 0 ∧ Idle (D.flip i b).1 (fun k => if k = i then flipBit (sure i) b else sure k) m := by
  have hok := h.fine.ok.flip i b
  have e : D.flip i b = ({ D with cells := D.cells.set i ⟨flipBit (D.cell i).s b, false⟩ }, 0) := by
    rw [Disk.flip, h.fine.check hi, if_neg (by simp), if_neg (by omega), Int.toNat_natCast, Int.toNat_natCast, if_neg (by rw [h.fine.bad i]; simp)]
  rw [e] at hok ⊢
  have hc := fun k => set_cell (D := D) (i := i) (k := k) (c := ⟨flipBit (D.cell i).s b, false⟩) (by rw [h.fine.len]; exact hi)
  refine ⟨rfl, ⟨hok, by simp [h.fine.len], h.fine.dead, h.fine.after, h.fine.steps, fun k => ?_⟩, h.opn, fun k hk => ?_⟩
  · rw [hc k]; split
    · rfl
    · exact h.fine.bad k
  · rw [hc k]; split
    · show flipBit (D.cell i).s b = _; rw [h.sure i hi]
    · exact h.sure k hk
theorem Idle.read {sure : Nat → Sec} (h : Idle D sure m) {k : Nat} (hk : k < 16) : D.read k = (sure k, 0) := by
  rw [h.fine.read hk, if_neg (by simp [h.opn k]), h.sure k hk]
/-- One sector is rotten. -/
theorem Idle.rot {sure : Nat → Sec} (h : Idle D sure m) {i : Nat} (hi : i < 16) : (D.rot i).2 = 0 ∧ (D.rot i).1.Ok ∧ (D.rot i).1.cells.length = 16 ∧ (D.rot i).1.steps ≤ m ∧
    ∀ keep (k : Nat), k < 16 → (((D.rot i).1.crash keep)).read k = if k = i then (zeroSec, 14) else (sure k, 0) := by
  have hok := h.fine.ok.rot i
  have e : D.rot i = ({ D with cells := D.cells.set i rotCell }, 0) := by
    rw [Disk.rot, h.fine.check hi, if_neg (by simp), Int.toNat_natCast]
  rw [e] at hok ⊢
  refine ⟨rfl, hok, by simp [h.fine.len], h.fine.steps, fun keep k hk => ?_⟩
  have ho : ({ D with cells := D.cells.set i rotCell } : Disk).opn k = [] := h.opn k
  show (({ D with cells := D.cells.set i rotCell } : Disk).crash keep).read k = _
  rw [crash_read (by simp [h.fine.len]; exact hk), Disk.crashCell, if_pos ho, set_cell (by rw [h.fine.len]; exact hi)]
  by_cases hki : k = i
  · simp [hki, rotCell]
  · rw [if_neg hki, if_neg hki, if_neg (by rw [h.fine.bad k]; simp), h.sure k hk]
theorem crash_steps (D : Disk) (keep : List Int) : (D.crash keep).steps = 0 := rfl
theorem crash_len (D : Disk) (keep : List Int) : (D.crash keep).cells.length = D.cells.length := by simp [Disk.crash]
/-- A sector that is written and synced is read. -/
theorem crash_write_sync (D : Disk) (keep : List Int) {i : Nat} (hi : i < D.cells.length) (s : Sec) : ((D.crash keep).write i s).2 = 0 ∧ ((D.crash keep).write i s).1.sync.2 = 0 ∧ ((D.crash keep).write i s).1.sync.1.read i = (s, 0) ∧ ((D.crash keep).write i s).1.steps = 1 := by
  have hc := crash_check (keep := keep) hi
  have e : (D.crash keep).write i s = (({ D.crash keep with steps := 1 } : Disk).push i s, 0) := by
    rw [Disk.write, hc, if_neg (by simp), if_neg (by simp [Disk.crash, Disk.new]), Int.toNat_natCast]
    simp [Disk.step, Disk.crash, Disk.new]
  have e2 : (({ D.crash keep with steps := 1 } : Disk).push i s).sync = ((({ D.crash keep with steps := 2 } : Disk).push i s).flush, 0) := by
    rw [Disk.sync, if_neg (by simp [Disk.push, Disk.crash, Disk.new]), if_neg (by simp [Disk.push, Disk.crash, Disk.new])]
    simp [Disk.step, Disk.push, Disk.crash, Disk.new]
  rw [e]
  refine ⟨rfl, by rw [e2], ?_, rfl⟩
  rw [e2]
  have hl : i < (({ D.crash keep with steps := 2 } : Disk).push i s).cells.length := by simp [Disk.push, crash_len]; exact hi
  have hck : ((({ D.crash keep with steps := 2 } : Disk).push i s).flush).check i = 0 := by
    have : (({ D.crash keep with steps := 2 } : Disk).push i s).flush.cells.length = D.cells.length := by simp [Disk.flush, Disk.push, crash_len]
    simp only [Disk.check, this]
    rw [if_neg (by simp [Disk.flush, Disk.push, Disk.crash, Disk.new]), if_neg (by omega)]
  rw [Disk.read, hck, if_neg (by simp), if_neg (by simp [Disk.flush]), Int.toNat_natCast, flush_cell hl]
  simp [Disk.settled, Disk.push, lastSec]
end Qd
