/- Slots on a disk that never fails: plain laws. -/
import Derived.Test.YtcaalfpfkalalaaS1
set_option linter.unusedVariables false
set_option linter.unusedSimpArgs false
namespace Qd
theorem four_len (q : Int) : (four q).length = 4 := rfl
theorem padTo_len (n : Nat) (l : List Int) : (padTo n l).length = n := by simp [padTo]; omega
theorem copySec_len (q : Int) (bs : List Int) : (copySec q bs).length = 64 := by simp [copySec, four_len, padTo_len]
theorem four_ok (q : Int) : ∀ x ∈ four q, 0 ≤ x ∧ x < 256 := fun x hx => by
  simp only [four, List.mem_cons, List.not_mem_nil, or_false] at hx
  rcases hx with rfl | rfl | rfl | rfl <;> omega
theorem padTo_ok {n : Nat} {l : List Int} (h : ∀ x ∈ l, 0 ≤ x ∧ x < 256) : ∀ x ∈ padTo n l, 0 ≤ x ∧ x < 256 := fun x hx => by
  rcases List.mem_append.1 hx with hx | hx
  · exact h x (List.mem_of_mem_take hx)
  · rw [List.eq_of_mem_replicate hx]; omega
theorem copySec_ok (q : Int) {bs : List Int} (h : ∀ x ∈ bs, 0 ≤ x ∧ x < 256) : SecOk (copySec q bs) := by
  refine ⟨copySec_len q bs, fun x hx => ?_⟩
  simp only [copySec, List.mem_append, List.mem_singleton] at hx
  rcases hx with (((hx | hx) | hx) | hx) | hx
  · exact four_ok q x hx
  · exact padTo_ok h x hx
  · exact four_ok q x hx
  · omega
  · exact padTo_ok (fun y hy => h y (List.mem_of_mem_drop hy)) x hx
/-- A disk of N sectors that is not down, and not armed; m: at most so many steps. -/
structure Live (D : Disk) (N m : Nat) : Prop where
  ok : D.Ok
  len : D.cells.length = N
  dead : D.dead = false
  after : D.after = -1
  steps : D.steps ≤ m
def Disk.view (D : Disk) (k : Nat) : Sec := if D.opn k ≠ [] then lastSec (D.opn k) else (D.cell k).s
def Disk.rotten (D : Disk) (k : Nat) : Bool := (D.opn k).isEmpty && (D.cell k).bad
variable {D : Disk} {N m : Nat}
theorem Live.start {N : Nat} (h1 : 1 ≤ N) (h2 : N ≤ 65536) : Live (Disk.new N) N 0 := ⟨Disk.ok_new h1 h2, by simp [Disk.new], rfl, rfl, by simp [Disk.new]⟩
theorem Live.more {m' : Nat} (h : Live D N m) (hm : m ≤ m') : Live D N m' := ⟨h.ok, h.len, h.dead, h.after, by have := h.steps; omega⟩
theorem Live.check (h : Live D N m) {k : Nat} (hk : k < N) : D.check k = 0 := by
  unfold Disk.check
  rw [if_neg (by rw [h.dead]; simp), if_neg (by rw [h.len]; omega)]
theorem Live.step (h : Live D N m) : D.step.1 = { D with steps := D.steps + 1 } := by
  have ha := h.after
  unfold Disk.step
  rw [if_neg (by omega)]
  simp only [ha]
  cases D
  simp_all
theorem Live.write_eq (h : Live D N m) {k : Nat} (hk : k < N) (s : Sec) : D.write k s = (({ D with steps := D.steps + 1 } : Disk).push k s, 0) := by
  have ha := h.after
  rw [Disk.write, h.check hk, if_neg (by simp), if_neg (by omega), h.step]; simp
theorem Live.sync_eq (h : Live D N m) : D.sync = (({ D with steps := D.steps + 1 } : Disk).flush, 0) := by
  have ha := h.after
  rw [Disk.sync, if_neg (by rw [h.dead]; simp), if_neg (by omega), h.step]
theorem Live.write (h : Live D N m) {k : Nat} (hk : k < N) {s : Sec} (hs : SecOk s) : (D.write k s).2 = 0 ∧ Live (D.write k s).1 N (m + 1) ∧
    (∀ x, (D.write k s).1.view x = if x = k then s else D.view x) ∧ ∀ x, (D.write k s).1.rotten x = if x = k then false else D.rotten x := by
  have hok := h.ok.write k hs
  rw [h.write_eq hk] at hok ⊢
  refine ⟨rfl, ⟨hok, h.len, h.dead, h.after, by have := h.steps; simp [Disk.push]; omega⟩, fun x => ?_, fun x => ?_⟩
  · by_cases hx : x = k
    · subst hx; simp [Disk.view, Disk.push, lastSec]
    · simp [Disk.view, Disk.push, hx, Disk.cell]
  · by_cases hx : x = k
    · subst hx; simp [Disk.rotten, Disk.push]
    · simp [Disk.rotten, Disk.push, hx, Disk.cell]
theorem flush_cell' (D : Disk) (k : Nat) (hk : k < D.cells.length) : D.flush.cell k = D.settled k := by
  simp [Disk.flush, Disk.cell, List.getD_eq_getElem?_getD, hk]
theorem Live.sync (h : Live D N m) : D.sync.2 = 0 ∧ Live D.sync.1 N (m + 1) ∧ (∀ x, x < N → D.sync.1.view x = D.view x) ∧ ∀ x, x < N → D.sync.1.rotten x = D.rotten x := by
  have hok := h.ok.sync
  rw [h.sync_eq] at hok ⊢
  have hc : ∀ x, x < N → (({ D with steps := D.steps + 1 } : Disk).flush).cell x = D.settled x := fun x hx => flush_cell' _ _ (by rw [show ({ D with steps := D.steps + 1 } : Disk).cells = D.cells from rfl, h.len]; exact hx)
  refine ⟨rfl, ⟨hok, by simp [Disk.flush, h.len], h.dead, h.after, by have := h.steps; simp [Disk.flush]; omega⟩, fun x hx => ?_, fun x hx => ?_⟩
  · show (if ([] : List Sec) ≠ [] then _ else ((({ D with steps := D.steps + 1 } : Disk).flush).cell x).s) = D.view x
    rw [if_neg (by simp), hc x hx]
    unfold Disk.settled Disk.view
    split <;> rfl
  · show (([] : List Sec).isEmpty && ((({ D with steps := D.steps + 1 } : Disk).flush).cell x).bad) = D.rotten x
    rw [hc x hx]
    unfold Disk.settled Disk.rotten
    by_cases ho : D.opn x = []
    · simp [ho]
    · rw [if_pos ho]; cases hh : D.opn x
      · exact absurd hh ho
      · simp
theorem Live.read (h : Live D N m) {k : Nat} (hk : k < N) : D.read k = if D.rotten k = true then (zeroSec, 14) else (D.view k, 0) := by
  rw [Disk.read, h.check hk, if_neg (by simp), Int.toNat_natCast]
  unfold Disk.rotten Disk.view
  by_cases ho : D.opn k = []
  · simp [ho]
  · cases hh : D.opn k
    · exact absurd hh ho
    · simp
theorem Live.wsync (h : Live D N m) {k : Nat} (hk : k < N) {s : Sec} (hs : SecOk s) : (D.wsync k s).2 = 0 ∧ Live (D.wsync k s).1 N (m + 2) ∧
    (∀ x, x < N → (D.wsync k s).1.view x = if x = k then s else D.view x) ∧ ∀ x, x < N → (D.wsync k s).1.rotten x = if x = k then false else D.rotten x := by
  obtain ⟨h1, h2, h3, h4⟩ := h.write hk hs
  obtain ⟨g1, g2, g3, g4⟩ := h2.sync
  have e : D.wsync k s = (D.write k s).1.sync := by rw [Disk.wsync, if_neg (by rw [h1]; simp)]
  rw [e]
  exact ⟨g1, g2, fun x hx => (g3 x hx).trans (h3 x), fun x hx => (g4 x hx).trans (h4 x)⟩
theorem Live.viewOk (h : Live D N m) (k : Nat) : SecOk (D.view k) := by
  unfold Disk.view
  split
  · exact lastSec_ok (h.ok.opnOk k)
  · exact h.ok.cell k
theorem Live.side (h : Live D N m) {k : Nat} (hk : k < N) : D.side k = if D.rotten k = true then ⟨zeroSec, false, 0⟩ else ⟨D.view k, goodSec (D.view k), 0⟩ := by
  unfold Disk.side
  rw [h.read hk]
  split <;> simp_all
theorem Live.sideOk (h : Live D N m) {k : Nat} (hk : k < N) : SecOk (D.side k).s ∧ (D.side k).e = 0 := by
  rw [h.side hk]
  split
  · exact ⟨zeroSec_ok, rfl⟩
  · exact ⟨h.viewOk k, rfl⟩
theorem slot_at (D : Disk) (first i : Int) (j : Nat) (hj : first + 2 * i = j) : D.slot first i = ⟨D.side j, D.side ((j + 1 : Nat) : Int)⟩ := by
  unfold Disk.slot
  rw [hj]
  rfl
theorem Live.slot (h : Live D N m) {first i : Int} {j : Nat} (hj : first + 2 * i = j) (hN : j + 1 < N) : (D.slot first i).e = 0 ∧ SecOk (D.slot first i).best.s ∧ SecOk (D.slot first i).other.s := by
  obtain ⟨a1, a2⟩ := h.sideOk (show j < N by omega)
  obtain ⟨b1, b2⟩ := h.sideOk hN
  rw [slot_at D first i j hj]
  refine ⟨by show (if (D.side j).e ≠ 0 then (D.side j).e else (D.side ((j + 1 : Nat) : Int)).e) = 0; rw [a2, b2]; rfl, ?_, ?_⟩
  · unfold Both.best; split
    · exact b1
    · exact a1
  · unfold Both.other; split
    · exact a1
    · exact b1
/-- What a call of a slot leaves on a disk that does not fail. -/
theorem Live.heal (h : Live D N m) {first i : Int} {j : Nat} (hj : first + 2 * i = j) (hN : j + 1 < N) : (D.heal first i).2 = 0 ∧ Live (D.heal first i).1 N (m + 2) ∧
    (∀ x, x < N → x ≠ j → x ≠ j + 1 → (D.heal first i).1.view x = D.view x) ∧ ∀ x, x < N → D.rotten x = false → (D.heal first i).1.rotten x = false := by
  obtain ⟨s1, s2, s3⟩ := h.slot hj hN
  unfold Disk.heal
  simp only []
  split
  · exact ⟨rfl, h.more (by omega), fun x _ _ _ => rfl, fun x _ hx => hx⟩
  · obtain ⟨k, hk, hkN, hkj⟩ : ∃ k : Nat, (D.slot first i).otherAt first i = (k : Int) ∧ k < N ∧ (k = j ∨ k = j + 1) := by
      unfold Both.otherAt
      split
      · exact ⟨j, hj, by omega, Or.inl rfl⟩
      · exact ⟨j + 1, by omega, hN, Or.inr rfl⟩
    rw [hk]
    obtain ⟨g1, g2, g3, g4⟩ := h.wsync hkN s2
    refine ⟨g1, g2, fun x hx h1 h2 => ?_, fun x hx hr => ?_⟩
    · rw [g3 x hx, if_neg (by omega)]
    · rw [g4 x hx, hr]; split <;> rfl
theorem next_ok {x : Both} {bs : List Int} (h : ∀ y ∈ bs, 0 ≤ y ∧ y < 256) : SecOk (x.next bs) := copySec_ok _ h
theorem Live.change (h : Live D N m) {first i : Int} {j : Nat} (hj : first + 2 * i = j) (hN : j + 1 < N) {bs : List Int} (hb : ∀ y ∈ bs, 0 ≤ y ∧ y < 256) : (D.change first i bs).2 = 0 ∧ Live (D.change first i bs).1 N (m + 6) ∧
    (∀ x, x < N → x ≠ j → x ≠ j + 1 → (D.change first i bs).1.view x = D.view x) ∧ (∀ x, x < N → D.rotten x = false → (D.change first i bs).1.rotten x = false) ∧
    ∀ x, (x = j ∨ x = j + 1) → (D.change first i bs).1.view x = (D.slot first i).next bs ∧ (D.change first i bs).1.rotten x = false := by
  obtain ⟨s1, s2, s3⟩ := h.slot hj hN
  obtain ⟨g1, g2, g3, g4⟩ := h.heal hj hN
  obtain ⟨a1, a2, a3, a4⟩ := g2.wsync hN (next_ok (x := D.slot first i) hb)
  obtain ⟨b1, b2, b3, b4⟩ := a2.wsync (show j < N by omega) (next_ok (x := D.slot first i) hb)
  have e1 : first + 2 * i + 1 = ((j + 1 : Nat) : Int) := by omega
  have e : D.change first i bs = ((D.heal first i).1.wsync ((j + 1 : Nat) : Int) ((D.slot first i).next bs)).1.wsync (j : Int) ((D.slot first i).next bs) := by
    unfold Disk.change
    simp only []
    rw [if_neg (by rw [s1]; simp), if_neg (by rw [g1]; simp), e1, hj, if_neg (by rw [a1]; simp)]
  rw [e]
  refine ⟨b1, b2, fun x hx h1 h2 => ?_, fun x hx hr => ?_, fun x hx => ?_⟩
  · rw [b3 x hx, if_neg h1, a3 x hx, if_neg h2, g3 x hx h1 h2]
  · rw [b4 x hx, a4 x hx, g4 x hx hr]; split
    · rfl
    · split <;> rfl
  · rw [b3 x (by omega), b4 x (by omega), a3 x (by omega), a4 x (by omega)]
    rcases hx with rfl | rfl
    · simp
    · simp
theorem partOk_iff {N : Nat} {first n : Int} : partOk N first n = true ↔ 1 ≤ n ∧ 0 ≤ first ∧ first + 2 * n ≤ N := by
  simp only [partOk, Bool.and_eq_true, decide_eq_true_eq]
  omega
theorem Live.fmt : ∀ (k : Nat) {D : Disk} {m : Nat} (h : Live D N m) (j : Nat), j + k ≤ N → (D.fmt k j).2 = 0 ∧ Live (D.fmt k j).1 N (m + k + 1) ∧
    (∀ x, x < N → (D.fmt k j).1.view x = if j ≤ x ∧ x < j + k then copySec 1 [] else D.view x) ∧ ∀ x, x < N → (D.fmt k j).1.rotten x = if j ≤ x ∧ x < j + k then false else D.rotten x
  | 0, D, m, h, j, hj => by
    obtain ⟨g1, g2, g3, g4⟩ := h.sync
    refine ⟨g1, g2, fun x hx => ?_, fun x hx => ?_⟩
    · rw [if_neg (by omega)]; exact g3 x hx
    · rw [if_neg (by omega)]; exact g4 x hx
  | k + 1, D, m, h, j, hj => by
    have hs : SecOk (copySec 1 []) := copySec_ok 1 (by simp)
    obtain ⟨g1, g2, g3, g4⟩ := h.write (show j < N by omega) hs
    obtain ⟨a1, a2, a3, a4⟩ := Live.fmt k g2 (j + 1) (by omega)
    have e : D.fmt (k + 1) j = (D.write j (copySec 1 [])).1.fmt k ((j + 1 : Nat) : Int) := by
      rw [Disk.fmt, if_neg (by rw [g1]; simp)]; rfl
    rw [e]
    refine ⟨a1, a2.more (by omega), fun x hx => ?_, fun x hx => ?_⟩
    · rw [a3 x hx, g3 x]
      by_cases h1 : x = j
      · rw [if_neg (by omega), if_pos h1, if_pos (by omega)]
      · by_cases h2 : j + 1 ≤ x ∧ x < j + 1 + k
        · rw [if_pos h2, if_pos (by omega)]
        · rw [if_neg h2, if_neg h1, if_neg (by omega)]
    · rw [a4 x hx, g4 x]
      by_cases h1 : x = j
      · rw [if_neg (by omega), if_pos h1, if_pos (by omega)]
      · by_cases h2 : j + 1 ≤ x ∧ x < j + 1 + k
        · rw [if_pos h2, if_pos (by omega)]
        · rw [if_neg h2, if_neg h1, if_neg (by omega)]
end Qd
