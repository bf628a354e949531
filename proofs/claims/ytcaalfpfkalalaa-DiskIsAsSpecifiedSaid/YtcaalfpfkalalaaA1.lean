/- What a disk does, as plain functions over lists of numbers: no program in sight. -/
namespace Qd

abbrev Sec := List Int
def SecOk (s : Sec) : Prop := s.length = 64 ∧ ∀ x ∈ s, 0 ≤ x ∧ x < 256
def zeroSec : Sec := List.replicate 64 0
theorem zeroSec_ok : SecOk zeroSec := ⟨by simp [zeroSec], fun x hx => by
  have := List.eq_of_mem_replicate hx
  omega⟩

structure Cell where
  s : Sec
  bad : Bool
deriving DecidableEq

/-- A disk: its cells, the open writes of each sector, the steps, after how many it fails, whether it is down. -/
structure Disk where
  cells : List Cell
  opn : Nat → List Sec
  steps : Int
  after : Int
  dead : Bool

def zeroCell : Cell := ⟨zeroSec, false⟩
def rotCell : Cell := ⟨zeroSec, true⟩

/-- What every disk is. -/
structure Disk.Ok (d : Disk) : Prop where
  pos : 1 ≤ d.cells.length
  len : d.cells.length ≤ 65536
  sec : ∀ c ∈ d.cells, SecOk c.s
  bad : ∀ c ∈ d.cells, c.bad = true → c.s = zeroSec
  opnOk : ∀ k, ∀ s ∈ d.opn k, SecOk s
  out : ∀ k, d.cells.length ≤ k → d.opn k = []
  st0 : 0 ≤ d.steps
  opnLen : ∀ k, ((d.opn k).length : Int) ≤ d.steps
  af : -1 ≤ d.after
  afHi : d.after ≤ 9223372036854775807

def Disk.new (n : Nat) : Disk := ⟨List.replicate n zeroCell, fun _ => [], 0, -1, false⟩
def Disk.size (d : Disk) : Nat := d.cells.length
def Disk.cell (d : Disk) (i : Nat) : Cell := d.cells.getD i zeroCell
def Disk.check (d : Disk) (i : Int) : Int := if d.dead = true then 12 else if i < 0 ∨ (d.cells.length : Int) ≤ i then 1 else 0
def Disk.step (d : Disk) : Disk × Int :=
  if d.after = 0 then ({ d with dead := true }, 12)
  else ({ d with after := if 0 < d.after then d.after - 1 else d.after, steps := d.steps + 1 }, 0)
def lastSec (l : List Sec) : Sec := l.getLastD zeroSec
def Disk.read (d : Disk) (i : Int) : Sec × Int :=
  if d.check i ≠ 0 then (zeroSec, d.check i)
  else if d.opn i.toNat ≠ [] then (lastSec (d.opn i.toNat), 0)
  else if (d.cell i.toNat).bad = true then (zeroSec, 14)
  else ((d.cell i.toNat).s, 0)
def Disk.push (d : Disk) (i : Nat) (s : Sec) : Disk := { d with opn := fun k => if k = i then d.opn i ++ [s] else d.opn k }
def Disk.write (d : Disk) (i : Int) (s : Sec) : Disk × Int :=
  if d.check i ≠ 0 then (d, d.check i)
  else if d.after = 0 then ({ d with dead := true }, 12)
  else (d.step.1.push i.toNat s, 0)
/-- Sector k after all is synced. -/
def Disk.settled (d : Disk) (k : Nat) : Cell := if d.opn k ≠ [] then ⟨lastSec (d.opn k), false⟩ else d.cell k
def Disk.flush (d : Disk) : Disk := { d with cells := (List.range d.cells.length).map d.settled, opn := fun _ => [] }
def Disk.sync (d : Disk) : Disk × Int :=
  if d.dead = true then (d, 12)
  else if d.after = 0 then ({ d with dead := true }, 12)
  else (d.step.1.flush, 0)
/-- What is found of a sector with open writes. -/
def torn (before last : Sec) : Sec := last.take 32 ++ before.drop 32
def found (c : Cell) (l : List Sec) (x : Int) : Cell :=
  let n : Int := l.length
  let r := (x.tmod (n + 3) + n + 3).tmod (n + 3)
  if r = 0 then c
  else if r ≤ n then ⟨l.getD (r - 1).toNat zeroSec, false⟩
  else if r = n + 1 then rotCell
  else ⟨torn (if 1 < n then l.getD (n - 2).toNat zeroSec else c.s) (l.getD (n - 1).toNat zeroSec), false⟩
/-- The sectors with open writes, ascending. -/
def Disk.busy (d : Disk) : List Nat := (List.range d.cells.length).filter fun k => !(d.opn k).isEmpty
def keepAt (keep : List Int) (n : Nat) : Int := if keep = [] then 0 else keep.getD (n % keep.length) 0
def Disk.crashCell (d : Disk) (keep : List Int) (k : Nat) : Cell :=
  if d.opn k = [] then d.cell k else found (d.cell k) (d.opn k) (keepAt keep (d.busy.idxOf k))
def Disk.crash (d : Disk) (keep : List Int) : Disk :=
  { (Disk.new d.cells.length) with cells := (List.range d.cells.length).map (d.crashCell keep) }
def flipBit (s : Sec) (bit : Nat) : Sec := s.set (bit / 8) (((s.getD (bit / 8) 0).toNat ^^^ (1 <<< (bit % 8)) : Nat) : Int)
def Disk.flip (d : Disk) (i bit : Int) : Disk × Int :=
  if d.check i ≠ 0 then (d, d.check i)
  else if bit < 0 ∨ 512 ≤ bit then (d, 1)
  else if (d.cell i.toNat).bad = true then (d, 0)
  else ({ d with cells := d.cells.set i.toNat ⟨flipBit (d.cell i.toNat).s bit.toNat, false⟩ }, 0)
def Disk.rot (d : Disk) (i : Int) : Disk × Int :=
  if d.check i ≠ 0 then (d, d.check i) else ({ d with cells := d.cells.set i.toNat rotCell }, 0)
def Disk.arm (d : Disk) (n : Int) : Disk := { d with after := max n (-1) }
def Disk.openList (d : Disk) : List Int := (d.busy.map fun k => List.replicate (d.opn k).length (k : Int)).flatten
def filled (b : Int) : Sec := List.replicate 64 (b % 256)

theorem lastSec_ok {l : List Sec} (h : ∀ s ∈ l, SecOk s) : SecOk (lastSec l) := by
  unfold lastSec
  cases hl : l.getLast? with
  | none => simp [List.getLastD_eq_getLast?, hl, zeroSec_ok]
  | some x => simp [List.getLastD_eq_getLast?, hl]; exact h x (List.mem_of_getLast? hl)
theorem filled_ok (b : Int) : SecOk (filled b) := ⟨by simp [filled], fun x hx => by
  have := List.eq_of_mem_replicate hx
  omega⟩
theorem getD_ok {l : List Sec} (h : ∀ s ∈ l, SecOk s) (k : Nat) : SecOk (l.getD k zeroSec) := by
  rw [List.getD_eq_getElem?_getD]
  cases hk : l[k]? with
  | none => simp [zeroSec_ok]
  | some x => exact h x (List.mem_of_getElem? hk)

namespace Disk
variable {d : Disk}
theorem Ok.cell (h : d.Ok) (k : Nat) : SecOk (d.cell k).s := by
  unfold Disk.cell
  rw [List.getD_eq_getElem?_getD]
  cases hk : d.cells[k]? with
  | none => exact zeroSec_ok
  | some x => exact h.sec x (List.mem_of_getElem? hk)
theorem Ok.cellBad (h : d.Ok) (k : Nat) (hb : (d.cell k).bad = true) : d.cell k = rotCell := by
  unfold Disk.cell at *
  rw [List.getD_eq_getElem?_getD] at *
  cases hk : d.cells[k]? with
  | none => simp [hk, zeroCell] at hb
  | some x =>
    simp [hk] at hb ⊢
    have := h.bad x (List.mem_of_getElem? hk) hb
    cases x
    simp_all [rotCell]
theorem ok_new {n : Nat} (h1 : 1 ≤ n) (h2 : n ≤ 65536) : (Disk.new n).Ok where
  pos := by simpa [Disk.new] using h1
  len := by simpa [Disk.new] using h2
  sec := fun c hc => by
    have := List.eq_of_mem_replicate (by simpa [Disk.new] using hc : c ∈ List.replicate n zeroCell)
    subst this; exact zeroSec_ok
  bad := fun c hc => by
    have := List.eq_of_mem_replicate (by simpa [Disk.new] using hc : c ∈ List.replicate n zeroCell)
    subst this; simp [zeroCell]
  opnOk := by simp [Disk.new]
  out := by simp [Disk.new]
  st0 := by simp [Disk.new]
  opnLen := by simp [Disk.new]
  af := by simp [Disk.new]
  afHi := by simp [Disk.new]
theorem Ok.dead (h : d.Ok) : ({ d with dead := true } : Disk).Ok := ⟨h.pos, h.len, h.sec, h.bad, h.opnOk, h.out, h.st0, h.opnLen, h.af, h.afHi⟩
theorem Ok.step (h : d.Ok) : d.step.1.Ok := by
  unfold Disk.step
  split
  · exact h.dead
  · have := h.af; have := h.st0; have := h.afHi
    refine ⟨h.pos, h.len, h.sec, h.bad, h.opnOk, h.out, by simp; omega, fun k => by have := h.opnLen k; simp; omega, ?_, ?_⟩
    · simp only
      split <;> omega
    · simp only
      split <;> omega
theorem step_steps (ha : d.after ≠ 0) : d.step.1.steps = d.steps + 1 := by simp [Disk.step, ha]
theorem step_opn : d.step.1.opn = d.opn := by unfold Disk.step; split <;> rfl
theorem step_cells : d.step.1.cells = d.cells := by unfold Disk.step; split <;> rfl
theorem Ok.write (h : d.Ok) (i : Int) {s : Sec} (hs : SecOk s) : (d.write i s).1.Ok := by
  unfold Disk.write
  split
  · exact h
  · rename_i hc
    split
    · exact h.dead
    · rename_i ha
      have hi : 0 ≤ i ∧ i < d.cells.length := by
        simp only [Disk.check] at hc
        split at hc
        · simp at hc
        · split at hc
          · simp at hc
          · omega
      have hk := h.step
      refine ⟨hk.pos, hk.len, hk.sec, hk.bad, ?_, ?_, hk.st0, ?_, hk.af, hk.afHi⟩
      · intro k x hx
        simp only [Disk.push] at hx
        split at hx
        · rcases List.mem_append.1 hx with hx | hx
          · exact hk.opnOk _ x hx
          · simp at hx; subst hx; exact hs
        · exact hk.opnOk _ x hx
      · intro k hk'
        simp only [Disk.push]
        rw [if_neg]
        · exact hk.out k hk'
        · simp only [Disk.push, step_cells] at hk'; omega
      · intro k
        have h1 := h.opnLen k
        have h2 := h.opnLen i.toNat
        simp only [Disk.push, step_steps ha, step_opn]
        split
        · simp; omega
        · omega
theorem settled_ok (h : d.Ok) (k : Nat) : SecOk (d.settled k).s := by
  unfold Disk.settled
  split
  · exact lastSec_ok (h.opnOk k)
  · exact h.cell k
theorem Ok.flush (h : d.Ok) : d.flush.Ok where
  pos := by simpa [Disk.flush] using h.pos
  len := by simpa [Disk.flush] using h.len
  sec := fun c hc => by
    simp only [Disk.flush, List.mem_map] at hc
    obtain ⟨k, _, rfl⟩ := hc
    exact settled_ok h k
  bad := fun c hc hb => by
    simp only [Disk.flush, List.mem_map] at hc
    obtain ⟨k, _, rfl⟩ := hc
    unfold Disk.settled at *
    split at hb
    · simp at hb
    · rename_i hn
      rw [if_neg hn, h.cellBad k hb]; rfl
  opnOk := by simp [Disk.flush]
  out := by simp [Disk.flush]
  st0 := h.st0
  opnLen := fun k => by have := h.st0; simp [Disk.flush]; exact this
  af := h.af
  afHi := h.afHi
theorem Ok.sync (h : d.Ok) : d.sync.1.Ok := by
  unfold Disk.sync
  split
  · exact h
  · split
    · exact h.dead
    · exact h.step.flush
theorem torn_ok {a b : Sec} (ha : SecOk a) (hb : SecOk b) : SecOk (torn a b) := by
  refine ⟨?_, fun x hx => ?_⟩
  · have := ha.1; have := hb.1
    simp [torn]; omega
  · rcases List.mem_append.1 hx with hx | hx
    · exact hb.2 x (List.mem_of_mem_take hx)
    · exact ha.2 x (List.mem_of_mem_drop hx)
theorem found_ok {c : Cell} {l : List Sec} (x : Int) (hc : SecOk c.s) (hl : ∀ s ∈ l, SecOk s) : SecOk (found c l x).s := by
  simp only [found]
  split
  · exact hc
  · split
    · exact getD_ok hl _
    · split
      · exact zeroSec_ok
      · refine torn_ok ?_ (getD_ok hl _)
        split
        · exact getD_ok hl _
        · exact hc
theorem found_bad {c : Cell} {l : List Sec} (x : Int) (hc : c.bad = true → c.s = zeroSec) : (found c l x).bad = true → (found c l x).s = zeroSec := by
  simp only [found]
  split
  · exact hc
  · split
    · simp
    · split
      · simp [rotCell]
      · simp
theorem Ok.crash (h : d.Ok) (keep : List Int) : (d.crash keep).Ok where
  pos := by simpa [Disk.crash] using h.pos
  len := by simpa [Disk.crash] using h.len
  sec := fun c hc => by
    simp only [Disk.crash, List.mem_map] at hc
    obtain ⟨k, _, rfl⟩ := hc
    unfold Disk.crashCell
    split
    · exact h.cell k
    · exact found_ok _ (h.cell k) (h.opnOk k)
  bad := fun c hc => by
    simp only [Disk.crash, List.mem_map] at hc
    obtain ⟨k, _, rfl⟩ := hc
    unfold Disk.crashCell
    split
    · intro hb; rw [h.cellBad k hb]; rfl
    · exact found_bad _ (fun hb => by rw [h.cellBad k hb]; rfl)
  opnOk := by simp [Disk.crash, Disk.new]
  out := by simp [Disk.crash, Disk.new]
  st0 := by simp [Disk.crash, Disk.new]
  opnLen := by simp [Disk.crash, Disk.new]
  af := by simp [Disk.crash, Disk.new]
  afHi := by simp [Disk.crash, Disk.new]
theorem Ok.arm (h : d.Ok) (n : Int) (hn : n ≤ 9223372036854775807) : (d.arm n).Ok := ⟨h.pos, h.len, h.sec, h.bad, h.opnOk, h.out, h.st0, h.opnLen, by simp [Disk.arm]; omega, by simp [Disk.arm]; omega⟩
theorem rowSet_ok (h : d.Ok) (i : Nat) {c : Cell} (hc : SecOk c.s) (hb : c.bad = true → c.s = zeroSec) : ({ d with cells := d.cells.set i c } : Disk).Ok :=
  ⟨by simpa using h.pos, by simpa using h.len, fun x hx => by
    rcases List.mem_or_eq_of_mem_set hx with hx | rfl
    · exact h.sec x hx
    · exact hc, fun x hx => by
    rcases List.mem_or_eq_of_mem_set hx with hx | rfl
    · exact h.bad x hx
    · exact hb, h.opnOk, fun k hk => h.out k (by simpa using hk), h.st0, h.opnLen, h.af, h.afHi⟩
theorem Ok.rot (h : d.Ok) (i : Int) : (d.rot i).1.Ok := by
  unfold Disk.rot
  split
  · exact h
  · exact rowSet_ok h _ zeroSec_ok (fun _ => rfl)
theorem flipBit_ok {s : Sec} (h : SecOk s) (bit : Nat) : SecOk (flipBit s bit) := by
  refine ⟨by simp [flipBit, h.1], fun x hx => ?_⟩
  rcases List.mem_or_eq_of_mem_set hx with hx | rfl
  · exact h.2 x hx
  · have h1 : (s.getD (bit / 8) 0).toNat < 2 ^ 8 := by
      rw [List.getD_eq_getElem?_getD]
      cases hk : s[bit / 8]? with
      | none => simp
      | some y => have := h.2 y (List.mem_of_getElem? hk); simp; omega
    have h2 : 1 <<< (bit % 8) < 2 ^ 8 := by
      rw [Nat.one_shiftLeft]
      exact Nat.pow_lt_pow_right (by decide) (by omega)
    have := Nat.xor_lt_two_pow h1 h2
    omega
theorem Ok.flip (h : d.Ok) (i bit : Int) : (d.flip i bit).1.Ok := by
  unfold Disk.flip
  split
  · exact h
  · split
    · exact h
    · split
      · exact h
      · exact rowSet_ok h _ (flipBit_ok (h.cell _) _) (by simp)
/-- A disk of which some sectors are synced. -/
def part (d : Disk) (done : Nat → Bool) : Disk :=
  { d with cells := (List.range d.cells.length).map (fun k => if done k = true then d.settled k else d.cell k), opn := fun k => if done k = true then [] else d.opn k }
def drop (d : Disk) (k : Nat) : Disk := { d with opn := fun x => if x = k then [] else d.opn x }
theorem Ok.drop (h : d.Ok) (k : Nat) : (d.drop k).Ok :=
  ⟨h.pos, h.len, h.sec, h.bad, fun x s hs => by
    simp only [Disk.drop] at hs
    split at hs
    · simp at hs
    · exact h.opnOk x s hs, fun x hx => by
    simp only [Disk.drop]
    split
    · rfl
    · exact h.out x hx, h.st0, fun x => by
    have := h.opnLen x
    have := h.st0
    simp only [Disk.drop]
    split
    · simpa using h.st0
    · exact h.opnLen x, h.af, h.afHi⟩
theorem cell_of_lt {k : Nat} (hk : k < d.cells.length) : d.cells[k]? = some (d.cell k) := by
  rw [List.getElem?_eq_getElem hk, Disk.cell, List.getD_eq_getElem?_getD, List.getElem?_eq_getElem hk]; rfl
theorem cells_eq : (List.range d.cells.length).map d.cell = d.cells := by
  apply List.ext_getElem?
  intro k
  by_cases hk : k < d.cells.length
  · rw [List.getElem?_map, List.getElem?_range hk, Option.map_some, cell_of_lt hk]
  · rw [List.getElem?_eq_none (by simp; omega), List.getElem?_eq_none (by omega)]
theorem part_none : d.part (fun _ => false) = d := by
  unfold part
  simp [cells_eq]
theorem part_flush {done : Nat → Bool} (h : ∀ k, done k = false → d.opn k = []) : d.part done = d.flush := by
  have h1 : (fun k => if done k = true then d.settled k else d.cell k) = d.settled := by
    funext k
    split
    · rfl
    · rename_i hk
      rw [Disk.settled, if_neg (by simpa using h k (by simpa using hk))]
  have h2 : (fun k => if done k = true then [] else d.opn k) = fun _ => [] := by
    funext k
    split
    · rfl
    · rename_i hk; exact h k (by simpa using hk)
  unfold part flush
  rw [h1, h2]
theorem part_step {done : Nat → Bool} {k : Nat} (hk : k < d.cells.length) :
    ({ d.part done with cells := (d.part done).cells.set k (d.settled k) } : Disk).drop k = d.part (fun x => done x || x == k) := by
  unfold part drop
  simp only [Disk.mk.injEq, and_true]
  constructor
  · apply List.ext_getElem?
    intro j
    by_cases hj : j < d.cells.length
    · by_cases hjk : j = k
      · subst hjk
        rw [List.getElem?_set_self (by simpa using hj), List.getElem?_map, List.getElem?_range hj]; simp
      · rw [List.getElem?_set_ne (Ne.symm hjk), List.getElem?_map, List.getElem?_map, List.getElem?_range hj]; simp [hjk]
    · rw [List.getElem?_eq_none (by simp; omega), List.getElem?_eq_none (by simp; omega)]
  · funext x
    by_cases hx : x = k
    · simp [hx]
    · simp [hx]
end Disk
end Qd
