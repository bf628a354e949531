/- What slots do, as plain functions over a disk. -/
import Derived.Test.YtcaalfpfkalalaaA4
set_option linter.unusedVariables false
set_option linter.unusedSimpArgs false
namespace Qd
def four (q : Int) : List Int := [q / 16777216 % 256, q / 65536 % 256, q / 256 % 256, q % 256]
def padTo (n : Nat) (l : List Int) : List Int := l.take n ++ List.replicate (n - l.length) 0
/-- The sector of a copy. -/
def copySec (q : Int) (bs : List Int) : Sec := four q ++ padTo 28 bs ++ four q ++ [(bs.length : Int) % 256] ++ padTo 27 (bs.drop 28)
def num (s : Sec) (at' : Nat) : Int := s.getD at' 0 * 16777216 + s.getD (at' + 1) 0 * 65536 + s.getD (at' + 2) 0 * 256 + s.getD (at' + 3) 0
def goodSec (s : Sec) : Bool := decide (num s 0 = num s 32) && decide (1 ≤ num s 0) && decide (s.getD 36 0 ≤ 55)
/-- The bytes of a good copy. -/
def secBytes (s : Sec) : List Int := (s.drop 4).take (min (s.getD 36 0).toNat 28) ++ (s.drop 37).take ((s.getD 36 0).toNat - 28)
/-- A copy: its sector, whether it is good, and an error of the disk. -/
structure Side where
  s : Sec
  good : Bool
  e : Int
def Disk.side (d : Disk) (i : Int) : Side :=
  let r := d.read i
  if r.2 = 0 then ⟨r.1, goodSec r.1, 0⟩ else if r.2 = 14 then ⟨r.1, false, 0⟩ else ⟨r.1, false, r.2⟩
/-- Both copies of a slot. -/
structure Both where
  a : Side
  b : Side
def Both.e (x : Both) : Int := if x.a.e ≠ 0 then x.a.e else x.b.e
/-- Is the second one the better one? -/
def Both.second (x : Both) : Bool := x.b.good && (!x.a.good || decide (num x.a.s 0 < num x.b.s 0))
def Both.best (x : Both) : Side := if x.second then x.b else x.a
def Both.other (x : Both) : Side := if x.second then x.a else x.b
def Disk.slot (d : Disk) (first i : Int) : Both := ⟨d.side (first + 2 * i), d.side (first + 2 * i + 1)⟩
/-- Overwrite a sector, and sync. -/
def Disk.wsync (d : Disk) (i : Int) (s : Sec) : Disk × Int := if (d.write i s).2 ≠ 0 then d.write i s else (d.write i s).1.sync
def Both.otherAt (x : Both) (first i : Int) : Int := if x.second then first + 2 * i else first + 2 * i + 1
def Disk.heal (d : Disk) (first i : Int) : Disk × Int :=
  let x := d.slot first i
  if x.best.good = false ∨ (x.other.good = true ∧ x.other.s = x.best.s) then (d, 0) else d.wsync (x.otherAt first i) x.best.s
def Both.next (x : Both) (bs : List Int) : Sec := copySec (((if x.best.good then num x.best.s 0 else 0) + 1) % 4294967296) bs
/-- Overwrite a slot. -/
def Disk.change (d : Disk) (first i : Int) (bs : List Int) : Disk × Int :=
  let x := d.slot first i
  if x.e ≠ 0 then (d, x.e)
  else
    let h := d.heal first i
    if h.2 ≠ 0 then h
    else
      let u := h.1.wsync (first + 2 * i + 1) (x.next bs)
      if u.2 ≠ 0 then u else u.1.wsync (first + 2 * i) (x.next bs)
def Disk.put (d : Disk) (first n i : Int) (bs : List Int) : Disk × Int := if i < 0 ∨ n ≤ i ∨ bs.length < 1 ∨ 55 < bs.length then (d, 1) else d.change first i bs
def Disk.kill (d : Disk) (first n i : Int) : Disk × Int := if i < 0 ∨ n ≤ i then (d, 1) else d.change first i []
def Disk.get (d : Disk) (first n i : Int) : List Int × Int :=
  if i < 0 ∨ n ≤ i then ([], 1)
  else
    let x := d.slot first i
    if x.e ≠ 0 then ([], x.e)
    else if x.best.good = false then ([], 14)
    else if x.best.s.getD 36 0 = 0 then ([], 8)
    else (secBytes x.best.s, 0)
def partOk (m : Nat) (first n : Int) : Bool := decide (1 ≤ n) && decide (0 ≤ first) && decide (first ≤ m) && decide (n ≤ ((m : Int) - first) / 2)
/-- Format, k sectors being left, from sector i on. -/
def Disk.fmt (d : Disk) : Nat → Int → Disk × Int
  | 0, _ => d.sync
  | k + 1, i => if (d.write i (copySec 1 [])).2 ≠ 0 then d.write i (copySec 1 []) else (d.write i (copySec 1 [])).1.fmt k (i + 1)
def Disk.format (d : Disk) (first n : Int) : Disk × Int := if partOk d.cells.length first n then d.fmt (2 * n).toNat first else (d, 1)
/-- Open: one slot. -/
def Disk.open1 (d : Disk) (first i : Int) : Disk × Int × Bool :=
  let x := d.slot first i
  if x.e ≠ 0 then (d, x.e, false)
  else if x.best.good then ((d.heal first i).1, (d.heal first i).2, false)
  else ((d.format (first + 2 * i) 1).1, (d.format (first + 2 * i) 1).2, true)
/-- Open: k slots being left, from slot i on; the lost ones so far. -/
def Disk.openFrom (d : Disk) (first : Int) : Nat → Int → List Int → Disk × Int × List Int
  | 0, _, lost => (d, 0, lost)
  | k + 1, i, lost => if (d.open1 first i).2.1 ≠ 0 then ((d.open1 first i).1, (d.open1 first i).2.1, [])
      else (d.open1 first i).1.openFrom first k (i + 1) (if (d.open1 first i).2.2 then lost ++ [i] else lost)
def Disk.openSlots (d : Disk) (first n : Int) : Disk × Int × List Int := if partOk d.cells.length first n then d.openFrom first n.toNat 0 [] else (d, 1, [])
end Qd
