/- quietuslaw21.sanity. -/
import Derived.Test.YtcaalfpfkalalaaO2
set_option linter.unusedVariables false
set_option linter.unusedSimpArgs false
set_option maxRecDepth 10000
set_option maxHeartbeats 4000000
namespace Go.Proofs.Ytcaalfpfkalalaa
open Go.RowKit Qd
open Go.Proofs.YtcaalfpfkalalaaW.PrintLast
def sa : Sec := filled 1
def sb : Sec := filled 2
def sc : Sec := sb.set 1 0
def sd0 : Disk := Disk.new 4
def sd1 : Disk := (sd0.write 2 sa).1
def sd2 : Disk := (sd1.write 2 sb).1
def sd3 : Disk := sd2.sync.1
def sd4 : Disk := (sd3.flip 2 9).1
def sd5 : Disk := (sd4.rot 2).1
def sd6 : Disk := (sd5.write 2 sa).1
def sd7 : Disk := sd6.arm 0
def sd8 : Disk := (sd7.write 0 sa).1
def swant (j : Nat) : Sec := if j = 1 then sa else if j = 2 then sb else if j = 4 then torn sa sb else zeroSec
def st : Sec := torn sa sb
theorem st_eq : (secVals st).toArray = ((secVals sb).toArray.toList.take 32 ++ (secVals sa).take 32 ++ (secVals sb).toArray.toList.drop (32 + ((secVals sa).take 32).length)).toArray := by kernel_rfl
theorem sc_eq : (secVals sc).toArray = ((secVals sb).toArray.toList.take 1 ++ [Value.int .u8 0] ++ (secVals sb).toArray.toList.drop (1 + [Value.int .u8 0].length)).toArray := by kernel_rfl
theorem sf0 : Disk.new 4 = sd0 := rfl
theorem sa_eq : filled 1 = sa := rfl
theorem sb_eq : filled 2 = sb := rfl
theorem sf1 : sd0.write 2 sa = (sd1, 0) := rfl
theorem sf2 : sd1.read 2 = (sa, 0) := rfl
theorem sf3 : sd1.openList = [2] := rfl
theorem sf4 : sd1.write 2 sb = (sd2, 0) := rfl
theorem sf5 : sd2.sync = (sd3, 0) := rfl
theorem sf6 : sd3.steps = 3 := rfl
theorem sf7 : sd3.flip 2 9 = (sd4, 0) := rfl
theorem sf8 : sd4.read 2 = (sc, 0) := by kernel_rfl
theorem sf9 : sd4.rot 2 = (sd5, 0) := rfl
theorem sf10 : sd5.read 2 = (zeroSec, 14) := by kernel_rfl
theorem sf11 : sd5.write 2 sa = (sd6, 0) := by kernel_rfl
theorem sf12 : sd6.read 2 = (sa, 0) := by kernel_rfl
theorem sf13 : sd6.arm 0 = sd7 := rfl
theorem sf14 : sd7.write 0 sa = (sd8, 12) := by kernel_rfl
theorem sf15 : sd8.dead = true := by kernel_rfl
theorem sf16 : sd8.read 0 = (zeroSec, 12) := by kernel_rfl
theorem sfj (j : Nat) (hj : j < 5) : (sd2.crash [(j : Int)]).read 2 = (swant j, if j = 3 then 14 else 0) := by
  rcases j with _ | _ | _ | _ | _ | j
  · kernel_rfl
  · kernel_rfl
  · kernel_rfl
  · kernel_rfl
  · kernel_rfl
  · omega
theorem sfst : sd0.steps < 1099511627775 ∧ sd1.steps < 1099511627775 ∧ sd2.steps < 1099511627775 ∧ sd5.steps < 1099511627775 ∧ sd7.steps < 1099511627775 := by
  refine ⟨?_, ?_, ?_, ?_, ?_⟩ <;> decide
theorem sfst2 : sd1.steps ≤ 1000000 ∧ sd2.steps ≤ 1000000 := by refine ⟨?_, ?_⟩ <;> decide
theorem sa_ok : SecOk sa := filled_ok 1
theorem sa_ok' : SecOk sa := filled_ok 1
theorem sb_ok' : SecOk sb := filled_ok 2
theorem st_ok : SecOk st := Disk.torn_ok sa_ok' sb_ok'
theorem sb_ok : SecOk sb := filled_ok 2
def swl : List Sec := [zeroSec, sa, sb, zeroSec, st]
theorem swl_read (j : Nat) (hj : j < 5) : (sd2.crash [(j : Int)]).read 2 = (swl.getD j zeroSec, if j = 3 then 14 else 0) := by
  rw [sfj j hj]
  rcases j with _ | _ | _ | _ | _ | j
  · kernel_rfl
  · kernel_rfl
  · kernel_rfl
  · kernel_rfl
  · kernel_rfl
  · omega
theorem swl_len (j : Nat) : (sd2.crash [(j : Int)]).cells.length = 4 := by
  simp only [Disk.crash, List.length_map, List.length_range]; kernel_rfl
theorem swl_open (d : Disk) (keep : List Int) : (d.crash keep).openList = [] := by
  have : (d.crash keep).busy = [] := by simp [Disk.busy, Disk.crash, Disk.new]
  simp [Disk.openList, this]
theorem swl_steps (d : Disk) (keep : List Int) : (d.crash keep).steps ≤ 1000000 := by simp [Disk.crash, Disk.new]
theorem sc_ok : SecOk sc := by
  refine ⟨by kernel_rfl, ?_⟩
  intro x hx
  rcases List.mem_or_eq_of_mem_set hx with h | h
  · exact sb_ok.2 x h
  · omega
theorem want_ok : ∀ s ∈ [zeroSec, sa, sb, zeroSec, st], SecOk s := fun s hs => by
  simp only [List.mem_cons, List.not_mem_nil, or_false] at hs
  rcases hs with rfl | rfl | rfl | rfl | rfl
  · exact zeroSec_ok
  · exact sa_ok
  · exact sb_ok
  · exact zeroSec_ok
  · exact st_ok
end Go.Proofs.Ytcaalfpfkalalaa
