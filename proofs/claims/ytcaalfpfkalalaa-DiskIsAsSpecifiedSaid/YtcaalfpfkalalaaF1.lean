/- Closed facts on the types of the program. -/
import Derived.Test.YtcaalfpfkalalaaProg
import Derived.WalkKit
import Derived.KernelRfl
namespace Go.Proofs.Ytcaalfpfkalalaa
theorem uSector : Try.prog.underlying 29 = some (.array 64 5) := by kernel_rfl
theorem sSector : (Try.prog.info? 29).map (·.size) = some 64 := by kernel_rfl
theorem iSector : (Try.prog.info? 29).map (fun i => (i.zero, i.size, i.bytes)) = some (some (.agg (Array.replicate 64 (.int .u8 0))), 64, 64) := by kernel_rfl
theorem uSecs : Try.prog.underlying 87 = some (.slice 29) := by kernel_rfl
theorem uU8 : Try.prog.underlying 5 = some (.int .u8) := by kernel_rfl
theorem uInt : Try.prog.underlying 3 = some (.int .i64) := by kernel_rfl
theorem uCells : Try.prog.underlying 82 = some (.slice 100) := by kernel_rfl
theorem iCell : (Try.prog.info? 100).map (fun i => (i.zero, i.size, i.bytes)) = some (some (.agg ((Array.replicate 64 (.int .u8 0)).push (.bool false))), 65, 65) := by kernel_rfl
theorem sCell : (Try.prog.info? 100).map (·.size) = some 65 := by kernel_rfl
theorem uOpen : Try.prog.underlying 83 = some (.map 3 87) := by kernel_rfl
theorem zSecs (w : World) : (zeroValue 87).run Try.prog w = .ok (.slice none 0 0) w := by kernel_rfl
theorem zSector (w : World) : (zeroValue 29).run Try.prog w = .ok (.agg (Array.replicate 64 (.int .u8 0))) w := by kernel_rfl
theorem uCell : ∃ fs, Try.prog.underlying 100 = some (.struct fs) := by
  have h : ((Try.prog.underlying 100).map (fun d => match d with | .struct _ => true | _ => false)) = some true := by kernel_rfl
  cases hq : Try.prog.underlying 100 with
  | none => rw [hq] at h; cases h
  | some d =>
    rw [hq] at h
    cases d with
    | struct fs => exact ⟨fs, rfl⟩
    | _ => simp at h
theorem mixed : Try.prog.follows .mixedOrders = true := by kernel_rfl
end Go.Proofs.Ytcaalfpfkalalaa
