/- quietuslaw22.sanity: its plain facts. -/
import Derived.Test.YtcaalfpfkalalaaS15
import Derived.Test.YtcaalfpfkalalaaS16
set_option linter.unusedVariables false
set_option linter.unusedSimpArgs false
set_option maxRecDepth 10000
set_option maxHeartbeats 4000000
namespace Go.Proofs.Ytcaalfpfkalalaa
open Go.RowKit Qd
open Go.Proofs.YtcaalfpfkalalaaW.PrintLast
def tkey : List Int := [107, 101, 121]
def tnew : List Int := [110, 101, 119]
def tx : Sec := copySec 2 tkey
def td0 : Disk := Disk.new 8
def td1 : Disk := (td0.format 0 4).1
def td2 : Disk := (td1.openSlots 0 4).1
def td3 : Disk := (td2.put 0 4 1 tkey).1
def td4 : Disk := (td3.rot 2).1
def td5 : Disk := (td4.put 0 4 1 tnew).1
def td6 : Disk := (td5.kill 0 4 1).1
def td7 : Disk := (td6.put 0 4 1 []).1
theorem tf0 : Disk.new 8 = td0 := rfl
theorem tf1 : td0.format 0 4 = (td1, 0) := by kernel_rfl
theorem tf2 : td1.steps = 9 := by kernel_rfl
theorem tf3 : td1.openSlots 0 4 = (td2, 0, []) := by kernel_rfl
theorem tf4 : td2.steps = 9 := by kernel_rfl
theorem tf5 : td2.get 0 4 1 = ([], 8) := by kernel_rfl
theorem tf6 : td2.put 0 4 1 (strInts { data := #[107, 101, 121] }) = (td3, 0) := by kernel_rfl
theorem tf7 : td3.get 0 4 1 = (tkey, 0) := by kernel_rfl
theorem tf8 : td3.read 2 = (tx, 0) := by kernel_rfl
theorem tf9 : td3.read 3 = (tx, 0) := by kernel_rfl
theorem tf10 : td3.steps = 13 := by kernel_rfl
theorem tf11 : td3.rot 2 = (td4, 0) := by kernel_rfl
theorem tf12 : td4.get 0 4 1 = (tkey, 0) := by kernel_rfl
theorem tf13 : td4.put 0 4 1 (strInts { data := #[110, 101, 119] }) = (td5, 0) := by kernel_rfl
theorem tf14 : td5.steps = 19 := by kernel_rfl
theorem tf15 : td5.kill 0 4 1 = (td6, 0) := by kernel_rfl
theorem tf16 : td6.get 0 4 1 = ([], 8) := by kernel_rfl
theorem tf17 : td6.get 0 4 4 = ([], 1) := by kernel_rfl
theorem tf18 : td6.put 0 4 1 (strInts { data := #[] }) = (td7, 1) := by kernel_rfl
theorem tstr : strOfNums tkey = { data := #[107, 101, 121] } := by kernel_rfl
theorem tstr0 : strOfNums [] = { data := #[] } := rfl
theorem tx_copy : copySec 2 (strInts { data := #[107, 101, 121] }) = tx := by kernel_rfl
theorem tx3 : (secVals tx).toArray[3]? = some (.int .u8 2) := by kernel_rfl
theorem tx4 : (secVals tx).toArray[4]? = some (.int .u8 107) := by kernel_rfl
theorem tx36 : (secVals tx).toArray[36]? = some (.int .u8 3) := by kernel_rfl
theorem tx_ok : SecOk tx := by
  rw [← tx_copy]
  exact copySec_ok 2 (strInts_ok _)
theorem tst0 : td0.steps = 0 := by kernel_rfl
theorem tst4 : td4.steps = 13 := by kernel_rfl
theorem tst6 : td6.steps = 23 := by kernel_rfl
end Go.Proofs.Ytcaalfpfkalalaa
