/- The specification's disk: Sync. -/
import Derived.Test.YtcaalfpfkalalaaT9
set_option linter.unusedVariables false
set_option linter.unusedSimpArgs false
set_option maxRecDepth 10000
set_option maxHeartbeats 8000000
namespace Qd
/-- The cells, and the open writes, when the first j sectors are settled. -/
def Disk.cellsTo (d : Disk) (j : Nat) : List Cell := (List.range d.cells.length).map fun k => if k < j then d.settled k else d.cell k
def Disk.opnTo (d : Disk) (j : Nat) : Nat → List Sec := fun k => if k < j then [] else d.opn k
theorem cellsTo_len (d : Disk) (j : Nat) : (d.cellsTo j).length = d.cells.length := by simp [Disk.cellsTo]
theorem cellsTo_get (d : Disk) (j : Nat) {k : Nat} (hk : k < d.cells.length) : (d.cellsTo j).getD k zeroCell = if k < j then d.settled k else d.cell k := by
  simp [Disk.cellsTo, List.getD_eq_getElem?_getD, hk]
theorem cellsTo_zero (d : Disk) : d.cellsTo 0 = d.cells := by
  apply List.ext_getElem
  · rw [cellsTo_len]
  · intro n h1 h2
    simp [Disk.cellsTo, Disk.cell, List.getD_eq_getElem?_getD, h2]
theorem opnTo_zero (d : Disk) : d.opnTo 0 = d.opn := by
  funext k; simp [Disk.opnTo]
theorem cellsTo_all (d : Disk) : d.cellsTo d.cells.length = (List.range d.cells.length).map d.settled := by
  unfold Disk.cellsTo
  apply List.map_congr_left
  intro k hk
  rw [if_pos (List.mem_range.1 hk)]
theorem opnTo_all {d : Disk} (h : d.Ok) : d.opnTo d.cells.length = fun _ => [] := by
  funext k
  unfold Disk.opnTo
  split
  · rfl
  · exact h.out k (by omega)
theorem cellsTo_ok {d : Disk} (h : d.Ok) (j : Nat) : ∀ c ∈ d.cellsTo j, SecOk c.s := fun c hc => by
  obtain ⟨k, _, rfl⟩ := List.mem_map.1 hc
  split
  · unfold Disk.settled
    split
    · exact lastSec_ok (h.opnOk k)
    · exact h.cell k
  · exact h.cell k
theorem cellsTo_same {d : Disk} {j : Nat} (ho : d.opn j = []) : d.cellsTo (j + 1) = d.cellsTo j ∧ d.opnTo (j + 1) = d.opnTo j := by
  constructor
  · unfold Disk.cellsTo
    apply List.map_congr_left
    intro k _
    by_cases h1 : k < j
    · rw [if_pos h1, if_pos (by omega)]
    · by_cases h2 : k = j
      · subst h2
        rw [if_pos (by omega), if_neg h1]
        unfold Disk.settled
        rw [if_neg (by simp [ho])]
      · rw [if_neg h1, if_neg (by omega)]
  · funext k
    unfold Disk.opnTo
    by_cases h1 : k < j
    · rw [if_pos h1, if_pos (by omega)]
    · by_cases h2 : k = j
      · subst h2; rw [if_pos (by omega), if_neg h1, ho]
      · rw [if_neg h1, if_neg (by omega)]
theorem cellsTo_set {d : Disk} {j : Nat} (ho : d.opn j ≠ []) (hj : j < d.cells.length) : d.cellsTo (j + 1) = (d.cellsTo j).set j ⟨lastSec (d.opn j), false⟩ ∧ d.opnTo (j + 1) = fun k => if k = j then [] else d.opnTo j k := by
  constructor
  · apply List.ext_getElem
    · simp [cellsTo_len]
    · intro n h1 h2
      rw [cellsTo_len] at h1
      rw [List.getElem_set]
      simp only [Disk.cellsTo, List.getElem_map, List.getElem_range]
      by_cases e : j = n
      · subst e
        rw [if_pos rfl, if_pos (by omega)]
        unfold Disk.settled
        rw [if_pos ho]
      · rw [if_neg e]
        by_cases h : n < j
        · rw [if_pos h, if_pos (by omega)]
        · rw [if_neg h, if_neg (by omega)]
  · funext k
    unfold Disk.opnTo
    by_cases h2 : k = j
    · rw [if_pos h2, if_pos (by omega)]
    · rw [if_neg h2]
      by_cases h1 : k < j
      · rw [if_pos h1, if_pos (by omega)]
      · rw [if_neg h1, if_neg (by omega)]
end Qd
namespace Go.Proofs.Ytcaalfpfkalalaa
open Go.RowKit Qd
open Go.Proofs.YtcaalfpfkalalaaW.PrintLast
section
variable {w0 w : World} {rs : List Res} {p k : Nat} {d : Disk} {o : Oper} {ρ : Operand → Value} {x y : Operand}
theorem exb_rcell0 (ho : o.op = .build 110 #[(0, x)]) {s : Sec} (hs : SecOk s) (hx : ρ x = .agg (secVals s).toArray) : (execOp ρ o).run Try.prog w = .ok (.value (.agg (refCell (⟨s, false⟩, .slice none 0 0)).toArray)) w := by
  have h : ∀ v, Try.prog.built 110 [(0, v)] = Instr.fill (#[(0, 64), (64, 1), (65, 1)][·]?) (refCell (zeroCell, .slice none 0 0)).toArray [(0, v)] := fun v => by kernel_rfl
  refine ex_build ho hx ?_
  rw [h, fill_one (off := 0) (size := 64) rfl (by simp [Value.cells, sec64 hs]) (by rw [List.size_toArray, refCell_len (c := zeroCell) zeroSec_ok]; omega)]
  have e : ((refCell (zeroCell, .slice none 0 0)).toArray).toList.drop (0 + 64) = [.bool false, .slice none 0 0] := by rfl
  rw [e]
  simp [Value.cells, refCell, cellVals]
end
attribute [local irreducible] diskR blkR restR rowsR secVals SecOk refRow Own refCell gotVals Disk.cellsTo Disk.opnTo
section
variable {w0 w : World} {rs : List Res} {p k : Nat} {d : Disk}
theorem Own.rsync_ (h : Own w0 w rs) (hk : rs[k]? = some (refR p d)) (hst : d.steps < 1099511627775) : Calls Try.prog 45 #[.pointer (some ⟨p, 0, none⟩)] w fun e w' =>
    e = .returned (.int .i64 d.sync.2) ∧ Own w0 w' (rs.set k (refR p d.sync.1)) := by
  have hok := h.rokOf hk
  have hsame := list_set_same hk
  have hoks := hok.sync
  obtain ⟨r, hr⟩ : ∃ r, r = d.sync := ⟨_, rfl⟩
  rw [← hr] at hoks ⊢
  unfold Disk.sync at hr
  have hS := h.rstep_ hk (by omega)
  obtain ⟨bc, vs, hl, -, ho⟩ := h.openRef hk
  have c3 : w.cell? ⟨p, 3, none⟩ = some (.bool d.dead) := ho.cellOf (k := 0) (j := 3) rfl
  clear ho hl vs
  by_cases hdead : d.dead = true
  · rw [if_pos hdead] at hr
    rw [hdead] at c3
    have HR := Lib.hid hr
    have HH : Hid (Own w0 w (rs.set k (refR p d))) := Lib.hid (by rw [hsame]; exact h)
    clear hr h hk hsame hS hdead
    go_enter Try.func45, Try.ntmps45
    go_wp2
    go_ret
    rw [HR.out]
    exact ⟨rfl, HH.out⟩
  · rw [if_neg hdead] at hr
    have hdf : d.dead = false := by simpa using hdead
    rw [hdf] at c3
    by_cases ha : d.after = 0
    · rw [if_pos ha] at hr
      have e1 : d.step = ({ d with dead := true }, 12) := by unfold Disk.step; rw [if_pos ha]
      rw [e1] at hS
      have HS := Lib.hid hS
      have HR := Lib.hid hr
      clear hr h hk hsame hS hdead e1 ha hok
      go_enter Try.func45, Try.ntmps45
      go_wp2_with (go_at_call 58; refine HS.out.mono ?_; rintro e w' ⟨rfl, hq⟩)
      go_ret
      rw [HR.out]
      exact ⟨rfl, by assumption⟩
    · rw [if_neg ha] at hr
      have e1 : d.step.2 = 0 := by unfold Disk.step; rw [if_neg ha]
      have hok1 := hok.step
      rw [e1] at hS
      obtain ⟨d1, hd1⟩ : ∃ d1, d1 = d.step.1 := ⟨_, rfl⟩
      rw [← hd1] at hS hr hok1
      have hkl : k < rs.length := (List.getElem?_eq_some_iff.1 hk).1
      have HS := Lib.hid hS
      have HR := Lib.hid hr
      have HOK := Lib.hid hok1
      have HOKS := Lib.hid hoks
      have HK1 : Hid ((rs.set k (refR p d1))[k]? = some (refR p d1)) := Lib.hid (by rw [List.getElem?_set_self hkl])
      have HSET : Hid ((rs.set k (refR p d1)).set k (refR p r.1) = rs.set k (refR p r.1)) := Lib.hid (by rw [List.set_set])
      clear hr h hk hsame hS hdead e1 ha hok hok1 hd1 hdf hst hoks hkl
      go_enter Try.func45, Try.ntmps45
      go_wp2_with (go_at_call 58; refine HS.out.mono ?_; rintro e w' ⟨rfl, hq⟩)
      obtain ⟨bc, vs, hl, -, ho⟩ := Own.openRef hq HK1.out
      clear hq
      have HEND : Hid (∀ (w' : World) (vs' : List Value), vs'.length = d1.cells.length → Own w0 w' [blkR p (refObj bc d1).toArray 107, blkR bc (refRow (d1.cellsTo d1.cells.length) vs').toArray 110, rowsR vs' (d1.opnTo d1.cells.length), restR (rs.set k (refR p d1)) (· = k)] → Own w0 w' (rs.set k (refR p r.1))) := Lib.hid (fun w' vs' hl' hh => by
        rw [← HSET.out]
        have hr := HR.out
        have hf : r.1 = d1.flush := by rw [hr]
        rw [cellsTo_all, opnTo_all HOK.out] at hh
        rw [hf]
        have hoks := HOKS.out
        rw [hf] at hoks
        refine (Own.shutRef0 (bc := bc) (vs := vs') (tl := [_]) ?_ (by rw [hl']; simp [Disk.flush]) hoks).back
        unfold refL refObj
        unfold refObj at hh
        simp only [Disk.flush, List.length_map, List.length_range]
        exact hh)
      simp only [refL, refObj, List.cons_append, List.nil_append] at ho HEND
      have hst0 : refRow d1.cells vs = refRow (d1.cellsTo 0) vs := by rw [cellsTo_zero]
      have hst1 : rowsR vs d1.opn = rowsR vs (d1.opnTo 0) := by rw [opnTo_zero]
      rw [hst0, hst1] at ho
      have hsl := HOK.out.len
      obtain ⟨N, hN⟩ : ∃ N, N = d1.cells.length := ⟨_, rfl⟩
      rw [← hN] at ho HEND hsl hl
      have HN := Lib.hid hN
      clear hst0 hst1 hN HSET HK1
      generalize restR (rs.set k (refR p d1)) (· = k) = RR at *
      go_wp2_with (fail)
      go_loopw [4] (fun i wr => ∃ (j : Nat) (vs' : List Value), j ≤ N ∧ i = .int .i64 (j : Int) ∧ vs'.length = N ∧ Own w0 wr [blkR p [Value.slice (some ⟨bc, 0, none⟩) N N, .int .i64 d1.steps, .int .i64 d1.after, .bool d1.dead].toArray 107, blkR bc (refRow (d1.cellsTo j) vs').toArray 110, rowsR vs' (d1.opnTo j), RR])
        (fun i _ => N - (intOf i).toNat)
      case atStart => exact ⟨0, vs, by omega, rfl, hl, ho⟩
      case round =>
        clear ho hl
        obtain ⟨j, vs', hj, rfl, hl, ho⟩ := hrel
        have hj0 : (0 : Int) ≤ (j : Int) := Int.natCast_nonneg j
        by_cases hjN : j < N
        · have hjN' : (j : Int) < (N : Int) := by omega
          have hjc : j < d1.cells.length := by rw [← HN.out]; exact hjN
          have hjc' : j < (d1.cellsTo j).length := by rw [cellsTo_len]; exact hjc
          obtain ⟨A, B, hA, hsp, hset⟩ := refSplit (cellsTo_ok HOK.out j) (vs := vs') (by rw [cellsTo_len, hl, ← HN.out]) hjc'
          rw [cellsTo_get d1 j hjc, if_neg (Nat.lt_irrefl j)] at hsp
          have hvi : vs'[j]? = some (vs'.getD j (.slice none 0 0)) := by rw [List.getD_eq_getElem?_getD, List.getElem?_eq_getElem (by omega)]; rfl
          have hopj : d1.opnTo j j = d1.opn j := by unfold Disk.opnTo; rw [if_neg (Nat.lt_irrefl j)]
          have hvr := ho.rowOf (k := 2) (i := j) rfl hvi
          rw [hopj] at hvr
          obtain ⟨a, cp, hv, hg⟩ := row_slice hvr.1 (HOK.out.opnOk j)
          rw [hv] at hsp hvr hvi
          have hmax := own_max hvr.1
          have hcok : SecOk (d1.cell j).s := HOK.out.cell j
          rw [hsp] at ho
          by_cases hem : d1.opn j = []
          · obtain ⟨e1, e2⟩ := cellsTo_same (d := d1) hem
            rw [hem] at ho
            rw [List.length_nil] at ho
            have HSP : Hid (A ++ refCell (d1.cell j, .slice a 0 cp) ++ B = refRow (d1.cellsTo (j + 1)) vs') := Lib.hid (by rw [e1, hsp, hem]; rfl)
            have HE2 := Lib.hid e2
            generalize d1.cell j = c at *
            clear hem e1 e2 hsp hset hv hg hvr hvi hmax hjc hjc' hopj
            go_wp2_with (first
              | (refine go_val rfl (ho.xlcells (k := 0) (j := 0) (x := .tmp 17) rfl rfl rfl rfl) ?_; simp only [Act.put, List.setIfInBounds_toArray, List.set_cons_zero, List.set_cons_succ])
              | (refine go_val rfl (ho.xlcells (k := 0) (j := 0) (x := .tmp 25) rfl rfl rfl rfl) ?_; simp only [Act.put, List.setIfInBounds_toArray, List.set_cons_zero, List.set_cons_succ])
              | (refine go_val rfl (exl_ropen (x := .tmp 29) (cell_range ho (k := 1) rfl hA) hcok rfl rfl) ?_; simp only [Act.put, List.setIfInBounds_toArray, List.set_cons_zero, List.set_cons_succ]))
            rw [HSP.out, ← HE2.out] at ho
            exact ⟨⟨j + 1, vs', by omega, by go_num, hl, ho⟩, by simp [intOf]; omega⟩
          · obtain ⟨e1, e2⟩ := cellsTo_set (d := d1) hem hjc
            obtain ⟨g, rfl, -⟩ := hg hem
            have hpos := List.length_pos_iff.2 hem
            obtain ⟨ls, hls⟩ : ∃ ls, ls = lastSec (d1.opn j) := ⟨_, rfl⟩
            have hlok : SecOk ls := by rw [hls]; exact lastSec_ok (HOK.out.opnOk j)
            have HLA : Hid (ls = (d1.opn j).getD ((d1.opn j).length - 1) zeroSec) := Lib.hid (by rw [hls]; exact lastSec_get _)
            rw [← hls] at e1
            have HSP : Hid (A ++ refCell (⟨ls, false⟩, .slice none 0 0) ++ B = refRow (d1.cellsTo (j + 1)) (vs'.set j (.slice none 0 0))) := Lib.hid (by rw [e1, hset ⟨ls, false⟩ (.slice none 0 0) hlok])
            have HE2 := Lib.hid e2
            have HOPN := Lib.hid (HOK.out.opnOk j)
            have HVI := Lib.hid hvi
            have HOPJ := Lib.hid hopj
            obtain ⟨n, hn⟩ : ∃ n, n = (d1.opn j).length := ⟨_, rfl⟩
            rw [← hn] at ho HLA HVI hmax hpos
            have HNN := Lib.hid hn
            generalize d1.cell j = c at *
            clear hem e1 e2 hsp hset hv hvr hvi hjc hjc' hopj hls hn hg
            obtain ⟨n, rfl⟩ : ∃ n', n = n' + 1 := ⟨n - 1, by omega⟩
            rw [Nat.add_sub_cancel] at HLA
            have HWN : Hid (wrap64 (n : Int) = n) := Lib.hid (by rw [← i64_w]; exact IntWalk.i64_in _ (by omega))
            go_upto_region 11 with (first
              | (refine go_val rfl (ho.xlcells (k := 0) (j := 0) (x := .tmp 17) rfl rfl rfl rfl) ?_; simp only [Act.put, List.setIfInBounds_toArray, List.set_cons_zero, List.set_cons_succ])
              | (refine go_val rfl (ho.xlcells (k := 0) (j := 0) (x := .tmp 25) rfl rfl rfl rfl) ?_; simp only [Act.put, List.setIfInBounds_toArray, List.set_cons_zero, List.set_cons_succ])
              | (refine go_val rfl (exl_ropen (x := .tmp 29) (cell_range ho (k := 1) rfl hA) hcok rfl rfl) ?_; simp only [Act.put, List.setIfInBounds_toArray, List.set_cons_zero, List.set_cons_succ]))
            refine start_ (n := 20) (S := fun w' => Own w0 w' [blkR p [Value.slice (some ⟨bc, 0, none⟩) N N, .int .i64 d1.steps, .int .i64 d1.after, .bool d1.dead].toArray 107, blkR bc (A ++ refCell (c, .slice (some ⟨g, 0, none⟩) (n + 1) cp) ++ B).toArray 110, rowsR vs' (d1.opnTo j), RR]) (ds := [19]) #[false, false, false, false, false, false, false, false, false, false, false, false, false, false, false, false, false, false, false, false] mixed rfl rfl ((ho.nw ((Nw.refl _).drew))) (fun hHeld => ?_)
            refine pure_ (i := 0) (N := some 34) (v := ?_) (a' := ?_) #[true, false, false, false, false, false, false, false, false, false, false, false, false, false, false, false, false, false, false, false] rfl rfl (by kernel_rfl) (fun _ _ _ h => h) (Or.inl ⟨by rfl, ?_⟩) ?_ ?_
            rotate_left
            · intro w'
              go_simp
              with_reducible rfl
            rotate_left
            · simp only [Act.put, List.setIfInBounds_toArray, List.set_cons_zero, List.set_cons_succ, i64_w, i32_w]
              rfl
            refine pure_ (i := 1) (N := some 35) (v := ?_) (a' := ?_) #[true, true, false, false, false, false, false, false, false, false, false, false, false, false, false, false, false, false, false, false] rfl rfl (by kernel_rfl) (fun _ _ _ h => h) (Or.inl ⟨by rfl, ?_⟩) ?_ ?_
            rotate_left
            · intro w'
              go_simp
              with_reducible rfl
            rotate_left
            · simp only [Act.put, List.setIfInBounds_toArray, List.set_cons_zero, List.set_cons_succ, i64_w, i32_w]
              rfl
            refine pure_ (i := 2) (N := some 36) (v := ?_) (a' := ?_) #[true, true, true, false, false, false, false, false, false, false, false, false, false, false, false, false, false, false, false, false] rfl rfl (by kernel_rfl) (fun _ _ _ h => h) (Or.inl ⟨by rfl, ?_⟩) ?_ ?_
            rotate_left
            · intro w'
              go_simp
              with_reducible rfl
            rotate_left
            · simp only [Act.put, List.setIfInBounds_toArray, List.set_cons_zero, List.set_cons_succ, i64_w, i32_w]
              rfl
            refine pure_ (i := 4) (N := some 38) (v := ?_) (a' := ?_) #[true, true, true, false, true, false, false, false, false, false, false, false, false, false, false, false, false, false, false, false] rfl rfl (by kernel_rfl) (fun _ _ _ h => h) (Or.inl ⟨by rfl, ?_⟩) ?_ ?_
            rotate_left
            · intro w'
              go_simp
              with_reducible rfl
            rotate_left
            · simp only [Act.put, List.setIfInBounds_toArray, List.set_cons_zero, List.set_cons_succ, i64_w, i32_w]
              rfl
            refine pure_ (i := 5) (N := some 39) (v := ?_) (a' := ?_) #[true, true, true, false, true, true, false, false, false, false, false, false, false, false, false, false, false, false, false, false] rfl rfl (by kernel_rfl) (fun _ _ _ h => h) (Or.inl ⟨by rfl, ?_⟩) ?_ ?_
            rotate_left
            · intro w'
              go_simp
              with_reducible rfl
            rotate_left
            · simp only [Act.put, List.setIfInBounds_toArray, List.set_cons_zero, List.set_cons_succ, i64_w, i32_w]
              rfl
            refine pure_ (i := 6) (N := some 40) (v := ?_) (a' := ?_) #[true, true, true, false, true, true, true, false, false, false, false, false, false, false, false, false, false, false, false, false] rfl rfl (by kernel_rfl) (fun _ _ _ h => h) (Or.inl ⟨by rfl, ?_⟩) ?_ ?_
            rotate_left
            · intro w'
              go_simp
              with_reducible rfl
            rotate_left
            · simp only [Act.put, List.setIfInBounds_toArray, List.set_cons_zero, List.set_cons_succ, i64_w, i32_w]
              rfl
            refine pure_ (i := 7) (N := some 41) (v := ?_) (a' := ?_) #[true, true, true, false, true, true, true, true, false, false, false, false, false, false, false, false, false, false, false, false] rfl rfl (by kernel_rfl) (fun _ _ _ h => h) (Or.inl ⟨by rfl, ?_⟩) ?_ ?_
            rotate_left
            · intro w'
              go_simp
              with_reducible rfl
            rotate_left
            · simp only [Act.put, List.setIfInBounds_toArray, List.set_cons_zero, List.set_cons_succ, i64_w, i32_w]
              rfl
            refine pure_ (i := 9) (N := some 43) (v := ?_) (a' := ?_) #[true, true, true, false, true, true, true, true, false, true, false, false, false, false, false, false, false, false, false, false] rfl rfl (by kernel_rfl) (fun _ _ _ h => h) (Or.inl ⟨by rfl, ?_⟩) ?_ ?_
            rotate_left
            · intro w'
              go_simp
              with_reducible rfl
            rotate_left
            · simp only [Act.put, List.setIfInBounds_toArray, List.set_cons_zero, List.set_cons_succ, i64_w, i32_w]
              rfl
            refine pure_ (i := 13) (N := some 47) (v := ?_) (a' := ?_) #[true, true, true, false, true, true, true, true, false, true, false, false, false, true, false, false, false, false, false, false] rfl rfl (by kernel_rfl) (fun _ _ _ h => h) (Or.inl ⟨by rfl, ?_⟩) ?_ ?_
            rotate_left
            · intro w'
              go_simp
              with_reducible rfl
            rotate_left
            · simp only [Act.put, List.setIfInBounds_toArray, List.set_cons_zero, List.set_cons_succ, i64_w, i32_w]
              rfl
            refine take_ (i := 3) (N := some 37) (v := .slice (some ⟨bc, 0, none⟩) N N) (a' := ?_) #[true, true, true, true, true, true, true, true, false, true, false, false, false, true, false, false, false, false, false, false] rfl rfl (by kernel_rfl) (fun _ _ _ h => h) (Or.inl ⟨by rfl, ?_⟩) hHeld ?_ ?_
            · intro w' s0
              exact s0.xlcells (k := 0) (j := 0) rfl rfl rfl rfl
            rotate_left
            · simp only [Act.put, List.setIfInBounds_toArray, List.set_cons_zero, List.set_cons_succ, i64_w, i32_w]
              rfl
            refine take_ (i := 8) (N := some 42) (v := .slice (some ⟨bc, 0, none⟩) N N) (a' := ?_) #[true, true, true, true, true, true, true, true, true, true, false, false, false, true, false, false, false, false, false, false] rfl rfl (by kernel_rfl) (fun _ _ _ h => h) (Or.inl ⟨by rfl, ?_⟩) hHeld ?_ ?_
            · intro w' s0
              exact s0.xlcells (k := 0) (j := 0) rfl rfl rfl rfl
            rotate_left
            · simp only [Act.put, List.setIfInBounds_toArray, List.set_cons_zero, List.set_cons_succ, i64_w, i32_w]
              rfl
            refine pure_ (i := 10) (N := some 44) (v := ?_) (a' := ?_) #[true, true, true, true, true, true, true, true, true, true, true, false, false, true, false, false, false, false, false, false] rfl rfl (by kernel_rfl) (fun _ _ _ h => h) (Or.inl ⟨by rfl, ?_⟩) ?_ ?_
            rotate_left
            · intro w'
              go_simp
              with_reducible rfl
            rotate_left
            · simp only [Act.put, List.setIfInBounds_toArray, List.set_cons_zero, List.set_cons_succ, i64_w, i32_w]
              rfl
            refine pure_ (i := 11) (N := some 45) (v := ?_) (a' := ?_) #[true, true, true, true, true, true, true, true, true, true, true, true, false, true, false, false, false, false, false, false] rfl rfl (by kernel_rfl) (fun _ _ _ h => h) (Or.inl ⟨by rfl, ?_⟩) ?_ ?_
            rotate_left
            · intro w'
              go_simp
              with_reducible rfl
            rotate_left
            · simp only [Act.put, List.setIfInBounds_toArray, List.set_cons_zero, List.set_cons_succ, i64_w, i32_w]
              rfl
            refine take_ (i := 12) (N := some 46) (v := .slice (some ⟨g, 0, none⟩) (n + 1) cp) (a' := ?_) #[true, true, true, true, true, true, true, true, true, true, true, true, true, true, false, false, false, false, false, false] rfl rfl (by kernel_rfl) (fun _ _ _ h => h) (Or.inl ⟨by rfl, ?_⟩) hHeld ?_ ?_
            · intro w' s0
              exact exl_ropen (cell_range s0 (k := 1) rfl hA) hcok rfl rfl
            rotate_left
            · simp only [Act.put, List.setIfInBounds_toArray, List.set_cons_zero, List.set_cons_succ, i64_w, i32_w]
              rfl
            refine take_ (i := 14) (N := some 48) (v := .int .i64 (n : Int)) (a' := ?_) #[true, true, true, true, true, true, true, true, true, true, true, true, true, true, true, false, false, false, false, false] rfl rfl (by kernel_rfl) (fun _ _ _ h => h) (Or.inl ⟨by rfl, ?_⟩) hHeld ?_ ?_
            · intro w' s0
              first | (go_simp; done) | (go_simp; simp only [i64_w, HWN.out])
            rotate_left
            · simp only [Act.put, List.setIfInBounds_toArray, List.set_cons_zero, List.set_cons_succ, i64_w, i32_w]
              rfl
            refine take_ (i := 15) (N := some 49) (v := .pointer (some ⟨g, n * 64, none⟩)) (a' := ?_) #[true, true, true, true, true, true, true, true, true, true, true, true, true, true, true, true, false, false, false, false] rfl rfl (by kernel_rfl) (fun _ _ _ h => h) (Or.inl ⟨by rfl, ?_⟩) hHeld ?_ ?_
            · intro w' s0
              first | (go_simp; done) | (go_simp; rw [if_pos (by omega)]) | (go_simp; intro hx; omega)
            rotate_left
            · simp only [Act.put, List.setIfInBounds_toArray, List.set_cons_zero, List.set_cons_succ, i64_w, i32_w]
              rfl
            refine take_ (i := 16) (N := some 50) (v := .agg (secVals ls).toArray) (a' := ?_) #[true, true, true, true, true, true, true, true, true, true, true, true, true, true, true, true, true, false, false, false] rfl rfl (by kernel_rfl) (fun _ _ _ h => h) (Or.inl ⟨by rfl, ?_⟩) hHeld ?_ ?_
            · intro w' s0
              exact exl_sec (b := g) (k := n * 64) rfl rfl hlok (by rw [HLA.out, ← HOPJ.out]; exact s0.rowRange (k := 2) rfl HVI.out (by rw [HOPJ.out]; exact HOPN.out) (by rw [HOPJ.out]; have := HNN.out; omega))
            rotate_left
            · simp only [Act.put, List.setIfInBounds_toArray, List.set_cons_zero, List.set_cons_succ, i64_w, i32_w]
              rfl
            refine take_ (i := 17) (N := some 51) (v := .agg (refCell (⟨ls, false⟩, .slice none 0 0)).toArray) (a' := ?_) #[true, true, true, true, true, true, true, true, true, true, true, true, true, true, true, true, true, true, false, false] rfl rfl (by kernel_rfl) (fun _ _ _ h => h) (Or.inl ⟨by rfl, ?_⟩) hHeld ?_ ?_
            · intro w' s0
              exact exb_rcell0 rfl hlok rfl
            rotate_left
            · simp only [Act.put, List.setIfInBounds_toArray, List.set_cons_zero, List.set_cons_succ, i64_w, i32_w]
              rfl
            refine pure_ (i := 18) (N := some 52) (v := ?_) (a' := ?_) #[true, true, true, true, true, true, true, true, true, true, true, true, true, true, true, true, true, true, true, false] rfl rfl (by kernel_rfl) (fun _ _ _ h => h) (Or.inl ⟨by rfl, ?_⟩) ?_ ?_
            rotate_left
            · intro w'
              go_simp
              with_reducible rfl
            rotate_left
            · simp only [Act.put, List.setIfInBounds_toArray, List.set_cons_zero, List.set_cons_succ, i64_w, i32_w]
              rfl
            refine last_ (i := 19) (N := none) #[true, true, true, true, true, true, true, true, true, true, true, true, true, true, true, true, true, true, true, true] rfl rfl (by kernel_rfl) (by decide) (fun K hK => ?_)
            have s0 := hHeld
            refine skip_ex (by rfl) rfl (s0.xrscell (k := 1) (i := j) (c' := ⟨ls, false⟩) (v' := .slice none 0 0) rfl hA hcok hlok rfl rfl rfl rfl) ?_
            rintro wc hq
            refine hK.out _ _ ?_
            clear hK K
            refine done_ (by kernel_rfl) ?_
            clear ho hHeld s0
            (try simp only [List.nil_append, List.cons_append, List.set_cons_zero, List.set_cons_succ] at hq); replace ho := hq; clear hq
            have h4 := (ho.pick (rs' := [rowsR vs' (d1.opnTo j), blkR p [Value.slice (some ⟨bc, 0, none⟩) N N, .int .i64 d1.steps, .int .i64 d1.after, .bool d1.dead].toArray 107, blkR bc (A ++ refCell (⟨ls, false⟩, .slice none 0 0) ++ B).toArray 110, RR]) [2, 0, 1, 3] (by decide) rfl).rowsDrop (m := j)
            rw [HSP.out, ← HE2.out] at h4
            go_wp2
            exact ⟨⟨j + 1, vs'.set j (.slice none 0 0), by omega, by go_num, by rw [List.length_set]; exact hl, h4.pick [1, 2, 0, 3] (by decide) rfl⟩, by simp [intOf]; omega⟩
        · have hjN' : ¬ (j : Int) < (N : Int) := by omega
          have e : j = N := by omega
          subst e
          go_wp2_with (refine go_val rfl (ho.xlcells (k := 0) (j := 0) (x := .tmp 17) rfl rfl rfl rfl) ?_; simp only [Act.put, List.setIfInBounds_toArray, List.set_cons_zero, List.set_cons_succ])
          go_ret
          have hr := HR.out
          exact ⟨by rw [hr]; rfl, HEND.out _ _ hl ho⟩
end
end Go.Proofs.Ytcaalfpfkalalaa
