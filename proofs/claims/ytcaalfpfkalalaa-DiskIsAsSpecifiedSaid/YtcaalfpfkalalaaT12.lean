/- The specification's disk: Crash. -/
import Derived.Test.YtcaalfpfkalalaaT11
set_option linter.unusedVariables false
set_option linter.unusedSimpArgs false
set_option maxRecDepth 10000
set_option maxHeartbeats 8000000
namespace Qd
variable {d : Disk}
/-- How many of the first j sectors have open writes. -/
def Disk.busyTo (d : Disk) (j : Nat) : Nat := ((List.range j).filter fun k => !(d.opn k).isEmpty).length
theorem busyTo_succ (d : Disk) (j : Nat) : d.busyTo (j + 1) = if d.opn j = [] then d.busyTo j else d.busyTo j + 1 := by
  unfold Disk.busyTo
  rw [List.range_succ, List.filter_append, List.length_append]
  by_cases h : d.opn j = []
  · simp [h]
  · have : (d.opn j).isEmpty = false := by simpa using h
    simp [h, this]
theorem busyTo_le (d : Disk) (j : Nat) : d.busyTo j ≤ j := by
  unfold Disk.busyTo
  exact Nat.le_trans (List.length_filter_le _ _) (by simp)
theorem idxOf_filter {p : Nat → Bool} {k : Nat} (hp : p k = true) : ∀ n, k < n → ((List.range n).filter p).idxOf k = ((List.range k).filter p).length
  | 0, h => absurd h (by omega)
  | n + 1, h => by
    rw [List.range_succ, List.filter_append]
    by_cases e : k = n
    · subst e
      have hnot : k ∉ (List.range k).filter p := fun hm => by
        have := List.mem_range.1 (List.mem_filter.1 hm).1
        omega
      rw [List.idxOf_append, if_neg hnot]
      simp [hp]
    · have hin : k ∈ (List.range n).filter p := List.mem_filter.2 ⟨List.mem_range.2 (by omega), hp⟩
      rw [List.idxOf_append, if_pos hin]
      exact idxOf_filter hp n (by omega)
theorem busy_idx {k : Nat} (hk : k < d.cells.length) (ho : d.opn k ≠ []) : d.busy.idxOf k = d.busyTo k := by
  unfold Disk.busy Disk.busyTo
  exact idxOf_filter (by simpa using ho) _ hk
def Disk.crashTo (d : Disk) (keep : List Int) (j : Nat) : List Cell := (List.range d.cells.length).map fun k => if k < j then d.crashCell keep k else zeroCell
theorem crashTo_len (d : Disk) (keep : List Int) (j : Nat) : (d.crashTo keep j).length = d.cells.length := by simp [Disk.crashTo]
theorem crashTo_zero (d : Disk) (keep : List Int) : d.crashTo keep 0 = List.replicate d.cells.length zeroCell := by
  apply List.ext_getElem
  · rw [crashTo_len, List.length_replicate]
  · intro n h1 h2
    rw [List.getElem_replicate]
    simp only [Disk.crashTo, List.getElem_map, Nat.not_lt_zero, if_false]
theorem crashTo_all (d : Disk) (keep : List Int) : d.crashTo keep d.cells.length = (d.crash keep).cells := by
  unfold Disk.crashTo Disk.crash
  apply List.map_congr_left
  intro k hk
  rw [if_pos (List.mem_range.1 hk)]
theorem crashTo_get (d : Disk) (keep : List Int) (j : Nat) {k : Nat} (hk : k < d.cells.length) : (d.crashTo keep j).getD k zeroCell = if k < j then d.crashCell keep k else zeroCell := by
  simp [Disk.crashTo, List.getD_eq_getElem?_getD, hk]
theorem crashTo_set (d : Disk) (keep : List Int) {j : Nat} (hj : j < d.cells.length) : (d.crashTo keep j).set j (d.crashCell keep j) = d.crashTo keep (j + 1) := by
  apply List.ext_getElem
  · simp [crashTo_len]
  · intro n h1 h2
    rw [List.getElem_set]
    simp only [Disk.crashTo, List.getElem_map, List.getElem_range]
    by_cases e : j = n
    · subst e; simp
    · rw [if_neg e]
      by_cases h : n < j
      · rw [if_pos h, if_pos (by omega)]
      · rw [if_neg h, if_neg (by omega)]
theorem crashCell_ok' (h : d.Ok) (keep : List Int) {k : Nat} (hk : k < d.cells.length) : SecOk (d.crashCell keep k).s := by
  have := (h.crash keep).cell k
  have e : (d.crash keep).cell k = d.crashCell keep k := by
    unfold Disk.crash Disk.cell
    simp [List.getD_eq_getElem?_getD, hk]
  rwa [e] at this
theorem crashTo_ok (h : d.Ok) (keep : List Int) (j : Nat) : ∀ c ∈ d.crashTo keep j, SecOk c.s := fun c hc => by
  obtain ⟨k, hk, rfl⟩ := List.mem_map.1 hc
  split
  · exact crashCell_ok' h keep (List.mem_range.1 hk)
  · exact zeroSec_ok
end Qd
namespace Go.Proofs.Ytcaalfpfkalalaa
open Go.RowKit Qd
open Go.Proofs.YtcaalfpfkalalaaW.PrintLast
/-- What a callee owns besides what its caller owns. -/
theorem Own.join {w0 w w' : World} {rs ls : List Res} (h : Own w0 w rs) (h' : Own w w' ls) : Own w0 w' (rs ++ ls) := by
  obtain ⟨h0, F, h1, h2, h3⟩ := h
  obtain ⟨g0, G, g1, g2, g3⟩ := h'
  refine ⟨h0.trans g0, fun i b => if i < rs.length then F i b else G (i - rs.length) b, fun i r hi => ?_, fun i b hb => ?_, fun i j b hi hj => ?_⟩
  · by_cases e : i < rs.length
    · rw [List.getElem?_append_left e] at hi
      simp only [e, if_true]
      exact r.same (h1 i r hi) (fun b hb => g0.block b (h2 i b hb).2 (fun h => h))
    · rw [List.getElem?_append_right (by omega)] at hi
      simp only [e, if_false]
      exact g1 _ r hi
  · by_cases e : i < rs.length
    · simp only [e, if_true] at hb
      exact ⟨(h2 i b hb).1, Nat.lt_of_lt_of_le (h2 i b hb).2 g0.size⟩
    · simp only [e, if_false] at hb
      exact ⟨Nat.le_trans h0.size (g2 _ b hb).1, (g2 _ b hb).2⟩
  · by_cases e : i < rs.length
    · simp only [e, if_true] at hi
      by_cases e' : j < rs.length
      · simp only [e', if_true] at hj
        exact h3 i j b hi hj
      · simp only [e', if_false] at hj
        have := (h2 i b hi).2
        have := (g2 _ b hj).1
        omega
    · simp only [e, if_false] at hi
      by_cases e' : j < rs.length
      · simp only [e', if_true] at hj
        have := (h2 j b hj).2
        have := (g2 _ b hi).1
        omega
      · simp only [e', if_false] at hj
        have := g3 _ _ b hi hj
        omega
section
variable {w0 w : World} {rs tl : List Res} {p k : Nat} {d : Disk}
/-- A disk's cell j, where nothing of it turns. -/
theorem Own.refReads (h : Own w0 w rs) (hk : rs[k]? = some (refR p d)) : ∃ bc, d.Ok ∧ w.cell? ⟨p, 0, none⟩ = some (.slice (some ⟨bc, 0, none⟩) d.cells.length d.cells.length) ∧
    ∀ j, j < d.cells.length → ∃ (a : Option Addr) (cp : Nat), w.rangeAt bc (j * 66) (refCell (d.cell j, .slice a (d.opn j).length cp)) ∧ (d.opn j = [] → a = none ∧ cp = 0) ∧
      (d.opn j ≠ [] → ∃ g, a = some ⟨g, 0, none⟩ ∧ ∀ q, q < (d.opn j).length → w.rangeAt g (q * 64) (secVals ((d.opn j).getD q zeroSec))) := by
  obtain ⟨bc, vs, hl, hok, ho⟩ := h.openRef hk
  refine ⟨bc, hok, ho.cellOf (k := 0) (j := 0) rfl, fun j hj => ?_⟩
  have hvi : vs[j]? = some (vs.getD j (.slice none 0 0)) := by rw [List.getD_eq_getElem?_getD, List.getElem?_eq_getElem (by omega)]; rfl
  have hvr := ho.rowOf (k := 2) (i := j) rfl hvi
  obtain ⟨a, cp, hv, hg⟩ := row_slice hvr.1 (hok.opnOk j)
  obtain ⟨A, B, hA, hsp, -⟩ := refSplit hok.sec hl hj
  rw [show d.cells.getD j zeroCell = d.cell j from rfl, hv] at hsp
  have hr : w.rangeAt bc (j * 66) (refCell (d.cell j, .slice a (d.opn j).length cp)) := by
    have hb := (ho.blk (i := 1) rfl).1
    rw [hsp] at hb
    exact hb.range _ _ (fun n hn => by
      rw [List.getElem?_toArray, List.append_assoc, List.getElem?_append_right (by omega), hA, show j * 66 + n - j * 66 = n by omega, List.getElem?_append_left hn])
  refine ⟨a, cp, hr, fun he => ?_, fun hne => ?_⟩
  · have := hvr.2 he
    rw [hv] at this
    injection this with e1 e2 e3
    exact ⟨e1, e3⟩
  · obtain ⟨g, e, hq⟩ := hg hne
    exact ⟨g, e, hq⟩
end
attribute [local irreducible] diskR blkR restR rowsR secVals SecOk refRow Own refCell gotVals Disk.crashTo Disk.busyTo
section
variable {w0 w : World} {rs : List Res} {p k : Nat} {d : Disk}
theorem Own.rcrash_ (h : Own w0 w rs) (hk : rs[k]? = some (refR p d)) {keep : List Int} (hk64 : ∀ x ∈ keep, -9223372036854775808 ≤ x ∧ x ≤ 9223372036854775807) (hkl : keep.length < 1099511627776) (hst : d.steps ≤ 1000000) {kv : Value} (hkv : KeepIs w kv keep) :
    Calls Try.prog 47 #[.pointer (some ⟨p, 0, none⟩), kv] w fun e w' => ∃ q, e = .returned (.pointer (some ⟨q, 0, none⟩)) ∧ Own w0 w' (rs ++ [refR q (d.crash keep)]) := by
  obtain ⟨bc, hok, hc0, hcell⟩ := h.refReads hk
  obtain ⟨ka, kc, rfl, hkr⟩ := hkv
  have ho := Own.start w
  have HJ : Hid (∀ (w' : World) (q oc : Nat), Own w w' [blkR q [Value.slice (some ⟨oc, 0, none⟩) d.cells.length d.cells.length, .int .i64 0, .int .i64 (-1), .bool false].toArray 107, blkR oc (refRow (d.crashTo keep d.cells.length) (List.replicate d.cells.length (.slice none 0 0))).toArray 110] → Own w0 w' (rs ++ [refR q (d.crash keep)])) := Lib.hid (fun w' q oc hh => by
    refine h.join ?_
    have h3 := hh.rowsNil d.cells.length
    rw [crashTo_all] at h3
    exact Own.newRef (rs := []) (bc := oc) (vs := List.replicate d.cells.length (.slice none 0 0)) (by
      unfold refL refObj
      have e : (d.crash keep).cells.length = d.cells.length := by simp [Disk.crash]
      rw [e]
      exact h3) (by simp [Disk.crash]) (hok.crash keep))
  have HC0 := Lib.hid hc0
  have HCELL := Lib.hid hcell
  have HOK := Lib.hid hok
  have HK64 := Lib.hid hk64
  have HKR := Lib.hid hkr
  have hpos := hok.pos
  have hsl := hok.len
  obtain ⟨N, hN⟩ : ∃ N, N = d.cells.length := ⟨_, rfl⟩
  rw [← hN] at HC0 HCELL HJ hpos hsl
  have HN := Lib.hid hN
  obtain ⟨km, hkm⟩ : ∃ m, m = keep.length := ⟨_, rfl⟩
  rw [← hkm] at hkl ⊢
  have HKM := Lib.hid hkm
  clear h hk hc0 hcell hok hk64 hkr hN hkm
  go_enter Try.func47, Try.ntmps47
  go_wp2_with (first
    | (refine go_val rfl (exl_cellsl (x := .tmp 11) rfl rfl (ho.nw0.cell HC0.out (fun h => h))) ?_; simp only [Act.put, List.setIfInBounds_toArray, List.set_cons_zero, List.set_cons_succ])
    | (refine go_val_ex rfl (ho.xrmake 14 (m := N) rfl rfl rfl rfl hsl hpos) ?_; rintro v w1 ⟨oc, rfl, hq⟩; simp only [Act.put, List.setIfInBounds_toArray, List.set_cons_zero, List.set_cons_succ]; (try simp only [List.nil_append, List.cons_append, List.set_cons_zero, List.set_cons_succ] at hq); replace ho := hq; clear hq)
    | (refine go_val_ex rfl (ho.xbox 16 rfl rfl (cs := [.slice (some ⟨oc, 0, none⟩) N N, .int .i64 0, .int .i64 (-1), .bool false]) rfl) ?_; rintro v w1 ⟨bq, rfl, hq⟩; simp only [Act.put, List.setIfInBounds_toArray, List.set_cons_zero, List.set_cons_succ]; (try simp only [List.nil_append, List.cons_append, List.set_cons_zero, List.set_cons_succ] at hq); replace ho := hq; clear hq))
  have hz := crashTo_zero d keep
  rw [← HN.out] at hz
  rw [← hz] at ho
  clear hz
  have hbz : d.busyTo 0 = 0 := by unfold Disk.busyTo; rfl
  have HBZ := Lib.hid hbz
  clear hbz
  go_loopw [6, 7] (fun v i wr => ∃ j : Nat, j ≤ N ∧ i = .int .i64 (j : Int) ∧ v = .int .i64 (d.busyTo j : Int) ∧ Own w wr [blkR oc (refRow (d.crashTo keep j) (List.replicate N (.slice none 0 0))).toArray 110, blkR bq [Value.slice (some ⟨oc, 0, none⟩) N N, .int .i64 0, .int .i64 (-1), .bool false].toArray 107])
    (fun _ i _ => N - (intOf i).toNat)
  case atStart => exact ⟨0, by omega, rfl, by rw [HBZ.out]; rfl, ho⟩
  case round =>
    clear ho
    obtain ⟨j, hj, rfl, rfl, ho⟩ := hrel
    have hj0 : (0 : Int) ≤ (j : Int) := Int.natCast_nonneg j
    by_cases hjN : j < N
    · have hjN' : (j : Int) < (N : Int) := by omega
      have hjc : j < d.cells.length := by rw [← HN.out]; exact hjN
      obtain ⟨a, cp, hrc, hv0, hv1⟩ := HCELL.out j hjN
      have hcok : SecOk (d.cell j).s := HOK.out.cell j
      have hbj := busyTo_le d j
      have hbs := busyTo_succ d j
      obtain ⟨A, B, hA, hsp, hset⟩ := refSplit (cs := d.crashTo keep j) (vs := List.replicate N (.slice none 0 0)) (crashTo_ok HOK.out keep j) (by rw [crashTo_len, List.length_replicate, ← HN.out]) (i := j) (by rw [crashTo_len]; exact hjc)
      have hcc := crashTo_get d keep j hjc
      rw [if_neg (Nat.lt_irrefl j)] at hcc
      have hvv : (List.replicate N (Value.slice none 0 0)).getD j (.slice none 0 0) = .slice none 0 0 := by simp [List.getD_eq_getElem?_getD, hjN]
      rw [hcc, hvv] at hsp
      have hvs : (List.replicate N (Value.slice none 0 0)).set j (.slice none 0 0) = List.replicate N (.slice none 0 0) := by
        apply List.ext_getElem
        · simp
        · intro n h1 h2
          rw [List.getElem_set]
          split <;> simp
      have HSET : Hid (∀ c, c = d.crashCell keep j → SecOk c.s → A ++ refCell (c, .slice none 0 0) ++ B = refRow (d.crashTo keep (j + 1)) (List.replicate N (.slice none 0 0))) := Lib.hid (fun c hc hcs => by
        have := hset c (.slice none 0 0) hcs
        rw [hvs, hc, crashTo_set d keep hjc] at this
        rw [hc]; exact this.symm)
      rw [hsp] at ho
      have HRC := Lib.hid hrc
      obtain ⟨bj, hbje⟩ : ∃ b, b = d.busyTo j := ⟨_, rfl⟩
      rw [← hbje] at hbj hbs
      have hb0 : (0 : Int) ≤ (bj : Int) := Int.natCast_nonneg bj
      by_cases hem : d.opn j = []
      · obtain ⟨rfl, rfl⟩ := hv0 hem
        rw [hem] at HRC
        rw [List.length_nil] at HRC
        rw [if_pos hem] at hbs
        have hce : d.cell j = d.crashCell keep j := by unfold Disk.crashCell; rw [if_pos hem]
        have HSE := Lib.hid (HSET.out (d.cell j) hce hcok)
        have HBS := Lib.hid hbs
        generalize d.cell j = c at *
        clear hem hv0 hv1 hrc hsp hset hcc hvv hvs hbs hce HSET hjc
        rw [← hbje]
        have HBE := Lib.hid hbje
        clear hbje
        go_upto_region 7 with (first
          | (refine go_val rfl (exl_cellsl (x := .tmp 20) rfl rfl (ho.nw0.cell HC0.out (fun h => h))) ?_; simp only [Act.put, List.setIfInBounds_toArray, List.set_cons_zero, List.set_cons_succ])
          | (refine go_val rfl (exl_cellsl (x := .tmp 28) rfl rfl (ho.nw0.cell HC0.out (fun h => h))) ?_; simp only [Act.put, List.setIfInBounds_toArray, List.set_cons_zero, List.set_cons_succ])
          | (refine go_val rfl (exl_ropen (x := .tmp 32) (range_of_nw HRC.out ho.nw0) hcok rfl rfl) ?_; simp only [Act.put, List.setIfInBounds_toArray, List.set_cons_zero, List.set_cons_succ]))
        refine start_ (n := 14) (S := fun w' => Own w w' [blkR oc (A ++ refCell (zeroCell, .slice none 0 0) ++ B).toArray 110, blkR bq [Value.slice (some ⟨oc, 0, none⟩) N N, .int .i64 0, .int .i64 (-1), .bool false].toArray 107]) (ds := [13]) #[false, false, false, false, false, false, false, false, false, false, false, false, false, false] mixed rfl rfl ((ho.nw ((Nw.refl _).drew))) (fun hHeld => ?_)
        refine pure_ (i := 0) (N := some 36) (v := ?_) (a' := ?_) #[true, false, false, false, false, false, false, false, false, false, false, false, false, false] rfl rfl (by kernel_rfl) (fun _ _ _ h => h) (Or.inl ⟨by rfl, ?_⟩) ?_ ?_
        rotate_left
        · intro w'
          go_simp
          with_reducible rfl
        rotate_left
        · simp only [Act.put, List.setIfInBounds_toArray, List.set_cons_zero, List.set_cons_succ, i64_w, i32_w]
          rfl
        refine pure_ (i := 1) (N := some 37) (v := ?_) (a' := ?_) #[true, true, false, false, false, false, false, false, false, false, false, false, false, false] rfl rfl (by kernel_rfl) (fun _ _ _ h => h) (Or.inl ⟨by rfl, ?_⟩) ?_ ?_
        rotate_left
        · intro w'
          go_simp
          with_reducible rfl
        rotate_left
        · simp only [Act.put, List.setIfInBounds_toArray, List.set_cons_zero, List.set_cons_succ, i64_w, i32_w]
          rfl
        refine pure_ (i := 2) (N := some 38) (v := ?_) (a' := ?_) #[true, true, true, false, false, false, false, false, false, false, false, false, false, false] rfl rfl (by kernel_rfl) (fun _ _ _ h => h) (Or.inl ⟨by rfl, ?_⟩) ?_ ?_
        rotate_left
        · intro w'
          go_simp
          with_reducible rfl
        rotate_left
        · simp only [Act.put, List.setIfInBounds_toArray, List.set_cons_zero, List.set_cons_succ, i64_w, i32_w]
          rfl
        refine pure_ (i := 4) (N := some 40) (v := ?_) (a' := ?_) #[true, true, true, false, true, false, false, false, false, false, false, false, false, false] rfl rfl (by kernel_rfl) (fun _ _ _ h => h) (Or.inl ⟨by rfl, ?_⟩) ?_ ?_
        rotate_left
        · intro w'
          go_simp
          with_reducible rfl
        rotate_left
        · simp only [Act.put, List.setIfInBounds_toArray, List.set_cons_zero, List.set_cons_succ, i64_w, i32_w]
          rfl
        refine pure_ (i := 5) (N := some 41) (v := ?_) (a' := ?_) #[true, true, true, false, true, true, false, false, false, false, false, false, false, false] rfl rfl (by kernel_rfl) (fun _ _ _ h => h) (Or.inl ⟨by rfl, ?_⟩) ?_ ?_
        rotate_left
        · intro w'
          go_simp
          with_reducible rfl
        rotate_left
        · simp only [Act.put, List.setIfInBounds_toArray, List.set_cons_zero, List.set_cons_succ, i64_w, i32_w]
          rfl
        refine pure_ (i := 6) (N := some 42) (v := ?_) (a' := ?_) #[true, true, true, false, true, true, true, false, false, false, false, false, false, false] rfl rfl (by kernel_rfl) (fun _ _ _ h => h) (Or.inl ⟨by rfl, ?_⟩) ?_ ?_
        rotate_left
        · intro w'
          go_simp
          with_reducible rfl
        rotate_left
        · simp only [Act.put, List.setIfInBounds_toArray, List.set_cons_zero, List.set_cons_succ, i64_w, i32_w]
          rfl
        refine pure_ (i := 7) (N := some 43) (v := ?_) (a' := ?_) #[true, true, true, false, true, true, true, true, false, false, false, false, false, false] rfl rfl (by kernel_rfl) (fun _ _ _ h => h) (Or.inl ⟨by rfl, ?_⟩) ?_ ?_
        rotate_left
        · intro w'
          go_simp
          with_reducible rfl
        rotate_left
        · simp only [Act.put, List.setIfInBounds_toArray, List.set_cons_zero, List.set_cons_succ, i64_w, i32_w]
          rfl
        refine pure_ (i := 9) (N := some 45) (v := ?_) (a' := ?_) #[true, true, true, false, true, true, true, true, false, true, false, false, false, false] rfl rfl (by kernel_rfl) (fun _ _ _ h => h) (Or.inl ⟨by rfl, ?_⟩) ?_ ?_
        rotate_left
        · intro w'
          go_simp
          with_reducible rfl
        rotate_left
        · simp only [Act.put, List.setIfInBounds_toArray, List.set_cons_zero, List.set_cons_succ, i64_w, i32_w]
          rfl
        refine take_ (i := 3) (N := some 39) (v := .slice (some ⟨oc, 0, none⟩) N N) (a' := ?_) #[true, true, true, true, true, true, true, true, false, true, false, false, false, false] rfl rfl (by kernel_rfl) (fun _ _ _ h => h) (Or.inl ⟨by rfl, ?_⟩) hHeld ?_ ?_
        · intro w' s0
          exact s0.xlcells (k := 1) (j := 0) rfl rfl rfl rfl
        rotate_left
        · simp only [Act.put, List.setIfInBounds_toArray, List.set_cons_zero, List.set_cons_succ, i64_w, i32_w]
          rfl
        refine take_ (i := 8) (N := some 44) (v := .slice (some ⟨bc, 0, none⟩) N N) (a' := ?_) #[true, true, true, true, true, true, true, true, true, true, false, false, false, false] rfl rfl (by kernel_rfl) (fun _ _ _ h => h) (Or.inl ⟨by rfl, ?_⟩) hHeld ?_ ?_
        · intro w' s0
          exact exl_cellsl rfl rfl (s0.nw0.cell HC0.out (fun h => h))
        rotate_left
        · simp only [Act.put, List.setIfInBounds_toArray, List.set_cons_zero, List.set_cons_succ, i64_w, i32_w]
          rfl
        refine pure_ (i := 10) (N := some 46) (v := ?_) (a' := ?_) #[true, true, true, true, true, true, true, true, true, true, true, false, false, false] rfl rfl (by kernel_rfl) (fun _ _ _ h => h) (Or.inl ⟨by rfl, ?_⟩) ?_ ?_
        rotate_left
        · intro w'
          go_simp
          with_reducible rfl
        rotate_left
        · simp only [Act.put, List.setIfInBounds_toArray, List.set_cons_zero, List.set_cons_succ, i64_w, i32_w]
          rfl
        refine take_ (i := 11) (N := some 47) (v := .agg (refCell (c, .slice none 0 0)).toArray) (a' := ?_) #[true, true, true, true, true, true, true, true, true, true, true, true, false, false] rfl rfl (by kernel_rfl) (fun _ _ _ h => h) (Or.inl ⟨by rfl, ?_⟩) hHeld ?_ ?_
        · intro w' s0
          exact exl_rcell (range_of_nw HRC.out s0.nw0) hcok rfl rfl
        rotate_left
        · simp only [Act.put, List.setIfInBounds_toArray, List.set_cons_zero, List.set_cons_succ, i64_w, i32_w]
          rfl
        refine pure_ (i := 12) (N := some 48) (v := ?_) (a' := ?_) #[true, true, true, true, true, true, true, true, true, true, true, true, true, false] rfl rfl (by kernel_rfl) (fun _ _ _ h => h) (Or.inl ⟨by rfl, ?_⟩) ?_ ?_
        rotate_left
        · intro w'
          go_simp
          with_reducible rfl
        rotate_left
        · simp only [Act.put, List.setIfInBounds_toArray, List.set_cons_zero, List.set_cons_succ, i64_w, i32_w]
          rfl
        refine last_ (i := 13) (N := none) #[true, true, true, true, true, true, true, true, true, true, true, true, true, true] rfl rfl (by kernel_rfl) (by decide) (fun K hK => ?_)
        have s0 := hHeld
        refine skip_ex (by rfl) rfl (s0.xrscell (k := 0) (i := j) (c' := c) (v' := .slice none 0 0) rfl hA zeroSec_ok hcok rfl rfl rfl rfl) ?_
        rintro wc hq
        refine hK.out _ _ ?_
        clear hK K
        refine done_ (by kernel_rfl) ?_
        clear ho hHeld s0
        (try simp only [List.nil_append, List.cons_append, List.set_cons_zero, List.set_cons_succ] at hq); replace ho := hq; clear hq
        rw [HSE.out] at ho
        go_wp2
        exact ⟨⟨j + 1, by omega, by go_num, by rw [HBS.out], ho⟩, by simp [intOf]; omega⟩
      · obtain ⟨g, rfl, hgr⟩ := hv1 hem
        rw [if_neg hem] at hbs
        obtain ⟨x, hx⟩ : ∃ x, x = keepAt keep bj := ⟨_, rfl⟩
        obtain ⟨fc, hfc⟩ : ∃ fc, fc = found (d.cell j) (d.opn j) x := ⟨_, rfl⟩
        have hce : fc = d.crashCell keep j := by
          unfold Disk.crashCell
          rw [if_neg hem, busy_idx hjc hem, hfc, hx, hbje]
        have hfo : SecOk fc.s := by rw [hce]; exact crashCell_ok' HOK.out keep hjc
        have HSE := Lib.hid (HSET.out fc hce hfo)
        have HBS := Lib.hid hbs
        have hopl := HOK.out.opnLen j
        have hopok := HOK.out.opnOk j
        have hcb := HOK.out.cellBad j
        have hpl := List.length_pos_iff.2 hem
        obtain ⟨n, hn⟩ : ∃ n, n = (d.opn j).length := ⟨_, rfl⟩
        have hxr : -9223372036854775808 ≤ x ∧ x ≤ 9223372036854775807 := by
          rw [hx]
          unfold keepAt
          split
          · omega
          · rename_i hne
            have hlt : bj % keep.length < keep.length := Nat.mod_lt _ (List.length_pos_iff.2 hne)
            rw [List.getD_eq_getElem?_getD, List.getElem?_eq_getElem hlt]
            exact HK64.out _ (List.getElem_mem hlt)
        rw [← hn] at HRC hgr hopl hpl
        have HKEPT : Hid (∀ (W : World), Nw w W → Calls Try.prog 59 #[.agg (refCell (d.cell j, .slice (some ⟨g, 0, none⟩) n cp)).toArray, .int .i64 x] W fun e w' => e = .returned (.agg (refCell (fc, .slice none 0 0)).toArray) ∧ Nw W w') := Lib.hid (fun W hW => by
          rw [hfc]
          exact rkept_calls (fun q hq => range_of_nw (hgr q hq) hW) hopok hem hn (by omega) hcok (fun hb => by rw [hcb hb]; rfl) hxr.1 hxr.2)
        have hn0 : (0 : Int) < (n : Int) := by omega
        have hnl : n ≤ 1000000 := by omega
        generalize d.cell j = c at *
        clear hem hv0 hv1 hrc hsp hset hcc hvv hvs hbs hce hfc HSET hopl hopok hcb hgr hn hjc hxr hpl
        rw [← hbje]
        have HBE := Lib.hid hbje
        clear hbje
        by_cases hke : keep = []
        · have hkn : km = 0 := by rw [HKM.out, hke]; rfl
          have hx0 : x = 0 := by rw [hx]; unfold keepAt; rw [if_pos hke]
          subst hkn
          subst hx0
          clear hke hx
          go_upto_region 11 with (first
            | (refine go_val rfl (exl_cellsl (x := .tmp 20) rfl rfl (ho.nw0.cell HC0.out (fun h => h))) ?_; simp only [Act.put, List.setIfInBounds_toArray, List.set_cons_zero, List.set_cons_succ])
            | (refine go_val rfl (exl_cellsl (x := .tmp 28) rfl rfl (ho.nw0.cell HC0.out (fun h => h))) ?_; simp only [Act.put, List.setIfInBounds_toArray, List.set_cons_zero, List.set_cons_succ])
            | (refine go_val rfl (exl_ropen (x := .tmp 32) (range_of_nw HRC.out ho.nw0) hcok rfl rfl) ?_; simp only [Act.put, List.setIfInBounds_toArray, List.set_cons_zero, List.set_cons_succ]))
          refine start_ (n := 16) (S := fun w' => Own w w' [blkR oc (A ++ refCell (zeroCell, .slice none 0 0) ++ B).toArray 110, blkR bq [Value.slice (some ⟨oc, 0, none⟩) N N, .int .i64 0, .int .i64 (-1), .bool false].toArray 107]) (ds := [15]) #[false, false, false, false, false, false, false, false, false, false, false, false, false, false, false, false] mixed rfl rfl ((ho.nw ((Nw.refl _).drew))) (fun hHeld => ?_)
          refine pure_ (i := 0) (N := some 59) (v := ?_) (a' := ?_) #[true, false, false, false, false, false, false, false, false, false, false, false, false, false, false, false] rfl rfl (by kernel_rfl) (fun _ _ _ h => h) (Or.inl ⟨by rfl, ?_⟩) ?_ ?_
          rotate_left
          · intro w'
            go_simp
            with_reducible rfl
          rotate_left
          · simp only [Act.put, List.setIfInBounds_toArray, List.set_cons_zero, List.set_cons_succ, i64_w, i32_w]
            rfl
          refine pure_ (i := 1) (N := some 60) (v := ?_) (a' := ?_) #[true, true, false, false, false, false, false, false, false, false, false, false, false, false, false, false] rfl rfl (by kernel_rfl) (fun _ _ _ h => h) (Or.inl ⟨by rfl, ?_⟩) ?_ ?_
          rotate_left
          · intro w'
            go_simp
            with_reducible rfl
          rotate_left
          · simp only [Act.put, List.setIfInBounds_toArray, List.set_cons_zero, List.set_cons_succ, i64_w, i32_w]
            rfl
          refine pure_ (i := 2) (N := some 61) (v := ?_) (a' := ?_) #[true, true, true, false, false, false, false, false, false, false, false, false, false, false, false, false] rfl rfl (by kernel_rfl) (fun _ _ _ h => h) (Or.inl ⟨by rfl, ?_⟩) ?_ ?_
          rotate_left
          · intro w'
            go_simp
            with_reducible rfl
          rotate_left
          · simp only [Act.put, List.setIfInBounds_toArray, List.set_cons_zero, List.set_cons_succ, i64_w, i32_w]
            rfl
          refine pure_ (i := 4) (N := some 63) (v := ?_) (a' := ?_) #[true, true, true, false, true, false, false, false, false, false, false, false, false, false, false, false] rfl rfl (by kernel_rfl) (fun _ _ _ h => h) (Or.inl ⟨by rfl, ?_⟩) ?_ ?_
          rotate_left
          · intro w'
            go_simp
            with_reducible rfl
          rotate_left
          · simp only [Act.put, List.setIfInBounds_toArray, List.set_cons_zero, List.set_cons_succ, i64_w, i32_w]
            rfl
          refine pure_ (i := 5) (N := some 64) (v := ?_) (a' := ?_) #[true, true, true, false, true, true, false, false, false, false, false, false, false, false, false, false] rfl rfl (by kernel_rfl) (fun _ _ _ h => h) (Or.inl ⟨by rfl, ?_⟩) ?_ ?_
          rotate_left
          · intro w'
            go_simp
            with_reducible rfl
          rotate_left
          · simp only [Act.put, List.setIfInBounds_toArray, List.set_cons_zero, List.set_cons_succ, i64_w, i32_w]
            rfl
          refine pure_ (i := 6) (N := some 65) (v := ?_) (a' := ?_) #[true, true, true, false, true, true, true, false, false, false, false, false, false, false, false, false] rfl rfl (by kernel_rfl) (fun _ _ _ h => h) (Or.inl ⟨by rfl, ?_⟩) ?_ ?_
          rotate_left
          · intro w'
            go_simp
            with_reducible rfl
          rotate_left
          · simp only [Act.put, List.setIfInBounds_toArray, List.set_cons_zero, List.set_cons_succ, i64_w, i32_w]
            rfl
          refine pure_ (i := 7) (N := some 66) (v := ?_) (a' := ?_) #[true, true, true, false, true, true, true, true, false, false, false, false, false, false, false, false] rfl rfl (by kernel_rfl) (fun _ _ _ h => h) (Or.inl ⟨by rfl, ?_⟩) ?_ ?_
          rotate_left
          · intro w'
            go_simp
            with_reducible rfl
          rotate_left
          · simp only [Act.put, List.setIfInBounds_toArray, List.set_cons_zero, List.set_cons_succ, i64_w, i32_w]
            rfl
          refine pure_ (i := 9) (N := some 68) (v := ?_) (a' := ?_) #[true, true, true, false, true, true, true, true, false, true, false, false, false, false, false, false] rfl rfl (by kernel_rfl) (fun _ _ _ h => h) (Or.inl ⟨by rfl, ?_⟩) ?_ ?_
          rotate_left
          · intro w'
            go_simp
            with_reducible rfl
          rotate_left
          · simp only [Act.put, List.setIfInBounds_toArray, List.set_cons_zero, List.set_cons_succ, i64_w, i32_w]
            rfl
          refine pure_ (i := 12) (N := some 71) (v := ?_) (a' := ?_) #[true, true, true, false, true, true, true, true, false, true, false, false, true, false, false, false] rfl rfl (by kernel_rfl) (fun _ _ _ h => h) (Or.inl ⟨by rfl, ?_⟩) ?_ ?_
          rotate_left
          · intro w'
            go_simp
            with_reducible rfl
          rotate_left
          · simp only [Act.put, List.setIfInBounds_toArray, List.set_cons_zero, List.set_cons_succ, i64_w, i32_w]
            rfl
          refine take_ (i := 3) (N := some 62) (v := .slice (some ⟨oc, 0, none⟩) N N) (a' := ?_) #[true, true, true, true, true, true, true, true, false, true, false, false, true, false, false, false] rfl rfl (by kernel_rfl) (fun _ _ _ h => h) (Or.inl ⟨by rfl, ?_⟩) hHeld ?_ ?_
          · intro w' s0
            exact s0.xlcells (k := 1) (j := 0) rfl rfl rfl rfl
          rotate_left
          · simp only [Act.put, List.setIfInBounds_toArray, List.set_cons_zero, List.set_cons_succ, i64_w, i32_w]
            rfl
          refine take_ (i := 8) (N := some 67) (v := .slice (some ⟨bc, 0, none⟩) N N) (a' := ?_) #[true, true, true, true, true, true, true, true, true, true, false, false, true, false, false, false] rfl rfl (by kernel_rfl) (fun _ _ _ h => h) (Or.inl ⟨by rfl, ?_⟩) hHeld ?_ ?_
          · intro w' s0
            exact exl_cellsl rfl rfl (s0.nw0.cell HC0.out (fun h => h))
          rotate_left
          · simp only [Act.put, List.setIfInBounds_toArray, List.set_cons_zero, List.set_cons_succ, i64_w, i32_w]
            rfl
          refine pure_ (i := 10) (N := some 69) (v := ?_) (a' := ?_) #[true, true, true, true, true, true, true, true, true, true, true, false, true, false, false, false] rfl rfl (by kernel_rfl) (fun _ _ _ h => h) (Or.inl ⟨by rfl, ?_⟩) ?_ ?_
          rotate_left
          · intro w'
            go_simp
            with_reducible rfl
          rotate_left
          · simp only [Act.put, List.setIfInBounds_toArray, List.set_cons_zero, List.set_cons_succ, i64_w, i32_w]
            rfl
          refine take_ (i := 11) (N := some 70) (v := .agg (refCell (c, .slice (some ⟨g, 0, none⟩) n cp)).toArray) (a' := ?_) #[true, true, true, true, true, true, true, true, true, true, true, true, true, false, false, false] rfl rfl (by kernel_rfl) (fun _ _ _ h => h) (Or.inl ⟨by rfl, ?_⟩) hHeld ?_ ?_
          · intro w' s0
            exact exl_rcell (range_of_nw HRC.out s0.nw0) hcok rfl rfl
          rotate_left
          · simp only [Act.put, List.setIfInBounds_toArray, List.set_cons_zero, List.set_cons_succ, i64_w, i32_w]
            rfl
          refine one_ (i := 13) (N := some 72) #[true, true, true, true, true, true, true, true, true, true, true, true, true, true, false, false] rfl rfl (by kernel_rfl) (by decide) (fun K hK => ?_)
          have s0 := hHeld
          refine goes_ Try.func59 (by kernel_rfl) rfl #[.agg (refCell (c, .slice (some ⟨g, 0, none⟩) n cp)).toArray, .int .i64 0] (by rfl) rfl rfl (by simp only [List.map_toArray, List.map_cons, List.map_nil]; rfl) ?_
          with_reducible refine ((HKEPT.out _ s0.nw0)).mono ?_
          rintro e w5 ⟨rfl, hn5⟩
          refine ⟨_, rfl, ?_⟩
          refine hK.out _ _ ((s0.nw hn5)) (fun hHeld => ?_)
          clear hK K
          refine norm_ (a' := ?_) ?_ ?_
          rotate_left
          · show Act.put _ (some 72) _ = _
            simp only [Act.put, List.setIfInBounds_toArray, List.set_cons_zero, List.set_cons_succ, i64_w, i32_w]
            rfl
          refine pure_ (i := 14) (N := some 73) (v := ?_) (a' := ?_) #[true, true, true, true, true, true, true, true, true, true, true, true, true, true, true, false] rfl rfl (by kernel_rfl) (fun _ _ _ h => h) (Or.inl ⟨by rfl, ?_⟩) ?_ ?_
          rotate_left
          · intro w'
            go_simp
            with_reducible rfl
          rotate_left
          · simp only [Act.put, List.setIfInBounds_toArray, List.set_cons_zero, List.set_cons_succ, i64_w, i32_w]
            rfl
          refine last_ (i := 15) (N := none) #[true, true, true, true, true, true, true, true, true, true, true, true, true, true, true, true] rfl rfl (by kernel_rfl) (by decide) (fun K hK => ?_)
          have s0 := hHeld
          refine skip_ex (by rfl) rfl (s0.xrscell (k := 0) (i := j) (c' := fc) (v' := .slice none 0 0) rfl hA zeroSec_ok hfo rfl rfl rfl rfl) ?_
          rintro wc hq
          refine hK.out _ _ ?_
          clear hK K
          refine done_ (by kernel_rfl) ?_
          clear ho hHeld s0
          (try simp only [List.nil_append, List.cons_append, List.set_cons_zero, List.set_cons_succ] at hq); replace ho := hq; clear hq
          rw [HSE.out] at ho
          go_wp2
          exact ⟨⟨j + 1, by omega, by go_num, by rw [HBS.out]; rfl, ho⟩, by simp [intOf]; omega⟩
        · have hkp : 0 < km := by rw [HKM.out]; exact List.length_pos_iff.2 hke
          obtain ⟨kb, ko, rfl, hkr⟩ := HKR.out hke
          obtain ⟨jm, hjm⟩ : ∃ jm, jm = bj % km := ⟨_, rfl⟩
          have hjl : jm < km := by rw [hjm]; exact Nat.mod_lt _ hkp
          have hjl2 : jm < keep.length := by rw [← HKM.out]; exact hjl
          have hxk : keep[jm]? = some x := by
            rw [hx]
            unfold keepAt
            rw [if_neg hke, ← HKM.out, ← hjm, List.getD_eq_getElem?_getD, List.getElem?_eq_getElem hjl2]
            rfl
          have hcx : w.cell? ⟨kb, ko + jm, none⟩ = some (.int .i64 x) := hkr jm _ (by unfold intVals; rw [List.getElem?_map, hxk]; rfl)
          have hmod : (bj : Int).tmod (km : Int) = (jm : Int) := by rw [hjm, Int.tmod_eq_emod_of_nonneg (by omega)]; rfl
          have hjm1 : (jm : Int) < (km : Int) := by omega
          have hkl0 : (0 : Int) < (km : Int) := by omega
          have hjm0 : (0 : Int) ≤ (jm : Int) := Int.natCast_nonneg jm
          have HCX := Lib.hid hcx
          clear hke hx hkr hxk hcx hjl hjl2 hjm hkp
          go_upto_region 11 with (first
            | (refine go_val rfl (exl_cellsl (x := .tmp 20) rfl rfl (ho.nw0.cell HC0.out (fun h => h))) ?_; simp only [Act.put, List.setIfInBounds_toArray, List.set_cons_zero, List.set_cons_succ])
            | (refine go_val rfl (exl_cellsl (x := .tmp 28) rfl rfl (ho.nw0.cell HC0.out (fun h => h))) ?_; simp only [Act.put, List.setIfInBounds_toArray, List.set_cons_zero, List.set_cons_succ])
            | (refine go_val rfl (exl_ropen (x := .tmp 32) (range_of_nw HRC.out ho.nw0) hcok rfl rfl) ?_; simp only [Act.put, List.setIfInBounds_toArray, List.set_cons_zero, List.set_cons_succ])
            | (refine go_val rfl (exl_int (x := .tmp 57) rfl rfl (ho.nw0.cell HCX.out (fun h => h))) ?_; simp only [Act.put, List.setIfInBounds_toArray, List.set_cons_zero, List.set_cons_succ]))
          refine start_ (n := 16) (S := fun w' => Own w w' [blkR oc (A ++ refCell (zeroCell, .slice none 0 0) ++ B).toArray 110, blkR bq [Value.slice (some ⟨oc, 0, none⟩) N N, .int .i64 0, .int .i64 (-1), .bool false].toArray 107]) (ds := [15]) #[false, false, false, false, false, false, false, false, false, false, false, false, false, false, false, false] mixed rfl rfl ((ho.nw ((Nw.refl _).drew))) (fun hHeld => ?_)
          refine pure_ (i := 0) (N := some 59) (v := ?_) (a' := ?_) #[true, false, false, false, false, false, false, false, false, false, false, false, false, false, false, false] rfl rfl (by kernel_rfl) (fun _ _ _ h => h) (Or.inl ⟨by rfl, ?_⟩) ?_ ?_
          rotate_left
          · intro w'
            go_simp
            with_reducible rfl
          rotate_left
          · simp only [Act.put, List.setIfInBounds_toArray, List.set_cons_zero, List.set_cons_succ, i64_w, i32_w]
            rfl
          refine pure_ (i := 1) (N := some 60) (v := ?_) (a' := ?_) #[true, true, false, false, false, false, false, false, false, false, false, false, false, false, false, false] rfl rfl (by kernel_rfl) (fun _ _ _ h => h) (Or.inl ⟨by rfl, ?_⟩) ?_ ?_
          rotate_left
          · intro w'
            go_simp
            with_reducible rfl
          rotate_left
          · simp only [Act.put, List.setIfInBounds_toArray, List.set_cons_zero, List.set_cons_succ, i64_w, i32_w]
            rfl
          refine pure_ (i := 2) (N := some 61) (v := ?_) (a' := ?_) #[true, true, true, false, false, false, false, false, false, false, false, false, false, false, false, false] rfl rfl (by kernel_rfl) (fun _ _ _ h => h) (Or.inl ⟨by rfl, ?_⟩) ?_ ?_
          rotate_left
          · intro w'
            go_simp
            with_reducible rfl
          rotate_left
          · simp only [Act.put, List.setIfInBounds_toArray, List.set_cons_zero, List.set_cons_succ, i64_w, i32_w]
            rfl
          refine pure_ (i := 4) (N := some 63) (v := ?_) (a' := ?_) #[true, true, true, false, true, false, false, false, false, false, false, false, false, false, false, false] rfl rfl (by kernel_rfl) (fun _ _ _ h => h) (Or.inl ⟨by rfl, ?_⟩) ?_ ?_
          rotate_left
          · intro w'
            go_simp
            with_reducible rfl
          rotate_left
          · simp only [Act.put, List.setIfInBounds_toArray, List.set_cons_zero, List.set_cons_succ, i64_w, i32_w]
            rfl
          refine pure_ (i := 5) (N := some 64) (v := ?_) (a' := ?_) #[true, true, true, false, true, true, false, false, false, false, false, false, false, false, false, false] rfl rfl (by kernel_rfl) (fun _ _ _ h => h) (Or.inl ⟨by rfl, ?_⟩) ?_ ?_
          rotate_left
          · intro w'
            go_simp
            with_reducible rfl
          rotate_left
          · simp only [Act.put, List.setIfInBounds_toArray, List.set_cons_zero, List.set_cons_succ, i64_w, i32_w]
            rfl
          refine pure_ (i := 6) (N := some 65) (v := ?_) (a' := ?_) #[true, true, true, false, true, true, true, false, false, false, false, false, false, false, false, false] rfl rfl (by kernel_rfl) (fun _ _ _ h => h) (Or.inl ⟨by rfl, ?_⟩) ?_ ?_
          rotate_left
          · intro w'
            go_simp
            with_reducible rfl
          rotate_left
          · simp only [Act.put, List.setIfInBounds_toArray, List.set_cons_zero, List.set_cons_succ, i64_w, i32_w]
            rfl
          refine pure_ (i := 7) (N := some 66) (v := ?_) (a' := ?_) #[true, true, true, false, true, true, true, true, false, false, false, false, false, false, false, false] rfl rfl (by kernel_rfl) (fun _ _ _ h => h) (Or.inl ⟨by rfl, ?_⟩) ?_ ?_
          rotate_left
          · intro w'
            go_simp
            with_reducible rfl
          rotate_left
          · simp only [Act.put, List.setIfInBounds_toArray, List.set_cons_zero, List.set_cons_succ, i64_w, i32_w]
            rfl
          refine pure_ (i := 9) (N := some 68) (v := ?_) (a' := ?_) #[true, true, true, false, true, true, true, true, false, true, false, false, false, false, false, false] rfl rfl (by kernel_rfl) (fun _ _ _ h => h) (Or.inl ⟨by rfl, ?_⟩) ?_ ?_
          rotate_left
          · intro w'
            go_simp
            with_reducible rfl
          rotate_left
          · simp only [Act.put, List.setIfInBounds_toArray, List.set_cons_zero, List.set_cons_succ, i64_w, i32_w]
            rfl
          refine pure_ (i := 12) (N := some 71) (v := ?_) (a' := ?_) #[true, true, true, false, true, true, true, true, false, true, false, false, true, false, false, false] rfl rfl (by kernel_rfl) (fun _ _ _ h => h) (Or.inl ⟨by rfl, ?_⟩) ?_ ?_
          rotate_left
          · intro w'
            go_simp
            with_reducible rfl
          rotate_left
          · simp only [Act.put, List.setIfInBounds_toArray, List.set_cons_zero, List.set_cons_succ, i64_w, i32_w]
            rfl
          refine take_ (i := 3) (N := some 62) (v := .slice (some ⟨oc, 0, none⟩) N N) (a' := ?_) #[true, true, true, true, true, true, true, true, false, true, false, false, true, false, false, false] rfl rfl (by kernel_rfl) (fun _ _ _ h => h) (Or.inl ⟨by rfl, ?_⟩) hHeld ?_ ?_
          · intro w' s0
            exact s0.xlcells (k := 1) (j := 0) rfl rfl rfl rfl
          rotate_left
          · simp only [Act.put, List.setIfInBounds_toArray, List.set_cons_zero, List.set_cons_succ, i64_w, i32_w]
            rfl
          refine take_ (i := 8) (N := some 67) (v := .slice (some ⟨bc, 0, none⟩) N N) (a' := ?_) #[true, true, true, true, true, true, true, true, true, true, false, false, true, false, false, false] rfl rfl (by kernel_rfl) (fun _ _ _ h => h) (Or.inl ⟨by rfl, ?_⟩) hHeld ?_ ?_
          · intro w' s0
            exact exl_cellsl rfl rfl (s0.nw0.cell HC0.out (fun h => h))
          rotate_left
          · simp only [Act.put, List.setIfInBounds_toArray, List.set_cons_zero, List.set_cons_succ, i64_w, i32_w]
            rfl
          refine pure_ (i := 10) (N := some 69) (v := ?_) (a' := ?_) #[true, true, true, true, true, true, true, true, true, true, true, false, true, false, false, false] rfl rfl (by kernel_rfl) (fun _ _ _ h => h) (Or.inl ⟨by rfl, ?_⟩) ?_ ?_
          rotate_left
          · intro w'
            go_simp
            with_reducible rfl
          rotate_left
          · simp only [Act.put, List.setIfInBounds_toArray, List.set_cons_zero, List.set_cons_succ, i64_w, i32_w]
            rfl
          refine take_ (i := 11) (N := some 70) (v := .agg (refCell (c, .slice (some ⟨g, 0, none⟩) n cp)).toArray) (a' := ?_) #[true, true, true, true, true, true, true, true, true, true, true, true, true, false, false, false] rfl rfl (by kernel_rfl) (fun _ _ _ h => h) (Or.inl ⟨by rfl, ?_⟩) hHeld ?_ ?_
          · intro w' s0
            exact exl_rcell (range_of_nw HRC.out s0.nw0) hcok rfl rfl
          rotate_left
          · simp only [Act.put, List.setIfInBounds_toArray, List.set_cons_zero, List.set_cons_succ, i64_w, i32_w]
            rfl
          refine one_ (i := 13) (N := some 72) #[true, true, true, true, true, true, true, true, true, true, true, true, true, true, false, false] rfl rfl (by kernel_rfl) (by decide) (fun K hK => ?_)
          have s0 := hHeld
          refine goes_ Try.func59 (by kernel_rfl) rfl #[.agg (refCell (c, .slice (some ⟨g, 0, none⟩) n cp)).toArray, .int .i64 x] (by rfl) rfl rfl (by simp only [List.map_toArray, List.map_cons, List.map_nil]; rfl) ?_
          with_reducible refine ((HKEPT.out _ s0.nw0)).mono ?_
          rintro e w5 ⟨rfl, hn5⟩
          refine ⟨_, rfl, ?_⟩
          refine hK.out _ _ ((s0.nw hn5)) (fun hHeld => ?_)
          clear hK K
          refine norm_ (a' := ?_) ?_ ?_
          rotate_left
          · show Act.put _ (some 72) _ = _
            simp only [Act.put, List.setIfInBounds_toArray, List.set_cons_zero, List.set_cons_succ, i64_w, i32_w]
            rfl
          refine pure_ (i := 14) (N := some 73) (v := ?_) (a' := ?_) #[true, true, true, true, true, true, true, true, true, true, true, true, true, true, true, false] rfl rfl (by kernel_rfl) (fun _ _ _ h => h) (Or.inl ⟨by rfl, ?_⟩) ?_ ?_
          rotate_left
          · intro w'
            go_simp
            with_reducible rfl
          rotate_left
          · simp only [Act.put, List.setIfInBounds_toArray, List.set_cons_zero, List.set_cons_succ, i64_w, i32_w]
            rfl
          refine last_ (i := 15) (N := none) #[true, true, true, true, true, true, true, true, true, true, true, true, true, true, true, true] rfl rfl (by kernel_rfl) (by decide) (fun K hK => ?_)
          have s0 := hHeld
          refine skip_ex (by rfl) rfl (s0.xrscell (k := 0) (i := j) (c' := fc) (v' := .slice none 0 0) rfl hA zeroSec_ok hfo rfl rfl rfl rfl) ?_
          rintro wc hq
          refine hK.out _ _ ?_
          clear hK K
          refine done_ (by kernel_rfl) ?_
          clear ho hHeld s0
          (try simp only [List.nil_append, List.cons_append, List.set_cons_zero, List.set_cons_succ] at hq); replace ho := hq; clear hq
          rw [HSE.out] at ho
          go_wp2
          exact ⟨⟨j + 1, by omega, by go_num, by rw [HBS.out]; rfl, ho⟩, by simp [intOf]; omega⟩
    · have hjN' : ¬ (j : Int) < (N : Int) := by omega
      have e : j = N := by omega
      subst e
      go_wp2_with (first
        | (refine go_val rfl (exl_cellsl (x := .tmp 20) rfl rfl (ho.nw0.cell HC0.out (fun h => h))) ?_; simp only [Act.put, List.setIfInBounds_toArray, List.set_cons_zero, List.set_cons_succ]))
      go_ret
      exact ⟨bq, rfl, HJ.out _ bq oc (ho.pick [1, 0] (by decide) rfl)⟩
end
end Go.Proofs.Ytcaalfpfkalalaa
