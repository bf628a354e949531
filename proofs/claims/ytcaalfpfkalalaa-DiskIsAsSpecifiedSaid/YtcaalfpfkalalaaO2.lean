/- The disk's functions, by what a call owns. -/
import Derived.Test.YtcaalfpfkalalaaO1
set_option linter.unusedVariables false
set_option linter.unusedSimpArgs false
namespace Go.Proofs.Ytcaalfpfkalalaa
open Go.RowKit Qd
section
variable {w0 w : World} {rs : List Res} {p k : Nat} {d : Disk}
theorem Own.new_ (h : Own w0 w rs) (m : Nat) (h1 : 1 ≤ m) (h2 : m ≤ 65536) : Calls Try.prog 8 #[.int .i64 (m : Int)] w fun e w' => ∃ p, e = .returned (.pointer (some ⟨p, 0, none⟩)) ∧ Own w0 w' (rs ++ [diskR p (Disk.new m)]) := by
  refine (new_calls m h1 h2).mono ?_
  rintro e w' ⟨p, S, rfl, hd, ht⟩
  exact ⟨p, rfl, h.diskNew ht hd⟩
theorem Own.write_ (h : Own w0 w rs) (hk : rs[k]? = some (diskR p d)) (i : Int) {s : Sec} (hs : SecOk s) (hst : d.steps < 1099511627775) : Calls Try.prog 10 #[.pointer (some ⟨p, 0, none⟩), .int .i64 i, .agg (secVals s).toArray] w fun e w' =>
    e = .returned (.int .i64 (d.write i s).2) ∧ Own w0 w' (rs.set k (diskR p (d.write i s).1)) := by
  obtain ⟨S, hd, hlt, hup⟩ := h.diskUpd hk
  refine (write_calls hd i hs hst).mono ?_
  rintro e w' ⟨rfl, S', hd', ht⟩
  exact ⟨rfl, hup w' S' _ ht hd'⟩
theorem Own.read_ (h : Own w0 w rs) (hk : rs[k]? = some (diskR p d)) (i : Int) : Calls Try.prog 14 #[.pointer (some ⟨p, 0, none⟩), .int .i64 i] w fun e w' =>
    e = .returned (.tuple #[.agg (secVals (d.read i).1).toArray, .int .i64 (d.read i).2]) ∧ Own w0 w' rs := by
  obtain ⟨S, hd, hlt⟩ := h.disk hk
  refine (read_calls hd i).mono ?_
  rintro e w' ⟨rfl, hn⟩
  exact ⟨rfl, h.nw hn⟩
theorem Own.sync_ (h : Own w0 w rs) (hk : rs[k]? = some (diskR p d)) (hst : d.steps < 1099511627775) : Calls Try.prog 23 #[.pointer (some ⟨p, 0, none⟩)] w fun e w' =>
    e = .returned (.int .i64 d.sync.2) ∧ Own w0 w' (rs.set k (diskR p d.sync.1)) := by
  obtain ⟨S, hd, hlt, hup⟩ := h.diskUpd hk
  refine (sync_calls hd hst).mono ?_
  rintro e w' ⟨rfl, hd', ht⟩
  exact ⟨rfl, hup w' S _ ht hd'⟩
theorem Own.rot_ (h : Own w0 w rs) (hk : rs[k]? = some (diskR p d)) (i : Int) : Calls Try.prog 29 #[.pointer (some ⟨p, 0, none⟩), .int .i64 i] w fun e w' =>
    e = .returned (.int .i64 (d.rot i).2) ∧ Own w0 w' (rs.set k (diskR p (d.rot i).1)) := by
  obtain ⟨S, hd, hlt, hup⟩ := h.diskUpd hk
  refine (rot_calls hd i).mono ?_
  rintro e w' ⟨rfl, hd', ht⟩
  exact ⟨rfl, hup w' S _ ht hd'⟩
theorem Own.flip_ (h : Own w0 w rs) (hk : rs[k]? = some (diskR p d)) (i b : Int) : Calls Try.prog 43 #[.pointer (some ⟨p, 0, none⟩), .int .i64 i, .int .i64 b] w fun e w' =>
    e = .returned (.int .i64 (d.flip i b).2) ∧ Own w0 w' (rs.set k (diskR p (d.flip i b).1)) := by
  obtain ⟨S, hd, hlt, hup⟩ := h.diskUpd hk
  refine (flip_calls hd i b).mono ?_
  rintro e w' ⟨rfl, hd', ht⟩
  exact ⟨rfl, hup w' S _ ht hd'⟩
theorem Own.arm_ (h : Own w0 w rs) (hk : rs[k]? = some (diskR p d)) (n : Int) (hn : n ≤ 9223372036854775807) : Calls Try.prog 22 #[.pointer (some ⟨p, 0, none⟩), .int .i64 n] w fun e w' =>
    e = .returned (.tuple #[]) ∧ Own w0 w' (rs.set k (diskR p (d.arm n))) := by
  obtain ⟨S, hd, hlt, hup⟩ := h.diskUpd hk
  refine (arm_calls hd n hn).mono ?_
  rintro e w' ⟨rfl, hd', ht⟩
  exact ⟨rfl, hup w' S _ ht hd'⟩
theorem Own.size_ (h : Own w0 w rs) (hk : rs[k]? = some (diskR p d)) : Calls Try.prog 36 #[.pointer (some ⟨p, 0, none⟩)] w fun e w' => e = .returned (.int .i64 d.cells.length) ∧ w' = w := by
  obtain ⟨S, hd, hlt⟩ := h.disk hk
  exact size_calls hd
theorem Own.steps_ (h : Own w0 w rs) (hk : rs[k]? = some (diskR p d)) : Calls Try.prog 25 #[.pointer (some ⟨p, 0, none⟩)] w fun e w' => e = .returned (.int .i64 d.steps) ∧ w' = w := by
  obtain ⟨S, hd, hlt⟩ := h.disk hk
  exact steps_calls hd
theorem Own.down_ (h : Own w0 w rs) (hk : rs[k]? = some (diskR p d)) : Calls Try.prog 24 #[.pointer (some ⟨p, 0, none⟩)] w fun e w' => e = .returned (.bool d.dead) ∧ w' = w := by
  obtain ⟨S, hd, hlt⟩ := h.disk hk
  exact down_calls hd
theorem Own.open_ (h : Own w0 w rs) (hk : rs[k]? = some (diskR p d)) (hst : d.steps ≤ 1000000) : Calls Try.prog 42 #[.pointer (some ⟨p, 0, none⟩)] w fun e w' =>
    ∃ a c, e = .returned (.slice a d.openList.length c) ∧ KeepIs w' (.slice a d.openList.length c) d.openList ∧ Own w0 w' rs := by
  obtain ⟨S, hd, hlt⟩ := h.disk hk
  refine (open_calls hd hst).mono ?_
  rintro e w' ⟨v, rfl, ho, hn⟩
  have hkp := keep_of_owns ho rfl
  obtain ⟨a, c, rfl⟩ := own_slice ho
  exact ⟨a, c, rfl, hkp, h.nw hn⟩
theorem Own.crash_ (h : Own w0 w rs) (hk : rs[k]? = some (diskR p d)) {keep : List Int} (hk64 : ∀ x ∈ keep, -9223372036854775808 ≤ x ∧ x ≤ 9223372036854775807) (hkl : keep.length < 1099511627776) (hst : d.steps ≤ 1000000) {kv : Value} (hkv : KeepIs w kv keep) :
    Calls Try.prog 26 #[.pointer (some ⟨p, 0, none⟩), kv] w fun e w' =>
      ∃ q, e = .returned (.pointer (some ⟨q, 0, none⟩)) ∧ Own w0 w' (rs ++ [diskR q (d.crash keep)]) := by
  obtain ⟨S, hd, hlt⟩ := h.disk hk
  refine (crash_calls hd hk64 hkl hst hkv).mono ?_
  rintro e w' ⟨q, S', rfl, hd', ht⟩
  exact ⟨q, rfl, h.diskNew ht hd'⟩
theorem Own.filled_ (h : Own w0 w rs) (b : Int) : Calls Try.prog 11 #[.int .i64 b] w fun e w' => e = .returned (.agg (secVals (filled b)).toArray) ∧ Own w0 w' rs := by
  refine (filled_calls b).mono ?_
  rintro e w' ⟨rfl, hn⟩
  exact ⟨rfl, h.nw hn⟩
theorem Own.same_ (h : Own w0 w rs) {va vb : Value} {la lb : List Int} (ha : KeepIs w va la) (hb : KeepIs w vb lb) (hl : la.length < 1099511627776) (hl2 : lb.length < 1099511627776) :
    Calls Try.prog 41 #[va, vb] w fun e w' => e = .returned (.bool (decide (la = lb))) ∧ Own w0 w' rs := by
  refine (same_calls ha hb hl hl2).mono ?_
  rintro e w' ⟨rfl, hn⟩
  exact ⟨rfl, h.nw hn⟩
/-- A sector in a block of its own: read, written. -/
theorem Own.secRange {b : Nat} {s : Sec} (h : Own w0 w rs) (hk : rs[k]? = some (blkR b (secVals s).toArray 29)) : w.rangeAt b 0 (secVals s) := sec_range_of_blk (h.blk hk).1
theorem Own.secThere {b : Nat} {s : Sec} (h : Own w0 w rs) (hk : rs[k]? = some (blkR b (secVals s).toArray 29)) (hs : SecOk s) : w.there b 0 64 := sec_there_of_blk hs (h.blk hk).1
theorem Own.secSet {b : Nat} {s s' : Sec} (h : Own w0 w rs) (hk : rs[k]? = some (blkR b (secVals s).toArray 29)) (hs : SecOk s) (hs' : SecOk s') : Own w0 (w.setCells b 0 (secVals s')) (rs.set k (blkR b (secVals s').toArray 29)) := by
  refine h.set hk (by rw [List.size_toArray, sec64 hs, sec64 hs']; omega) ?_
  have e : (secVals s).toArray.toList.drop (0 + (secVals s').length) = [] := List.drop_eq_nil_of_le (by simp [secVals, hs.1, hs'.1])
  rw [e]
  simp
/-- .. as operations. -/
theorem Own.xalloc {o : Oper} {ρ : Operand → Value} (h : Own w0 w rs) (ho : o.op = .alloc 29) : ∃ v w1, (execOp ρ o).run Try.prog w = .ok (.value v) w1 ∧ ∃ b, v = .pointer (some ⟨b, 0, none⟩) ∧ Own w0 w1 (rs ++ [blkR b (secVals zeroSec).toArray 29]) :=
  ⟨_, _, exa_sec ho, _, rfl, h.alloc _ _⟩
theorem Own.xstore {o : Oper} {ρ : Operand → Value} {x y : Operand} {b : Nat} {s s' : Sec} (h : Own w0 w rs) (ho : o.op = .store 29 x y) (hx : ρ x = .pointer (some ⟨b, 0, none⟩)) (hk : rs[k]? = some (blkR b (secVals s).toArray 29)) (hs : SecOk s) (hs' : SecOk s')
    (hy : ρ y = .agg (secVals s').toArray) : ∃ w1, (execOp ρ o).run Try.prog w = .ok .skip w1 ∧ Own w0 w1 (rs.set k (blkR b (secVals s').toArray 29)) :=
  ⟨_, exs_sec ho hx hs' hy (h.secThere hk hs), h.secSet hk hs hs'⟩
theorem Own.xload {o : Oper} {ρ : Operand → Value} {x : Operand} {b : Nat} {s : Sec} (h : Own w0 w rs) (ho : o.op = .load 29 x) (hx : ρ x = .pointer (some ⟨b, 0, none⟩)) (hk : rs[k]? = some (blkR b (secVals s).toArray 29)) (hs : SecOk s) :
    (execOp ρ o).run Try.prog w = .ok (.value (.agg (secVals s).toArray)) w := exl_sec ho hx hs (h.secRange hk)
end
end Go.Proofs.Ytcaalfpfkalalaa
