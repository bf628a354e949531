/- SlotsKeepApart: the plain law; calls of layer 22 that came in; rows of sectors in a block. -/
import Derived.Test.YtcaalfpfkalalaaS18
import Derived.Test.YtcaalfpfkalalaaO5
set_option linter.unusedVariables false
set_option linter.unusedSimpArgs false
set_option maxRecDepth 10000
set_option maxHeartbeats 4000000
namespace Qd
variable {D : Disk} {N m : Nat}
theorem Live.openSame (h : Live D N m) {first n : Nat} (hN : first + 2 * n ≤ N)
    (hg : ∀ i, i < n → D.rotten (first + 2 * i) = false ∧ D.rotten (first + 2 * i + 1) = false ∧ D.view (first + 2 * i + 1) = D.view (first + 2 * i) ∧ goodSec (D.view (first + 2 * i)) = true) :
    ∀ (k i : Nat) (lost : List Int), i + k = n → D.openFrom first k i lost = (D, 0, lost)
  | 0, i, lost, _ => rfl
  | k + 1, i, lost, hi => by
    obtain ⟨r1, r2, v1, g1⟩ := hg i (by omega)
    have hs : D.slot first i = ⟨⟨D.view (first + 2 * i), true, 0⟩, ⟨D.view (first + 2 * i), true, 0⟩⟩ := by
      rw [slot_at D first i (first + 2 * i) (by omega), h.side (by omega), h.side (by omega), r1, r2, v1, g1]
      rfl
    have hb : (D.slot first i).best = ⟨D.view (first + 2 * i), true, 0⟩ := by
      rw [hs]; simp [Both.best, Both.second]
    have ho : (D.slot first i).other = ⟨D.view (first + 2 * i), true, 0⟩ := by
      rw [hs]; simp [Both.other, Both.second]
    have he : (D.slot first i).e = 0 := by rw [hs]; rfl
    have hh : D.heal first i = (D, 0) := by
      unfold Disk.heal
      simp only []
      rw [hb, ho]
      simp
    have h1 : D.open1 first i = (D, 0, false) := by
      unfold Disk.open1
      simp only []
      rw [he, hb, hh]
      simp
    have e : D.openFrom first (k + 1) i lost = D.openFrom first k ((i + 1 : Nat) : Int) lost := by
      rw [Disk.openFrom, h1]
      rfl
    rw [e]
    exact Live.openSame h hN hg k (i + 1) lost (by omega)
/-- What SlotsKeepApart keeps: nothing is rotten, and all is b outside of the part. -/
structure KA (D : Disk) (b : Sec) (m : Nat) : Prop where
  live : Live D 10 m
  rot : ∀ x, x < 10 → D.rotten x = false
  out : ∀ x, x < 10 → (x < 2 ∨ 7 < x) → D.view x = b
theorem KA.read {b : Sec} (h : KA D b m) {x : Nat} (hx : x < 10) : D.read x = (D.view x, 0) := by
  rw [h.live.read hx, h.rot x hx]; rfl
def kaStep (D : Disk) (kind a : Int) (bs : List Int) : Disk := if kind = 0 then (D.put 2 3 a bs).1 else if kind = 1 then (D.kill 2 3 a).1 else D
theorem KA.change {b : Sec} (h : KA D b m) {a : Int} (h0 : 0 ≤ a) (h3 : a < 3) {bs : List Int} (hb : ∀ y ∈ bs, 0 ≤ y ∧ y < 256) :
    KA (D.change 2 a bs).1 b (m + 6) ∧ ∀ x : Nat, x < 10 → (D.change 2 a bs).1.view x = D.view x ∨ (2 ≤ x ∧ x < 8 ∧ ((x : Int) - 2) / 2 = a) := by
  obtain ⟨j, hj⟩ : ∃ j : Nat, (2 : Int) + 2 * a = j := ⟨(2 + 2 * a).toNat, by omega⟩
  obtain ⟨g1, g2, g3, g4, g5⟩ := h.live.change hj (show j + 1 < 10 by omega) hb
  refine ⟨⟨g2, fun x hx => ?_, fun x hx ho => ?_⟩, fun x hx => ?_⟩
  · exact g4 x hx (h.rot x hx)
  · rw [g3 x hx (by omega) (by omega)]; exact h.out x hx ho
  · by_cases hxj : x = j ∨ x = j + 1
    · exact Or.inr ⟨by omega, by omega, by omega⟩
    · exact Or.inl (g3 x hx (by omega) (by omega))
theorem KA.step {b : Sec} (h : KA D b m) (kind a : Int) {bs : List Int} (hb : ∀ y ∈ bs, 0 ≤ y ∧ y < 256) :
    KA (kaStep D kind a bs) b (m + 6) ∧ ∀ x : Nat, x < 10 → (kaStep D kind a bs).view x = D.view x ∨ (kind < 2 ∧ 2 ≤ x ∧ x < 8 ∧ ((x : Int) - 2) / 2 = a) := by
  have same : KA D b (m + 6) ∧ ∀ x : Nat, x < 10 → D.view x = D.view x ∨ (kind < 2 ∧ 2 ≤ x ∧ x < 8 ∧ ((x : Int) - 2) / 2 = a) := ⟨⟨h.live.more (by omega), h.rot, h.out⟩, fun x hx => Or.inl rfl⟩
  unfold kaStep
  by_cases h0 : kind = 0
  · rw [if_pos h0]
    unfold Disk.put
    by_cases hg : a < 0 ∨ 3 ≤ a ∨ bs.length < 1 ∨ 55 < bs.length
    · rw [if_pos hg]; exact same
    · rw [if_neg hg]
      obtain ⟨g1, g2⟩ := h.change (a := a) (by omega) (by omega) hb
      exact ⟨g1, fun x hx => (g2 x hx).imp id (fun ⟨p, q, r⟩ => ⟨by omega, p, q, r⟩)⟩
  · rw [if_neg h0]
    by_cases h1 : kind = 1
    · rw [if_pos h1]
      unfold Disk.kill
      by_cases hg : a < 0 ∨ 3 ≤ a
      · rw [if_pos hg]; exact same
      · rw [if_neg hg]
        obtain ⟨g1, g2⟩ := h.change (a := a) (bs := []) (by omega) (by omega) (by simp)
        exact ⟨g1, fun x hx => (g2 x hx).imp id (fun ⟨p, q, r⟩ => ⟨by omega, p, q, r⟩)⟩
    · rw [if_neg h1]; exact same
theorem new_rot (N x : Nat) : (Disk.new N).rotten x = false := by
  have h : (Disk.new N).cell x = zeroCell := by
    show (List.replicate N zeroCell).getD x zeroCell = zeroCell
    rw [List.getD_eq_getElem?_getD, List.getElem?_replicate]
    split <;> rfl
  unfold Disk.rotten
  rw [h]
  simp [zeroCell]
/-- The disk while it is filled. -/
theorem fillWith_live {b : Sec} (hb : SecOk b) : ∀ k, k ≤ 10 → ∃ D : Disk, D = (List.range k).foldl (fun D (i : Nat) => (D.write i b).1) (Disk.new 10) ∧ Live D 10 k ∧ (∀ x, x < 10 → D.rotten x = false) ∧ (∀ x, x < k → D.view x = b)
  | 0, _ => ⟨_, rfl, Live.start (by omega) (by omega), fun x hx => new_rot 10 x, fun x hx => absurd hx (by omega)⟩
  | k + 1, hk => by
    obtain ⟨D, hD, h1, h2, h3⟩ := fillWith_live hb k (by omega)
    obtain ⟨g1, g2, g3, g4⟩ := h1.write (show k < 10 by omega) hb
    refine ⟨_, rfl, ?_, fun x hx => ?_, fun x hx => ?_⟩
    · rw [List.range_succ, List.foldl_append, ← hD]; exact g2
    · rw [List.range_succ, List.foldl_append, ← hD]
      show (D.write k b).1.rotten x = false
      rw [g4 x, h2 x hx]; split <;> rfl
    · rw [List.range_succ, List.foldl_append, ← hD]
      show (D.write k b).1.view x = b
      rw [g3 x]
      split
      · rfl
      · exact h3 x (by omega)
def filledDisk (b : Sec) (k : Nat) : Disk := (List.range k).foldl (fun D (i : Nat) => (D.write i b).1) (Disk.new 10)
theorem filledDisk_succ (b : Sec) (k : Nat) : filledDisk b (k + 1) = ((filledDisk b k).write k b).1 := by
  unfold filledDisk
  rw [List.range_succ, List.foldl_append]; rfl
theorem filledDisk_live {b : Sec} (hb : SecOk b) {k : Nat} (hk : k ≤ 10) : Live (filledDisk b k) 10 k ∧ (∀ x, x < 10 → (filledDisk b k).rotten x = false) ∧ ∀ x, x < k → (filledDisk b k).view x = b := by
  obtain ⟨D, hD, h⟩ := fillWith_live hb k hk
  unfold filledDisk
  rw [← hD]; exact h
theorem filledDisk_write {b : Sec} (hb : SecOk b) {k : Nat} (hk : k < 10) : (filledDisk b k).write k b = (filledDisk b (k + 1), 0) := by
  obtain ⟨h1, h2, h3⟩ := filledDisk_live hb (show k ≤ 10 by omega)
  rw [filledDisk_succ]
  have := (h1.write hk hb).1
  rw [← this]
def kaDisk (b : Sec) : Disk := ((filledDisk b 10).format 2 3).1
theorem good_empty : goodSec (copySec 1 []) = true := by decide
theorem ka_start' {F K : Disk} {b : Sec} (h1 : Live F 10 10) (h2 : ∀ x, x < 10 → F.rotten x = false) (h3 : ∀ x, x < 10 → F.view x = b) (hK : K = (F.format 2 3).1) : F.format 2 3 = (K, 0) ∧ KA K b 17 ∧ K.openSlots 2 3 = (K, 0, []) := by
  obtain ⟨g1, g2, g3, g4⟩ := Live.fmt 6 h1 2 (by omega)
  have hp : partOk F.cells.length 2 3 = true := by rw [h1.len]; rfl
  have e : F.format 2 3 = F.fmt 6 ((2 : Nat) : Int) := by
    unfold Disk.format
    rw [if_pos hp]
    rfl
  rw [← e] at g1 g2 g3 g4
  have e3 : F.format 2 3 = (K, 0) := Prod.ext hK.symm g1
  clear e
  rw [← hK] at g2 g3 g4
  refine ⟨e3, ⟨g2, fun x hx => ?_, fun x hx ho => ?_⟩, ?_⟩
  · rw [g4 x hx, h2 x hx]; split <;> rfl
  · rw [g3 x hx, if_neg (by omega)]; exact h3 x hx
  · have hp2 : partOk K.cells.length 2 3 = true := by rw [g2.len]; rfl
    have := g2.openSame (first := 2) (n := 3) (by omega) (fun i hi => ⟨by rw [g4 _ (by omega), if_pos (by omega)], by rw [g4 _ (by omega), if_pos (by omega)], by rw [g3 _ (by omega), g3 _ (by omega), if_pos (by omega), if_pos (by omega)], by rw [g3 _ (by omega), if_pos (by omega)]; exact good_empty⟩) 3 0 [] rfl
    unfold Disk.openSlots
    rw [if_pos hp2]
    exact this
theorem ka_start {b : Sec} (hb : SecOk b) : (filledDisk b 10).format 2 3 = (kaDisk b, 0) ∧ KA (kaDisk b) b 17 ∧ (kaDisk b).openSlots 2 3 = (kaDisk b, 0, []) := by
  obtain ⟨h1, h2, h3⟩ := filledDisk_live hb (show 10 ≤ 10 by omega)
  exact ka_start' h1 h2 h3 rfl
/-- What is read before a call: k sectors of ten. -/
def befs (D : Disk) (k : Nat) : List Sec := (List.range 10).map fun i => if i < k then D.view i else zeroSec
theorem befs_len (D : Disk) (k : Nat) : (befs D k).length = 10 := by simp [befs]
theorem befs_get (D : Disk) (k : Nat) {i : Nat} (hi : i < 10) : (befs D k).getD i zeroSec = if i < k then D.view i else zeroSec := by
  simp [befs, List.getD_eq_getElem?_getD, hi]
theorem befs_zero (D : Disk) : befs D 0 = List.replicate 10 zeroSec := by
  apply List.ext_getElem
  · rw [befs_len, List.length_replicate]
  · intro n h1 h2
    rw [List.getElem_replicate]
    simp only [befs, List.getElem_map, Nat.not_lt_zero, if_false]
theorem befs_set (D : Disk) {k : Nat} (hk : k < 10) : (befs D k).set k (D.view k) = befs D (k + 1) := by
  apply List.ext_getElem
  · simp [befs]
  · intro n h1 h2
    rw [List.getElem_set]
    simp only [befs, List.getElem_map, List.getElem_range]
    by_cases e : k = n
    · subst e; simp
    · rw [if_neg e]
      by_cases h : n < k
      · rw [if_pos h, if_pos (by omega)]
      · rw [if_neg h, if_neg (by omega)]
end Qd
namespace Go.Proofs.Ytcaalfpfkalalaa
open Go.RowKit Qd
open Go.Proofs.YtcaalfpfkalalaaW.PrintLast
theorem befs_ok {D : Disk} {N m : Nat} (h : Live D N m) (k : Nat) : ∀ s ∈ befs D k, SecOk s := fun s hs => by
  obtain ⟨i, _, rfl⟩ := List.mem_map.1 hs
  split
  · exact h.viewOk i
  · exact zeroSec_ok
theorem many_set : ∀ {l : List Sec} {s : Sec} {k : Nat}, (∀ s ∈ l, SecOk s) → SecOk s → k < l.length → (manyVals l).take (k * 64) ++ secVals s ++ (manyVals l).drop (k * 64 + 64) = manyVals (l.set k s)
  | [], _, _, _, _, h => absurd h (by simp)
  | a :: l, s, 0, hl, hs, _ => by
    have ha := sec64 (hl a (by simp))
    simp only [Nat.zero_mul, List.take_zero, List.nil_append, Nat.zero_add, List.set_cons_zero]
    show _ ++ (secVals a ++ manyVals l).drop 64 = secVals s ++ manyVals l
    rw [List.drop_left' ha]
  | a :: l, s, k + 1, hl, hs, h => by
    have ha := sec64 (hl a (by simp))
    have ih := many_set (l := l) (s := s) (k := k) (fun x hx => hl x (by simp [hx])) hs (by simpa using h)
    show (secVals a ++ manyVals l).take ((k + 1) * 64) ++ secVals s ++ (secVals a ++ manyVals l).drop ((k + 1) * 64 + 64) = secVals a ++ manyVals (l.set k s)
    rw [← ih, show (k + 1) * 64 = (secVals a).length + k * 64 by omega, List.take_length_add_append, Nat.add_assoc, List.drop_length_add_append]
    simp [List.append_assoc]
theorem many_len' {l : List Sec} (hl : ∀ s ∈ l, SecOk s) : (manyVals l).length = l.length * 64 := by
  unfold manyVals
  exact flatMap_len (g := secVals) (m := 64) (l := l) (fun s hs => sec64 (hl s hs))
section
variable {w0 w : World} {rs : List Res} {k : Nat}
/-- One sector of a block of many: written, read. -/
theorem Own.xstoreN {o : Oper} {ρ : Operand → Value} {x y : Operand} {b j : Nat} {l l' : List Sec} {s : Sec} {t : TypeId} (h : Own w0 w rs) (ho : o.op = .store 29 x y) (hx : ρ x = .pointer (some ⟨b, j * 64, none⟩)) (hk : rs[k]? = some (blkR b (manyVals l).toArray t)) (hl : ∀ s ∈ l, SecOk s) (hj : j < l.length) (hs : SecOk s)
    (hy : ρ y = .agg (secVals s).toArray) (hl' : l.set j s = l') : ∃ w1, (execOp ρ o).run Try.prog w = .ok .skip w1 ∧ Own w0 w1 (rs.set k (blkR b (manyVals l').toArray t)) := by
  have hb := (h.blk hk).1
  have hlen := many_len' hl
  have h64 := sec64 hs
  have hle : j * 64 + 64 ≤ (manyVals l).toArray.size := by rw [List.size_toArray, hlen]; omega
  refine ⟨_, exs_sec ho hx hs hy (hb.there _ _ hle), h.set hk (by rw [h64]; exact hle) ?_⟩
  rw [h64, ← hl', ← many_set hl hs hj]
theorem Own.xloadN {o : Oper} {ρ : Operand → Value} {x : Operand} {b j : Nat} {l : List Sec} {s : Sec} {t : TypeId} (h : Own w0 w rs) (ho : o.op = .load 29 x) (hx : ρ x = .pointer (some ⟨b, j * 64, none⟩)) (hk : rs[k]? = some (blkR b (manyVals l).toArray t)) (hl : ∀ s ∈ l, SecOk s) (hj : j < l.length) (hs : l.getD j zeroSec = s) :
    (execOp ρ o).run Try.prog w = .ok (.value (.agg (secVals s).toArray)) w := by
  have hr : w.rangeAt b 0 (manyVals l) := (h.blk hk).1.range 0 _ (fun j _ => by rw [Nat.zero_add, List.getElem?_toArray])
  rw [← hs]
  exact exl_sec ho hx (getD_ok hl j) (many_sub hl hr hj)
theorem zTen (w : World) : (zeroValue 38).run Try.prog w = .ok (.agg (manyVals (List.replicate 10 zeroSec)).toArray) w := by kernel_rfl
theorem Own.xaten {o : Oper} {ρ : Operand → Value} (n : Tmp) (h : Own w0 w rs) (hd : o.dst = some n) (ho : o.op = .alloc 38) : ∃ v w1, (execOp ρ o).run Try.prog w = .ok (.value v) w1 ∧ ∃ b, v = .pointer (some ⟨b, 0, none⟩) ∧ Own w0 w1 (rs ++ [blkR b (manyVals (List.replicate 10 zeroSec)).toArray 38]) :=
  ⟨_, _, ex_alloc ho (zTen w), _, rfl, h.alloc _ _⟩
/-- A call of layer 22's lists: two numbers, a string, a row of numbers. -/
structure SOp where
  kind : Int
  a : Int
  s : ByteArray
  ka : Option Addr
  kl : Nat
  kc : Nat
  keep : List Int
def SOp.ok (x : SOp) : Prop := (-9223372036854775808 ≤ x.kind ∧ x.kind ≤ 9223372036854775807) ∧ (-9223372036854775808 ≤ x.a ∧ x.a ≤ 9223372036854775807) ∧ x.s.size ≤ maxLen ∧ x.keep.length ≤ maxLen ∧ (∀ y ∈ x.keep, -9223372036854775808 ≤ y ∧ y ≤ 9223372036854775807)
def sopVals (x : SOp) : List Value := [.int .i64 x.kind, .int .i64 x.a, .string x.s, .slice x.ka x.kl x.kc]
def sop0 : SOp := ⟨0, 0, { data := #[] }, none, 0, 0, []⟩
def SOpsIs (w : World) (v : Value) (l : List SOp) : Prop := (∃ a cap, v = .slice a l.length cap ∧ (l ≠ [] → ∃ kb ko, a = some ⟨kb, ko, none⟩ ∧ w.rangeAt kb ko (l.flatMap sopVals))) ∧ ∀ x ∈ l, KeepIs w (.slice x.ka x.kl x.kc) x.keep
theorem sops_at {kb ko : Nat} {l : List SOp} (h : w.rangeAt kb ko (l.flatMap sopVals)) {i : Nat} (hi : i < l.length) : w.rangeAt kb (ko + i * 4) (sopVals l[i]) := fun j v hj => by
  have hj3 : j < 4 := (List.getElem?_eq_some_iff.1 hj).1
  have := h (i * 4 + j) v (by rw [flatMap_piece (g := sopVals) (m := 4) (fun _ _ => rfl) i l[i] (List.getElem?_eq_getElem hi) j hj3]; exact hj)
  rwa [show ko + i * 4 + j = ko + (i * 4 + j) from by omega]
theorem uSOp : ∃ d, Try.prog.underlying 37 = some d ∧ d.isRow = true := by
  have h : (Try.prog.underlying 37).map (·.isRow) = some true := by kernel_rfl
  obtain ⟨d, h1, h2⟩ := Option.map_eq_some_iff.1 h
  exact ⟨d, h1, h2⟩
theorem sSOp : (Try.prog.info? 37).map (·.size) = some 4 := by kernel_rfl
theorem zSOp (w : World) : (zeroValue 37).run Try.prog w = .ok (.agg (sopVals sop0).toArray) w := by kernel_rfl
theorem exl_sop {o : Oper} {ρ : Operand → Value} {x : Operand} (ho : o.op = .load 37 x) {b k : Nat} (hx : ρ x = .pointer (some ⟨b, k, none⟩)) {p : SOp} (hr : w.rangeAt b k (sopVals p)) : (execOp ρ o).run Try.prog w = .ok (.value (.agg (sopVals p).toArray)) w := by
  obtain ⟨d, h1, h2⟩ := uSOp
  exact ex_load ho hx hr h1 h2 sSOp
theorem Own.xasop {o : Oper} {ρ : Operand → Value} (n : Tmp) (h : Own w0 w rs) (hd : o.dst = some n) (ho : o.op = .alloc 37) : ∃ v w1, (execOp ρ o).run Try.prog w = .ok (.value v) w1 ∧ ∃ b, v = .pointer (some ⟨b, 0, none⟩) ∧ Own w0 w1 (rs ++ [blkR b (sopVals sop0).toArray 37]) :=
  ⟨_, _, ex_alloc ho (zSOp w), _, rfl, h.alloc _ _⟩
theorem Own.xssop {o : Oper} {ρ : Operand → Value} {x y : Operand} {b : Nat} {p q : SOp} (h : Own w0 w rs) (ho : o.op = .store 37 x y) (hx : ρ x = .pointer (some ⟨b, 0, none⟩)) (hk : rs[k]? = some (blkR b (sopVals q).toArray 37))
    (hy : ρ y = .agg (sopVals p).toArray) : ∃ w1, (execOp ρ o).run Try.prog w = .ok .skip w1 ∧ Own w0 w1 (rs.set k (blkR b (sopVals p).toArray 37)) :=
  ⟨_, ex_store ho hx hy ((h.blk hk).1.there 0 4 (by simp [sopVals])) sSOp (fun v hv => by simp [sopVals] at hv; rcases hv with rfl | rfl | rfl | rfl <;> rfl), h.set hk (by simp [sopVals]) (by simp [sopVals])⟩
theorem exl_str {o : Oper} {ρ : Operand → Value} {x : Operand} {b j : Nat} {u : ByteArray} (ho : o.op = .load 9 x) (hx : ρ x = .pointer (some ⟨b, j, none⟩)) (hc : w.cell? ⟨b, j, none⟩ = some (.string u)) :
    (execOp ρ o).run Try.prog w = .ok (.value (.string u)) w := by
  unfold execOp
  simp only [ho, hx]
  go_simp
theorem Own.xstr1 {o : Oper} {ρ : Operand → Value} {x : Operand} {b j : Nat} {u : ByteArray} {cs : Array Value} {t : TypeId} (h : Own w0 w rs) (hk : rs[k]? = some (blkR b cs t)) (ho : o.op = .load 9 x) (hx : ρ x = .pointer (some ⟨b, j, none⟩)) (hv : cs[j]? = some (.string u)) :
    (execOp ρ o).run Try.prog w = .ok (.value (.string u)) w := exl_str ho hx (by rw [(h.blk hk).1.cell]; exact hv)
end
end Go.Proofs.Ytcaalfpfkalalaa
