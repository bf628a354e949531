/- How a disk lies in memory: the predicate, and what keeps it. -/
import Derived.Test.YtcaalfpfkalalaaA1
import Derived.Test.YtcaalfpfkalalaaM1
import Derived.Deep.MidRow
import Derived.Maps.AppendAt
import Derived.Deep.Draws
set_option linter.unusedVariables false
set_option linter.unusedSimpArgs false
namespace Go.Proofs.Ytcaalfpfkalalaa
open Go.RowKit Qd

def secVals (s : Sec) : List Value := s.map (Value.int .u8)
def cellVals (c : Qd.Cell) : List Value := secVals c.s ++ [.bool c.bad]
def rowVals (l : List Qd.Cell) : List Value := l.flatMap cellVals
def manyVals (l : List Sec) : List Value := l.flatMap secVals

theorem secVals_len (s : Sec) : (secVals s).length = s.length := by simp [secVals]
theorem secVals_one (s : Sec) : ∀ v ∈ secVals s, v.oneCell' = true := by simp [secVals, Value.oneCell']
theorem cellVals_one (c : Qd.Cell) : ∀ v ∈ cellVals c, v.oneCell' = true := by
  intro v hv
  rcases List.mem_append.1 hv with hv | hv
  · exact secVals_one _ v hv
  · simp at hv; subst hv; rfl

/-- Rows of pieces of one length. -/
theorem flatMap_len {α : Type} {g : α → List Value} {m : Nat} : ∀ {l : List α}, (∀ x ∈ l, (g x).length = m) → (l.flatMap g).length = l.length * m
  | [], _ => by simp
  | a :: r, h => by
    rw [List.flatMap_cons, List.length_append, h a (by simp), flatMap_len (l := r) (fun x hx => h x (by simp [hx])), List.length_cons, Nat.succ_mul, Nat.add_comm]
theorem flatMap_piece {α : Type} {g : α → List Value} {m : Nat} : ∀ {l : List α}, (∀ x ∈ l, (g x).length = m) → ∀ (i : Nat) (x : α), l[i]? = some x → ∀ j, j < m → (l.flatMap g)[i * m + j]? = (g x)[j]?
  | [], _, i, x, hx => by simp at hx
  | a :: r, h, 0, x, hx => by
    simp at hx; subst hx
    intro j hj
    rw [List.flatMap_cons, Nat.zero_mul, Nat.zero_add, List.getElem?_append_left (by rw [h a (by simp)]; exact hj)]
  | a :: r, h, i + 1, x, hx => by
    intro j hj
    have ha := h a (by simp)
    rw [List.flatMap_cons, List.getElem?_append_right (by rw [ha, Nat.succ_mul]; omega), ha, show (i + 1) * m + j - m = i * m + j from by rw [Nat.succ_mul]; omega]
    exact flatMap_piece (l := r) (fun x hx => h x (by simp [hx])) i x (by simpa using hx) j hj
theorem flatMap_set {α : Type} {g : α → List Value} {m : Nat} : ∀ {l : List α}, (∀ x ∈ l, (g x).length = m) → ∀ (i : Nat) (x : α), i < l.length → (g x).length = m →
    (l.set i x).flatMap g = (l.flatMap g).take (i * m) ++ g x ++ (l.flatMap g).drop (i * m + m)
  | [], _, i, x, hi, _ => by simp at hi
  | a :: r, h, 0, x, hi, hx => by
    have ha := h a (by simp)
    simp only [List.set_cons_zero, List.flatMap_cons, Nat.zero_mul, List.take_zero, List.nil_append, Nat.zero_add]
    rw [List.drop_append_of_le_length (by omega), List.drop_eq_nil_of_le (by omega), List.nil_append]
  | a :: r, h, i + 1, x, hi, hx => by
    have ha := h a (by simp)
    simp only [List.set_cons_succ, List.flatMap_cons]
    rw [flatMap_set (l := r) (fun x hx => h x (by simp [hx])) i x (by simpa using hi) hx]
    rw [show (i + 1) * m = (g a).length + i * m from by rw [ha, Nat.succ_mul]; omega, List.take_length_add_append, List.append_assoc, List.append_assoc, List.append_assoc,
      show (g a).length + i * m + m = (g a).length + (i * m + m) from by omega, List.drop_length_add_append]

/-- A block of cells. -/
abbrev Blk (w : World) (b : Nat) (cs : Array Value) (t : TypeId) : Prop := w.heap[b]? = some (.cells cs t (0, 0))
theorem Blk.cell {w : World} {b : Nat} {cs : Array Value} {t : TypeId} (h : Blk w b cs t) (i : Nat) : w.cell? ⟨b, i, none⟩ = cs[i]? := cell_of_row w b i cs t (0, 0) h
theorem Blk.frozen {w : World} {b : Nat} {cs : Array Value} {t : TypeId} (h : Blk w b cs t) (i : Nat) : w.frozen? ⟨b, i, none⟩ = false := frozen_of_row w b i cs t h
theorem Blk.lt {w : World} {b : Nat} {cs : Array Value} {t : TypeId} (h : Blk w b cs t) : b < w.heap.size := (Array.getElem?_eq_some_iff.1 h).1
theorem Blk.ne {w : World} {b b' : Nat} {cs cs' : Array Value} {t t' : TypeId} (h : Blk w b cs t) (h' : Blk w b' cs' t') (hne : t ≠ t') : b ≠ b' := by
  intro e; subst e
  have := h.symm.trans h'
  injection this with this; injection this with _ h2; exact hne h2
theorem Blk.range {w : World} {b : Nat} {cs : Array Value} {t : TypeId} (h : Blk w b cs t) (o : Nat) (l : List Value) (hl : ∀ j, j < l.length → cs[o + j]? = l[j]?) : w.rangeAt b o l := by
  intro j v hv
  have hj : j < l.length := (List.getElem?_eq_some_iff.1 hv).1
  rw [h.cell, hl j hj, hv]
theorem Blk.there {w : World} {b : Nat} {cs : Array Value} {t : TypeId} (h : Blk w b cs t) (o n : Nat) (hn : o + n ≤ cs.size) : w.there b o n := fun j hj => by
  refine ⟨?_, h.frozen _⟩
  rw [h.cell, Array.getElem?_eq_getElem (by omega)]; rfl
theorem heap_setCells (w : World) (b o : Nat) (cs : Array Value) (t : TypeId) : ∀ (vs : List Value) (o : Nat) (w : World) (cs : Array Value), Blk w b cs t → o + vs.length ≤ cs.size →
    Blk (w.setCells b o vs) b (cs.toList.take o ++ vs ++ cs.toList.drop (o + vs.length)).toArray t ∧ ∀ k, k ≠ b → (w.setCells b o vs).heap[k]? = w.heap[k]?
  | [], o, w, cs, h, _ => by
    refine ⟨?_, fun k _ => rfl⟩
    simp only [World.setCells, List.append_nil, List.length_nil, Nat.add_zero, List.take_append_drop, Array.toArray_toList]
    exact h
  | v :: r, o, w, cs, h, hl => by
    rw [World.setCells]
    have h1 : Blk (w.setCell ⟨b, o, none⟩ v) b (cs.setIfInBounds o v) t := heap_setCell_same w b o cs t v h
    obtain ⟨h2, h3⟩ := heap_setCells w b o cs t r (o + 1) _ _ h1 (by simp only [List.length_cons] at hl; rw [Array.size_setIfInBounds]; omega)
    refine ⟨?_, fun k hk => (h3 k hk).trans (heap_setCell_other w ⟨b, o, none⟩ k v hk)⟩
    have e : (cs.setIfInBounds o v).toList.take (o + 1) ++ r ++ (cs.setIfInBounds o v).toList.drop (o + 1 + r.length) = cs.toList.take o ++ v :: r ++ cs.toList.drop (o + (v :: r).length) := by
      simp only [List.length_cons] at hl
      have ho : o < cs.toList.length := by simp; omega
      rw [Array.toList_setIfInBounds, List.drop_set_of_lt (by omega), List.take_succ_eq_append_getElem (by simp; omega), List.take_set, List.getElem_set_self, List.set_eq_of_length_le (by simp; omega)]
      simp [Nat.add_assoc, Nat.add_comm 1]
    rw [e] at h2
    exact h2
theorem Blk.setCells {w : World} {b o : Nat} {cs : Array Value} {t : TypeId} (h : Blk w b cs t) (vs : List Value) (hl : o + vs.length ≤ cs.size) : Blk (w.setCells b o vs) b (cs.toList.take o ++ vs ++ cs.toList.drop (o + vs.length)).toArray t :=
  (heap_setCells w b o cs t vs o w cs h hl).1
theorem heap_setCells_ne {w : World} {b o : Nat} {cs : Array Value} {t : TypeId} (h : Blk w b cs t) (vs : List Value) (hl : o + vs.length ≤ cs.size) {k : Nat} (hk : k ≠ b) : (w.setCells b o vs).heap[k]? = w.heap[k]? :=
  (heap_setCells w b o cs t vs o w cs h hl).2 k hk

/-- What has turned from w to w': the blocks of S alone, and new ones; S' is what S has become. -/
structure Turn (S : Nat → Prop) (w : World) (S' : Nat → Prop) (w' : World) : Prop where
  os : w'.os = w.os
  tape : w'.tape = w.tape
  output : w'.output = w.output
  size : w.heap.size ≤ w'.heap.size
  block : ∀ k, k < w.heap.size → ¬ S k → w'.heap[k]? = w.heap[k]?
  sub : ∀ k, S' k → S k ∨ w.heap.size ≤ k
section
variable {S S' S'' : Nat → Prop} {w w' w'' : World}
theorem Turn.refl (S : Nat → Prop) (w : World) : Turn S w S w := ⟨rfl, rfl, rfl, Nat.le_refl _, fun _ _ _ => rfl, fun _ h => Or.inl h⟩
theorem Turn.trans (h : Turn S w S' w') (k : Turn S' w' S'' w'') : Turn S w S'' w'' :=
  ⟨k.os.trans h.os, k.tape.trans h.tape, k.output.trans h.output, Nat.le_trans h.size k.size,
   fun b hb hs => (k.block b (Nat.lt_of_lt_of_le hb h.size) (fun hs' => by rcases h.sub b hs' with h1 | h1; exact hs h1; omega)).trans (h.block b hb hs),
   fun b hb => by
    rcases k.sub b hb with h1 | h1
    · exact h.sub b h1
    · exact Or.inr (Nat.le_trans h.size h1)⟩
theorem Turn.of_grown {row : Option Nat} (hg : w.grownBy w' row) (hr : ∀ k, row = some k → S k) : Turn S w S w' :=
  ⟨hg.os, hg.tape, hg.output, hg.size, fun k hk hs => hg.block k hk (fun e => hs (hr k e.symm)), fun _ h => Or.inl h⟩
theorem Turn.alloc (S : Nat → Prop) (w : World) (o : Obj) : Turn S w S (w.alloc o) := Turn.of_grown (World.grownBy_alloc w o none) (fun _ h => by cases h)
theorem Turn.drew (S : Nat → Prop) (w : World) : Turn S w S w.drew := ⟨rfl, rfl, rfl, Nat.le_refl _, fun _ _ _ => rfl, fun _ h => Or.inl h⟩
theorem Turn.drewN (S : Nat → Prop) (w : World) (n : Nat) : Turn S w S (w.drewN n) := ⟨rfl, rfl, rfl, Nat.le_refl _, fun _ _ _ => rfl, fun _ h => Or.inl h⟩
theorem Turn.setCell (w : World) {a : Addr} (v : Value) (ha : S a.block) : Turn S w S (w.setCell a v) :=
  ⟨rfl, rfl, rfl, by simp [World.setCell], fun k _ hs => heap_setCell_other w a k v (fun e => hs (e ▸ ha)), fun _ h => Or.inl h⟩
theorem Turn.setCells {b o : Nat} {cs : Array Value} {t : TypeId} (h : Blk w b cs t) (vs : List Value) (hl : o + vs.length ≤ cs.size) (ha : S b) : Turn S w S (w.setCells b o vs) := by
  have hk := World.keptBut_setCells b (may := fun _ => True) vs o w (fun _ _ => trivial)
  have hs : ∀ (vs : List Value) (o : Nat) (w : World), (w.setCells b o vs).heap.size = w.heap.size ∧ (w.setCells b o vs).tape = w.tape := by
    intro vs
    induction vs with
    | nil => intro o w; exact ⟨rfl, rfl⟩
    | cons v r ih => intro o w; rw [World.setCells]; obtain ⟨h1, h2⟩ := ih (o + 1) (w.setCell ⟨b, o, none⟩ v); exact ⟨by rw [h1]; simp [World.setCell], by rw [h2]; rfl⟩
  exact ⟨hk.1, (hs vs o w).2, hk.2.1, by rw [(hs vs o w).1]; exact Nat.le_refl _, fun k _ hs' => heap_setCells_ne h vs hl (fun e => hs' (e ▸ ha)), fun _ h => Or.inl h⟩
theorem Turn.more {S0 : Nat → Prop} (h : Turn S w S' w') (hs : ∀ k, S k → S0 k) (hs' : ∀ k, S' k → S0 k ∨ w.heap.size ≤ k) : Turn S0 w S' w' :=
  ⟨h.os, h.tape, h.output, h.size, fun k hk h0 => h.block k hk (fun e => h0 (hs k e)), hs'⟩
theorem Turn.wide {S0 : Nat → Prop} (h : Turn S w S' w') (hs : ∀ k, S k → S0 k) : Turn S0 w S' w' := h.more hs (fun k hk => (h.sub k hk).imp (hs k) id)
/-- Of S' alone that part which is wanted. -/
theorem Turn.less {S1 : Nat → Prop} (h : Turn S w S' w') (hs : ∀ k, S1 k → S' k ∨ S k ∨ w.heap.size ≤ k) : Turn S w S1 w' :=
  ⟨h.os, h.tape, h.output, h.size, h.block, fun k hk => by
    rcases hs k hk with h1 | h1
    · exact h.sub k h1
    · exact h1⟩
theorem Turn.blk (h : Turn S w S' w') {b : Nat} {o : Obj} (hb : w.heap[b]? = some o) (hs : ¬ S b) : w'.heap[b]? = some o := (h.block b (Array.getElem?_eq_some_iff.1 hb).1 hs).trans hb
theorem Turn.away (h : Turn S w S' w') {b : Nat} (hb : b < w.heap.size) (hs : ¬ S b) : ¬ S' b := fun e => by
  rcases h.sub b e with h1 | h1
  · exact hs h1
  · omega
theorem Turn.cell (h : Turn S w S' w') {a : Addr} {v : Value} (hc : w.cell? a = some v) (hs : ¬ S a.block) : w'.cell? a = some v :=
  (World.cell?_of_block (h.block a.block (World.block_lt_of_cell? w a hc) hs)).trans hc
theorem Turn.below (h : Turn S w S' w') (hs : ∀ k, S k → w.heap.size ≤ k) : Below w.heap.size w w' :=
  ⟨h.os, h.tape, h.output, h.size, fun k hk => h.block k hk (fun e => by have := hs k e; omega)⟩
theorem Turn.of_below {S : Nat → Prop} (h : Below w.heap.size w w') : Turn S w S w' := ⟨h.os, h.tape, h.output, h.size, fun k hk _ => h.block k hk, fun _ h => Or.inl h⟩
/-- From a world of the call's own on: what was there before it. -/
theorem Turn.then {B : Nat} {w0 : World} (h : Below B w0 w) (k : Turn S w S' w') (hB : B ≤ w.heap.size) (hs : ∀ k, S k → B ≤ k) : Below B w0 w' :=
  ⟨k.os.trans h.os, k.tape.trans h.tape, k.output.trans h.output, Nat.le_trans h.size k.size, fun b hb => (k.block b (by omega) (fun e => by have := hs b e; omega)).trans (h.block b hb)⟩
end

/-- Block p is a disk's struct, bc its cells, bm its map of open writes, which holds f. -/
structure DiskAt (w : World) (p bc bm : Nat) (f : Int → Option Value) (d : Disk) : Prop where
  ok : d.Ok
  obj : Blk w p #[.slice (some ⟨bc, 0, none⟩) d.cells.length d.cells.length, .map (some bm), .int .i64 d.steps, .int .i64 d.after, .bool d.dead] 85
  row : Blk w bc (rowVals d.cells).toArray 100
  map : MapIs w bm f
  none' : ∀ k : Int, (k < 0 ∨ d.opn k.toNat = []) → f k = none
  some' : ∀ k : Int, 0 ≤ k → d.opn k.toNat ≠ [] → ∃ v, f k = some v ∧ w.ownsRow 0 29 64 v (d.opn k.toNat).length (manyVals (d.opn k.toNat))
  apart : ∀ k k' v v', k ≠ k' → f k = some v → f k' = some v' → v.ownBlock ≠ v'.ownBlock
def DiskFoot (p bc bm : Nat) (f : Int → Option Value) (b : Nat) : Prop := b = p ∨ b = bc ∨ b = bm ∨ ∃ k v, f k = some v ∧ v.ownBlock = some b
/-- Block p leads to a disk d, all of whose blocks are in S. -/
def DiskIn (w : World) (S : Nat → Prop) (p : Nat) (d : Disk) : Prop := ∃ bc bm f, DiskAt w p bc bm f d ∧ ∀ b, DiskFoot p bc bm f b → S b

section
variable {w w' : World} {p bc bm : Nat} {f : Int → Option Value} {d : Disk} {S : Nat → Prop}
theorem cells_len {l : List Qd.Cell} (h : ∀ c ∈ l, SecOk c.s) : ∀ c ∈ l, (cellVals c).length = 65 := fun c hc => by simp [cellVals, secVals, (h c hc).1]
theorem many_len {l : List Sec} (h : ∀ s ∈ l, SecOk s) : ∀ s ∈ l, (secVals s).length = 64 := fun c hc => by simp [secVals, (h c hc).1]
theorem DiskAt.c0 (h : DiskAt w p bc bm f d) : w.cell? ⟨p, 0, none⟩ = some (.slice (some ⟨bc, 0, none⟩) d.cells.length d.cells.length) := by rw [h.obj.cell]; rfl
theorem DiskAt.c1 (h : DiskAt w p bc bm f d) : w.cell? ⟨p, 1, none⟩ = some (.map (some bm)) := by rw [h.obj.cell]; rfl
theorem DiskAt.c2 (h : DiskAt w p bc bm f d) : w.cell? ⟨p, 2, none⟩ = some (.int .i64 d.steps) := by rw [h.obj.cell]; rfl
theorem DiskAt.c3 (h : DiskAt w p bc bm f d) : w.cell? ⟨p, 3, none⟩ = some (.int .i64 d.after) := by rw [h.obj.cell]; rfl
theorem DiskAt.c4 (h : DiskAt w p bc bm f d) : w.cell? ⟨p, 4, none⟩ = some (.bool d.dead) := by rw [h.obj.cell]; rfl
theorem DiskAt.fz (h : DiskAt w p bc bm f d) (i : Nat) : w.frozen? ⟨p, i, none⟩ = false := h.obj.frozen i
theorem ownsRow_heap {base e size n : Nat} {v : Value} {xs : List Value} (h : w.ownsRow base e size v n xs) {b : Nat} (hb : v.ownBlock = some b) : ∃ cs, Blk w b cs e := by
  rcases h.2 with ⟨rfl, _⟩ | ⟨g, cap, cur, rfl, _, hh, _⟩
  · simp [Value.ownBlock] at hb
  · simp [Value.ownBlock] at hb; subst hb; exact ⟨cur, hh⟩
theorem ownsRow_same {base e size n : Nat} {v : Value} {xs : List Value} (h : w.ownsRow base e size v n xs) (hk : ∀ b, v.ownBlock = some b → w'.heap[b]? = w.heap[b]?) : w'.ownsRow base e size v n xs := by
  refine ⟨h.1, ?_⟩
  rcases h.2 with h1 | ⟨g, cap, cur, rfl, hb, hh, rest⟩
  · exact .inl h1
  · exact .inr ⟨g, cap, cur, rfl, hb, (hk g (by simp [Value.ownBlock])).trans hh, rest⟩
theorem DiskAt.f_row (h : DiskAt w p bc bm f d) {k : Int} {v : Value} (hv : f k = some v) : 0 ≤ k ∧ d.opn k.toNat ≠ [] ∧ w.ownsRow 0 29 64 v (d.opn k.toNat).length (manyVals (d.opn k.toNat)) := by
  by_cases h1 : k < 0 ∨ d.opn k.toNat = []
  · rw [h.none' k h1] at hv; cases hv
  · obtain ⟨v', h2, h3⟩ := h.some' k (by omega) (fun e => h1 (Or.inr e))
    rw [hv] at h2; injection h2 with h2; subst h2
    exact ⟨by omega, fun e => h1 (Or.inr e), h3⟩
theorem DiskAt.foot_lt (h : DiskAt w p bc bm f d) {b : Nat} (hb : DiskFoot p bc bm f b) : b < w.heap.size := by
  rcases hb with rfl | rfl | rfl | ⟨k, v, hf, hv⟩
  · exact h.obj.lt
  · exact h.row.lt
  · exact h.map.lt
  · obtain ⟨cs, hc⟩ := ownsRow_heap (h.f_row hf).2.2 hv
    exact hc.lt
theorem DiskAt.same (h : DiskAt w p bc bm f d) (hk : ∀ b, DiskFoot p bc bm f b → w'.heap[b]? = w.heap[b]?) : DiskAt w' p bc bm f d where
  ok := h.ok
  obj := (hk p (Or.inl rfl)).trans h.obj
  row := (hk bc (Or.inr (Or.inl rfl))).trans h.row
  map := h.map.same (hk bm (Or.inr (Or.inr (Or.inl rfl))))
  none' := h.none'
  some' := fun k h0 ho => by
    obtain ⟨v, hv, hr⟩ := h.some' k h0 ho
    exact ⟨v, hv, ownsRow_same hr (fun b hb => hk b (Or.inr (Or.inr (Or.inr ⟨k, v, hv, hb⟩))))⟩
  apart := h.apart
theorem DiskIn.same (h : DiskIn w S p d) (hk : ∀ b, S b → b < w.heap.size → w'.heap[b]? = w.heap[b]?) : DiskIn w' S p d := by
  obtain ⟨bc, bm, f, ha, hs⟩ := h
  exact ⟨bc, bm, f, ha.same (fun b hb => hk b (hs b hb) (ha.foot_lt hb)), hs⟩
theorem DiskIn.ok (h : DiskIn w S p d) : d.Ok := by obtain ⟨bc, bm, f, ha, hs⟩ := h; exact ha.ok
theorem DiskIn.mono {S' : Nat → Prop} (h : DiskIn w S p d) (hs : ∀ b, S b → S' b) : DiskIn w S' p d := by
  obtain ⟨bc, bm, f, ha, hs'⟩ := h
  exact ⟨bc, bm, f, ha, fun b hb => hs b (hs' b hb)⟩
/-- Another disk's call leaves this one. -/
theorem DiskIn.turn {S0 S1 : Nat → Prop} (h : DiskIn w S p d) (ht : Turn S0 w S1 w') (hne : ∀ b, S b → ¬ S0 b) : DiskIn w' S p d := h.same (fun b hb hlt => ht.block b hlt (hne b hb))
theorem DiskIn.alloc (h : DiskIn w S p d) (o : Obj) : DiskIn (w.alloc o) S p d := h.same (fun b _ hlt => (MapKept.heap_alloc w o).2 b hlt)
theorem DiskIn.drew (h : DiskIn w S p d) : DiskIn w.drew S p d := h.same (fun _ _ _ => rfl)
theorem DiskIn.pos (h : DiskIn w S p d) : S p := by obtain ⟨bc, bm, f, ha, hs⟩ := h; exact hs p (Or.inl rfl)
/-- The disk's own blocks alone. -/
theorem DiskIn.tight (h : DiskIn w S p d) : ∃ S1 : Nat → Prop, DiskIn w S1 p d ∧ (∀ b, S1 b → S b) ∧ ∀ b, S1 b → b < w.heap.size := by
  obtain ⟨bc, bm, f, ha, hs⟩ := h
  exact ⟨DiskFoot p bc bm f, ⟨bc, bm, f, ha, fun _ h => h⟩, hs, fun b hb => ha.foot_lt hb⟩
/-- One more open write of sector k. -/
theorem DiskAt.pushed {v v1 : Value} {k : Nat} {s : Sec} (h : DiskAt w p bc bm f d) (hv : (f k).getD (.slice none 0 0) = v) (hok : (d.push k s).Ok)
    (hm : MapIs w' bm (fun x => if x = (k : Int) then some v1 else f x)) (ho : w'.ownsRow 0 29 64 v1 (d.opn k ++ [s]).length (manyVals (d.opn k ++ [s])))
    (hat : v1.ownBlock = v.ownBlock ∨ ∃ b, v1.ownBlock = some b ∧ w.heap.size ≤ b) (hk : ∀ b, b < w.heap.size → some b ≠ v.ownBlock → b ≠ bm → w'.heap[b]? = w.heap[b]?) :
    DiskAt w' p bc bm (fun x => if x = (k : Int) then some v1 else f x) (d.push k s) := by
  have hrow : ∀ b cs t, v.ownBlock = some b → Blk w b cs t → t = 29 := fun b cs t hb hc => by
    cases hf : f k with
    | none => rw [hf] at hv; simp at hv; subst hv; simp [Value.ownBlock] at hb
    | some u =>
      rw [hf] at hv; simp at hv; subst hv
      obtain ⟨cs', hc'⟩ := ownsRow_heap (h.f_row hf).2.2 hb
      have := hc.symm.trans hc'
      injection this with this; injection this with _ h2
  have hother : ∀ b cs t, Blk w b cs t → t ≠ 29 → w'.heap[b]? = w.heap[b]? := fun b cs t hc ht =>
    hk b hc.lt (fun e => ht (hrow b cs t e.symm hc)) (fun e => h.map.noCells (by rw [← e]; exact hc))
  refine ⟨hok, (hother p _ _ h.obj (by decide)).trans h.obj, (hother bc _ _ h.row (by decide)).trans h.row, hm, fun x hx => ?_, fun x h0 hx => ?_, fun x x' u u' hne hu hu' => ?_⟩
  · have hxk : x ≠ (k : Int) := fun e => by subst e; rcases hx with hx | hx; omega; simp [Disk.push] at hx
    show (if x = (k : Int) then some v1 else f x) = none
    rw [if_neg hxk]
    by_cases hx0 : x < 0
    · exact h.none' x (Or.inl hx0)
    · have hxk' : x.toNat ≠ k := by omega
      rcases hx with hx | hx
      · exact absurd hx hx0
      · simp only [Disk.push, if_neg hxk'] at hx
        exact h.none' x (Or.inr hx)
  · by_cases hxk : x = (k : Int)
    · subst hxk
      exact ⟨v1, by rw [if_pos rfl], by simp only [Disk.push, Int.toNat_natCast, if_true]; exact ho⟩
    · have hxk' : x.toNat ≠ k := by omega
      simp only [Disk.push, if_neg hxk'] at hx ⊢
      obtain ⟨u, hu, hr⟩ := h.some' x h0 hx
      refine ⟨u, by rw [if_neg hxk]; exact hu, ownsRow_same hr (fun b hb => ?_)⟩
      obtain ⟨cs, hc⟩ := ownsRow_heap hr hb
      refine hk b hc.lt (fun e => ?_) (fun e => h.map.noCells (by rw [← e]; exact hc))
      cases hf : f k with
      | none => rw [hf] at hv; simp at hv; subst hv; simp [Value.ownBlock] at e
      | some z =>
        rw [hf] at hv; simp at hv; subst hv
        exact h.apart x k u z hxk hu hf (by rw [hb, e])
  · have hu : (if x = (k : Int) then some v1 else f x) = some u := hu
    have hu' : (if x' = (k : Int) then some v1 else f x') = some u' := hu'
    have key : ∀ y z, y ≠ (k : Int) → f y = some z → v1.ownBlock ≠ z.ownBlock := fun y z hy hz => by
      have hzr := (h.f_row hz)
      have hzl : 0 < (d.opn y.toNat).length := List.length_pos_iff.2 hzr.2.1
      have hzo : ∃ g, z.ownBlock = some g := by
        rcases hzr.2.2.2 with ⟨_, h1⟩ | ⟨g, cap, cur, rfl, _⟩
        · omega
        · exact ⟨g, rfl⟩
      obtain ⟨g, hg⟩ := hzo
      obtain ⟨cs, hc⟩ := ownsRow_heap hzr.2.2 hg
      rcases hat with e | ⟨b, e, hb⟩
      · rw [e]
        cases hf : f k with
        | none => rw [hf] at hv; simp at hv; subst hv; rw [hg]; simp [Value.ownBlock]
        | some q => rw [hf] at hv; simp at hv; subst hv; exact h.apart k y q z (Ne.symm hy) hf hz
      · rw [e, hg]; intro e1; injection e1 with e1; have := hc.lt; omega
    split at hu
    · rename_i e1
      split at hu'
      · rename_i e2; exact absurd (e1.trans e2.symm) hne
      · rename_i e2; cases hu; exact key x' u' e2 hu'
    · rename_i e1
      split at hu'
      · rename_i e2; cases hu'; exact (key x u e1 hu).symm
      · exact h.apart x x' u u' hne hu hu'
theorem DiskAt.dropped {k : Nat} (h : DiskAt w p bc bm f d) (hm : MapIs w' bm (fun x => if x = (k : Int) then none else f x)) (hk : ∀ b, b < w.heap.size → b ≠ bm → w'.heap[b]? = w.heap[b]?) :
    DiskAt w' p bc bm (fun x => if x = (k : Int) then none else f x) (d.drop k) := by
  have hc : ∀ b cs t, Blk w b cs t → Blk w' b cs t := fun b cs t hb => (hk b hb.lt (fun e => h.map.noCells (by rw [← e]; exact hb))).trans hb
  refine ⟨h.ok.drop k, hc _ _ _ h.obj, hc _ _ _ h.row, hm, fun x hx => ?_, fun x h0 hx => ?_, fun x x' u u' hne hu hu' => ?_⟩
  · show (if x = (k : Int) then none else f x) = none
    split
    · rfl
    · rename_i hxk
      by_cases hx0 : x < 0
      · exact h.none' x (Or.inl hx0)
      · have hxk' : x.toNat ≠ k := by omega
        rcases hx with hx | hx
        · exact absurd hx hx0
        · simp only [Disk.drop, if_neg hxk'] at hx
          exact h.none' x (Or.inr hx)
  · by_cases hxk : x.toNat = k
    · simp only [Disk.drop, if_pos hxk] at hx; exact absurd rfl hx
    · simp only [Disk.drop, if_neg hxk] at hx ⊢
      obtain ⟨u, hu, hr⟩ := h.some' x h0 hx
      refine ⟨u, by rw [if_neg (by omega)]; exact hu, ownsRow_same hr (fun b hb => ?_)⟩
      obtain ⟨cs, hb'⟩ := ownsRow_heap hr hb
      exact hk b hb'.lt (fun e => h.map.noCells (by rw [← e]; exact hb'))
  · have hu : (if x = (k : Int) then none else f x) = some u := hu
    have hu' : (if x' = (k : Int) then none else f x') = some u' := hu'
    split at hu
    · cases hu
    · split at hu'
      · cases hu'
      · exact h.apart x x' u u' hne hu hu'
/-- The struct's own fields turn. -/
theorem DiskAt.fields {d' : Disk} (h : DiskAt w p bc bm f d) (hp : Blk w' p #[.slice (some ⟨bc, 0, none⟩) d.cells.length d.cells.length, .map (some bm), .int .i64 d'.steps, .int .i64 d'.after, .bool d'.dead] 85)
    (hk : ∀ b, b ≠ p → w'.heap[b]? = w.heap[b]?) (hok : d'.Ok) (e1 : d'.cells = d.cells) (e2 : d'.opn = d.opn) : DiskAt w' p bc bm f d' where
  ok := hok
  obj := by rw [e1]; exact hp
  row := by rw [e1]; exact (hk bc (h.row.ne h.obj (by decide))).trans h.row
  map := h.map.same (hk bm (fun e => h.map.noCells (by rw [e]; exact h.obj)))
  none' := by rw [e2]; exact h.none'
  some' := fun k h0 ho => by
    rw [e2] at ho ⊢
    obtain ⟨v, hv, hr⟩ := h.some' k h0 ho
    refine ⟨v, hv, ownsRow_same hr (fun b hb => ?_)⟩
    obtain ⟨cs, hc⟩ := ownsRow_heap hr hb
    exact hk b (hc.ne h.obj (by decide))
  apart := h.apart
end
end Go.Proofs.Ytcaalfpfkalalaa
