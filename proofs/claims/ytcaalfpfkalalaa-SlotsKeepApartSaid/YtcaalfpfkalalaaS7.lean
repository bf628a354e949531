/- slots: copies, slot. -/
import Derived.Test.YtcaalfpfkalalaaS6
set_option linter.unusedVariables false
set_option linter.unusedSimpArgs false
set_option maxRecDepth 10000
set_option maxHeartbeats 8000000
namespace Go.Proofs.Ytcaalfpfkalalaa
open Go.RowKit Qd
open Go.Proofs.YtcaalfpfkalalaaW.PrintLast
attribute [local go_sem] Oper.semAt_some
section
variable {w0 w : World} {rs : List Res} {k : Nat} {o : Oper} {ρ : Operand → Value} {ty t : TypeId} {b : Nat}
/-- Whole rows, single cells: laid, boxed, loaded, stored. -/
theorem Own.xbox (n : Tmp) {x : Operand} {cs : List Value} (h : Own w0 w rs) (hd : o.dst = some n) (ho : o.op = .box ty x) (hx : ρ x = .agg cs.toArray) : ∃ v w1, (execOp ρ o).run Try.prog w = .ok (.value v) w1 ∧ ∃ b, v = .pointer (some ⟨b, 0, none⟩) ∧ Own w0 w1 (rs ++ [blkR b cs.toArray ty]) :=
  ⟨_, _, ex_box ho hx, _, rfl, h.alloc _ _⟩
theorem Own.xalloc1 (n : Tmp) {z : Value} (h : Own w0 w rs) (hd : o.dst = some n) (ho : o.op = .alloc ty) (hz : ∀ w, (zeroValue ty).run Try.prog w = .ok z w) : ∃ v w1, (execOp ρ o).run Try.prog w = .ok (.value v) w1 ∧ ∃ b, v = .pointer (some ⟨b, 0, none⟩) ∧ Own w0 w1 (rs ++ [blkR b z.cells ty]) := by
  refine ⟨_, _, ?_, _, rfl, h.alloc _ _⟩
  unfold execOp
  simp only [ho]
  simp [Instr.alloc, hz, newVar, newRow, newObj, Sem.run, Result.andThen]
theorem Own.xlrow {x : Operand} {cs : List Value} (h : Own w0 w rs) (hk : rs[k]? = some (blkR b cs.toArray t)) (ho : o.op = .load ty x) (hx : ρ x = .pointer (some ⟨b, 0, none⟩)) (hu : ∃ d, Try.prog.underlying ty = some d ∧ d.isRow = true) (hi : (Try.prog.info? ty).map (·.size) = some cs.length) :
    (execOp ρ o).run Try.prog w = .ok (.value (.agg cs.toArray)) w := by
  obtain ⟨d, h1, h2⟩ := hu
  exact ex_load ho hx ((h.blk hk).1.range 0 _ (fun j _ => by rw [Nat.zero_add]; simp)) h1 h2 hi
theorem row_of {ty : TypeId} (h : (Try.prog.underlying ty).map (·.isRow) = some true) : ∃ d, Try.prog.underlying ty = some d ∧ d.isRow = true := by
  obtain ⟨d, h1, h2⟩ := Option.map_eq_some_iff.1 h
  exact ⟨d, h1, h2⟩
end
section
variable {w : World}
theorem copies_calls (p : Nat) (first nn i : Int) : Calls Try.prog 54 #[.agg #[.pointer (some ⟨p, 0, none⟩), .int .i64 first, .int .i64 nn], .int .i64 i] w fun e w' =>
    ∃ Bp Bi, e = .returned (.func (.func 61) #[] #[.pointer (some ⟨Bp, 0, none⟩), .pointer (some ⟨Bi, 0, none⟩)]) ∧ w.heap.size ≤ Bp ∧ w.heap.size ≤ Bi ∧
      Blk w' Bp #[.pointer (some ⟨p, 0, none⟩), .int .i64 first, .int .i64 nn] 91 ∧ Blk w' Bi #[.int .i64 i] 3 ∧ Nw w w' := by
  go_enter Try.func54, Try.ntmps54
  go_wp2
  go_ret
  refine ⟨_, _, rfl, Nat.le_refl _, by simp, ?_, ?_, ((Nw.refl w).alloc _).alloc _⟩
  · exact (Blk.new w _ _).alloc _
  · have := Blk.new (w.alloc (.cells #[.pointer (some ⟨p, 0, none⟩), .int .i64 first, .int .i64 nn] 91)) #[.int .i64 i] 3
    simpa using this
theorem uPart : ∃ d, Try.prog.underlying 91 = some d ∧ d.isRow = true := row_of (by kernel_rfl)
theorem sPart : (Try.prog.info? 91).map (·.size) = some 3 := by kernel_rfl
end
/-- A block of another kind. -/
def objR (b : Nat) (ob : Obj) : Res := ⟨fun w S => S b ∧ w.heap[b]? = some ob, fun h hk => ⟨h.1, (hk b h.1).trans h.2⟩⟩
theorem range_left {w : World} {b o : Nat} {xs ys : List Value} (h : w.rangeAt b o (xs ++ ys)) : w.rangeAt b o xs := fun j v hj => h j v (by rw [List.getElem?_append_left (List.getElem?_eq_some_iff.1 hj).1]; exact hj)
theorem range_right {w : World} {b o : Nat} {xs ys : List Value} (h : w.rangeAt b o (xs ++ ys)) : w.rangeAt b (o + xs.length) ys := fun j v hj => by
  have := h (xs.length + j) v (by rw [List.getElem?_append_right (by omega)]; simpa using hj)
  rwa [show o + xs.length + j = o + (xs.length + j) from by omega]
theorem range_r66 {w : World} {b : Nat} {s : Sec} {i : Int} {g : Bool} {ys : List Value} (hs : SecOk s) (h : w.rangeAt b 0 (foundVals s i g ++ ys)) : w.rangeAt b 66 ys := by
  have := range_right h
  rwa [found66 hs, Nat.zero_add] at this
theorem found_65 {s : Sec} (hs : SecOk s) (i : Int) (g : Bool) : (foundVals s i g)[65]? = some (.bool g) := by
  unfold foundVals
  rw [List.getElem?_append_right (by rw [sec64 hs]; omega), sec64 hs]; rfl
/-- A part of a block. -/
def rowR (b o : Nat) (cs : List Value) : Res := ⟨fun w S => S b ∧ w.rangeAt b o cs, fun h hk => ⟨h.1, fun j v hj => (World.cell?_of_block (hk b h.1)).trans (h.2 j v hj)⟩⟩
section
variable {w0 w : World} {rs : List Res} {k : Nat} {o : Oper} {ρ : Operand → Value}
theorem Own.rowGet {b o : Nat} {cs : List Value} (h : Own w0 w rs) (hk : rs[k]? = some (rowR b o cs)) : w.rangeAt b o cs := by
  obtain ⟨S, hs, _⟩ := h.get hk
  exact hs.2
theorem Own.objGet {b : Nat} {ob : Obj} (h : Own w0 w rs) (hk : rs[k]? = some (objR b ob)) : w.heap[b]? = some ob := by
  obtain ⟨S, hs, _⟩ := h.get hk
  exact hs.2
theorem Own.cell7 {b : Nat} {v : Value} {t : TypeId} (h : Own w0 w rs) (hk : rs[k]? = some (blkR b #[v] t)) : w.cell? ⟨b, 0, none⟩ = some v := by rw [(h.blk hk).1.cell]; rfl
theorem Own.ne {b b' j : Nat} {cs cs' : Array Value} {t t' : TypeId} (h : Own w0 w rs) (hk : rs[k]? = some (blkR b cs t)) (hj : rs[j]? = some (blkR b' cs' t')) (hne : k ≠ j) : b ≠ b' := by
  obtain ⟨_, F, h1, h2, h3⟩ := h
  intro e
  subst e
  exact hne (h3 k j b (h1 k _ hk).1 (h1 j _ hj).1)
/-- Things that lie each in a block of its own. -/
theorem Own.mk' (hn : Nw w0 w) (bs : List Nat) (hl : bs.length = rs.length) (h : ∀ (i : Nat) (r : Res) (b : Nat), rs[i]? = some r → bs[i]? = some b → r.holds w (· = b)) (hd : bs.Nodup) (hb : ∀ b ∈ bs, w0.heap.size ≤ b ∧ b < w.heap.size) : Own w0 w rs := by
  refine ⟨hn, fun i b => bs[i]? = some b, fun i r hi => ?_, fun i b hi => hb b (List.mem_of_getElem? hi), fun i j b hi hj => ?_⟩
  · have hlt : i < bs.length := by rw [hl]; exact (List.getElem?_eq_some_iff.1 hi).1
    have hbi : bs[i]? = some bs[i] := List.getElem?_eq_getElem hlt
    have := h i r bs[i] hi hbi
    have e : (fun b => bs[i]? = some b) = (· = bs[i]) := by
      funext b
      rw [hbi]
      simp [eq_comm]
    show r.holds w (fun b => bs[i]? = some b)
    rw [e]; exact this
  · obtain ⟨h1, e1⟩ := List.getElem?_eq_some_iff.1 hi
    obtain ⟨h2, e2⟩ := List.getElem?_eq_some_iff.1 hj
    have hp := List.pairwise_iff_getElem.1 hd
    rcases Nat.lt_trichotomy i j with h | h | h
    · exact absurd (e1.trans e2.symm) (hp i j h1 h2 h)
    · exact h
    · exact absurd (e2.trans e1.symm) (hp j i h2 h1 h)
theorem exl_founds {x : Operand} {b n c : Nat} {a : Option Addr} (ho : o.op = .load 114 x) (hx : ρ x = .pointer (some ⟨b, 0, none⟩)) (hc : w.cell? ⟨b, 0, none⟩ = some (.slice a n c)) : (execOp ρ o).run Try.prog w = .ok (.value (.slice a n c)) w := by
  unfold execOp
  simp only [ho, hx]
  go_simp
theorem exl_bool1 {x : Operand} {b j : Nat} {g : Bool} (ho : o.op = .load 4 x) (hx : ρ x = .pointer (some ⟨b, j, none⟩)) (hc : w.cell? ⟨b, j, none⟩ = some (.bool g)) : (execOp ρ o).run Try.prog w = .ok (.value (.bool g)) w := by
  unfold execOp
  simp only [ho, hx]
  go_simp
theorem exl_found {x : Operand} {b j : Nat} {s : Sec} {i : Int} {g : Bool} (ho : o.op = .load 95 x) (hx : ρ x = .pointer (some ⟨b, j, none⟩)) (hs : SecOk s) (hr : w.rangeAt b j (foundVals s i g)) : (execOp ρ o).run Try.prog w = .ok (.value (.agg (foundVals s i g).toArray)) w := by
  obtain ⟨d, h1, h2⟩ := uFound
  exact ex_load ho hx hr h1 h2 (by rw [found66 hs]; exact sFound)
theorem exs_found {x y : Operand} {b j : Nat} {s : Sec} {i : Int} {g : Bool} (ho : o.op = .store 95 x y) (hx : ρ x = .pointer (some ⟨b, j, none⟩)) (hs : SecOk s) (hy : ρ y = .agg (foundVals s i g).toArray) (hr : w.there b j 66) : (execOp ρ o).run Try.prog w = .ok .skip (w.setCells b j (foundVals s i g)) :=
  ex_store ho hx hy (by rw [found66 hs]; exact hr) (by rw [found66 hs]; exact sFound) (foundVals_one _ _ _)
theorem exb_fz (ho : o.op = .build 95 #[]) : (execOp ρ o).run Try.prog w = .ok (.value (.agg (foundVals zeroSec 0 false).toArray)) w := by
  have h : (Instr.build 95 #[]).run Try.prog w = .ok (.agg (foundVals zeroSec 0 false).toArray) w := by kernel_rfl
  unfold execOp
  simp only [ho, List.map_toArray, List.map_nil, Sem.run_bind, h, Result.andThen_ok, Sem.run_pure]
theorem Own.xsint {x y : Operand} {b : Nat} {u u' : Int} (h : Own w0 w rs) (ho : o.op = .store 26 x y) (hx : ρ x = .pointer (some ⟨b, 0, none⟩)) (hk : rs[k]? = some (blkR b #[.int .i64 u'] 26)) (hy : ρ y = .int .i64 u) :
    ∃ w1, (execOp ρ o).run Try.prog w = .ok .skip w1 ∧ Own w0 w1 (rs.set k (blkR b #[.int .i64 u] 26)) := by
  have hb := (h.blk hk).1
  have hc : w.cell? ⟨b, 0, none⟩ = some (.int .i64 u') := by rw [hb.cell]; rfl
  have hf := hb.frozen 0
  refine ⟨w.setCells b 0 [.int .i64 u], ?_, h.set hk (by simp) (by simp)⟩
  unfold execOp
  simp only [ho, hx, hy]
  go_simp
  rfl
end
section
variable {P : Program} {F : Fence} {n : Nat} {ops : Array Oper} {rest : List Oper} {o : Oper} {a : Act} {Q : Exit → Act → World → Prop} {w : World}
theorem gi_val_ex {C : Value → World → Prop} (hgd : o.guard = none) (hab : ∀ f, o.about P w a.eval = some f → F.fn f) (hd : isDefer o.op = false) (hrun : ∃ v w1, (execOp a.eval o).run P w = .ok (.value v) w1 ∧ C v w1) (h : ∀ v w1, C v w1 → wpListIn F n P ops Q rest (a.put o.dst v) w1) : wpListIn F n P ops Q (o :: rest) a w := by
  obtain ⟨v, w1, hr, hc⟩ := hrun
  exact gi_val hgd hab hd hr (h v w1 hc)
theorem gi_skp_ex {C : World → Prop} (hgd : o.guard = none) (hab : ∀ f, o.about P w a.eval = some f → F.fn f) (hd : isDefer o.op = false) (hrun : ∃ w1, (execOp a.eval o).run P w = .ok .skip w1 ∧ C w1) (h : ∀ w1, C w1 → wpListIn F n P ops Q rest (a.put o.dst undef) w1) : wpListIn F n P ops Q (o :: rest) a w := by
  obtain ⟨w1, hr, hc⟩ := hrun
  exact gi_skp hgd hab hd hr (h w1 hc)
end
theorem KeepsFrom.nw {w w' : World} (h : Nw w w') (B : Nat) : KeepsFrom B w w' := ⟨h.size, fun k o _ hk _ => (h.block k (Array.getElem?_eq_some_iff.1 hk).1 (fun h => h)).trans hk⟩
def fv (x : FE) : List Value := foundVals x.s x.at' x.good
theorem fv_len (x : FE) : (fv x).length = 66 := found66 x.ok _ _
/-- append(v, x) of found copies. -/
theorem exp_found {ρ : Operand → Value} {o : Oper} {w : World} {s x : Operand} {v : Value} {base b n : Nat} {l : List FE} {y : FE} (ho : o.op = .call { callee := .builtin .append, args := #[s, x], argTypes := #[114, 114] }) (hs : ρ s = v) (hl : l.length = n) (hown : w.ownsRow base 95 66 v n (l.flatMap fv))
    (hx : ρ x = .slice (some ⟨b, 0, none⟩) 1 1) (hb : w.rangeAt b 0 (fv y)) (hn : n < 1000) (hbase : base ≤ w.heap.size) :
    ∃ v' w', (execOp ρ o).run Try.prog w = .ok (.value v') w' ∧ w'.ownsRow base 95 66 v' (n + 1) ((l ++ [y]).flatMap fv) ∧ w.grownBy w' v.ownBlock ∧ (v'.ownBlock = v.ownBlock ∨ v'.ownBlock = some w.heap.size) := by
  obtain ⟨i, hi1, hi2⟩ := Option.map_eq_some_iff.1 iFound
  simp only [Prod.mk.injEq] at hi2
  obtain ⟨v', w', hr, h2, h3, _, h5⟩ := run_append_own_at (P := Try.prog) w base 114 o.type 95 i _ 66 80 uFounds hi1 hi2.1 hi2.2.1 hi2.2.2 (by simp [Value.cells, found66 zeroSec_ok]) (by omega) v n _ hown ⟨b, 0, none⟩ 1 1 (fv y) (by rw [fv_len]) (fun j u hj => by rw [Addr.add_mid]; exact hb j u hj) (foundVals_one _ _ _) (by unfold maxLen; omega) (by omega) hbase
  refine ⟨v', w', ?_, by rw [List.flatMap_append]; simpa using h2, h3, h5⟩
  unfold execOp
  simp only [ho, resolve, invoke, builtin, Sem.run_bind, Sem.run_pure, Result.andThen_ok, List.map_toArray, List.map_cons, List.map_nil, hs, hx, hr]
theorem exz_found {o : Oper} {ρ : Operand → Value} {w : World} {x : Operand} (ho : o.op = .buildSlice 114 1 #[(0, x)]) {s : Sec} {i : Int} {g : Bool} (hs : SecOk s) (hx : ρ x = .agg (foundVals s i g).toArray) : (execOp ρ o).run Try.prog w = .ok (.value (.slice (some ⟨w.heap.size, 0, none⟩) 1 1)) (w.alloc (.cells (foundVals s i g).toArray 95)) := by
  have hi : (Try.prog.info? 95).map (fun i => (i.zero, i.size)) = some (some (.agg (foundVals zeroSec 0 false).toArray), 66) := by kernel_rfl
  exact ex_slice1 ho uFounds hi (by simp [Value.cells, found66 zeroSec_ok]) (by omega) (by omega) (by rw [hx]; rfl) (found66 hs i g)
section
variable {w : World}
attribute [local irreducible] diskR blkR rowR objR secVals SecOk DiskIn Own foundVals feOf
-- SLOT
theorem blk_kept {A A' : World} {B b : Nat} {cs : Array Value} {t : TypeId} {row : Option Nat} (h : Blk A b cs t) (hg : A.grownBy A' row) (hr : ∀ r, row = some r → B ≤ r ∧ ∃ o : Obj, A.heap[r]? = some o ∧ o.isCells = false) : Blk A' b cs t := by
  refine (hg.block b h.lt (fun e => ?_)).trans h
  obtain ⟨_, o, ho, hc⟩ := hr b e.symm
  have := h.symm.trans ho
  injection this with this
  subst this
  simp [Obj.isCells] at hc
theorem row_kept {A A' : World} {B base e size n : Nat} {v : Value} {xs : List Value} {row : Option Nat} (h : A.ownsRow base e size v n xs) (hg : A.grownBy A' row) (hr : ∀ r, row = some r → B ≤ r ∧ ∃ o : Obj, A.heap[r]? = some o ∧ o.isCells = false) : A'.ownsRow base e size v n xs := by
  refine ownsRow_same h (fun b hb => ?_)
  obtain ⟨cs, hc⟩ := ownsRow_heap h hb
  exact (blk_kept hc hg hr).trans hc.symm
theorem nw_kept {w A A' : World} {B : Nat} {row : Option Nat} (h : Nw w A) (hB : w.heap.size ≤ B) (hg : A.grownBy A' row) (hr : ∀ r, row = some r → B ≤ r ∧ ∃ o : Obj, A.heap[r]? = some o ∧ o.isCells = false) : Nw w A' :=
  h.grown hg (fun k e => by have := (hr k e).1; omega)
theorem ownsRow_base {w : World} {base e size n : Nat} {v : Value} {xs : List Value} (h : w.ownsRow base e size v n xs) : ∀ b, v.ownBlock = some b → base ≤ b := fun b hb => by
  rcases h.2 with ⟨e, _⟩ | ⟨g', cap, cur, e, hb', _⟩
  · rw [e] at hb; simp [Value.ownBlock] at hb
  · rw [e] at hb; simp [Value.ownBlock] at hb; omega
def calm (Q : Exit → Act → World → Prop) : Exit → Act → World → Prop
  | .panic _, _, _ => False
  | .normal, a, w => Q .normal a w
  | .ret, a, w => Q .ret a w
  | .exit i, a, w => Q (.exit i) a w
  | .goto i, a, w => Q (.goto i) a w
  | .outgrown, a, w => Q .outgrown a w
theorem calm_le (Q : Exit → Act → World → Prop) : ∀ e a w, calm Q e a w → Q e a w := fun e a w h => by
  cases e <;> first | exact h | exact h.elim
abbrev fz : Array Value := (foundVals zeroSec 0 false).toArray
/-- Between two rounds. -/
def SlotI (w : World) (B b4 b5 b6 b7 : Nat) (pre : List FE) (W : World) : Prop := Nw w W ∧ B ≤ W.heap.size ∧ Blk W b4 fz 95 ∧ Blk W b5 fz 95 ∧ Blk W b6 #[.int .i64 0] 26 ∧ (∀ x ∈ pre, x.e = 0) ∧
  ∃ v, Blk W b7 #[v] 114 ∧ W.ownsRow B 95 66 v pre.length (pre.flatMap fv)
/-- A round has returned. -/
def SlotX (w : World) (b4 b5 b6 : Nat) (c : Code) (pre : List FE) (W : World) : Prop := c = .ret ∧ Nw w W ∧ Blk W b4 fz 95 ∧ Blk W b5 fz 95 ∧ ∃ q x, pre = q ++ [x] ∧ x.e ≠ 0 ∧ (∀ y ∈ q, y.e = 0) ∧ Blk W b6 #[.int .i64 x.e] 26
theorem slotI_own {w : World} {B b4 b5 b6 b7 : Nat} (hB : w.heap.size ≤ B) : OwnFrom B (SlotI w B b4 b5 b6 b7) := fun s A A' row hs hg hr => by
  obtain ⟨h1, h0, h2, h3, h4, h5, v, h6, h7⟩ := hs
  exact ⟨nw_kept h1 hB hg hr, Nat.le_trans h0 hg.size, blk_kept h2 hg hr, blk_kept h3 hg hr, blk_kept h4 hg hr, h5, v, blk_kept h6 hg hr, row_kept h7 hg hr⟩
theorem slotX_own {w : World} {B b4 b5 b6 : Nat} (hB : w.heap.size ≤ B) (c : Code) : OwnFrom B (SlotX w b4 b5 b6 c) := fun s A A' row hs hg hr => by
  obtain ⟨h1, h2, h3, h4, q, x, h5, h6, h7, h8⟩ := hs
  exact ⟨h1, nw_kept h2 hB hg hr, blk_kept h3 hg hr, blk_kept h4 hg hr, q, x, h5, h6, h7, blk_kept h8 hg hr⟩
def SlotPost (d : Disk) (first i : Int) (e : Ending) : Prop :=
  if (d.slot first i).e ≠ 0 then e = .returned (.tuple #[.agg fz, .agg fz, .int .i64 (d.slot first i).e])
  else e = .returned (.tuple #[.agg (foundVals (d.slot first i).best.s (if (d.slot first i).second = true then first + 2 * i + 1 else first + 2 * i) (d.slot first i).best.good).toArray,
    .agg (foundVals (d.slot first i).other.s (if (d.slot first i).second = true then first + 2 * i else first + 2 * i + 1) (d.slot first i).other.good).toArray, .int .i64 0])
theorem slot_end {fn : Func} (hres : fn.results = #[.cell 4 95, .cell 5 95, .cell 6 26]) {R : Ending → World → Prop} {W : World} {tmps : Array Value} {b4 b5 b6 D : Nat} {A B : List Value} {e : Int} (h4 : tmps.getD 4 undef = .pointer (some ⟨b4, 0, none⟩)) (h5 : tmps.getD 5 undef = .pointer (some ⟨b5, 0, none⟩)) (h6 : tmps.getD 6 undef = .pointer (some ⟨b6, 0, none⟩))
    (k4 : Blk W b4 A.toArray 95) (k5 : Blk W b5 B.toArray 95) (k6 : Blk W b6 #[.int .i64 e] 26) (hK : W.heap[D]? = some (.deferred (some []))) (hA : A.length = 66) (hB : B.length = 66)
    (hR : R (.returned (.tuple #[.agg A.toArray, .agg B.toArray, .int .i64 e])) (W.putObj D (.deferred none))) :
    bodyPostM Fence.wide 5 Try.prog fn R .ret { tmps := tmps, defers := [{ target := .collected D, args := #[] }] } W := by
  refine ⟨by simp, .inl ⟨_, _, rfl, run_takeDeferred hK, ?_⟩⟩
  have hne : ∀ b cs t, Blk W b cs t → b ≠ D := fun b cs t h e => by
    subst e
    have := h.symm.trans hK
    injection this with this
    cases this
  have hk : ∀ b cs t, Blk W b cs t → Blk (W.putObj D (.deferred none)) b cs t := fun b cs t h => (World.putObj_heap_other (hne b cs t h)).trans h
  have j4 := hk _ _ _ k4
  have j5 := hk _ _ _ k5
  have j6 := hk _ _ _ k6
  generalize W.putObj D (.deferred none) = W' at j4 j5 j6 hR
  obtain ⟨d, hu, hd⟩ := uFound
  have r4 := run_loadVar_mid (P := Try.prog) W' b4 0 95 A d (j4.range 0 _ (fun j _ => by rw [Nat.zero_add]; simp)) hu hd (by rw [hA]; exact sFound)
  have r5 := run_loadVar_mid (P := Try.prog) W' b5 0 95 B d (j5.range 0 _ (fun j _ => by rw [Nat.zero_add]; simp)) hu hd (by rw [hB]; exact sFound)
  have c6 : W'.cell? ⟨b6, 0, none⟩ = some (.int .i64 e) := by rw [j6.cell]; rfl
  have hp4 : tmps[4]?.getD undef = .pointer (some ⟨b4, 0, none⟩) := by simpa using h4
  have hp5 : tmps[5]?.getD undef = .pointer (some ⟨b5, 0, none⟩) := by simpa using h5
  have hp6 : tmps[6]?.getD undef = .pointer (some ⟨b6, 0, none⟩) := by simpa using h6
  have r6 : (loadVar 26 ⟨b6, 0, none⟩).run Try.prog W' = .ok (.int .i64 e) W' := by
    clear r4 r5 hp4 hp5 hp6
    go_simp
  refine ⟨_, ?_, hR⟩
  simp [results, hres, hp4, hp5, hp6, asAddr, r4, r5, r6]
theorem slot_calls {S : Nat → Prop} {p : Nat} {d : Disk} {first nn i : Int} (hd : DiskIn w S p d) (hS : ∀ b, S b → b < w.heap.size) (hf0 : 0 ≤ first) (hf1 : first ≤ 65536) (hi0 : 0 ≤ i) (hi1 : i ≤ 65536) :
    Calls Try.prog 38 #[.agg #[.pointer (some ⟨p, 0, none⟩), .int .i64 first, .int .i64 nn], .int .i64 i] w fun e w' => SlotPost d first i e ∧ Nw w w' := by
  have hdok := hd.ok
  have HD := Lib.hid hd
  have HS := Lib.hid hS
  clear hd hS
  have ho := Own.start w
  have z26 : ∀ w, (zeroValue 26).run Try.prog w = .ok (.int .i64 0) w := fun w => by kernel_rfl
  have z114 : ∀ w, (zeroValue 114).run Try.prog w = .ok (.slice none 0 0) w := fun w => by kernel_rfl
  have Z26 := Lib.hid z26
  have Z114 := Lib.hid z114
  clear z26 z114
  refine (callsIn_wide (n := 5)).1 ?_
  refine callsIn_of_wp_marks Try.func38 rfl trivial (wpIn_mono (Q := calm _) ?_ (calm_le _)) rfl
  simp only [Try.ntmps38, List.size_toArray, List.length_cons, List.length_nil, Nat.reduceAdd, Nat.reduceSub, Array.replicate_succ, Array.replicate_zero, List.push_toArray, List.append_toArray, List.nil_append, List.cons_append]
  refine (wpIn_wide (n := 5)).2 ?_
  go_wp2_with (first
    | (refine go_val_ex rfl (ho.xbox 2 rfl rfl (cs := [.pointer (some ⟨p, 0, none⟩), .int .i64 first, .int .i64 nn]) rfl) ?_; rintro v w1 ⟨b2, rfl, hq⟩; simp only [Act.put, List.setIfInBounds_toArray, List.set_cons_zero, List.set_cons_succ]; (try simp only [List.nil_append, List.cons_append, List.set_cons_zero, List.set_cons_succ] at hq); replace ho := hq; clear hq)
    | (refine go_val_ex rfl (ho.xafound 4 rfl rfl) ?_; rintro v w1 ⟨b4, rfl, hq⟩; simp only [Act.put, List.setIfInBounds_toArray, List.set_cons_zero, List.set_cons_succ]; (try simp only [List.nil_append, List.cons_append, List.set_cons_zero, List.set_cons_succ] at hq); replace ho := hq; clear hq)
    | (refine go_val_ex rfl (ho.xafound 5 rfl rfl) ?_; rintro v w1 ⟨b5, rfl, hq⟩; simp only [Act.put, List.setIfInBounds_toArray, List.set_cons_zero, List.set_cons_succ]; (try simp only [List.nil_append, List.cons_append, List.set_cons_zero, List.set_cons_succ] at hq); replace ho := hq; clear hq)
    | (refine go_val_ex rfl (ho.xalloc1 6 rfl rfl Z26.out) ?_; rintro v w1 ⟨b6, rfl, hq⟩; simp only [Act.put, List.setIfInBounds_toArray, List.set_cons_zero, List.set_cons_succ]; (try simp only [List.nil_append, List.cons_append, List.set_cons_zero, List.set_cons_succ] at hq); replace ho := hq; clear hq)
    | (refine go_val_ex rfl (ho.xalloc1 7 rfl rfl Z114.out) ?_; rintro v w1 ⟨b7, rfl, hq⟩; simp only [Act.put, List.setIfInBounds_toArray, List.set_cons_zero, List.set_cons_succ]; (try simp only [List.nil_append, List.cons_append, List.set_cons_zero, List.set_cons_succ] at hq); replace ho := hq; clear hq)
    | (refine go_val rfl (ho.xlrow (k := 0) (x := .tmp 2) (cs := [.pointer (some ⟨p, 0, none⟩), .int .i64 first, .int .i64 nn]) rfl rfl rfl uPart sPart) ?_; simp only [Act.put, List.setIfInBounds_toArray, List.set_cons_zero, List.set_cons_succ])
    | (go_at_call 54; refine (copies_calls _ _ _ _).mono ?_; rintro e w5 ⟨Bp, Bi, rfl, hBp, hBi, hbp, hbi, hn5⟩; replace ho := ho.nw hn5))
  obtain ⟨hb4, hw4⟩ := ho.blk (i := 1) rfl
  obtain ⟨hb5, hw5⟩ := ho.blk (i := 2) rfl
  obtain ⟨hb6, hw6⟩ := ho.blk (i := 3) rfl
  obtain ⟨hb7, hw7⟩ := ho.blk (i := 4) rfl
  have n45 := ho.ne (k := 1) (j := 2) rfl rfl (by omega)
  have hnw5 := ho.nw0
  have hlt4 := hb4.lt
  have hlt5 := hb5.lt
  have hlt6 := hb6.lt
  have hlt7 := hb7.lt
  have n46 : b4 ≠ b6 := hb4.ne hb6 (by decide)
  have n47 : b4 ≠ b7 := hb4.ne hb7 (by decide)
  have n56 : b5 ≠ b6 := hb5.ne hb6 (by decide)
  have n57 : b5 ≠ b7 := hb5.ne hb7 (by decide)
  have n67 : b6 ≠ b7 := hb6.ne hb7 (by decide)
  have np7 : Bp ≠ b7 := hbp.ne hb7 (by decide)
  have ni7 : Bi ≠ b7 := hbi.ne hb7 (by decide)
  have hltp := hbp.lt
  have hlti := hbi.lt
  have HO5 := Lib.hid ho
  have HB := Lib.hid hnw5.size
  clear ho
  refine (wpIn_wide (n := 5)).1 ?_
  refine wpIn_rangeFunc_ownH (F := Fence.wide) (n := 5) rfl (by omega) (gf := 61) (lb := #[.pointer (some ⟨Bp, 0, none⟩), .pointer (some ⟨Bi, 0, none⟩)]) rfl trivial (enters_of Try.func61 (by kernel_rfl) rfl)
    (copies_stops (T := fun b => b = b7 ∨ w5.heap.size ≤ b) (5 - 1) hdok (HD.out.nw hnw5) (fun b hb h => by have := HS.out b hb; omega) hbp (fun h => by omega) hbi (fun h => by omega) hf0 hf1 hi0 hi1)
    (fun h k => h.trans k)
    (fun W l o o' hl ho1 ho2 ho3 => ⟨rfl, rfl, rfl, by simp, fun k hk hT => World.putObj_heap_other (fun e => hT (Or.inr (by omega))), fun k hk => Or.inl hk⟩)
    (Below.refl _ _) (fun _ => rfl) (SlotI w w5.heap.size b4 b5 b6 b7) (SlotX w b4 b5 b6) (slotI_own HB.out) (slotX_own HB.out)
    ⟨hnw5, Nat.le_refl _, hb4, hb5, hb6, by simp, .slice none 0 0, hb7, ⟨by simp, .inl ⟨rfl, rfl⟩⟩⟩
    (fun x a' W => ∃ b8, w5.heap.size ≤ b8 ∧ Blk W b8 (foundVals x.s x.at' x.good).toArray 95 ∧ a' = { tmps := #[.agg #[.pointer (some ⟨p, 0, none⟩), .int .i64 first, .int .i64 nn], .int .i64 i, .pointer (some ⟨b2, 0, none⟩), undef, .pointer (some ⟨b4, 0, none⟩), .pointer (some ⟨b5, 0, none⟩), .pointer (some ⟨b6, 0, none⟩), .pointer (some ⟨b7, 0, none⟩), .pointer (some ⟨b8, 0, none⟩), .int .i64 x.e,
      .agg #[.pointer (some ⟨p, 0, none⟩), .int .i64 first, .int .i64 nn], .int .i64 i, .func (.func 61) #[] #[.pointer (some ⟨Bp, 0, none⟩), .pointer (some ⟨Bi, 0, none⟩)], .agg (foundVals x.s x.at' x.good).toArray, .int .i64 x.e, undef, undef, undef, undef, undef, undef, undef, undef, undef, undef, undef, undef, undef, undef, undef, undef, undef, undef, undef, undef, undef, undef, undef, undef, undef, undef, undef, undef, undef, undef, undef, undef, undef, undef, undef, undef, undef, undef, undef, undef, undef, undef, undef, undef, undef], defers := [] })
    (fun x a' => fun s A A' row hs hg hr => by
      obtain ⟨b8, h1, h2, h3⟩ := hs
      exact ⟨b8, h1, blk_kept h2 hg hr, h3⟩) ?assign ?body ?done ?stop
  case assign =>
    intro l pre x W K hI hK
    have HI := Lib.hid hI
    have HK := Lib.hid hK
    have hxok := x.ok
    clear hI hK
    simp only [FE.encs, ← Array.foldl_toList, Array.toList_zip, List.zip_cons_cons, List.zip_nil_left, List.zip_nil_right, List.foldl_cons, List.foldl_nil, List.setIfInBounds_toArray, List.set_cons_zero, List.set_cons_succ]
    have ho := Own.start W
    gi_wp2_with (first
      | (refine gi_val_ex rfl (fun _ _ => trivial) rfl (ho.xafound 8 rfl rfl) ?_; rintro v w6 ⟨b8, rfl, hq⟩; simp only [Act.put, List.setIfInBounds_toArray, List.set_cons_zero, List.set_cons_succ]; (try simp only [List.nil_append, List.cons_append, List.set_cons_zero, List.set_cons_succ] at hq); replace ho := hq; clear hq)
      | (refine gi_skp_ex rfl (fun _ _ => trivial) rfl (ho.xsfound (k := 0) (s' := x.s) (i' := x.at') (g' := x.good) (x := .tmp 8) (y := .tmp 13) rfl rfl rfl zeroSec_ok hxok rfl) ?_; rintro w6 hq; simp only [Act.put, List.setIfInBounds_toArray, List.set_cons_zero, List.set_cons_succ]; (try simp only [List.nil_append, List.cons_append, List.set_cons_zero, List.set_cons_succ] at hq); replace ho := hq; clear hq))
    have hn := ho.nw0
    exact HK.out _ _ (KeepsFrom.nw hn _) (hn.toTurn _) ((slotI_own HB.out) pre W _ none HI.out hn.grownBy (fun r e => by cases e)) ⟨b8, Nat.le_trans HI.out.2.1 (ho.blk (i := 0) rfl).2, (ho.blk (i := 0) rfl).1, rfl⟩
  case body =>
    rintro l pre x a' W hl ⟨r, hr⟩ hI ⟨b8, hb8, bX, rfl⟩ hlt
    obtain ⟨h1, h0, h2, h3, h4, h5, v, h6, h7⟩ := hI
    have hxok := x.ok
    have lt4 := h2.lt
    by_cases he : x.e = 0
    · have he' : (x.e != 0) = false := by simp [he]
      have HE := Lib.hid he
      have H7 := Lib.hid h7
      have H1 := Lib.hid h1
      have H2 := Lib.hid h2
      have H3 := Lib.hid h3
      have H4 := Lib.hid h4
      have H5 := Lib.hid h5
      have H6 := Lib.hid h6
      have HX := Lib.hid bX
      obtain ⟨va, vc, rfl⟩ := own_slice h7
      have c7 : W.cell? ⟨b7, 0, none⟩ = some (.slice va pre.length vc) := by rw [h6.cell]; rfl
      clear he h1 h2 h3 h4 h5 h6 h7 bX hr
      have hbase : ∀ g, (Value.slice va pre.length vc).ownBlock = some g → w5.heap.size ≤ g := fun g hg => by
        rcases H7.out.2 with ⟨e, _⟩ | ⟨g', cap, cur, e, hb, _⟩
        · rw [e] at hg; simp [Value.ownBlock] at hg
        · rw [e] at hg; simp [Value.ownBlock] at hg; omega
      have HBS := Lib.hid hbase
      have hpl : pre.length < 1000 := by omega
      have HRN := Lib.hid ((Blk.new W (foundVals x.s x.at' x.good).toArray 95).range 0 (fv x) (fun j _ => by rw [Nat.zero_add]; simp [fv]))
      have HR7 := Lib.hid (H7.out.alloc (.cells (foundVals x.s x.at' x.good).toArray 95))
      have hsz0 : w5.heap.size ≤ (W.alloc (.cells (foundVals x.s x.at' x.good).toArray 95)).heap.size := by rw [World.size_alloc]; omega
      have HSZ := Lib.hid hsz0
      clear hbase hsz0
      gi_wp2_with (first
        | (refine gi_val rfl (fun _ _ => trivial) rfl (exl_founds (x := .tmp 7) rfl rfl c7) ?_; simp only [Act.put, List.setIfInBounds_toArray, List.set_cons_zero, List.set_cons_succ])
        | (refine gi_val rfl (fun _ _ => trivial) rfl (exl_found (x := .tmp 8) (b := b8) (j := 0) (s := x.s) (i := x.at') (g := x.good) rfl rfl hxok (HX.out.range 0 _ (fun j _ => by rw [Nat.zero_add]; simp))) ?_; simp only [Act.put, List.setIfInBounds_toArray, List.set_cons_zero, List.set_cons_succ])
        | (refine gi_val rfl (fun _ _ => trivial) rfl (exz_found (x := .tmp 21) rfl hxok rfl) ?_; simp only [Act.put, List.setIfInBounds_toArray, List.set_cons_zero, List.set_cons_succ])
        | (refine gi_val_ex rfl (fun _ _ => trivial) rfl (exp_found (s := .tmp 20) (x := .tmp 22) (v := .slice va pre.length vc) (b := W.heap.size) (l := pre) (y := x) rfl rfl rfl HR7.out rfl HRN.out hpl HSZ.out) ?_; rintro v7 w7 ⟨ho7, hg7, hat7⟩; obtain ⟨va7, vc7, rfl⟩ := own_slice ho7; have b77 : Blk w7 b7 _ _ := (hg7.block b7 (by rw [World.size_alloc]; omega) (fun e => by have := HBS.out b7 e.symm; omega)).trans (H6.out.alloc _); have c77 := b77.cell 0; have f77 := b77.frozen 0; have HO7 := Lib.hid ho7; have HG7 := Lib.hid hg7; have HB77 := Lib.hid b77; clear ho7 hg7 hat7 b77; simp only [Act.put, List.setIfInBounds_toArray, List.set_cons_zero, List.set_cons_succ]))
      have r7 := ownsRow_base HO7.out
      have hne : ∀ b, b < w5.heap.size → some b ≠ (Value.slice va pre.length vc).ownBlock := fun b hb e => by have := HBS.out b e.symm; omega
      have hk : ∀ k, k < W.heap.size → k ≠ b7 → some k ≠ (Value.slice va pre.length vc).ownBlock → (w7.setCell ⟨b7, 0, none⟩ (Value.slice va7 (pre.length + 1) vc7)).heap[k]? = W.heap[k]? := fun k hk hk7 hks =>
        (heap_setCell_other _ ⟨b7, 0, none⟩ k _ hk7).trans ((HG7.out.block k (by rw [World.size_alloc]; omega) hks).trans ((MapKept.heap_alloc W _).2 k hk))
      have hsz7 : W.heap.size ≤ (w7.setCell ⟨b7, 0, none⟩ (Value.slice va7 (pre.length + 1) vc7)).heap.size := by
        have := HG7.out.size
        rw [World.size_alloc] at this
        simp [World.setCell]; omega
      have hT : Turn (fun b => b = b7 ∨ w5.heap.size ≤ b) W (fun b => b = b7 ∨ w5.heap.size ≤ b) (w7.setCell ⟨b7, 0, none⟩ (Value.slice va7 (pre.length + 1) vc7)) :=
        ⟨HG7.out.os, HG7.out.tape, HG7.out.output, hsz7, fun k hkl hkT => hk k hkl (fun e => hkT (Or.inl e)) (hne k (by omega)), fun k h => Or.inl h⟩
      have hnw : Nw w (w7.setCell ⟨b7, 0, none⟩ (Value.slice va7 (pre.length + 1) vc7)) :=
        ⟨HG7.out.os.trans H1.out.os, HG7.out.tape.trans H1.out.tape, HG7.out.output.trans H1.out.output, Nat.le_trans H1.out.size hsz7, fun k hkl _ => (hk k (Nat.lt_of_lt_of_le hkl H1.out.size) (by omega) (hne k (by have := HB.out; omega))).trans (H1.out.block k hkl (fun h => h)), fun k h => h.elim⟩
      have hother : ∀ b cs t, Blk W b cs t → b ≠ b7 → b < w5.heap.size → Blk (w7.setCell ⟨b7, 0, none⟩ (Value.slice va7 (pre.length + 1) vc7)) b cs t := fun b cs t hb hb7 hlt => (hk b hb.lt hb7 (hne b hlt)).trans hb
      refine ⟨⟨hsz7, fun k o hB hko hoc => ?_⟩, hT, hnw, Nat.le_trans h0 hsz7, hother _ _ _ H2.out n47 hlt4, hother _ _ _ H3.out n57 hlt5, hother _ _ _ H4.out n67 hlt6, fun y hy => ?_, _, heap_setCell_same w7 b7 0 _ _ _ HB77.out, ?_⟩
      · have hkl := (Array.getElem?_eq_some_iff.1 hko).1
        refine (hk k hkl (by omega) (fun e => ?_)).trans hko
        obtain ⟨cs, hcs⟩ := ownsRow_heap H7.out e.symm
        have := hcs.symm.trans hko
        injection this with this
        subst this
        simp [Obj.isCells] at hoc
      · rcases List.mem_append.1 hy with h | h
        · exact H5.out y h
        · simp at h; rw [h]; exact HE.out
      · rw [List.length_append]
        exact ownsRow_same HO7.out (fun b hb => heap_setCell_other _ ⟨b7, 0, none⟩ b _ (by have := r7 b hb; show b ≠ b7; omega))
    · have he' : (x.e != 0) = true := by simp [he]
      have HE := Lib.hid he
      have H1 := Lib.hid h1
      have H2 := Lib.hid h2
      have H3 := Lib.hid h3
      have H4 := Lib.hid h4
      have H5 := Lib.hid h5
      have hl66 : (foundVals zeroSec 0 false).length = 66 := found66 zeroSec_ok 0 false
      have hfs : (fz).size = 66 := by show (foundVals zeroSec 0 false).toArray.size = 66; rw [List.size_toArray, hl66]
      have HT4 := Lib.hid (h2.there 0 66 (by rw [hfs]; omega))
      have hA : Blk (W.setCells b4 0 (foundVals zeroSec 0 false)) b4 fz 95 := by
        have := blk_over (ys := foundVals zeroSec 0 false) h2 rfl
        exact this
      have hk1 : ∀ k, k ≠ b4 → (W.setCells b4 0 (foundVals zeroSec 0 false)).heap[k]? = W.heap[k]? := fun k hk => heap_setCells_ne h2 _ (by rw [hfs, hl66]; omega) hk
      have h3' : Blk (W.setCells b4 0 (foundVals zeroSec 0 false)) b5 fz 95 := (hk1 b5 (Ne.symm n45)).trans h3
      have HT5 := Lib.hid (h3'.there 0 66 (by rw [hfs]; omega))
      have hk2 : ∀ k, k ≠ b5 → ((W.setCells b4 0 (foundVals zeroSec 0 false)).setCells b5 0 (foundVals zeroSec 0 false)).heap[k]? = (W.setCells b4 0 (foundVals zeroSec 0 false)).heap[k]? := fun k hk => heap_setCells_ne h3' _ (by rw [hfs, hl66]; omega) hk
      have h4' : Blk ((W.setCells b4 0 (foundVals zeroSec 0 false)).setCells b5 0 (foundVals zeroSec 0 false)) b6 #[.int .i64 0] 26 := (hk2 b6 (Ne.symm n56)).trans ((hk1 b6 (Ne.symm n46)).trans h4)
      have c6 := h4'.cell 0
      have f6 := h4'.frozen 0
      have HX2 : Hid (Turn (fun b => b = b4 ∨ b = b5) W (fun b => b = b4 ∨ b = b5) ((W.setCells b4 0 (foundVals zeroSec 0 false)).setCells b5 0 (foundVals zeroSec 0 false))) :=
        Lib.hid ((Turn.setCells h2 _ (by rw [hfs, hl66]; omega) (Or.inl rfl)).trans (Turn.setCells h3' _ (by rw [hfs, hl66]; omega) (Or.inr rfl)))
      have HA := Lib.hid ((hk2 b4 n45).trans hA)
      have HA5 := Lib.hid (show Blk ((W.setCells b4 0 (foundVals zeroSec 0 false)).setCells b5 0 (foundVals zeroSec 0 false)) b5 fz 95 from blk_over (ys := foundVals zeroSec 0 false) h3' rfl)
      have HA6 := Lib.hid h4'
      clear he h1 h2 h3 h4 h5 h6 h7 bX hr hk1 hk2 h3' h4' hA hfs hl66
      gi_wp2_with (first
        | (refine gi_val rfl (fun _ _ => trivial) rfl (exb_fz rfl) ?_; simp only [Act.put, List.setIfInBounds_toArray, List.set_cons_zero, List.set_cons_succ])
        | (refine gi_skp rfl (fun _ _ => trivial) rfl (exs_found (x := .tmp 4) (y := .tmp 17) rfl rfl zeroSec_ok rfl HT4.out) ?_; simp only [Act.put, List.setIfInBounds_toArray, List.set_cons_zero, List.set_cons_succ])
        | (refine gi_skp rfl (fun _ _ => trivial) rfl (exs_found (x := .tmp 5) (y := .tmp 18) rfl rfl zeroSec_ok rfl HT5.out) ?_; simp only [Act.put, List.setIfInBounds_toArray, List.set_cons_zero, List.set_cons_succ]))
      have HX3 := HX2.out
      have HA4 := HA.out
      have HB5 := HA5.out
      have HC6 := HA6.out
      generalize (W.setCells b4 0 (foundVals zeroSec 0 false)).setCells b5 0 (foundVals zeroSec 0 false) = W2 at HX3 HA4 HB5 HC6 ⊢
      have hsz3 : W.heap.size ≤ (W2.setCell ⟨b6, 0, none⟩ (.int .i64 x.e)).heap.size := by have := HX3.size; simp [World.setCell]; omega
      have hk3 : ∀ k, k < W.heap.size → k ≠ b4 → k ≠ b5 → k ≠ b6 → (W2.setCell ⟨b6, 0, none⟩ (.int .i64 x.e)).heap[k]? = W.heap[k]? := fun k hk k4 k5 k6 =>
        (heap_setCell_other _ ⟨b6, 0, none⟩ k _ k6).trans (HX3.block k hk (fun h => h.elim k4 k5))
      refine ⟨⟨hsz3, fun k o hB hko hoc => ?_⟩, rfl, ⟨HX3.os.trans H1.out.os, HX3.tape.trans H1.out.tape, HX3.output.trans H1.out.output, Nat.le_trans H1.out.size hsz3, fun k hk _ => ?_, fun k h => h.elim⟩,
        (heap_setCell_other _ ⟨b6, 0, none⟩ b4 _ n46).trans HA4, (heap_setCell_other _ ⟨b6, 0, none⟩ b5 _ n56).trans HB5, pre, x, rfl, HE.out, H5.out, heap_setCell_same W2 b6 0 _ _ _ HC6⟩
      · have hkl := (Array.getElem?_eq_some_iff.1 hko).1
        exact (hk3 k hkl (by omega) (by omega) (by omega)).trans hko
      · exact (hk3 k (Nat.lt_of_lt_of_le hk H1.out.size) (by omega) (by omega) (by omega)).trans (H1.out.block k hk (fun h => h))
  case done =>
    rintro D ys W hD rfl ⟨h1, h0, h2, h3, h4, h5, v, h6, h7⟩ hK
    obtain ⟨x0, hx0⟩ : ∃ x, x = feOf d hdok (first + 2 * i) := ⟨_, rfl⟩
    obtain ⟨x1, hx1⟩ : ∃ x, x = feOf d hdok (first + 2 * i + 1) := ⟨_, rfl⟩
    rw [← hx0, ← hx1] at h5 h7
    have e0 : x0.e = 0 := h5 x0 (by simp)
    have e1 : x1.e = 0 := h5 x1 (by simp)
    obtain ⟨s0, hs0ok, a0, g0, e0'⟩ := x0
    obtain ⟨s1, hs1ok, a1, g1, e1'⟩ := x1
    simp only at e0 e1
    subst e0 e1
    have HX0 := Lib.hid hx0
    have HX1 := Lib.hid hx1
    obtain ⟨va, cap, rfl⟩ := own_slice h7
    have hrow := h7
    obtain ⟨g, rfl⟩ := own_some h7 (by simp)
    have hgB := ownsRow_base h7 g (by simp [Value.ownBlock])
    obtain ⟨gcs, hgc⟩ := ownsRow_heap h7 (b := g) (by simp [Value.ownBlock])
    have hr : W.rangeAt g 0 (foundVals s0 a0 g0 ++ foundVals s1 a1 g1) := fun j v hj => by
      have := h7.cells (g := g) rfl j v (by simpa [fv] using hj)
      rwa [Addr.add_mid] at this
    have hR0 : W.rangeAt g 0 (foundVals s0 a0 g0) := range_left hr
    have hR1 : W.rangeAt g 66 (foundVals s1 a1 g1) := by
      have := range_right hr
      rwa [found66 hs0ok, Nat.zero_add] at this
    have c7 : W.cell? ⟨b7, 0, none⟩ = some (.slice (some ⟨g, 0, none⟩) 2 cap) := by rw [h6.cell]; rfl
    have c65 : W.cell? ⟨g, 65, none⟩ = some (.bool g0) := by
      have := hR0 65 (.bool g0) (found_65 hs0ok a0 g0)
      simpa using this
    have c131 : W.cell? ⟨g, 131, none⟩ = some (.bool g1) := hR1 65 (.bool g1) (found_65 hs1ok a1 g1)
    have hr0 : W.rangeAt g 0 (secVals s0) := range_left (ys := [.int .i64 a0, .bool g0]) (by unfold foundVals at hR0; exact hR0)
    have hr1 : W.rangeAt g 66 (secVals s1) := range_left (ys := [.int .i64 a1, .bool g1]) (by unfold foundVals at hR1; exact hR1)
    have hDlt := (Array.getElem?_eq_some_iff.1 hK).1
    have hgD : g ≠ D := fun e => by
      subst e
      have := hgc.symm.trans hK
      injection this with this
      cases this
    have ho : Own w W [blkR b4 fz 95, blkR b5 fz 95, blkR b6 #[.int .i64 0] 26, blkR b7 #[.slice (some ⟨g, 0, none⟩) 2 cap] 114, rowR g 0 (foundVals s0 a0 g0 ++ foundVals s1 a1 g1), objR D (.deferred (some []))] := by
      refine Own.mk' h1 [b4, b5, b6, b7, g, D] rfl (fun i r b hi hb => ?_) ?_ ?_
      · unfold blkR rowR objR at hi
        rcases i with _ | _ | _ | _ | _ | _ | i
        · simp at hi hb; subst hi hb; exact ⟨rfl, h2⟩
        · simp at hi hb; subst hi hb; exact ⟨rfl, h3⟩
        · simp at hi hb; subst hi hb; exact ⟨rfl, h4⟩
        · simp at hi hb; subst hi hb; exact ⟨rfl, h6⟩
        · simp at hi hb; subst hi hb; exact ⟨rfl, hr⟩
        · simp at hi hb; subst hi hb; exact ⟨rfl, hK⟩
        · simp at hb
      · simp only [List.nodup_cons, List.mem_cons, List.not_mem_nil, or_false, not_or, List.nodup_nil, and_true]
        refine ⟨⟨n45, n46, n47, ?_, ?_⟩, ⟨n56, n57, ?_, ?_⟩, ⟨n67, ?_, ?_⟩, ⟨?_, ?_⟩, hgD, fun h => h⟩ <;> omega
      · have := HB.out
        have := hgc.lt
        intro b hb
        simp only [List.mem_cons, List.not_mem_nil, or_false] at hb
        rcases hb with rfl | rfl | rfl | rfl | rfl | rfl <;> omega
    have HO := Lib.hid ho
    have HC7 := Lib.hid (show W.drew.cell? ⟨b7, 0, none⟩ = _ from c7)
    have HC65 := Lib.hid (show W.drew.cell? ⟨g, 65, none⟩ = _ from c65)
    have HC131 := Lib.hid (show W.drew.cell? ⟨g, 131, none⟩ = _ from c131)
    have HR0 := Lib.hid (show W.drew.rangeAt g 0 (secVals s0) from hr0)
    have HR1 := Lib.hid (show W.drew.rangeAt g 66 (secVals s1) from hr1)
    have hge : g0 = (d.side (first + 2 * i)).good ∧ s0 = (d.side (first + 2 * i)).s ∧ (0 : Int) = (d.side (first + 2 * i)).e ∧ a0 = first + 2 * i := by
      have := HX0.out
      unfold feOf at this
      injection this with e1 e2 e3 e4
      exact ⟨e3, e1, e4, e2⟩
    have hge1 : g1 = (d.side (first + 2 * i + 1)).good ∧ s1 = (d.side (first + 2 * i + 1)).s ∧ (0 : Int) = (d.side (first + 2 * i + 1)).e ∧ a1 = first + 2 * i + 1 := by
      have := HX1.out
      unfold feOf at this
      injection this with e1 e2 e3 e4
      exact ⟨e3, e1, e4, e2⟩
    have HSL : Hid (d.slot first i = ⟨⟨s0, g0, 0⟩, ⟨s1, g1, 0⟩⟩) := Lib.hid (by
      unfold Disk.slot
      rw [hge.1, hge.2.1, hge1.1, hge1.2.1]
      have e1 := hge.2.2.1
      have e2 := hge1.2.2.1
      cases h1 : d.side (first + 2 * i)
      cases h2 : d.side (first + 2 * i + 1)
      rw [h1] at e1
      rw [h2] at e2
      simp only at e1 e2
      subst e1 e2
      rfl)
    have HA0 := Lib.hid hge.2.2.2
    have HA1 := Lib.hid hge1.2.2.2
    clear ho c7 c65 c131 hr0 hr1 hR0 hR1 hr hge hge1 hrow h7 hgc h6 h4 h3 h2 h1 h5 hK hx0 hx1
    cases g1 with
    | false =>
      have hsec : Hid (Both.second ⟨⟨s0, g0, 0⟩, ⟨s1, false, 0⟩⟩ = false) := Lib.hid rfl
      go_upto_region 8 with (fail)
      refine start_ (n := 24) (S := fun w' => w'.cell? ⟨b7, 0, none⟩ = some (.slice (some ⟨g, 0, none⟩) 2 cap) ∧ w'.cell? ⟨g, 65, none⟩ = some (.bool g0) ∧ w'.cell? ⟨g, 131, none⟩ = some (.bool false) ∧ w'.rangeAt g 0 (secVals s0) ∧ w'.rangeAt g 66 (secVals s1) ∧ Nw W w') (ds := []) #[false, false, false, false, false, false, false, false, false, false, false, false, false, false, false, false, false, false, false, false, false, false, false, false] mixed rfl rfl ⟨HC7.out, HC65.out, HC131.out, HR0.out, HR1.out, (Nw.refl _).drew⟩ (fun hHeld => ?_)
      refine take_ (i := 0) (N := some 24) (v := .slice (some ⟨g, 0, none⟩) 2 cap) (a' := ?_) #[true, false, false, false, false, false, false, false, false, false, false, false, false, false, false, false, false, false, false, false, false, false, false, false] rfl rfl (by kernel_rfl) (fun _ _ _ h => h) (Or.inl ⟨by rfl, ?_⟩) hHeld ?_ ?_
      · rintro w' ⟨s0, s1, s2, s3, s4, s5⟩
        exact exl_founds rfl rfl s0
      rotate_left
      · simp only [Act.put, List.setIfInBounds_toArray, List.set_cons_zero, List.set_cons_succ, i64_w, i32_w]
        rfl
      refine pure_ (i := 1) (N := some 25) (v := ?_) (a' := ?_) #[true, true, false, false, false, false, false, false, false, false, false, false, false, false, false, false, false, false, false, false, false, false, false, false] rfl rfl (by kernel_rfl) (fun _ _ _ h => h) (Or.inl ⟨by rfl, ?_⟩) ?_ ?_
      rotate_left
      · intro w'
        go_simp
        with_reducible rfl
      rotate_left
      · simp only [Act.put, List.setIfInBounds_toArray, List.set_cons_zero, List.set_cons_succ, i64_w, i32_w]
        rfl
      refine pure_ (i := 2) (N := some 26) (v := ?_) (a' := ?_) #[true, true, true, false, false, false, false, false, false, false, false, false, false, false, false, false, false, false, false, false, false, false, false, false] rfl rfl (by kernel_rfl) (fun _ _ _ h => h) (Or.inl ⟨by rfl, ?_⟩) ?_ ?_
      rotate_left
      · intro w'
        go_simp
        with_reducible rfl
      rotate_left
      · simp only [Act.put, List.setIfInBounds_toArray, List.set_cons_zero, List.set_cons_succ, i64_w, i32_w]
        rfl
      refine take_ (i := 3) (N := some 27) (v := .bool false) (a' := ?_) #[true, true, true, true, false, false, false, false, false, false, false, false, false, false, false, false, false, false, false, false, false, false, false, false] rfl rfl (by kernel_rfl) (fun _ _ _ h => h) (Or.inl ⟨by rfl, ?_⟩) hHeld ?_ ?_
      · rintro w' ⟨s0, s1, s2, s3, s4, s5⟩
        exact exl_bool1 rfl rfl s2
      rotate_left
      · simp only [Act.put, List.setIfInBounds_toArray, List.set_cons_zero, List.set_cons_succ, i64_w, i32_w]
        rfl
      refine pure_ (i := 4) (N := some 28) (v := ?_) (a' := ?_) #[true, true, true, true, true, false, false, false, false, false, false, false, false, false, false, false, false, false, false, false, false, false, false, false] rfl rfl (by kernel_rfl) (fun _ _ _ h => h) (Or.inl ⟨by rfl, ?_⟩) ?_ ?_
      rotate_left
      · intro w'
        go_simp
        with_reducible rfl
      rotate_left
      · simp only [Act.put, List.setIfInBounds_toArray, List.set_cons_zero, List.set_cons_succ, i64_w, i32_w]
        rfl
      refine pure_ (i := 5) (N := some 29) (v := undef) (a' := ?_) #[true, true, true, true, true, true, false, false, false, false, false, false, false, false, false, false, false, false, false, false, false, false, false, false] rfl rfl (by kernel_rfl) (fun _ _ _ h => h) (Or.inr ⟨by rfl, rfl⟩) ?_ ?_
      rotate_left
      · simp only [Act.put, List.setIfInBounds_toArray, List.set_cons_zero, List.set_cons_succ, i64_w, i32_w]
        rfl
      refine pure_ (i := 6) (N := some 30) (v := undef) (a' := ?_) #[true, true, true, true, true, true, true, false, false, false, false, false, false, false, false, false, false, false, false, false, false, false, false, false] rfl rfl (by kernel_rfl) (fun _ _ _ h => h) (Or.inr ⟨by rfl, rfl⟩) ?_ ?_
      rotate_left
      · simp only [Act.put, List.setIfInBounds_toArray, List.set_cons_zero, List.set_cons_succ, i64_w, i32_w]
        rfl
      refine pure_ (i := 7) (N := some 31) (v := undef) (a' := ?_) #[true, true, true, true, true, true, true, true, false, false, false, false, false, false, false, false, false, false, false, false, false, false, false, false] rfl rfl (by kernel_rfl) (fun _ _ _ h => h) (Or.inr ⟨by rfl, rfl⟩) ?_ ?_
      rotate_left
      · simp only [Act.put, List.setIfInBounds_toArray, List.set_cons_zero, List.set_cons_succ, i64_w, i32_w]
        rfl
      refine pure_ (i := 8) (N := some 32) (v := undef) (a' := ?_) #[true, true, true, true, true, true, true, true, true, false, false, false, false, false, false, false, false, false, false, false, false, false, false, false] rfl rfl (by kernel_rfl) (fun _ _ _ h => h) (Or.inr ⟨by rfl, rfl⟩) ?_ ?_
      rotate_left
      · simp only [Act.put, List.setIfInBounds_toArray, List.set_cons_zero, List.set_cons_succ, i64_w, i32_w]
        rfl
      refine pure_ (i := 9) (N := some 33) (v := undef) (a' := ?_) #[true, true, true, true, true, true, true, true, true, true, false, false, false, false, false, false, false, false, false, false, false, false, false, false] rfl rfl (by kernel_rfl) (fun _ _ _ h => h) (Or.inr ⟨by rfl, rfl⟩) ?_ ?_
      rotate_left
      · simp only [Act.put, List.setIfInBounds_toArray, List.set_cons_zero, List.set_cons_succ, i64_w, i32_w]
        rfl
      refine pure_ (i := 10) (N := some 34) (v := undef) (a' := ?_) #[true, true, true, true, true, true, true, true, true, true, true, false, false, false, false, false, false, false, false, false, false, false, false, false] rfl rfl (by kernel_rfl) (fun _ _ _ h => h) (Or.inr ⟨by rfl, rfl⟩) ?_ ?_
      rotate_left
      · simp only [Act.put, List.setIfInBounds_toArray, List.set_cons_zero, List.set_cons_succ, i64_w, i32_w]
        rfl
      refine pure_ (i := 11) (N := some 35) (v := undef) (a' := ?_) #[true, true, true, true, true, true, true, true, true, true, true, true, false, false, false, false, false, false, false, false, false, false, false, false] rfl rfl (by kernel_rfl) (fun _ _ _ h => h) (Or.inr ⟨by rfl, rfl⟩) ?_ ?_
      rotate_left
      · simp only [Act.put, List.setIfInBounds_toArray, List.set_cons_zero, List.set_cons_succ, i64_w, i32_w]
        rfl
      refine pure_ (i := 12) (N := some 36) (v := undef) (a' := ?_) #[true, true, true, true, true, true, true, true, true, true, true, true, true, false, false, false, false, false, false, false, false, false, false, false] rfl rfl (by kernel_rfl) (fun _ _ _ h => h) (Or.inr ⟨by rfl, rfl⟩) ?_ ?_
      rotate_left
      · simp only [Act.put, List.setIfInBounds_toArray, List.set_cons_zero, List.set_cons_succ, i64_w, i32_w]
        rfl
      refine pure_ (i := 13) (N := some 37) (v := undef) (a' := ?_) #[true, true, true, true, true, true, true, true, true, true, true, true, true, true, false, false, false, false, false, false, false, false, false, false] rfl rfl (by kernel_rfl) (fun _ _ _ h => h) (Or.inr ⟨by rfl, rfl⟩) ?_ ?_
      rotate_left
      · simp only [Act.put, List.setIfInBounds_toArray, List.set_cons_zero, List.set_cons_succ, i64_w, i32_w]
        rfl
      refine pure_ (i := 14) (N := some 38) (v := undef) (a' := ?_) #[true, true, true, true, true, true, true, true, true, true, true, true, true, true, true, false, false, false, false, false, false, false, false, false] rfl rfl (by kernel_rfl) (fun _ _ _ h => h) (Or.inr ⟨by rfl, rfl⟩) ?_ ?_
      rotate_left
      · simp only [Act.put, List.setIfInBounds_toArray, List.set_cons_zero, List.set_cons_succ, i64_w, i32_w]
        rfl
      refine pure_ (i := 15) (N := some 39) (v := undef) (a' := ?_) #[true, true, true, true, true, true, true, true, true, true, true, true, true, true, true, true, false, false, false, false, false, false, false, false] rfl rfl (by kernel_rfl) (fun _ _ _ h => h) (Or.inr ⟨by rfl, rfl⟩) ?_ ?_
      rotate_left
      · simp only [Act.put, List.setIfInBounds_toArray, List.set_cons_zero, List.set_cons_succ, i64_w, i32_w]
        rfl
      refine pure_ (i := 16) (N := some 40) (v := undef) (a' := ?_) #[true, true, true, true, true, true, true, true, true, true, true, true, true, true, true, true, true, false, false, false, false, false, false, false] rfl rfl (by kernel_rfl) (fun _ _ _ h => h) (Or.inr ⟨by rfl, rfl⟩) ?_ ?_
      rotate_left
      · simp only [Act.put, List.setIfInBounds_toArray, List.set_cons_zero, List.set_cons_succ, i64_w, i32_w]
        rfl
      refine pure_ (i := 17) (N := some 41) (v := undef) (a' := ?_) #[true, true, true, true, true, true, true, true, true, true, true, true, true, true, true, true, true, true, false, false, false, false, false, false] rfl rfl (by kernel_rfl) (fun _ _ _ h => h) (Or.inr ⟨by rfl, rfl⟩) ?_ ?_
      rotate_left
      · simp only [Act.put, List.setIfInBounds_toArray, List.set_cons_zero, List.set_cons_succ, i64_w, i32_w]
        rfl
      refine pure_ (i := 18) (N := some 42) (v := undef) (a' := ?_) #[true, true, true, true, true, true, true, true, true, true, true, true, true, true, true, true, true, true, true, false, false, false, false, false] rfl rfl (by kernel_rfl) (fun _ _ _ h => h) (Or.inr ⟨by rfl, rfl⟩) ?_ ?_
      rotate_left
      · simp only [Act.put, List.setIfInBounds_toArray, List.set_cons_zero, List.set_cons_succ, i64_w, i32_w]
        rfl
      refine pure_ (i := 19) (N := some 43) (v := undef) (a' := ?_) #[true, true, true, true, true, true, true, true, true, true, true, true, true, true, true, true, true, true, true, true, false, false, false, false] rfl rfl (by kernel_rfl) (fun _ _ _ h => h) (Or.inr ⟨by rfl, rfl⟩) ?_ ?_
      rotate_left
      · simp only [Act.put, List.setIfInBounds_toArray, List.set_cons_zero, List.set_cons_succ, i64_w, i32_w]
        rfl
      refine pure_ (i := 20) (N := some 44) (v := undef) (a' := ?_) #[true, true, true, true, true, true, true, true, true, true, true, true, true, true, true, true, true, true, true, true, true, false, false, false] rfl rfl (by kernel_rfl) (fun _ _ _ h => h) (Or.inr ⟨by rfl, rfl⟩) ?_ ?_
      rotate_left
      · simp only [Act.put, List.setIfInBounds_toArray, List.set_cons_zero, List.set_cons_succ, i64_w, i32_w]
        rfl
      refine pure_ (i := 21) (N := some 45) (v := undef) (a' := ?_) #[true, true, true, true, true, true, true, true, true, true, true, true, true, true, true, true, true, true, true, true, true, true, false, false] rfl rfl (by kernel_rfl) (fun _ _ _ h => h) (Or.inr ⟨by rfl, rfl⟩) ?_ ?_
      rotate_left
      · simp only [Act.put, List.setIfInBounds_toArray, List.set_cons_zero, List.set_cons_succ, i64_w, i32_w]
        rfl
      refine pure_ (i := 22) (N := some 46) (v := undef) (a' := ?_) #[true, true, true, true, true, true, true, true, true, true, true, true, true, true, true, true, true, true, true, true, true, true, true, false] rfl rfl (by kernel_rfl) (fun _ _ _ h => h) (Or.inr ⟨by rfl, rfl⟩) ?_ ?_
      rotate_left
      · simp only [Act.put, List.setIfInBounds_toArray, List.set_cons_zero, List.set_cons_succ, i64_w, i32_w]
        rfl
      refine pure_ (i := 23) (N := some 47) (v := ?_) (a' := ?_) #[true, true, true, true, true, true, true, true, true, true, true, true, true, true, true, true, true, true, true, true, true, true, true, true] rfl rfl (by kernel_rfl) (fun _ _ _ h => h) (Or.inl ⟨by rfl, ?_⟩) ?_ ?_
      rotate_left
      · intro w'
        go_simp
        with_reducible rfl
      rotate_left
      · simp only [Act.put, List.setIfInBounds_toArray, List.set_cons_zero, List.set_cons_succ, i64_w, i32_w]
        rfl
      refine done_ (by kernel_rfl) ?_
      have hn8 := hHeld.2.2.2.2.2
      have ho8 := HO.out.nw hn8
      clear hHeld
      go_upto_region 10 with (fail)
      have ho9 := ho8.nw ((Nw.refl _).drew)
      refine start_ (n := 9) (S := fun w' => w'.cell? ⟨b7, 0, none⟩ = some (.slice (some ⟨g, 0, none⟩) 2 cap) ∧ w'.rangeAt g 0 (foundVals s0 a0 g0) ∧ w'.rangeAt g 66 (foundVals s1 a1 false)) (ds := [8]) #[false, false, false, false, false, false, false, false, false] mixed rfl rfl ⟨(ho9.cell7 (k := 3) rfl), (range_left (ho9.rowGet (k := 4) rfl)), (range_r66 hs0ok (ho9.rowGet (k := 4) rfl))⟩ (fun hHeld => ?_)
      refine take_ (i := 0) (N := some 54) (v := .slice (some ⟨g, 0, none⟩) 2 cap) (a' := ?_) #[true, false, false, false, false, false, false, false, false] rfl rfl (by kernel_rfl) (fun _ _ _ h => h) (Or.inl ⟨by rfl, ?_⟩) hHeld ?_ ?_
      · rintro w' ⟨s0, s1, s2⟩
        exact exl_founds rfl rfl s0
      rotate_left
      · simp only [Act.put, List.setIfInBounds_toArray, List.set_cons_zero, List.set_cons_succ, i64_w, i32_w]
        rfl
      refine pure_ (i := 1) (N := some 55) (v := ?_) (a' := ?_) #[true, true, false, false, false, false, false, false, false] rfl rfl (by kernel_rfl) (fun _ _ _ h => h) (Or.inl ⟨by rfl, ?_⟩) ?_ ?_
      rotate_left
      · intro w'
        go_simp
        with_reducible rfl
      rotate_left
      · simp only [Act.put, List.setIfInBounds_toArray, List.set_cons_zero, List.set_cons_succ, i64_w, i32_w]
        rfl
      refine take_ (i := 2) (N := some 56) (v := .agg (foundVals s0 a0 g0).toArray) (a' := ?_) #[true, true, true, false, false, false, false, false, false] rfl rfl (by kernel_rfl) (fun _ _ _ h => h) (Or.inl ⟨by rfl, ?_⟩) hHeld ?_ ?_
      · rintro w' ⟨s0, s1, s2⟩
        exact exl_found rfl rfl hs0ok s1
      rotate_left
      · simp only [Act.put, List.setIfInBounds_toArray, List.set_cons_zero, List.set_cons_succ, i64_w, i32_w]
        rfl
      refine take_ (i := 3) (N := some 57) (v := .slice (some ⟨g, 0, none⟩) 2 cap) (a' := ?_) #[true, true, true, true, false, false, false, false, false] rfl rfl (by kernel_rfl) (fun _ _ _ h => h) (Or.inl ⟨by rfl, ?_⟩) hHeld ?_ ?_
      · rintro w' ⟨s0, s1, s2⟩
        exact exl_founds rfl rfl s0
      rotate_left
      · simp only [Act.put, List.setIfInBounds_toArray, List.set_cons_zero, List.set_cons_succ, i64_w, i32_w]
        rfl
      refine pure_ (i := 4) (N := some 58) (v := ?_) (a' := ?_) #[true, true, true, true, true, false, false, false, false] rfl rfl (by kernel_rfl) (fun _ _ _ h => h) (Or.inl ⟨by rfl, ?_⟩) ?_ ?_
      rotate_left
      · intro w'
        go_simp
        with_reducible rfl
      rotate_left
      · simp only [Act.put, List.setIfInBounds_toArray, List.set_cons_zero, List.set_cons_succ, i64_w, i32_w]
        rfl
      refine take_ (i := 5) (N := some 59) (v := .agg (foundVals s1 a1 false).toArray) (a' := ?_) #[true, true, true, true, true, true, false, false, false] rfl rfl (by kernel_rfl) (fun _ _ _ h => h) (Or.inl ⟨by rfl, ?_⟩) hHeld ?_ ?_
      · rintro w' ⟨s0, s1, s2⟩
        exact exl_found rfl rfl hs1ok s2
      rotate_left
      · simp only [Act.put, List.setIfInBounds_toArray, List.set_cons_zero, List.set_cons_succ, i64_w, i32_w]
        rfl
      refine one_ (i := 6) (N := none) #[true, true, true, true, true, true, true, false, false] rfl rfl (by kernel_rfl) (by decide) (fun K hK => ?_)
      have hq0 := ho9
      refine skip_ex (by rfl) rfl (hq0.xsfound (k := 0) (s' := s0) (i' := a0) (g' := g0) rfl rfl rfl zeroSec_ok hs0ok rfl) ?_
      rintro w6 hq
      simp only [List.set_cons_zero, List.set_cons_succ] at hq
      refine hK.out _ _ ⟨(hq.cell7 (k := 3) rfl), (range_left (hq.rowGet (k := 4) rfl)), (range_r66 hs0ok (hq.rowGet (k := 4) rfl))⟩ (fun hHeld => ?_)
      clear hK K
      refine one_ (i := 7) (N := none) #[true, true, true, true, true, true, true, true, false] rfl rfl (by kernel_rfl) (by decide) (fun K hK => ?_)
      have hq1 := hq
      clear hq
      refine skip_ex (by rfl) rfl (hq1.xsfound (k := 1) (s' := s1) (i' := a1) (g' := false) rfl rfl rfl zeroSec_ok hs1ok rfl) ?_
      rintro w7 hq
      simp only [List.set_cons_zero, List.set_cons_succ] at hq
      refine hK.out _ _ ⟨(hq.cell7 (k := 3) rfl), (range_left (hq.rowGet (k := 4) rfl)), (range_r66 hs0ok (hq.rowGet (k := 4) rfl))⟩ (fun hHeld => ?_)
      clear hK K
      refine last_ (i := 8) (N := none) #[true, true, true, true, true, true, true, true, true] rfl rfl (by kernel_rfl) (by decide) (fun K hK => ?_)
      have hq2 := hq
      clear hq
      refine skip_ex (by rfl) rfl (hq2.xsint (k := 2) (u := 0) rfl rfl rfl rfl) ?_
      rintro w8 hq
      refine hK.out _ _ ?_
      clear hK K
      refine done_ (by kernel_rfl) ?_
      simp only [List.set_cons_zero, List.set_cons_succ] at hq
      have ho := hq
      clear hq
      go_wp2
      have hnw := ho.nw0
      refine slot_end rfl rfl rfl rfl (ho.blk (i := 0) rfl).1 (ho.blk (i := 1) rfl).1 (ho.blk (i := 2) rfl).1 (ho.objGet (k := 5) rfl) (found66 (by assumption) _ _) (found66 (by assumption) _ _) ⟨?_, hnw.grown (grownBy_putObj' _ D _) (fun k e => by cases e; have := HB.out; omega)⟩
      have hsl := HSL.out
      have hs := hsec.out
      have ha0 := HA0.out
      have ha1 := HA1.out
      unfold SlotPost
      rw [hsl, if_neg (by simp [Both.e])]
      simp only [Both.best, Both.other, hs, Bool.false_eq_true, if_false, ha0, ha1]
    | true =>
      cases g0 with
      | false =>
        have hsec : Hid (Both.second ⟨⟨s0, false, 0⟩, ⟨s1, true, 0⟩⟩ = true) := Lib.hid rfl
        go_upto_region 8 with (fail)
        refine start_ (n := 24) (S := fun w' => w'.cell? ⟨b7, 0, none⟩ = some (.slice (some ⟨g, 0, none⟩) 2 cap) ∧ w'.cell? ⟨g, 65, none⟩ = some (.bool false) ∧ w'.cell? ⟨g, 131, none⟩ = some (.bool true) ∧ w'.rangeAt g 0 (secVals s0) ∧ w'.rangeAt g 66 (secVals s1) ∧ Nw W w') (ds := []) #[false, false, false, false, false, false, false, false, false, false, false, false, false, false, false, false, false, false, false, false, false, false, false, false] mixed rfl rfl ⟨HC7.out, HC65.out, HC131.out, HR0.out, HR1.out, (Nw.refl _).drew⟩ (fun hHeld => ?_)
        refine take_ (i := 0) (N := some 24) (v := .slice (some ⟨g, 0, none⟩) 2 cap) (a' := ?_) #[true, false, false, false, false, false, false, false, false, false, false, false, false, false, false, false, false, false, false, false, false, false, false, false] rfl rfl (by kernel_rfl) (fun _ _ _ h => h) (Or.inl ⟨by rfl, ?_⟩) hHeld ?_ ?_
        · rintro w' ⟨s0, s1, s2, s3, s4, s5⟩
          exact exl_founds rfl rfl s0
        rotate_left
        · simp only [Act.put, List.setIfInBounds_toArray, List.set_cons_zero, List.set_cons_succ, i64_w, i32_w]
          rfl
        refine pure_ (i := 1) (N := some 25) (v := ?_) (a' := ?_) #[true, true, false, false, false, false, false, false, false, false, false, false, false, false, false, false, false, false, false, false, false, false, false, false] rfl rfl (by kernel_rfl) (fun _ _ _ h => h) (Or.inl ⟨by rfl, ?_⟩) ?_ ?_
        rotate_left
        · intro w'
          go_simp
          with_reducible rfl
        rotate_left
        · simp only [Act.put, List.setIfInBounds_toArray, List.set_cons_zero, List.set_cons_succ, i64_w, i32_w]
          rfl
        refine pure_ (i := 2) (N := some 26) (v := ?_) (a' := ?_) #[true, true, true, false, false, false, false, false, false, false, false, false, false, false, false, false, false, false, false, false, false, false, false, false] rfl rfl (by kernel_rfl) (fun _ _ _ h => h) (Or.inl ⟨by rfl, ?_⟩) ?_ ?_
        rotate_left
        · intro w'
          go_simp
          with_reducible rfl
        rotate_left
        · simp only [Act.put, List.setIfInBounds_toArray, List.set_cons_zero, List.set_cons_succ, i64_w, i32_w]
          rfl
        refine take_ (i := 3) (N := some 27) (v := .bool true) (a' := ?_) #[true, true, true, true, false, false, false, false, false, false, false, false, false, false, false, false, false, false, false, false, false, false, false, false] rfl rfl (by kernel_rfl) (fun _ _ _ h => h) (Or.inl ⟨by rfl, ?_⟩) hHeld ?_ ?_
        · rintro w' ⟨s0, s1, s2, s3, s4, s5⟩
          exact exl_bool1 rfl rfl s2
        rotate_left
        · simp only [Act.put, List.setIfInBounds_toArray, List.set_cons_zero, List.set_cons_succ, i64_w, i32_w]
          rfl
        refine pure_ (i := 4) (N := some 28) (v := ?_) (a' := ?_) #[true, true, true, true, true, false, false, false, false, false, false, false, false, false, false, false, false, false, false, false, false, false, false, false] rfl rfl (by kernel_rfl) (fun _ _ _ h => h) (Or.inl ⟨by rfl, ?_⟩) ?_ ?_
        rotate_left
        · intro w'
          go_simp
          with_reducible rfl
        rotate_left
        · simp only [Act.put, List.setIfInBounds_toArray, List.set_cons_zero, List.set_cons_succ, i64_w, i32_w]
          rfl
        refine take_ (i := 5) (N := some 29) (v := .slice (some ⟨g, 0, none⟩) 2 cap) (a' := ?_) #[true, true, true, true, true, true, false, false, false, false, false, false, false, false, false, false, false, false, false, false, false, false, false, false] rfl rfl (by kernel_rfl) (fun _ _ _ h => h) (Or.inl ⟨by rfl, ?_⟩) hHeld ?_ ?_
        · rintro w' ⟨s0, s1, s2, s3, s4, s5⟩
          exact exl_founds rfl rfl s0
        rotate_left
        · simp only [Act.put, List.setIfInBounds_toArray, List.set_cons_zero, List.set_cons_succ, i64_w, i32_w]
          rfl
        refine pure_ (i := 6) (N := some 30) (v := ?_) (a' := ?_) #[true, true, true, true, true, true, true, false, false, false, false, false, false, false, false, false, false, false, false, false, false, false, false, false] rfl rfl (by kernel_rfl) (fun _ _ _ h => h) (Or.inl ⟨by rfl, ?_⟩) ?_ ?_
        rotate_left
        · intro w'
          go_simp
          with_reducible rfl
        rotate_left
        · simp only [Act.put, List.setIfInBounds_toArray, List.set_cons_zero, List.set_cons_succ, i64_w, i32_w]
          rfl
        refine pure_ (i := 7) (N := some 31) (v := ?_) (a' := ?_) #[true, true, true, true, true, true, true, true, false, false, false, false, false, false, false, false, false, false, false, false, false, false, false, false] rfl rfl (by kernel_rfl) (fun _ _ _ h => h) (Or.inl ⟨by rfl, ?_⟩) ?_ ?_
        rotate_left
        · intro w'
          go_simp
          with_reducible rfl
        rotate_left
        · simp only [Act.put, List.setIfInBounds_toArray, List.set_cons_zero, List.set_cons_succ, i64_w, i32_w]
          rfl
        refine take_ (i := 8) (N := some 32) (v := .bool false) (a' := ?_) #[true, true, true, true, true, true, true, true, true, false, false, false, false, false, false, false, false, false, false, false, false, false, false, false] rfl rfl (by kernel_rfl) (fun _ _ _ h => h) (Or.inl ⟨by rfl, ?_⟩) hHeld ?_ ?_
        · rintro w' ⟨s0, s1, s2, s3, s4, s5⟩
          exact exl_bool1 rfl rfl s1
        rotate_left
        · simp only [Act.put, List.setIfInBounds_toArray, List.set_cons_zero, List.set_cons_succ, i64_w, i32_w]
          rfl
        refine pure_ (i := 9) (N := some 33) (v := ?_) (a' := ?_) #[true, true, true, true, true, true, true, true, true, true, false, false, false, false, false, false, false, false, false, false, false, false, false, false] rfl rfl (by kernel_rfl) (fun _ _ _ h => h) (Or.inl ⟨by rfl, ?_⟩) ?_ ?_
        rotate_left
        · intro w'
          go_simp
          with_reducible rfl
        rotate_left
        · simp only [Act.put, List.setIfInBounds_toArray, List.set_cons_zero, List.set_cons_succ, i64_w, i32_w]
          rfl
        refine pure_ (i := 10) (N := some 34) (v := ?_) (a' := ?_) #[true, true, true, true, true, true, true, true, true, true, true, false, false, false, false, false, false, false, false, false, false, false, false, false] rfl rfl (by kernel_rfl) (fun _ _ _ h => h) (Or.inl ⟨by rfl, ?_⟩) ?_ ?_
        rotate_left
        · intro w'
          go_simp
          with_reducible rfl
        rotate_left
        · simp only [Act.put, List.setIfInBounds_toArray, List.set_cons_zero, List.set_cons_succ, i64_w, i32_w]
          rfl
        refine pure_ (i := 11) (N := some 35) (v := undef) (a' := ?_) #[true, true, true, true, true, true, true, true, true, true, true, true, false, false, false, false, false, false, false, false, false, false, false, false] rfl rfl (by kernel_rfl) (fun _ _ _ h => h) (Or.inr ⟨by rfl, rfl⟩) ?_ ?_
        rotate_left
        · simp only [Act.put, List.setIfInBounds_toArray, List.set_cons_zero, List.set_cons_succ, i64_w, i32_w]
          rfl
        refine pure_ (i := 12) (N := some 36) (v := undef) (a' := ?_) #[true, true, true, true, true, true, true, true, true, true, true, true, true, false, false, false, false, false, false, false, false, false, false, false] rfl rfl (by kernel_rfl) (fun _ _ _ h => h) (Or.inr ⟨by rfl, rfl⟩) ?_ ?_
        rotate_left
        · simp only [Act.put, List.setIfInBounds_toArray, List.set_cons_zero, List.set_cons_succ, i64_w, i32_w]
          rfl
        refine pure_ (i := 13) (N := some 37) (v := undef) (a' := ?_) #[true, true, true, true, true, true, true, true, true, true, true, true, true, true, false, false, false, false, false, false, false, false, false, false] rfl rfl (by kernel_rfl) (fun _ _ _ h => h) (Or.inr ⟨by rfl, rfl⟩) ?_ ?_
        rotate_left
        · simp only [Act.put, List.setIfInBounds_toArray, List.set_cons_zero, List.set_cons_succ, i64_w, i32_w]
          rfl
        refine pure_ (i := 14) (N := some 38) (v := undef) (a' := ?_) #[true, true, true, true, true, true, true, true, true, true, true, true, true, true, true, false, false, false, false, false, false, false, false, false] rfl rfl (by kernel_rfl) (fun _ _ _ h => h) (Or.inr ⟨by rfl, rfl⟩) ?_ ?_
        rotate_left
        · simp only [Act.put, List.setIfInBounds_toArray, List.set_cons_zero, List.set_cons_succ, i64_w, i32_w]
          rfl
        refine pure_ (i := 15) (N := some 39) (v := undef) (a' := ?_) #[true, true, true, true, true, true, true, true, true, true, true, true, true, true, true, true, false, false, false, false, false, false, false, false] rfl rfl (by kernel_rfl) (fun _ _ _ h => h) (Or.inr ⟨by rfl, rfl⟩) ?_ ?_
        rotate_left
        · simp only [Act.put, List.setIfInBounds_toArray, List.set_cons_zero, List.set_cons_succ, i64_w, i32_w]
          rfl
        refine pure_ (i := 16) (N := some 40) (v := undef) (a' := ?_) #[true, true, true, true, true, true, true, true, true, true, true, true, true, true, true, true, true, false, false, false, false, false, false, false] rfl rfl (by kernel_rfl) (fun _ _ _ h => h) (Or.inr ⟨by rfl, rfl⟩) ?_ ?_
        rotate_left
        · simp only [Act.put, List.setIfInBounds_toArray, List.set_cons_zero, List.set_cons_succ, i64_w, i32_w]
          rfl
        refine pure_ (i := 17) (N := some 41) (v := undef) (a' := ?_) #[true, true, true, true, true, true, true, true, true, true, true, true, true, true, true, true, true, true, false, false, false, false, false, false] rfl rfl (by kernel_rfl) (fun _ _ _ h => h) (Or.inr ⟨by rfl, rfl⟩) ?_ ?_
        rotate_left
        · simp only [Act.put, List.setIfInBounds_toArray, List.set_cons_zero, List.set_cons_succ, i64_w, i32_w]
          rfl
        refine pure_ (i := 18) (N := some 42) (v := undef) (a' := ?_) #[true, true, true, true, true, true, true, true, true, true, true, true, true, true, true, true, true, true, true, false, false, false, false, false] rfl rfl (by kernel_rfl) (fun _ _ _ h => h) (Or.inr ⟨by rfl, rfl⟩) ?_ ?_
        rotate_left
        · simp only [Act.put, List.setIfInBounds_toArray, List.set_cons_zero, List.set_cons_succ, i64_w, i32_w]
          rfl
        refine pure_ (i := 19) (N := some 43) (v := undef) (a' := ?_) #[true, true, true, true, true, true, true, true, true, true, true, true, true, true, true, true, true, true, true, true, false, false, false, false] rfl rfl (by kernel_rfl) (fun _ _ _ h => h) (Or.inr ⟨by rfl, rfl⟩) ?_ ?_
        rotate_left
        · simp only [Act.put, List.setIfInBounds_toArray, List.set_cons_zero, List.set_cons_succ, i64_w, i32_w]
          rfl
        refine pure_ (i := 20) (N := some 44) (v := undef) (a' := ?_) #[true, true, true, true, true, true, true, true, true, true, true, true, true, true, true, true, true, true, true, true, true, false, false, false] rfl rfl (by kernel_rfl) (fun _ _ _ h => h) (Or.inr ⟨by rfl, rfl⟩) ?_ ?_
        rotate_left
        · simp only [Act.put, List.setIfInBounds_toArray, List.set_cons_zero, List.set_cons_succ, i64_w, i32_w]
          rfl
        refine pure_ (i := 21) (N := some 45) (v := undef) (a' := ?_) #[true, true, true, true, true, true, true, true, true, true, true, true, true, true, true, true, true, true, true, true, true, true, false, false] rfl rfl (by kernel_rfl) (fun _ _ _ h => h) (Or.inr ⟨by rfl, rfl⟩) ?_ ?_
        rotate_left
        · simp only [Act.put, List.setIfInBounds_toArray, List.set_cons_zero, List.set_cons_succ, i64_w, i32_w]
          rfl
        refine pure_ (i := 22) (N := some 46) (v := ?_) (a' := ?_) #[true, true, true, true, true, true, true, true, true, true, true, true, true, true, true, true, true, true, true, true, true, true, true, false] rfl rfl (by kernel_rfl) (fun _ _ _ h => h) (Or.inl ⟨by rfl, ?_⟩) ?_ ?_
        rotate_left
        · intro w'
          go_simp
          with_reducible rfl
        rotate_left
        · simp only [Act.put, List.setIfInBounds_toArray, List.set_cons_zero, List.set_cons_succ, i64_w, i32_w]
          rfl
        refine pure_ (i := 23) (N := some 47) (v := ?_) (a' := ?_) #[true, true, true, true, true, true, true, true, true, true, true, true, true, true, true, true, true, true, true, true, true, true, true, true] rfl rfl (by kernel_rfl) (fun _ _ _ h => h) (Or.inl ⟨by rfl, ?_⟩) ?_ ?_
        rotate_left
        · intro w'
          go_simp
          with_reducible rfl
        rotate_left
        · simp only [Act.put, List.setIfInBounds_toArray, List.set_cons_zero, List.set_cons_succ, i64_w, i32_w]
          rfl
        refine done_ (by kernel_rfl) ?_
        have hn8 := hHeld.2.2.2.2.2
        have ho8 := HO.out.nw hn8
        clear hHeld
        go_upto_region 9 with (fail)
        have ho9 := ho8.nw ((Nw.refl _).drew)
        refine start_ (n := 9) (S := fun w' => w'.cell? ⟨b7, 0, none⟩ = some (.slice (some ⟨g, 0, none⟩) 2 cap) ∧ w'.rangeAt g 0 (foundVals s0 a0 false) ∧ w'.rangeAt g 66 (foundVals s1 a1 true)) (ds := [8]) #[false, false, false, false, false, false, false, false, false] mixed rfl rfl ⟨(ho9.cell7 (k := 3) rfl), (range_left (ho9.rowGet (k := 4) rfl)), (range_r66 hs0ok (ho9.rowGet (k := 4) rfl))⟩ (fun hHeld => ?_)
        refine take_ (i := 0) (N := some 48) (v := .slice (some ⟨g, 0, none⟩) 2 cap) (a' := ?_) #[true, false, false, false, false, false, false, false, false] rfl rfl (by kernel_rfl) (fun _ _ _ h => h) (Or.inl ⟨by rfl, ?_⟩) hHeld ?_ ?_
        · rintro w' ⟨s0, s1, s2⟩
          exact exl_founds rfl rfl s0
        rotate_left
        · simp only [Act.put, List.setIfInBounds_toArray, List.set_cons_zero, List.set_cons_succ, i64_w, i32_w]
          rfl
        refine pure_ (i := 1) (N := some 49) (v := ?_) (a' := ?_) #[true, true, false, false, false, false, false, false, false] rfl rfl (by kernel_rfl) (fun _ _ _ h => h) (Or.inl ⟨by rfl, ?_⟩) ?_ ?_
        rotate_left
        · intro w'
          go_simp
          with_reducible rfl
        rotate_left
        · simp only [Act.put, List.setIfInBounds_toArray, List.set_cons_zero, List.set_cons_succ, i64_w, i32_w]
          rfl
        refine take_ (i := 2) (N := some 50) (v := .agg (foundVals s1 a1 true).toArray) (a' := ?_) #[true, true, true, false, false, false, false, false, false] rfl rfl (by kernel_rfl) (fun _ _ _ h => h) (Or.inl ⟨by rfl, ?_⟩) hHeld ?_ ?_
        · rintro w' ⟨s0, s1, s2⟩
          exact exl_found rfl rfl hs1ok s2
        rotate_left
        · simp only [Act.put, List.setIfInBounds_toArray, List.set_cons_zero, List.set_cons_succ, i64_w, i32_w]
          rfl
        refine take_ (i := 3) (N := some 51) (v := .slice (some ⟨g, 0, none⟩) 2 cap) (a' := ?_) #[true, true, true, true, false, false, false, false, false] rfl rfl (by kernel_rfl) (fun _ _ _ h => h) (Or.inl ⟨by rfl, ?_⟩) hHeld ?_ ?_
        · rintro w' ⟨s0, s1, s2⟩
          exact exl_founds rfl rfl s0
        rotate_left
        · simp only [Act.put, List.setIfInBounds_toArray, List.set_cons_zero, List.set_cons_succ, i64_w, i32_w]
          rfl
        refine pure_ (i := 4) (N := some 52) (v := ?_) (a' := ?_) #[true, true, true, true, true, false, false, false, false] rfl rfl (by kernel_rfl) (fun _ _ _ h => h) (Or.inl ⟨by rfl, ?_⟩) ?_ ?_
        rotate_left
        · intro w'
          go_simp
          with_reducible rfl
        rotate_left
        · simp only [Act.put, List.setIfInBounds_toArray, List.set_cons_zero, List.set_cons_succ, i64_w, i32_w]
          rfl
        refine take_ (i := 5) (N := some 53) (v := .agg (foundVals s0 a0 false).toArray) (a' := ?_) #[true, true, true, true, true, true, false, false, false] rfl rfl (by kernel_rfl) (fun _ _ _ h => h) (Or.inl ⟨by rfl, ?_⟩) hHeld ?_ ?_
        · rintro w' ⟨s0, s1, s2⟩
          exact exl_found rfl rfl hs0ok s1
        rotate_left
        · simp only [Act.put, List.setIfInBounds_toArray, List.set_cons_zero, List.set_cons_succ, i64_w, i32_w]
          rfl
        refine one_ (i := 6) (N := none) #[true, true, true, true, true, true, true, false, false] rfl rfl (by kernel_rfl) (by decide) (fun K hK => ?_)
        have hq0 := ho9
        refine skip_ex (by rfl) rfl (hq0.xsfound (k := 0) (s' := s1) (i' := a1) (g' := true) rfl rfl rfl zeroSec_ok hs1ok rfl) ?_
        rintro w6 hq
        simp only [List.set_cons_zero, List.set_cons_succ] at hq
        refine hK.out _ _ ⟨(hq.cell7 (k := 3) rfl), (range_left (hq.rowGet (k := 4) rfl)), (range_r66 hs0ok (hq.rowGet (k := 4) rfl))⟩ (fun hHeld => ?_)
        clear hK K
        refine one_ (i := 7) (N := none) #[true, true, true, true, true, true, true, true, false] rfl rfl (by kernel_rfl) (by decide) (fun K hK => ?_)
        have hq1 := hq
        clear hq
        refine skip_ex (by rfl) rfl (hq1.xsfound (k := 1) (s' := s0) (i' := a0) (g' := false) rfl rfl rfl zeroSec_ok hs0ok rfl) ?_
        rintro w7 hq
        simp only [List.set_cons_zero, List.set_cons_succ] at hq
        refine hK.out _ _ ⟨(hq.cell7 (k := 3) rfl), (range_left (hq.rowGet (k := 4) rfl)), (range_r66 hs0ok (hq.rowGet (k := 4) rfl))⟩ (fun hHeld => ?_)
        clear hK K
        refine last_ (i := 8) (N := none) #[true, true, true, true, true, true, true, true, true] rfl rfl (by kernel_rfl) (by decide) (fun K hK => ?_)
        have hq2 := hq
        clear hq
        refine skip_ex (by rfl) rfl (hq2.xsint (k := 2) (u := 0) rfl rfl rfl rfl) ?_
        rintro w8 hq
        refine hK.out _ _ ?_
        clear hK K
        refine done_ (by kernel_rfl) ?_
        simp only [List.set_cons_zero, List.set_cons_succ] at hq
        have ho := hq
        clear hq
        go_wp2
        have hnw := ho.nw0
        refine slot_end rfl rfl rfl rfl (ho.blk (i := 0) rfl).1 (ho.blk (i := 1) rfl).1 (ho.blk (i := 2) rfl).1 (ho.objGet (k := 5) rfl) (found66 (by assumption) _ _) (found66 (by assumption) _ _) ⟨?_, hnw.grown (grownBy_putObj' _ D _) (fun k e => by cases e; have := HB.out; omega)⟩
        have hsl := HSL.out
        have hs := hsec.out
        have ha0 := HA0.out
        have ha1 := HA1.out
        unfold SlotPost
        rw [hsl, if_neg (by simp [Both.e])]
        simp only [Both.best, Both.other, hs, if_true, ha0, ha1]
      | true =>
        by_cases hlt : num s0 0 < num s1 0
        · have hb1 : decide (num s0 0 < num s1 0) = true := by simp [hlt]
          have hsec : Hid (Both.second ⟨⟨s0, true, 0⟩, ⟨s1, true, 0⟩⟩ = true) := Lib.hid (by simp [Both.second, hlt])
          clear hlt
          go_upto_region 8 with (fail)
          refine start_ (n := 24) (S := fun w' => w'.cell? ⟨b7, 0, none⟩ = some (.slice (some ⟨g, 0, none⟩) 2 cap) ∧ w'.cell? ⟨g, 65, none⟩ = some (.bool true) ∧ w'.cell? ⟨g, 131, none⟩ = some (.bool true) ∧ w'.rangeAt g 0 (secVals s0) ∧ w'.rangeAt g 66 (secVals s1) ∧ Nw W w') (ds := []) #[false, false, false, false, false, false, false, false, false, false, false, false, false, false, false, false, false, false, false, false, false, false, false, false] mixed rfl rfl ⟨HC7.out, HC65.out, HC131.out, HR0.out, HR1.out, (Nw.refl _).drew⟩ (fun hHeld => ?_)
          refine take_ (i := 0) (N := some 24) (v := .slice (some ⟨g, 0, none⟩) 2 cap) (a' := ?_) #[true, false, false, false, false, false, false, false, false, false, false, false, false, false, false, false, false, false, false, false, false, false, false, false] rfl rfl (by kernel_rfl) (fun _ _ _ h => h) (Or.inl ⟨by rfl, ?_⟩) hHeld ?_ ?_
          · rintro w' ⟨s0, s1, s2, s3, s4, s5⟩
            exact exl_founds rfl rfl s0
          rotate_left
          · simp only [Act.put, List.setIfInBounds_toArray, List.set_cons_zero, List.set_cons_succ, i64_w, i32_w]
            rfl
          refine pure_ (i := 1) (N := some 25) (v := ?_) (a' := ?_) #[true, true, false, false, false, false, false, false, false, false, false, false, false, false, false, false, false, false, false, false, false, false, false, false] rfl rfl (by kernel_rfl) (fun _ _ _ h => h) (Or.inl ⟨by rfl, ?_⟩) ?_ ?_
          rotate_left
          · intro w'
            go_simp
            with_reducible rfl
          rotate_left
          · simp only [Act.put, List.setIfInBounds_toArray, List.set_cons_zero, List.set_cons_succ, i64_w, i32_w]
            rfl
          refine pure_ (i := 2) (N := some 26) (v := ?_) (a' := ?_) #[true, true, true, false, false, false, false, false, false, false, false, false, false, false, false, false, false, false, false, false, false, false, false, false] rfl rfl (by kernel_rfl) (fun _ _ _ h => h) (Or.inl ⟨by rfl, ?_⟩) ?_ ?_
          rotate_left
          · intro w'
            go_simp
            with_reducible rfl
          rotate_left
          · simp only [Act.put, List.setIfInBounds_toArray, List.set_cons_zero, List.set_cons_succ, i64_w, i32_w]
            rfl
          refine take_ (i := 3) (N := some 27) (v := .bool true) (a' := ?_) #[true, true, true, true, false, false, false, false, false, false, false, false, false, false, false, false, false, false, false, false, false, false, false, false] rfl rfl (by kernel_rfl) (fun _ _ _ h => h) (Or.inl ⟨by rfl, ?_⟩) hHeld ?_ ?_
          · rintro w' ⟨s0, s1, s2, s3, s4, s5⟩
            exact exl_bool1 rfl rfl s2
          rotate_left
          · simp only [Act.put, List.setIfInBounds_toArray, List.set_cons_zero, List.set_cons_succ, i64_w, i32_w]
            rfl
          refine pure_ (i := 4) (N := some 28) (v := ?_) (a' := ?_) #[true, true, true, true, true, false, false, false, false, false, false, false, false, false, false, false, false, false, false, false, false, false, false, false] rfl rfl (by kernel_rfl) (fun _ _ _ h => h) (Or.inl ⟨by rfl, ?_⟩) ?_ ?_
          rotate_left
          · intro w'
            go_simp
            with_reducible rfl
          rotate_left
          · simp only [Act.put, List.setIfInBounds_toArray, List.set_cons_zero, List.set_cons_succ, i64_w, i32_w]
            rfl
          refine take_ (i := 5) (N := some 29) (v := .slice (some ⟨g, 0, none⟩) 2 cap) (a' := ?_) #[true, true, true, true, true, true, false, false, false, false, false, false, false, false, false, false, false, false, false, false, false, false, false, false] rfl rfl (by kernel_rfl) (fun _ _ _ h => h) (Or.inl ⟨by rfl, ?_⟩) hHeld ?_ ?_
          · rintro w' ⟨s0, s1, s2, s3, s4, s5⟩
            exact exl_founds rfl rfl s0
          rotate_left
          · simp only [Act.put, List.setIfInBounds_toArray, List.set_cons_zero, List.set_cons_succ, i64_w, i32_w]
            rfl
          refine pure_ (i := 6) (N := some 30) (v := ?_) (a' := ?_) #[true, true, true, true, true, true, true, false, false, false, false, false, false, false, false, false, false, false, false, false, false, false, false, false] rfl rfl (by kernel_rfl) (fun _ _ _ h => h) (Or.inl ⟨by rfl, ?_⟩) ?_ ?_
          rotate_left
          · intro w'
            go_simp
            with_reducible rfl
          rotate_left
          · simp only [Act.put, List.setIfInBounds_toArray, List.set_cons_zero, List.set_cons_succ, i64_w, i32_w]
            rfl
          refine pure_ (i := 7) (N := some 31) (v := ?_) (a' := ?_) #[true, true, true, true, true, true, true, true, false, false, false, false, false, false, false, false, false, false, false, false, false, false, false, false] rfl rfl (by kernel_rfl) (fun _ _ _ h => h) (Or.inl ⟨by rfl, ?_⟩) ?_ ?_
          rotate_left
          · intro w'
            go_simp
            with_reducible rfl
          rotate_left
          · simp only [Act.put, List.setIfInBounds_toArray, List.set_cons_zero, List.set_cons_succ, i64_w, i32_w]
            rfl
          refine take_ (i := 8) (N := some 32) (v := .bool true) (a' := ?_) #[true, true, true, true, true, true, true, true, true, false, false, false, false, false, false, false, false, false, false, false, false, false, false, false] rfl rfl (by kernel_rfl) (fun _ _ _ h => h) (Or.inl ⟨by rfl, ?_⟩) hHeld ?_ ?_
          · rintro w' ⟨s0, s1, s2, s3, s4, s5⟩
            exact exl_bool1 rfl rfl s1
          rotate_left
          · simp only [Act.put, List.setIfInBounds_toArray, List.set_cons_zero, List.set_cons_succ, i64_w, i32_w]
            rfl
          refine pure_ (i := 9) (N := some 33) (v := ?_) (a' := ?_) #[true, true, true, true, true, true, true, true, true, true, false, false, false, false, false, false, false, false, false, false, false, false, false, false] rfl rfl (by kernel_rfl) (fun _ _ _ h => h) (Or.inl ⟨by rfl, ?_⟩) ?_ ?_
          rotate_left
          · intro w'
            go_simp
            with_reducible rfl
          rotate_left
          · simp only [Act.put, List.setIfInBounds_toArray, List.set_cons_zero, List.set_cons_succ, i64_w, i32_w]
            rfl
          refine pure_ (i := 10) (N := some 34) (v := ?_) (a' := ?_) #[true, true, true, true, true, true, true, true, true, true, true, false, false, false, false, false, false, false, false, false, false, false, false, false] rfl rfl (by kernel_rfl) (fun _ _ _ h => h) (Or.inl ⟨by rfl, ?_⟩) ?_ ?_
          rotate_left
          · intro w'
            go_simp
            with_reducible rfl
          rotate_left
          · simp only [Act.put, List.setIfInBounds_toArray, List.set_cons_zero, List.set_cons_succ, i64_w, i32_w]
            rfl
          refine take_ (i := 11) (N := some 35) (v := .slice (some ⟨g, 0, none⟩) 2 cap) (a' := ?_) #[true, true, true, true, true, true, true, true, true, true, true, true, false, false, false, false, false, false, false, false, false, false, false, false] rfl rfl (by kernel_rfl) (fun _ _ _ h => h) (Or.inl ⟨by rfl, ?_⟩) hHeld ?_ ?_
          · rintro w' ⟨s0, s1, s2, s3, s4, s5⟩
            exact exl_founds rfl rfl s0
          rotate_left
          · simp only [Act.put, List.setIfInBounds_toArray, List.set_cons_zero, List.set_cons_succ, i64_w, i32_w]
            rfl
          refine pure_ (i := 12) (N := some 36) (v := ?_) (a' := ?_) #[true, true, true, true, true, true, true, true, true, true, true, true, true, false, false, false, false, false, false, false, false, false, false, false] rfl rfl (by kernel_rfl) (fun _ _ _ h => h) (Or.inl ⟨by rfl, ?_⟩) ?_ ?_
          rotate_left
          · intro w'
            go_simp
            with_reducible rfl
          rotate_left
          · simp only [Act.put, List.setIfInBounds_toArray, List.set_cons_zero, List.set_cons_succ, i64_w, i32_w]
            rfl
          refine pure_ (i := 13) (N := some 37) (v := ?_) (a' := ?_) #[true, true, true, true, true, true, true, true, true, true, true, true, true, true, false, false, false, false, false, false, false, false, false, false] rfl rfl (by kernel_rfl) (fun _ _ _ h => h) (Or.inl ⟨by rfl, ?_⟩) ?_ ?_
          rotate_left
          · intro w'
            go_simp
            with_reducible rfl
          rotate_left
          · simp only [Act.put, List.setIfInBounds_toArray, List.set_cons_zero, List.set_cons_succ, i64_w, i32_w]
            rfl
          refine take_ (i := 14) (N := some 38) (v := .agg (secVals s1).toArray) (a' := ?_) #[true, true, true, true, true, true, true, true, true, true, true, true, true, true, true, false, false, false, false, false, false, false, false, false] rfl rfl (by kernel_rfl) (fun _ _ _ h => h) (Or.inl ⟨by rfl, ?_⟩) hHeld ?_ ?_
          · rintro w' ⟨s0, s1, s2, s3, s4, s5⟩
            exact exl_sec rfl rfl hs1ok s4
          rotate_left
          · simp only [Act.put, List.setIfInBounds_toArray, List.set_cons_zero, List.set_cons_succ, i64_w, i32_w]
            rfl
          refine take_ (i := 16) (N := some 40) (v := .slice (some ⟨g, 0, none⟩) 2 cap) (a' := ?_) #[true, true, true, true, true, true, true, true, true, true, true, true, true, true, true, false, true, false, false, false, false, false, false, false] rfl rfl (by kernel_rfl) (fun _ _ _ h => h) (Or.inl ⟨by rfl, ?_⟩) hHeld ?_ ?_
          · rintro w' ⟨s0, s1, s2, s3, s4, s5⟩
            exact exl_founds rfl rfl s0
          rotate_left
          · simp only [Act.put, List.setIfInBounds_toArray, List.set_cons_zero, List.set_cons_succ, i64_w, i32_w]
            rfl
          refine pure_ (i := 17) (N := some 41) (v := ?_) (a' := ?_) #[true, true, true, true, true, true, true, true, true, true, true, true, true, true, true, false, true, true, false, false, false, false, false, false] rfl rfl (by kernel_rfl) (fun _ _ _ h => h) (Or.inl ⟨by rfl, ?_⟩) ?_ ?_
          rotate_left
          · intro w'
            go_simp
            with_reducible rfl
          rotate_left
          · simp only [Act.put, List.setIfInBounds_toArray, List.set_cons_zero, List.set_cons_succ, i64_w, i32_w]
            rfl
          refine pure_ (i := 18) (N := some 42) (v := ?_) (a' := ?_) #[true, true, true, true, true, true, true, true, true, true, true, true, true, true, true, false, true, true, true, false, false, false, false, false] rfl rfl (by kernel_rfl) (fun _ _ _ h => h) (Or.inl ⟨by rfl, ?_⟩) ?_ ?_
          rotate_left
          · intro w'
            go_simp
            with_reducible rfl
          rotate_left
          · simp only [Act.put, List.setIfInBounds_toArray, List.set_cons_zero, List.set_cons_succ, i64_w, i32_w]
            rfl
          refine take_ (i := 19) (N := some 43) (v := .agg (secVals s0).toArray) (a' := ?_) #[true, true, true, true, true, true, true, true, true, true, true, true, true, true, true, false, true, true, true, true, false, false, false, false] rfl rfl (by kernel_rfl) (fun _ _ _ h => h) (Or.inl ⟨by rfl, ?_⟩) hHeld ?_ ?_
          · rintro w' ⟨s0, s1, s2, s3, s4, s5⟩
            exact exl_sec rfl rfl hs0ok s3
          rotate_left
          · simp only [Act.put, List.setIfInBounds_toArray, List.set_cons_zero, List.set_cons_succ, i64_w, i32_w]
            rfl
          refine one_ (i := 15) (N := some 39) #[true, true, true, true, true, true, true, true, true, true, true, true, true, true, true, true, true, true, true, true, false, false, false, false] rfl rfl (by kernel_rfl) (by decide) (fun K hK => ?_)
          obtain ⟨h0, h1, h2, h3, h4, h5⟩ := hHeld
          refine goes_ Try.func55 (by kernel_rfl) rfl #[.agg (secVals s1).toArray, .int .i64 0] (by rfl) rfl rfl (by simp only [List.map_toArray, List.map_cons, List.map_nil]; rfl) ?_
          with_reducible refine ((number0_calls hs1ok)).mono ?_
          rintro e w5 ⟨rfl, hn5⟩
          refine ⟨_, rfl, ?_⟩
          refine hK.out _ _ ⟨(hn5.cell h0 (fun h => h)), (hn5.cell h1 (fun h => h)), (hn5.cell h2 (fun h => h)), (range_nw h3 hn5), (range_nw h4 hn5), (h5.trans hn5)⟩ (fun hHeld => ?_)
          clear hK K
          refine norm_ (a' := ?_) ?_ ?_
          rotate_left
          · show Act.put _ (some 39) _ = _
            simp only [Act.put, List.setIfInBounds_toArray, List.set_cons_zero, List.set_cons_succ, i64_w, i32_w]
            rfl
          refine one_ (i := 20) (N := some 44) #[true, true, true, true, true, true, true, true, true, true, true, true, true, true, true, true, true, true, true, true, true, false, false, false] rfl rfl (by kernel_rfl) (by decide) (fun K hK => ?_)
          obtain ⟨h0, h1, h2, h3, h4, h5⟩ := hHeld
          refine goes_ Try.func55 (by kernel_rfl) rfl #[.agg (secVals s0).toArray, .int .i64 0] (by rfl) rfl rfl (by simp only [List.map_toArray, List.map_cons, List.map_nil]; rfl) ?_
          with_reducible refine ((number0_calls hs0ok)).mono ?_
          rintro e w5 ⟨rfl, hn5⟩
          refine ⟨_, rfl, ?_⟩
          refine hK.out _ _ ⟨(hn5.cell h0 (fun h => h)), (hn5.cell h1 (fun h => h)), (hn5.cell h2 (fun h => h)), (range_nw h3 hn5), (range_nw h4 hn5), (h5.trans hn5)⟩ (fun hHeld => ?_)
          clear hK K
          refine norm_ (a' := ?_) ?_ ?_
          rotate_left
          · show Act.put _ (some 44) _ = _
            simp only [Act.put, List.setIfInBounds_toArray, List.set_cons_zero, List.set_cons_succ, i64_w, i32_w]
            rfl
          refine pure_ (i := 21) (N := some 45) (v := ?_) (a' := ?_) #[true, true, true, true, true, true, true, true, true, true, true, true, true, true, true, true, true, true, true, true, true, true, false, false] rfl rfl (by kernel_rfl) (fun _ _ _ h => h) (Or.inl ⟨by rfl, ?_⟩) ?_ ?_
          rotate_left
          · intro w'
            go_simp
            with_reducible rfl
          rotate_left
          · simp only [Act.put, List.setIfInBounds_toArray, List.set_cons_zero, List.set_cons_succ, i64_w, i32_w]
            rfl
          refine pure_ (i := 22) (N := some 46) (v := ?_) (a' := ?_) #[true, true, true, true, true, true, true, true, true, true, true, true, true, true, true, true, true, true, true, true, true, true, true, false] rfl rfl (by kernel_rfl) (fun _ _ _ h => h) (Or.inl ⟨by rfl, ?_⟩) ?_ ?_
          rotate_left
          · intro w'
            go_simp
            with_reducible rfl
          rotate_left
          · simp only [Act.put, List.setIfInBounds_toArray, List.set_cons_zero, List.set_cons_succ, i64_w, i32_w]
            rfl
          refine pure_ (i := 23) (N := some 47) (v := ?_) (a' := ?_) #[true, true, true, true, true, true, true, true, true, true, true, true, true, true, true, true, true, true, true, true, true, true, true, true] rfl rfl (by kernel_rfl) (fun _ _ _ h => h) (Or.inl ⟨by rfl, ?_⟩) ?_ ?_
          rotate_left
          · intro w'
            go_simp
            with_reducible rfl
          rotate_left
          · simp only [Act.put, List.setIfInBounds_toArray, List.set_cons_zero, List.set_cons_succ, i64_w, i32_w]
            rfl
          refine done_ (by kernel_rfl) ?_
          have hn8 := hHeld.2.2.2.2.2
          have ho8 := HO.out.nw hn8
          clear hHeld
          go_upto_region 9 with (fail)
          have ho9 := ho8.nw ((Nw.refl _).drew)
          refine start_ (n := 9) (S := fun w' => w'.cell? ⟨b7, 0, none⟩ = some (.slice (some ⟨g, 0, none⟩) 2 cap) ∧ w'.rangeAt g 0 (foundVals s0 a0 true) ∧ w'.rangeAt g 66 (foundVals s1 a1 true)) (ds := [8]) #[false, false, false, false, false, false, false, false, false] mixed rfl rfl ⟨(ho9.cell7 (k := 3) rfl), (range_left (ho9.rowGet (k := 4) rfl)), (range_r66 hs0ok (ho9.rowGet (k := 4) rfl))⟩ (fun hHeld => ?_)
          refine take_ (i := 0) (N := some 48) (v := .slice (some ⟨g, 0, none⟩) 2 cap) (a' := ?_) #[true, false, false, false, false, false, false, false, false] rfl rfl (by kernel_rfl) (fun _ _ _ h => h) (Or.inl ⟨by rfl, ?_⟩) hHeld ?_ ?_
          · rintro w' ⟨s0, s1, s2⟩
            exact exl_founds rfl rfl s0
          rotate_left
          · simp only [Act.put, List.setIfInBounds_toArray, List.set_cons_zero, List.set_cons_succ, i64_w, i32_w]
            rfl
          refine pure_ (i := 1) (N := some 49) (v := ?_) (a' := ?_) #[true, true, false, false, false, false, false, false, false] rfl rfl (by kernel_rfl) (fun _ _ _ h => h) (Or.inl ⟨by rfl, ?_⟩) ?_ ?_
          rotate_left
          · intro w'
            go_simp
            with_reducible rfl
          rotate_left
          · simp only [Act.put, List.setIfInBounds_toArray, List.set_cons_zero, List.set_cons_succ, i64_w, i32_w]
            rfl
          refine take_ (i := 2) (N := some 50) (v := .agg (foundVals s1 a1 true).toArray) (a' := ?_) #[true, true, true, false, false, false, false, false, false] rfl rfl (by kernel_rfl) (fun _ _ _ h => h) (Or.inl ⟨by rfl, ?_⟩) hHeld ?_ ?_
          · rintro w' ⟨s0, s1, s2⟩
            exact exl_found rfl rfl hs1ok s2
          rotate_left
          · simp only [Act.put, List.setIfInBounds_toArray, List.set_cons_zero, List.set_cons_succ, i64_w, i32_w]
            rfl
          refine take_ (i := 3) (N := some 51) (v := .slice (some ⟨g, 0, none⟩) 2 cap) (a' := ?_) #[true, true, true, true, false, false, false, false, false] rfl rfl (by kernel_rfl) (fun _ _ _ h => h) (Or.inl ⟨by rfl, ?_⟩) hHeld ?_ ?_
          · rintro w' ⟨s0, s1, s2⟩
            exact exl_founds rfl rfl s0
          rotate_left
          · simp only [Act.put, List.setIfInBounds_toArray, List.set_cons_zero, List.set_cons_succ, i64_w, i32_w]
            rfl
          refine pure_ (i := 4) (N := some 52) (v := ?_) (a' := ?_) #[true, true, true, true, true, false, false, false, false] rfl rfl (by kernel_rfl) (fun _ _ _ h => h) (Or.inl ⟨by rfl, ?_⟩) ?_ ?_
          rotate_left
          · intro w'
            go_simp
            with_reducible rfl
          rotate_left
          · simp only [Act.put, List.setIfInBounds_toArray, List.set_cons_zero, List.set_cons_succ, i64_w, i32_w]
            rfl
          refine take_ (i := 5) (N := some 53) (v := .agg (foundVals s0 a0 true).toArray) (a' := ?_) #[true, true, true, true, true, true, false, false, false] rfl rfl (by kernel_rfl) (fun _ _ _ h => h) (Or.inl ⟨by rfl, ?_⟩) hHeld ?_ ?_
          · rintro w' ⟨s0, s1, s2⟩
            exact exl_found rfl rfl hs0ok s1
          rotate_left
          · simp only [Act.put, List.setIfInBounds_toArray, List.set_cons_zero, List.set_cons_succ, i64_w, i32_w]
            rfl
          refine one_ (i := 6) (N := none) #[true, true, true, true, true, true, true, false, false] rfl rfl (by kernel_rfl) (by decide) (fun K hK => ?_)
          have hq0 := ho9
          refine skip_ex (by rfl) rfl (hq0.xsfound (k := 0) (s' := s1) (i' := a1) (g' := true) rfl rfl rfl zeroSec_ok hs1ok rfl) ?_
          rintro w6 hq
          simp only [List.set_cons_zero, List.set_cons_succ] at hq
          refine hK.out _ _ ⟨(hq.cell7 (k := 3) rfl), (range_left (hq.rowGet (k := 4) rfl)), (range_r66 hs0ok (hq.rowGet (k := 4) rfl))⟩ (fun hHeld => ?_)
          clear hK K
          refine one_ (i := 7) (N := none) #[true, true, true, true, true, true, true, true, false] rfl rfl (by kernel_rfl) (by decide) (fun K hK => ?_)
          have hq1 := hq
          clear hq
          refine skip_ex (by rfl) rfl (hq1.xsfound (k := 1) (s' := s0) (i' := a0) (g' := true) rfl rfl rfl zeroSec_ok hs0ok rfl) ?_
          rintro w7 hq
          simp only [List.set_cons_zero, List.set_cons_succ] at hq
          refine hK.out _ _ ⟨(hq.cell7 (k := 3) rfl), (range_left (hq.rowGet (k := 4) rfl)), (range_r66 hs0ok (hq.rowGet (k := 4) rfl))⟩ (fun hHeld => ?_)
          clear hK K
          refine last_ (i := 8) (N := none) #[true, true, true, true, true, true, true, true, true] rfl rfl (by kernel_rfl) (by decide) (fun K hK => ?_)
          have hq2 := hq
          clear hq
          refine skip_ex (by rfl) rfl (hq2.xsint (k := 2) (u := 0) rfl rfl rfl rfl) ?_
          rintro w8 hq
          refine hK.out _ _ ?_
          clear hK K
          refine done_ (by kernel_rfl) ?_
          simp only [List.set_cons_zero, List.set_cons_succ] at hq
          have ho := hq
          clear hq
          go_wp2
          have hnw := ho.nw0
          refine slot_end rfl rfl rfl rfl (ho.blk (i := 0) rfl).1 (ho.blk (i := 1) rfl).1 (ho.blk (i := 2) rfl).1 (ho.objGet (k := 5) rfl) (found66 (by assumption) _ _) (found66 (by assumption) _ _) ⟨?_, hnw.grown (grownBy_putObj' _ D _) (fun k e => by cases e; have := HB.out; omega)⟩
          have hsl := HSL.out
          have hs := hsec.out
          have ha0 := HA0.out
          have ha1 := HA1.out
          unfold SlotPost
          rw [hsl, if_neg (by simp [Both.e])]
          simp only [Both.best, Both.other, hs, if_true, ha0, ha1]
        · have hb1 : decide (num s0 0 < num s1 0) = false := by simp [hlt]
          have hsec : Hid (Both.second ⟨⟨s0, true, 0⟩, ⟨s1, true, 0⟩⟩ = false) := Lib.hid (by simp [Both.second, hlt])
          clear hlt
          go_upto_region 8 with (fail)
          refine start_ (n := 24) (S := fun w' => w'.cell? ⟨b7, 0, none⟩ = some (.slice (some ⟨g, 0, none⟩) 2 cap) ∧ w'.cell? ⟨g, 65, none⟩ = some (.bool true) ∧ w'.cell? ⟨g, 131, none⟩ = some (.bool true) ∧ w'.rangeAt g 0 (secVals s0) ∧ w'.rangeAt g 66 (secVals s1) ∧ Nw W w') (ds := []) #[false, false, false, false, false, false, false, false, false, false, false, false, false, false, false, false, false, false, false, false, false, false, false, false] mixed rfl rfl ⟨HC7.out, HC65.out, HC131.out, HR0.out, HR1.out, (Nw.refl _).drew⟩ (fun hHeld => ?_)
          refine take_ (i := 0) (N := some 24) (v := .slice (some ⟨g, 0, none⟩) 2 cap) (a' := ?_) #[true, false, false, false, false, false, false, false, false, false, false, false, false, false, false, false, false, false, false, false, false, false, false, false] rfl rfl (by kernel_rfl) (fun _ _ _ h => h) (Or.inl ⟨by rfl, ?_⟩) hHeld ?_ ?_
          · rintro w' ⟨s0, s1, s2, s3, s4, s5⟩
            exact exl_founds rfl rfl s0
          rotate_left
          · simp only [Act.put, List.setIfInBounds_toArray, List.set_cons_zero, List.set_cons_succ, i64_w, i32_w]
            rfl
          refine pure_ (i := 1) (N := some 25) (v := ?_) (a' := ?_) #[true, true, false, false, false, false, false, false, false, false, false, false, false, false, false, false, false, false, false, false, false, false, false, false] rfl rfl (by kernel_rfl) (fun _ _ _ h => h) (Or.inl ⟨by rfl, ?_⟩) ?_ ?_
          rotate_left
          · intro w'
            go_simp
            with_reducible rfl
          rotate_left
          · simp only [Act.put, List.setIfInBounds_toArray, List.set_cons_zero, List.set_cons_succ, i64_w, i32_w]
            rfl
          refine pure_ (i := 2) (N := some 26) (v := ?_) (a' := ?_) #[true, true, true, false, false, false, false, false, false, false, false, false, false, false, false, false, false, false, false, false, false, false, false, false] rfl rfl (by kernel_rfl) (fun _ _ _ h => h) (Or.inl ⟨by rfl, ?_⟩) ?_ ?_
          rotate_left
          · intro w'
            go_simp
            with_reducible rfl
          rotate_left
          · simp only [Act.put, List.setIfInBounds_toArray, List.set_cons_zero, List.set_cons_succ, i64_w, i32_w]
            rfl
          refine take_ (i := 3) (N := some 27) (v := .bool true) (a' := ?_) #[true, true, true, true, false, false, false, false, false, false, false, false, false, false, false, false, false, false, false, false, false, false, false, false] rfl rfl (by kernel_rfl) (fun _ _ _ h => h) (Or.inl ⟨by rfl, ?_⟩) hHeld ?_ ?_
          · rintro w' ⟨s0, s1, s2, s3, s4, s5⟩
            exact exl_bool1 rfl rfl s2
          rotate_left
          · simp only [Act.put, List.setIfInBounds_toArray, List.set_cons_zero, List.set_cons_succ, i64_w, i32_w]
            rfl
          refine pure_ (i := 4) (N := some 28) (v := ?_) (a' := ?_) #[true, true, true, true, true, false, false, false, false, false, false, false, false, false, false, false, false, false, false, false, false, false, false, false] rfl rfl (by kernel_rfl) (fun _ _ _ h => h) (Or.inl ⟨by rfl, ?_⟩) ?_ ?_
          rotate_left
          · intro w'
            go_simp
            with_reducible rfl
          rotate_left
          · simp only [Act.put, List.setIfInBounds_toArray, List.set_cons_zero, List.set_cons_succ, i64_w, i32_w]
            rfl
          refine take_ (i := 5) (N := some 29) (v := .slice (some ⟨g, 0, none⟩) 2 cap) (a' := ?_) #[true, true, true, true, true, true, false, false, false, false, false, false, false, false, false, false, false, false, false, false, false, false, false, false] rfl rfl (by kernel_rfl) (fun _ _ _ h => h) (Or.inl ⟨by rfl, ?_⟩) hHeld ?_ ?_
          · rintro w' ⟨s0, s1, s2, s3, s4, s5⟩
            exact exl_founds rfl rfl s0
          rotate_left
          · simp only [Act.put, List.setIfInBounds_toArray, List.set_cons_zero, List.set_cons_succ, i64_w, i32_w]
            rfl
          refine pure_ (i := 6) (N := some 30) (v := ?_) (a' := ?_) #[true, true, true, true, true, true, true, false, false, false, false, false, false, false, false, false, false, false, false, false, false, false, false, false] rfl rfl (by kernel_rfl) (fun _ _ _ h => h) (Or.inl ⟨by rfl, ?_⟩) ?_ ?_
          rotate_left
          · intro w'
            go_simp
            with_reducible rfl
          rotate_left
          · simp only [Act.put, List.setIfInBounds_toArray, List.set_cons_zero, List.set_cons_succ, i64_w, i32_w]
            rfl
          refine pure_ (i := 7) (N := some 31) (v := ?_) (a' := ?_) #[true, true, true, true, true, true, true, true, false, false, false, false, false, false, false, false, false, false, false, false, false, false, false, false] rfl rfl (by kernel_rfl) (fun _ _ _ h => h) (Or.inl ⟨by rfl, ?_⟩) ?_ ?_
          rotate_left
          · intro w'
            go_simp
            with_reducible rfl
          rotate_left
          · simp only [Act.put, List.setIfInBounds_toArray, List.set_cons_zero, List.set_cons_succ, i64_w, i32_w]
            rfl
          refine take_ (i := 8) (N := some 32) (v := .bool true) (a' := ?_) #[true, true, true, true, true, true, true, true, true, false, false, false, false, false, false, false, false, false, false, false, false, false, false, false] rfl rfl (by kernel_rfl) (fun _ _ _ h => h) (Or.inl ⟨by rfl, ?_⟩) hHeld ?_ ?_
          · rintro w' ⟨s0, s1, s2, s3, s4, s5⟩
            exact exl_bool1 rfl rfl s1
          rotate_left
          · simp only [Act.put, List.setIfInBounds_toArray, List.set_cons_zero, List.set_cons_succ, i64_w, i32_w]
            rfl
          refine pure_ (i := 9) (N := some 33) (v := ?_) (a' := ?_) #[true, true, true, true, true, true, true, true, true, true, false, false, false, false, false, false, false, false, false, false, false, false, false, false] rfl rfl (by kernel_rfl) (fun _ _ _ h => h) (Or.inl ⟨by rfl, ?_⟩) ?_ ?_
          rotate_left
          · intro w'
            go_simp
            with_reducible rfl
          rotate_left
          · simp only [Act.put, List.setIfInBounds_toArray, List.set_cons_zero, List.set_cons_succ, i64_w, i32_w]
            rfl
          refine pure_ (i := 10) (N := some 34) (v := ?_) (a' := ?_) #[true, true, true, true, true, true, true, true, true, true, true, false, false, false, false, false, false, false, false, false, false, false, false, false] rfl rfl (by kernel_rfl) (fun _ _ _ h => h) (Or.inl ⟨by rfl, ?_⟩) ?_ ?_
          rotate_left
          · intro w'
            go_simp
            with_reducible rfl
          rotate_left
          · simp only [Act.put, List.setIfInBounds_toArray, List.set_cons_zero, List.set_cons_succ, i64_w, i32_w]
            rfl
          refine take_ (i := 11) (N := some 35) (v := .slice (some ⟨g, 0, none⟩) 2 cap) (a' := ?_) #[true, true, true, true, true, true, true, true, true, true, true, true, false, false, false, false, false, false, false, false, false, false, false, false] rfl rfl (by kernel_rfl) (fun _ _ _ h => h) (Or.inl ⟨by rfl, ?_⟩) hHeld ?_ ?_
          · rintro w' ⟨s0, s1, s2, s3, s4, s5⟩
            exact exl_founds rfl rfl s0
          rotate_left
          · simp only [Act.put, List.setIfInBounds_toArray, List.set_cons_zero, List.set_cons_succ, i64_w, i32_w]
            rfl
          refine pure_ (i := 12) (N := some 36) (v := ?_) (a' := ?_) #[true, true, true, true, true, true, true, true, true, true, true, true, true, false, false, false, false, false, false, false, false, false, false, false] rfl rfl (by kernel_rfl) (fun _ _ _ h => h) (Or.inl ⟨by rfl, ?_⟩) ?_ ?_
          rotate_left
          · intro w'
            go_simp
            with_reducible rfl
          rotate_left
          · simp only [Act.put, List.setIfInBounds_toArray, List.set_cons_zero, List.set_cons_succ, i64_w, i32_w]
            rfl
          refine pure_ (i := 13) (N := some 37) (v := ?_) (a' := ?_) #[true, true, true, true, true, true, true, true, true, true, true, true, true, true, false, false, false, false, false, false, false, false, false, false] rfl rfl (by kernel_rfl) (fun _ _ _ h => h) (Or.inl ⟨by rfl, ?_⟩) ?_ ?_
          rotate_left
          · intro w'
            go_simp
            with_reducible rfl
          rotate_left
          · simp only [Act.put, List.setIfInBounds_toArray, List.set_cons_zero, List.set_cons_succ, i64_w, i32_w]
            rfl
          refine take_ (i := 14) (N := some 38) (v := .agg (secVals s1).toArray) (a' := ?_) #[true, true, true, true, true, true, true, true, true, true, true, true, true, true, true, false, false, false, false, false, false, false, false, false] rfl rfl (by kernel_rfl) (fun _ _ _ h => h) (Or.inl ⟨by rfl, ?_⟩) hHeld ?_ ?_
          · rintro w' ⟨s0, s1, s2, s3, s4, s5⟩
            exact exl_sec rfl rfl hs1ok s4
          rotate_left
          · simp only [Act.put, List.setIfInBounds_toArray, List.set_cons_zero, List.set_cons_succ, i64_w, i32_w]
            rfl
          refine take_ (i := 16) (N := some 40) (v := .slice (some ⟨g, 0, none⟩) 2 cap) (a' := ?_) #[true, true, true, true, true, true, true, true, true, true, true, true, true, true, true, false, true, false, false, false, false, false, false, false] rfl rfl (by kernel_rfl) (fun _ _ _ h => h) (Or.inl ⟨by rfl, ?_⟩) hHeld ?_ ?_
          · rintro w' ⟨s0, s1, s2, s3, s4, s5⟩
            exact exl_founds rfl rfl s0
          rotate_left
          · simp only [Act.put, List.setIfInBounds_toArray, List.set_cons_zero, List.set_cons_succ, i64_w, i32_w]
            rfl
          refine pure_ (i := 17) (N := some 41) (v := ?_) (a' := ?_) #[true, true, true, true, true, true, true, true, true, true, true, true, true, true, true, false, true, true, false, false, false, false, false, false] rfl rfl (by kernel_rfl) (fun _ _ _ h => h) (Or.inl ⟨by rfl, ?_⟩) ?_ ?_
          rotate_left
          · intro w'
            go_simp
            with_reducible rfl
          rotate_left
          · simp only [Act.put, List.setIfInBounds_toArray, List.set_cons_zero, List.set_cons_succ, i64_w, i32_w]
            rfl
          refine pure_ (i := 18) (N := some 42) (v := ?_) (a' := ?_) #[true, true, true, true, true, true, true, true, true, true, true, true, true, true, true, false, true, true, true, false, false, false, false, false] rfl rfl (by kernel_rfl) (fun _ _ _ h => h) (Or.inl ⟨by rfl, ?_⟩) ?_ ?_
          rotate_left
          · intro w'
            go_simp
            with_reducible rfl
          rotate_left
          · simp only [Act.put, List.setIfInBounds_toArray, List.set_cons_zero, List.set_cons_succ, i64_w, i32_w]
            rfl
          refine take_ (i := 19) (N := some 43) (v := .agg (secVals s0).toArray) (a' := ?_) #[true, true, true, true, true, true, true, true, true, true, true, true, true, true, true, false, true, true, true, true, false, false, false, false] rfl rfl (by kernel_rfl) (fun _ _ _ h => h) (Or.inl ⟨by rfl, ?_⟩) hHeld ?_ ?_
          · rintro w' ⟨s0, s1, s2, s3, s4, s5⟩
            exact exl_sec rfl rfl hs0ok s3
          rotate_left
          · simp only [Act.put, List.setIfInBounds_toArray, List.set_cons_zero, List.set_cons_succ, i64_w, i32_w]
            rfl
          refine one_ (i := 15) (N := some 39) #[true, true, true, true, true, true, true, true, true, true, true, true, true, true, true, true, true, true, true, true, false, false, false, false] rfl rfl (by kernel_rfl) (by decide) (fun K hK => ?_)
          obtain ⟨h0, h1, h2, h3, h4, h5⟩ := hHeld
          refine goes_ Try.func55 (by kernel_rfl) rfl #[.agg (secVals s1).toArray, .int .i64 0] (by rfl) rfl rfl (by simp only [List.map_toArray, List.map_cons, List.map_nil]; rfl) ?_
          with_reducible refine ((number0_calls hs1ok)).mono ?_
          rintro e w5 ⟨rfl, hn5⟩
          refine ⟨_, rfl, ?_⟩
          refine hK.out _ _ ⟨(hn5.cell h0 (fun h => h)), (hn5.cell h1 (fun h => h)), (hn5.cell h2 (fun h => h)), (range_nw h3 hn5), (range_nw h4 hn5), (h5.trans hn5)⟩ (fun hHeld => ?_)
          clear hK K
          refine norm_ (a' := ?_) ?_ ?_
          rotate_left
          · show Act.put _ (some 39) _ = _
            simp only [Act.put, List.setIfInBounds_toArray, List.set_cons_zero, List.set_cons_succ, i64_w, i32_w]
            rfl
          refine one_ (i := 20) (N := some 44) #[true, true, true, true, true, true, true, true, true, true, true, true, true, true, true, true, true, true, true, true, true, false, false, false] rfl rfl (by kernel_rfl) (by decide) (fun K hK => ?_)
          obtain ⟨h0, h1, h2, h3, h4, h5⟩ := hHeld
          refine goes_ Try.func55 (by kernel_rfl) rfl #[.agg (secVals s0).toArray, .int .i64 0] (by rfl) rfl rfl (by simp only [List.map_toArray, List.map_cons, List.map_nil]; rfl) ?_
          with_reducible refine ((number0_calls hs0ok)).mono ?_
          rintro e w5 ⟨rfl, hn5⟩
          refine ⟨_, rfl, ?_⟩
          refine hK.out _ _ ⟨(hn5.cell h0 (fun h => h)), (hn5.cell h1 (fun h => h)), (hn5.cell h2 (fun h => h)), (range_nw h3 hn5), (range_nw h4 hn5), (h5.trans hn5)⟩ (fun hHeld => ?_)
          clear hK K
          refine norm_ (a' := ?_) ?_ ?_
          rotate_left
          · show Act.put _ (some 44) _ = _
            simp only [Act.put, List.setIfInBounds_toArray, List.set_cons_zero, List.set_cons_succ, i64_w, i32_w]
            rfl
          refine pure_ (i := 21) (N := some 45) (v := ?_) (a' := ?_) #[true, true, true, true, true, true, true, true, true, true, true, true, true, true, true, true, true, true, true, true, true, true, false, false] rfl rfl (by kernel_rfl) (fun _ _ _ h => h) (Or.inl ⟨by rfl, ?_⟩) ?_ ?_
          rotate_left
          · intro w'
            go_simp
            with_reducible rfl
          rotate_left
          · simp only [Act.put, List.setIfInBounds_toArray, List.set_cons_zero, List.set_cons_succ, i64_w, i32_w]
            rfl
          refine pure_ (i := 22) (N := some 46) (v := ?_) (a' := ?_) #[true, true, true, true, true, true, true, true, true, true, true, true, true, true, true, true, true, true, true, true, true, true, true, false] rfl rfl (by kernel_rfl) (fun _ _ _ h => h) (Or.inl ⟨by rfl, ?_⟩) ?_ ?_
          rotate_left
          · intro w'
            go_simp
            with_reducible rfl
          rotate_left
          · simp only [Act.put, List.setIfInBounds_toArray, List.set_cons_zero, List.set_cons_succ, i64_w, i32_w]
            rfl
          refine pure_ (i := 23) (N := some 47) (v := ?_) (a' := ?_) #[true, true, true, true, true, true, true, true, true, true, true, true, true, true, true, true, true, true, true, true, true, true, true, true] rfl rfl (by kernel_rfl) (fun _ _ _ h => h) (Or.inl ⟨by rfl, ?_⟩) ?_ ?_
          rotate_left
          · intro w'
            go_simp
            with_reducible rfl
          rotate_left
          · simp only [Act.put, List.setIfInBounds_toArray, List.set_cons_zero, List.set_cons_succ, i64_w, i32_w]
            rfl
          refine done_ (by kernel_rfl) ?_
          have hn8 := hHeld.2.2.2.2.2
          have ho8 := HO.out.nw hn8
          clear hHeld
          go_upto_region 10 with (fail)
          have ho9 := ho8.nw ((Nw.refl _).drew)
          refine start_ (n := 9) (S := fun w' => w'.cell? ⟨b7, 0, none⟩ = some (.slice (some ⟨g, 0, none⟩) 2 cap) ∧ w'.rangeAt g 0 (foundVals s0 a0 true) ∧ w'.rangeAt g 66 (foundVals s1 a1 true)) (ds := [8]) #[false, false, false, false, false, false, false, false, false] mixed rfl rfl ⟨(ho9.cell7 (k := 3) rfl), (range_left (ho9.rowGet (k := 4) rfl)), (range_r66 hs0ok (ho9.rowGet (k := 4) rfl))⟩ (fun hHeld => ?_)
          refine take_ (i := 0) (N := some 54) (v := .slice (some ⟨g, 0, none⟩) 2 cap) (a' := ?_) #[true, false, false, false, false, false, false, false, false] rfl rfl (by kernel_rfl) (fun _ _ _ h => h) (Or.inl ⟨by rfl, ?_⟩) hHeld ?_ ?_
          · rintro w' ⟨s0, s1, s2⟩
            exact exl_founds rfl rfl s0
          rotate_left
          · simp only [Act.put, List.setIfInBounds_toArray, List.set_cons_zero, List.set_cons_succ, i64_w, i32_w]
            rfl
          refine pure_ (i := 1) (N := some 55) (v := ?_) (a' := ?_) #[true, true, false, false, false, false, false, false, false] rfl rfl (by kernel_rfl) (fun _ _ _ h => h) (Or.inl ⟨by rfl, ?_⟩) ?_ ?_
          rotate_left
          · intro w'
            go_simp
            with_reducible rfl
          rotate_left
          · simp only [Act.put, List.setIfInBounds_toArray, List.set_cons_zero, List.set_cons_succ, i64_w, i32_w]
            rfl
          refine take_ (i := 2) (N := some 56) (v := .agg (foundVals s0 a0 true).toArray) (a' := ?_) #[true, true, true, false, false, false, false, false, false] rfl rfl (by kernel_rfl) (fun _ _ _ h => h) (Or.inl ⟨by rfl, ?_⟩) hHeld ?_ ?_
          · rintro w' ⟨s0, s1, s2⟩
            exact exl_found rfl rfl hs0ok s1
          rotate_left
          · simp only [Act.put, List.setIfInBounds_toArray, List.set_cons_zero, List.set_cons_succ, i64_w, i32_w]
            rfl
          refine take_ (i := 3) (N := some 57) (v := .slice (some ⟨g, 0, none⟩) 2 cap) (a' := ?_) #[true, true, true, true, false, false, false, false, false] rfl rfl (by kernel_rfl) (fun _ _ _ h => h) (Or.inl ⟨by rfl, ?_⟩) hHeld ?_ ?_
          · rintro w' ⟨s0, s1, s2⟩
            exact exl_founds rfl rfl s0
          rotate_left
          · simp only [Act.put, List.setIfInBounds_toArray, List.set_cons_zero, List.set_cons_succ, i64_w, i32_w]
            rfl
          refine pure_ (i := 4) (N := some 58) (v := ?_) (a' := ?_) #[true, true, true, true, true, false, false, false, false] rfl rfl (by kernel_rfl) (fun _ _ _ h => h) (Or.inl ⟨by rfl, ?_⟩) ?_ ?_
          rotate_left
          · intro w'
            go_simp
            with_reducible rfl
          rotate_left
          · simp only [Act.put, List.setIfInBounds_toArray, List.set_cons_zero, List.set_cons_succ, i64_w, i32_w]
            rfl
          refine take_ (i := 5) (N := some 59) (v := .agg (foundVals s1 a1 true).toArray) (a' := ?_) #[true, true, true, true, true, true, false, false, false] rfl rfl (by kernel_rfl) (fun _ _ _ h => h) (Or.inl ⟨by rfl, ?_⟩) hHeld ?_ ?_
          · rintro w' ⟨s0, s1, s2⟩
            exact exl_found rfl rfl hs1ok s2
          rotate_left
          · simp only [Act.put, List.setIfInBounds_toArray, List.set_cons_zero, List.set_cons_succ, i64_w, i32_w]
            rfl
          refine one_ (i := 6) (N := none) #[true, true, true, true, true, true, true, false, false] rfl rfl (by kernel_rfl) (by decide) (fun K hK => ?_)
          have hq0 := ho9
          refine skip_ex (by rfl) rfl (hq0.xsfound (k := 0) (s' := s0) (i' := a0) (g' := true) rfl rfl rfl zeroSec_ok hs0ok rfl) ?_
          rintro w6 hq
          simp only [List.set_cons_zero, List.set_cons_succ] at hq
          refine hK.out _ _ ⟨(hq.cell7 (k := 3) rfl), (range_left (hq.rowGet (k := 4) rfl)), (range_r66 hs0ok (hq.rowGet (k := 4) rfl))⟩ (fun hHeld => ?_)
          clear hK K
          refine one_ (i := 7) (N := none) #[true, true, true, true, true, true, true, true, false] rfl rfl (by kernel_rfl) (by decide) (fun K hK => ?_)
          have hq1 := hq
          clear hq
          refine skip_ex (by rfl) rfl (hq1.xsfound (k := 1) (s' := s1) (i' := a1) (g' := true) rfl rfl rfl zeroSec_ok hs1ok rfl) ?_
          rintro w7 hq
          simp only [List.set_cons_zero, List.set_cons_succ] at hq
          refine hK.out _ _ ⟨(hq.cell7 (k := 3) rfl), (range_left (hq.rowGet (k := 4) rfl)), (range_r66 hs0ok (hq.rowGet (k := 4) rfl))⟩ (fun hHeld => ?_)
          clear hK K
          refine last_ (i := 8) (N := none) #[true, true, true, true, true, true, true, true, true] rfl rfl (by kernel_rfl) (by decide) (fun K hK => ?_)
          have hq2 := hq
          clear hq
          refine skip_ex (by rfl) rfl (hq2.xsint (k := 2) (u := 0) rfl rfl rfl rfl) ?_
          rintro w8 hq
          refine hK.out _ _ ?_
          clear hK K
          refine done_ (by kernel_rfl) ?_
          simp only [List.set_cons_zero, List.set_cons_succ] at hq
          have ho := hq
          clear hq
          go_wp2
          have hnw := ho.nw0
          refine slot_end rfl rfl rfl rfl (ho.blk (i := 0) rfl).1 (ho.blk (i := 1) rfl).1 (ho.blk (i := 2) rfl).1 (ho.objGet (k := 5) rfl) (found66 (by assumption) _ _) (found66 (by assumption) _ _) ⟨?_, hnw.grown (grownBy_putObj' _ D _) (fun k e => by cases e; have := HB.out; omega)⟩
          have hsl := HSL.out
          have hs := hsec.out
          have ha0 := HA0.out
          have ha1 := HA1.out
          unfold SlotPost
          rw [hsl, if_neg (by simp [Both.e])]
          simp only [Both.best, Both.other, hs, Bool.false_eq_true, if_false, ha0, ha1]
  case stop =>
    rintro D c pre W hD hpre ⟨rfl, h1, h2, h3, q, x, hpx, hxe, hq, h4⟩ hK
    have H1 := Lib.hid h1
    have H2 := Lib.hid h2
    have H3 := Lib.hid h3
    have H4 := Lib.hid h4
    have HKK := Lib.hid hK
    have HPX := Lib.hid hpx
    have HPRE := Lib.hid hpre
    have HQ := Lib.hid hq
    have HXE := Lib.hid hxe
    clear h1 h2 h3 h4 hK hpx hpre hq hxe
    refine (wpIn_wide (n := 5)).2 ?_
    go_wp2
    refine slot_end rfl rfl rfl rfl H2.out H3.out H4.out HKK.out (found66 zeroSec_ok _ _) (found66 zeroSec_ok _ _) ⟨?_, H1.out.grown (grownBy_putObj' _ D _) (fun k e => by cases e; have := HB.out; omega)⟩
    have hE : (d.slot first i).e = x.e := by
      have hpre := HPRE.out
      rw [HPX.out] at hpre
      have hea : (d.slot first i).a.e = (feOf d hdok (first + 2 * i)).e := by unfold Disk.slot feOf; rfl
      have heb : (d.slot first i).b.e = (feOf d hdok (first + 2 * i + 1)).e := by unfold Disk.slot feOf; rfl
      obtain ⟨r, hr⟩ := hpre
      rcases q with _ | ⟨y, _ | ⟨z, q⟩⟩
      · simp at hr
        unfold Both.e
        rw [hea, ← hr.1, if_pos HXE.out]
      · simp at hr
        unfold Both.e
        rw [hea, heb, ← hr.1, ← hr.2.1, HQ.out y (by simp)]
        simp
      · simp at hr
    unfold SlotPost
    rw [hE, if_pos HXE.out]
end
end Go.Proofs.Ytcaalfpfkalalaa
