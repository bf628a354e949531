/- The specification's disk: Read, Rot. -/
import Derived.Test.YtcaalfpfkalalaaT3
set_option linter.unusedVariables false
set_option linter.unusedSimpArgs false
set_option maxRecDepth 10000
set_option maxHeartbeats 4000000
namespace Go.Proofs.Ytcaalfpfkalalaa
open Go.RowKit Qd
open Go.Proofs.YtcaalfpfkalalaaW.PrintLast
/-- A sector and an error. -/
def gotVals (s : Sec) (e : Int) : List Value := secVals s ++ [.int .i64 e]
theorem gotVals_len {s : Sec} (hs : SecOk s) (e : Int) : (gotVals s e).length = 65 := by simp [gotVals, sec64 hs]
theorem gotVals_one (s : Sec) (e : Int) : ∀ v ∈ gotVals s e, v.oneCell' = true := fun v hv => by
  rcases List.mem_append.1 hv with hv | hv
  · exact secVals_one s v hv
  · simp at hv; subst hv; rfl
theorem zGot (w : World) : (zeroValue 54).run Try.prog w = .ok (.agg (gotVals zeroSec 0).toArray) w := by kernel_rfl
theorem sGot : (Try.prog.info? 54).map (·.size) = some 65 := by kernel_rfl
theorem uGot : ∃ d, Try.prog.underlying 54 = some d ∧ d.isRow = true := by
  have h : (Try.prog.underlying 54).map (·.isRow) = some true := by kernel_rfl
  obtain ⟨d, h1, h2⟩ := Option.map_eq_some_iff.1 h
  exact ⟨d, h1, h2⟩
section
variable {w0 w : World} {rs : List Res} {p bc k i b j : Nat} {vs A B : List Value} {d : Disk} {o : Oper} {ρ : Operand → Value} {x y : Operand} {c : Qd.Cell} {v : Value} {t : TypeId}
theorem exb_got1 (ho : o.op = .build 54 #[(1, x)]) {e : Int} (hx : ρ x = .int .i64 e) : (execOp ρ o).run Try.prog w = .ok (.value (.agg (gotVals zeroSec e).toArray)) w := by
  have h : ∀ v, Try.prog.built 54 [(1, v)] = Instr.fill (#[(0, 64), (64, 1)][·]?) (gotVals zeroSec 0).toArray [(1, v)] := fun v => by kernel_rfl
  refine ex_build ho hx ?_
  rw [h, fill_one (off := 64) (size := 1) rfl (by simp [Value.cells]) (by rw [List.size_toArray, gotVals_len zeroSec_ok]; omega)]
  have e1 : ((gotVals zeroSec 0).toArray).toList.drop (64 + 1) = [] := by rfl
  have e2 : ((gotVals zeroSec 0).toArray).toList.take 64 = secVals zeroSec := by rfl
  rw [e1, e2]
  simp [Value.cells, gotVals]
theorem exb_got0 (ho : o.op = .build 54 #[(0, x)]) {s : Sec} (hs : SecOk s) (hx : ρ x = .agg (secVals s).toArray) : (execOp ρ o).run Try.prog w = .ok (.value (.agg (gotVals s 0).toArray)) w := by
  have h : ∀ v, Try.prog.built 54 [(0, v)] = Instr.fill (#[(0, 64), (64, 1)][·]?) (gotVals zeroSec 0).toArray [(0, v)] := fun v => by kernel_rfl
  refine ex_build ho hx ?_
  rw [h, fill_one (off := 0) (size := 64) rfl (by simp [Value.cells, sec64 hs]) (by rw [List.size_toArray, gotVals_len zeroSec_ok]; omega)]
  have e : ((gotVals zeroSec 0).toArray).toList.drop (0 + 64) = [.int .i64 0] := by rfl
  rw [e]
  simp [Value.cells, gotVals]
theorem Own.xagot (n : Tmp) (h : Own w0 w rs) (hd : o.dst = some n) (ho : o.op = .alloc 54) : ∃ v w1, (execOp ρ o).run Try.prog w = .ok (.value v) w1 ∧ ∃ b, v = .pointer (some ⟨b, 0, none⟩) ∧ Own w0 w1 (rs ++ [blkR b (gotVals zeroSec 0).toArray 54]) :=
  ⟨_, _, ex_alloc ho (zGot w), _, rfl, h.alloc _ _⟩
theorem Own.xsgot {s s' : Sec} {e e' : Int} (h : Own w0 w rs) (hk : rs[k]? = some (blkR b (gotVals s e).toArray t)) (ho : o.op = .store 54 x y) (hx : ρ x = .pointer (some ⟨b, 0, none⟩)) (hs : SecOk s) (hs' : SecOk s') (hy : ρ y = .agg (gotVals s' e').toArray) :
    ∃ w1, (execOp ρ o).run Try.prog w = .ok .skip w1 ∧ Own w0 w1 (rs.set k (blkR b (gotVals s' e').toArray t)) :=
  ⟨_, ex_store ho hx hy ((h.blk hk).1.there _ _ (by rw [List.size_toArray, gotVals_len hs, gotVals_len hs']; omega)) (by rw [gotVals_len hs']; exact sGot) (gotVals_one s' e'), h.set hk (by rw [List.size_toArray, gotVals_len hs, gotVals_len hs']; omega) (by
    rw [List.drop_eq_nil_of_le (by simp [gotVals_len hs, gotVals_len hs'])]; simp)⟩
theorem rng0 {cs : List Value} (h : Own w0 w rs) (hk : rs[k]? = some (blkR b cs.toArray t)) : w.rangeAt b 0 cs := (h.blk hk).1.range 0 _ (fun j _ => by rw [Nat.zero_add]; simp)
theorem exl_rcell (hr : w.rangeAt b j (refCell (c, v))) (hc : SecOk c.s) (ho : o.op = .load 110 x) (hx : ρ x = .pointer (some ⟨b, j, none⟩)) : (execOp ρ o).run Try.prog w = .ok (.value (.agg (refCell (c, v)).toArray)) w := by
  obtain ⟨d, h1, h2⟩ := uRefCell
  exact ex_load ho hx hr h1 h2 (by rw [refCell_len hc]; exact sRefCell)
theorem exl_rsec (hr : w.rangeAt b j (refCell (c, v))) (hc : SecOk c.s) (ho : o.op = .load 29 x) (hx : ρ x = .pointer (some ⟨b, j, none⟩)) : (execOp ρ o).run Try.prog w = .ok (.value (.agg (secVals c.s).toArray)) w := exl_sec ho hx hc (cell_sec hc hr)
theorem exl_rbad (hr : w.rangeAt b j (refCell (c, v))) (hc : SecOk c.s) (ho : o.op = .load 4 x) (hx : ρ x = .pointer (some ⟨b, j + 64, none⟩)) : (execOp ρ o).run Try.prog w = .ok (.value (.bool c.bad)) w := exl_bool ho hx (cell_bad hc hr)
theorem exl_ropen {a : Option Addr} {m cp : Nat} (hr : w.rangeAt b j (refCell (c, .slice a m cp))) (hc : SecOk c.s) (ho : o.op = .load 87 x) (hx : ρ x = .pointer (some ⟨b, j + 65, none⟩)) : (execOp ρ o).run Try.prog w = .ok (.value (.slice a m cp)) w := exl_secsl ho hx (cell_open hc hr)
theorem Own.xacell (n : Tmp) (h : Own w0 w rs) (hd : o.dst = some n) (ho : o.op = .alloc 110) : ∃ v w1, (execOp ρ o).run Try.prog w = .ok (.value v) w1 ∧ ∃ b, v = .pointer (some ⟨b, 0, none⟩) ∧ Own w0 w1 (rs ++ [blkR b (refCell (zeroCell, .slice none 0 0)).toArray 110]) :=
  ⟨_, _, ex_alloc ho (zRefCell w), _, rfl, h.alloc _ _⟩
theorem Own.xscell1 {c' : Qd.Cell} {v' : Value} (h : Own w0 w rs) (hk : rs[k]? = some (blkR b (refCell (c, v)).toArray t)) (hc : SecOk c.s) (hc' : SecOk c'.s) (hv' : v'.oneCell' = true) (ho : o.op = .store 110 x y) (hx : ρ x = .pointer (some ⟨b, 0, none⟩)) (hy : ρ y = .agg (refCell (c', v')).toArray) :
    ∃ w1, (execOp ρ o).run Try.prog w = .ok .skip w1 ∧ Own w0 w1 (rs.set k (blkR b (refCell (c', v')).toArray t)) :=
  ⟨_, ex_store ho hx hy ((h.blk hk).1.there _ _ (by rw [List.size_toArray, refCell_len hc, refCell_len hc']; omega)) (by rw [refCell_len hc']; exact sRefCell) (refCell_one hv'), h.set hk (by rw [List.size_toArray, refCell_len hc, refCell_len hc']; omega) (by
    rw [List.drop_eq_nil_of_le (by simp [refCell_len hc, refCell_len hc'])]; simp)⟩
theorem results_got {fn : Func} {q : Tmp} (h : fn.results = #[.cell q 54]) (tmps : Array Value) {s : Sec} {e : Int} (hs : SecOk s) (hp : tmps.getD q undef = .pointer (some ⟨b, 0, none⟩)) (hr : w.rangeAt b 0 (gotVals s e)) :
    (results fn tmps).run Try.prog w = .ok (.agg (gotVals s e).toArray) w := by
  obtain ⟨dd, hu, hd⟩ := uGot
  have := run_loadVar_mid (P := Try.prog) w b 0 54 (gotVals s e) _ hr hu hd (by rw [gotVals_len hs]; exact sGot)
  have hp' : tmps[q]?.getD undef = .pointer (some ⟨b, 0, none⟩) := by simpa using hp
  simp [results, h, hp', asAddr, this]
end
section
variable {w0 w : World} {rs tl : List Res} {p bc k : Nat} {vs : List Value} {d : Disk}
theorem Own.openRef0 (h : Own w0 w (refR p d :: tl)) : ∃ bc vs, vs.length = d.cells.length ∧ d.Ok ∧ Own w0 w (refL p bc vs d ++ tl) := by
  obtain ⟨x, ⟨h1, h2⟩, ho⟩ := Own.takeEx (a := []) (r := refR p d) (α := Nat × List Value) (R := fun x => starR (refL p x.1 x.2 d)) (P := fun x => x.2.length = d.cells.length ∧ d.Ok) h (fun w S h => h)
  exact ⟨x.1, x.2, h1, h2, ho.unstar⟩
theorem Own.shutRef0 (h : Own w0 w (refL p bc vs d ++ tl)) (hl : vs.length = d.cells.length) (hok : d.Ok) : Own w0 w (refR p d :: tl) :=
  Own.turnTo (a := []) (r' := refR p d) h.star (fun w S hs => ⟨(bc, vs), ⟨hl, hok⟩, hs⟩)
theorem lastSec_get (l : List Sec) : lastSec l = l.getD (l.length - 1) zeroSec := by
  unfold lastSec
  rw [List.getLastD_eq_getLast?, List.getLast?_eq_getElem?, List.getD_eq_getElem?_getD]
theorem Own.rowRange {opn : Nat → List Sec} {i n g cp q : Nat} (h : Own w0 w rs) (hk : rs[k]? = some (rowsR vs opn)) (hi : vs[i]? = some (.slice (some ⟨g, 0, none⟩) n cp)) (hl : ∀ s ∈ opn i, SecOk s) (hq : q < (opn i).length) : w.rangeAt g (q * 64) (secVals ((opn i).getD q zeroSec)) := by
  have hr := (h.rowOf hk hi).1
  have hn : n = (opn i).length := by
    obtain ⟨a, c, e⟩ := own_slice hr
    injection e
  subst hn
  exact many_range hl hr hq
/-- The row of a sector's open writes: where its last one, or any, lies. -/
theorem row_slice {w : World} {v : Value} {l : List Sec} (h : w.ownsRow 0 29 64 v l.length (manyVals l)) (hl : ∀ s ∈ l, SecOk s) : ∃ a cp, v = .slice a l.length cp ∧ (l ≠ [] → ∃ g, a = some ⟨g, 0, none⟩ ∧ ∀ i, i < l.length → w.rangeAt g (i * 64) (secVals (l.getD i zeroSec))) := by
  obtain ⟨a, cp, rfl⟩ := own_slice h
  refine ⟨a, cp, rfl, fun hne => ?_⟩
  obtain ⟨g, rfl⟩ := own_some h (List.length_pos_iff.2 hne)
  exact ⟨g, rfl, fun i hi => many_range hl h hi⟩
end
attribute [local irreducible] diskR blkR restR rowsR secVals SecOk refRow Own refCell gotVals
section
variable {w0 w : World} {rs : List Res} {p k : Nat} {d : Disk}
theorem Own.rread_ (h : Own w0 w rs) (hk : rs[k]? = some (refR p d)) (i : Int) : Calls Try.prog 21 #[.pointer (some ⟨p, 0, none⟩), .int .i64 i] w fun e w' =>
    e = .returned (.agg (gotVals (d.read i).1 (d.read i).2).toArray) ∧ Own w0 w' rs := by
  have hok := h.rokOf hk
  have HCK : Hid (∀ (w' : World) (rs' : List Res) (k' : Nat), Own w0 w' rs' → rs'[k']? = some (refR p d) → Calls Try.prog 51 #[.pointer (some ⟨p, 0, none⟩), .int .i64 i] w' fun e w'' => e = .returned (.int .i64 (d.check i)) ∧ w'' = w') := Lib.hid (fun w' rs' k' h' hk' => h'.rcheck_ hk' i)
  by_cases hc : d.check i = 0
  · obtain ⟨_, h0, h1⟩ := check_in hc
    obtain ⟨m, rfl⟩ := Int.eq_ofNat_of_zero_le h0
    have hm : m < d.cells.length := by omega
    rw [hc] at HCK
    have hr : d.read m = if d.opn m ≠ [] then (lastSec (d.opn m), 0) else if (d.cell m).bad = true then (zeroSec, 14) else ((d.cell m).s, 0) := by
      unfold Disk.read; rw [if_neg (by rw [hc]; simp), Int.toNat_natCast]
    have ho : Own w0 w [refR p d, restR rs (· = k)] := h.focus hk
    have hsame := list_set_same hk
    have HEND : Hid (∀ w', Own w0 w' [refR p d, restR rs (· = k)] → Own w0 w' rs) := Lib.hid (fun w' h' => by have := h'.back; rwa [hsame] at this)
    obtain ⟨r, hrr⟩ : ∃ r, r = d.read m := ⟨_, rfl⟩
    rw [← hrr] at hr ⊢
    have HOKD := Lib.hid hok
    have HM := Lib.hid hm
    have HRR := Lib.hid hr
    clear h hk hc hsame hr hrr hok hm h1 h0
    go_enter Try.func21, Try.ntmps21
    go_upto_region 4 with (first
      | (refine go_val_ex rfl (ho.xagot 4 rfl rfl) ?_; rintro v w1 ⟨b4, rfl, hq⟩; simp only [Act.put, List.setIfInBounds_toArray, List.set_cons_zero, List.set_cons_succ]; (try simp only [List.nil_append, List.cons_append, List.set_cons_zero, List.set_cons_succ] at hq); replace ho := hq; clear hq)
      | (go_at_call 51; refine (HCK.out _ _ 0 ho rfl).mono ?_; rintro e w' ⟨rfl, rfl⟩))
    have hok := HOKD.out
    have hm := HM.out
    obtain ⟨bc, vs, hl, -, hq⟩ := ho.openRef0
    obtain ⟨A, B, hA, hsp, hset⟩ := refSplit hok.sec hl hm
    have hcok : SecOk (d.cell m).s := hok.cell m
    rw [show d.cells.getD m zeroCell = d.cell m from rfl] at hsp
    have hvr := hq.rowOf (k := 2) (i := m) (v := vs.getD m (.slice none 0 0)) rfl (by rw [List.getD_eq_getElem?_getD, List.getElem?_eq_getElem (by omega)]; rfl)
    obtain ⟨a, cp, hv, hg⟩ := row_slice hvr.1 (hok.opnOk m)
    rw [hv] at hsp hvr
    have hmax := own_max hvr.1
    have hvi : vs[m]? = some (.slice a (d.opn m).length cp) := by rw [← hv, List.getD_eq_getElem?_getD, List.getElem?_eq_getElem (by omega)]; rfl
    have HEND2 : Hid (∀ w', Own w0 w' [blkR p (refObj bc d).toArray 107, blkR bc (A ++ refCell (d.cell m, .slice a (d.opn m).length cp) ++ B).toArray 110, rowsR vs d.opn, restR rs (· = k)] → Own w0 w' rs) := Lib.hid (fun w' h' => HEND.out _ (Own.shutRef0 (bc := bc) (vs := vs) (tl := [_]) (by unfold refL; rw [hsp]; exact h') hl hok))
    unfold refObj at HEND2
    have hn : ((d.opn m).length : Int) ≤ d.steps := hok.opnLen m
    have hno : d.opn m = [] ↔ (d.opn m).length = 0 := List.length_eq_zero_iff.symm
    have hlast := lastSec_get (d.opn m)
    have hlok := lastSec_ok (hok.opnOk m)
    simp only [refL, refObj, List.cons_append, List.nil_append] at hq
    rw [hsp] at hq
    clear ho
    have ho := hq
    have hsl := hok.len
    have HOPN := Lib.hid (hok.opnOk m)
    have HVI := Lib.hid hvi
    clear hq hvr hv hsp hset hl hok HOKD HEND HCK hvi
    have HR2 := HRR.out
    clear HRR HM
    obtain ⟨N, hN⟩ : ∃ N, N = d.cells.length := ⟨_, rfl⟩
    obtain ⟨n, hnn⟩ : ∃ n, n = (d.opn m).length := ⟨_, rfl⟩
    obtain ⟨c, hcc⟩ : ∃ c, c = d.cell m := ⟨_, rfl⟩
    rw [← hN] at ho hm hsl HEND2
    rw [← hnn] at ho hg hn hno hlast HVI HEND2 hmax
    rw [← hcc] at ho hcok HR2 HEND2
    clear hN hcc
    have hm' : (m : Int) < (N : Int) := by omega
    by_cases hno2 : n = 0
    · rw [if_neg (fun e => e (hno.2 hno2))] at HR2
      subst hno2
      clear hg hno hlast hn hnn HVI HOPN hmax
      cases hb : c.bad with
      | true =>
        rw [hb, if_pos rfl] at HR2
        have HR3 := Lib.hid HR2
        clear HR2
        go_wp2_with (first
          | (refine go_val rfl (ho.xlcells (k := 0) (j := 0) (x := .tmp 16) rfl rfl rfl rfl) ?_; simp only [Act.put, List.setIfInBounds_toArray, List.set_cons_zero, List.set_cons_succ])
          | (refine go_val rfl (ho.xrload (k := 1) (i := m) (x := .tmp 19) rfl hA hcok rfl rfl) ?_; simp only [Act.put, List.setIfInBounds_toArray, List.set_cons_zero, List.set_cons_succ])
          | (refine go_val_ex rfl (ho.xacell 6 rfl rfl) ?_; rintro v w1 ⟨b6, rfl, hq⟩; simp only [Act.put, List.setIfInBounds_toArray, List.set_cons_zero, List.set_cons_succ]; (try simp only [List.nil_append, List.cons_append, List.set_cons_zero, List.set_cons_succ] at hq); replace ho := hq; clear hq)
          | (refine go_skp_ex rfl (ho.xscell1 (k := 5) (x := .tmp 6) (y := .tmp 20) rfl zeroSec_ok hcok rfl rfl rfl rfl) ?_; rintro w1 hq; simp only [Act.put, List.setIfInBounds_toArray, List.set_cons_zero, List.set_cons_succ]; (try simp only [List.nil_append, List.cons_append, List.set_cons_zero, List.set_cons_succ] at hq); replace ho := hq; clear hq)
          | (refine go_val rfl (exl_ropen (x := .tmp 21) (rng0 ho (k := 5) rfl) hcok rfl rfl) ?_; simp only [Act.put, List.setIfInBounds_toArray, List.set_cons_zero, List.set_cons_succ])
          | (refine go_val rfl ((exl_rbad (x := .tmp 34) (rng0 ho (k := 5) rfl) hcok rfl rfl).trans (by rw [hb])) ?_; simp only [Act.put, List.setIfInBounds_toArray, List.set_cons_zero, List.set_cons_succ])
          | (refine go_val rfl (exb_got1 (x := .const (.int .i64 14)) rfl rfl) ?_; simp only [Act.put, List.setIfInBounds_toArray, List.set_cons_zero, List.set_cons_succ])
          | (refine go_skp_ex rfl (ho.xsgot (k := 4) (x := .tmp 4) (y := .tmp 36) rfl rfl rfl zeroSec_ok zeroSec_ok rfl) ?_; rintro w1 hq; simp only [Act.put, List.setIfInBounds_toArray, List.set_cons_zero, List.set_cons_succ]; (try simp only [List.nil_append, List.cons_append, List.set_cons_zero, List.set_cons_succ] at hq); replace ho := hq; clear hq))
        refine bodyPost_ret (results_got (s := zeroSec) rfl _ zeroSec_ok rfl (rng0 ho (k := 4) rfl)) rfl ⟨by rw [HR3.out], HEND2.out _ (ho.pick [0, 1, 2, 3] (by decide) rfl)⟩
      | false =>
        rw [hb, if_neg (by simp)] at HR2
        have HR3 := Lib.hid HR2
        clear HR2
        go_wp2_with (first
          | (refine go_val rfl (ho.xlcells (k := 0) (j := 0) (x := .tmp 16) rfl rfl rfl rfl) ?_; simp only [Act.put, List.setIfInBounds_toArray, List.set_cons_zero, List.set_cons_succ])
          | (refine go_val rfl (ho.xrload (k := 1) (i := m) (x := .tmp 19) rfl hA hcok rfl rfl) ?_; simp only [Act.put, List.setIfInBounds_toArray, List.set_cons_zero, List.set_cons_succ])
          | (refine go_val_ex rfl (ho.xacell 6 rfl rfl) ?_; rintro v w1 ⟨b6, rfl, hq⟩; simp only [Act.put, List.setIfInBounds_toArray, List.set_cons_zero, List.set_cons_succ]; (try simp only [List.nil_append, List.cons_append, List.set_cons_zero, List.set_cons_succ] at hq); replace ho := hq; clear hq)
          | (refine go_skp_ex rfl (ho.xscell1 (k := 5) (x := .tmp 6) (y := .tmp 20) rfl zeroSec_ok hcok rfl rfl rfl rfl) ?_; rintro w1 hq; simp only [Act.put, List.setIfInBounds_toArray, List.set_cons_zero, List.set_cons_succ]; (try simp only [List.nil_append, List.cons_append, List.set_cons_zero, List.set_cons_succ] at hq); replace ho := hq; clear hq)
          | (refine go_val rfl (exl_ropen (x := .tmp 21) (rng0 ho (k := 5) rfl) hcok rfl rfl) ?_; simp only [Act.put, List.setIfInBounds_toArray, List.set_cons_zero, List.set_cons_succ])
          | (refine go_val rfl ((exl_rbad (x := .tmp 34) (rng0 ho (k := 5) rfl) hcok rfl rfl).trans (by rw [hb])) ?_; simp only [Act.put, List.setIfInBounds_toArray, List.set_cons_zero, List.set_cons_succ])
          | (refine go_val rfl (exl_rsec (x := .tmp 37) (rng0 ho (k := 5) rfl) hcok rfl rfl) ?_; simp only [Act.put, List.setIfInBounds_toArray, List.set_cons_zero, List.set_cons_succ])
          | (refine go_val rfl (exb_got0 (s := c.s) (x := .tmp 38) rfl hcok rfl) ?_; simp only [Act.put, List.setIfInBounds_toArray, List.set_cons_zero, List.set_cons_succ])
          | (refine go_skp_ex rfl (ho.xsgot (k := 4) (x := .tmp 4) (y := .tmp 39) rfl rfl rfl zeroSec_ok hcok rfl) ?_; rintro w1 hq; simp only [Act.put, List.setIfInBounds_toArray, List.set_cons_zero, List.set_cons_succ]; (try simp only [List.nil_append, List.cons_append, List.set_cons_zero, List.set_cons_succ] at hq); replace ho := hq; clear hq))
        refine bodyPost_ret (results_got (s := c.s) rfl _ hcok rfl (rng0 ho (k := 4) rfl)) rfl ⟨by rw [HR3.out], HEND2.out _ (ho.pick [0, 1, 2, 3] (by decide) rfl)⟩
    · obtain ⟨g, rfl, -⟩ := hg (fun e => hno2 (hno.1 e))
      rw [if_pos (fun e => hno2 (hno.1 e))] at HR2
      obtain ⟨ls, hls⟩ : ∃ ls, ls = lastSec (d.opn m) := ⟨_, rfl⟩
      rw [← hls] at hlast hlok HR2
      have HR3 := Lib.hid HR2
      have HLA := Lib.hid hlast
      have HNN := Lib.hid hnn
      have hn0 : 0 < (n : Int) := by omega
      clear HR2 hlast hls hno hno2 hnn hg
      obtain ⟨n, rfl⟩ : ∃ n', n = n' + 1 := ⟨n - 1, by omega⟩
      rw [Nat.add_sub_cancel] at HLA
      go_upto_region 6 with (first
        | (refine go_val rfl (ho.xlcells (k := 0) (j := 0) (x := .tmp 16) rfl rfl rfl rfl) ?_; simp only [Act.put, List.setIfInBounds_toArray, List.set_cons_zero, List.set_cons_succ])
        | (refine go_val rfl (ho.xrload (k := 1) (i := m) (x := .tmp 19) rfl hA hcok rfl rfl) ?_; simp only [Act.put, List.setIfInBounds_toArray, List.set_cons_zero, List.set_cons_succ])
        | (refine go_val_ex rfl (ho.xacell 6 rfl rfl) ?_; rintro v w1 ⟨b6, rfl, hq⟩; simp only [Act.put, List.setIfInBounds_toArray, List.set_cons_zero, List.set_cons_succ]; (try simp only [List.nil_append, List.cons_append, List.set_cons_zero, List.set_cons_succ] at hq); replace ho := hq; clear hq)
        | (refine go_skp_ex rfl (ho.xscell1 (k := 5) (x := .tmp 6) (y := .tmp 20) rfl zeroSec_ok hcok rfl rfl rfl rfl) ?_; rintro w1 hq; simp only [Act.put, List.setIfInBounds_toArray, List.set_cons_zero, List.set_cons_succ]; (try simp only [List.nil_append, List.cons_append, List.set_cons_zero, List.set_cons_succ] at hq); replace ho := hq; clear hq)
        | (refine go_val rfl (exl_ropen (x := .tmp 21) (rng0 ho (k := 5) rfl) hcok rfl rfl) ?_; simp only [Act.put, List.setIfInBounds_toArray, List.set_cons_zero, List.set_cons_succ]))
      have HRG : Hid (w1.rangeAt g (n * 64) (secVals ls)) := Lib.hid (by rw [HLA.out]; exact ho.rowRange (k := 2) rfl HVI.out HOPN.out (by have := HNN.out; omega))
      go_wp2_with (first
        | (refine go_val rfl (exl_ropen (x := .tmp 25) (rng0 ho (k := 5) rfl) hcok rfl rfl) ?_; simp only [Act.put, List.setIfInBounds_toArray, List.set_cons_zero, List.set_cons_succ])
        | (refine go_val rfl (exl_ropen (x := .tmp 27) (rng0 ho (k := 5) rfl) hcok rfl rfl) ?_; simp only [Act.put, List.setIfInBounds_toArray, List.set_cons_zero, List.set_cons_succ])
        | (refine go_val rfl (exl_sec (s := ls) (x := .tmp 31) (b := g) (k := n * 64) rfl rfl hlok HRG.out) ?_; simp only [Act.put, List.setIfInBounds_toArray, List.set_cons_zero, List.set_cons_succ])
        | (refine go_val rfl (exb_got0 (s := ls) (x := .tmp 32) rfl hlok rfl) ?_; simp only [Act.put, List.setIfInBounds_toArray, List.set_cons_zero, List.set_cons_succ])
        | (refine go_skp_ex rfl (ho.xsgot (k := 4) (x := .tmp 4) (y := .tmp 33) rfl rfl rfl zeroSec_ok hlok rfl) ?_; rintro w1 hq; simp only [Act.put, List.setIfInBounds_toArray, List.set_cons_zero, List.set_cons_succ]; (try simp only [List.nil_append, List.cons_append, List.set_cons_zero, List.set_cons_succ] at hq); replace ho := hq; clear hq))
      refine bodyPost_ret (results_got (s := ls) rfl _ hlok rfl (rng0 ho (k := 4) rfl)) rfl ⟨by rw [HR3.out], HEND2.out _ (ho.pick [0, 1, 2, 3] (by decide) rfl)⟩
  · obtain ⟨e, he⟩ : ∃ e, e = d.check i := ⟨_, rfl⟩
    have hr : d.read i = (zeroSec, e) := by unfold Disk.read; rw [if_pos hc, he]
    rw [hr]
    rw [← he] at hc HCK
    have hb : (e != 0) = true := by simp [hc]
    have ho : Own w0 w [refR p d, restR rs (· = k)] := h.focus hk
    have hsame := list_set_same hk
    have HEND : Hid (∀ w', Own w0 w' [refR p d, restR rs (· = k)] → Own w0 w' rs) := Lib.hid (fun w' h' => by have := h'.back; rwa [hsame] at this)
    clear h hk hr he hc hok hsame
    go_enter Try.func21, Try.ntmps21
    go_wp2_with (first
      | (refine go_val_ex rfl (ho.xagot 4 rfl rfl) ?_; rintro v w1 ⟨b4, rfl, hq⟩; simp only [Act.put, List.setIfInBounds_toArray, List.set_cons_zero, List.set_cons_succ]; (try simp only [List.nil_append, List.cons_append, List.set_cons_zero, List.set_cons_succ] at hq); replace ho := hq; clear hq)
      | (go_at_call 51; refine (HCK.out _ _ 0 ho rfl).mono ?_; rintro e w' ⟨rfl, rfl⟩)
      | (refine go_val rfl (exb_got1 (x := .tmp 12) rfl rfl) ?_; simp only [Act.put, List.setIfInBounds_toArray, List.set_cons_zero, List.set_cons_succ])
      | (refine go_skp_ex rfl (ho.xsgot (k := 2) (x := .tmp 4) (y := .tmp 13) rfl rfl rfl zeroSec_ok zeroSec_ok rfl) ?_; rintro w1 hq; simp only [Act.put, List.setIfInBounds_toArray, List.set_cons_zero, List.set_cons_succ]; (try simp only [List.nil_append, List.cons_append, List.set_cons_zero, List.set_cons_succ] at hq); replace ho := hq; clear hq))
    refine bodyPost_ret (results_got (s := zeroSec) rfl _ zeroSec_ok rfl (rng0 ho (k := 2) rfl)) rfl ⟨rfl, HEND.out _ (ho.pick [0, 1] (by decide) rfl)⟩
end
end Go.Proofs.Ytcaalfpfkalalaa
