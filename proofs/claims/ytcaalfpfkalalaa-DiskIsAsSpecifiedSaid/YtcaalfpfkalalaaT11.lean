/- The specification's disk: kept. -/
import Derived.Test.YtcaalfpfkalalaaT10
set_option linter.unusedVariables false
set_option linter.unusedSimpArgs false
set_option maxRecDepth 10000
set_option maxHeartbeats 8000000
namespace Go.Proofs.Ytcaalfpfkalalaa
open Go.RowKit Qd
open Go.Proofs.YtcaalfpfkalalaaW.PrintLast
/-- Numbers put into a sector from a place on. -/
def secAt (s : Sec) (o : Nat) (v : Int) : Sec := s.set o v
def mixTo (a b : Sec) (k : Nat) : Sec := b.take 32 ++ (a.drop 32).take (k - 32) ++ b.drop k
theorem w64_near {n : Nat} (hp : 0 < n) (h : n < 1099511627776) : wrap64 ((n : Int) - 1) = (n : Int) - 1 ∧ wrap64 ((n : Int) - 2) = (n : Int) - 2 ∧ wrap64 ((n : Int) + 1) = (n : Int) + 1 ∧ ((n : Int) - 1).toNat < n ∧
    0 ≤ (n : Int) - 1 ∧ (n : Int) - 1 < n ∧ (n : Int) - 2 < n ∧ (1 < (n : Int) → 0 ≤ (n : Int) - 2) := by
  refine ⟨?_, ?_, ?_, ?_, ?_, ?_, ?_, ?_⟩ <;> (try unfold wrap64) <;> omega
theorem w64_two {n : Nat} (h : 1 < (n : Int)) : n - 2 < n := by omega
theorem toNat_less (n : Nat) : ((n : Int) - 1).toNat = n - 1 ∧ ((n : Int) - 2).toNat = n - 2 := by omega
theorem less_one {n : Nat} (h : 0 < n) : n - 1 < n := by omega
theorem mixTo_start {a b : Sec} (hb : SecOk b) : mixTo a b 32 = b := by
  unfold mixTo
  rw [Nat.sub_self, List.take_zero, List.append_nil, List.take_append_drop]
theorem mixTo_end {a b : Sec} (ha : SecOk a) (hb : SecOk b) : mixTo a b 64 = torn a b := by
  unfold mixTo torn
  rw [show b.drop 64 = [] from List.drop_eq_nil_of_le (by rw [hb.1]; omega), List.append_nil, show (a.drop 32).take (64 - 32) = a.drop 32 from List.take_of_length_le (by rw [List.length_drop, ha.1]; omega)]
theorem mixTo_step {a b : Sec} (ha : SecOk a) (hb : SecOk b) {k : Nat} (h1 : 32 ≤ k) (h2 : k < 64) : (mixTo a b k).set k (a.getD k 0) = mixTo a b (k + 1) := by
  have hbl := hb.1
  have hal := ha.1
  have hP : (b.take 32 ++ (a.drop 32).take (k - 32)).length = k := by simp; omega
  have e1 : b.drop k = b[k] :: b.drop (k + 1) := List.drop_eq_getElem_cons (by omega)
  have e2 : (a.drop 32).take (k + 1 - 32) = (a.drop 32).take (k - 32) ++ [a.getD k 0] := by
    rw [show k + 1 - 32 = (k - 32) + 1 by omega, List.take_add_one, List.getElem?_drop, show 32 + (k - 32) = k by omega, List.getElem?_eq_getElem (by omega), List.getD_eq_getElem?_getD, List.getElem?_eq_getElem (by omega)]
    rfl
  unfold mixTo
  rw [e1, List.set_append_right _ _ (by omega), hP, Nat.sub_self, List.set_cons_zero, e2]
  simp [List.append_assoc]
theorem mixTo_ok {a b : Sec} (ha : SecOk a) (hb : SecOk b) {k : Nat} (h1 : 32 ≤ k) (h2 : k ≤ 64) : SecOk (mixTo a b k) := by
  refine ⟨by simp [mixTo, ha.1, hb.1]; omega, fun x hx => ?_⟩
  unfold mixTo at hx
  rcases List.mem_append.1 hx with hx | hx
  · rcases List.mem_append.1 hx with hx | hx
    · exact hb.2 x (List.mem_of_mem_take hx)
    · exact ha.2 x (List.mem_of_mem_drop (List.mem_of_mem_take hx))
  · exact hb.2 x (List.mem_of_mem_drop hx)
section
variable {w0 w : World} {rs : List Res} {p k : Nat} {d : Disk} {o : Oper} {ρ : Operand → Value} {x y : Operand}
theorem exb_rcell1 (ho : o.op = .build 110 #[(1, x)]) (hx : ρ x = .bool true) : (execOp ρ o).run Try.prog w = .ok (.value (.agg (refCell (rotCell, .slice none 0 0)).toArray)) w := by
  have h : Try.prog.built 110 [(1, .bool true)] = some (refCell (rotCell, .slice none 0 0)).toArray := by kernel_rfl
  exact ex_build ho hx h
theorem exb_rcell01 (ho : o.op = .build 110 #[(0, x), (1, y)]) {c : Qd.Cell} (hs : SecOk c.s) (hx : ρ x = .agg (secVals c.s).toArray) (hy : ρ y = .bool c.bad) : (execOp ρ o).run Try.prog w = .ok (.value (.agg (refCell (c, .slice none 0 0)).toArray)) w := by
  have h : ∀ u v, Try.prog.built 110 [(0, u), (1, v)] = Instr.fill (#[(0, 64), (64, 1), (65, 1)][·]?) (refCell (zeroCell, .slice none 0 0)).toArray [(0, u), (1, v)] := fun u v => by kernel_rfl
  have hb : Try.prog.built 110 [(0, .agg (secVals c.s).toArray), (1, .bool c.bad)] = some (refCell (c, .slice none 0 0)).toArray := by
    rw [h, fill_cons, fill_one (off := 0) (size := 64) rfl (by simp [Value.cells, sec64 hs]) (by rw [List.size_toArray, refCell_len (c := zeroCell) zeroSec_ok]; omega), Option.bind_some]
    have e : ((refCell (zeroCell, .slice none 0 0)).toArray).toList.drop (0 + 64) = [.bool false, .slice none 0 0] := by rfl
    rw [e, fill_one (off := 64) (size := 1) rfl (by simp [Value.cells]) (by simp [Value.cells, sec64 hs])]
    simp [Value.cells, refCell, cellVals, sec64 hs, List.take_append, List.drop_append]
  have := run_build (P := Try.prog) w 110 #[(0, .agg (secVals c.s).toArray), (1, .bool c.bad)] _ hb
  unfold execOp
  simp only [ho, List.map_toArray, List.map_cons, List.map_nil, hx, hy, Sem.run_bind, this, Result.andThen_ok, Sem.run_pure]
theorem results_rcell {fn : Func} {q b : Nat} (h : fn.results = #[.cell q 110]) (tmps : Array Value) {c : Qd.Cell} {v : Value} (hs : SecOk c.s) (hp : tmps.getD q undef = .pointer (some ⟨b, 0, none⟩)) (hr : w.rangeAt b 0 (refCell (c, v))) :
    (results fn tmps).run Try.prog w = .ok (.agg (refCell (c, v)).toArray) w := by
  obtain ⟨dd, hu, hd⟩ := uRefCell
  have := run_loadVar_mid (P := Try.prog) w b 0 110 (refCell (c, v)) _ hr hu hd (by rw [refCell_len hs]; exact sRefCell)
  have hp' : tmps[q]?.getD undef = .pointer (some ⟨b, 0, none⟩) := by simpa using hp
  simp [results, h, hp', asAddr, this]
theorem Own.xsecbyte {b j : Nat} {u : Int} {s : Sec} {t : TypeId} (h : Own w0 w rs) (hk : rs[k]? = some (blkR b (secVals s).toArray t)) (ho : o.op = .store 5 x y) (hx : ρ x = .pointer (some ⟨b, j, none⟩)) (hy : ρ y = .int .u8 u) (hs : SecOk s) (hj : j < 64) :
    ∃ w1, (execOp ρ o).run Try.prog w = .ok .skip w1 ∧ Own w0 w1 (rs.set k (blkR b (secVals (s.set j u)).toArray t)) := by
  have hj' : j < (secVals s).length := by rw [sec64 hs]; exact hj
  have e : secVals (s.set j u) = (secVals s).set j (.int .u8 u) := by simp [secVals, List.map_set]
  rw [e]
  exact ⟨_, ex_store_byte ho hx hy (c := (secVals s)[j]) (by rw [h.cellOf hk, List.getElem?_eq_getElem hj']) ((h.blk hk).1.frozen j), h.set1 hk hj'⟩
theorem Own.xlsecbyte {b j : Nat} {s : Sec} {t : TypeId} (h : Own w0 w rs) (hk : rs[k]? = some (blkR b (secVals s).toArray t)) (ho : o.op = .load 5 x) (hx : ρ x = .pointer (some ⟨b, j, none⟩)) (hs : SecOk s) (hj : j < 64) :
    (execOp ρ o).run Try.prog w = .ok (.value (.int .u8 (s.getD j 0))) w :=
  exl_byte ho hx (by rw [h.cellOf hk]; unfold secVals; rw [List.getElem?_map, (sec_byte hs hj).1]; rfl)
end
attribute [local irreducible] diskR blkR restR rowsR secVals SecOk refRow Own refCell gotVals mixTo
section
variable {w : World} {l : List Sec} {c : Qd.Cell} {x : Int}
theorem rkept_calls {g n cp : Nat} (hr : ∀ q, q < n → w.rangeAt g (q * 64) (secVals (l.getD q zeroSec))) (hl : ∀ s ∈ l, SecOk s) (hne : l ≠ []) (hn : n = l.length) (hlen : n < 1099511627776) (hc : SecOk c.s) (hb : c.bad = true → c.s = zeroSec)
    (hx0 : -9223372036854775808 ≤ x) (hx1 : x ≤ 9223372036854775807) :
    Calls Try.prog 59 #[.agg (refCell (c, .slice (some ⟨g, 0, none⟩) n cp)).toArray, .int .i64 x] w fun e w' =>
      e = .returned (.agg (refCell (found c l x, .slice none 0 0)).toArray) ∧ Nw w w' := by
  have ho := Own.start w
  have hbd := found_bounds l.length x
  have hpos : 0 < l.length := List.length_pos_iff.2 hne
  rw [← hn] at hbd hpos
  have HL := Lib.hid hl
  have HRNG : Hid (∀ (W : World), Nw w W → ∀ q, q < n → W.rangeAt g (q * 64) (secVals (l.getD q zeroSec))) := Lib.hid (fun W hh q hq => range_of_nw (hr q hq) hh)
  obtain ⟨r', hrr'⟩ : ∃ r, r = found c l x := ⟨_, rfl⟩
  rw [← hrr']
  unfold found at hrr'
  dsimp only at hrr'
  rw [← hn] at hrr'
  generalize ht : x.tmod ((n : Int) + 3) = t at *
  have hr0 : 0 ≤ (t + n + 3).tmod ((n : Int) + 3) := Int.tmod_nonneg _ (by omega)
  obtain ⟨r, hrr⟩ := Int.eq_ofNat_of_zero_le hr0
  have hr1 : (r : Int) < (n : Int) + 3 := by rw [← hrr]; exact Int.tmod_lt_of_pos _ (by omega)
  have hw1 : wrap64 ((n : Int) + 3) = (n : Int) + 3 := by unfold wrap64; omega
  have hw2 : wrap64 (t + (n : Int)) = t + n := by unfold wrap64; omega
  have hw3 : wrap64 (t + (n : Int) + 3) = t + n + 3 := by unfold wrap64; omega
  simp only [hrr] at hrr'
  clear hl hn hr0 hne hr
  by_cases h0 : r = 0
  · subst h0
    rw [if_pos (by rfl)] at hrr'
    have HR := Lib.hid hrr'
    clear hrr'
    go_enter Try.func59, Try.ntmps59
    go_wp2_with (first
      | (refine go_val_ex rfl (ho.xbox 2 rfl rfl (cs := refCell (c, .slice (some ⟨g, 0, none⟩) n cp)) rfl) ?_; rintro v w1 ⟨b2, rfl, hq⟩; simp only [Act.put, List.setIfInBounds_toArray, List.set_cons_zero, List.set_cons_succ]; (try simp only [List.nil_append, List.cons_append, List.set_cons_zero, List.set_cons_succ] at hq); replace ho := hq; clear hq)
      | (refine go_val_ex rfl (ho.xacell 4 rfl rfl) ?_; rintro v w1 ⟨b4, rfl, hq⟩; simp only [Act.put, List.setIfInBounds_toArray, List.set_cons_zero, List.set_cons_succ]; (try simp only [List.nil_append, List.cons_append, List.set_cons_zero, List.set_cons_succ] at hq); replace ho := hq; clear hq)
      | (refine go_val rfl (exl_ropen (x := .tmp 10) (rng0 ho (k := 0) rfl) hc rfl rfl) ?_; simp only [Act.put, List.setIfInBounds_toArray, List.set_cons_zero, List.set_cons_succ])
      | (refine go_val rfl (exl_rsec (x := .tmp 25) (rng0 ho (k := 0) rfl) hc rfl rfl) ?_; simp only [Act.put, List.setIfInBounds_toArray, List.set_cons_zero, List.set_cons_succ])
      | (refine go_val rfl (exl_rbad (x := .tmp 27) (rng0 ho (k := 0) rfl) hc rfl rfl) ?_; simp only [Act.put, List.setIfInBounds_toArray, List.set_cons_zero, List.set_cons_succ])
      | (refine go_val rfl (exb_rcell01 (c := c) rfl hc rfl rfl) ?_; simp only [Act.put, List.setIfInBounds_toArray, List.set_cons_zero, List.set_cons_succ])
      | (refine go_skp_ex rfl (ho.xscell1 (k := 1) (c' := c) (v' := .slice none 0 0) (x := .tmp 4) (y := .tmp 29) rfl zeroSec_ok hc rfl rfl rfl rfl) ?_; rintro w1 hq; simp only [Act.put, List.setIfInBounds_toArray, List.set_cons_zero, List.set_cons_succ]; (try simp only [List.nil_append, List.cons_append, List.set_cons_zero, List.set_cons_succ] at hq); replace ho := hq; clear hq))
    refine bodyPost_ret (results_rcell (c := c) rfl _ hc rfl (rng0 ho (k := 1) rfl)) rfl ⟨by rw [HR.out], ho.nw0⟩
  · rw [if_neg (by omega)] at hrr'
    by_cases h1 : r ≤ n
    · obtain ⟨q, rfl⟩ : ∃ q, r = q + 1 := ⟨r - 1, by omega⟩
      rw [if_pos (by omega), show ((q + 1 : Nat) : Int) - 1 = (q : Int) from by omega, Int.toNat_natCast] at hrr'
      have hs := getD_ok HL.out q
      have HQ := Lib.hid (fun W hh => HRNG.out W hh q (by omega))
      have e0 : ((q + 1 : Nat) : Int) = (q : Int) + 1 := by omega
      have e1 : wrap64 (((q : Int) + 1) - 1) = (q : Int) := by unfold wrap64; omega
      have e2 : (0 : Int) ≤ q := by omega
      have e3 : (q : Int) < n := by omega
      generalize l.getD q zeroSec = ls at *
      rw [e0] at hrr
      have HR := Lib.hid hrr'
      clear e0 h0 h1 hr1 hrr' HRNG
      go_enter Try.func59, Try.ntmps59
      go_wp2_with (first
        | (refine go_val_ex rfl (ho.xbox 2 rfl rfl (cs := refCell (c, .slice (some ⟨g, 0, none⟩) n cp)) rfl) ?_; rintro v w1 ⟨b2, rfl, hq⟩; simp only [Act.put, List.setIfInBounds_toArray, List.set_cons_zero, List.set_cons_succ]; (try simp only [List.nil_append, List.cons_append, List.set_cons_zero, List.set_cons_succ] at hq); replace ho := hq; clear hq)
        | (refine go_val_ex rfl (ho.xacell 4 rfl rfl) ?_; rintro v w1 ⟨b4, rfl, hq⟩; simp only [Act.put, List.setIfInBounds_toArray, List.set_cons_zero, List.set_cons_succ]; (try simp only [List.nil_append, List.cons_append, List.set_cons_zero, List.set_cons_succ] at hq); replace ho := hq; clear hq)
        | (refine go_val rfl (exl_ropen (x := .tmp 10) (rng0 ho (k := 0) rfl) hc rfl rfl) ?_; simp only [Act.put, List.setIfInBounds_toArray, List.set_cons_zero, List.set_cons_succ])
        | (refine go_val rfl (exl_ropen (x := .tmp 33) (rng0 ho (k := 0) rfl) hc rfl rfl) ?_; simp only [Act.put, List.setIfInBounds_toArray, List.set_cons_zero, List.set_cons_succ])
        | (refine go_val rfl (exl_sec (s := ls) (x := .tmp 37) (b := g) (k := q * 64) rfl rfl hs (HQ.out _ ho.nw0)) ?_; simp only [Act.put, List.setIfInBounds_toArray, List.set_cons_zero, List.set_cons_succ])
        | (refine go_val rfl (exb_rcell0 (s := ls) rfl hs rfl) ?_; simp only [Act.put, List.setIfInBounds_toArray, List.set_cons_zero, List.set_cons_succ])
        | (refine go_skp_ex rfl (ho.xscell1 (k := 1) (c' := ⟨ls, false⟩) (v' := .slice none 0 0) (x := .tmp 4) (y := .tmp 39) rfl zeroSec_ok hs rfl rfl rfl rfl) ?_; rintro w1 hq; simp only [Act.put, List.setIfInBounds_toArray, List.set_cons_zero, List.set_cons_succ]; (try simp only [List.nil_append, List.cons_append, List.set_cons_zero, List.set_cons_succ] at hq); replace ho := hq; clear hq))
      refine bodyPost_ret (results_rcell (c := ⟨ls, false⟩) rfl _ hs rfl (rng0 ho (k := 1) rfl)) rfl ⟨by rw [HR.out], ho.nw0⟩
    · rw [if_neg (by omega)] at hrr'
      by_cases h2 : r = n + 1
      · subst h2
        rw [if_pos (by omega)] at hrr'
        have e0 : ((n + 1 : Nat) : Int) = (n : Int) + 1 := by omega
        have e1 : wrap64 ((n : Int) + 1) = (n : Int) + 1 := by unfold wrap64; omega
        rw [e0] at hrr
        have HR := Lib.hid hrr'
        clear e0 h0 h1 hr1 hrr' HRNG
        go_enter Try.func59, Try.ntmps59
        go_wp2_with (first
          | (refine go_val_ex rfl (ho.xbox 2 rfl rfl (cs := refCell (c, .slice (some ⟨g, 0, none⟩) n cp)) rfl) ?_; rintro v w1 ⟨b2, rfl, hq⟩; simp only [Act.put, List.setIfInBounds_toArray, List.set_cons_zero, List.set_cons_succ]; (try simp only [List.nil_append, List.cons_append, List.set_cons_zero, List.set_cons_succ] at hq); replace ho := hq; clear hq)
          | (refine go_val_ex rfl (ho.xacell 4 rfl rfl) ?_; rintro v w1 ⟨b4, rfl, hq⟩; simp only [Act.put, List.setIfInBounds_toArray, List.set_cons_zero, List.set_cons_succ]; (try simp only [List.nil_append, List.cons_append, List.set_cons_zero, List.set_cons_succ] at hq); replace ho := hq; clear hq)
          | (refine go_val rfl (exl_ropen (x := .tmp 10) (rng0 ho (k := 0) rfl) hc rfl rfl) ?_; simp only [Act.put, List.setIfInBounds_toArray, List.set_cons_zero, List.set_cons_succ])
          | (refine go_val rfl (exb_rcell1 rfl rfl) ?_; simp only [Act.put, List.setIfInBounds_toArray, List.set_cons_zero, List.set_cons_succ])
          | (refine go_skp_ex rfl (ho.xscell1 (k := 1) (c' := rotCell) (v' := .slice none 0 0) (x := .tmp 4) (y := .tmp 44) rfl zeroSec_ok zeroSec_ok rfl rfl rfl rfl) ?_; rintro w1 hq; simp only [Act.put, List.setIfInBounds_toArray, List.set_cons_zero, List.set_cons_succ]; (try simp only [List.nil_append, List.cons_append, List.set_cons_zero, List.set_cons_succ] at hq); replace ho := hq; clear hq))
        refine bodyPost_ret (results_rcell (c := rotCell) rfl _ zeroSec_ok rfl (rng0 ho (k := 1) rfl)) rfl ⟨by rw [HR.out], ho.nw0⟩
      · rw [if_neg (by omega)] at hrr'
        have h3 : r = n + 2 := by omega
        subst h3
        rw [(toNat_less n).1, (toNat_less n).2] at hrr'
        obtain ⟨bf, hbf⟩ : ∃ bf, bf = (if 1 < (n : Int) then l.getD (n - 2) zeroSec else c.s) := ⟨_, rfl⟩
        rw [← hbf] at hrr'
        have hbo : SecOk bf := by rw [hbf]; split; exact getD_ok HL.out _; exact hc
        have e0 : ((n + 2 : Nat) : Int) = (n : Int) + 2 := by omega
        have HNE := Lib.hid (w64_near hpos hlen)
        rw [e0] at hrr
        have hls := getD_ok HL.out (n - 1)
        have HQ := Lib.hid (fun W hh => HRNG.out W hh (n - 1) (less_one hpos))
        obtain ⟨ls, hlsd⟩ : ∃ ls, ls = l.getD (n - 1) zeroSec := ⟨_, rfl⟩
        rw [← hlsd] at hls hrr' HQ
        obtain ⟨tn, htn⟩ : ∃ tn, tn = torn bf ls := ⟨_, rfl⟩
        rw [← htn] at hrr'
        have hto : SecOk tn := by rw [htn]; exact Disk.torn_ok hbo hls
        have HTN := Lib.hid htn
        have HR := Lib.hid hrr'
        have HBD := Lib.hid hb
        have q1 := HNE.out.2.2.2.2.1
        have q2 := HNE.out.2.2.2.2.2.1
        have q3 := HNE.out.2.2.2.2.2.2.1
        clear h0 h1 h2 hr1 e0 htn hlsd hrr' hb
        by_cases hm1 : 1 < (n : Int)
        · rw [if_pos hm1] at hbf
          have q4 : 0 ≤ (n : Int) - 2 := HNE.out.2.2.2.2.2.2.2 hm1
          have HQ2 := Lib.hid (fun W hh => HRNG.out W hh (n - 2) (w64_two hm1))
          rw [← hbf] at HQ2
          obtain ⟨e1, e2, e3, -⟩ := HNE.out
          clear hbf HRNG HNE
          cases hbad : c.bad with
          | true =>
            have HM1 := Lib.hid hm1
            have HQ4 := Lib.hid q4
            have HE2 := Lib.hid e2
            clear hm1 q4 e2
            go_enter Try.func59, Try.ntmps59
            go_upto_region 12 with (first
              | (refine go_val_ex rfl (ho.xbox 2 rfl rfl (cs := refCell (c, .slice (some ⟨g, 0, none⟩) n cp)) rfl) ?_; rintro v w1 ⟨b2, rfl, hq⟩; simp only [Act.put, List.setIfInBounds_toArray, List.set_cons_zero, List.set_cons_succ]; (try simp only [List.nil_append, List.cons_append, List.set_cons_zero, List.set_cons_succ] at hq); replace ho := hq; clear hq)
              | (refine go_val_ex rfl (ho.xacell 4 rfl rfl) ?_; rintro v w1 ⟨b4, rfl, hq⟩; simp only [Act.put, List.setIfInBounds_toArray, List.set_cons_zero, List.set_cons_succ]; (try simp only [List.nil_append, List.cons_append, List.set_cons_zero, List.set_cons_succ] at hq); replace ho := hq; clear hq)
              | (refine go_val_ex rfl (ho.xallocAt 7 rfl rfl) ?_; rintro v w1 ⟨b7, rfl, hq⟩; simp only [Act.put, List.setIfInBounds_toArray, List.set_cons_zero, List.set_cons_succ]; (try simp only [List.nil_append, List.cons_append, List.set_cons_zero, List.set_cons_succ] at hq); replace ho := hq; clear hq)
              | (refine go_val_ex rfl (ho.xallocAt 8 rfl rfl) ?_; rintro v w1 ⟨b8, rfl, hq⟩; simp only [Act.put, List.setIfInBounds_toArray, List.set_cons_zero, List.set_cons_succ]; (try simp only [List.nil_append, List.cons_append, List.set_cons_zero, List.set_cons_succ] at hq); replace ho := hq; clear hq)
              | (refine go_val rfl (exl_ropen (x := .tmp 10) (rng0 ho (k := 0) rfl) hc rfl rfl) ?_; simp only [Act.put, List.setIfInBounds_toArray, List.set_cons_zero, List.set_cons_succ])
              | (refine go_val rfl (exl_ropen (x := .tmp 52) (rng0 ho (k := 0) rfl) hc rfl rfl) ?_; simp only [Act.put, List.setIfInBounds_toArray, List.set_cons_zero, List.set_cons_succ])
              | (refine go_val rfl (exl_ropen (x := .tmp 58) (rng0 ho (k := 0) rfl) hc rfl rfl) ?_; simp only [Act.put, List.setIfInBounds_toArray, List.set_cons_zero, List.set_cons_succ])
              | (refine go_val rfl ((exl_rbad (x := .tmp 45) (rng0 ho (k := 0) rfl) hc rfl rfl).trans (by rw [hbad])) ?_; simp only [Act.put, List.setIfInBounds_toArray, List.set_cons_zero, List.set_cons_succ])
              | (refine go_val rfl (exl_sec (s := bf) (x := .tmp 56) (b := g) (k := (n - 2) * 64) rfl rfl hbo (HQ2.out _ ho.nw0)) ?_; simp only [Act.put, List.setIfInBounds_toArray, List.set_cons_zero, List.set_cons_succ])
              | (refine go_skp_ex rfl (ho.xstore (k := 2) (s' := bf) (x := .tmp 7) (y := .tmp 57) rfl rfl rfl zeroSec_ok hbo rfl) ?_; rintro w1 hq; simp only [Act.put, List.setIfInBounds_toArray, List.set_cons_zero, List.set_cons_succ]; (try simp only [List.nil_append, List.cons_append, List.set_cons_zero, List.set_cons_succ] at hq); replace ho := hq; clear hq)
              | (refine go_val rfl (exl_sec (s := ls) (x := .tmp 62) (b := g) (k := (n - 1) * 64) rfl rfl hls (HQ.out _ ho.nw0)) ?_; simp only [Act.put, List.setIfInBounds_toArray, List.set_cons_zero, List.set_cons_succ])
              | (refine go_skp_ex rfl (ho.xstore (k := 3) (s' := ls) (x := .tmp 8) (y := .tmp 63) rfl rfl rfl zeroSec_ok hls rfl) ?_; rintro w1 hq; simp only [Act.put, List.setIfInBounds_toArray, List.set_cons_zero, List.set_cons_succ]; (try simp only [List.nil_append, List.cons_append, List.set_cons_zero, List.set_cons_succ] at hq); replace ho := hq; clear hq))
            clear hrr hw1 hw2 hw3 hbd
            have hm1 := HM1.out
            have q4 := HQ4.out
            have e2 := HE2.out
            go_wp2_with (first
              | (refine go_val_ex rfl (ho.xbox 2 rfl rfl (cs := refCell (c, .slice (some ⟨g, 0, none⟩) n cp)) rfl) ?_; rintro v w1 ⟨b2, rfl, hq⟩; simp only [Act.put, List.setIfInBounds_toArray, List.set_cons_zero, List.set_cons_succ]; (try simp only [List.nil_append, List.cons_append, List.set_cons_zero, List.set_cons_succ] at hq); replace ho := hq; clear hq)
              | (refine go_val_ex rfl (ho.xacell 4 rfl rfl) ?_; rintro v w1 ⟨b4, rfl, hq⟩; simp only [Act.put, List.setIfInBounds_toArray, List.set_cons_zero, List.set_cons_succ]; (try simp only [List.nil_append, List.cons_append, List.set_cons_zero, List.set_cons_succ] at hq); replace ho := hq; clear hq)
              | (refine go_val_ex rfl (ho.xallocAt 7 rfl rfl) ?_; rintro v w1 ⟨b7, rfl, hq⟩; simp only [Act.put, List.setIfInBounds_toArray, List.set_cons_zero, List.set_cons_succ]; (try simp only [List.nil_append, List.cons_append, List.set_cons_zero, List.set_cons_succ] at hq); replace ho := hq; clear hq)
              | (refine go_val_ex rfl (ho.xallocAt 8 rfl rfl) ?_; rintro v w1 ⟨b8, rfl, hq⟩; simp only [Act.put, List.setIfInBounds_toArray, List.set_cons_zero, List.set_cons_succ]; (try simp only [List.nil_append, List.cons_append, List.set_cons_zero, List.set_cons_succ] at hq); replace ho := hq; clear hq)
              | (refine go_val rfl (exl_ropen (x := .tmp 10) (rng0 ho (k := 0) rfl) hc rfl rfl) ?_; simp only [Act.put, List.setIfInBounds_toArray, List.set_cons_zero, List.set_cons_succ])
              | (refine go_val rfl (exl_ropen (x := .tmp 52) (rng0 ho (k := 0) rfl) hc rfl rfl) ?_; simp only [Act.put, List.setIfInBounds_toArray, List.set_cons_zero, List.set_cons_succ])
              | (refine go_val rfl (exl_ropen (x := .tmp 58) (rng0 ho (k := 0) rfl) hc rfl rfl) ?_; simp only [Act.put, List.setIfInBounds_toArray, List.set_cons_zero, List.set_cons_succ])
              | (refine go_val rfl ((exl_rbad (x := .tmp 45) (rng0 ho (k := 0) rfl) hc rfl rfl).trans (by rw [hbad])) ?_; simp only [Act.put, List.setIfInBounds_toArray, List.set_cons_zero, List.set_cons_succ])
              | (refine go_val rfl (exl_sec (s := bf) (x := .tmp 56) (b := g) (k := (n - 2) * 64) rfl rfl hbo (HQ2.out _ ho.nw0)) ?_; simp only [Act.put, List.setIfInBounds_toArray, List.set_cons_zero, List.set_cons_succ])
              | (refine go_skp_ex rfl (ho.xstore (k := 2) (s' := bf) (x := .tmp 7) (y := .tmp 57) rfl rfl rfl zeroSec_ok hbo rfl) ?_; rintro w1 hq; simp only [Act.put, List.setIfInBounds_toArray, List.set_cons_zero, List.set_cons_succ]; (try simp only [List.nil_append, List.cons_append, List.set_cons_zero, List.set_cons_succ] at hq); replace ho := hq; clear hq)
              | (refine go_val rfl (exl_sec (s := ls) (x := .tmp 62) (b := g) (k := (n - 1) * 64) rfl rfl hls (HQ.out _ ho.nw0)) ?_; simp only [Act.put, List.setIfInBounds_toArray, List.set_cons_zero, List.set_cons_succ])
              | (refine go_skp_ex rfl (ho.xstore (k := 3) (s' := ls) (x := .tmp 8) (y := .tmp 63) rfl rfl rfl zeroSec_ok hls rfl) ?_; rintro w1 hq; simp only [Act.put, List.setIfInBounds_toArray, List.set_cons_zero, List.set_cons_succ]; (try simp only [List.nil_append, List.cons_append, List.set_cons_zero, List.set_cons_succ] at hq); replace ho := hq; clear hq))
            rw [show blkR b8 (secVals ls).toArray 29 = blkR b8 (secVals (mixTo bf ls 32)).toArray 29 from by rw [mixTo_start hls]] at ho
            clear e1 e2 e3
            go_loopw [9] (fun i wr => ∃ y : Nat, 32 ≤ y ∧ y ≤ 64 ∧ i = .int .i64 (y : Int) ∧ Own w wr [blkR b2 (refCell (c, .slice (some ⟨g, 0, none⟩) n cp)).toArray 110, blkR b4 (refCell (zeroCell, .slice none 0 0)).toArray 110, blkR b7 (secVals bf).toArray 29, blkR b8 (secVals (mixTo bf ls y)).toArray 29])
              (fun i _ => 64 - (intOf i).toNat)
            case atStart => exact ⟨32, by omega, by omega, rfl, ho⟩
            case round =>
              clear ho
              obtain ⟨y, hy1, hy2, rfl, ho⟩ := hrel
              have hy0 : (0 : Int) ≤ (y : Int) := Int.natCast_nonneg y
              by_cases hy64 : y < 64
              · have hy64' : (y : Int) < 64 := by omega
                have hmo := mixTo_ok hbo hls hy1 hy2
                have HST := Lib.hid (mixTo_step hbo hls hy1 hy64)
                go_wp2_with (first
                  | (refine go_val rfl (ho.xlsecbyte (k := 2) (j := y) (s := bf) (x := .tmp 70) rfl rfl rfl hbo hy64) ?_; simp only [Act.put, List.setIfInBounds_toArray, List.set_cons_zero, List.set_cons_succ])
                  | (refine go_skp_ex rfl (ho.xsecbyte (k := 3) (j := y) (s := mixTo bf ls y) (x := .tmp 72) (y := .tmp 71) rfl rfl rfl rfl hmo hy64) ?_; rintro w1 hq; simp only [Act.put, List.setIfInBounds_toArray, List.set_cons_zero, List.set_cons_succ]; (try simp only [List.nil_append, List.cons_append, List.set_cons_zero, List.set_cons_succ] at hq); replace ho := hq; clear hq))
                rw [HST.out] at ho
                exact ⟨⟨y + 1, by omega, by omega, by go_num, ho⟩, by simp [intOf]; omega⟩
              · have hy64' : ¬ (y : Int) < 64 := by omega
                have e : y = 64 := by omega
                subst e
                rw [mixTo_end hbo hls, ← HTN.out] at ho
                go_wp2_with (first
                  | (refine go_val rfl (ho.xload (k := 3) (x := .tmp 8) rfl rfl rfl hto) ?_; simp only [Act.put, List.setIfInBounds_toArray, List.set_cons_zero, List.set_cons_succ])
                  | (refine go_val rfl (exb_rcell0 (s := tn) rfl hto rfl) ?_; simp only [Act.put, List.setIfInBounds_toArray, List.set_cons_zero, List.set_cons_succ])
                  | (refine go_skp_ex rfl (ho.xscell1 (k := 1) (c' := ⟨tn, false⟩) (v' := .slice none 0 0) (x := .tmp 4) (y := .tmp 74) rfl zeroSec_ok hto rfl rfl rfl rfl) ?_; rintro w1 hq; simp only [Act.put, List.setIfInBounds_toArray, List.set_cons_zero, List.set_cons_succ]; (try simp only [List.nil_append, List.cons_append, List.set_cons_zero, List.set_cons_succ] at hq); replace ho := hq; clear hq))
                refine bodyPost_ret (results_rcell (c := ⟨tn, false⟩) rfl _ hto rfl (rng0 ho (k := 1) rfl)) rfl ⟨by rw [HR.out], ho.nw0⟩
          | false =>
            have HM1 := Lib.hid hm1
            have HQ4 := Lib.hid q4
            have HE2 := Lib.hid e2
            clear hm1 q4 e2
            go_enter Try.func59, Try.ntmps59
            go_upto_region 12 with (first
              | (refine go_val_ex rfl (ho.xbox 2 rfl rfl (cs := refCell (c, .slice (some ⟨g, 0, none⟩) n cp)) rfl) ?_; rintro v w1 ⟨b2, rfl, hq⟩; simp only [Act.put, List.setIfInBounds_toArray, List.set_cons_zero, List.set_cons_succ]; (try simp only [List.nil_append, List.cons_append, List.set_cons_zero, List.set_cons_succ] at hq); replace ho := hq; clear hq)
              | (refine go_val_ex rfl (ho.xacell 4 rfl rfl) ?_; rintro v w1 ⟨b4, rfl, hq⟩; simp only [Act.put, List.setIfInBounds_toArray, List.set_cons_zero, List.set_cons_succ]; (try simp only [List.nil_append, List.cons_append, List.set_cons_zero, List.set_cons_succ] at hq); replace ho := hq; clear hq)
              | (refine go_val_ex rfl (ho.xallocAt 7 rfl rfl) ?_; rintro v w1 ⟨b7, rfl, hq⟩; simp only [Act.put, List.setIfInBounds_toArray, List.set_cons_zero, List.set_cons_succ]; (try simp only [List.nil_append, List.cons_append, List.set_cons_zero, List.set_cons_succ] at hq); replace ho := hq; clear hq)
              | (refine go_val_ex rfl (ho.xallocAt 8 rfl rfl) ?_; rintro v w1 ⟨b8, rfl, hq⟩; simp only [Act.put, List.setIfInBounds_toArray, List.set_cons_zero, List.set_cons_succ]; (try simp only [List.nil_append, List.cons_append, List.set_cons_zero, List.set_cons_succ] at hq); replace ho := hq; clear hq)
              | (refine go_val rfl (exl_ropen (x := .tmp 10) (rng0 ho (k := 0) rfl) hc rfl rfl) ?_; simp only [Act.put, List.setIfInBounds_toArray, List.set_cons_zero, List.set_cons_succ])
              | (refine go_val rfl (exl_ropen (x := .tmp 52) (rng0 ho (k := 0) rfl) hc rfl rfl) ?_; simp only [Act.put, List.setIfInBounds_toArray, List.set_cons_zero, List.set_cons_succ])
              | (refine go_val rfl (exl_ropen (x := .tmp 58) (rng0 ho (k := 0) rfl) hc rfl rfl) ?_; simp only [Act.put, List.setIfInBounds_toArray, List.set_cons_zero, List.set_cons_succ])
              | (refine go_val rfl ((exl_rbad (x := .tmp 45) (rng0 ho (k := 0) rfl) hc rfl rfl).trans (by rw [hbad])) ?_; simp only [Act.put, List.setIfInBounds_toArray, List.set_cons_zero, List.set_cons_succ])
              | (refine go_val rfl (exl_rsec (x := .tmp 48) (rng0 ho (k := 0) rfl) hc rfl rfl) ?_; simp only [Act.put, List.setIfInBounds_toArray, List.set_cons_zero, List.set_cons_succ])
              | (refine go_skp_ex rfl (ho.xstore (k := 2) (s' := c.s) (x := .tmp 7) (y := .tmp 49) rfl rfl rfl zeroSec_ok hc rfl) ?_; rintro w1 hq; simp only [Act.put, List.setIfInBounds_toArray, List.set_cons_zero, List.set_cons_succ]; (try simp only [List.nil_append, List.cons_append, List.set_cons_zero, List.set_cons_succ] at hq); replace ho := hq; clear hq)
              | (refine go_val rfl (exl_sec (s := bf) (x := .tmp 56) (b := g) (k := (n - 2) * 64) rfl rfl hbo (HQ2.out _ ho.nw0)) ?_; simp only [Act.put, List.setIfInBounds_toArray, List.set_cons_zero, List.set_cons_succ])
              | (refine go_skp_ex rfl (ho.xstore (k := 2) (s' := bf) (x := .tmp 7) (y := .tmp 57) rfl rfl rfl hc hbo rfl) ?_; rintro w1 hq; simp only [Act.put, List.setIfInBounds_toArray, List.set_cons_zero, List.set_cons_succ]; (try simp only [List.nil_append, List.cons_append, List.set_cons_zero, List.set_cons_succ] at hq); replace ho := hq; clear hq)
              | (refine go_val rfl (exl_sec (s := ls) (x := .tmp 62) (b := g) (k := (n - 1) * 64) rfl rfl hls (HQ.out _ ho.nw0)) ?_; simp only [Act.put, List.setIfInBounds_toArray, List.set_cons_zero, List.set_cons_succ])
              | (refine go_skp_ex rfl (ho.xstore (k := 3) (s' := ls) (x := .tmp 8) (y := .tmp 63) rfl rfl rfl zeroSec_ok hls rfl) ?_; rintro w1 hq; simp only [Act.put, List.setIfInBounds_toArray, List.set_cons_zero, List.set_cons_succ]; (try simp only [List.nil_append, List.cons_append, List.set_cons_zero, List.set_cons_succ] at hq); replace ho := hq; clear hq))
            clear hrr hw1 hw2 hw3 hbd
            have hm1 := HM1.out
            have q4 := HQ4.out
            have e2 := HE2.out
            go_wp2_with (first
              | (refine go_val_ex rfl (ho.xbox 2 rfl rfl (cs := refCell (c, .slice (some ⟨g, 0, none⟩) n cp)) rfl) ?_; rintro v w1 ⟨b2, rfl, hq⟩; simp only [Act.put, List.setIfInBounds_toArray, List.set_cons_zero, List.set_cons_succ]; (try simp only [List.nil_append, List.cons_append, List.set_cons_zero, List.set_cons_succ] at hq); replace ho := hq; clear hq)
              | (refine go_val_ex rfl (ho.xacell 4 rfl rfl) ?_; rintro v w1 ⟨b4, rfl, hq⟩; simp only [Act.put, List.setIfInBounds_toArray, List.set_cons_zero, List.set_cons_succ]; (try simp only [List.nil_append, List.cons_append, List.set_cons_zero, List.set_cons_succ] at hq); replace ho := hq; clear hq)
              | (refine go_val_ex rfl (ho.xallocAt 7 rfl rfl) ?_; rintro v w1 ⟨b7, rfl, hq⟩; simp only [Act.put, List.setIfInBounds_toArray, List.set_cons_zero, List.set_cons_succ]; (try simp only [List.nil_append, List.cons_append, List.set_cons_zero, List.set_cons_succ] at hq); replace ho := hq; clear hq)
              | (refine go_val_ex rfl (ho.xallocAt 8 rfl rfl) ?_; rintro v w1 ⟨b8, rfl, hq⟩; simp only [Act.put, List.setIfInBounds_toArray, List.set_cons_zero, List.set_cons_succ]; (try simp only [List.nil_append, List.cons_append, List.set_cons_zero, List.set_cons_succ] at hq); replace ho := hq; clear hq)
              | (refine go_val rfl (exl_ropen (x := .tmp 10) (rng0 ho (k := 0) rfl) hc rfl rfl) ?_; simp only [Act.put, List.setIfInBounds_toArray, List.set_cons_zero, List.set_cons_succ])
              | (refine go_val rfl (exl_ropen (x := .tmp 52) (rng0 ho (k := 0) rfl) hc rfl rfl) ?_; simp only [Act.put, List.setIfInBounds_toArray, List.set_cons_zero, List.set_cons_succ])
              | (refine go_val rfl (exl_ropen (x := .tmp 58) (rng0 ho (k := 0) rfl) hc rfl rfl) ?_; simp only [Act.put, List.setIfInBounds_toArray, List.set_cons_zero, List.set_cons_succ])
              | (refine go_val rfl ((exl_rbad (x := .tmp 45) (rng0 ho (k := 0) rfl) hc rfl rfl).trans (by rw [hbad])) ?_; simp only [Act.put, List.setIfInBounds_toArray, List.set_cons_zero, List.set_cons_succ])
              | (refine go_val rfl (exl_rsec (x := .tmp 48) (rng0 ho (k := 0) rfl) hc rfl rfl) ?_; simp only [Act.put, List.setIfInBounds_toArray, List.set_cons_zero, List.set_cons_succ])
              | (refine go_skp_ex rfl (ho.xstore (k := 2) (s' := c.s) (x := .tmp 7) (y := .tmp 49) rfl rfl rfl zeroSec_ok hc rfl) ?_; rintro w1 hq; simp only [Act.put, List.setIfInBounds_toArray, List.set_cons_zero, List.set_cons_succ]; (try simp only [List.nil_append, List.cons_append, List.set_cons_zero, List.set_cons_succ] at hq); replace ho := hq; clear hq)
              | (refine go_val rfl (exl_sec (s := bf) (x := .tmp 56) (b := g) (k := (n - 2) * 64) rfl rfl hbo (HQ2.out _ ho.nw0)) ?_; simp only [Act.put, List.setIfInBounds_toArray, List.set_cons_zero, List.set_cons_succ])
              | (refine go_skp_ex rfl (ho.xstore (k := 2) (s' := bf) (x := .tmp 7) (y := .tmp 57) rfl rfl rfl hc hbo rfl) ?_; rintro w1 hq; simp only [Act.put, List.setIfInBounds_toArray, List.set_cons_zero, List.set_cons_succ]; (try simp only [List.nil_append, List.cons_append, List.set_cons_zero, List.set_cons_succ] at hq); replace ho := hq; clear hq)
              | (refine go_val rfl (exl_sec (s := ls) (x := .tmp 62) (b := g) (k := (n - 1) * 64) rfl rfl hls (HQ.out _ ho.nw0)) ?_; simp only [Act.put, List.setIfInBounds_toArray, List.set_cons_zero, List.set_cons_succ])
              | (refine go_skp_ex rfl (ho.xstore (k := 3) (s' := ls) (x := .tmp 8) (y := .tmp 63) rfl rfl rfl zeroSec_ok hls rfl) ?_; rintro w1 hq; simp only [Act.put, List.setIfInBounds_toArray, List.set_cons_zero, List.set_cons_succ]; (try simp only [List.nil_append, List.cons_append, List.set_cons_zero, List.set_cons_succ] at hq); replace ho := hq; clear hq))
            rw [show blkR b8 (secVals ls).toArray 29 = blkR b8 (secVals (mixTo bf ls 32)).toArray 29 from by rw [mixTo_start hls]] at ho
            clear e1 e2 e3
            go_loopw [9] (fun i wr => ∃ y : Nat, 32 ≤ y ∧ y ≤ 64 ∧ i = .int .i64 (y : Int) ∧ Own w wr [blkR b2 (refCell (c, .slice (some ⟨g, 0, none⟩) n cp)).toArray 110, blkR b4 (refCell (zeroCell, .slice none 0 0)).toArray 110, blkR b7 (secVals bf).toArray 29, blkR b8 (secVals (mixTo bf ls y)).toArray 29])
              (fun i _ => 64 - (intOf i).toNat)
            case atStart => exact ⟨32, by omega, by omega, rfl, ho⟩
            case round =>
              clear ho
              obtain ⟨y, hy1, hy2, rfl, ho⟩ := hrel
              have hy0 : (0 : Int) ≤ (y : Int) := Int.natCast_nonneg y
              by_cases hy64 : y < 64
              · have hy64' : (y : Int) < 64 := by omega
                have hmo := mixTo_ok hbo hls hy1 hy2
                have HST := Lib.hid (mixTo_step hbo hls hy1 hy64)
                go_wp2_with (first
                  | (refine go_val rfl (ho.xlsecbyte (k := 2) (j := y) (s := bf) (x := .tmp 70) rfl rfl rfl hbo hy64) ?_; simp only [Act.put, List.setIfInBounds_toArray, List.set_cons_zero, List.set_cons_succ])
                  | (refine go_skp_ex rfl (ho.xsecbyte (k := 3) (j := y) (s := mixTo bf ls y) (x := .tmp 72) (y := .tmp 71) rfl rfl rfl rfl hmo hy64) ?_; rintro w1 hq; simp only [Act.put, List.setIfInBounds_toArray, List.set_cons_zero, List.set_cons_succ]; (try simp only [List.nil_append, List.cons_append, List.set_cons_zero, List.set_cons_succ] at hq); replace ho := hq; clear hq))
                rw [HST.out] at ho
                exact ⟨⟨y + 1, by omega, by omega, by go_num, ho⟩, by simp [intOf]; omega⟩
              · have hy64' : ¬ (y : Int) < 64 := by omega
                have e : y = 64 := by omega
                subst e
                rw [mixTo_end hbo hls, ← HTN.out] at ho
                go_wp2_with (first
                  | (refine go_val rfl (ho.xload (k := 3) (x := .tmp 8) rfl rfl rfl hto) ?_; simp only [Act.put, List.setIfInBounds_toArray, List.set_cons_zero, List.set_cons_succ])
                  | (refine go_val rfl (exb_rcell0 (s := tn) rfl hto rfl) ?_; simp only [Act.put, List.setIfInBounds_toArray, List.set_cons_zero, List.set_cons_succ])
                  | (refine go_skp_ex rfl (ho.xscell1 (k := 1) (c' := ⟨tn, false⟩) (v' := .slice none 0 0) (x := .tmp 4) (y := .tmp 74) rfl zeroSec_ok hto rfl rfl rfl rfl) ?_; rintro w1 hq; simp only [Act.put, List.setIfInBounds_toArray, List.set_cons_zero, List.set_cons_succ]; (try simp only [List.nil_append, List.cons_append, List.set_cons_zero, List.set_cons_succ] at hq); replace ho := hq; clear hq))
                refine bodyPost_ret (results_rcell (c := ⟨tn, false⟩) rfl _ hto rfl (rng0 ho (k := 1) rfl)) rfl ⟨by rw [HR.out], ho.nw0⟩
        · rw [if_neg hm1] at hbf
          obtain ⟨e1, e2, e3, -⟩ := HNE.out
          have HBF := Lib.hid hbf
          clear hbf HRNG HNE
          cases hbad : c.bad with
          | true =>
            have HZ : Hid (zeroSec = bf) := Lib.hid (by rw [HBF.out]; exact (HBD.out hbad).symm)
            go_enter Try.func59, Try.ntmps59
            go_wp2_with (first
              | (refine go_val_ex rfl (ho.xbox 2 rfl rfl (cs := refCell (c, .slice (some ⟨g, 0, none⟩) n cp)) rfl) ?_; rintro v w1 ⟨b2, rfl, hq⟩; simp only [Act.put, List.setIfInBounds_toArray, List.set_cons_zero, List.set_cons_succ]; (try simp only [List.nil_append, List.cons_append, List.set_cons_zero, List.set_cons_succ] at hq); replace ho := hq; clear hq)
              | (refine go_val_ex rfl (ho.xacell 4 rfl rfl) ?_; rintro v w1 ⟨b4, rfl, hq⟩; simp only [Act.put, List.setIfInBounds_toArray, List.set_cons_zero, List.set_cons_succ]; (try simp only [List.nil_append, List.cons_append, List.set_cons_zero, List.set_cons_succ] at hq); replace ho := hq; clear hq)
              | (refine go_val_ex rfl (ho.xallocAt 7 rfl rfl) ?_; rintro v w1 ⟨b7, rfl, hq⟩; simp only [Act.put, List.setIfInBounds_toArray, List.set_cons_zero, List.set_cons_succ]; (try simp only [List.nil_append, List.cons_append, List.set_cons_zero, List.set_cons_succ] at hq); replace ho := hq; clear hq)
              | (refine go_val_ex rfl (ho.xallocAt 8 rfl rfl) ?_; rintro v w1 ⟨b8, rfl, hq⟩; simp only [Act.put, List.setIfInBounds_toArray, List.set_cons_zero, List.set_cons_succ]; (try simp only [List.nil_append, List.cons_append, List.set_cons_zero, List.set_cons_succ] at hq); replace ho := hq; clear hq)
              | (refine go_val rfl (exl_ropen (x := .tmp 10) (rng0 ho (k := 0) rfl) hc rfl rfl) ?_; simp only [Act.put, List.setIfInBounds_toArray, List.set_cons_zero, List.set_cons_succ])
              | (refine go_val rfl (exl_ropen (x := .tmp 52) (rng0 ho (k := 0) rfl) hc rfl rfl) ?_; simp only [Act.put, List.setIfInBounds_toArray, List.set_cons_zero, List.set_cons_succ])
              | (refine go_val rfl (exl_ropen (x := .tmp 58) (rng0 ho (k := 0) rfl) hc rfl rfl) ?_; simp only [Act.put, List.setIfInBounds_toArray, List.set_cons_zero, List.set_cons_succ])
              | (refine go_val rfl ((exl_rbad (x := .tmp 45) (rng0 ho (k := 0) rfl) hc rfl rfl).trans (by rw [hbad])) ?_; simp only [Act.put, List.setIfInBounds_toArray, List.set_cons_zero, List.set_cons_succ])
              | (refine go_val rfl (exl_sec (s := ls) (x := .tmp 62) (b := g) (k := (n - 1) * 64) rfl rfl hls (HQ.out _ ho.nw0)) ?_; simp only [Act.put, List.setIfInBounds_toArray, List.set_cons_zero, List.set_cons_succ])
              | (refine go_skp_ex rfl (ho.xstore (k := 3) (s' := ls) (x := .tmp 8) (y := .tmp 63) rfl rfl rfl zeroSec_ok hls rfl) ?_; rintro w1 hq; simp only [Act.put, List.setIfInBounds_toArray, List.set_cons_zero, List.set_cons_succ]; (try simp only [List.nil_append, List.cons_append, List.set_cons_zero, List.set_cons_succ] at hq); replace ho := hq; clear hq))
            rw [show blkR b7 (secVals zeroSec).toArray 29 = blkR b7 (secVals bf).toArray 29 from by rw [HZ.out]] at ho
            rw [show blkR b8 (secVals ls).toArray 29 = blkR b8 (secVals (mixTo bf ls 32)).toArray 29 from by rw [mixTo_start hls]] at ho
            clear hw1 hw2 hw3 e1 e2 e3 hrr hbd
            go_loopw [9] (fun i wr => ∃ y : Nat, 32 ≤ y ∧ y ≤ 64 ∧ i = .int .i64 (y : Int) ∧ Own w wr [blkR b2 (refCell (c, .slice (some ⟨g, 0, none⟩) n cp)).toArray 110, blkR b4 (refCell (zeroCell, .slice none 0 0)).toArray 110, blkR b7 (secVals bf).toArray 29, blkR b8 (secVals (mixTo bf ls y)).toArray 29])
              (fun i _ => 64 - (intOf i).toNat)
            case atStart => exact ⟨32, by omega, by omega, rfl, ho⟩
            case round =>
              clear ho
              obtain ⟨y, hy1, hy2, rfl, ho⟩ := hrel
              have hy0 : (0 : Int) ≤ (y : Int) := Int.natCast_nonneg y
              by_cases hy64 : y < 64
              · have hy64' : (y : Int) < 64 := by omega
                have hmo := mixTo_ok hbo hls hy1 hy2
                have HST := Lib.hid (mixTo_step hbo hls hy1 hy64)
                go_wp2_with (first
                  | (refine go_val rfl (ho.xlsecbyte (k := 2) (j := y) (s := bf) (x := .tmp 70) rfl rfl rfl hbo hy64) ?_; simp only [Act.put, List.setIfInBounds_toArray, List.set_cons_zero, List.set_cons_succ])
                  | (refine go_skp_ex rfl (ho.xsecbyte (k := 3) (j := y) (s := mixTo bf ls y) (x := .tmp 72) (y := .tmp 71) rfl rfl rfl rfl hmo hy64) ?_; rintro w1 hq; simp only [Act.put, List.setIfInBounds_toArray, List.set_cons_zero, List.set_cons_succ]; (try simp only [List.nil_append, List.cons_append, List.set_cons_zero, List.set_cons_succ] at hq); replace ho := hq; clear hq))
                rw [HST.out] at ho
                exact ⟨⟨y + 1, by omega, by omega, by go_num, ho⟩, by simp [intOf]; omega⟩
              · have hy64' : ¬ (y : Int) < 64 := by omega
                have e : y = 64 := by omega
                subst e
                rw [mixTo_end hbo hls, ← HTN.out] at ho
                go_wp2_with (first
                  | (refine go_val rfl (ho.xload (k := 3) (x := .tmp 8) rfl rfl rfl hto) ?_; simp only [Act.put, List.setIfInBounds_toArray, List.set_cons_zero, List.set_cons_succ])
                  | (refine go_val rfl (exb_rcell0 (s := tn) rfl hto rfl) ?_; simp only [Act.put, List.setIfInBounds_toArray, List.set_cons_zero, List.set_cons_succ])
                  | (refine go_skp_ex rfl (ho.xscell1 (k := 1) (c' := ⟨tn, false⟩) (v' := .slice none 0 0) (x := .tmp 4) (y := .tmp 74) rfl zeroSec_ok hto rfl rfl rfl rfl) ?_; rintro w1 hq; simp only [Act.put, List.setIfInBounds_toArray, List.set_cons_zero, List.set_cons_succ]; (try simp only [List.nil_append, List.cons_append, List.set_cons_zero, List.set_cons_succ] at hq); replace ho := hq; clear hq))
                refine bodyPost_ret (results_rcell (c := ⟨tn, false⟩) rfl _ hto rfl (rng0 ho (k := 1) rfl)) rfl ⟨by rw [HR.out], ho.nw0⟩
          | false =>
            go_enter Try.func59, Try.ntmps59
            go_wp2_with (first
              | (refine go_val_ex rfl (ho.xbox 2 rfl rfl (cs := refCell (c, .slice (some ⟨g, 0, none⟩) n cp)) rfl) ?_; rintro v w1 ⟨b2, rfl, hq⟩; simp only [Act.put, List.setIfInBounds_toArray, List.set_cons_zero, List.set_cons_succ]; (try simp only [List.nil_append, List.cons_append, List.set_cons_zero, List.set_cons_succ] at hq); replace ho := hq; clear hq)
              | (refine go_val_ex rfl (ho.xacell 4 rfl rfl) ?_; rintro v w1 ⟨b4, rfl, hq⟩; simp only [Act.put, List.setIfInBounds_toArray, List.set_cons_zero, List.set_cons_succ]; (try simp only [List.nil_append, List.cons_append, List.set_cons_zero, List.set_cons_succ] at hq); replace ho := hq; clear hq)
              | (refine go_val_ex rfl (ho.xallocAt 7 rfl rfl) ?_; rintro v w1 ⟨b7, rfl, hq⟩; simp only [Act.put, List.setIfInBounds_toArray, List.set_cons_zero, List.set_cons_succ]; (try simp only [List.nil_append, List.cons_append, List.set_cons_zero, List.set_cons_succ] at hq); replace ho := hq; clear hq)
              | (refine go_val_ex rfl (ho.xallocAt 8 rfl rfl) ?_; rintro v w1 ⟨b8, rfl, hq⟩; simp only [Act.put, List.setIfInBounds_toArray, List.set_cons_zero, List.set_cons_succ]; (try simp only [List.nil_append, List.cons_append, List.set_cons_zero, List.set_cons_succ] at hq); replace ho := hq; clear hq)
              | (refine go_val rfl (exl_ropen (x := .tmp 10) (rng0 ho (k := 0) rfl) hc rfl rfl) ?_; simp only [Act.put, List.setIfInBounds_toArray, List.set_cons_zero, List.set_cons_succ])
              | (refine go_val rfl (exl_ropen (x := .tmp 52) (rng0 ho (k := 0) rfl) hc rfl rfl) ?_; simp only [Act.put, List.setIfInBounds_toArray, List.set_cons_zero, List.set_cons_succ])
              | (refine go_val rfl (exl_ropen (x := .tmp 58) (rng0 ho (k := 0) rfl) hc rfl rfl) ?_; simp only [Act.put, List.setIfInBounds_toArray, List.set_cons_zero, List.set_cons_succ])
              | (refine go_val rfl ((exl_rbad (x := .tmp 45) (rng0 ho (k := 0) rfl) hc rfl rfl).trans (by rw [hbad])) ?_; simp only [Act.put, List.setIfInBounds_toArray, List.set_cons_zero, List.set_cons_succ])
              | (refine go_val rfl (exl_rsec (x := .tmp 48) (rng0 ho (k := 0) rfl) hc rfl rfl) ?_; simp only [Act.put, List.setIfInBounds_toArray, List.set_cons_zero, List.set_cons_succ])
              | (refine go_skp_ex rfl (ho.xstore (k := 2) (s' := c.s) (x := .tmp 7) (y := .tmp 49) rfl rfl rfl zeroSec_ok hc rfl) ?_; rintro w1 hq; simp only [Act.put, List.setIfInBounds_toArray, List.set_cons_zero, List.set_cons_succ]; (try simp only [List.nil_append, List.cons_append, List.set_cons_zero, List.set_cons_succ] at hq); replace ho := hq; clear hq)
              | (refine go_val rfl (exl_sec (s := ls) (x := .tmp 62) (b := g) (k := (n - 1) * 64) rfl rfl hls (HQ.out _ ho.nw0)) ?_; simp only [Act.put, List.setIfInBounds_toArray, List.set_cons_zero, List.set_cons_succ])
              | (refine go_skp_ex rfl (ho.xstore (k := 3) (s' := ls) (x := .tmp 8) (y := .tmp 63) rfl rfl rfl zeroSec_ok hls rfl) ?_; rintro w1 hq; simp only [Act.put, List.setIfInBounds_toArray, List.set_cons_zero, List.set_cons_succ]; (try simp only [List.nil_append, List.cons_append, List.set_cons_zero, List.set_cons_succ] at hq); replace ho := hq; clear hq))
            rw [show blkR b7 (secVals c.s).toArray 29 = blkR b7 (secVals bf).toArray 29 from by rw [HBF.out]] at ho
            rw [show blkR b8 (secVals ls).toArray 29 = blkR b8 (secVals (mixTo bf ls 32)).toArray 29 from by rw [mixTo_start hls]] at ho
            clear hw1 hw2 hw3 e1 e2 e3 hrr hbd
            go_loopw [9] (fun i wr => ∃ y : Nat, 32 ≤ y ∧ y ≤ 64 ∧ i = .int .i64 (y : Int) ∧ Own w wr [blkR b2 (refCell (c, .slice (some ⟨g, 0, none⟩) n cp)).toArray 110, blkR b4 (refCell (zeroCell, .slice none 0 0)).toArray 110, blkR b7 (secVals bf).toArray 29, blkR b8 (secVals (mixTo bf ls y)).toArray 29])
              (fun i _ => 64 - (intOf i).toNat)
            case atStart => exact ⟨32, by omega, by omega, rfl, ho⟩
            case round =>
              clear ho
              obtain ⟨y, hy1, hy2, rfl, ho⟩ := hrel
              have hy0 : (0 : Int) ≤ (y : Int) := Int.natCast_nonneg y
              by_cases hy64 : y < 64
              · have hy64' : (y : Int) < 64 := by omega
                have hmo := mixTo_ok hbo hls hy1 hy2
                have HST := Lib.hid (mixTo_step hbo hls hy1 hy64)
                go_wp2_with (first
                  | (refine go_val rfl (ho.xlsecbyte (k := 2) (j := y) (s := bf) (x := .tmp 70) rfl rfl rfl hbo hy64) ?_; simp only [Act.put, List.setIfInBounds_toArray, List.set_cons_zero, List.set_cons_succ])
                  | (refine go_skp_ex rfl (ho.xsecbyte (k := 3) (j := y) (s := mixTo bf ls y) (x := .tmp 72) (y := .tmp 71) rfl rfl rfl rfl hmo hy64) ?_; rintro w1 hq; simp only [Act.put, List.setIfInBounds_toArray, List.set_cons_zero, List.set_cons_succ]; (try simp only [List.nil_append, List.cons_append, List.set_cons_zero, List.set_cons_succ] at hq); replace ho := hq; clear hq))
                rw [HST.out] at ho
                exact ⟨⟨y + 1, by omega, by omega, by go_num, ho⟩, by simp [intOf]; omega⟩
              · have hy64' : ¬ (y : Int) < 64 := by omega
                have e : y = 64 := by omega
                subst e
                rw [mixTo_end hbo hls, ← HTN.out] at ho
                go_wp2_with (first
                  | (refine go_val rfl (ho.xload (k := 3) (x := .tmp 8) rfl rfl rfl hto) ?_; simp only [Act.put, List.setIfInBounds_toArray, List.set_cons_zero, List.set_cons_succ])
                  | (refine go_val rfl (exb_rcell0 (s := tn) rfl hto rfl) ?_; simp only [Act.put, List.setIfInBounds_toArray, List.set_cons_zero, List.set_cons_succ])
                  | (refine go_skp_ex rfl (ho.xscell1 (k := 1) (c' := ⟨tn, false⟩) (v' := .slice none 0 0) (x := .tmp 4) (y := .tmp 74) rfl zeroSec_ok hto rfl rfl rfl rfl) ?_; rintro w1 hq; simp only [Act.put, List.setIfInBounds_toArray, List.set_cons_zero, List.set_cons_succ]; (try simp only [List.nil_append, List.cons_append, List.set_cons_zero, List.set_cons_succ] at hq); replace ho := hq; clear hq))
                refine bodyPost_ret (results_rcell (c := ⟨tn, false⟩) rfl _ hto rfl (rng0 ho (k := 1) rfl)) rfl ⟨by rw [HR.out], ho.nw0⟩
end
end Go.Proofs.Ytcaalfpfkalalaa
