/- slots.make1: the sector of a copy. -/
import Derived.Test.YtcaalfpfkalalaaO3
import Derived.Test.YtcaalfpfkalalaaS2
import Derived.Test.YtcaalfpfkalalaaS4
set_option linter.unusedVariables false
set_option linter.unusedSimpArgs false
set_option maxRecDepth 10000
set_option maxHeartbeats 4000000
namespace Go.Proofs.Ytcaalfpfkalalaa
open Go.RowKit Qd
open Go.Proofs.YtcaalfpfkalalaaW.PrintLast
/-- A string's bytes. -/
def strInts (s : ByteArray) : List Int := s.data.toList.map fun c => (c.toNat : Int)
theorem strInts_len (s : ByteArray) : (strInts s).length = s.size := by rw [strInts, List.length_map]; simp
theorem strInts_ok (s : ByteArray) : ∀ x ∈ strInts s, 0 ≤ x ∧ x < 256 := fun x hx => by
  obtain ⟨c, _, rfl⟩ := List.mem_map.1 hx
  have := c.toNat_lt
  omega
section
variable {P : Program} {o : Oper} {w : World} {ρ : Operand → Value}
theorem ex_copy_str {dT sT elem : TypeId} {x y : Operand} {b p dLen dCap : Nat} {t : ByteArray} (ho : o.op = .call { callee := .builtin .copy, args := #[x, y], argTypes := #[dT, sT] })
    (hu : P.underlying dT = some (.slice elem)) (hs : (P.info? elem).map (·.size) = some 1) (hx : ρ x = .slice (some ⟨b, p, none⟩) dLen dCap) (hy : ρ y = .string t)
    (ht : w.there b p (min t.size dLen)) : (execOp ρ o).run P w = .ok (.value (goInt ((min t.size dLen : Nat) : Int))) (w.setCells b p (secVals ((strInts t).take dLen))) := by
  have hl : (secVals ((strInts t).take dLen)).length = min t.size dLen := by
    rw [secVals_len, List.length_take, strInts_len, Nat.min_comm]
  have hst := run_storeCells_cells (P := P) b p (secVals ((strInts t).take dLen)) 0 w (fun j hj => by rw [hl] at hj; simpa using (ht j hj).1) (fun j hj => by rw [hl] at hj; simpa using (ht j hj).2) (secVals_one _)
  have e : (List.map (fun x => Value.int IntKind.u8 (x.toNat : Int)) t.data.toList).take (Nat.min t.size dLen) = secVals ((strInts t).take dLen) := by
    have h1 : List.map (fun x => Value.int IntKind.u8 (x.toNat : Int)) t.data.toList = secVals (strInts t) := by simp [secVals, strInts]
    rw [h1]
    unfold secVals
    rw [List.map_take]
    have h2 : (List.map (Value.int IntKind.u8) (strInts t)).length = t.size := by rw [List.length_map, strInts_len]
    show (List.map (Value.int IntKind.u8) (strInts t)).take (min t.size dLen) = _
    by_cases h : t.size ≤ dLen
    · rw [Nat.min_eq_left h, List.take_of_length_le (by omega), List.take_of_length_le (by omega)]
    · rw [Nat.min_eq_right (by omega)]
  cases hq : P.info? elem with
  | none => simp [hq] at hs
  | some i =>
    have hi : i.size = 1 := by simpa [hq] using hs
    have h : (Builtin.copy_ #[dT, sT] o.type #[.slice (some ⟨b, p, none⟩) dLen dCap, .string t]).run P w = .ok (goInt ((min t.size dLen : Nat) : Int)) (w.setCells b p (secVals ((strInts t).take dLen))) := by
      simp [Builtin.copy_, run_underlying hu, Builtin.lenOf, Builtin.firstCells, sizeOf, typeInfo, hq, hi]
      rw [show (List.take (t.size.min dLen) (List.map (fun x => Value.int IntKind.u8 (x.toNat : Int)) t.data.toList)) = secVals ((strInts t).take dLen) from e, hst]
      rw [Nat.add_zero]
      rfl
    unfold execOp
    simp only [ho, resolve, invoke, builtin, Sem.run_bind, Sem.run_pure, Result.andThen_ok, List.map_toArray, List.map_cons, List.map_nil, hx, hy, h]
end
theorem secVals_append (a b : Sec) : secVals (a ++ b) = secVals a ++ secVals b := by simp [secVals]
/-- Numbers put into a sector from a place on. -/
def putSec (s : Sec) (o : Nat) (vs : List Int) : Sec := s.take o ++ vs ++ s.drop (o + vs.length)
theorem putSec_len {s : Sec} {o : Nat} {vs : List Int} (h : o + vs.length ≤ s.length) : (putSec s o vs).length = s.length := by simp [putSec]; omega
section
variable {w0 w : World} {rs : List Res} {k : Nat}
theorem Own.secPut {b o : Nat} {s : Sec} {vs : List Int} {t : TypeId} (h : Own w0 w rs) (hk : rs[k]? = some (blkR b (secVals s).toArray t)) (hl : o + vs.length ≤ s.length) : Own w0 (w.setCells b o (secVals vs)) (rs.set k (blkR b (secVals (putSec s o vs)).toArray t)) := by
  refine h.set hk (by rw [List.size_toArray, secVals_len, secVals_len]; exact hl) ?_
  rw [putSec, secVals_append, secVals_append, secVals_len]
  simp [secVals, List.map_take, List.map_drop]
theorem Own.xb {o : Oper} {ρ : Operand → Value} {x y : Operand} {b : Nat} {u : Int} {s : Sec} {t : TypeId} (j : Nat) (h : Own w0 w rs) (ho : o.op = .store 5 x y) (hx : ρ x = .pointer (some ⟨b, j, none⟩)) (hk : rs[k]? = some (blkR b (secVals s).toArray t)) (hy : ρ y = .int .u8 u) (hj : j < s.length) :
    ∃ w1, (execOp ρ o).run Try.prog w = .ok .skip w1 ∧ Own w0 w1 (rs.set k (blkR b (secVals (putSec s j [u])).toArray t)) := by
  have hb := (h.blk hk).1
  have hj' : j < (secVals s).toArray.size := by rw [List.size_toArray, secVals_len]; exact hj
  refine ⟨_, ex_store_byte ho hx hy (c := (secVals s).toArray[j]) (by rw [hb.cell]; simp [hj']) (hb.frozen j), ?_⟩
  have := h.secPut hk (o := j) (vs := [u]) (by simp; omega)
  exact this
end
/-- The sector that make1 has behind its loop's rounds. -/
def mk0 (q : Int) : Sec := four q ++ List.replicate 60 0
def mk1 (q : Int) : Sec := four q ++ List.replicate 28 0 ++ four q ++ List.replicate 28 0
def mk2 (q l : Int) : Sec := four q ++ List.replicate 28 0 ++ four q ++ [l] ++ List.replicate 27 0
theorem mk0_eq (a b c d : Int) : putSec (putSec (putSec (putSec zeroSec 0 [a]) 1 [b]) 2 [c]) 3 [d] = [a, b, c, d] ++ List.replicate 60 0 := rfl
theorem mk1_eq (a b c d a' b' c' d' : Int) : putSec (putSec (putSec (putSec ([a, b, c, d] ++ List.replicate 60 0) 32 [a']) 33 [b']) 34 [c']) 35 [d'] = [a, b, c, d] ++ List.replicate 28 0 ++ [a', b', c', d'] ++ List.replicate 28 0 := rfl
theorem mk2_eq (a b c d l : Int) : putSec ([a, b, c, d] ++ List.replicate 28 0 ++ [a, b, c, d] ++ List.replicate 28 0) 36 [l] = [a, b, c, d] ++ List.replicate 28 0 ++ [a, b, c, d] ++ [l] ++ List.replicate 27 0 := rfl
theorem put_zeros (A C : Sec) (m : Nat) (vs : List Int) (h : vs.length ≤ m) : putSec (A ++ List.replicate m 0 ++ C) A.length vs = A ++ (vs ++ List.replicate (m - vs.length) 0) ++ C := by
  unfold putSec
  rw [List.append_assoc A, List.take_left' rfl, List.drop_append, List.drop_eq_nil_of_le (by omega), List.nil_append, show A.length + vs.length - A.length = vs.length from by omega, List.drop_append, List.drop_replicate, List.length_replicate, show vs.length - m = 0 from by omega, List.drop_zero]
  simp [List.append_assoc]
theorem mk_final {q : Int} {bs : List Int} (h : bs.length ≤ 55) : putSec (putSec (mk2 q ((bs.length : Int) % 256)) 4 (bs.take 28)) 37 (bs.drop 28) = copySec q bs := by
  have h1 : mk2 q ((bs.length : Int) % 256) = four q ++ List.replicate 28 0 ++ (four q ++ [(bs.length : Int) % 256] ++ List.replicate 27 0) := by simp [mk2, List.append_assoc]
  have hl : (bs.take 28).length ≤ 28 := by simp; omega
  have h2 : putSec (mk2 q ((bs.length : Int) % 256)) 4 (bs.take 28) = four q ++ padTo 28 bs ++ (four q ++ [(bs.length : Int) % 256] ++ List.replicate 27 0) := by
    rw [h1]
    have := put_zeros (four q) (four q ++ [(bs.length : Int) % 256] ++ List.replicate 27 0) 28 (bs.take 28) hl
    rw [four_len] at this
    rw [this]
    have e : bs.take 28 ++ List.replicate (28 - (bs.take 28).length) 0 = padTo 28 bs := by
      unfold padTo
      congr 2
      simp; omega
    rw [e]
  rw [h2]
  have h3 : (four q ++ padTo 28 bs ++ four q ++ [(bs.length : Int) % 256]).length = 37 := by simp [four_len, padTo_len]
  have := put_zeros (four q ++ padTo 28 bs ++ four q ++ [(bs.length : Int) % 256]) [] 27 (bs.drop 28) (by simp; omega)
  rw [h3, List.append_nil] at this
  rw [show four q ++ padTo 28 bs ++ (four q ++ [(bs.length : Int) % 256] ++ List.replicate 27 0) = four q ++ padTo 28 bs ++ four q ++ [(bs.length : Int) % 256] ++ List.replicate 27 0 from by simp [List.append_assoc], this]
  unfold copySec padTo
  rw [List.append_nil, List.take_of_length_le (show (bs.drop 28).length ≤ 27 by simp; omega)]
theorem mkr1 {q : Int} (h0 : 0 ≤ q) (h1 : q < 4294967296) : putSec (putSec (putSec (putSec zeroSec 0 [q / 16777216]) 1 [q / 65536 % 256]) 2 [q / 256 % 256]) 3 [q % 256] = mk0 q := by
  rw [mk0_eq]
  have : q / 16777216 = q / 16777216 % 256 := by omega
  unfold mk0 four
  rw [← this]
theorem mkr2 {q : Int} (h0 : 0 ≤ q) (h1 : q < 4294967296) : putSec (putSec (putSec (putSec (mk0 q) 32 [q / 16777216]) 33 [q / 65536 % 256]) 34 [q / 256 % 256]) 35 [q % 256] = mk1 q := by
  have : q / 16777216 = q / 16777216 % 256 := by omega
  unfold mk0 mk1 four
  rw [← this]
  exact mk1_eq _ _ _ _ _ _ _ _
theorem mkr3 (q l : Int) : putSec (mk1 q) 36 [l] = mk2 q l := mk2_eq _ _ _ _ _
theorem mk0_len (q : Int) : (mk0 q).length = 64 := by simp [mk0, four]
theorem mk1_len (q : Int) : (mk1 q).length = 64 := by simp [mk1, four]
theorem mk2_len (q l : Int) : (mk2 q l).length = 64 := by simp [mk2, four]
theorem strInts_drop (s : ByteArray) (n : Nat) : strInts (s.extract n s.size) = (strInts s).drop n := by
  simp [strInts, ByteArray.data_extract, List.map_drop, Array.toList_extract, List.extract_eq_take_drop]
  rw [List.take_of_length_le (by simp)]
section
variable {w0 w : World} {rs : List Res} {k : Nat}
theorem Own.xcopystr {o : Oper} {ρ : Operand → Value} {x y : Operand} {b p dLen dCap n : Nat} {s : Sec} {t : ByteArray} {T : TypeId} (h : Own w0 w rs) (hk : rs[k]? = some (blkR b (secVals s).toArray T)) (ho : o.op = .call { callee := .builtin .copy, args := #[x, y], argTypes := #[101, 9] })
    (hx : ρ x = .slice (some ⟨b, p, none⟩) dLen dCap) (hy : ρ y = .string t) (hl : p + dLen ≤ s.length) (hn : min t.size dLen = n) :
    ∃ v w1, (execOp ρ o).run Try.prog w = .ok (.value v) w1 ∧ v = .int .i64 (n : Int) ∧ Own w0 w1 (rs.set k (blkR b (secVals (putSec s p ((strInts t).take dLen))).toArray T)) := by
  have hb := (h.blk hk).1
  refine ⟨_, _, ex_copy_str ho uByteSlice sByteOne hx hy (hb.there p _ (by rw [List.size_toArray, secVals_len]; omega)), by rw [hn]; rfl, h.secPut hk ?_⟩
  rw [List.length_take, strInts_len]; omega
end
section
variable {w : World}
theorem make1_calls {q : Int} (h0 : 0 ≤ q) (h1 : q < 4294967296) {s : ByteArray} (hs : s.size ≤ 55) : Calls Try.prog 37 #[.int .u32 q, .string s] w fun e w' => e = .returned (.agg (secVals (copySec q (strInts s))).toArray) ∧ Nw w w' := by
  have ho := Own.start w
  have i0 : ∀ w, (Instr.index 113 (.agg #[.int .i64 0, .int .i64 32]) (.int .i64 0)).run Try.prog w = .ok (.int .i64 0) w := fun _ => by kernel_rfl
  have i1 : ∀ w, (Instr.index 113 (.agg #[.int .i64 0, .int .i64 32]) (.int .i64 1)).run Try.prog w = .ok (.int .i64 32) w := fun _ => by kernel_rfl
  have i2 : ∀ w, (Instr.build 113 #[(0, .int .i64 0), (1, .int .i64 32)]).run Try.prog w = .ok (.agg #[.int .i64 0, .int .i64 32]) w := fun _ => by kernel_rfl
  have I0 := Lib.hid i0
  have I1 := Lib.hid i1
  clear i0 i1
  go_enter Try.func37, Try.ntmps37
  go_wp2_with (first
    | (refine go_val_ex rfl (ho.xallocAt 4 rfl rfl) ?_; rintro v w1 ⟨b4, rfl, hq⟩; simp only [Act.put, List.setIfInBounds_toArray, List.set_cons_zero, List.set_cons_succ]; (try simp only [List.nil_append, List.cons_append, List.set_cons_zero, List.set_cons_succ] at hq); replace ho := hq; clear hq)
    | (refine go_val_ex rfl (ho.xallocAt 5 rfl rfl) ?_; rintro v w1 ⟨b5, rfl, hq⟩; simp only [Act.put, List.setIfInBounds_toArray, List.set_cons_zero, List.set_cons_succ]; (try simp only [List.nil_append, List.cons_append, List.set_cons_zero, List.set_cons_succ] at hq); replace ho := hq; clear hq))
  clear i2
  go_loopw [10] (fun i wr => ∃ j : Nat, j ≤ 2 ∧ i = .int .i64 (j : Int) ∧ Own w wr [blkR b4 (secVals zeroSec).toArray 29, blkR b5 (secVals (if j = 0 then zeroSec else if j = 1 then mk0 q else mk1 q)).toArray 29])
    (fun i _ => 2 - (intOf i).toNat)
  case atStart => exact ⟨0, by omega, rfl, ho⟩
  case round =>
    clear ho
    obtain ⟨j, hj, rfl, ho⟩ := hrel
    rcases j with _ | _ | _ | j
    · have i0 := I0.out
      simp only [if_true] at ho
      have hz := zeroSec_ok.1
      go_wp2_with (first
        | (refine go_skp_ex rfl (ho.xb 0 (k := 1) (x := .tmp 31) rfl rfl rfl rfl (by rw [hz]; omega)) ?_; rintro w1 hq; simp only [Act.put, List.setIfInBounds_toArray, List.set_cons_zero, List.set_cons_succ]; (try simp only [List.nil_append, List.cons_append, List.set_cons_zero, List.set_cons_succ] at hq); replace ho := hq; clear hq)
        | (refine go_skp_ex rfl (ho.xb 1 (k := 1) (x := .tmp 32) rfl rfl rfl rfl (by rw [putSec_len (by rw [hz]; simp), hz]; omega)) ?_; rintro w1 hq; simp only [Act.put, List.setIfInBounds_toArray, List.set_cons_zero, List.set_cons_succ]; (try simp only [List.nil_append, List.cons_append, List.set_cons_zero, List.set_cons_succ] at hq); replace ho := hq; clear hq)
        | (refine go_skp_ex rfl (ho.xb 2 (k := 1) (x := .tmp 33) rfl rfl rfl rfl (by rw [putSec_len (by rw [putSec_len (by rw [hz]; simp), hz]; simp), putSec_len (by rw [hz]; simp), hz]; omega)) ?_; rintro w1 hq; simp only [Act.put, List.setIfInBounds_toArray, List.set_cons_zero, List.set_cons_succ]; (try simp only [List.nil_append, List.cons_append, List.set_cons_zero, List.set_cons_succ] at hq); replace ho := hq; clear hq)
        | (refine go_skp_ex rfl (ho.xb 3 (k := 1) (x := .tmp 34) rfl rfl rfl rfl (by simp only [putSec, List.length_append, List.length_take, List.length_drop, hz, List.length_singleton]; omega)) ?_; rintro w1 hq; simp only [Act.put, List.setIfInBounds_toArray, List.set_cons_zero, List.set_cons_succ]; (try simp only [List.nil_append, List.cons_append, List.set_cons_zero, List.set_cons_succ] at hq); replace ho := hq; clear hq))
      rw [mkr1 h0 h1] at ho
      exact ⟨⟨1, by omega, rfl, ho⟩, by simp [intOf]⟩
    · have i1 := I1.out
      simp only [Nat.zero_add, Nat.one_ne_zero, if_false, if_true] at ho
      have hz := mk0_len q
      go_wp2_with (first
        | (refine go_skp_ex rfl (ho.xb 32 (k := 1) (x := .tmp 31) rfl rfl rfl rfl (by rw [hz]; omega)) ?_; rintro w1 hq; simp only [Act.put, List.setIfInBounds_toArray, List.set_cons_zero, List.set_cons_succ]; (try simp only [List.nil_append, List.cons_append, List.set_cons_zero, List.set_cons_succ] at hq); replace ho := hq; clear hq)
        | (refine go_skp_ex rfl (ho.xb 33 (k := 1) (x := .tmp 32) rfl rfl rfl rfl (by simp only [putSec, List.length_append, List.length_take, List.length_drop, hz, List.length_singleton]; omega)) ?_; rintro w1 hq; simp only [Act.put, List.setIfInBounds_toArray, List.set_cons_zero, List.set_cons_succ]; (try simp only [List.nil_append, List.cons_append, List.set_cons_zero, List.set_cons_succ] at hq); replace ho := hq; clear hq)
        | (refine go_skp_ex rfl (ho.xb 34 (k := 1) (x := .tmp 33) rfl rfl rfl rfl (by simp only [putSec, List.length_append, List.length_take, List.length_drop, hz, List.length_singleton]; omega)) ?_; rintro w1 hq; simp only [Act.put, List.setIfInBounds_toArray, List.set_cons_zero, List.set_cons_succ]; (try simp only [List.nil_append, List.cons_append, List.set_cons_zero, List.set_cons_succ] at hq); replace ho := hq; clear hq)
        | (refine go_skp_ex rfl (ho.xb 35 (k := 1) (x := .tmp 34) rfl rfl rfl rfl (by simp only [putSec, List.length_append, List.length_take, List.length_drop, hz, List.length_singleton]; omega)) ?_; rintro w1 hq; simp only [Act.put, List.setIfInBounds_toArray, List.set_cons_zero, List.set_cons_succ]; (try simp only [List.nil_append, List.cons_append, List.set_cons_zero, List.set_cons_succ] at hq); replace ho := hq; clear hq))
      rw [mkr2 h0 h1] at ho
      exact ⟨⟨2, by omega, rfl, ho⟩, by simp [intOf]⟩
    · simp only [Nat.reduceAdd, Nat.reduceEqDiff, if_false] at ho
      obtain ⟨n, hn⟩ : ∃ n, n = min s.size 28 := ⟨_, rfl⟩
      have hn1 : n ≤ s.size := by omega
      have hn1' : (n : Int) ≤ (s.size : Int) := by omega
      have hn0 : (0 : Int) ≤ (n : Int) := by omega
      have HN := Lib.hid hn
      have hz := mk1_len q
      clear hn
      go_upto_region 9 with (first
        | (refine go_skp_ex rfl (ho.xb 36 (k := 1) (x := .tmp 39) rfl rfl rfl rfl (by rw [hz]; omega)) ?_; rintro w1 hq; simp only [Act.put, List.setIfInBounds_toArray, List.set_cons_zero, List.set_cons_succ]; (try simp only [List.nil_append, List.cons_append, List.set_cons_zero, List.set_cons_succ] at hq); replace ho := hq; clear hq)
        | (refine go_val_ex rfl (ho.xcopystr (k := 1) (n := n) (x := .tmp 40) (y := .tmp 41) rfl rfl rfl rfl (by rw [putSec_len (by rw [hz]; simp), hz]; omega) HN.out.symm) ?_; rintro v w1 ⟨rfl, hq⟩; simp only [Act.put, List.setIfInBounds_toArray, List.set_cons_zero, List.set_cons_succ]; (try simp only [List.nil_append, List.cons_append, List.set_cons_zero, List.set_cons_succ] at hq); replace ho := hq; clear hq))
      have he : putSec (putSec (putSec (mk1 q) 36 [(s.size : Int)]) 4 (List.take 28 (strInts s))) 37 ((strInts (s.extract n s.size)).take 27) = copySec q (strInts s) := by
        have h := HN.out
        have hl := strInts_len s
        have e1 : (s.size : Int) = ((strInts s).length : Int) % 256 := by rw [hl]; omega
        have e2 : (strInts (s.extract n s.size)).take 27 = (strInts s).drop 28 := by
          rw [strInts_drop]
          by_cases h28 : s.size ≤ 28
          · rw [show n = s.size from by omega, List.drop_eq_nil_of_le (by omega), List.drop_eq_nil_of_le (by omega)]; rfl
          · rw [show n = 28 from by omega, List.take_of_length_le (by rw [List.length_drop, hl]; omega)]
        rw [e2, e1, mkr3, mk_final (by omega)]
      have HE := Lib.hid he
      have HX : Hid (min (s.extract n s.size).size 27 = s.size - n) := Lib.hid (by rw [ByteArray.size_extract]; have := HN.out; omega)
      have hlen : (putSec (putSec (mk1 q) 36 [(s.size : Int)]) 4 (List.take 28 (strInts s))).length = 64 := by
        rw [putSec_len, putSec_len, hz]
        · rw [hz]; simp
        · rw [putSec_len, hz]
          · simp; omega
          · rw [hz]; simp
      have hsec := hlen
      have HTB : Hid (w1.drew.there b5 37 (s.size - n)) := Lib.hid ((show Blk w1.drew b5 _ _ from (ho.blk (i := 1) rfl).1).there 37 _ (by rw [List.size_toArray, secVals_len, hlen]; have := HN.out; omega))
      have hod := ho.nw ((Nw.refl w1).drew)
      have HO2 := Lib.hid (hod.secPut (k := 1) (o := 37) (vs := (strInts (s.extract n s.size)).take 27) rfl (by rw [hlen, List.length_take, strInts_len]; omega))
      clear he hlen hod ho hsec
      -- <R9
      refine start_ (n := 5) (S := fun w' => w'.there b5 37 (s.size - n)) (ds := [4]) #[false, false, false, false, false] mixed rfl rfl (HTB.out) (fun hHeld => ?_)
      refine pure_ (i := 0) (N := some 43) (v := ?_) (a' := ?_) #[true, false, false, false, false] rfl rfl (by kernel_rfl) (fun _ _ _ h => h) (Or.inl ⟨by rfl, ?_⟩) ?_ ?_
      rotate_left
      · intro w'
        go_simp
        with_reducible rfl
      rotate_left
      · simp only [Act.put, List.setIfInBounds_toArray, List.set_cons_zero, List.set_cons_succ, i64_w, i32_w]
        rfl
      refine pure_ (i := 1) (N := some 44) (v := ?_) (a' := ?_) #[true, true, false, false, false] rfl rfl (by kernel_rfl) (fun _ _ _ h => h) (Or.inl ⟨by rfl, ?_⟩) ?_ ?_
      rotate_left
      · intro w'
        go_simp
        with_reducible rfl
      rotate_left
      · simp only [Act.put, List.setIfInBounds_toArray, List.set_cons_zero, List.set_cons_succ, i64_w, i32_w]
        rfl
      refine pure_ (i := 2) (N := some 45) (v := ?_) (a' := ?_) #[true, true, true, false, false] rfl rfl (by kernel_rfl) (fun _ _ _ h => h) (Or.inl ⟨by rfl, ?_⟩) ?_ ?_
      rotate_left
      · intro w'
        go_simp
        with_reducible rfl
      rotate_left
      · simp only [Act.put, List.setIfInBounds_toArray, List.set_cons_zero, List.set_cons_succ, i64_w, i32_w]
        rfl
      refine pure_ (i := 3) (N := some 46) (v := ?_) (a' := ?_) #[true, true, true, true, false] rfl rfl (by kernel_rfl) (fun _ _ _ h => h) (Or.inl ⟨by rfl, ?_⟩) ?_ ?_
      rotate_left
      · intro w'
        go_simp
        with_reducible rfl
      rotate_left
      · simp only [Act.put, List.setIfInBounds_toArray, List.set_cons_zero, List.set_cons_succ, i64_w, i32_w]
        rfl
      refine last_ (i := 4) (N := some 47) #[true, true, true, true, true] rfl rfl (by kernel_rfl) (by decide) (fun K hK => ?_)
      refine value_ (by rfl) rfl (ex_copy_str (b := b5) (p := 37) (dLen := 27) (dCap := 27) (t := s.extract n s.size) rfl uByteSlice sByteOne rfl rfl (by rw [HX.out]; exact hHeld)) ?_
      refine hK.out _ _ ?_
      clear hK K
      refine norm_ (a' := ?_) ?_ ?_
      rotate_left
      · show Act.put _ (some 47) _ = _
        simp only [Act.put, List.setIfInBounds_toArray, List.set_cons_zero, List.set_cons_succ, i64_w, i32_w]
        rfl
      refine done_ (by kernel_rfl) ?_
      -- R9>
      have ho := HO2.out
      rw [HE.out] at ho
      clear HO2 HTB HX HE
      generalize w1.drew.setCells b5 37 _ = w2 at *
      have hok : SecOk (copySec q (strInts s)) := copySec_ok q (strInts_ok s)
      simp only [List.set_cons_zero, List.set_cons_succ] at ho
      go_wp2_with (first
        | (refine go_val rfl (ho.xload (k := 1) (x := .tmp 5) rfl rfl rfl hok) ?_; simp only [Act.put, List.setIfInBounds_toArray, List.set_cons_zero, List.set_cons_succ])
        | (refine go_skp_ex rfl (ho.xstore (k := 0) (x := .tmp 4) (y := .tmp 48) rfl rfl rfl zeroSec_ok hok rfl) ?_; rintro w3 hq; simp only [Act.put, List.setIfInBounds_toArray, List.set_cons_zero, List.set_cons_succ]; (try simp only [List.nil_append, List.cons_append, List.set_cons_zero, List.set_cons_succ] at hq); replace ho := hq; clear hq))
      refine bodyPost_ret (results_sec_one (s := copySec q (strInts s)) rfl _ hok rfl (sec_range_of_blk (ho.blk (i := 0) rfl).1)) rfl ⟨rfl, ho.nw0⟩
    · omega
end
end Go.Proofs.Ytcaalfpfkalalaa
