/- The specification's Copy: the sector of a copy. -/
import Derived.Test.YtcaalfpfkalalaaS14
set_option linter.unusedVariables false
set_option linter.unusedSimpArgs false
set_option maxRecDepth 10000
set_option maxHeartbeats 4000000
namespace Go.Proofs.Ytcaalfpfkalalaa
open Go.RowKit Qd
open Go.Proofs.YtcaalfpfkalalaaW.PrintLast
/-- Where the byte k lies. -/
def cpPos (k : Nat) : Nat := if k < 28 then 4 + k else k + 9
/-- The sector behind k bytes. -/
def cpStage (q : Int) (bs : List Int) (k : Nat) : Sec := four q ++ padTo 28 (bs.take k) ++ four q ++ [(bs.length : Int) % 256] ++ padTo 27 ((bs.take k).drop 28)
theorem cpStage_zero (q : Int) (bs : List Int) : cpStage q bs 0 = mk2 q ((bs.length : Int) % 256) := by simp [cpStage, mk2, padTo]
theorem cpStage_end (q : Int) (bs : List Int) : cpStage q bs bs.length = copySec q bs := by simp [cpStage, copySec]
theorem cpStage_len (q : Int) (bs : List Int) (k : Nat) : (cpStage q bs k).length = 64 := by simp [cpStage, four_len, padTo_len]
theorem take_snoc {l : List Int} {k : Nat} (h : k < l.length) : l.take (k + 1) = l.take k ++ [l[k]] := by
  rw [List.take_add_one, List.getElem?_eq_getElem h]; rfl
theorem cpStep {q : Int} {bs : List Int} {k : Nat} (hk : k < bs.length) (h55 : bs.length ≤ 55) : putSec (cpStage q bs k) (cpPos k) [bs[k]] = cpStage q bs (k + 1) := by
  unfold cpPos
  split
  · next h =>
    have hl : (four q ++ bs.take k).length = 4 + k := by simp [four_len]; omega
    have e1 : cpStage q bs k = (four q ++ bs.take k) ++ List.replicate (28 - k) 0 ++ (four q ++ [(bs.length : Int) % 256] ++ padTo 27 []) := by
      unfold cpStage
      rw [List.drop_eq_nil_of_le (show (bs.take k).length ≤ 28 by simp; omega)]
      conv => lhs; unfold padTo
      rw [List.take_of_length_le (show (bs.take k).length ≤ 28 by simp; omega), show (bs.take k).length = k by simp; omega]
      simp [List.append_assoc, padTo]
    have e2 : cpStage q bs (k + 1) = (four q ++ bs.take k) ++ ([bs[k]] ++ List.replicate (28 - k - 1) 0) ++ (four q ++ [(bs.length : Int) % 256] ++ padTo 27 []) := by
      unfold cpStage
      rw [List.drop_eq_nil_of_le (show (bs.take (k + 1)).length ≤ 28 by simp; omega)]
      conv => lhs; unfold padTo
      rw [List.take_of_length_le (show (bs.take (k + 1)).length ≤ 28 by simp; omega), show (bs.take (k + 1)).length = k + 1 by simp; omega, take_snoc hk, show 28 - (k + 1) = 28 - k - 1 by omega]
      simp only [List.append_assoc, padTo, List.singleton_append]
    have := put_zeros (four q ++ bs.take k) (four q ++ [(bs.length : Int) % 256] ++ padTo 27 []) (28 - k) [bs[k]] (by simp; omega)
    rw [hl] at this
    rw [e1, e2, this]
    rfl
  · next h =>
    have hd : (bs.take k).take 28 = bs.take 28 := by rw [List.take_take, Nat.min_eq_left (by omega)]
    have hd2 : (bs.take (k + 1)).take 28 = bs.take 28 := by rw [List.take_take, Nat.min_eq_left (by omega)]
    obtain ⟨A, hA⟩ : ∃ A, A = four q ++ bs.take 28 ++ four q ++ [(bs.length : Int) % 256] := ⟨_, rfl⟩
    have hAl : A.length = 37 := by rw [hA]; simp [four_len]; omega
    have hl : (A ++ (bs.take k).drop 28).length = k + 9 := by rw [List.length_append, hAl]; simp; omega
    have e1 : cpStage q bs k = (A ++ (bs.take k).drop 28) ++ List.replicate (55 - k) 0 ++ [] := by
      unfold cpStage padTo
      rw [hd, hA, show 28 - (bs.take k).length = 0 by simp; omega, List.take_of_length_le (show ((bs.take k).drop 28).length ≤ 27 by simp; omega), show 27 - ((bs.take k).drop 28).length = 55 - k by simp; omega]
      simp [List.append_assoc]
    have e2 : cpStage q bs (k + 1) = (A ++ (bs.take k).drop 28) ++ ([bs[k]] ++ List.replicate (55 - k - 1) 0) ++ [] := by
      unfold cpStage padTo
      rw [hd2, hA, show 28 - (bs.take (k + 1)).length = 0 by simp; omega, List.take_of_length_le (show ((bs.take (k + 1)).drop 28).length ≤ 27 by simp; omega), show 27 - ((bs.take (k + 1)).drop 28).length = 55 - k - 1 by simp; omega,
        take_snoc hk, List.drop_append_of_le_length (show 28 ≤ (bs.take k).length by simp; omega)]
      simp [List.append_assoc]
    have := put_zeros (A ++ (bs.take k).drop 28) [] (55 - k) [bs[k]] (by simp; omega)
    rw [hl] at this
    rw [e1, e2, this]
    rfl
theorem uStr : Try.prog.underlying 9 = some .string := by kernel_rfl
theorem strInts_get {s : ByteArray} {k : Nat} (hk : k < s.size) : (strInts s)[k]'(by rw [strInts_len]; exact hk) = (s[k].toNat : Int) := by
  simp [strInts]; rfl
theorem ex_index_str {P : Program} {w : World} {ρ : Operand → Value} {o : Oper} {T : TypeId} {x y : Operand} {s : ByteArray} {k : Nat} (ho : o.op = .index T x y) (hu : P.underlying T = some .string) (hx : ρ x = .string s) (hy : ρ y = .int .i64 (k : Int)) (hk : k < s.size) :
    (execOp ρ o).run P w = .ok (.value (.int .u8 ((strInts s)[k]'(by rw [strInts_len]; exact hk)))) w := by
  rw [strInts_get hk]
  have e : s[(k : Int).toNat]? = some s[k] := by simp [hk]
  unfold execOp
  simp only [ho, hx, hy]
  simp [Instr.index, asIntOf, run_underlying hu, hk]
theorem mkc1 (q : Int) : putSec (putSec (putSec (putSec zeroSec 0 [q / 16777216 % 256]) 1 [q / 65536 % 256]) 2 [q / 256 % 256]) 3 [q % 256] = mk0 q := rfl
theorem mkc2 (q : Int) : putSec (putSec (putSec (putSec (mk0 q) 32 [q / 16777216 % 256]) 33 [q / 65536 % 256]) 34 [q / 256 % 256]) 35 [q % 256] = mk1 q := rfl
section
variable {w : World}
theorem copy_calls {q : Int} (h0 : 0 ≤ q) (h1 : q ≤ 4294967296) {s : ByteArray} (hs : s.size ≤ 55) : Calls Try.prog 33 #[.int .i64 q, .string s] w fun e w' => e = .returned (.agg (secVals (copySec q (strInts s))).toArray) ∧ Nw w w' := by
  have ho := Own.start w
  go_enter Try.func33, Try.ntmps33
  go_wp2_with (first
    | (refine go_val_ex rfl (ho.xallocAt 4 rfl rfl) ?_; rintro v w1 ⟨b4, rfl, hq⟩; simp only [Act.put, List.setIfInBounds_toArray, List.set_cons_zero, List.set_cons_succ]; (try simp only [List.nil_append, List.cons_append, List.set_cons_zero, List.set_cons_succ] at hq); replace ho := hq; clear hq)
    | (refine go_val_ex rfl (ho.xallocAt 5 rfl rfl) ?_; rintro v w1 ⟨b5, rfl, hq⟩; simp only [Act.put, List.setIfInBounds_toArray, List.set_cons_zero, List.set_cons_succ]; (try simp only [List.nil_append, List.cons_append, List.set_cons_zero, List.set_cons_succ] at hq); replace ho := hq; clear hq))
  go_loopw [6] (fun i wr => ∃ j : Nat, j ≤ 2 ∧ i = .int .i64 (j : Int) ∧ Own w wr [blkR b4 (secVals zeroSec).toArray 29, blkR b5 (secVals (if j = 0 then zeroSec else if j = 1 then mk0 q else mk1 q)).toArray 29])
    (fun i _ => 2 - (intOf i).toNat)
  case atStart => exact ⟨0, by omega, rfl, ho⟩
  case round =>
    clear ho
    obtain ⟨j, hj, rfl, ho⟩ := hrel
    rcases j with _ | _ | _ | j
    · simp only [if_true] at ho
      have hz := zeroSec_ok.1
      go_wp2_with (first
        | (refine go_skp_ex rfl (ho.xb 0 (k := 1) (x := .tmp 17) rfl rfl rfl rfl (by rw [hz]; omega)) ?_; rintro w1 hq; simp only [Act.put, List.setIfInBounds_toArray, List.set_cons_zero, List.set_cons_succ]; (try simp only [List.nil_append, List.cons_append, List.set_cons_zero, List.set_cons_succ] at hq); replace ho := hq; clear hq)
        | (refine go_skp_ex rfl (ho.xb 1 (k := 1) (x := .tmp 25) rfl rfl rfl rfl (by rw [putSec_len (by rw [hz]; simp), hz]; omega)) ?_; rintro w1 hq; simp only [Act.put, List.setIfInBounds_toArray, List.set_cons_zero, List.set_cons_succ]; (try simp only [List.nil_append, List.cons_append, List.set_cons_zero, List.set_cons_succ] at hq); replace ho := hq; clear hq)
        | (refine go_skp_ex rfl (ho.xb 2 (k := 1) (x := .tmp 33) rfl rfl rfl rfl (by rw [putSec_len (by rw [putSec_len (by rw [hz]; simp), hz]; simp), putSec_len (by rw [hz]; simp), hz]; omega)) ?_; rintro w1 hq; simp only [Act.put, List.setIfInBounds_toArray, List.set_cons_zero, List.set_cons_succ]; (try simp only [List.nil_append, List.cons_append, List.set_cons_zero, List.set_cons_succ] at hq); replace ho := hq; clear hq)
        | (refine go_skp_ex rfl (ho.xb 3 (k := 1) (x := .tmp 40) rfl rfl rfl rfl (by simp only [putSec, List.length_append, List.length_take, List.length_drop, hz, List.length_singleton]; omega)) ?_; rintro w1 hq; simp only [Act.put, List.setIfInBounds_toArray, List.set_cons_zero, List.set_cons_succ]; (try simp only [List.nil_append, List.cons_append, List.set_cons_zero, List.set_cons_succ] at hq); replace ho := hq; clear hq))
      rw [mkc1] at ho
      exact ⟨⟨1, by omega, rfl, ho⟩, by simp [intOf]⟩
    · simp only [Nat.zero_add, Nat.one_ne_zero, if_false, if_true] at ho
      have hz := mk0_len q
      go_wp2_with (first
        | (refine go_skp_ex rfl (ho.xb 32 (k := 1) (x := .tmp 17) rfl rfl rfl rfl (by rw [hz]; omega)) ?_; rintro w1 hq; simp only [Act.put, List.setIfInBounds_toArray, List.set_cons_zero, List.set_cons_succ]; (try simp only [List.nil_append, List.cons_append, List.set_cons_zero, List.set_cons_succ] at hq); replace ho := hq; clear hq)
        | (refine go_skp_ex rfl (ho.xb 33 (k := 1) (x := .tmp 25) rfl rfl rfl rfl (by simp only [putSec, List.length_append, List.length_take, List.length_drop, hz, List.length_singleton]; omega)) ?_; rintro w1 hq; simp only [Act.put, List.setIfInBounds_toArray, List.set_cons_zero, List.set_cons_succ]; (try simp only [List.nil_append, List.cons_append, List.set_cons_zero, List.set_cons_succ] at hq); replace ho := hq; clear hq)
        | (refine go_skp_ex rfl (ho.xb 34 (k := 1) (x := .tmp 33) rfl rfl rfl rfl (by simp only [putSec, List.length_append, List.length_take, List.length_drop, hz, List.length_singleton]; omega)) ?_; rintro w1 hq; simp only [Act.put, List.setIfInBounds_toArray, List.set_cons_zero, List.set_cons_succ]; (try simp only [List.nil_append, List.cons_append, List.set_cons_zero, List.set_cons_succ] at hq); replace ho := hq; clear hq)
        | (refine go_skp_ex rfl (ho.xb 35 (k := 1) (x := .tmp 40) rfl rfl rfl rfl (by simp only [putSec, List.length_append, List.length_take, List.length_drop, hz, List.length_singleton]; omega)) ?_; rintro w1 hq; simp only [Act.put, List.setIfInBounds_toArray, List.set_cons_zero, List.set_cons_succ]; (try simp only [List.nil_append, List.cons_append, List.set_cons_zero, List.set_cons_succ] at hq); replace ho := hq; clear hq))
      rw [mkc2] at ho
      exact ⟨⟨2, by omega, rfl, ho⟩, by simp [intOf]⟩
    · simp only [Nat.reduceAdd, Nat.reduceEqDiff, if_false] at ho
      have hz := mk1_len q
      have hs0 : (0 : Int) ≤ (s.size : Int) := Int.natCast_nonneg _
      go_wp2_with (refine go_skp_ex rfl (ho.xb 36 (k := 1) (x := .tmp 44) rfl rfl rfl rfl (by rw [hz]; omega)) ?_; rintro w1 hq; simp only [Act.put, List.setIfInBounds_toArray, List.set_cons_zero, List.set_cons_succ]; (try simp only [List.nil_append, List.cons_append, List.set_cons_zero, List.set_cons_succ] at hq); replace ho := hq; clear hq)
      have e0 : putSec (mk1 q) 36 [(s.size : Int)] = cpStage q (strInts s) 0 := by
        rw [cpStage_zero, strInts_len, ← mkr3, show (s.size : Int) % 256 = (s.size : Int) by omega]
      rw [e0] at ho
      go_loopw [7] (fun i wr => ∃ k : Nat, k ≤ s.size ∧ i = .int .i64 (k : Int) ∧ Own w wr [blkR b4 (secVals zeroSec).toArray 29, blkR b5 (secVals (cpStage q (strInts s) k)).toArray 29])
        (fun i _ => s.size - (intOf i).toNat)
      case atStart => exact ⟨0, by omega, rfl, ho⟩
      case round =>
        clear ho
        obtain ⟨k, hk, rfl, ho⟩ := hrel
        have hk0 : (0 : Int) ≤ (k : Int) := Int.natCast_nonneg k
        by_cases hks : k < s.size
        · have hks' : (k : Int) < (s.size : Int) := by omega
          have hst := cpStep (q := q) (bs := strInts s) (k := k) (by rw [strInts_len]; exact hks) (by rw [strInts_len]; exact hs)
          have HL := Lib.hid (cpStage_len q (strInts s) k)
          by_cases h28 : k < 28
          · have h28' : (k : Int) < 28 := by omega
            have hp : cpPos k = 4 + k := if_pos h28
            rw [hp] at hst
            have HST := Lib.hid hst
            clear hst hp
            go_wp2_with (first
              | (refine go_val rfl (ex_index_str (x := .tmp 55) (y := .tmp 56) (k := k) rfl uStr rfl rfl hks) ?_; simp only [Act.put, List.setIfInBounds_toArray, List.set_cons_zero, List.set_cons_succ])
              | (refine go_skp_ex rfl (ho.xb (4 + k) (k := 1) (x := .tmp 58) rfl rfl rfl rfl (by rw [HL.out]; omega)) ?_; rintro w1 hq; simp only [Act.put, List.setIfInBounds_toArray, List.set_cons_zero, List.set_cons_succ]; (try simp only [List.nil_append, List.cons_append, List.set_cons_zero, List.set_cons_succ] at hq); replace ho := hq; clear hq))
            rw [HST.out] at ho
            exact ⟨⟨k + 1, by omega, by go_num, ho⟩, by simp [intOf]; omega⟩
          · have h28' : 28 ≤ (k : Int) := by omega
            have hp : cpPos k = 37 + k - 28 := by unfold cpPos; rw [if_neg h28]; omega
            rw [hp] at hst
            have HST := Lib.hid hst
            clear hst hp
            go_wp2_with (first
              | (refine go_val rfl (ex_index_str (x := .tmp 62) (y := .tmp 63) (k := k) rfl uStr rfl rfl hks) ?_; simp only [Act.put, List.setIfInBounds_toArray, List.set_cons_zero, List.set_cons_succ])
              | (refine go_skp_ex rfl (ho.xb (37 + k - 28) (k := 1) (x := .tmp 65) rfl rfl rfl rfl (by rw [HL.out]; omega)) ?_; rintro w1 hq; simp only [Act.put, List.setIfInBounds_toArray, List.set_cons_zero, List.set_cons_succ]; (try simp only [List.nil_append, List.cons_append, List.set_cons_zero, List.set_cons_succ] at hq); replace ho := hq; clear hq))
            rw [HST.out] at ho
            exact ⟨⟨k + 1, by omega, by go_num, ho⟩, by simp [intOf]; omega⟩
        · have hks' : ¬ (k : Int) < (s.size : Int) := by omega
          have e : k = s.size := by omega
          subst e
          have e2 : cpStage q (strInts s) s.size = copySec q (strInts s) := by
            have := cpStage_end q (strInts s)
            rw [strInts_len] at this
            exact this
          rw [e2] at ho
          have hok : SecOk (copySec q (strInts s)) := copySec_ok q (strInts_ok s)
          clear e2
          go_wp2_with (first
            | (refine go_val rfl (ho.xload (k := 1) (x := .tmp 5) rfl rfl rfl hok) ?_; simp only [Act.put, List.setIfInBounds_toArray, List.set_cons_zero, List.set_cons_succ])
            | (refine go_skp_ex rfl (ho.xstore (k := 0) (x := .tmp 4) (y := .tmp 66) rfl rfl rfl zeroSec_ok hok rfl) ?_; rintro w3 hq; simp only [Act.put, List.setIfInBounds_toArray, List.set_cons_zero, List.set_cons_succ]; (try simp only [List.nil_append, List.cons_append, List.set_cons_zero, List.set_cons_succ] at hq); replace ho := hq; clear hq))
          refine bodyPost_ret (results_sec_one (s := copySec q (strInts s)) rfl _ hok rfl (sec_range_of_blk (ho.blk (i := 0) rfl).1)) rfl ⟨rfl, ho.nw0⟩
    · omega
end
end Go.Proofs.Ytcaalfpfkalalaa
