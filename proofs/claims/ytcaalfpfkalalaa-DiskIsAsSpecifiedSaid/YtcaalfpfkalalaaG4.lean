/- quietuslaw21.sanity: the walk. -/
import Derived.Test.YtcaalfpfkalalaaG3
import Derived.Test.YtcaalfpfkalalaaO3
set_option linter.unusedVariables false
set_option linter.unusedSimpArgs false
set_option maxRecDepth 10000
set_option maxHeartbeats 4000000
namespace Go.Proofs.Ytcaalfpfkalalaa
open Go.RowKit Qd
open Go.Proofs.YtcaalfpfkalalaaW.PrintLast
attribute [local irreducible] diskR blkR secVals SecOk DiskIn KeepIs Own sa sb sc sd0 sd1 sd2 sd3 sd4 sd5 sd6 sd7 sd8 swant
theorem len22 : ([2] : List Int).length < 1099511627776 := by simp
theorem same22 : decide (([2] : List Int) = [2]) = true := rfl
section
variable {w0 w : World} {rs : List Res}
theorem sanity21_calls : Calls Try.prog 18 #[] w fun e w' => e = .returned (.bool true) ∧ Nw w w' := by
  have ho := Own.start w
  have hsa := sa_ok
  have hsb := sb_ok
  go_enter Try.func18, Try.ntmps18
  go_wp2_with (first
    | (go_at_call 11; refine (ho.filled_ _).mono ?_; rintro e w' ⟨rfl, hq⟩; simp only [sa_eq, sb_eq]; (try simp only [List.nil_append, List.cons_append, List.set_cons_zero, List.set_cons_succ] at hq); replace ho := hq; clear hq)
    | (refine go_val_ex rfl (ho.xallocAt 1 rfl rfl) ?_; rintro v w1 ⟨b1, rfl, hq⟩; simp only [Act.put, List.setIfInBounds_toArray, List.set_cons_zero, List.set_cons_succ]; (try simp only [List.nil_append, List.cons_append, List.set_cons_zero, List.set_cons_succ] at hq); replace ho := hq; clear hq)
    | (refine go_val_ex rfl (ho.xallocAt 2 rfl rfl) ?_; rintro v w1 ⟨b2, rfl, hq⟩; simp only [Act.put, List.setIfInBounds_toArray, List.set_cons_zero, List.set_cons_succ]; (try simp only [List.nil_append, List.cons_append, List.set_cons_zero, List.set_cons_succ] at hq); replace ho := hq; clear hq)
    | (refine go_val_ex rfl (ho.xallocAt 4 rfl rfl) ?_; rintro v w1 ⟨b4, rfl, hq⟩; simp only [Act.put, List.setIfInBounds_toArray, List.set_cons_zero, List.set_cons_succ]; (try simp only [List.nil_append, List.cons_append, List.set_cons_zero, List.set_cons_succ] at hq); replace ho := hq; clear hq)
    | (refine go_val_ex rfl (ho.xallocAt 6 rfl rfl) ?_; rintro v w1 ⟨b6, rfl, hq⟩; simp only [Act.put, List.setIfInBounds_toArray, List.set_cons_zero, List.set_cons_succ]; (try simp only [List.nil_append, List.cons_append, List.set_cons_zero, List.set_cons_succ] at hq); replace ho := hq; clear hq)
    | (refine go_skp_ex rfl (ho.xstore (k := 0) (s' := sa) (x := .tmp 1) (y := .tmp 17) rfl rfl rfl zeroSec_ok hsa rfl) ?_; rintro w1 hq; simp only [Act.put, List.setIfInBounds_toArray, List.set_cons_zero, List.set_cons_succ]; (try simp only [List.nil_append, List.cons_append, List.set_cons_zero, List.set_cons_succ] at hq); replace ho := hq; clear hq)
    | (refine go_skp_ex rfl (ho.xstore (k := 1) (s' := sb) (x := .tmp 2) (y := .tmp 18) rfl rfl rfl zeroSec_ok hsb rfl) ?_; rintro w1 hq; simp only [Act.put, List.setIfInBounds_toArray, List.set_cons_zero, List.set_cons_succ]; (try simp only [List.nil_append, List.cons_append, List.set_cons_zero, List.set_cons_succ] at hq); replace ho := hq; clear hq)
    | (refine go_vg (by rfl) (ho.xload (k := 0) (x := .tmp 1) rfl rfl rfl hsa) ?_; simp only [Act.put, List.setIfInBounds_toArray, List.set_cons_zero, List.set_cons_succ])
    | (go_at_call 8; refine (ho.new_ 4 (by omega) (by omega)).mono ?_; rintro e w' ⟨p, rfl, hq⟩; rw [sf0] at hq; (try simp only [List.nil_append, List.cons_append, List.set_cons_zero, List.set_cons_succ] at hq); replace ho := hq; clear hq)
    | (go_at_call 10; refine (ho.write_ (k := 2) rfl _ (by first | exact hsa | exact hsb) (by first | exact sfst.1 | exact sfst.2.1 | exact sfst.2.2.1 | exact sfst.2.2.2.1 | exact sfst.2.2.2.2)).mono ?_; rintro e w' ⟨rfl, hq⟩; (first | (rw [sf1] at hq; rw [sf1]) | (rw [sf4] at hq; rw [sf4])); (try simp only [List.nil_append, List.cons_append, List.set_cons_zero, List.set_cons_succ] at hq); replace ho := hq; clear hq)
    | (go_at_call 14; refine (ho.read_ (k := 2) rfl _).mono ?_; rintro e w' ⟨rfl, hq⟩; rw [sf2]; (try simp only [List.nil_append, List.cons_append, List.set_cons_zero, List.set_cons_succ] at hq); replace ho := hq; clear hq)
    | (refine go_skp_ex rfl (ho.xstore (k := 3) (s' := sa) (x := .tmp 4) (y := .tmp 31) rfl rfl rfl zeroSec_ok hsa rfl) ?_; rintro w1 hq; simp only [Act.put, List.setIfInBounds_toArray, List.set_cons_zero, List.set_cons_succ]; (try simp only [List.nil_append, List.cons_append, List.set_cons_zero, List.set_cons_succ] at hq); replace ho := hq; clear hq)
    | (refine go_vg (by rfl) (ho.xload (k := 3) (s := sa) (x := .tmp 4) rfl rfl rfl hsa) ?_; simp only [Act.put, List.setIfInBounds_toArray, List.set_cons_zero, List.set_cons_succ])
    | (refine go_vg (by rfl) (ho.xload (k := 1) (s := sb) (x := .tmp 2) rfl rfl rfl hsb) ?_; simp only [Act.put, List.setIfInBounds_toArray, List.set_cons_zero, List.set_cons_succ])
    | (refine go_vg (by rfl) (exn_sec (a := sa) (b := sa) (x := .tmp 36) (y := .tmp 37) rfl hsa hsa rfl rfl) ?_; simp only [Act.put, List.setIfInBounds_toArray, List.set_cons_zero, List.set_cons_succ]; simp only [decide_true, Bool.not_true])
    | (go_at_call 42; refine (ho.open_ (k := 2) rfl sfst2.1).mono ?_; rintro e w' ⟨a, c, rfl, hk1, hq⟩; rw [sf3] at hk1 ⊢; (try simp only [List.nil_append, List.cons_append, List.set_cons_zero, List.set_cons_succ] at hq); replace ho := hq; clear hq)
    | (refine go_vg_ex (by rfl) (ho.xint (i := 2) rfl rfl) ?_; rintro v w1 ⟨b43, rfl, hk2, hnw, hq⟩; replace hk1 := hk1.nw hnw; clear hnw; simp only [Act.put, List.setIfInBounds_toArray, List.set_cons_zero, List.set_cons_succ]; (try simp only [List.nil_append, List.cons_append, List.set_cons_zero, List.set_cons_succ] at hq); replace ho := hq; clear hq)
    | (go_at_call 41; refine (ho.same_ (la := [2]) (lb := [2]) hk1 hk2 len22 len22).mono ?_; rintro e w' ⟨rfl, hq⟩; rw [same22]; (try simp only [List.nil_append, List.cons_append, List.set_cons_zero, List.set_cons_succ] at hq); replace ho := hq; clear hq; clear hk1 hk2)
    | (refine go_skp_ex rfl (ho.xstore (k := 5) (s' := sb) (x := .tmp 6) (y := .tmp 53) rfl rfl rfl zeroSec_ok hsb rfl) ?_; rintro w1 hq; simp only [Act.put, List.setIfInBounds_toArray, List.set_cons_zero, List.set_cons_succ]; (try simp only [List.nil_append, List.cons_append, List.set_cons_zero, List.set_cons_succ] at hq); replace ho := hq; clear hq))
  have HL32 : Hid (((secVals sa).take 32).length = 32) := Lib.hid (by rw [List.length_take, sec64 hsa]; rfl)
  have k1 := (ho.blk (i := 0) rfl).1
  have k6 := (ho.blk (i := 5) rfl).1
  have HRB : Hid (w1.drew.rangeAt b1 0 ((secVals sa).take 32)) := Lib.hid ((show Blk w1.drew b1 _ _ from k1).range 0 _ (fun j hj => by
    have hj' : j < 32 := by rw [HL32.out] at hj; exact hj
    rw [Nat.zero_add, List.getElem?_toArray, List.getElem?_take_of_lt hj']))
  have HTB : Hid (w1.drew.there b6 32 32) := Lib.hid ((show Blk w1.drew b6 _ _ from k6).there 32 32 (by rw [List.size_toArray, sec64 hsb]; omega))
  have hod := ho.nw ((Nw.refl w1).drew)
  have HO2 := Lib.hid (hod.set (i := 5) (o := 32) (vs := (secVals sa).take 32) (cs' := (secVals st).toArray) rfl (by rw [List.size_toArray, sec64 hsb, HL32.out]; omega) st_eq)
  clear k1 k6 hod
  -- <R9
  refine start_ (n := 3) (S := fun w' => w'.rangeAt b1 0 ((secVals sa).take 32) ∧ w'.there b6 32 32) (ds := [2]) #[false, false, false] mixed rfl rfl ⟨HRB.out, HTB.out⟩ (fun hHeld => ?_)
  refine pure_ (i := 0) (N := some 54) (v := ?_) (a' := ?_) #[true, false, false] rfl rfl (by kernel_rfl) (fun _ _ _ h => h) (Or.inl ⟨by rfl, ?_⟩) ?_ ?_
  rotate_left
  · intro w'
    go_simp
    with_reducible rfl
  rotate_left
  · simp only [Act.put, List.setIfInBounds_toArray, List.set_cons_zero, List.set_cons_succ, i64_w, i32_w]
    rfl
  refine pure_ (i := 1) (N := some 55) (v := ?_) (a' := ?_) #[true, true, false] rfl rfl (by kernel_rfl) (fun _ _ _ h => h) (Or.inl ⟨by rfl, ?_⟩) ?_ ?_
  rotate_left
  · intro w'
    go_simp
    with_reducible rfl
  rotate_left
  · simp only [Act.put, List.setIfInBounds_toArray, List.set_cons_zero, List.set_cons_succ, i64_w, i32_w]
    rfl
  refine last_ (i := 2) (N := some 56) #[true, true, true] rfl rfl (by kernel_rfl) (by decide) (fun K hK => ?_)
  obtain ⟨s0, s1⟩ := hHeld
  refine value_ (by rfl) rfl (ex_copy (b := b6) (p := 32) (dLen := 32) (dCap := 32) (sb := b1) (so := 0) (sLen := 32) (sCap := 64) (size := 1) (cs := (secVals sa).take 32) rfl uByteSlice sByteOne rfl rfl HL32.out s0 (by rw [HL32.out]; exact s1) (fun v hv => secVals_one sa v (List.mem_of_mem_take hv))) ?_
  refine hK.out _ _ ?_
  clear hK K
  refine norm_ (a' := ?_) ?_ ?_
  rotate_left
  · show Act.put _ (some 56) _ = _
    simp only [Act.put, List.setIfInBounds_toArray, List.set_cons_zero, List.set_cons_succ, i64_w, i32_w]
    rfl
  refine done_ (by kernel_rfl) ?_
  -- R9>
  have hq := HO2.out
  clear HO2 HRB HTB HL32
  generalize w1.drew.setCells b6 32 ((secVals sa).take 32) = w2 at *
  (try simp only [List.nil_append, List.cons_append, List.set_cons_zero, List.set_cons_succ] at hq); replace ho := hq; clear hq
  have hst := st_ok
  go_wp2_with (first
    | (refine go_val rfl (exb_sec rfl) ?_; simp only [Act.put, List.setIfInBounds_toArray, List.set_cons_zero, List.set_cons_succ])
    | (refine go_vg (by rfl) (ho.xload (k := 0) (x := .tmp 1) rfl rfl rfl hsa) ?_; simp only [Act.put, List.setIfInBounds_toArray, List.set_cons_zero, List.set_cons_succ])
    | (refine go_vg (by rfl) (ho.xload (k := 1) (x := .tmp 2) rfl rfl rfl hsb) ?_; simp only [Act.put, List.setIfInBounds_toArray, List.set_cons_zero, List.set_cons_succ])
    | (refine go_vg (by rfl) (ho.xload (k := 5) (x := .tmp 6) rfl rfl rfl hst) ?_; simp only [Act.put, List.setIfInBounds_toArray, List.set_cons_zero, List.set_cons_succ])
    | (refine go_val_ex rfl (ho.xsecs (l := [zeroSec, sa, sb, zeroSec, st]) rfl (by decide) (by decide) want_ok rfl rfl) ?_; rintro v w3 ⟨b62, rfl, hnw, hq⟩; clear hnw; simp only [Act.put, List.setIfInBounds_toArray, List.set_cons_zero, List.set_cons_succ]; (try simp only [List.nil_append, List.cons_append, List.set_cons_zero, List.set_cons_succ] at hq); replace ho := hq; clear hq))
  go_loopw [64] (fun i wr => ∃ j : Nat, j ≤ 5 ∧ i = .int .i64 (j : Int) ∧ Own w wr [blkR b1 (secVals sa).toArray 29, blkR b2 (secVals sb).toArray 29, diskR p sd2, blkR b4 (secVals sa).toArray 29,
      blkR b43 #[Value.int IntKind.i64 2] 3, blkR b6 (secVals st).toArray 29, blkR b62 (manyVals [zeroSec, sa, sb, zeroSec, st]).toArray 29])
    (fun i _ => 5 - (intOf i).toNat)
  case atStart => exact ⟨0, by omega, rfl, ho⟩
  case round =>
    clear ho
    obtain ⟨j, hj, rfl, ho⟩ := hrel
    have hj0 : (0 : Int) ≤ (j : Int) := Int.natCast_nonneg j
    by_cases hj5 : j < 5
    · have hr := (ho.blk (i := 6) rfl).1
      obtain ⟨sj, hsj⟩ : ∃ s, s = swl.getD j zeroSec := ⟨_, rfl⟩
      have hsw : SecOk sj := by rw [hsj]; exact getD_ok want_ok j
      have HRJ : ∀ W : World, Blk W b62 (manyVals [zeroSec, sa, sb, zeroSec, st]).toArray 29 → W.rangeAt b62 (j * 64) (secVals sj) := fun W hW => by
        rw [hsj]
        exact many_sub (l := swl) want_ok (hW.range 0 _ (fun j _ => by rw [Nat.zero_add, List.getElem?_toArray]; rfl)) hj5
      have HRR := Lib.hid (HRJ _ hr)
      obtain ⟨ej, hej⟩ : ∃ e : Int, e = if j = 3 then 14 else 0 := ⟨_, rfl⟩
      have hrd := swl_read j hj5
      rw [← hsj, ← hej] at hrd
      have hee : (ej == 14) = ((j : Int) == 3) := by
        rw [hej]
        by_cases h3 : j = 3
        · subst h3; rfl
        · rw [if_neg h3]
          have : ¬ ((j : Int) = 3) := by omega
          simp [this]
      have HRD := Lib.hid hrd
      have hlen1 : ([(j : Int)] : List Int).length < 1099511627776 := by simp
      have hk64 : ∀ x ∈ [(j : Int)], -9223372036854775808 ≤ x ∧ x ≤ 9223372036854775807 := fun x hx => by simp at hx; subst hx; omega
      have hj5' : (j : Int) < 5 := by omega
      clear hr hsj HRJ hej hrd
      go_wp2_with (first
        | (refine go_val rfl (exl_sec (s := sj) (x := .tmp 67) (b := b62) (k := j * 64) rfl rfl hsw HRR.out) ?_; simp only [Act.put, List.setIfInBounds_toArray, List.set_cons_zero, List.set_cons_succ])
        | (refine go_val_ex rfl (ho.xallocAt 8 rfl rfl) ?_; rintro v w1 ⟨b8, rfl, hq⟩; simp only [Act.put, List.setIfInBounds_toArray, List.set_cons_zero, List.set_cons_succ]; (try simp only [List.nil_append, List.cons_append, List.set_cons_zero, List.set_cons_succ] at hq); replace ho := hq; clear hq)
        | (refine go_skp_ex rfl (ho.xstore (k := 7) (s' := sj) (x := .tmp 8) (y := .tmp 68) rfl rfl rfl zeroSec_ok hsw rfl) ?_; rintro w1 hq; simp only [Act.put, List.setIfInBounds_toArray, List.set_cons_zero, List.set_cons_succ]; (try simp only [List.nil_append, List.cons_append, List.set_cons_zero, List.set_cons_succ] at hq); replace ho := hq; clear hq)
        | (refine go_val_ex rfl (ho.xint (i := (j : Int)) rfl rfl) ?_; rintro v w1 ⟨b71, rfl, hk1, hnw, hq⟩; clear hnw; simp only [Act.put, List.setIfInBounds_toArray, List.set_cons_zero, List.set_cons_succ]; (try simp only [List.nil_append, List.cons_append, List.set_cons_zero, List.set_cons_succ] at hq); replace ho := hq; clear hq)
        | (go_at_call 26; refine (ho.crash_ (k := 2) rfl hk64 hlen1 sfst2.2 hk1).mono ?_; rintro e w' ⟨q, rfl, hq⟩; clear hk1; (try simp only [List.nil_append, List.cons_append, List.set_cons_zero, List.set_cons_succ] at hq); replace ho := hq; clear hq)
        | (go_at_call 14; refine (ho.read_ (k := 9) rfl _).mono ?_; rintro e w' ⟨rfl, hq⟩; rw [HRD.out]; (try simp only [List.nil_append, List.cons_append, List.set_cons_zero, List.set_cons_succ] at hq); replace ho := hq; clear hq)
        | (refine go_val_ex rfl (ho.xallocAt 10 rfl rfl) ?_; rintro v w1 ⟨b10, rfl, hq⟩; simp only [Act.put, List.setIfInBounds_toArray, List.set_cons_zero, List.set_cons_succ]; (try simp only [List.nil_append, List.cons_append, List.set_cons_zero, List.set_cons_succ] at hq); replace ho := hq; clear hq)
        | (refine go_skp_ex rfl (ho.xstore (k := 10) (s' := sj) (x := .tmp 10) (y := .tmp 78) rfl rfl rfl zeroSec_ok hsw rfl) ?_; rintro w1 hq; simp only [Act.put, List.setIfInBounds_toArray, List.set_cons_zero, List.set_cons_succ]; (try simp only [List.nil_append, List.cons_append, List.set_cons_zero, List.set_cons_succ] at hq); replace ho := hq; clear hq)
        | (refine go_val rfl (ho.xload (k := 10) (x := .tmp 10) rfl rfl rfl hsw) ?_; simp only [Act.put, List.setIfInBounds_toArray, List.set_cons_zero, List.set_cons_succ])
        | (refine go_val rfl (ho.xload (k := 7) (x := .tmp 8) rfl rfl rfl hsw) ?_; simp only [Act.put, List.setIfInBounds_toArray, List.set_cons_zero, List.set_cons_succ])
        | (refine go_vg (by rfl) (exn_sec (a := sj) (b := sj) (x := .tmp 80) (y := .tmp 81) rfl hsw hsw rfl rfl) ?_; simp only [Act.put, List.setIfInBounds_toArray, List.set_cons_zero, List.set_cons_succ]; simp only [decide_true, Bool.not_true])
        | (go_at_call 36; refine (ho.size_ (k := 9) rfl).mono ?_; rintro e w' ⟨rfl, rfl⟩; rw [swl_len])
        | (go_at_call 42; refine (ho.open_ (k := 9) rfl (swl_steps _ _)).mono ?_; rintro e w' ⟨a, c, rfl, _, hq⟩; rw [swl_open]; (try simp only [List.nil_append, List.cons_append, List.set_cons_zero, List.set_cons_succ] at hq); replace ho := hq; clear hq))
      refine ⟨?_, ?_⟩
      · repeat apply Exists.intro
        refine ⟨?_, rfl⟩
        exact ⟨j + 1, by omega, by go_num, ho.left (l2 := [_, _, _, _])⟩
      · simp [intOf]; omega
    · have hsc := sc_ok
      go_wp2_with (first
        | (go_at_call 23; refine (ho.sync_ (k := 2) rfl sfst.2.2.1).mono ?_; rintro e w' ⟨rfl, hq⟩; rw [sf5] at hq; rw [sf5]; (try simp only [List.nil_append, List.cons_append, List.set_cons_zero, List.set_cons_succ] at hq); replace ho := hq; clear hq)
        | (go_at_call 25; refine (ho.steps_ (k := 2) rfl).mono ?_; rintro e w' ⟨rfl, rfl⟩; rw [sf6])
        | (go_at_call 43; refine (ho.flip_ (k := 2) rfl _ _).mono ?_; rintro e w' ⟨rfl, hq⟩; rw [sf7] at hq; rw [sf7]; (try simp only [List.nil_append, List.cons_append, List.set_cons_zero, List.set_cons_succ] at hq); replace ho := hq; clear hq)
        | (refine go_skp_ex rfl (ho.xbyte (k := 1) (j := 1) (u := 0) (cs' := (secVals sc).toArray) (x := .tmp 115) rfl rfl rfl rfl (by rw [List.size_toArray, sec64 hsb]; omega) sc_eq) ?_; rintro w1 hq; simp only [Act.put, List.setIfInBounds_toArray, List.set_cons_zero, List.set_cons_succ]; (try simp only [List.nil_append, List.cons_append, List.set_cons_zero, List.set_cons_succ] at hq); replace ho := hq; clear hq)
        | (go_at_call 14; refine (ho.read_ (k := 2) rfl _).mono ?_; rintro e w' ⟨rfl, hq⟩; (first | rw [sf8] | rw [sf10] | rw [sf12] | rw [sf16]); (try simp only [List.nil_append, List.cons_append, List.set_cons_zero, List.set_cons_succ] at hq); replace ho := hq; clear hq)
        | (refine go_skp_ex rfl (ho.xstore (k := 3) (s' := sc) (x := .tmp 4) (y := .tmp 119) rfl rfl rfl hsa hsc rfl) ?_; rintro w1 hq; simp only [Act.put, List.setIfInBounds_toArray, List.set_cons_zero, List.set_cons_succ]; (try simp only [List.nil_append, List.cons_append, List.set_cons_zero, List.set_cons_succ] at hq); replace ho := hq; clear hq)
        | (refine go_skp_ex rfl (ho.xstore (k := 3) (s' := sa) (x := .tmp 4) (y := .tmp 149) rfl rfl rfl hsc hsa rfl) ?_; rintro w1 hq; simp only [Act.put, List.setIfInBounds_toArray, List.set_cons_zero, List.set_cons_succ]; (try simp only [List.nil_append, List.cons_append, List.set_cons_zero, List.set_cons_succ] at hq); replace ho := hq; clear hq)
        | (refine go_val_ex rfl (ho.xallocAt 13 rfl rfl) ?_; rintro v w1 ⟨b13, rfl, hq⟩; simp only [Act.put, List.setIfInBounds_toArray, List.set_cons_zero, List.set_cons_succ]; (try simp only [List.nil_append, List.cons_append, List.set_cons_zero, List.set_cons_succ] at hq); replace ho := hq; clear hq)
        | (refine go_skp_ex rfl (ho.xstore (k := 7) (s' := zeroSec) (x := .tmp 13) (y := .tmp 136) rfl rfl rfl zeroSec_ok zeroSec_ok rfl) ?_; rintro w1 hq; simp only [Act.put, List.setIfInBounds_toArray, List.set_cons_zero, List.set_cons_succ]; (try simp only [List.nil_append, List.cons_append, List.set_cons_zero, List.set_cons_succ] at hq); replace ho := hq; clear hq)
        | (refine go_vg (by rfl) (ho.xload (k := 3) (x := .tmp 4) rfl rfl rfl (by first | exact hsc | exact hsa)) ?_; simp only [Act.put, List.setIfInBounds_toArray, List.set_cons_zero, List.set_cons_succ])
        | (refine go_vg (by rfl) (ho.xload (k := 1) (x := .tmp 2) rfl rfl rfl hsc) ?_; simp only [Act.put, List.setIfInBounds_toArray, List.set_cons_zero, List.set_cons_succ])
        | (refine go_vg (by rfl) (ho.xload (k := 0) (x := .tmp 1) rfl rfl rfl hsa) ?_; simp only [Act.put, List.setIfInBounds_toArray, List.set_cons_zero, List.set_cons_succ])
        | (refine go_vg (by rfl) (exe_sec (a := sc) (b := sc) (x := .tmp 124) (y := .tmp 125) rfl hsc hsc rfl rfl) ?_; simp only [Act.put, List.setIfInBounds_toArray, List.set_cons_zero, List.set_cons_succ]; simp only [decide_true])
        | (refine go_vg (by rfl) (exe_sec (a := sa) (b := sa) (x := .tmp 156) (y := .tmp 157) rfl hsa hsa rfl rfl) ?_; simp only [Act.put, List.setIfInBounds_toArray, List.set_cons_zero, List.set_cons_succ]; simp only [decide_true])
        | (go_at_call 29; refine (ho.rot_ (k := 2) rfl _).mono ?_; rintro e w' ⟨rfl, hq⟩; rw [sf9] at hq; rw [sf9]; (try simp only [List.nil_append, List.cons_append, List.set_cons_zero, List.set_cons_succ] at hq); replace ho := hq; clear hq)
        | (go_at_call 10; refine (ho.write_ (k := 2) rfl _ hsa (by first | exact sfst.2.2.2.1 | exact sfst.2.2.2.2)).mono ?_; rintro e w' ⟨rfl, hq⟩; (first | (rw [sf11] at hq; rw [sf11]) | (rw [sf14] at hq; rw [sf14])); (try simp only [List.nil_append, List.cons_append, List.set_cons_zero, List.set_cons_succ] at hq); replace ho := hq; clear hq)
        | (go_at_call 22; refine (ho.arm_ (k := 2) rfl _ (by decide)).mono ?_; rintro e w' ⟨rfl, hq⟩; rw [sf13] at hq; (try simp only [List.nil_append, List.cons_append, List.set_cons_zero, List.set_cons_succ] at hq); replace ho := hq; clear hq)
        | (go_at_call 24; refine (ho.down_ (k := 2) rfl).mono ?_; rintro e w' ⟨rfl, rfl⟩; rw [sf15]))
      go_ret
      exact ⟨rfl, ho.nw0⟩
end
end Go.Proofs.Ytcaalfpfkalalaa
