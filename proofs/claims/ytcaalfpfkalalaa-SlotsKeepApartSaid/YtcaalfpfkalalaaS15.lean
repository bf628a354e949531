/- slots: Open. -/
import Derived.Test.YtcaalfpfkalalaaS14
set_option linter.unusedVariables false
set_option linter.unusedSimpArgs false
set_option maxRecDepth 10000
set_option maxHeartbeats 8000000
namespace Go.Proofs.Ytcaalfpfkalalaa
open Go.RowKit Qd
open Go.Proofs.YtcaalfpfkalalaaW.PrintLast
attribute [local irreducible] diskR blkR rowR objR restR bytesR intsR secVals SecOk DiskIn Own foundVals feOf
section
variable {w0 w : World} {rs : List Res} {k j p q : Nat} {d : Disk}
def OpenPost (w0 : World) (rs : List Res) (k p : Nat) (first n : Int) (r : Disk × Int × List Int) (e : Ending) (w' : World) : Prop :=
  (r.2.1 ≠ 0 → e = .returned (.tuple #[.pointer none, .slice none 0 0, .int .i64 r.2.1]) ∧ Own w0 w' (rs.set k (diskR p r.1))) ∧
  (r.2.1 = 0 → ∃ q v, e = .returned (.tuple #[.pointer (some ⟨q, 0, none⟩), v, .int .i64 0]) ∧
    Own w0 w' (rs.set k (diskR p r.1) ++ [blkR q #[.pointer (some ⟨p, 0, none⟩), .int .i64 first, .int .i64 n] 93, intsR v r.2.2]))
theorem Own.opens_ (h : Own w0 w rs) (hk : rs[k]? = some (diskR p d)) {first n : Int} (hst : d.steps < 1099511000000) :
    Calls Try.prog 13 #[.pointer (some ⟨p, 0, none⟩), .int .i64 first, .int .i64 n] w fun e w' => OpenPost w0 rs k p first n (d.openSlots first n) e w' := by
  have hsame := list_set_same hk
  have hdok := h.okOf hk
  have hkl : k < rs.length := (List.getElem?_eq_some_iff.1 hk).1
  obtain ⟨N, hN⟩ : ∃ N, N = d.cells.length := ⟨_, rfl⟩
  have hsz : Calls Try.prog 36 #[.pointer (some ⟨p, 0, none⟩)] w fun e w' => e = .returned (.int .i64 (N : Int)) ∧ w' = w := by rw [hN]; exact h.size_ hk
  have HSZ := Lib.hid hsz
  have hN1 : N ≤ 65536 := by rw [hN]; exact hdok.len
  clear hsz
  cases hp : partOk N first n with
  | false =>
    have hpost : ∀ e w', (e = .returned (.tuple #[.pointer none, .slice none 0 0, .int .i64 1]) ∧ Own w0 w' rs) → OpenPost w0 rs k p first n (d.openSlots first n) e w' := fun e w' ⟨h1, h2⟩ => by
      have hr : d.openSlots first n = (d, 1, []) := by unfold Disk.openSlots; rw [← hN, hp]; rfl
      rw [hr]
      exact ⟨fun _ => ⟨h1, by simp only []; rw [hsame]; exact h2⟩, fun h0 => absurd h0 (show ¬ (1 : Int) = 0 by decide)⟩
    refine Calls.mono (R := fun e w' => e = .returned (.tuple #[.pointer none, .slice none 0 0, .int .i64 1]) ∧ Own w0 w' rs) ?_ (fun e w' hh => hpost e w' hh)
    clear hsame hpost hN
    have hpk : ¬ (1 ≤ n ∧ 0 ≤ first ∧ first + 2 * n ≤ N) := fun c => by rw [partOk_iff.2 c] at hp; cases hp
    clear hp
    by_cases h1 : n < 1
    · have hb1 : decide (n < 1) = true := decide_eq_true h1
      clear h1 hpk
      go_enter Try.func13, Try.ntmps13
      go_wp2
      go_ret3
      exact ⟨rfl, h⟩
    · have hb1 : decide (n < 1) = false := decide_eq_false h1
      by_cases h2 : first < 0
      · have hb2 : decide (first < 0) = true := decide_eq_true h2
        clear h1 h2 hpk
        go_enter Try.func13, Try.ntmps13
        go_wp2
        go_ret3
        exact ⟨rfl, h⟩
      · have hb2 : decide (first < 0) = false := decide_eq_false h2
        by_cases h3 : first > (N : Int)
        · have hb3 : decide (first > (N : Int)) = true := decide_eq_true h3
          clear h1 h2 h3 hpk
          go_enter Try.func13, Try.ntmps13
          go_wp2_with (first
            | (go_at_call 36; refine HSZ.out.mono ?_; rintro e w' ⟨rfl, rfl⟩))
          go_ret3
          exact ⟨rfl, h⟩
        · have hb3 : decide (first > (N : Int)) = false := decide_eq_false h3
          have hb4 : decide (n > wrap64 ((wrap64 ((N : Int) - first)).tdiv 2)) = true := decide_eq_true (by rw [half_eq (by omega) (by omega) hN1]; omega)
          clear h1 h2 h3 hpk
          go_enter Try.func13, Try.ntmps13
          go_wp2_with (first
            | (go_at_call 36; refine HSZ.out.mono ?_; rintro e w' ⟨rfl, rfl⟩))
          go_ret3
          exact ⟨rfl, h⟩
  | true =>
    obtain ⟨p1, p2, p3⟩ := partOk_iff.1 hp
    obtain ⟨M, rfl⟩ : ∃ M : Nat, n = (M : Int) := ⟨n.toNat, by omega⟩
    obtain ⟨r, hr⟩ : ∃ r, r = d.openSlots first (M : Int) := ⟨_, rfl⟩
    rw [← hr]
    have hr2 : r = d.openFrom first M 0 [] := by rw [hr]; unfold Disk.openSlots; rw [← hN, hp]; simp
    have hM1 : first + 2 * (M : Int) ≤ 65536 := by omega
    have hM2 : M ≤ 65536 := by omega
    have hb1 : decide ((M : Int) < 1) = false := decide_eq_false (by omega)
    have hb2 : decide (first < 0) = false := decide_eq_false (by omega)
    have hb3 : decide (first > (N : Int)) = false := decide_eq_false (by omega)
    have hb4 : decide ((M : Int) > wrap64 ((wrap64 ((N : Int) - first)).tdiv 2)) = false := decide_eq_false (by rw [half_eq (by omega) (by omega) hN1]; omega)
    have ho := h.focus hk
    have HEND : Hid (∀ (w' : World) (d' : Disk), Own w0 w' [diskR p d', restR rs (· = k)] → Own w0 w' (rs.set k (diskR p d'))) := Lib.hid (fun _ _ h' => h'.back)
    have HEND2 : Hid (∀ (w' : World) (d' : Disk) (a b : Res), Own w0 w' [diskR p d', restR rs (· = k), a, b] → Own w0 w' (rs.set k (diskR p d') ++ [a, b])) := Lib.hid (fun _ _ _ _ h' => h'.backApp hkl)
    have HR := Lib.hid hr2
    have P2 := Lib.hid p2
    have PM := Lib.hid hM1
    clear h hk hr hr2 hp hsame hN p1 p2 p3 hM1 hkl hdok
    go_enter Try.func13, Try.ntmps13
    go_upto_region 6 with (first
      | (go_at_call 36; refine HSZ.out.mono ?_; rintro e w' ⟨rfl, rfl⟩)
      | (refine go_val_ex rfl (ho.xbox 41 rfl rfl (cs := [.pointer (some ⟨p, 0, none⟩), .int .i64 first, .int .i64 (M : Int)]) rfl) ?_; rintro v w1 ⟨bq, rfl, hq⟩; simp only [Act.put, List.setIfInBounds_toArray, List.set_cons_zero, List.set_cons_succ]; (try simp only [List.nil_append, List.cons_append, List.set_cons_zero, List.set_cons_succ] at hq); replace ho := hq; clear hq))
    clear hb1 hb2 hb3 hb4 HSZ
    replace ho := ho.intsNil
    simp only [List.cons_append, List.nil_append] at ho
    go_loopw [10, 43] (fun v i wr => ∃ (x : Nat) (D : Disk) (lost : List Int), x ≤ M ∧ i = .int .i64 (x : Int) ∧ r = D.openFrom first (M - x) (x : Int) lost ∧ lost.length ≤ x ∧ D.steps ≤ d.steps + 3 * x ∧
        Own w0 wr [diskR p D, restR rs (· = k), blkR bq #[.pointer (some ⟨p, 0, none⟩), .int .i64 first, .int .i64 (M : Int)] 93, intsR v lost])
      (fun _ i _ => M - (intOf i).toNat)
    case atStart => exact ⟨0, d, [], by omega, rfl, by rw [HR.out]; rfl, by simp, by simp, ho⟩
    case round =>
      clear ho HR
      obtain ⟨x, D, lost, hx, rfl, hr, hll, hds, ho⟩ := hrel
      have hx0 : (0 : Int) ≤ (x : Int) := Int.natCast_nonneg x
      have hD : D.steps < 1099511300000 := by omega
      by_cases hxM : x < M
      · have hxM' : (x : Int) < (M : Int) := by omega
        have HF1 : Hid (first ≤ 65536) := Lib.hid (by have := PM.out; omega)
        have HX1 : Hid ((x : Int) ≤ 65536) := Lib.hid (by omega)
        have hDok := ho.okOf (k := 0) rfl
        obtain ⟨y, hy⟩ : ∃ y, y = D.slot first x := ⟨_, rfl⟩
        have hyok := slot_ok hDok first x
        rw [← hy] at hyok
        obtain ⟨hy1, hy2⟩ := hyok
        have hxs : (((x + 1 : Nat) : Int)) = (x : Int) + 1 := by omega
        rw [show M - x = (M - (x + 1)) + 1 by omega, openFrom_succ, open1_eq, ← hy, ← hxs] at hr
        have HX := Lib.hid hy
        clear hy hDok hxs
        by_cases hye : y.e = 0
        · rw [if_neg (show ¬ (y.e ≠ 0) by simp [hye])] at hr
          obtain ⟨ba, hba⟩ : ∃ b, b = (if y.second = true then first + 2 * (x : Int) + 1 else first + 2 * x) := ⟨_, rfl⟩
          obtain ⟨oa, hoa⟩ : ∃ b, b = (if y.second = true then first + 2 * (x : Int) else first + 2 * x + 1) := ⟨_, rfl⟩
          have hsp : ∀ e, SlotPost D first x e → e = .returned (.tuple #[.agg (foundVals y.best.s ba y.best.good).toArray, .agg (foundVals y.other.s oa y.other.good).toArray, .int .i64 0]) := fun e he => by
            unfold SlotPost at he
            rw [← HX.out, if_neg (by simp [hye]), ← hba, ← hoa] at he
            exact he
          have HSP := Lib.hid hsp
          have HOA := Lib.hid hoa
          clear hsp hba hoa hye
          have hF : wrap64 (first + wrap64 (2 * (x : Int))) = first + 2 * x := by
            have e1 : wrap64 (2 * (x : Int)) = 2 * x := by rw [← i64_w]; exact IntWalk.i64_in _ (by omega)
            rw [e1, ← i64_w]; exact IntWalk.i64_in _ (by have := P2.out; have := PM.out; omega)
          have HF := Lib.hid hF
          have HF2 : Hid (wrap64 (first + 2 * (x : Int)) = first + 2 * x) := Lib.hid (by rw [← i64_w]; exact IntWalk.i64_in _ (by have := P2.out; have := PM.out; omega))
          clear hF
          cases hg : y.best.good with
          | false =>
            rw [hg] at hr HSP
            rw [if_neg (show ¬ (false = true) by simp)] at hr
            obtain ⟨u, hu⟩ : ∃ u, u = D.format (first + 2 * x) 1 := ⟨_, rfl⟩
            obtain ⟨D1, e1⟩ := u
            have hst1 : D1.steps ≤ D.steps + 3 := by have := format1_steps D (first + 2 * x); rw [← hu] at this; exact this
            have HW1 := Lib.hid (congrArg Prod.fst hu.symm)
            have HW2 := Lib.hid (congrArg Prod.snd hu.symm)
            simp only [] at HW1 HW2
            rw [← hu] at hr
            simp only [] at hr
            clear hu hg
            by_cases he1 : e1 = 0
            · rw [if_neg (by simp [he1])] at hr
              have hb1 : (e1 != 0) = false := by simp [he1]
              have HR := Lib.hid hr
              clear hr he1
              go_wp2_with (first
                  | (refine go_val rfl (exl_part (x := .tmp 49) (b := bq) rfl rfl (ho.blk (i := 2) rfl).1) ?_; simp only [Act.put, List.setIfInBounds_toArray, List.set_cons_zero, List.set_cons_succ])
                  | (go_at_call 38; refine (ho.slot_ (k := 0) rfl P2.out HF1.out hx0 HX1.out).mono ?_; rintro e w' ⟨he, hq⟩; rw [HSP.out e he]; clear he; (try simp only [List.nil_append, List.cons_append, List.set_cons_zero, List.set_cons_succ] at hq); replace ho := hq; clear hq)
                  | (refine go_val_ex rfl (ho.xafound 12 rfl rfl) ?_; rintro v w1 ⟨b12, rfl, hq⟩; simp only [Act.put, List.setIfInBounds_toArray, List.set_cons_zero, List.set_cons_succ]; (try simp only [List.nil_append, List.cons_append, List.set_cons_zero, List.set_cons_succ] at hq); replace ho := hq; clear hq)
                  | (refine go_val_ex rfl (ho.xafound 13 rfl rfl) ?_; rintro v w1 ⟨b13, rfl, hq⟩; simp only [Act.put, List.setIfInBounds_toArray, List.set_cons_zero, List.set_cons_succ]; (try simp only [List.nil_append, List.cons_append, List.set_cons_zero, List.set_cons_succ] at hq); replace ho := hq; clear hq)
                  | (refine go_skp_ex rfl (ho.xsfound (k := 4) (s' := y.best.s) (x := .tmp 12) (y := .tmp 53) rfl rfl rfl zeroSec_ok hy1 rfl) ?_; rintro w1 hq; simp only [Act.put, List.setIfInBounds_toArray, List.set_cons_zero, List.set_cons_succ]; (try simp only [List.nil_append, List.cons_append, List.set_cons_zero, List.set_cons_succ] at hq); replace ho := hq; clear hq)
                  | (refine go_skp_ex rfl (ho.xsfound (k := 5) (s' := y.other.s) (x := .tmp 13) (y := .tmp 54) rfl rfl rfl zeroSec_ok hy2 rfl) ?_; rintro w1 hq; simp only [Act.put, List.setIfInBounds_toArray, List.set_cons_zero, List.set_cons_succ]; (try simp only [List.nil_append, List.cons_append, List.set_cons_zero, List.set_cons_succ] at hq); replace ho := hq; clear hq)
                  | (refine go_val rfl (ho.xlfbool (k := 4) (x := .tmp 59) rfl rfl rfl hy1) ?_; simp only [Act.put, List.setIfInBounds_toArray, List.set_cons_zero, List.set_cons_succ])
                  | (refine go_val_ex rfl (ho.xint (x := .tmp 69) rfl rfl) ?_; rintro v w1 ⟨bi, rfl, -, -, hq⟩; simp only [Act.put, List.setIfInBounds_toArray, List.set_cons_zero, List.set_cons_succ]; (try simp only [List.nil_append, List.cons_append, List.set_cons_zero, List.set_cons_succ] at hq); replace ho := hq; clear hq)
                  | (refine go_val_ex rfl (ho.xints (k := 3) (s := .tmp 68) (x := .tmp 70) (ks := [(x : Int)]) rfl rfl rfl rfl rfl ((ho.blk (i := 6) rfl).1.range 0 _ (fun j _ => by simp [intVals])) (by omega)) ?_; rintro v w1 ⟨-, hq⟩; simp only [Act.put, List.setIfInBounds_toArray, List.set_cons_zero, List.set_cons_succ]; (try simp only [List.nil_append, List.cons_append, List.set_cons_zero, List.set_cons_succ] at hq); replace ho := hq; clear hq)
                  | (go_at_call 12; refine (ho.format_ (k := 0) rfl (by omega)).mono ?_; rintro e w' ⟨rfl, hq⟩; (first | rw [HF.out, HW1.out] at hq | rw [HF2.out, HW1.out] at hq | rw [HW1.out] at hq); (first | rw [HF.out, HW2.out] | rw [HF2.out, HW2.out] | rw [HW2.out]); (try simp only [List.nil_append, List.cons_append, List.set_cons_zero, List.set_cons_succ] at hq); replace ho := hq; clear hq))
              exact ⟨⟨x + 1, D1, lost ++ [(x : Int)], by omega, by go_num, by rw [HR.out]; rfl, by simp; omega, by omega, ho.pick [0, 1, 2, 3] (by decide) rfl⟩, by simp [intOf]; omega⟩
            · rw [if_pos he1] at hr
              have hb1 : (e1 != 0) = true := by simp [he1]
              have HR := Lib.hid hr
              have HE := Lib.hid he1
              clear hr he1
              go_wp2_with (first
                  | (refine go_val rfl (exl_part (x := .tmp 49) (b := bq) rfl rfl (ho.blk (i := 2) rfl).1) ?_; simp only [Act.put, List.setIfInBounds_toArray, List.set_cons_zero, List.set_cons_succ])
                  | (go_at_call 38; refine (ho.slot_ (k := 0) rfl P2.out HF1.out hx0 HX1.out).mono ?_; rintro e w' ⟨he, hq⟩; rw [HSP.out e he]; clear he; (try simp only [List.nil_append, List.cons_append, List.set_cons_zero, List.set_cons_succ] at hq); replace ho := hq; clear hq)
                  | (refine go_val_ex rfl (ho.xafound 12 rfl rfl) ?_; rintro v w1 ⟨b12, rfl, hq⟩; simp only [Act.put, List.setIfInBounds_toArray, List.set_cons_zero, List.set_cons_succ]; (try simp only [List.nil_append, List.cons_append, List.set_cons_zero, List.set_cons_succ] at hq); replace ho := hq; clear hq)
                  | (refine go_val_ex rfl (ho.xafound 13 rfl rfl) ?_; rintro v w1 ⟨b13, rfl, hq⟩; simp only [Act.put, List.setIfInBounds_toArray, List.set_cons_zero, List.set_cons_succ]; (try simp only [List.nil_append, List.cons_append, List.set_cons_zero, List.set_cons_succ] at hq); replace ho := hq; clear hq)
                  | (refine go_skp_ex rfl (ho.xsfound (k := 4) (s' := y.best.s) (x := .tmp 12) (y := .tmp 53) rfl rfl rfl zeroSec_ok hy1 rfl) ?_; rintro w1 hq; simp only [Act.put, List.setIfInBounds_toArray, List.set_cons_zero, List.set_cons_succ]; (try simp only [List.nil_append, List.cons_append, List.set_cons_zero, List.set_cons_succ] at hq); replace ho := hq; clear hq)
                  | (refine go_skp_ex rfl (ho.xsfound (k := 5) (s' := y.other.s) (x := .tmp 13) (y := .tmp 54) rfl rfl rfl zeroSec_ok hy2 rfl) ?_; rintro w1 hq; simp only [Act.put, List.setIfInBounds_toArray, List.set_cons_zero, List.set_cons_succ]; (try simp only [List.nil_append, List.cons_append, List.set_cons_zero, List.set_cons_succ] at hq); replace ho := hq; clear hq)
                  | (refine go_val rfl (ho.xlfbool (k := 4) (x := .tmp 59) rfl rfl rfl hy1) ?_; simp only [Act.put, List.setIfInBounds_toArray, List.set_cons_zero, List.set_cons_succ])
                  | (refine go_val_ex rfl (ho.xint (x := .tmp 69) rfl rfl) ?_; rintro v w1 ⟨bi, rfl, -, -, hq⟩; simp only [Act.put, List.setIfInBounds_toArray, List.set_cons_zero, List.set_cons_succ]; (try simp only [List.nil_append, List.cons_append, List.set_cons_zero, List.set_cons_succ] at hq); replace ho := hq; clear hq)
                  | (refine go_val_ex rfl (ho.xints (k := 3) (s := .tmp 68) (x := .tmp 70) (ks := [(x : Int)]) rfl rfl rfl rfl rfl ((ho.blk (i := 6) rfl).1.range 0 _ (fun j _ => by simp [intVals])) (by omega)) ?_; rintro v w1 ⟨-, hq⟩; simp only [Act.put, List.setIfInBounds_toArray, List.set_cons_zero, List.set_cons_succ]; (try simp only [List.nil_append, List.cons_append, List.set_cons_zero, List.set_cons_succ] at hq); replace ho := hq; clear hq)
                  | (go_at_call 12; refine (ho.format_ (k := 0) rfl (by omega)).mono ?_; rintro e w' ⟨rfl, hq⟩; (first | rw [HF.out, HW1.out] at hq | rw [HF2.out, HW1.out] at hq | rw [HW1.out] at hq); (first | rw [HF.out, HW2.out] | rw [HF2.out, HW2.out] | rw [HW2.out]); (try simp only [List.nil_append, List.cons_append, List.set_cons_zero, List.set_cons_succ] at hq); replace ho := hq; clear hq))
              go_ret3
              rw [HR.out]
              exact ⟨fun _ => ⟨rfl, HEND.out _ _ (ho.pick [0, 1] (by decide) rfl)⟩, fun h0 => absurd h0 HE.out⟩
          | true =>
            have hheal : (if (true : Bool) = false ∨ (y.other.good = true ∧ y.other.s = y.best.s) then (D, 0) else D.wsync oa y.best.s) = D.heal first x := by
              unfold Disk.heal Both.otherAt
              simp only []
              rw [← HX.out, HOA.out, hg]
            rw [hg] at hr HSP
            rw [if_pos rfl] at hr
            obtain ⟨u, hu⟩ : ∃ u, u = D.heal first x := ⟨_, rfl⟩
            obtain ⟨D1, e1⟩ := u
            have hst1 : D1.steps ≤ D.steps + 2 := by have := heal_steps D first x; rw [← hu] at this; exact this
            rw [← hu] at hr hheal
            simp only [] at hr
            have HW1 := Lib.hid (congrArg Prod.fst hheal)
            have HW2 := Lib.hid (congrArg Prod.snd hheal)
            simp only [] at HW1 HW2
            have HDS : Hid (D.steps < 1099511627000) := Lib.hid (by omega)
            clear hu hg hheal
            by_cases he1 : e1 = 0
            · rw [if_neg (by simp [he1])] at hr
              have hb1 : (e1 != 0) = false := by simp [he1]
              have HR := Lib.hid hr
              clear hr he1
              go_upto_region 12 with (first
                  | (refine go_val rfl (exl_part (x := .tmp 49) (b := bq) rfl rfl (ho.blk (i := 2) rfl).1) ?_; simp only [Act.put, List.setIfInBounds_toArray, List.set_cons_zero, List.set_cons_succ])
                  | (go_at_call 38; refine (ho.slot_ (k := 0) rfl P2.out HF1.out hx0 HX1.out).mono ?_; rintro e w' ⟨he, hq⟩; rw [HSP.out e he]; clear he; (try simp only [List.nil_append, List.cons_append, List.set_cons_zero, List.set_cons_succ] at hq); replace ho := hq; clear hq)
                  | (refine go_val_ex rfl (ho.xafound 12 rfl rfl) ?_; rintro v w1 ⟨b12, rfl, hq⟩; simp only [Act.put, List.setIfInBounds_toArray, List.set_cons_zero, List.set_cons_succ]; (try simp only [List.nil_append, List.cons_append, List.set_cons_zero, List.set_cons_succ] at hq); replace ho := hq; clear hq)
                  | (refine go_val_ex rfl (ho.xafound 13 rfl rfl) ?_; rintro v w1 ⟨b13, rfl, hq⟩; simp only [Act.put, List.setIfInBounds_toArray, List.set_cons_zero, List.set_cons_succ]; (try simp only [List.nil_append, List.cons_append, List.set_cons_zero, List.set_cons_succ] at hq); replace ho := hq; clear hq)
                  | (refine go_skp_ex rfl (ho.xsfound (k := 4) (s' := y.best.s) (x := .tmp 12) (y := .tmp 53) rfl rfl rfl zeroSec_ok hy1 rfl) ?_; rintro w1 hq; simp only [Act.put, List.setIfInBounds_toArray, List.set_cons_zero, List.set_cons_succ]; (try simp only [List.nil_append, List.cons_append, List.set_cons_zero, List.set_cons_succ] at hq); replace ho := hq; clear hq)
                  | (refine go_skp_ex rfl (ho.xsfound (k := 5) (s' := y.other.s) (x := .tmp 13) (y := .tmp 54) rfl rfl rfl zeroSec_ok hy2 rfl) ?_; rintro w1 hq; simp only [Act.put, List.setIfInBounds_toArray, List.set_cons_zero, List.set_cons_succ]; (try simp only [List.nil_append, List.cons_append, List.set_cons_zero, List.set_cons_succ] at hq); replace ho := hq; clear hq)
                  | (refine go_val rfl (ho.xlfbool (k := 4) (x := .tmp 59) rfl rfl rfl hy1) ?_; simp only [Act.put, List.setIfInBounds_toArray, List.set_cons_zero, List.set_cons_succ]))
              have HC : Hid (∀ w', Own w0 w' [diskR p D, restR rs (· = k), blkR bq #[.pointer (some ⟨p, 0, none⟩), .int .i64 first, .int .i64 (M : Int)] 93, intsR u10 lost, blkR b12 (foundVals y.best.s ba true).toArray 95, blkR b13 (foundVals y.other.s oa y.other.good).toArray 95] → Calls Try.prog 39 #[.agg #[.pointer (some ⟨p, 0, none⟩), .int .i64 first, .int .i64 (M : Int)], .agg (foundVals y.best.s ba true).toArray, .agg (foundVals y.other.s oa y.other.good).toArray] w' fun e w'' => e = .returned (.int .i64 e1) ∧ Own w0 w'' [diskR p D1, restR rs (· = k), blkR bq #[.pointer (some ⟨p, 0, none⟩), .int .i64 first, .int .i64 (M : Int)] 93, intsR u10 lost, blkR b12 (foundVals y.best.s ba true).toArray 95, blkR b13 (foundVals y.other.s oa y.other.good).toArray 95]) :=
                Lib.hid (fun w' s0 => (s0.heal_ (k := 0) rfl first (M : Int) ba oa true y.other.good hy1 hy2 HDS.out).mono (fun e w'' ⟨h1, h2⟩ => ⟨by rw [h1, HW2.out], by rw [HW1.out] at h2; exact h2⟩))
              refine start_ (n := 8) (S := fun w' => Own w0 w' [diskR p D, restR rs (· = k), blkR bq #[.pointer (some ⟨p, 0, none⟩), .int .i64 first, .int .i64 (M : Int)] 93, intsR u10 lost, blkR b12 (foundVals y.best.s ba true).toArray 95, blkR b13 (foundVals y.other.s oa y.other.good).toArray 95]) (ds := [6]) #[false, false, false, false, false, false, false, false] mixed rfl rfl ((ho.nw ((Nw.refl _).drew))) (fun hHeld => ?_)
              refine pure_ (i := 0) (N := some 61) (v := ?_) (a' := ?_) #[true, false, false, false, false, false, false, false] rfl rfl (by kernel_rfl) (fun _ _ _ h => h) (Or.inl ⟨by rfl, ?_⟩) ?_ ?_
              rotate_left
              · intro w'
                go_simp
                with_reducible rfl
              rotate_left
              · simp only [Act.put, List.setIfInBounds_toArray, List.set_cons_zero, List.set_cons_succ, i64_w, i32_w]
                rfl
              refine pure_ (i := 1) (N := some 62) (v := ?_) (a' := ?_) #[true, true, false, false, false, false, false, false] rfl rfl (by kernel_rfl) (fun _ _ _ h => h) (Or.inl ⟨by rfl, ?_⟩) ?_ ?_
              rotate_left
              · intro w'
                go_simp
                with_reducible rfl
              rotate_left
              · simp only [Act.put, List.setIfInBounds_toArray, List.set_cons_zero, List.set_cons_succ, i64_w, i32_w]
                rfl
              refine pure_ (i := 2) (N := some 63) (v := ?_) (a' := ?_) #[true, true, true, false, false, false, false, false] rfl rfl (by kernel_rfl) (fun _ _ _ h => h) (Or.inl ⟨by rfl, ?_⟩) ?_ ?_
              rotate_left
              · intro w'
                go_simp
                with_reducible rfl
              rotate_left
              · simp only [Act.put, List.setIfInBounds_toArray, List.set_cons_zero, List.set_cons_succ, i64_w, i32_w]
                rfl
              refine take_ (i := 3) (N := some 64) (v := .agg #[.pointer (some ⟨p, 0, none⟩), .int .i64 first, .int .i64 (M : Int)]) (a' := ?_) #[true, true, true, true, false, false, false, false] rfl rfl (by kernel_rfl) (fun _ _ _ h => h) (Or.inl ⟨by rfl, ?_⟩) hHeld ?_ ?_
              · intro w' s0
                exact exl_part (b := bq) rfl rfl (s0.blk (i := 2) rfl).1
              rotate_left
              · simp only [Act.put, List.setIfInBounds_toArray, List.set_cons_zero, List.set_cons_succ, i64_w, i32_w]
                rfl
              refine take_ (i := 4) (N := some 65) (v := .agg (foundVals y.best.s ba true).toArray) (a' := ?_) #[true, true, true, true, true, false, false, false] rfl rfl (by kernel_rfl) (fun _ _ _ h => h) (Or.inl ⟨by rfl, ?_⟩) hHeld ?_ ?_
              · intro w' s0
                exact s0.xlfound (k := 4) rfl rfl rfl hy1
              rotate_left
              · simp only [Act.put, List.setIfInBounds_toArray, List.set_cons_zero, List.set_cons_succ, i64_w, i32_w]
                rfl
              refine take_ (i := 5) (N := some 66) (v := .agg (foundVals y.other.s oa y.other.good).toArray) (a' := ?_) #[true, true, true, true, true, true, false, false] rfl rfl (by kernel_rfl) (fun _ _ _ h => h) (Or.inl ⟨by rfl, ?_⟩) hHeld ?_ ?_
              · intro w' s0
                exact s0.xlfound (k := 5) rfl rfl rfl hy2
              rotate_left
              · simp only [Act.put, List.setIfInBounds_toArray, List.set_cons_zero, List.set_cons_succ, i64_w, i32_w]
                rfl
              refine last_ (i := 6) (N := some 67) #[true, true, true, true, true, true, true, false] rfl rfl (by kernel_rfl) (by decide) (fun K hK => ?_)
              have s0 := hHeld
              refine goes_ Try.func39 (by kernel_rfl) rfl #[.agg #[.pointer (some ⟨p, 0, none⟩), .int .i64 first, .int .i64 (M : Int)], .agg (foundVals y.best.s ba true).toArray, .agg (foundVals y.other.s oa y.other.good).toArray] (by rfl) rfl rfl (by simp only [List.map_toArray, List.map_cons, List.map_nil]; rfl) ?_
              with_reducible refine ((HC.out _ s0)).mono ?_
              rintro e w5 ⟨rfl, hq⟩
              refine ⟨_, rfl, ?_⟩
              refine hK.out _ _ ?_
              clear hK K
              refine norm_ (a' := ?_) ?_ ?_
              rotate_left
              · show Act.put _ (some 67) _ = _
                simp only [Act.put, List.setIfInBounds_toArray, List.set_cons_zero, List.set_cons_succ, i64_w, i32_w]
                rfl
              refine pure_ (i := 7) (N := some 14) (v := ?_) (a' := ?_) #[true, true, true, true, true, true, true, true] rfl rfl (by kernel_rfl) (fun _ _ _ h => h) (Or.inl ⟨by rfl, ?_⟩) ?_ ?_
              rotate_left
              · intro w'
                go_simp
                with_reducible rfl
              rotate_left
              · simp only [Act.put, List.setIfInBounds_toArray, List.set_cons_zero, List.set_cons_succ, i64_w, i32_w]
                rfl
              refine done_ (by kernel_rfl) ?_
              (try simp only [List.nil_append, List.cons_append, List.set_cons_zero, List.set_cons_succ] at hq); replace ho := hq; clear hq
              clear hHeld s0
              go_wp2
              exact ⟨⟨x + 1, D1, lost, by omega, by go_num, by rw [HR.out]; rfl, by omega, by omega, ho.pick [0, 1, 2, 3] (by decide) rfl⟩, by simp [intOf]; omega⟩
            · rw [if_pos he1] at hr
              have hb1 : (e1 != 0) = true := by simp [he1]
              have HR := Lib.hid hr
              have HE := Lib.hid he1
              clear hr he1
              go_upto_region 12 with (first
                  | (refine go_val rfl (exl_part (x := .tmp 49) (b := bq) rfl rfl (ho.blk (i := 2) rfl).1) ?_; simp only [Act.put, List.setIfInBounds_toArray, List.set_cons_zero, List.set_cons_succ])
                  | (go_at_call 38; refine (ho.slot_ (k := 0) rfl P2.out HF1.out hx0 HX1.out).mono ?_; rintro e w' ⟨he, hq⟩; rw [HSP.out e he]; clear he; (try simp only [List.nil_append, List.cons_append, List.set_cons_zero, List.set_cons_succ] at hq); replace ho := hq; clear hq)
                  | (refine go_val_ex rfl (ho.xafound 12 rfl rfl) ?_; rintro v w1 ⟨b12, rfl, hq⟩; simp only [Act.put, List.setIfInBounds_toArray, List.set_cons_zero, List.set_cons_succ]; (try simp only [List.nil_append, List.cons_append, List.set_cons_zero, List.set_cons_succ] at hq); replace ho := hq; clear hq)
                  | (refine go_val_ex rfl (ho.xafound 13 rfl rfl) ?_; rintro v w1 ⟨b13, rfl, hq⟩; simp only [Act.put, List.setIfInBounds_toArray, List.set_cons_zero, List.set_cons_succ]; (try simp only [List.nil_append, List.cons_append, List.set_cons_zero, List.set_cons_succ] at hq); replace ho := hq; clear hq)
                  | (refine go_skp_ex rfl (ho.xsfound (k := 4) (s' := y.best.s) (x := .tmp 12) (y := .tmp 53) rfl rfl rfl zeroSec_ok hy1 rfl) ?_; rintro w1 hq; simp only [Act.put, List.setIfInBounds_toArray, List.set_cons_zero, List.set_cons_succ]; (try simp only [List.nil_append, List.cons_append, List.set_cons_zero, List.set_cons_succ] at hq); replace ho := hq; clear hq)
                  | (refine go_skp_ex rfl (ho.xsfound (k := 5) (s' := y.other.s) (x := .tmp 13) (y := .tmp 54) rfl rfl rfl zeroSec_ok hy2 rfl) ?_; rintro w1 hq; simp only [Act.put, List.setIfInBounds_toArray, List.set_cons_zero, List.set_cons_succ]; (try simp only [List.nil_append, List.cons_append, List.set_cons_zero, List.set_cons_succ] at hq); replace ho := hq; clear hq)
                  | (refine go_val rfl (ho.xlfbool (k := 4) (x := .tmp 59) rfl rfl rfl hy1) ?_; simp only [Act.put, List.setIfInBounds_toArray, List.set_cons_zero, List.set_cons_succ]))
              have HC : Hid (∀ w', Own w0 w' [diskR p D, restR rs (· = k), blkR bq #[.pointer (some ⟨p, 0, none⟩), .int .i64 first, .int .i64 (M : Int)] 93, intsR u10 lost, blkR b12 (foundVals y.best.s ba true).toArray 95, blkR b13 (foundVals y.other.s oa y.other.good).toArray 95] → Calls Try.prog 39 #[.agg #[.pointer (some ⟨p, 0, none⟩), .int .i64 first, .int .i64 (M : Int)], .agg (foundVals y.best.s ba true).toArray, .agg (foundVals y.other.s oa y.other.good).toArray] w' fun e w'' => e = .returned (.int .i64 e1) ∧ Own w0 w'' [diskR p D1, restR rs (· = k), blkR bq #[.pointer (some ⟨p, 0, none⟩), .int .i64 first, .int .i64 (M : Int)] 93, intsR u10 lost, blkR b12 (foundVals y.best.s ba true).toArray 95, blkR b13 (foundVals y.other.s oa y.other.good).toArray 95]) :=
                Lib.hid (fun w' s0 => (s0.heal_ (k := 0) rfl first (M : Int) ba oa true y.other.good hy1 hy2 HDS.out).mono (fun e w'' ⟨h1, h2⟩ => ⟨by rw [h1, HW2.out], by rw [HW1.out] at h2; exact h2⟩))
              refine start_ (n := 8) (S := fun w' => Own w0 w' [diskR p D, restR rs (· = k), blkR bq #[.pointer (some ⟨p, 0, none⟩), .int .i64 first, .int .i64 (M : Int)] 93, intsR u10 lost, blkR b12 (foundVals y.best.s ba true).toArray 95, blkR b13 (foundVals y.other.s oa y.other.good).toArray 95]) (ds := [6]) #[false, false, false, false, false, false, false, false] mixed rfl rfl ((ho.nw ((Nw.refl _).drew))) (fun hHeld => ?_)
              refine pure_ (i := 0) (N := some 61) (v := ?_) (a' := ?_) #[true, false, false, false, false, false, false, false] rfl rfl (by kernel_rfl) (fun _ _ _ h => h) (Or.inl ⟨by rfl, ?_⟩) ?_ ?_
              rotate_left
              · intro w'
                go_simp
                with_reducible rfl
              rotate_left
              · simp only [Act.put, List.setIfInBounds_toArray, List.set_cons_zero, List.set_cons_succ, i64_w, i32_w]
                rfl
              refine pure_ (i := 1) (N := some 62) (v := ?_) (a' := ?_) #[true, true, false, false, false, false, false, false] rfl rfl (by kernel_rfl) (fun _ _ _ h => h) (Or.inl ⟨by rfl, ?_⟩) ?_ ?_
              rotate_left
              · intro w'
                go_simp
                with_reducible rfl
              rotate_left
              · simp only [Act.put, List.setIfInBounds_toArray, List.set_cons_zero, List.set_cons_succ, i64_w, i32_w]
                rfl
              refine pure_ (i := 2) (N := some 63) (v := ?_) (a' := ?_) #[true, true, true, false, false, false, false, false] rfl rfl (by kernel_rfl) (fun _ _ _ h => h) (Or.inl ⟨by rfl, ?_⟩) ?_ ?_
              rotate_left
              · intro w'
                go_simp
                with_reducible rfl
              rotate_left
              · simp only [Act.put, List.setIfInBounds_toArray, List.set_cons_zero, List.set_cons_succ, i64_w, i32_w]
                rfl
              refine take_ (i := 3) (N := some 64) (v := .agg #[.pointer (some ⟨p, 0, none⟩), .int .i64 first, .int .i64 (M : Int)]) (a' := ?_) #[true, true, true, true, false, false, false, false] rfl rfl (by kernel_rfl) (fun _ _ _ h => h) (Or.inl ⟨by rfl, ?_⟩) hHeld ?_ ?_
              · intro w' s0
                exact exl_part (b := bq) rfl rfl (s0.blk (i := 2) rfl).1
              rotate_left
              · simp only [Act.put, List.setIfInBounds_toArray, List.set_cons_zero, List.set_cons_succ, i64_w, i32_w]
                rfl
              refine take_ (i := 4) (N := some 65) (v := .agg (foundVals y.best.s ba true).toArray) (a' := ?_) #[true, true, true, true, true, false, false, false] rfl rfl (by kernel_rfl) (fun _ _ _ h => h) (Or.inl ⟨by rfl, ?_⟩) hHeld ?_ ?_
              · intro w' s0
                exact s0.xlfound (k := 4) rfl rfl rfl hy1
              rotate_left
              · simp only [Act.put, List.setIfInBounds_toArray, List.set_cons_zero, List.set_cons_succ, i64_w, i32_w]
                rfl
              refine take_ (i := 5) (N := some 66) (v := .agg (foundVals y.other.s oa y.other.good).toArray) (a' := ?_) #[true, true, true, true, true, true, false, false] rfl rfl (by kernel_rfl) (fun _ _ _ h => h) (Or.inl ⟨by rfl, ?_⟩) hHeld ?_ ?_
              · intro w' s0
                exact s0.xlfound (k := 5) rfl rfl rfl hy2
              rotate_left
              · simp only [Act.put, List.setIfInBounds_toArray, List.set_cons_zero, List.set_cons_succ, i64_w, i32_w]
                rfl
              refine last_ (i := 6) (N := some 67) #[true, true, true, true, true, true, true, false] rfl rfl (by kernel_rfl) (by decide) (fun K hK => ?_)
              have s0 := hHeld
              refine goes_ Try.func39 (by kernel_rfl) rfl #[.agg #[.pointer (some ⟨p, 0, none⟩), .int .i64 first, .int .i64 (M : Int)], .agg (foundVals y.best.s ba true).toArray, .agg (foundVals y.other.s oa y.other.good).toArray] (by rfl) rfl rfl (by simp only [List.map_toArray, List.map_cons, List.map_nil]; rfl) ?_
              with_reducible refine ((HC.out _ s0)).mono ?_
              rintro e w5 ⟨rfl, hq⟩
              refine ⟨_, rfl, ?_⟩
              refine hK.out _ _ ?_
              clear hK K
              refine norm_ (a' := ?_) ?_ ?_
              rotate_left
              · show Act.put _ (some 67) _ = _
                simp only [Act.put, List.setIfInBounds_toArray, List.set_cons_zero, List.set_cons_succ, i64_w, i32_w]
                rfl
              refine pure_ (i := 7) (N := some 14) (v := ?_) (a' := ?_) #[true, true, true, true, true, true, true, true] rfl rfl (by kernel_rfl) (fun _ _ _ h => h) (Or.inl ⟨by rfl, ?_⟩) ?_ ?_
              rotate_left
              · intro w'
                go_simp
                with_reducible rfl
              rotate_left
              · simp only [Act.put, List.setIfInBounds_toArray, List.set_cons_zero, List.set_cons_succ, i64_w, i32_w]
                rfl
              refine done_ (by kernel_rfl) ?_
              (try simp only [List.nil_append, List.cons_append, List.set_cons_zero, List.set_cons_succ] at hq); replace ho := hq; clear hq
              clear hHeld s0
              go_wp2
              go_ret3
              rw [HR.out]
              exact ⟨fun _ => ⟨rfl, HEND.out _ _ (ho.pick [0, 1] (by decide) rfl)⟩, fun h0 => absurd h0 HE.out⟩
        · rw [if_pos hye, if_pos hye] at hr
          have hsp : ∀ e, SlotPost D first x e → e = .returned (.tuple #[.agg (foundVals zeroSec 0 false).toArray, .agg (foundVals zeroSec 0 false).toArray, .int .i64 y.e]) := fun e he => by
            unfold SlotPost at he
            rw [← HX.out, if_pos hye] at he
            exact he
          have HSP := Lib.hid hsp
          obtain ⟨ex, hex⟩ : ∃ e, e = y.e := ⟨_, rfl⟩
          rw [← hex] at hye HSP hr
          have hb : (ex != 0) = true := by simp [hye]
          have HR := Lib.hid hr
          have HE := Lib.hid hye
          clear hsp hye hex hr
          go_wp2_with (first
            | (refine go_val rfl (exl_part (x := .tmp 49) (b := bq) rfl rfl (ho.blk (i := 2) rfl).1) ?_; simp only [Act.put, List.setIfInBounds_toArray, List.set_cons_zero, List.set_cons_succ])
            | (go_at_call 38; refine (ho.slot_ (k := 0) rfl P2.out HF1.out hx0 HX1.out).mono ?_; rintro e w' ⟨he, hq⟩; rw [HSP.out e he]; clear he; (try simp only [List.nil_append, List.cons_append, List.set_cons_zero, List.set_cons_succ] at hq); replace ho := hq; clear hq)
            | (refine go_val_ex rfl (ho.xafound 12 rfl rfl) ?_; rintro v w1 ⟨b12, rfl, hq⟩; simp only [Act.put, List.setIfInBounds_toArray, List.set_cons_zero, List.set_cons_succ]; (try simp only [List.nil_append, List.cons_append, List.set_cons_zero, List.set_cons_succ] at hq); replace ho := hq; clear hq)
            | (refine go_val_ex rfl (ho.xafound 13 rfl rfl) ?_; rintro v w1 ⟨b13, rfl, hq⟩; simp only [Act.put, List.setIfInBounds_toArray, List.set_cons_zero, List.set_cons_succ]; (try simp only [List.nil_append, List.cons_append, List.set_cons_zero, List.set_cons_succ] at hq); replace ho := hq; clear hq)
            | (refine go_skp_ex rfl (ho.xsfound (k := 4) (s' := zeroSec) (x := .tmp 12) (y := .tmp 53) rfl rfl rfl zeroSec_ok zeroSec_ok rfl) ?_; rintro w1 hq; simp only [Act.put, List.setIfInBounds_toArray, List.set_cons_zero, List.set_cons_succ]; (try simp only [List.nil_append, List.cons_append, List.set_cons_zero, List.set_cons_succ] at hq); replace ho := hq; clear hq)
            | (refine go_skp_ex rfl (ho.xsfound (k := 5) (s' := zeroSec) (x := .tmp 13) (y := .tmp 54) rfl rfl rfl zeroSec_ok zeroSec_ok rfl) ?_; rintro w1 hq; simp only [Act.put, List.setIfInBounds_toArray, List.set_cons_zero, List.set_cons_succ]; (try simp only [List.nil_append, List.cons_append, List.set_cons_zero, List.set_cons_succ] at hq); replace ho := hq; clear hq))
          go_ret3
          rw [HR.out]
          exact ⟨fun _ => ⟨rfl, HEND.out _ _ (ho.pick [0, 1] (by decide) rfl)⟩, fun h0 => absurd h0 HE.out⟩
      · have hxM' : ¬ (x : Int) < (M : Int) := by omega
        have HR : Hid (r = (D, 0, lost)) := Lib.hid (by rw [hr, show M - x = 0 by omega]; rfl)
        clear hr
        go_wp2_with (fail)
        go_ret3
        rw [HR.out]
        exact ⟨fun h0 => absurd rfl h0, fun _ => ⟨_, _, rfl, HEND2.out _ _ _ _ ho⟩⟩
end
end Go.Proofs.Ytcaalfpfkalalaa
