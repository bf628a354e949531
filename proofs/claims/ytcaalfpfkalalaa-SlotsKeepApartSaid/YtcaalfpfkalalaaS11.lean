/- slots: Format. -/
import Derived.Test.YtcaalfpfkalalaaS10
set_option linter.unusedVariables false
set_option linter.unusedSimpArgs false
set_option maxRecDepth 10000
set_option maxHeartbeats 4000000
namespace Go.Proofs.Ytcaalfpfkalalaa
open Go.RowKit Qd
open Go.Proofs.YtcaalfpfkalalaaW.PrintLast
attribute [local irreducible] diskR blkR rowR objR restR secVals SecOk DiskIn Own foundVals feOf
theorem fmt_succ (d : Disk) (k : Nat) (i : Int) : d.fmt (k + 1) i = if (d.write i (copySec 1 [])).2 ≠ 0 then d.write i (copySec 1 []) else (d.write i (copySec 1 [])).1.fmt k (i + 1) := rfl
theorem half_eq {N : Nat} {first : Int} (h0 : 0 ≤ first) (h1 : first ≤ N) (hN : N ≤ 65536) : wrap64 ((wrap64 ((N : Int) - first)).tdiv 2) = ((N : Int) - first) / 2 := by
  have e1 : wrap64 ((N : Int) - first) = (N : Int) - first := by rw [← i64_w]; exact IntWalk.i64_in _ (by omega)
  rw [e1, Int.tdiv_eq_ediv_of_nonneg (by omega), ← i64_w]
  exact IntWalk.i64_in _ (by omega)
section
variable {w0 w : World} {rs : List Res} {k j p q : Nat} {d : Disk}
theorem Own.format_ (h : Own w0 w rs) (hk : rs[k]? = some (diskR p d)) {first n : Int} (hst : d.steps < 1099511500000) :
    Calls Try.prog 12 #[.pointer (some ⟨p, 0, none⟩), .int .i64 first, .int .i64 n] w fun e w' => e = .returned (.int .i64 (d.format first n).2) ∧ Own w0 w' (rs.set k (diskR p (d.format first n).1)) := by
  have hsame := list_set_same hk
  have hdok := h.okOf hk
  obtain ⟨N, hN⟩ : ∃ N, N = d.cells.length := ⟨_, rfl⟩
  have hsz : Calls Try.prog 36 #[.pointer (some ⟨p, 0, none⟩)] w fun e w' => e = .returned (.int .i64 (N : Int)) ∧ w' = w := by rw [hN]; exact h.size_ hk
  have HSZ := Lib.hid hsz
  have hN1 : N ≤ 65536 := by rw [hN]; exact hdok.len
  clear hsz
  cases hp : partOk N first n with
  | false =>
    have hr : d.format first n = (d, 1) := by unfold Disk.format; rw [← hN, hp]; rfl
    rw [hr]
    simp only []
    rw [hsame]
    clear hsame hr hN
    have hpk : ¬ (1 ≤ n ∧ 0 ≤ first ∧ first + 2 * n ≤ N) := fun c => by rw [partOk_iff.2 c] at hp; cases hp
    clear hp
    by_cases h1 : n < 1
    · have hb1 : decide (n < 1) = true := decide_eq_true h1
      clear h1 hpk
      go_enter Try.func12, Try.ntmps12
      go_wp2
      go_ret
      exact ⟨rfl, h⟩
    · have hb1 : decide (n < 1) = false := decide_eq_false h1
      by_cases h2 : first < 0
      · have hb2 : decide (first < 0) = true := decide_eq_true h2
        clear h1 h2 hpk
        go_enter Try.func12, Try.ntmps12
        go_wp2
        go_ret
        exact ⟨rfl, h⟩
      · have hb2 : decide (first < 0) = false := decide_eq_false h2
        by_cases h3 : first > (N : Int)
        · have hb3 : decide (first > (N : Int)) = true := decide_eq_true h3
          clear h1 h2 h3 hpk
          go_enter Try.func12, Try.ntmps12
          go_wp2_with (first
            | (go_at_call 36; refine HSZ.out.mono ?_; rintro e w' ⟨rfl, rfl⟩))
          go_ret
          exact ⟨rfl, h⟩
        · have hb3 : decide (first > (N : Int)) = false := decide_eq_false h3
          have hb4 : decide (n > wrap64 ((wrap64 ((N : Int) - first)).tdiv 2)) = true := decide_eq_true (by rw [half_eq (by omega) (by omega) hN1]; omega)
          clear h1 h2 h3 hpk
          go_enter Try.func12, Try.ntmps12
          go_wp2_with (first
            | (go_at_call 36; refine HSZ.out.mono ?_; rintro e w' ⟨rfl, rfl⟩))
          go_ret
          exact ⟨rfl, h⟩
  | true =>
    obtain ⟨p1, p2, p3⟩ := partOk_iff.1 hp
    obtain ⟨r, hr⟩ : ∃ r, r = d.format first n := ⟨_, rfl⟩
    rw [← hr]
    obtain ⟨M, hM⟩ : ∃ M, M = (2 * n).toNat := ⟨_, rfl⟩
    have hr2 : r = d.fmt M first := by rw [hr, hM]; unfold Disk.format; rw [← hN, hp]; rfl
    have hMn : 2 * n = (M : Int) := by omega
    have hM1 : first + M ≤ 65536 := by omega
    have hM2 : M ≤ 65536 := by omega
    have HM : Hid (wrap64 (2 * n) = (M : Int)) := Lib.hid (by rw [hMn, ← i64_w]; exact IntWalk.i64_in _ (by omega))
    have hb1 : decide (n < 1) = false := decide_eq_false (by omega)
    have hb2 : decide (first < 0) = false := decide_eq_false (by omega)
    have hb3 : decide (first > (N : Int)) = false := decide_eq_false (by omega)
    have hb4 : decide (n > wrap64 ((wrap64 ((N : Int) - first)).tdiv 2)) = false := decide_eq_false (by rw [half_eq (by omega) (by omega) hN1]; omega)
    have ho := h.focus hk
    have hend : ∀ (w' : World) (d' : Disk), Own w0 w' [diskR p d', restR rs (· = k)] → Own w0 w' (rs.set k (diskR p d')) := fun _ _ h' => h'.back
    have HEND := Lib.hid hend
    have HR := Lib.hid hr2
    have hs1 : SecOk (copySec 1 []) := copySec_ok 1 (by simp)
    have HS : Hid (copySec 1 (strInts { data := #[] }) = copySec 1 []) := Lib.hid rfl
    have P2 := Lib.hid p2
    have PM := Lib.hid hM1
    clear h hk hend hr hr2 hp hsame hM hMn p1 hN p2 p3 hM1
    go_enter Try.func12, Try.ntmps12
    go_upto_region 4 with (first
      | (go_at_call 36; refine HSZ.out.mono ?_; rintro e w' ⟨rfl, rfl⟩))
    rw [HM.out]
    clear hb1 hb2 hb3 hb4 HSZ
    go_loopw [32] (fun i wr => ∃ (x : Nat) (D : Disk), x ≤ M ∧ i = .int .i64 (x : Int) ∧ r = D.fmt (M - x) (first + x) ∧ D.steps ≤ d.steps + x ∧ Own w0 wr [diskR p D, restR rs (· = k)])
      (fun i _ => M - (intOf i).toNat)
    case atStart => exact ⟨0, d, by omega, rfl, by rw [HR.out]; simp, by simp, ho⟩
    case round =>
      clear ho HR
      obtain ⟨x, D, hx, rfl, hr, hds, ho⟩ := hrel
      have hx0 : (0 : Int) ≤ (x : Int) := Int.natCast_nonneg x
      have hD : D.steps < 1099511600000 := by omega
      by_cases hxM : x < M
      · have hxM' : (x : Int) < (M : Int) := by omega
        have HF : Hid (wrap64 (first + x) = first + x) := Lib.hid (by have := P2.out; have := PM.out; rw [← i64_w]; exact IntWalk.i64_in _ (by omega))
        obtain ⟨u, hu⟩ : ∃ u, u = D.write (first + x) (copySec 1 []) := ⟨_, rfl⟩
        obtain ⟨D1, e1⟩ := u
        have hst1 : D1.steps ≤ D.steps + 1 := by have := write_steps D (first + x) (copySec 1 []); rw [← hu] at this; exact this
        have hr' : r = if e1 ≠ 0 then (D1, e1) else D1.fmt (M - (x + 1)) (first + (x + 1 : Nat)) := by
          rw [hr, show M - x = (M - (x + 1)) + 1 by omega, fmt_succ, ← hu, show first + ((x + 1 : Nat) : Int) = first + x + 1 by omega]
        have HW1 := Lib.hid (congrArg Prod.fst hu.symm)
        have HW2 := Lib.hid (congrArg Prod.snd hu.symm)
        simp only [] at HW1 HW2
        have HR := Lib.hid hr'
        clear hr hr' hu
        by_cases he : e1 = 0
        · have hb1 : (e1 != 0) = false := by simp [he]
          have HE := Lib.hid he
          clear he
          go_wp2_with (first
            | (go_at_call 37; refine (make1_calls (s := { data := #[] }) (by omega) (by omega) (by decide)).mono ?_; rintro e w' ⟨rfl, hn5⟩; rw [HS.out]; replace ho := ho.nw hn5; clear hn5)
            | (go_at_call 10; refine (ho.write_ (k := 0) rfl _ hs1 (by omega)).mono ?_; rintro e w' ⟨rfl, hq⟩; rw [HF.out] at hq; rw [HF.out, HW2.out]; rw [HW1.out] at hq; (try simp only [List.nil_append, List.cons_append, List.set_cons_zero, List.set_cons_succ] at hq); replace ho := hq; clear hq))
          exact ⟨⟨x + 1, D1, by omega, by go_num, by rw [HR.out, if_neg (by simp [HE.out])], by omega, ho⟩, by simp [intOf]; omega⟩
        · have hb1 : (e1 != 0) = true := by simp [he]
          have HE := Lib.hid he
          clear he
          go_wp2_with (first
            | (go_at_call 37; refine (make1_calls (s := { data := #[] }) (by omega) (by omega) (by decide)).mono ?_; rintro e w' ⟨rfl, hn5⟩; rw [HS.out]; replace ho := ho.nw hn5; clear hn5)
            | (go_at_call 10; refine (ho.write_ (k := 0) rfl _ hs1 (by omega)).mono ?_; rintro e w' ⟨rfl, hq⟩; rw [HF.out] at hq; rw [HF.out, HW2.out]; rw [HW1.out] at hq; (try simp only [List.nil_append, List.cons_append, List.set_cons_zero, List.set_cons_succ] at hq); replace ho := hq; clear hq))
          go_ret
          have e : r = (D1, e1) := by rw [HR.out, if_pos HE.out]
          exact ⟨by rw [e]; rfl, by rw [e]; exact HEND.out _ _ ho⟩
      · have hxM' : ¬ (x : Int) < (M : Int) := by omega
        have HR : Hid (r = D.sync) := Lib.hid (by rw [hr, show M - x = 0 by omega]; rfl)
        clear hr
        go_wp2_with (first
          | (go_at_call 23; refine (ho.sync_ (k := 0) rfl (by omega)).mono ?_; rintro e w' ⟨rfl, hq⟩; (try simp only [List.nil_append, List.cons_append, List.set_cons_zero, List.set_cons_succ] at hq); replace ho := hq; clear hq))
        go_ret
        exact ⟨by rw [HR.out]; rfl, by rw [HR.out]; exact HEND.out _ _ ho⟩
end
end Go.Proofs.Ytcaalfpfkalalaa
