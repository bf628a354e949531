/- The statement DiskIsAsSpecified of layer 21 holds: for every input the law returns true. Conditions: none. -/
import Derived.Test.YtcaalfpfkalalaaRows
import Derived.Test.YtcaalfpfkalalaaT14
import Derived.Test.YtcaalfpfkalalaaR0
set_option linter.unusedVariables false
set_option linter.unusedSimpArgs false
set_option maxRecDepth 100000
set_option maxHeartbeats 4000000
namespace Go.Proofs.Ytcaalfpfkalalaa
open Go.ChangeShapes Go.WideShapes Go.ChangeAt Go.RowKit Go.Deep Qd
theorem ownK21 : ownKnob Try.prog.godebug = none := by kernel_rfl
theorem laidOutK21 : laidOutB Try.prog = true := by kernel_rfl
theorem asSpec_lifted (os : Os) (started : os.Started) (H : Type) (enc : TypeId × Value → H) :
    ReturnsInHanded {} Try.checked os 4 .any (Rows.diskIsAsSpecifiedSpec.pre6 enc Try.prog Try.f4 Rows.diskIsAsSpecifiedRow.domain false) (Rows.diskIsAsSpecifiedSpec.post enc Try.prog Try.f4 false true false false) := by
  refine returnsInHanded_of_change (C := Try.checked) ownK21 started (by kernel_rfl) Try.func4
    (ChangeSpec.witness6 (enc := enc) (C := Try.checked) false ⟨#[], #[.int .i64 0, .slice none 0 0], []⟩ 8 (by kernel_rfl) (by kernel_rfl) (by kernel_rfl) (by kernel_rfl)) ?_
  intro W base args ds gs before hval0 hW hcnd _
  have hval : ∀ (j : Nat) t v, Try.f4.params[j]? = some t → args[j]? = some v → Value.okWide Try.prog W .any base t v := hval0
  have hW' := hW
  obtain ⟨p, q, hA0, hV, rfl, hfz, hnd⟩ := hW
  have hA : DataW.TrodAll enc Try.prog W 0 (fun _ => true) true Try.f4.params.toList args.toList ds p := hA0
  rw [show Try.f4.params = #[3, 46] by kernel_rfl] at hA hval
  obtain ⟨v0, vs0, d0, ds0, p0, q0, hargs, rfl, rfl, h0, r0⟩ := trodAll_cons hA
  obtain ⟨v1, vs1, d1, ds1, p1, q1, rfl, rfl, rfl, h1, r1⟩ := trodAll_cons r0
  obtain ⟨rfl, rfl, rfl⟩ := trodAll_nil r1
  obtain rfl : args = #[v0, v1] := by cases args; simp_all
  obtain ⟨rfl, rfl⟩ := trodVars_none hV
  obtain ⟨a1, len1, cap1, rfl⟩ := okWide_slice (e := 50) (by kernel_rfl) (hval 1 46 v1 rfl rfl)
  have k1 := h1
  have lt1 : ∀ x ∈ p1, x.block < W.heap.size := by obtain ⟨m, hm⟩ := k1; exact DataW.trod_lt m _ _ _ hm
  obtain ⟨l, hl, hll, hok, hlm, hlc⟩ : ∃ l : List DOp, OpsIs W (.slice a1 len1 cap1) l ∧ l.length = len1 ∧ (∀ x ∈ l, x.ok) ∧ len1 ≤ maxLen ∧ len1 ≤ cap1 := by
    obtain ⟨fuel, hf⟩ := h1
    obtain ⟨l, g1, g2, g3, g4⟩ := ops_open hf
    refine ⟨l, g1, g2, g3, g4, ?_⟩
    rcases open_slice (e := 50) (by kernel_rfl) hf with ⟨hcs, _⟩ | ⟨a, len, cap, m, n, D, Pl, hcs, hb, hl, _⟩
    · injection hcs with hcs _
      injection hcs with e1 e2 e3
      omega
    · injection hcs with hcs _
      injection hcs with e1 e2 e3
      omega
  obtain ⟨n1, rfl, rfl, rfl, w1⟩ := open_int (k := .i64) (by kernel_rfl) (hval 0 3 v0 rfl rfl) h0
  have hn := lit64 w1
  unfold maxLen at hlm
  clear hA0 hval0
  refine (asSpec_calls (w := W) hn.1 hn.2 hl (fun a m c e => by injection e with e1 e2 e3; omega) hok (by omega)).mono fun e W' ⟨he, hnw⟩ => ?_
  have bel : Below W.heap.size W W' := Turn.below hnw (fun _ h => h.elim)
  subst he
  exact ⟨_, rfl, _, _, _, [], _, [], hW', trodAll_mk1 (shut_bool (by kernel_rfl) _), (trodAll_cons_mk (shut_int (by kernel_rfl) w1) (trodAll_cons_mk (Below.trod laidOutK21 (by kernel_rfl) (of_decide_eq_true (by kernel_rfl)) k1 bel lt1) trodAll_mk0)), rfl, bel.frame _, fun h => by cases h⟩
theorem diskIsAsSpecified_holds : Rows.DiskIsAsSpecifiedSaid :=
  OpenClaim.holds_of_wide 4 Try.f4 rfl rfl rfl rfl rfl rfl rfl ⟨rfl, rfl, rfl, rfl, rfl⟩ rfl rfl rfl rfl rfl (by kernel_rfl) Try.func4 (by kernel_rfl)
    (of_decide_eq_true (by kernel_rfl)) (by unfold Func.isWrapper; first | (rw [if_pos (by decide +kernel)]; kernel_rfl) | (rw [if_neg (by decide +kernel)]; exact ⟨rfl, rfl⟩))
    (fun os started H enc _ => asSpec_lifted os started H enc)
#print axioms diskIsAsSpecified_holds
end Go.Proofs.Ytcaalfpfkalalaa
