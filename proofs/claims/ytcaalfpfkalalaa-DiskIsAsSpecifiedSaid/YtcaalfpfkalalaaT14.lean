/- quietuslaw21.DiskIsAsSpecified: the walk. -/
import Derived.Test.YtcaalfpfkalalaaT13
import Derived.ArgAppend
set_option linter.unusedVariables false
set_option linter.unusedSimpArgs false
set_option maxRecDepth 10000
set_option maxHeartbeats 8000000
namespace Qd
theorem write_steps' (d : Disk) (i : Int) (s : Sec) : (d.write i s).1.steps ≤ d.steps + 1 := by
  unfold Disk.write
  split
  · simp only; omega
  · split
    · simp only; omega
    · rename_i h
      show (d.step.1.push i.toNat s).steps ≤ _
      have : d.step.1.steps = d.steps + 1 := Disk.step_steps h
      show d.step.1.steps ≤ _
      omega
theorem sync_steps' (d : Disk) : d.sync.1.steps ≤ d.steps + 1 := by
  unfold Disk.sync
  split
  · simp only; omega
  · split
    · simp only; omega
    · rename_i h
      show d.step.1.steps ≤ _
      have : d.step.1.steps = d.steps + 1 := Disk.step_steps h
      omega
theorem doOp_steps (d : Disk) (h0 : 0 ≤ d.steps) (kind a b : Int) : (d.doOp kind a b).steps ≤ d.steps + 1 := by
  unfold Disk.doOp
  split
  · exact write_steps' _ _ _
  split
  · exact sync_steps' _
  split
  · omega
  split
  · show d.steps ≤ _; omega
  split
  · show (0 : Int) ≤ _; omega
  split
  · unfold Disk.flip
    split
    · simp only; omega
    split
    · simp only; omega
    split
    · simp only; omega
    · simp only; omega
  split
  · unfold Disk.rot
    split
    · simp only; omega
    · simp only; omega
  · omega
end Qd
namespace Go.Proofs.Ytcaalfpfkalalaa
open Go.RowKit Qd
open Go.Proofs.YtcaalfpfkalalaaW.PrintLast
def opsR (v : Value) (l : List DOp) : Res := ⟨fun w S => w.ownsRow 0 50 3 v l.length (l.flatMap opVals) ∧ ∀ k, v.ownBlock = some k → S k, fun h hk => ⟨ownsRow_same h.1 (fun b hb => hk b (h.2 b hb)), h.2⟩⟩
theorem iOp : (Try.prog.info? 50).map (fun i => (i.zero, i.size, i.bytes)) = some (some (.agg [Value.int .i64 0, .int .i64 0, .int .i64 0].toArray), 3, 24) := by kernel_rfl
theorem uOps : Try.prog.underlying 46 = some (.slice 50) := by kernel_rfl
theorem opVals_one (x : DOp) : ∀ v ∈ opVals x, v.oneCell' = true := fun v hv => by
  simp [opVals] at hv
  rcases hv with rfl | rfl | rfl <;> rfl
section
variable {w0 w : World} {rs : List Res} {k : Nat} {o : Oper} {ρ : Operand → Value} {s x : Operand}
theorem Own.opsPush {w' : World} {v : Value} {l : List DOp} {n : Nat} (h : Own w0 w rs) (hr : w'.ownsRow w.heap.size 50 3 v n (l.flatMap opVals)) (hl : l.length = n) (hg : w.grownBy w' none) : Own w0 w' (rs ++ [opsR v l]) := by
  have hlt := hr.lt
  refine h.push (S := fun b => v.ownBlock = some b) ⟨hg.os, hg.tape, hg.output, hg.size, fun k hk _ => hg.block k hk (by simp), fun b hb => Or.inr (hlt b hb).1⟩ (fun b hb => (hlt b hb).2) ⟨?_, fun k hk => hk⟩
  subst hl
  refine ⟨hr.1, ?_⟩
  rcases hr.2 with h1 | ⟨g, cap, cur, hv, h2, h3⟩
  · exact Or.inl h1
  · exact Or.inr ⟨g, cap, cur, hv, Nat.zero_le _, h3⟩
/-- 'append(l[:len(l):len(l)], x)'. -/
theorem Own.xappops {la : Option Addr} {n g : Nat} {l : List DOp} {y : DOp} (h : Own w0 w rs) (ho : o.op = .call { callee := .builtin .append, args := #[s, x], argTypes := #[46, 46] }) (hs : ρ s = .slice la n n) (hx : ρ x = .slice (some ⟨g, 0, none⟩) 1 1)
    (hl : l.length = n) (hla : (la = none ∧ l = []) ∨ ∃ a, la = some a ∧ ∀ j u, (l.flatMap opVals)[j]? = some u → w.cell? (a.add j) = some u) (hy : w.rangeAt g 0 (opVals y)) (hn : n < 1099511627776) :
    ∃ v' w1, (execOp ρ o).run Try.prog w = .ok (.value v') w1 ∧ (∃ a c', v' = .slice a (n + 1) c') ∧ Own w0 w1 (rs ++ [opsR v' (l ++ [y])]) := by
  obtain ⟨i, hi1, hi2⟩ := Option.map_eq_some_iff.1 iOp
  simp only [Prod.mk.injEq] at hi2
  have e : (l ++ [y]).flatMap opVals = l.flatMap opVals ++ opVals y := by simp
  have hlen : (l.flatMap opVals).length = n * 3 := by rw [flatMap_len (g := opVals) (m := 3) (fun _ _ => rfl), hl]
  rcases hla with ⟨rfl, hne⟩ | ⟨ad, rfl, hr⟩
  · have hn0 : n = 0 := by rw [← hl, hne]; rfl
    subst hn0
    obtain ⟨v', w', hrun, h2, h3, h5⟩ := ex_append_b (P := Try.prog) (base := w.heap.size) (Nat.le_refl _) ho uOps iOp rfl (by omega) hs (World.ownsRow_nil _ _ _ _) hx (news := opVals y) rfl (fun j u hu => by rw [Addr.add_mid]; exact hy j u hu) (opVals_one y) (by simp [maxLen]) (by omega)
    refine ⟨v', w', hrun, own_slice h2, h.opsPush (n := 0 + 1) (by rw [e, hne]; exact h2) (by rw [hne]; rfl) h3⟩
  · obtain ⟨v', w', hrun, h2, h3⟩ := run_append_arg_grows (P := Try.prog) w 46 o.type 50 i _ 3 24 uOps hi1 hi2.1 hi2.2.1 hi2.2.2 rfl (by omega) ad n n (l.flatMap opVals) hlen hr
      ⟨g, 0, none⟩ 1 1 (opVals y) rfl (fun j u hu => by rw [Addr.add_mid]; exact hy j u hu) (by omega) (by simp [maxLen]; omega) (by omega)
    refine ⟨v', w', ?_, own_slice h2, h.opsPush (by rw [e]; exact h2) (by simp [hl]) h3⟩
    unfold execOp
    simp only [ho, resolve, invoke, builtin, Sem.run_bind, Sem.run_pure, Result.andThen_ok, List.map_toArray, List.map_cons, List.map_nil, hs, hx, hrun]
/-- 'l[:len(l):len(l)]'. -/
theorem ex_slice3 {T E : TypeId} {sz : Nat} (hsz : (Try.prog.info? E).map (·.size) = some sz) {y z : Operand} {la : Option Addr} {n c : Nat} (ho : o.op = .slice T x none (some y) (some z)) (hT : Try.prog.underlying T = some (.slice E)) (hx : ρ x = .slice la n c) (hy : ρ y = .int .i64 (n : Int)) (hz : ρ z = .int .i64 (n : Int)) (hnc : n ≤ c) (h0 : la = none → n = 0) :
    (execOp ρ o).run Try.prog w = .ok (.value (.slice la n n)) w := by
  have e : (if n = 0 then la else la.map (fun a => a.add 0)) = la := by
    split
    · rfl
    · cases la with
      | none => rfl
      | some a => simp [Addr.add]
  unfold execOp
  simp only [ho, hx, hy, hz]
  obtain ⟨i, hi1, hi2⟩ := Option.map_eq_some_iff.1 hsz
  simp [Instr.sliceAt, Instr.slice, run_underlying hT, Instr.sliceBounds, Instr.sliceBound, asIntOf, hy, hz, hnc, sizeOf, typeInfo, hi1]
  exact fun hn => by rw [if_neg hn] at e; exact e
theorem Own.opsAt {v : Value} {l : List DOp} (h : Own w0 w rs) (hk : rs[k]? = some (opsR v l)) (hne : l ≠ []) : ∃ g c, v = .slice (some ⟨g, 0, none⟩) l.length c := by
  obtain ⟨S, ⟨hr, _⟩, _⟩ := h.get hk
  exact own_form hr (List.length_pos_iff.2 hne)
theorem Own.opsRange {g n c : Nat} {l : List DOp} {j : Nat} (h : Own w0 w rs) (hk : rs[k]? = some (opsR (.slice (some ⟨g, 0, none⟩) n c) l)) (hj : j < l.length) : w.rangeAt g (j * 3) (opVals l[j]) := by
  obtain ⟨S, ⟨hr, _⟩, _⟩ := h.get hk
  have hn : n = l.length := by
    obtain ⟨a, c, e⟩ := own_slice hr
    injection e
  subst hn
  have h2 : w.rangeAt g 0 (l.flatMap opVals) := fun i u hu => by
    have := hr.cells (g := g) rfl _ _ hu
    rwa [Addr.add_mid] at this
  have := ops_at h2 hj
  rwa [Nat.zero_add] at this
theorem exz_op1 (ho : o.op = .buildSlice 46 1 #[(0, x)]) {y : DOp} (hx : ρ x = .agg (opVals y).toArray) : (execOp ρ o).run Try.prog w = .ok (.value (.slice (some ⟨w.heap.size, 0, none⟩) 1 1)) (w.alloc (.cells (opVals y).toArray 50)) := by
  have hi : (Try.prog.info? 50).map (fun i => (i.zero, i.size)) = some (some (.agg [Value.int .i64 0, .int .i64 0, .int .i64 0].toArray), 3) := by kernel_rfl
  exact ex_slice1 ho uOps hi rfl (by omega) (by omega) (by rw [hx]; rfl) rfl
theorem Own.xop1 (h : Own w0 w rs) (ho : o.op = .buildSlice 46 1 #[(0, x)]) {y : DOp} (hx : ρ x = .agg (opVals y).toArray) :
    ∃ v w1, (execOp ρ o).run Try.prog w = .ok (.value v) w1 ∧ ∃ b, v = .slice (some ⟨b, 0, none⟩) 1 1 ∧ Own w0 w1 (rs ++ [blkR b (opVals y).toArray 50]) := ⟨_, _, exz_op1 ho hx, _, rfl, h.alloc _ _⟩
end
attribute [local irreducible] diskR refR blkR restR starR secVals SecOk refRow Own refCell gotVals filled Disk.doOp opsR OpsIs KeepIs opVals
section
variable {w : World}
theorem asSpec_calls {n : Int} (hn1 : -9223372036854775808 ≤ n) (hn2 : n ≤ 9223372036854775807) {v : Value} {l : List DOp} (hl : OpsIs w v l) (hlc : ∀ a m c, v = .slice a m c → m ≤ c) (hok : ∀ x ∈ l, x.ok) (hlm : l.length ≤ 9223372036854775807) :
    Calls Try.prog 4 #[.int .i64 n, v] w fun e w' => e = .returned (.bool true) ∧ Nw w w' := by
  unfold OpsIs at hl
  obtain ⟨la, lcp, rfl, hla⟩ := hl
  have hlc' := hlc _ _ _ rfl
  obtain ⟨m, hm⟩ : ∃ m, m = l.length := ⟨_, rfl⟩
  rw [← hm] at hlm hlc'
  rw [← hm]
  have HLA := Lib.hid hla
  have HM := Lib.hid hm
  have HOK := Lib.hid hok
  have hm0 : (0 : Int) ≤ (m : Int) := Int.natCast_nonneg m
  have ho := Own.start w
  clear hla hm hok hlc
  by_cases hbad : n < 1 ∨ 65536 < n
  · have HNEW := Lib.hid (new_calls_no (w := w) n hbad)
    have HN0 := Lib.hid (Nw.refl w)
    rcases hbad with hb | hb
    · go_enter Try.func4, Try.ntmps4
      go_wp2_with (first
        | (go_at_call 8; refine HNEW.out.mono ?_; rintro e w' ⟨rfl, rfl⟩)
        | (go_at_call 18; refine sanity21_calls.mono ?_; rintro e w' ⟨rfl, hn⟩))
      go_ret
      exact ⟨rfl, by assumption⟩
    · have hb2 : ¬ n < 1 := by omega
      have hb3 : n > 65536 := by omega
      go_enter Try.func4, Try.ntmps4
      go_wp2_with (first
        | (go_at_call 8; refine HNEW.out.mono ?_; rintro e w' ⟨rfl, rfl⟩)
        | (go_at_call 18; refine sanity21_calls.mono ?_; rintro e w' ⟨rfl, hn⟩))
      go_ret
      exact ⟨rfl, by assumption⟩
  · obtain ⟨N, rfl⟩ : ∃ N : Nat, n = (N : Int) := ⟨n.toNat, by omega⟩
    have hN1 : 1 ≤ N := by omega
    have hN2 : N ≤ 65536 := by omega
    have hb2 : ¬ (N : Int) < 1 := by omega
    have hb3 : ¬ (N : Int) > 65536 := by omega
    clear hbad hn1 hn2
    by_cases h200 : (N : Int) > 200
    · go_enter Try.func4, Try.ntmps4
      go_wp2_with (first
        | (go_at_call 8; refine (ho.new_ N hN1 hN2).mono ?_; rintro e w' ⟨p, rfl, hq⟩; (try simp only [List.nil_append, List.cons_append, List.set_cons_zero, List.set_cons_succ] at hq); replace ho := hq; clear hq)
        | (go_at_call 18; refine sanity21_calls.mono ?_; rintro e w' ⟨rfl, hn⟩))
      go_ret
      exact ⟨rfl, ho.nw0.trans (by assumption)⟩
    · by_cases h60 : (m : Int) > 60
      · go_enter Try.func4, Try.ntmps4
        go_wp2_with (first
          | (go_at_call 8; refine (ho.new_ N hN1 hN2).mono ?_; rintro e w' ⟨p, rfl, hq⟩; (try simp only [List.nil_append, List.cons_append, List.set_cons_zero, List.set_cons_succ] at hq); replace ho := hq; clear hq)
          | (go_at_call 18; refine sanity21_calls.mono ?_; rintro e w' ⟨rfl, hn⟩))
        go_ret
        exact ⟨rfl, ho.nw0.trans (by assumption)⟩
      · have hm60 : m ≤ 60 := by omega
        have HN0 : Hid (la = none → m = 0) := Lib.hid (fun e => by
          by_cases hl0 : l = []
          · rw [HM.out, hl0]; rfl
          · obtain ⟨kb, ko, e2, _⟩ := HLA.out hl0
            rw [e] at e2; cases e2)
        have HLA2 : Hid (∀ W, Nw w W → (la = none ∧ l = []) ∨ ∃ a, la = some a ∧ ∀ j u, (l.flatMap opVals)[j]? = some u → W.cell? (a.add j) = some u) := Lib.hid (fun W hW => by
          by_cases hl0 : l = []
          · cases la with
            | none => exact Or.inl ⟨rfl, hl0⟩
            | some a => exact Or.inr ⟨a, rfl, fun j u hj => by rw [hl0] at hj; simp at hj⟩
          · obtain ⟨kb, ko, e2, hr⟩ := HLA.out hl0
            exact Or.inr ⟨_, e2, fun j u hj => by rw [Addr.add_mid]; exact range_of_nw hr hW j u hj⟩)
        have HS9 : Hid (opVals ⟨9, 0, 0⟩ = [.int .i64 9, .int .i64 0, .int .i64 0]) := Lib.hid (by unfold opVals; rfl)
        go_enter Try.func4, Try.ntmps4
        go_wp2_with (first
          | (go_at_call 8; refine (ho.new_ N hN1 hN2).mono ?_; rintro e w' ⟨p, rfl, hq⟩; (try simp only [List.nil_append, List.cons_append, List.set_cons_zero, List.set_cons_succ] at hq); replace ho := hq; clear hq)
          | (go_at_call 19; refine (ho.rnew_ N hN1 hN2).mono ?_; rintro e w' ⟨q, rfl, hq⟩; (try simp only [List.nil_append, List.cons_append, List.set_cons_zero, List.set_cons_succ] at hq); replace ho := hq; clear hq)
          | (refine go_val rfl (ex_slice3 sOp (x := .tmp 39) (la := la) (n := m) (c := lcp) rfl uOps rfl rfl rfl hlc' HN0.out) ?_; simp only [Act.put, List.setIfInBounds_toArray, List.set_cons_zero, List.set_cons_succ])
          | (refine go_val_ex rfl (ho.xop1 (y := ⟨9, 0, 0⟩) rfl (by rw [HS9.out]; rfl)) ?_; rintro v w1 ⟨b46, rfl, hq⟩; simp only [Act.put, List.setIfInBounds_toArray, List.set_cons_zero, List.set_cons_succ]; (try simp only [List.nil_append, List.cons_append, List.set_cons_zero, List.set_cons_succ] at hq); replace ho := hq; clear hq)
          | (refine go_val_ex rfl (ho.xappops (la := la) (n := m) (g := b46) (l := l) (y := ⟨9, 0, 0⟩) rfl rfl rfl HM.out.symm (HLA2.out _ ho.nw0) (rng0 ho (k := 2) rfl) (by omega)) ?_; rintro v w1 ⟨⟨av, cv, rfl⟩, hq⟩; simp only [Act.put, List.setIfInBounds_toArray, List.set_cons_zero, List.set_cons_succ]; (try simp only [List.nil_append, List.cons_append, List.set_cons_zero, List.set_cons_succ] at hq); replace ho := hq; clear hq))
        obtain ⟨L, hL⟩ : ∃ L, L = l ++ [(⟨9, 0, 0⟩ : DOp)] := ⟨_, rfl⟩
        rw [← hL] at ho
        have HLL : Hid (L.length = m + 1) := Lib.hid (by rw [hL, List.length_append, ← HM.out]; rfl)
        have HLOK : Hid (∀ x ∈ L, x.ok) := Lib.hid (fun x hx => by
          rw [hL] at hx
          rcases List.mem_append.1 hx with hx | hx
          · exact HOK.out x hx
          · simp at hx; subst hx; exact ⟨⟨by decide, by decide⟩, ⟨by decide, by decide⟩, ⟨by decide, by decide⟩⟩)
        obtain ⟨g, gc, hgv⟩ := ho.opsAt (k := 3) rfl (fun e => by have := HLL.out; rw [e] at this; simp at this)
        injection hgv with hg1 hg2 hg3
        subst hg1
        clear hL hg2 hg3 HLA HLA2 HN0 HS9 HOK
        go_loopw [5, 6, 49] (fun vd vm i wr => ∃ (j p' q' : Nat) (D : Disk), j ≤ m + 1 ∧ i = .int .i64 (j : Int) ∧ vd = .pointer (some ⟨p', 0, none⟩) ∧ vm = .pointer (some ⟨q', 0, none⟩) ∧ D.steps ≤ j ∧
            Own w wr [diskR p' D, refR q' D, blkR b46 (opVals ⟨9, 0, 0⟩).toArray 50, opsR (.slice (some ⟨g, 0, none⟩) (m + 1) cv) L])
          (fun _ _ i _ => m + 1 - (intOf i).toNat)
        case atStart => exact ⟨0, p, q, _, by omega, rfl, rfl, rfl, by simp [Disk.new], ho⟩
        case round =>
          clear ho
          obtain ⟨j, p', q', D, hj, rfl, rfl, rfl, hst, ho⟩ := hrel
          have hj0 : (0 : Int) ≤ (j : Int) := Int.natCast_nonneg j
          have hok := ho.rokOf (k := 1) rfl
          by_cases hjm : j < m + 1
          · have hjm' : (j : Int) < (m : Int) + 1 := by omega
            have hjl : j < L.length := by rw [HLL.out]; exact hjm
            obtain ⟨x, hx⟩ : ∃ x, x = L[j] := ⟨_, rfl⟩
            have hxok := HLOK.out x (by rw [hx]; exact List.getElem_mem hjl)
            have hxr := ho.opsRange (k := 3) rfl hjl
            rw [← hx] at hxr
            obtain ⟨kind, xa, xb⟩ := x
            have HXR := Lib.hid hxr
            have HXOK := Lib.hid hxok
            have hst2 : D.steps ≤ 999999 := by omega
            have HDS := Lib.hid (doOp_steps D hok.st0 kind xa xb)
            clear hx hxr hxok
            go_wp2_with (first
              | (refine go_val rfl (exl_op (p := ⟨kind, xa, xb⟩) (x := .tmp 51) rfl rfl HXR.out) ?_; simp only [Act.put, List.setIfInBounds_toArray, List.set_cons_zero, List.set_cons_succ])
              | (refine go_val_ex rfl (ho.xaop rfl) ?_; rintro v w1 ⟨b8, rfl, hq⟩; simp only [Act.put, List.setIfInBounds_toArray, List.set_cons_zero, List.set_cons_succ]; (try simp only [List.nil_append, List.cons_append, List.set_cons_zero, List.set_cons_succ] at hq); replace ho := hq; clear hq)
              | (refine go_skp_ex rfl (ho.xsop (k := 4) (p := ⟨kind, xa, xb⟩) (x := .tmp 8) (y := .tmp 52) rfl rfl rfl rfl) ?_; rintro w1 hq; simp only [Act.put, List.setIfInBounds_toArray, List.set_cons_zero, List.set_cons_succ]; (try simp only [List.nil_append, List.cons_append, List.set_cons_zero, List.set_cons_succ] at hq); replace ho := hq; clear hq)
              | (refine go_val rfl (exl_op (p := ⟨kind, xa, xb⟩) (x := .tmp 8) rfl rfl (rng0 ho (k := 4) rfl)) ?_; simp only [Act.put, List.setIfInBounds_toArray, List.set_cons_zero, List.set_cons_succ])
              | (go_at_call 20; refine (ho.both_ HXOK.out hst2).mono ?_; rintro e w' ⟨p2, q2, rfl, hq⟩; (try simp only [List.nil_append, List.cons_append, List.set_cons_zero, List.set_cons_succ] at hq); replace ho := hq; clear hq))
            exact ⟨⟨j + 1, p2, q2, _, by omega, by go_num, rfl, rfl, by have := HDS.out; omega, ho.pick [0, 1, 2, 3] (by decide) rfl⟩, by simp [intOf]; omega⟩
          · have hjm' : ¬ (j : Int) < (m : Int) + 1 := by omega
            have e : j = m + 1 := by omega
            subst e
            go_wp2_with (fail)
            go_loopw [65] (fun i wr => ∃ y : Nat, y ≤ N ∧ i = .int .i64 (y : Int) ∧ Own w wr [diskR p' D, refR q' D])
              (fun i _ => N - (intOf i).toNat)
            case atStart => exact ⟨0, by omega, rfl, ho.pick [0, 1] (by decide) rfl⟩
            case round =>
              clear ho
              obtain ⟨y, hy, rfl, ho⟩ := hrel
              have hy0 : (0 : Int) ≤ (y : Int) := Int.natCast_nonneg y
              by_cases hyN : y < N
              · have hyN' : (y : Int) < (N : Int) := by omega
                have hro := read_sec_ok' hok (y : Int)
                obtain ⟨sr, hsr⟩ : ∃ s, s = (D.read y).1 := ⟨_, rfl⟩
                obtain ⟨er, her⟩ : ∃ s, s = (D.read y).2 := ⟨_, rfl⟩
                rw [← hsr] at hro
                have HSR := Lib.hid hsr
                have HER := Lib.hid her
                clear hsr her
                go_wp2_with (first
                  | (go_at_call 14; refine (ho.read_ (k := 0) rfl _).mono ?_; rintro e w' ⟨rfl, hq⟩; rw [← HER.out, ← HSR.out]; (try simp only [List.nil_append, List.cons_append, List.set_cons_zero, List.set_cons_succ] at hq); replace ho := hq; clear hq)
                  | (go_at_call 21; refine (ho.rread_ (k := 1) rfl _).mono ?_; rintro e w' ⟨rfl, hq⟩; rw [← HER.out, ← HSR.out]; (try simp only [List.nil_append, List.cons_append, List.set_cons_zero, List.set_cons_succ] at hq); replace ho := hq; clear hq)
                  | (refine go_val_ex rfl (ho.xallocAt 11 rfl rfl) ?_; rintro v w1 ⟨b11, rfl, hq⟩; simp only [Act.put, List.setIfInBounds_toArray, List.set_cons_zero, List.set_cons_succ]; (try simp only [List.nil_append, List.cons_append, List.set_cons_zero, List.set_cons_succ] at hq); replace ho := hq; clear hq)
                  | (refine go_skp_ex rfl (ho.xstore (k := 2) (s' := sr) (x := .tmp 11) (y := .tmp 72) rfl rfl rfl zeroSec_ok hro rfl) ?_; rintro w1 hq; simp only [Act.put, List.setIfInBounds_toArray, List.set_cons_zero, List.set_cons_succ]; (try simp only [List.nil_append, List.cons_append, List.set_cons_zero, List.set_cons_succ] at hq); replace ho := hq; clear hq)
                  | (refine go_val_ex rfl (ho.xagot 13 rfl rfl) ?_; rintro v w1 ⟨b13, rfl, hq⟩; simp only [Act.put, List.setIfInBounds_toArray, List.set_cons_zero, List.set_cons_succ]; (try simp only [List.nil_append, List.cons_append, List.set_cons_zero, List.set_cons_succ] at hq); replace ho := hq; clear hq)
                  | (refine go_skp_ex rfl (ho.xsgot (k := 3) (x := .tmp 13) (y := .tmp 76) rfl rfl rfl zeroSec_ok hro rfl) ?_; rintro w1 hq; simp only [Act.put, List.setIfInBounds_toArray, List.set_cons_zero, List.set_cons_succ]; (try simp only [List.nil_append, List.cons_append, List.set_cons_zero, List.set_cons_succ] at hq); replace ho := hq; clear hq)
                  | (refine go_val rfl (ho.xload (k := 2) (x := .tmp 11) rfl rfl rfl hro) ?_; simp only [Act.put, List.setIfInBounds_toArray, List.set_cons_zero, List.set_cons_succ])
                  | (refine go_val rfl (exl_sec (k := 0) (x := .tmp 78) rfl rfl hro (got_sec ho (k := 3) rfl hro)) ?_; simp only [Act.put, List.setIfInBounds_toArray, List.set_cons_zero, List.set_cons_succ])
                  | (refine go_val rfl (exn_same (x := .tmp 77) (y := .tmp 79) rfl hro rfl rfl) ?_; simp only [Act.put, List.setIfInBounds_toArray, List.set_cons_zero, List.set_cons_succ])
                  | (refine go_vg (by rfl) (exl_err (x := .tmp 83) rfl rfl (got_err ho (k := 3) rfl hro)) ?_; simp only [Act.put, List.setIfInBounds_toArray, List.set_cons_zero, List.set_cons_succ]))
                exact ⟨⟨y + 1, by omega, by go_num, ho.pick [0, 1] (by decide) rfl⟩, by simp [intOf]; omega⟩
              · have hyN' : ¬ (y : Int) < (N : Int) := by omega
                have HN0 := Lib.hid ho.nw0
                go_wp2_with (go_at_call 18; refine sanity21_calls.mono ?_; rintro e w' ⟨rfl, hn5⟩)
                go_ret
                exact ⟨rfl, HN0.out.trans (by assumption)⟩
end
end Go.Proofs.Ytcaalfpfkalalaa
