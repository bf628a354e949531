/- slots: write, heal, change, Put, Kill. -/
import Derived.Test.YtcaalfpfkalalaaS7
set_option linter.unusedVariables false
set_option linter.unusedSimpArgs false
set_option maxRecDepth 10000
set_option maxHeartbeats 8000000
namespace Go.Proofs.Ytcaalfpfkalalaa
open Go.RowKit Qd
open Go.Proofs.YtcaalfpfkalalaaW.PrintLast
theorem write_steps (d : Disk) (i : Int) (s : Sec) : (d.write i s).1.steps ≤ d.steps + 1 := by
  unfold Disk.write
  split
  · simp only; omega
  · split
    · simp only; omega
    · rename_i h
      simp [Disk.push, Disk.step, h]
theorem sync_steps (d : Disk) : d.sync.1.steps ≤ d.steps + 1 := by
  unfold Disk.sync
  split
  · simp only; omega
  · split
    · simp only; omega
    · rename_i h
      simp [Disk.flush, Disk.step, h]
theorem wsync_steps (d : Disk) (i : Int) (s : Sec) : (d.wsync i s).1.steps ≤ d.steps + 2 := by
  have h1 := write_steps d i s
  have h2 := sync_steps (d.write i s).1
  unfold Disk.wsync
  split <;> omega
theorem heal_steps (d : Disk) (first i : Int) : (d.heal first i).1.steps ≤ d.steps + 2 := by
  unfold Disk.heal
  simp only []
  split
  · simp only; omega
  · exact wsync_steps _ _ _
theorem change_steps (d : Disk) (first i : Int) (bs : List Int) : (d.change first i bs).1.steps ≤ d.steps + 6 := by
  have h1 := heal_steps d first i
  have h2 := wsync_steps (d.heal first i).1 (first + 2 * i + 1) ((d.slot first i).next bs)
  have h3 := wsync_steps ((d.heal first i).1.wsync (first + 2 * i + 1) ((d.slot first i).next bs)).1 (first + 2 * i) ((d.slot first i).next bs)
  unfold Disk.change
  simp only []
  split
  · simp only; omega
  · split
    · omega
    · split <;> omega
theorem slot_ok {d : Disk} (h : d.Ok) (first i : Int) : SecOk (d.slot first i).best.s ∧ SecOk (d.slot first i).other.s := by
  have a : SecOk (d.slot first i).a.s := by unfold Disk.slot; rw [side_s]; exact read_ok' h _
  have b : SecOk (d.slot first i).b.s := by unfold Disk.slot; rw [side_s]; exact read_ok' h _
  unfold Both.best Both.other
  constructor <;> split <;> assumption
section
variable {w0 w : World} {rs : List Res} {k j p q : Nat} {d : Disk} {o : Oper} {ρ : Operand → Value}
theorem Own.set_same {r : Res} (h : Own w0 w (rs.set k r)) (hk : rs[k]? = some r) : Own w0 w rs := by
  have e : rs.set k r = rs := by
    apply List.ext_getElem?
    intro i
    by_cases hi : i = k
    · subst hi; rw [List.getElem?_set_self (List.getElem?_eq_some_iff.1 hk).1, hk]
    · rw [List.getElem?_set_ne (by omega)]
  rw [e] at h; exact h
theorem Own.xlptr {x : Operand} {b i : Nat} {a : Option Addr} {cs : Array Value} {t : TypeId} (h : Own w0 w rs) (hk : rs[k]? = some (blkR b cs t)) (ho : o.op = .load 23 x) (hx : ρ x = .pointer (some ⟨b, i, none⟩)) (hv : cs[i]? = some (.pointer a)) :
    (execOp ρ o).run Try.prog w = .ok (.value (.pointer a)) w := by
  have hc : w.cell? ⟨b, i, none⟩ = some (.pointer a) := by rw [(h.blk hk).1.cell]; exact hv
  unfold execOp
  simp only [ho, hx]
  go_simp
theorem Own.xlfbool {x : Operand} {b : Nat} {s : Sec} {i : Int} {g : Bool} (h : Own w0 w rs) (hk : rs[k]? = some (blkR b (foundVals s i g).toArray 95)) (ho : o.op = .load 4 x) (hx : ρ x = .pointer (some ⟨b, 65, none⟩)) (hs : SecOk s) :
    (execOp ρ o).run Try.prog w = .ok (.value (.bool g)) w := exl_bool1 ho hx (by rw [(h.blk hk).1.cell]; simpa using found_65 hs i g)
theorem Own.xlfsec {x : Operand} {b : Nat} {s : Sec} {i : Int} {g : Bool} (h : Own w0 w rs) (hk : rs[k]? = some (blkR b (foundVals s i g).toArray 95)) (ho : o.op = .load 29 x) (hx : ρ x = .pointer (some ⟨b, 0, none⟩)) (hs : SecOk s) :
    (execOp ρ o).run Try.prog w = .ok (.value (.agg (secVals s).toArray)) w := exl_sec ho hx hs ((h.blk hk).1.range 0 _ (fun j hj => by
  rw [Nat.zero_add, List.getElem?_toArray]
  unfold foundVals
  rw [List.getElem?_append_left hj]))
theorem Own.xlfat {x : Operand} {b : Nat} {s : Sec} {i : Int} {g : Bool} (h : Own w0 w rs) (hk : rs[k]? = some (blkR b (foundVals s i g).toArray 95)) (ho : o.op = .load 3 x) (hx : ρ x = .pointer (some ⟨b, 64, none⟩)) (hs : SecOk s) :
    (execOp ρ o).run Try.prog w = .ok (.value (.int .i64 i)) w := exl_int ho hx (by
  rw [(h.blk hk).1.cell, List.getElem?_toArray]
  unfold foundVals
  rw [List.getElem?_append_right (by rw [sec64 hs]; omega), sec64 hs]; rfl)
end
attribute [local irreducible] diskR blkR rowR objR restR secVals SecOk DiskIn Own foundVals feOf
section
variable {w0 w : World} {rs : List Res} {k j p q : Nat} {d : Disk}
theorem Own.wsync_ (h : Own w0 w rs) (hk : rs[k]? = some (diskR p d)) (first nn at' : Int) {s : Sec} (hs : SecOk s) (hst : d.steps < 1099511627000) :
    Calls Try.prog 56 #[.agg #[.pointer (some ⟨p, 0, none⟩), .int .i64 first, .int .i64 nn], .int .i64 at', .agg (secVals s).toArray] w fun e w' => e = .returned (.int .i64 (d.wsync at' s).2) ∧ Own w0 w' (rs.set k (diskR p (d.wsync at' s).1)) := by
  have ho := h.focus hk
  have hst1 : d.steps < 1099511627775 := by omega
  have hst2 : (d.write at' s).1.steps < 1099511627775 := by have := write_steps d at' s; omega
  clear h hk
  unfold Disk.wsync
  obtain ⟨e1, he1⟩ : ∃ e, e = (d.write at' s).2 := ⟨_, rfl⟩
  rw [← he1]
  have HE := Lib.hid he1
  clear he1
  by_cases h0 : e1 = 0
  · rw [if_neg (by simp [h0])]
    have hb : (e1 != 0) = false := by simp [h0]
    clear h0
    go_enter Try.func56, Try.ntmps56
    go_wp2_with (first
      | (refine go_val_ex rfl (ho.xbox 3 rfl rfl (cs := [.pointer (some ⟨p, 0, none⟩), .int .i64 first, .int .i64 nn]) rfl) ?_; rintro v w1 ⟨b3, rfl, hq⟩; simp only [Act.put, List.setIfInBounds_toArray, List.set_cons_zero, List.set_cons_succ]; (try simp only [List.nil_append, List.cons_append, List.set_cons_zero, List.set_cons_succ] at hq); replace ho := hq; clear hq)
      | (refine go_val_ex rfl (ho.xbox 5 rfl rfl (cs := secVals s) rfl) ?_; rintro v w1 ⟨b5, rfl, hq⟩; simp only [Act.put, List.setIfInBounds_toArray, List.set_cons_zero, List.set_cons_succ]; (try simp only [List.nil_append, List.cons_append, List.set_cons_zero, List.set_cons_succ] at hq); replace ho := hq; clear hq)
      | (refine go_val rfl (ho.xlptr (k := 2) (i := 0) (x := .tmp 8) rfl rfl rfl rfl) ?_; simp only [Act.put, List.setIfInBounds_toArray, List.set_cons_zero, List.set_cons_succ])
      | (refine go_val rfl (ho.xlptr (k := 2) (i := 0) (x := .tmp 16) rfl rfl rfl rfl) ?_; simp only [Act.put, List.setIfInBounds_toArray, List.set_cons_zero, List.set_cons_succ])
      | (refine go_val rfl (ho.xload (k := 3) (x := .tmp 5) rfl rfl rfl hs) ?_; simp only [Act.put, List.setIfInBounds_toArray, List.set_cons_zero, List.set_cons_succ])
      | (go_at_call 10; refine (ho.write_ (k := 0) rfl _ hs hst1).mono ?_; rintro e w' ⟨rfl, hq⟩; rw [← HE.out]; (try simp only [List.nil_append, List.cons_append, List.set_cons_zero, List.set_cons_succ] at hq); replace ho := hq; clear hq)
      | (go_at_call 23; refine (ho.sync_ (k := 0) rfl hst2).mono ?_; rintro e w' ⟨rfl, hq⟩; (try simp only [List.nil_append, List.cons_append, List.set_cons_zero, List.set_cons_succ] at hq); replace ho := hq; clear hq))
    go_ret
    exact ⟨rfl, (ho.pick [0, 1] (by decide) rfl).back⟩
  · rw [if_pos (by simp [h0])]
    have hb : (e1 != 0) = true := by simp [h0]
    clear h0
    go_enter Try.func56, Try.ntmps56
    go_wp2_with (first
      | (refine go_val_ex rfl (ho.xbox 3 rfl rfl (cs := [.pointer (some ⟨p, 0, none⟩), .int .i64 first, .int .i64 nn]) rfl) ?_; rintro v w1 ⟨b3, rfl, hq⟩; simp only [Act.put, List.setIfInBounds_toArray, List.set_cons_zero, List.set_cons_succ]; (try simp only [List.nil_append, List.cons_append, List.set_cons_zero, List.set_cons_succ] at hq); replace ho := hq; clear hq)
      | (refine go_val_ex rfl (ho.xbox 5 rfl rfl (cs := secVals s) rfl) ?_; rintro v w1 ⟨b5, rfl, hq⟩; simp only [Act.put, List.setIfInBounds_toArray, List.set_cons_zero, List.set_cons_succ]; (try simp only [List.nil_append, List.cons_append, List.set_cons_zero, List.set_cons_succ] at hq); replace ho := hq; clear hq)
      | (refine go_val rfl (ho.xlptr (k := 2) (i := 0) (x := .tmp 8) rfl rfl rfl rfl) ?_; simp only [Act.put, List.setIfInBounds_toArray, List.set_cons_zero, List.set_cons_succ])
      | (refine go_val rfl (ho.xload (k := 3) (x := .tmp 5) rfl rfl rfl hs) ?_; simp only [Act.put, List.setIfInBounds_toArray, List.set_cons_zero, List.set_cons_succ])
      | (go_at_call 10; refine (ho.write_ (k := 0) rfl _ hs hst1).mono ?_; rintro e w' ⟨rfl, hq⟩; rw [← HE.out]; (try simp only [List.nil_append, List.cons_append, List.set_cons_zero, List.set_cons_succ] at hq); replace ho := hq; clear hq))
    go_ret
    exact ⟨by rw [← HE.out]; rfl, (ho.pick [0, 1] (by decide) rfl).back⟩
theorem found_cells {b : Nat} {s : Sec} {i : Int} {g : Bool} {w : World} (h : Blk w b (foundVals s i g).toArray 95) (hs : SecOk s) :
    w.cell? ⟨b, 65, none⟩ = some (.bool g) ∧ w.cell? ⟨b, 64, none⟩ = some (.int .i64 i) ∧ w.rangeAt b 0 (secVals s) := by
  refine ⟨by rw [h.cell]; simpa using found_65 hs i g, ?_, h.range 0 _ (fun j hj => ?_)⟩
  · rw [h.cell, List.getElem?_toArray]
    unfold foundVals
    rw [List.getElem?_append_right (by rw [sec64 hs]; omega), sec64 hs]; rfl
  · rw [Nat.zero_add, List.getElem?_toArray]
    unfold foundVals
    rw [List.getElem?_append_left hj]
theorem exl_part {o : Oper} {ρ : Operand → Value} {w : World} {x : Operand} {b : Nat} {u v z : Value} (ho : o.op = .load 91 x) (hx : ρ x = .pointer (some ⟨b, 0, none⟩)) {t : TypeId} (h : Blk w b #[u, v, z] t) : (execOp ρ o).run Try.prog w = .ok (.value (.agg #[u, v, z])) w := by
  obtain ⟨d, h1, h2⟩ := uPart
  exact ex_load (cs := [u, v, z]) ho hx (h.range 0 _ (fun j _ => by rw [Nat.zero_add]; simp)) h1 h2 sPart
theorem Own.heal_ (h : Own w0 w rs) (hk : rs[k]? = some (diskR p d)) (first nn ba oa : Int) {bs os : Sec} (bg og : Bool) (hbs : SecOk bs) (hos : SecOk os) (hst : d.steps < 1099511627000) :
    Calls Try.prog 39 #[.agg #[.pointer (some ⟨p, 0, none⟩), .int .i64 first, .int .i64 nn], .agg (foundVals bs ba bg).toArray, .agg (foundVals os oa og).toArray] w fun e w' =>
      e = .returned (.int .i64 (if bg = false ∨ (og = true ∧ os = bs) then (d, 0) else d.wsync oa bs).2) ∧ Own w0 w' (rs.set k (diskR p (if bg = false ∨ (og = true ∧ os = bs) then (d, 0) else d.wsync oa bs).1)) := by
  have ho := h.focus hk
  clear h hk
  cases bg with
  | false =>
    have HDE : Hid (decide (os = bs) = decide (os = bs)) := Lib.hid rfl
    rw [if_pos (Or.inl rfl)]
    go_enter Try.func39, Try.ntmps39
    go_upto_region 1 with (first
      | (refine go_val_ex rfl (ho.xbox 3 rfl rfl (cs := [.pointer (some ⟨p, 0, none⟩), .int .i64 first, .int .i64 nn]) rfl) ?_; rintro v w1 ⟨b3, rfl, hq⟩; simp only [Act.put, List.setIfInBounds_toArray, List.set_cons_zero, List.set_cons_succ]; (try simp only [List.nil_append, List.cons_append, List.set_cons_zero, List.set_cons_succ] at hq); replace ho := hq; clear hq)
      | (refine go_val_ex rfl (ho.xbox 4 rfl rfl (cs := foundVals bs ba false) rfl) ?_; rintro v w1 ⟨b4, rfl, hq⟩; simp only [Act.put, List.setIfInBounds_toArray, List.set_cons_zero, List.set_cons_succ]; (try simp only [List.nil_append, List.cons_append, List.set_cons_zero, List.set_cons_succ] at hq); replace ho := hq; clear hq)
      | (refine go_val_ex rfl (ho.xbox 5 rfl rfl (cs := foundVals os oa og) rfl) ?_; rintro v w1 ⟨b5, rfl, hq⟩; simp only [Act.put, List.setIfInBounds_toArray, List.set_cons_zero, List.set_cons_succ]; (try simp only [List.nil_append, List.cons_append, List.set_cons_zero, List.set_cons_succ] at hq); replace ho := hq; clear hq))
    have c8 := found_cells (ho.blk (i := 3) rfl).1 hbs
    have c12 := found_cells (ho.blk (i := 4) rfl).1 hos
    obtain ⟨x4, y4, z4⟩ := c8
    obtain ⟨x5, y5, z5⟩ := c12
    have p3 : w1.cell? ⟨b3, 0, none⟩ = some (.pointer (some ⟨p, 0, none⟩)) := by rw [(ho.blk (i := 2) rfl).1.cell]; rfl
    have Z4 := Lib.hid z4
    have Z5 := Lib.hid z5
    have P3 := Lib.hid ((ho.blk (i := 2) rfl).1)
    clear z4 z5
    go_wp2
    go_ret
    exact ⟨rfl, (ho.pick [0, 1] (by decide) rfl).back⟩
  | true =>
    cases og with
    | false =>
      have HDE : Hid (decide (os = bs) = decide (os = bs)) := Lib.hid rfl
      rw [if_neg (by simp)]
      go_enter Try.func39, Try.ntmps39
      go_upto_region 1 with (first
        | (refine go_val_ex rfl (ho.xbox 3 rfl rfl (cs := [.pointer (some ⟨p, 0, none⟩), .int .i64 first, .int .i64 nn]) rfl) ?_; rintro v w1 ⟨b3, rfl, hq⟩; simp only [Act.put, List.setIfInBounds_toArray, List.set_cons_zero, List.set_cons_succ]; (try simp only [List.nil_append, List.cons_append, List.set_cons_zero, List.set_cons_succ] at hq); replace ho := hq; clear hq)
        | (refine go_val_ex rfl (ho.xbox 4 rfl rfl (cs := foundVals bs ba true) rfl) ?_; rintro v w1 ⟨b4, rfl, hq⟩; simp only [Act.put, List.setIfInBounds_toArray, List.set_cons_zero, List.set_cons_succ]; (try simp only [List.nil_append, List.cons_append, List.set_cons_zero, List.set_cons_succ] at hq); replace ho := hq; clear hq)
        | (refine go_val_ex rfl (ho.xbox 5 rfl rfl (cs := foundVals os oa false) rfl) ?_; rintro v w1 ⟨b5, rfl, hq⟩; simp only [Act.put, List.setIfInBounds_toArray, List.set_cons_zero, List.set_cons_succ]; (try simp only [List.nil_append, List.cons_append, List.set_cons_zero, List.set_cons_succ] at hq); replace ho := hq; clear hq))
      have c8 := found_cells (ho.blk (i := 3) rfl).1 hbs
      have c12 := found_cells (ho.blk (i := 4) rfl).1 hos
      obtain ⟨x4, y4, z4⟩ := c8
      obtain ⟨x5, y5, z5⟩ := c12
      have p3 : w1.cell? ⟨b3, 0, none⟩ = some (.pointer (some ⟨p, 0, none⟩)) := by rw [(ho.blk (i := 2) rfl).1.cell]; rfl
      have Z4 := Lib.hid z4
      have Z5 := Lib.hid z5
      have P3 := Lib.hid ((ho.blk (i := 2) rfl).1)
      clear z4 z5
      go_upto_region 3 with (fail)
      go_wp2_with (first
        | (refine go_val rfl (exl_part (x := .tmp 3) (b := b3) rfl rfl P3.out) ?_; simp only [Act.put, List.setIfInBounds_toArray, List.set_cons_zero, List.set_cons_succ])
        | (refine go_val rfl (exl_sec (s := bs) (x := .tmp 24) (b := b4) (k := 0) rfl rfl hbs Z4.out) ?_; simp only [Act.put, List.setIfInBounds_toArray, List.set_cons_zero, List.set_cons_succ])
        | (go_at_call 56; refine (ho.wsync_ (k := 0) rfl _ _ _ hbs hst).mono ?_; rintro e w' ⟨rfl, hq⟩; (try simp only [List.nil_append, List.cons_append, List.set_cons_zero, List.set_cons_succ] at hq); replace ho := hq; clear hq))
      go_ret
      exact ⟨rfl, (ho.pick [0, 1] (by decide) rfl).back⟩
    | true =>
      by_cases hd : os = bs
      · have HDE : Hid (decide (os = bs) = true) := Lib.hid (by simp [hd])
        rw [if_pos (Or.inr ⟨rfl, hd⟩)]
        clear hd
        go_enter Try.func39, Try.ntmps39
        go_upto_region 1 with (first
          | (refine go_val_ex rfl (ho.xbox 3 rfl rfl (cs := [.pointer (some ⟨p, 0, none⟩), .int .i64 first, .int .i64 nn]) rfl) ?_; rintro v w1 ⟨b3, rfl, hq⟩; simp only [Act.put, List.setIfInBounds_toArray, List.set_cons_zero, List.set_cons_succ]; (try simp only [List.nil_append, List.cons_append, List.set_cons_zero, List.set_cons_succ] at hq); replace ho := hq; clear hq)
          | (refine go_val_ex rfl (ho.xbox 4 rfl rfl (cs := foundVals bs ba true) rfl) ?_; rintro v w1 ⟨b4, rfl, hq⟩; simp only [Act.put, List.setIfInBounds_toArray, List.set_cons_zero, List.set_cons_succ]; (try simp only [List.nil_append, List.cons_append, List.set_cons_zero, List.set_cons_succ] at hq); replace ho := hq; clear hq)
          | (refine go_val_ex rfl (ho.xbox 5 rfl rfl (cs := foundVals os oa true) rfl) ?_; rintro v w1 ⟨b5, rfl, hq⟩; simp only [Act.put, List.setIfInBounds_toArray, List.set_cons_zero, List.set_cons_succ]; (try simp only [List.nil_append, List.cons_append, List.set_cons_zero, List.set_cons_succ] at hq); replace ho := hq; clear hq))
        have c8 := found_cells (ho.blk (i := 3) rfl).1 hbs
        have c12 := found_cells (ho.blk (i := 4) rfl).1 hos
        obtain ⟨x4, y4, z4⟩ := c8
        obtain ⟨x5, y5, z5⟩ := c12
        have p3 : w1.cell? ⟨b3, 0, none⟩ = some (.pointer (some ⟨p, 0, none⟩)) := by rw [(ho.blk (i := 2) rfl).1.cell]; rfl
        have Z4 := Lib.hid z4
        have Z5 := Lib.hid z5
        have P3 := Lib.hid ((ho.blk (i := 2) rfl).1)
        clear z4 z5
        go_upto_region 2 with (first
          | (refine go_vg (by rfl) (exl_sec (s := os) (x := .tmp 14) (b := b5) (k := 0) rfl rfl hos Z5.out) ?_; simp only [Act.put, List.setIfInBounds_toArray, List.set_cons_zero, List.set_cons_succ])
          | (refine go_vg (by rfl) (exl_sec (s := bs) (x := .tmp 16) (b := b4) (k := 0) rfl rfl hbs Z4.out) ?_; simp only [Act.put, List.setIfInBounds_toArray, List.set_cons_zero, List.set_cons_succ])
          | (refine go_vg (by rfl) (exe_sec (a := os) (b := bs) (x := .tmp 15) (y := .tmp 17) rfl hos hbs rfl rfl) ?_; simp only [Act.put, List.setIfInBounds_toArray, List.set_cons_zero, List.set_cons_succ]; rw [HDE.out]))
        go_wp2
        go_ret
        exact ⟨rfl, (ho.pick [0, 1] (by decide) rfl).back⟩
      · have HDE : Hid (decide (os = bs) = false) := Lib.hid (by simp [hd])
        rw [if_neg (by simp [hd])]
        clear hd
        go_enter Try.func39, Try.ntmps39
        go_upto_region 1 with (first
          | (refine go_val_ex rfl (ho.xbox 3 rfl rfl (cs := [.pointer (some ⟨p, 0, none⟩), .int .i64 first, .int .i64 nn]) rfl) ?_; rintro v w1 ⟨b3, rfl, hq⟩; simp only [Act.put, List.setIfInBounds_toArray, List.set_cons_zero, List.set_cons_succ]; (try simp only [List.nil_append, List.cons_append, List.set_cons_zero, List.set_cons_succ] at hq); replace ho := hq; clear hq)
          | (refine go_val_ex rfl (ho.xbox 4 rfl rfl (cs := foundVals bs ba true) rfl) ?_; rintro v w1 ⟨b4, rfl, hq⟩; simp only [Act.put, List.setIfInBounds_toArray, List.set_cons_zero, List.set_cons_succ]; (try simp only [List.nil_append, List.cons_append, List.set_cons_zero, List.set_cons_succ] at hq); replace ho := hq; clear hq)
          | (refine go_val_ex rfl (ho.xbox 5 rfl rfl (cs := foundVals os oa true) rfl) ?_; rintro v w1 ⟨b5, rfl, hq⟩; simp only [Act.put, List.setIfInBounds_toArray, List.set_cons_zero, List.set_cons_succ]; (try simp only [List.nil_append, List.cons_append, List.set_cons_zero, List.set_cons_succ] at hq); replace ho := hq; clear hq))
        have c8 := found_cells (ho.blk (i := 3) rfl).1 hbs
        have c12 := found_cells (ho.blk (i := 4) rfl).1 hos
        obtain ⟨x4, y4, z4⟩ := c8
        obtain ⟨x5, y5, z5⟩ := c12
        have p3 : w1.cell? ⟨b3, 0, none⟩ = some (.pointer (some ⟨p, 0, none⟩)) := by rw [(ho.blk (i := 2) rfl).1.cell]; rfl
        have Z4 := Lib.hid z4
        have Z5 := Lib.hid z5
        have P3 := Lib.hid ((ho.blk (i := 2) rfl).1)
        clear z4 z5
        go_upto_region 3 with (first
          | (refine go_vg (by rfl) (exl_sec (s := os) (x := .tmp 14) (b := b5) (k := 0) rfl rfl hos Z5.out) ?_; simp only [Act.put, List.setIfInBounds_toArray, List.set_cons_zero, List.set_cons_succ])
          | (refine go_vg (by rfl) (exl_sec (s := bs) (x := .tmp 16) (b := b4) (k := 0) rfl rfl hbs Z4.out) ?_; simp only [Act.put, List.setIfInBounds_toArray, List.set_cons_zero, List.set_cons_succ])
          | (refine go_vg (by rfl) (exe_sec (a := os) (b := bs) (x := .tmp 15) (y := .tmp 17) rfl hos hbs rfl rfl) ?_; simp only [Act.put, List.setIfInBounds_toArray, List.set_cons_zero, List.set_cons_succ]; rw [HDE.out]))
        go_wp2_with (first
          | (refine go_val rfl (exl_part (x := .tmp 3) (b := b3) rfl rfl P3.out) ?_; simp only [Act.put, List.setIfInBounds_toArray, List.set_cons_zero, List.set_cons_succ])
          | (refine go_val rfl (exl_sec (s := bs) (x := .tmp 24) (b := b4) (k := 0) rfl rfl hbs Z4.out) ?_; simp only [Act.put, List.setIfInBounds_toArray, List.set_cons_zero, List.set_cons_succ])
          | (go_at_call 56; refine (ho.wsync_ (k := 0) rfl _ _ _ hbs hst).mono ?_; rintro e w' ⟨rfl, hq⟩; (try simp only [List.nil_append, List.cons_append, List.set_cons_zero, List.set_cons_succ] at hq); replace ho := hq; clear hq))
        go_ret
        exact ⟨rfl, (ho.pick [0, 1] (by decide) rfl).back⟩
end
end Go.Proofs.Ytcaalfpfkalalaa
