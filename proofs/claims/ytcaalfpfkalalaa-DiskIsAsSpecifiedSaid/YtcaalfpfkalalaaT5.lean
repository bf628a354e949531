/- The specification's disk: one cell of it laid open; Rot, Flip. -/
import Derived.Test.YtcaalfpfkalalaaT4
set_option linter.unusedVariables false
set_option linter.unusedSimpArgs false
set_option maxRecDepth 10000
set_option maxHeartbeats 4000000
namespace Go.Proofs.Ytcaalfpfkalalaa
open Go.RowKit Qd
open Go.Proofs.YtcaalfpfkalalaaW.PrintLast
def refAt (p bc : Nat) (d : Disk) (A B vs : List Value) (c : Qd.Cell) (v : Value) (opn : Nat → List Sec) : List Res :=
  [blkR p (refObj bc d).toArray 107, blkR bc (A ++ refCell (c, v) ++ B).toArray 110, rowsR vs opn]
section
variable {w0 w : World} {rs tl : List Res} {p k m : Nat} {d : Disk}
theorem Own.openAt (h : Own w0 w (refR p d :: tl)) (hm : m < d.cells.length) : ∃ (bc : Nat) (vs A B : List Value) (a : Option Addr) (cp : Nat), d.Ok ∧ A.length = m * 66 ∧ vs[m]? = some (.slice a (d.opn m).length cp) ∧ (d.opn m = [] → a = none ∧ cp = 0) ∧ (d.opn m ≠ [] → ∃ g, a = some ⟨g, 0, none⟩) ∧ (d.opn m).length ≤ 9223372036854775807 ∧
    Own w0 w (refAt p bc d A B vs (d.cell m) (.slice a (d.opn m).length cp) d.opn ++ tl) ∧
    (∀ (w' : World) (d' : Disk) (c' : Qd.Cell) (v' : Value), SecOk c'.s → d'.Ok → d'.cells = d.cells.set m c' → Own w0 w' (refAt p bc d' A B (vs.set m v') c' v' d'.opn ++ tl) → Own w0 w' (refR p d' :: tl)) := by
  obtain ⟨bc, vs, hl, hok, ho⟩ := h.openRef0
  obtain ⟨A, B, hA, hsp, hset⟩ := refSplit hok.sec hl hm
  rw [show d.cells.getD m zeroCell = d.cell m from rfl] at hsp
  have hvi : vs[m]? = some (vs.getD m (.slice none 0 0)) := by rw [List.getD_eq_getElem?_getD, List.getElem?_eq_getElem (by omega)]; rfl
  have hvr := ho.rowOf (k := 2) (i := m) rfl hvi
  obtain ⟨a, cp, hv, hg⟩ := row_slice hvr.1 (hok.opnOk m)
  rw [hv] at hsp hvr hvi
  refine ⟨bc, vs, A, B, a, cp, hok, hA, hvi, fun he => ?_, fun hne => ?_, own_max hvr.1, ?_, fun w' d' c' v' hc hok' hcs hh => ?_⟩
  · have := hvr.2 he
    injection this with e1 e2 e3
    exact ⟨e1, e3⟩
  · obtain ⟨g, e, _⟩ := hg hne
    exact ⟨g, e⟩
  · unfold refAt
    unfold refL at ho
    rw [hsp] at ho
    exact ho
  · refine Own.shutRef0 (bc := bc) (vs := vs.set m v') ?_ (by rw [hcs]; simp [hl]) hok'
    unfold refL
    rw [hcs, hset c' v' hc]
    unfold refAt at hh
    exact hh
theorem set_same_of {α : Type} {l : List α} {i : Nat} {x : α} (h : l[i]? = some x) : l.set i x = l := list_set_same h
end
attribute [local irreducible] diskR blkR restR rowsR secVals SecOk refRow Own refCell gotVals
section
variable {w0 w : World} {rs : List Res} {p k : Nat} {d : Disk}
theorem Own.rrot_ (h : Own w0 w rs) (hk : rs[k]? = some (refR p d)) (i : Int) : Calls Try.prog 49 #[.pointer (some ⟨p, 0, none⟩), .int .i64 i] w fun e w' =>
    e = .returned (.int .i64 (d.rot i).2) ∧ Own w0 w' (rs.set k (refR p (d.rot i).1)) := by
  have HC := Lib.hid (h.rcheck_ hk i)
  unfold Disk.rot
  by_cases hc : d.check i = 0
  · obtain ⟨_, h0, h1⟩ := check_in hc
    obtain ⟨m, rfl⟩ := Int.eq_ofNat_of_zero_le h0
    rw [if_neg (by rw [hc]; simp), Int.toNat_natCast]
    rw [hc] at HC
    have hm : m < d.cells.length := by omega
    obtain ⟨bc, vs, A, B, a, cp, hok, hA, hvi, -, -, -, ho, hsh⟩ := (h.focus hk).openAt hm
    have hcok : SecOk (d.cell m).s := hok.cell m
    have hsl := hok.len
    have HEND : Hid (∀ w', Own w0 w' [blkR p (refObj bc d).toArray 107, blkR bc (A ++ refCell (rotCell, .slice a (d.opn m).length cp) ++ B).toArray 110, rowsR vs d.opn, restR rs (· = k)] → Own w0 w' (rs.set k (refR p { d with cells := d.cells.set m rotCell }))) := Lib.hid (fun w' hh =>
      (hsh w' { d with cells := d.cells.set m rotCell } rotCell (.slice a (d.opn m).length cp) zeroSec_ok (Disk.rowSet_ok hok m zeroSec_ok (fun _ => rfl)) rfl (by
        unfold refAt
        rw [set_same_of hvi]
        unfold refObj at hh ⊢
        simp only [List.length_set]
        exact hh)).back)
    simp only [refAt, refObj, List.cons_append, List.nil_append] at ho HEND
    obtain ⟨N, hN⟩ : ∃ N, N = d.cells.length := ⟨_, rfl⟩
    obtain ⟨n, hn⟩ : ∃ n, n = (d.opn m).length := ⟨_, rfl⟩
    obtain ⟨c, hcc⟩ : ∃ c, c = d.cell m := ⟨_, rfl⟩
    rw [← hN] at ho hm hsl HEND
    rw [← hn] at ho HEND
    rw [← hcc] at ho hcok
    have hm' : (m : Int) < (N : Int) := by omega
    have hb : rotCell = ⟨zeroSec, true⟩ := rfl
    rw [hb] at HEND ⊢
    clear h hk hvi hsh hok hN hn hcc hc h1 hb
    go_enter Try.func49, Try.ntmps49
    go_wp2_with (first
      | (go_at_call 51; refine HC.out.mono ?_; rintro e w' ⟨rfl, rfl⟩)
      | (refine go_val rfl (ho.xlcells (k := 0) (j := 0) (x := .tmp 14) rfl rfl rfl rfl) ?_; simp only [Act.put, List.setIfInBounds_toArray, List.set_cons_zero, List.set_cons_succ])
      | (refine go_val rfl (ho.xlcells (k := 0) (j := 0) (x := .tmp 21) rfl rfl rfl rfl) ?_; simp only [Act.put, List.setIfInBounds_toArray, List.set_cons_zero, List.set_cons_succ])
      | (refine go_skp_ex rfl (ho.xrsbad (k := 1) (i := m) (x := .tmp 18) (y := .const (.bool true)) rfl hA hcok rfl rfl rfl) ?_; rintro w1 hq; simp only [Act.put, List.setIfInBounds_toArray, List.set_cons_zero, List.set_cons_succ]; (try simp only [List.nil_append, List.cons_append, List.set_cons_zero, List.set_cons_succ] at hq); replace ho := hq; clear hq)
      | (refine go_val rfl (exb_sec rfl) ?_; simp only [Act.put, List.setIfInBounds_toArray, List.set_cons_zero, List.set_cons_succ])
      | (refine go_skp_ex rfl (ho.xrssec (k := 1) (i := m) (s := zeroSec) (x := .tmp 26) (y := .tmp 24) rfl hA hcok zeroSec_ok rfl rfl rfl) ?_; rintro w1 hq; simp only [Act.put, List.setIfInBounds_toArray, List.set_cons_zero, List.set_cons_succ]; (try simp only [List.nil_append, List.cons_append, List.set_cons_zero, List.set_cons_succ] at hq); replace ho := hq; clear hq))
    go_ret
    exact ⟨rfl, HEND.out _ ho⟩
  · rw [if_pos hc]
    obtain ⟨z, hz⟩ : ∃ z, z = d.check i := ⟨_, rfl⟩
    rw [← hz] at hc HC ⊢
    have hsame := list_set_same hk
    have hb1 : (z != 0) = true := by simp [hc]
    have HH : Hid (Own w0 w (rs.set k (refR p d))) := Lib.hid (by rw [hsame]; exact h)
    clear hz h hk hsame
    go_enter Try.func49, Try.ntmps49
    go_wp2_with (go_at_call 51; refine HC.out.mono ?_; rintro e w' ⟨rfl, rfl⟩)
    go_ret
    exact ⟨rfl, HH.out⟩
end
end Go.Proofs.Ytcaalfpfkalalaa
