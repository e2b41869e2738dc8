/- The reference: numbers out of which cases are made. -/
import Derived.Test.YtdkcdodkhghfhaaGreatDoorR1
import Derived.Deep.QuietTactic
import Derived.IntWalk
namespace Go.Proofs.YtdkcdodkhghfhaaGreatDoor
open Go.RowKit Go.Proofs.YtdkcdodkhghfhaaGreatDoorW.PrintWords

theorem ret_int {k : IntKind} {a b : Int} (h : a = b) : Ending.returned (.int k a) = .returned (.int k b) := by rw [h]
theorem tmod_emod (n m : Int) (h : 1 ≤ m) : (n.tmod m + m) % m = n % m := by
  rw [Int.add_emod_right, Int.tmod_eq_emod]
  split
  · simp
  · have : (m.natAbs : Int) = m := Int.natAbs_of_nonneg (by omega)
    rw [this, Int.sub_emod]
    simp
theorem tmod_lo (n m : Int) (h : 1 ≤ m) : -m < n.tmod m := by
  have := Int.tmod_lt_of_pos (-n) (show 0 < m by omega)
  rw [Int.neg_tmod] at this
  omega
set_option maxHeartbeats 400000 in
theorem mod_calls (n m : Int) (w : World) (h1 : 1 ≤ m) (h2 : m ≤ 1000000000000000000) :
    Calls Tryz.prog 60 #[.int .i64 n, .int .i64 m] w fun e w' => e = .returned (.int .i64 (n % m)) ∧ w = w' := by
  have hm : ¬ m = 0 := by omega
  have h3 := Int.tmod_lt_of_pos n (show 0 < m by omega)
  have h4 := tmod_lo n m h1
  have HE := Lib.hid (tmod_emod n m h1)
  go_enter Tryz.func60, Tryz.ntmps60
  go_wp2
  go_ret
  exact ⟨ret_int HE.out, rfl⟩

theorem mod_same (n m : Int) (w : World) (h1 : 1 ≤ m) (h2 : m ≤ 1000000000000000000) :
    Calls Tryz.prog 60 #[.int .i64 n, .int .i64 m] w fun e w' => e = .returned (.int .i64 (n % m)) ∧ w' = w := (mod_calls n m w h1 h2).mono fun _ _ h => ⟨h.1, h.2.symm⟩
theorem add_block' (a : Addr) (n : Nat) : (a.add n).block = a.block := by unfold Addr.add; split <;> rfl
/-- The numbers of a case: block b holds the list, and how many are used. -/
def NumAt (L : List Int) (A : Option Addr) (cp b K : Nat) (w : World) : Prop := w.heap[b]? = some (.cells #[.slice A L.length cp, .int .i64 K] 58 (0, 0))
/-- The list's cells, below block b. -/
def NumsIn (L : List Int) (A : Option Addr) (b : Nat) (w : World) : Prop := ∀ j z, L[j]? = some z → ∃ a, A = some a ∧ a.block < b ∧ w.cell? (a.add j) = some (.int .i64 z)
/-- Nothing else has turned. -/
structure NumTo (b : Nat) (w w' : World) : Prop where
  u : Below b w w'
  k : ∀ g, g ≠ b → w'.heap[g]? = w.heap[g]?
theorem NumTo.drew (b : Nat) (w : World) (n : Nat) : NumTo b w (w.drewN n) := ⟨⟨rfl, rfl, rfl, Nat.le_refl _, fun _ _ => rfl⟩, fun _ _ => rfl⟩
def nxtS (L : List Int) (K : Nat) (n : Int) : Int × Nat := if h : K < L.length ∧ 1 ≤ n then (L[K]'h.1 % n, K + 1) else (0, K)
theorem nxtS_no {L : List Int} {K : Nat} {n : Int} (h : ¬ (K < L.length ∧ 1 ≤ n)) : nxtS L K n = (0, K) := by unfold nxtS; rw [dif_neg h]
theorem nxtS_yes {L : List Int} {K : Nat} {n : Int} (h : K < L.length) (h1 : 1 ≤ n) : nxtS L K n = (L[K] % n, K + 1) := by unfold nxtS; rw [dif_pos ⟨h, h1⟩]
theorem nxtS_range (L : List Int) (K : Nat) (n : Int) (h : 1 ≤ n) : 0 ≤ (nxtS L K n).1 ∧ (nxtS L K n).1 < n := by
  unfold nxtS
  split
  · exact ⟨Int.emod_nonneg _ (by omega), Int.emod_lt_of_pos _ (by omega)⟩
  · exact ⟨by simp, by simp; omega⟩
set_option maxHeartbeats 1000000 in
theorem next_calls (L : List Int) (A : Option Addr) (cp b K : Nat) (n : Int) (w : World) (h : NumAt L A cp b K w) (hA : NumsIn L A b w) (hn : n ≤ 1000000000000000000) (hL : L.length ≤ 1000000000000000000) (hK : K ≤ L.length) :
    Calls Tryz.prog 39 #[.pointer (some ⟨b, 0, none⟩), .int .i64 n] w fun e w' => e = .returned (.int .i64 (nxtS L K n).1) ∧ NumAt L A cp b (nxtS L K n).2 w' ∧ NumTo b w w' := by
  have H := Lib.hid h
  have HA := Lib.hid hA
  have c0 : w.cell? ⟨b, 0, none⟩ = some (.slice A L.length cp) := cellB h 0 rfl
  have c1 : w.cell? ⟨b, 1, none⟩ = some (.int .i64 K) := cellB h 1 rfl
  have f1 := frozenB h 1
  clear h hA
  by_cases hk : K < L.length
  · have hk' : decide ((L.length : Int) ≤ (K : Int)) = false := by simp; omega
    by_cases h1 : 1 ≤ n
    · obtain ⟨a, rfl, hab, hc⟩ := HA.out K _ (List.getElem?_eq_getElem hk)
      have HN := Lib.hid (nxtS_yes (n := n) hk h1)
      have h1n : ¬ n < 1 := by omega
      have h1n' : decide (n < 1) = false := by simpa using h1n
      have hbs := sizeB H.out
      have hne : ¬ b = a.block := by omega
      generalize L[K] = z at *
      have hw1 : IntKind.i64.wrap ((K : Int) + 1) = (K : Int) + 1 := IntWalk.i64_in _ (by omega)
      have hw2 : IntKind.i64.wrap ((K : Int) + 1 - 1) = (K : Int) := by rw [show (K : Int) + 1 - 1 = K from by omega]; exact IntWalk.i64_in _ (by omega)
      go_enter Tryz.func39, Tryz.ntmps39
      go_wp2_with fail
      go_quiet (fail)
      go_wp2_with fail
      have hne2 : ¬ (⟨b, 1, none⟩ : Addr) = a.add K := fun e => hne (by have := congrArg Addr.block e; rw [add_block'] at this; exact this)
      go_quiet ((go_at_call 60; exact Calls.quiet_of_same (mod_same z n _ h1 hn)))
      go_wp2_with fail
      go_ret
      rw [HN.out]
      refine ⟨rfl, blk_set H.out 1 _, ⟨?_, fun g hg => Below.heap_setCell w ⟨b, 1, none⟩ _ g hg⟩⟩
      have hb : Below b w (w.setCell ⟨b, 1, none⟩ (.int .i64 ((K : Int) + 1))) := (Below.refl b w).setCell (Nat.le_refl _) _
      exact ⟨hb.os, hb.tape, hb.output, hb.size, hb.block⟩
    · have HN := Lib.hid (nxtS_no (L := L) (K := K) (n := n) (fun h => h1 h.2))
      have h1' : n < 1 := by omega
      go_enter Tryz.func39, Tryz.ntmps39
      go_wp2_with fail
      go_quiet (fail)
      go_wp2_with fail
      go_ret
      rw [HN.out]
      exact ⟨rfl, H.out, NumTo.drew _ _ _⟩
  · have HN := Lib.hid (nxtS_no (L := L) (K := K) (n := n) (fun h => hk h.1))
    have hk' : (L.length : Int) ≤ (K : Int) := by omega
    go_enter Tryz.func39, Tryz.ntmps39
    go_wp2_with fail
    go_quiet (fail)
    go_wp2_with fail
    go_ret
    rw [HN.out]
    exact ⟨rfl, H.out, NumTo.drew _ _ _⟩
end Go.Proofs.YtdkcdodkhghfhaaGreatDoor
