/- Walks of the small functions of package lang. -/
import Derived.Test.YtdkcdodkhghfhaaGreatDoorProg
import Derived.Test.YtdkcdodkhghfhaaGreatDoorSpec
import Derived.WalkKit
import Derived.WalkSpells
import Derived.WalkLawsBesides
import Derived.BigQuiet
import Derived.Outline
import Derived.Below
import Derived.Lib.Hide
namespace Go.Proofs.YtdkcdodkhghfhaaGreatDoor
open Go.RowKit

def alnI (c : Int) : Bool := (decide (97 ≤ c) && decide (c ≤ 122)) || (decide (65 ≤ c) && decide (c ≤ 90)) || (decide (48 ≤ c) && decide (c ≤ 57))
theorem alnI_byte (c : UInt8) : alnI (c.toNat : Int) = aln c := by
  unfold alnI aln
  have h (a b : UInt8) : decide ((a.toNat : Int) ≤ (b.toNat : Int)) = decide (a ≤ b) := by
    simp [UInt8.le_iff_toNat_le]
  rw [← h, ← h, ← h, ← h, ← h, ← h]
  rfl
theorem ret_bool {a b : Bool} (h : a = b) : Ending.returned (.bool a) = .returned (.bool b) := by rw [h]
theorem ext_list (s : Str) (a b : Nat) : (⟨s.toArray⟩ : ByteArray).extract a b = ⟨((s.take b).drop a).toArray⟩ := by
  apply ByteArray.ext
  rw [ByteArray.data_extract]
  apply Array.toList_inj.1
  simp [List.extract_eq_take_drop, List.drop_take]
theorem ext_to (s : Str) (k : Nat) : (⟨s.toArray⟩ : ByteArray).extract 0 k = ⟨(s.take k).toArray⟩ := by rw [ext_list]; simp
theorem at_list (s : Str) (k : Nat) (h : k < (⟨s.toArray⟩ : ByteArray).size) : (⟨s.toArray⟩ : ByteArray)[k] = s[k]'h := rfl
theorem ret_str {a b : ByteArray} (h : a = b) : Ending.returned (.string a) = .returned (.string b) := by rw [h]

set_option maxHeartbeats 400000 in
theorem alnum_calls (c : Int) (w : World) :
    Calls Tryz.prog 67 #[.int .u8 c] w fun e w' => e = .returned (.bool (alnI c)) ∧ w = w' := by
  go_enter Tryz.func67, Tryz.ntmps67
  go_wp2
  all_goals (go_ret; exact ⟨ret_bool (by unfold alnI; rw [Bool.eq_iff_iff]; simp; omega), rfl⟩)

set_option maxHeartbeats 400000 in
theorem run_calls (s : Str) (w : World) (hs : s.length ≤ 140737488351232) :
    Calls Tryz.prog 118 #[.string ⟨s.toArray⟩] w fun e w' => e = .returned (.string ⟨(runS s).toArray⟩) ∧ w = w' := by
  go_enter Tryz.func118, Tryz.ntmps118
  go_wp2_with fail
  go_loop [3] (fun i => ∃ k : Nat, k ≤ s.length ∧ i = .int .i64 k ∧ ∀ j, j < k → ∀ c, s[j]? = some c → aln c = true) (fun i => s.length - (intOf i).toNat)
  case atStart => exact ⟨0, by omega, rfl, fun j h => absurd h (by omega)⟩
  case round =>
    obtain ⟨k, hk, rfl, hall⟩ := hrel
    have HA := Lib.hid hall
    clear hall
    by_cases hlt : k < s.length
    · go_wp2_with (go_at_call 67; refine (alnum_calls _ _).mono ?_; rintro e w' ⟨rfl, rfl⟩)
      · have ht : alnI ↑((⟨s.toArray⟩ : ByteArray)[k]'hlt).toNat = true := by assumption
        rw [at_list, alnI_byte] at ht
        refine ⟨⟨k + 1, by omega, rfl, fun j hj c hc => ?_⟩, by simp [intOf]; omega⟩
        by_cases e : j = k
        · subst e
          rw [List.getElem?_eq_getElem hlt] at hc
          injection hc with hc
          rw [← hc]; exact ht
        · exact HA.out j (by omega) c hc
      · have ht : alnI ↑((⟨s.toArray⟩ : ByteArray)[k]'hlt).toNat = false := by assumption
        rw [at_list, alnI_byte] at ht
        go_ret
        refine ⟨ret_str ?_, rfl⟩
        rw [ext_to, runS_take s k HA.out hk (.inr ⟨s[k], List.getElem?_eq_getElem hlt, ht⟩)]
    · go_wp2_with fail
      go_ret
      refine ⟨ret_str ?_, rfl⟩
      rw [ext_to, runS_take s k HA.out hk (.inl (by omega))]

set_option maxHeartbeats 1000000 in
set_option maxRecDepth 100000 in
theorem reserved_calls (s : Str) (w : World) (_hs : s.length ≤ 140737488351232) :
    Calls Tryz.prog 66 #[.string ⟨s.toArray⟩] w fun e w' => e = .returned (.bool (resS s)) ∧ w = w' := by
  go_enter Tryz.func66, Tryz.ntmps66
  go_wp2
  all_goals
    go_ret
    refine ⟨ret_bool ?_, rfl⟩
    simp_all [resS, wordsS]

theorem nameS_nil : nameS [] = false := rfl
theorem nameS_long (s : Str) (h : 12 < s.length) : nameS s = false := by
  cases s with
  | nil => rfl
  | cons c s => simp only [nameS]; rw [decide_eq_false (by omega)]; rfl
theorem nameS_of (s : Str) (h0 : 0 < s.length) (h : s.length ≤ 12) : nameS s = (!(decide (s[0] ≤ 57)) && !(resS s) && s.all aln) := by
  cases s with
  | nil => simp at h0
  | cons c s => simp only [nameS, List.getElem_cons_zero]; rw [decide_eq_true h]; simp
theorem all_take_succ (s : Str) (k : Nat) (h : k < s.length) (p : UInt8 → Bool) : (s.take (k + 1)).all p = ((s.take k).all p && p s[k]) := by
  rw [List.take_succ_eq_append_getElem h, List.all_append]; simp
theorem all_false (s : Str) (k : Nat) (h : k < s.length) (p : UInt8 → Bool) (hp : p s[k] = false) : s.all p = false := by
  rw [List.all_eq_false]
  exact ⟨s[k], List.getElem_mem h, by simp [hp]⟩

set_option maxHeartbeats 1000000 in
theorem name_calls (s : Str) (w : World) (hs : s.length ≤ 140737488351232) :
    Calls Tryz.prog 29 #[.string ⟨s.toArray⟩] w fun e w' => e = .returned (.bool (nameS s)) ∧ w = w' := by
  by_cases hn : s = []
  · subst hn
    go_enter Tryz.func29, Tryz.ntmps29
    go_wp2_with fail
    go_ret
    exact ⟨ret_bool rfl, rfl⟩
  have h0 : 0 < s.length := List.length_pos_iff.2 hn
  have hn1 : (s == []) = false := by simpa using hn
  have hn2 : s.isEmpty = false := by simpa using hn
  clear hn
  by_cases hl : 12 < s.length
  · have H := Lib.hid (nameS_long s hl)
    go_enter Tryz.func29, Tryz.ntmps29
    go_wp2_with fail
    go_ret
    exact ⟨ret_bool H.out.symm, rfl⟩
  have H := Lib.hid (nameS_of s h0 (by omega))
  have hz : 0 < (⟨s.toArray⟩ : ByteArray).size := h0
  have hl' : (s.length : Int) ≤ 12 := by omega
  clear hl
  by_cases hc : ((((⟨s.toArray⟩ : ByteArray)[0]'hz).toNat : Int) ≤ 57)
  · go_enter Tryz.func29, Tryz.ntmps29
    go_wp2_with fail
    go_ret
    refine ⟨ret_bool ?_, rfl⟩
    rw [H.out, decide_eq_true (show s[0] ≤ 57 by rw [UInt8.le_iff_toNat_le]; exact Int.ofNat_le.1 hc)]; rfl
  · have hc2 : 57 < (((⟨s.toArray⟩ : ByteArray)[0]'hz).toNat : Int) := by omega
    have hd : decide (s[0] ≤ 57) = false := decide_eq_false (by rw [UInt8.le_iff_toNat_le]; intro h; exact hc (Int.ofNat_le.2 h))
    have H2 : Hid (nameS s = (!(resS s) && s.all aln)) := Lib.hid (by rw [H.out, hd]; rfl)
    clear hc hd H
    by_cases hr : resS s = true
    · go_enter Tryz.func29, Tryz.ntmps29
      go_wp2_with (go_at_call 66; refine (reserved_calls _ _ (by omega)).mono ?_; rintro e w' ⟨rfl, rfl⟩)
      go_ret
      exact ⟨ret_bool (by rw [H2.out, hr]; rfl), rfl⟩
    · have hr : resS s = false := by simpa using hr
      have H3 : Hid (nameS s = s.all aln) := Lib.hid (by rw [H2.out, hr]; rfl)
      clear H2
      go_enter Tryz.func29, Tryz.ntmps29
      go_wp2_with (go_at_call 66; refine (reserved_calls _ _ (by omega)).mono ?_; rintro e w' ⟨rfl, rfl⟩)
      go_loop [3, 22] (fun _ i => ∃ k : Nat, k ≤ s.length ∧ i = .int .i64 k ∧ (s.take k).all aln = true) (fun _ i => s.length - (intOf i).toNat)
      case atStart => exact ⟨0, by omega, rfl, by simp⟩
      case round =>
        obtain ⟨k, hk, rfl, hall⟩ := hrel
        have HA := Lib.hid hall
        clear hall
        by_cases hlt : k < s.length
        · have hb := alnI_byte ((⟨s.toArray⟩ : ByteArray)[k]'hlt)
          cases ht : aln ((⟨s.toArray⟩ : ByteArray)[k]'hlt)
          all_goals rw [ht] at hb
          · have HT := Lib.hid ht
            clear ht
            go_wp2_with (go_at_call 67; refine (alnum_calls _ _).mono ?_; rintro e w' ⟨rfl, rfl⟩)
            go_ret
            exact ⟨ret_bool (by rw [H3.out, all_false s k hlt aln HT.out]), rfl⟩
          · have HT := Lib.hid ht
            clear ht
            go_wp2_with (go_at_call 67; refine (alnum_calls _ _).mono ?_; rintro e w' ⟨rfl, rfl⟩)
            refine ⟨⟨k + 1, by omega, rfl, ?_⟩, by simp [intOf]; omega⟩
            rw [all_take_succ s k hlt, HA.out]; exact HT.out
        · go_wp2_with fail
          go_ret
          refine ⟨ret_bool ?_, rfl⟩
          rw [H3.out, ← HA.out, List.take_of_length_le (by omega)]
end Go.Proofs.YtdkcdodkhghfhaaGreatDoor
