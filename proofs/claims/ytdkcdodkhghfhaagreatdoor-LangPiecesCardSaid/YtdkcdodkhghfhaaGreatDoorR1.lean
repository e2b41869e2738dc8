/- The reference: letters, digits, words, names. -/
import Derived.Test.YtdkcdodkhghfhaaGreatDoorAP
namespace Go.Proofs.YtdkcdodkhghfhaaGreatDoor
open Go.RowKit

def ltrI (c : Int) : Bool := (decide (97 ≤ c) && decide (c ≤ 122)) || (decide (65 ≤ c) && decide (c ≤ 90))
def digI (c : Int) : Bool := decide (48 ≤ c) && decide (c ≤ 57)
def ltr (c : UInt8) : Bool := ltrI c.toNat
def dig (c : UInt8) : Bool := digI c.toNat
set_option maxHeartbeats 400000 in
theorem letter_calls (c : Int) (w : World) : Calls Tryz.prog 68 #[.int .u8 c] w fun e w' => e = .returned (.bool (ltrI c)) ∧ w = w' := by
  go_enter Tryz.func68, Tryz.ntmps68
  go_wp2
  all_goals (go_ret; exact ⟨ret_bool (by unfold ltrI; rw [Bool.eq_iff_iff]; simp; omega), rfl⟩)
set_option maxHeartbeats 400000 in
theorem digit_calls (c : Int) (w : World) : Calls Tryz.prog 69 #[.int .u8 c] w fun e w' => e = .returned (.bool (digI c)) ∧ w = w' := by
  go_enter Tryz.func69, Tryz.ntmps69
  go_wp2
  all_goals (go_ret; exact ⟨ret_bool (by unfold digI; rw [Bool.eq_iff_iff]; simp; omega), rfl⟩)
theorem aln_ltr (c : UInt8) : aln c = (ltr c || dig c) := by
  rw [← alnI_byte]; rfl
theorem ltr_hi (c : UInt8) (h : ltr c = true) : ¬ c ≤ 57 := by
  unfold ltr ltrI at h
  rw [UInt8.le_iff_toNat_le]
  intro h'
  have : (c.toNat : Int) ≤ 57 := Int.ofNat_le.2 h'
  simp at h
  omega
theorem dig_lo (c : UInt8) (h : dig c = true) : c ≤ 57 := by
  unfold dig digI at h
  rw [UInt8.le_iff_toNat_le]
  simp at h
  show c.toNat ≤ 57
  omega

theorem sv_inj {a b : Str} (h : (⟨a.toArray⟩ : ByteArray) = ⟨b.toArray⟩) : a = b := by
  have := congrArg (fun x : ByteArray => x.data.toList) h
  simpa using this
theorem beq_swap (a b : Str) : (a == b) = (b == a) := by
  rw [Bool.eq_iff_iff, beq_iff_eq, beq_iff_eq]
  exact eq_comm
theorem contains_next (l : List Str) (s : Str) (k : Nat) (h : k < l.length) : (l.take (k + 1)).contains s = ((l.take k).contains s || (l[k] == s)) := by
  rw [List.take_succ_eq_append_getElem h, List.contains_eq_any_beq, List.any_append, ← List.contains_eq_any_beq, List.any_cons, List.any_nil, Bool.or_false, beq_swap]
set_option maxHeartbeats 1000000 in
theorem in_calls (l : List Str) (s : Str) (A : Option Addr) (cp : Nat) (w : World) (hA : RdB w 9 A (strs l)) (hl : l.length ≤ 1000000000000) :
    Calls Tryz.prog 70 #[.slice A l.length cp, .string ⟨s.toArray⟩] w fun e w' => e = .returned (.bool (l.contains s)) ∧ w = w' := by
  have HA := Lib.hid hA
  clear hA
  go_enter Tryz.func70, Tryz.ntmps70
  go_wp2_with fail
  go_loop [5] (fun i => ∃ k : Nat, k ≤ l.length ∧ i = .int .i64 k ∧ (l.take k).contains s = false) (fun i => l.length - (intOf i).toNat)
  case atStart => exact ⟨0, Nat.zero_le _, rfl, rfl⟩
  case round =>
    obtain ⟨k, hk, rfl, hall⟩ := hrel
    have HALL := Lib.hid hall
    clear hall
    by_cases hlt : k < l.length
    · obtain ⟨g, off, rfl, hc⟩ := rd_at HA.out hlt
      have hmem := List.getElem_mem hlt
      have hnx := Lib.hid (contains_next l s k hlt)
      generalize l[k] = x at *
      by_cases hx : x = s
      · subst hx
        have HM := Lib.hid hmem
        clear hmem
        go_wp2_with fail
        go_ret
        exact ⟨ret_bool (by simpa using HM.out), rfl⟩
      · have hx1 : (x == s) = false := by simpa using hx
        have HX1 := Lib.hid hx1
        go_wp2_with fail
        refine ⟨⟨k + 1, hlt, rfl, ?_⟩, by simp [intOf]; omega⟩
        rw [hnx.out, HALL.out, HX1.out]; rfl
    · go_wp2_with fail
      go_ret
      refine ⟨ret_bool ?_, rfl⟩
      have h1 := HALL.out
      rw [List.take_of_length_le (by omega)] at h1
      simpa using h1.symm
set_option maxHeartbeats 1000000 in
set_option maxRecDepth 100000 in
theorem words_calls (w : World) :
    Calls Tryz.prog 28 #[] w fun e w' => e = .returned (.slice (some ⟨w.heap.size, 0, none⟩) 35 35) ∧ w' = w.alloc (.cells (strs wordsS).toArray 9) := by
  go_enter Tryz.func28, Tryz.ntmps28
  go_wp2
  go_ret
  exact ⟨rfl, rfl⟩
def letsAll : Str → Bool
  | [] => true
  | c :: t => ltr c && t.all aln
/-- A name, as the reference tells it. -/
def rnameS (s : Str) : Bool := decide (1 ≤ s.length) && decide (s.length ≤ 12) && letsAll s && !(resS s)
theorem rname_eq (s : Str) : rnameS s = nameS s := by
  cases s with
  | nil => rfl
  | cons c t =>
    unfold rnameS nameS
    simp only [List.all_cons, letsAll]
    cases hl : ltr c with
    | true =>
      have h1 := decide_eq_false (ltr_hi c hl)
      have h2 : aln c = true := by rw [aln_ltr, hl]; rfl
      rw [h1, h2]
      simp
      cases decide (t.length ≤ 11) <;> cases resS (c :: t) <;> cases t.all aln <;> rfl
    | false =>
      cases hd : dig c with
      | true => rw [decide_eq_true (dig_lo c hd)]; simp
      | false => rw [show aln c = false by rw [aln_ltr, hl, hd]; rfl]; simp
theorem lets_succ (s : Str) (k : Nat) (h : k < s.length) : letsAll (s.take (k + 1)) = (letsAll (s.take k) && (ltr s[k] || (decide (k ≠ 0) && dig s[k]))) := by
  cases s with
  | nil => simp at h
  | cons c t =>
    cases k with
    | zero => simp [letsAll]
    | succ k =>
      simp only [List.length_cons] at h
      have h' : k < t.length := by omega
      simp only [List.take_succ_cons, List.getElem_cons_succ, letsAll]
      rw [List.take_succ_eq_append_getElem h', List.all_append]
      simp [aln_ltr, Bool.and_assoc]
theorem lets_no (s : Str) (k : Nat) (h : letsAll (s.take k) = false) : letsAll s = false := by
  cases s with
  | nil => simp [letsAll] at h
  | cons c t =>
    cases k with
    | zero => simp [letsAll] at h
    | succ k =>
      simp only [List.take_succ_cons, letsAll] at h ⊢
      cases hl : ltr c with
      | false => rfl
      | true =>
        rw [hl, Bool.true_and, List.all_eq_false] at h
        rw [Bool.true_and, List.all_eq_false]
        obtain ⟨x, hx, hn⟩ := h
        exact ⟨x, List.mem_of_mem_take hx, hn⟩
set_option maxHeartbeats 2000000 in
theorem rname_calls (s : Str) (w : World) (hs : s.length ≤ 140737488351232) :
    Calls Tryz.prog 30 #[.string ⟨s.toArray⟩] w fun e w' => e = .returned (.bool (nameS s)) ∧ Below w.heap.size w w' := by
  rw [← rname_eq]
  by_cases h1 : s.length < 1
  · have HS : Hid (rnameS s = false) := Lib.hid (by unfold rnameS; rw [decide_eq_false (show ¬ 1 ≤ s.length by omega)]; rfl)
    go_enter Tryz.func30, Tryz.ntmps30
    go_wp2_with fail
    go_ret
    exact ⟨ret_bool HS.out.symm, Below.refl _ _⟩
  by_cases h2 : 12 < s.length
  · have HS : Hid (rnameS s = false) := Lib.hid (by unfold rnameS; rw [decide_eq_false (show ¬ s.length ≤ 12 by omega), Bool.and_false]; rfl)
    go_enter Tryz.func30, Tryz.ntmps30
    go_wp2_with fail
    go_ret
    exact ⟨ret_bool HS.out.symm, Below.refl _ _⟩
  have HS : Hid (rnameS s = (letsAll s && !(resS s))) := Lib.hid (by unfold rnameS; rw [decide_eq_true (show 1 ≤ s.length by omega), decide_eq_true (show s.length ≤ 12 by omega)]; rfl)
  have h1' : 1 ≤ s.length := by omega
  have h2' : s.length ≤ 12 := by omega
  clear h1 h2
  go_enter Tryz.func30, Tryz.ntmps30
  go_wp2_with fail
  go_loop [3] (fun i => ∃ k : Nat, k ≤ s.length ∧ i = .int .i64 k ∧ letsAll (s.take k) = true) (fun i => s.length - (intOf i).toNat)
  case atStart => exact ⟨0, Nat.zero_le _, rfl, rfl⟩
  case round =>
    obtain ⟨k, hk, rfl, hall⟩ := hrel
    have HALL := Lib.hid hall
    clear hall
    by_cases hlt : k < s.length
    · have hn := lets_succ s k hlt
      rw [HALL.out, Bool.true_and] at hn
      have HN := Lib.hid hn
      clear hn
      have key : ∀ b : Bool, ltrI (((⟨s.toArray⟩ : ByteArray)[k]'hlt).toNat : Int) = b → ltr s[k] = b := fun b h => h
      have key2 : ∀ b : Bool, digI (((⟨s.toArray⟩ : ByteArray)[k]'hlt).toNat : Int) = b → dig s[k] = b := fun b h => h
      have KEY := Lib.hid key
      have KEY2 := Lib.hid key2
      clear key key2
      have no : letsAll (s.take (k + 1)) = false → rnameS s = false := fun h => by rw [HS.out, lets_no s _ h]; rfl
      have NO := Lib.hid no
      clear no
      cases hl : ltrI (((⟨s.toArray⟩ : ByteArray)[k]'hlt).toNat : Int) with
      | true =>
        have HL := Lib.hid (KEY.out _ hl)
        go_wp2_with (first | (go_at_call 68; refine (letter_calls _ _).mono ?_; rintro e w' ⟨rfl, rfl⟩))
        refine ⟨⟨k + 1, hlt, rfl, ?_⟩, by simp [intOf]; omega⟩
        rw [HN.out, HL.out]; rfl
      | false =>
        have HL := Lib.hid (KEY.out _ hl)
        by_cases hk0 : k = 0
        · subst hk0
          go_wp2_with (first | (go_at_call 68; refine (letter_calls _ _).mono ?_; rintro e w' ⟨rfl, rfl⟩))
          go_ret
          exact ⟨ret_bool (NO.out (by rw [HN.out, HL.out]; rfl)).symm, Below.refl _ _⟩
        · have hk1 : ((k : Int) == 0) = false := by rw [beq_eq_false_iff_ne]; omega
          have HK := Lib.hid (decide_eq_true hk0)
          clear hk0
          cases hd : digI (((⟨s.toArray⟩ : ByteArray)[k]'hlt).toNat : Int) with
          | true =>
            have HD := Lib.hid (KEY2.out _ hd)
            go_wp2_with (first | (go_at_call 68; refine (letter_calls _ _).mono ?_; rintro e w' ⟨rfl, rfl⟩) | (go_at_call 69; refine (digit_calls _ _).mono ?_; rintro e w' ⟨rfl, rfl⟩))
            refine ⟨⟨k + 1, hlt, rfl, ?_⟩, by simp [intOf]; omega⟩
            rw [HN.out, HL.out, HD.out, HK.out]; rfl
          | false =>
            have HD := Lib.hid (KEY2.out _ hd)
            go_wp2_with (first | (go_at_call 68; refine (letter_calls _ _).mono ?_; rintro e w' ⟨rfl, rfl⟩) | (go_at_call 69; refine (digit_calls _ _).mono ?_; rintro e w' ⟨rfl, rfl⟩))
            go_ret
            exact ⟨ret_bool (NO.out (by rw [HN.out, HL.out, HD.out, HK.out]; rfl)).symm, Below.refl _ _⟩
    · have hk' : k = s.length := by omega
      subst hk'
      rw [List.take_length] at HALL
      have HS2 : Hid (rnameS s = !(resS s)) := Lib.hid (by rw [HS.out, HALL.out]; rfl)
      go_wp2_with fail
      refine (words_calls _).mono ?_
      rintro e w1 ⟨rfl, rfl⟩
      go_wp2_with fail
      refine (in_calls wordsS s (some ⟨w.heap.size, 0, none⟩) 35 _ (.inr ⟨_, 0, _, rfl, heap_new _ _, fun j u h => by rw [Nat.zero_add, ← Array.getElem?_toList]; exact h⟩) (by decide)).mono ?_
      rintro e w' ⟨rfl, rfl⟩
      go_wp2_with fail
      go_ret
      refine ⟨ret_bool ?_, (Below.refl _ _).alloc (Nat.le_refl _) _⟩
      rw [HS2.out]; simp [resS]
end Go.Proofs.YtdkcdodkhghfhaaGreatDoor
