/- The reference: words made of numbers. -/
import Derived.Test.YtdkcdodkhghfhaaGreatDoorRL4
import Derived.Test.YtdkcdodkhghfhaaGreatDoorAP
namespace Go.Proofs.YtdkcdodkhghfhaaGreatDoor
open Go.RowKit Go.Proofs.YtdkcdodkhghfhaaGreatDoorW.PrintWords Go.Proofs.YtdkcdodkhghfhaaGreatDoorW.PrintLast

def wordsC (L : List Int) (K : Nat) (most : Int) : List Str × Nat := wordsS' L (nxtS L K (most + 1)).2 (nxtS L K (most + 1)).1.toNat
def WordsOut (L : List Int) (A : Option Addr) (cp b K : Nat) (most : Int) (w : World) (e : Ending) (w' : World) : Prop :=
  ∃ A' cp', e = .returned (.slice A' (wordsC L K most).1.length cp') ∧ NumAt L A cp b (wordsC L K most).2 w' ∧ (wordsC L K most).2 ≤ L.length ∧ NumW b w w' ∧ w'.ownsRow w.heap.size 9 1 (.slice A' (wordsC L K most).1.length cp') (wordsC L K most).1.length (strs (wordsC L K most).1)
theorem own_to {L : List Int} {A : Option Addr} {cp b K : Nat} {w w' : World} {base n : Nat} {v : Value} {xs : List Value} (h : NumAt L A cp b K w) (ht : NumTo b w w') (ho : w.ownsRow base 9 1 v n xs) : w'.ownsRow base 9 1 v n xs := (TKeep.of_num h ht).own (by simp) ho
theorem own_bel {w w' : World} {base e size n : Nat} {v : Value} {xs : List Value} (hb : Below w.heap.size w w') (ho : w.ownsRow base e size v n xs) : w'.ownsRow base e size v n xs := (TKeep.below (T := []) hb).own (by simp) ho
theorem NumAt.grown {L : List Int} {A : Option Addr} {cp b K : Nat} {w w' : World} {base n : Nat} {v : Value} {xs : List Value} (h : NumAt L A cp b K w) (ho : w.ownsRow base 9 1 v n xs) (hg : w.grownBy w' v.ownBlock) : NumAt L A cp b K w' := (hg.block _ h.lt (own_ne ho h (by decide))).trans h
theorem NumW.grown {b : Nat} {w w1 w2 : World} {e size n : Nat} {v : Value} {xs : List Value} (h : NumW b w w1) (hb : b ≤ w.heap.size) (ho : w1.ownsRow w.heap.size e size v n xs) (hg : w1.grownBy w2 v.ownBlock) : NumW b w w2 :=
  ⟨h.u.grown hg (by have := h.u.size; omega) (fun k hk => by have := own_base ho k hk; omega), fun g hgl hne => (hg.block g (Nat.lt_of_lt_of_le hgl h.u.size) (fun e => by have := own_base ho g e.symm; omega)).trans (h.k g hgl hne)⟩
theorem strs_one' (l : List Str) : ∀ u ∈ strs l, u.oneCell' = true := by
  intro u hu
  obtain ⟨x, _, rfl⟩ := List.mem_map.1 hu
  rfl
set_option maxHeartbeats 2000000 in
theorem words_made (L : List Int) (A : Option Addr) (cp b K : Nat) (most : Int) (w : World) (h : NumAt L A cp b K w) (hA : NumsIn L A b w) (hL : L.length ≤ 1000000000000000000) (hK : K ≤ L.length) (hm0 : 0 ≤ most) (hm1 : most ≤ 1000) :
    Calls Tryz.prog 41 #[.pointer (some ⟨b, 0, none⟩), .int .i64 most] w (WordsOut L A cp b K most w) := by
  have hbw := h.lt
  have H := Lib.hid h
  have HA := Lib.hid hA
  have HWC : Hid (wordsC L K most = wordsS' L (nxtS L K (most + 1)).2 (nxtS L K (most + 1)).1.toNat) := Lib.hid rfl
  clear h hA
  obtain ⟨i9, hi9, hz9, hs9, hb9⟩ := info_parts info9s
  go_enter Tryz.func41, Tryz.ntmps41
  go_wp2_with fail
  refine (next_calls L A cp b K (most + 1) _ H.out HA.out (by omega) hL hK).mono ?_
  rintro e w1 ⟨rfl, hN, hT⟩
  have hr := nxtS_range L K (most + 1) (by omega)
  have N1 := Lib.hid hN
  have T1 := Lib.hid (NumW.of_to hT)
  have hk1 := nxt_le L K (most + 1) hK
  clear hN hT
  generalize (nxtS L K (most + 1)).2 = K6 at *
  generalize (nxtS L K (most + 1)).1 = n9 at *
  obtain ⟨nn, rfl⟩ : ∃ nn : Nat, n9 = nn := ⟨n9.toNat, by omega⟩
  rw [Int.toNat_natCast] at HWC
  have hnn : nn < 2000 := by omega
  clear hr
  go_wp2_with fail
  go_loopw [5, 7] (fun s i wr => ∃ (j : Nat) (A' : Option Addr) (cp' : Nat), j ≤ nn ∧ i = .int .i64 j ∧ s = .slice A' j cp' ∧ NumAt L A cp b (wordsS' L K6 j).2 wr ∧ NumW b w wr ∧ wr.ownsRow w.heap.size 9 1 (.slice A' j cp') j (strs (wordsS' L K6 j).1)) (fun _ i _ => nn - (intOf i).toNat)
  case atStart => exact ⟨0, none, 0, Nat.zero_le _, rfl, rfl, N1.out, T1.out, own_nil _ _ _ _⟩
  case round =>
    clear N1 T1
    obtain ⟨j, A2, cp2, hj, rfl, rfl, hN, hT, hO⟩ := hrel
    have NJ := Lib.hid hN
    have TJ := Lib.hid hT
    have OJ := Lib.hid hO
    clear hN hT hO
    by_cases hjl : j < nn
    · have hws : Hid (wordsS' L K6 (j + 1) = ((wordsS' L K6 j).1 ++ [wordN (nxtS L (wordsS' L K6 j).2 8).1], (nxtS L (wordsS' L K6 j).2 8).2)) := Lib.hid rfl
      have hkj := wordsS'_le L K6 hk1 j
      generalize wordsS' L K6 j = wj at *
      obtain ⟨ws, Kj⟩ := wj
      dsimp only at NJ OJ hws hkj
      go_wp2_with fail
      refine (next_calls L A cp b Kj 8 _ NJ.out (HA.out.below TJ.out.u) (by omega) hL hkj).mono ?_
      rintro e w3 ⟨rfl, hN, hT⟩
      have N3 := Lib.hid hN
      have T3 := Lib.hid (TJ.out.trans (NumW.of_to hT))
      have O3 := Lib.hid (own_to NJ.out hT OJ.out)
      clear hN hT
      go_wp2_with fail
      refine (word_calls _ _).mono ?_
      rintro e w4 ⟨rfl, hb4⟩
      have N4 := Lib.hid (N3.out.below hb4)
      have T4 := Lib.hid (T3.out.trans (NumW.of_below hb4 (by have := T3.out.u.size; omega)))
      have O4 := Lib.hid (own_bel hb4 O3.out)
      clear hb4
      have hrd : RdB (w4.alloc (.cells #[.string ⟨(wordN (nxtS L Kj 8).1).toArray⟩] 9)) 9 (some ⟨w4.heap.size, 0, none⟩) (strs [wordN (nxtS L Kj 8).1]) := .inr ⟨_, 0, _, rfl, heap_new _ _, fun j u h => by rw [Nat.zero_add, ← Array.getElem?_toList]; exact h⟩
      have HRD := Lib.hid hrd
      clear hrd
      go_wp2_with (at_builtin; refine wpList_append_rd _ rfl (.tmp 17) (.tmp 21) _ rfl w.heap.size 9 9 i9 _ 1 16 Tryz.underlying34 hi9 hz9 hs9 hb9 rfl (by omega) _ j _ rfl (O4.out.alloc _) (some ⟨w4.heap.size, 0, none⟩) 1 1 _ rfl HRD.out rfl ?c1 (by unfold maxLen; omega) (by omega) (by have := T4.out.u.size; simp; omega) ?_)
      case c1 => exact strs_one' _
      intro v' W2 hown2 hgrow _
      obtain ⟨g9, cp9, rfl, hg9, hcp9, hlt9⟩ := own_slice hown2 (by omega)
      have N5 := Lib.hid ((N4.out.below ((Below.refl _ _).alloc (Nat.le_refl _) _)).grown (O4.out.alloc _) hgrow)
      have T5 := Lib.hid ((T4.out.alloc (by omega) _).grown (by omega) (O4.out.alloc _) hgrow)
      have O5 := Lib.hid hown2
      clear hown2 hgrow
      go_wp2_with fail
      refine ⟨⟨j + 1, some ⟨g9, 0, none⟩, cp9, hjl, rfl, rfl, ?_, T5.out, ?_⟩, by simp [intOf]; omega⟩
      · rw [hws.out]; exact N5.out
      · rw [hws.out]
        have h := O5.out
        simpa [strs, sv] using h
    · have hjn : j = nn := by omega
      subst hjn
      have hwl := wordsS'_len L K6 j
      have hkj := wordsS'_le L K6 hk1 j
      generalize wordsS' L K6 j = wj at *
      obtain ⟨ws, Kj⟩ := wj
      dsimp only at NJ OJ HWC hwl hkj
      subst hwl
      go_wp2_with fail
      go_ret
      unfold WordsOut
      rw [HWC.out]
      exact ⟨A2, cp2, rfl, NJ.out, hkj, TJ.out, OJ.out⟩
end Go.Proofs.YtdkcdodkhghfhaaGreatDoor
