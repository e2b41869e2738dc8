/- Plain facts on what Go's library computes, at separators of one byte. -/
import Derived.Lib.Replace
import Derived.Lib.IndexMore
import Derived.Lib.Split
import Derived.Test.YtdkcdodkhghfhaaGreatDoorSpec
namespace Go.Proofs.YtdkcdodkhghfhaaGreatDoor
open Go

/-- Each c of a string replaced. -/
def subst1 (c : UInt8) (new : Str) (s : Str) : Str := s.flatMap fun x => if x = c then new else [x]
theorem index1_cons (b c : UInt8) (l : Str) : Lib.index (b :: l) [c] = if b = c then 0 else if Lib.index l [c] = -1 then -1 else Lib.index l [c] + 1 := by
  rw [Lib.index]
  by_cases h : b = c
  · subst h; simp [List.isPrefixOf]
  · simp [List.isPrefixOf, Ne.symm h, h]
theorem index1_nil (c : UInt8) : Lib.index [] [c] = -1 := by simp [Lib.index]
theorem index1_ge (c : UInt8) : ∀ l : Str, -1 ≤ Lib.index l [c]
  | [] => by rw [index1_nil]; omega
  | b :: l => by
    have := index1_ge c l
    rw [index1_cons]
    split
    · omega
    · split <;> omega
theorem replaceK1 (c : UInt8) (new : Str) : ∀ (s : Str) (fuel : Nat), s.length + 1 ≤ fuel → Lib.replaceK [c] new (Lib.countFrom [c] fuel s) s = subst1 c new s
  | [], fuel, h => by
    obtain ⟨f, rfl⟩ : ∃ f, fuel = f + 1 := ⟨fuel - 1, by simp at h; omega⟩
    simp [Lib.countFrom, index1_nil, Lib.replaceK, subst1]
  | b :: l, fuel, h => by
    obtain ⟨f, rfl⟩ : ∃ f, fuel = f + 1 := ⟨fuel - 1, by simp at h; omega⟩
    simp only [List.length_cons] at h
    by_cases hb : b = c
    · have hi : Lib.index (b :: l) [c] = 0 := by rw [index1_cons, if_pos hb]
      have ih := replaceK1 c new l f (by omega)
      have hc : Lib.countFrom [c] (f + 1) (b :: l) = Lib.countFrom [c] f l + 1 := by
        simp [Lib.countFrom, hi]; omega
      rw [hc]
      subst hb
      simp only [Lib.replaceK, hi]
      simp [ih, subst1]
    · by_cases hl : Lib.index l [c] = -1
      · have hi : Lib.index (b :: l) [c] = -1 := by rw [index1_cons, if_neg hb, if_pos hl]
        have ih := replaceK1 c new l (f + 1) (by omega)
        have h0 : Lib.countFrom [c] (f + 1) l = 0 := by simp [Lib.countFrom, hl]
        have h1 : Lib.countFrom [c] (f + 1) (b :: l) = 0 := by simp [Lib.countFrom, hi]
        rw [h0] at ih
        rw [h1]
        simp only [Lib.replaceK] at ih ⊢
        rw [show subst1 c new (b :: l) = b :: subst1 c new l by simp [subst1, hb], ← ih]
      · have hi : Lib.index (b :: l) [c] = Lib.index l [c] + 1 := by rw [index1_cons, if_neg hb, if_neg hl]
        have hge := index1_ge c l
        obtain ⟨i, hii⟩ : ∃ i : Nat, Lib.index l [c] = i := ⟨(Lib.index l [c]).toNat, by omega⟩
        have ih := replaceK1 c new l (f + 1) (by omega)
        rw [hii] at hi
        have e1 : (((i : Int) + 1)).toNat = i + 1 := by omega
        have n1 : ((i : Int) == -1) = false := by simp
        have n2 : (((i : Int) + 1) == -1) = false := by rw [beq_eq_false_iff_ne]; omega
        have h0 : Lib.countFrom [c] (f + 1) l = Lib.countFrom [c] f (l.drop (i + 1)) + 1 := by
          simp [Lib.countFrom, hii, n1]; omega
        have h1 : Lib.countFrom [c] (f + 1) (b :: l) = Lib.countFrom [c] f (l.drop (i + 1)) + 1 := by
          simp only [Lib.countFrom, hi, n2, e1]; simp; omega
        rw [h0] at ih
        rw [h1]
        simp only [Lib.replaceK, hii, hi, n1, n2, e1] at ih ⊢
        rw [show subst1 c new (b :: l) = b :: subst1 c new l by simp [subst1, hb], ← ih]
        simp
theorem replaceAll1 (c : UInt8) (new s : Str) (h : [c] ≠ new) : Lib.replaceAll s [c] new = subst1 c new s := by
  unfold Lib.replaceAll Lib.replace Lib.replaceNum Lib.count
  rw [if_neg (by simpa using h), if_pos (.inl (by omega))]
  exact replaceK1 c new s _ (Nat.le_refl _)
theorem subst1_length (c : UInt8) (new : Str) (hn : new.length ≤ 2) : ∀ s : Str, (subst1 c new s).length ≤ 2 * s.length
  | [] => by simp [subst1]
  | b :: l => by
    have := subst1_length c new hn l
    have e : subst1 c new (b :: l) = (if b = c then new else [b]) ++ subst1 c new l := by simp [subst1]
    rw [e, List.length_append, List.length_cons]
    split <;> simp <;> omega
end Go.Proofs.YtdkcdodkhghfhaaGreatDoor
