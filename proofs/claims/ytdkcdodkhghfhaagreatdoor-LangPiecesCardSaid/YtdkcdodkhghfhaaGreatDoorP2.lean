import Derived.Lib.Replace
import Derived.Lib.IndexMore
import Derived.Lib.Split
import Derived.Test.YtdkcdodkhghfhaaGreatDoorSpec
/- Plain facts on what Go's library computes, at separators of one byte. -/
namespace Go.Proofs.YtdkcdodkhghfhaaGreatDoor
open Go

/-- Each c of a string replaced. -/
def subst1 (c : UInt8) (new : Str) (s : Str) : Str := s.flatMap fun x => if x = c then new else [x]
theorem index1_cons (b c : UInt8) (l : Str) : Lib.index (b :: l) [c] = if b = c then 0 else if Lib.index l [c] = -1 then -1 else Lib.index l [c] + 1 := by
  rw [Lib.index]
  by_cases h : b = c
  · subst h; simp [List.isPrefixOf]
  · simp [List.isPrefixOf, Ne.symm h, h]
theorem index1_nil (c : UInt8) : Lib.index [] [c] = -1 := by simp [Lib.index]
theorem index1_ge (c : UInt8) : ∀ l : Str, -1 ≤ Lib.index l [c]
  | [] => by rw [index1_nil]; omega
  | b :: l => by
    have := index1_ge c l
    rw [index1_cons]
    split
    · omega
    · split <;> omega
theorem replaceK1 (c : UInt8) (new : Str) : ∀ (s : Str) (fuel : Nat), s.length + 1 ≤ fuel → Lib.replaceK [c] new (Lib.countFrom [c] fuel s) s = subst1 c new s
  | [], fuel, h => by
    obtain ⟨f, rfl⟩ : ∃ f, fuel = f + 1 := ⟨fuel - 1, by simp at h; omega⟩
    simp [Lib.countFrom, index1_nil, Lib.replaceK, subst1]
  | b :: l, fuel, h => by
    obtain ⟨f, rfl⟩ : ∃ f, fuel = f + 1 := ⟨fuel - 1, by simp at h; omega⟩
    simp only [List.length_cons] at h
    by_cases hb : b = c
    · have hi : Lib.index (b :: l) [c] = 0 := by rw [index1_cons, if_pos hb]
      have ih := replaceK1 c new l f (by omega)
      have hc : Lib.countFrom [c] (f + 1) (b :: l) = Lib.countFrom [c] f l + 1 := by
        simp [Lib.countFrom, hi]; omega
      rw [hc]
      subst hb
      simp only [Lib.replaceK, hi]
      simp [ih, subst1]
    · by_cases hl : Lib.index l [c] = -1
      · have hi : Lib.index (b :: l) [c] = -1 := by rw [index1_cons, if_neg hb, if_pos hl]
        have ih := replaceK1 c new l (f + 1) (by omega)
        have h0 : Lib.countFrom [c] (f + 1) l = 0 := by simp [Lib.countFrom, hl]
        have h1 : Lib.countFrom [c] (f + 1) (b :: l) = 0 := by simp [Lib.countFrom, hi]
        rw [h0] at ih
        rw [h1]
        simp only [Lib.replaceK] at ih ⊢
        rw [show subst1 c new (b :: l) = b :: subst1 c new l by simp [subst1, hb], ← ih]
      · have hi : Lib.index (b :: l) [c] = Lib.index l [c] + 1 := by rw [index1_cons, if_neg hb, if_neg hl]
        have hge := index1_ge c l
        obtain ⟨i, hii⟩ : ∃ i : Nat, Lib.index l [c] = i := ⟨(Lib.index l [c]).toNat, by omega⟩
        have ih := replaceK1 c new l (f + 1) (by omega)
        rw [hii] at hi
        have e1 : (((i : Int) + 1)).toNat = i + 1 := by omega
        have n1 : ((i : Int) == -1) = false := by simp
        have n2 : (((i : Int) + 1) == -1) = false := by rw [beq_eq_false_iff_ne]; omega
        have h0 : Lib.countFrom [c] (f + 1) l = Lib.countFrom [c] f (l.drop (i + 1)) + 1 := by
          simp [Lib.countFrom, hii, n1]; omega
        have h1 : Lib.countFrom [c] (f + 1) (b :: l) = Lib.countFrom [c] f (l.drop (i + 1)) + 1 := by
          simp only [Lib.countFrom, hi, n2, e1]; simp; omega
        rw [h0] at ih
        rw [h1]
        simp only [Lib.replaceK, hii, hi, n1, n2, e1] at ih ⊢
        rw [show subst1 c new (b :: l) = b :: subst1 c new l by simp [subst1, hb], ← ih]
        simp
theorem replaceAll1 (c : UInt8) (new s : Str) (h : [c] ≠ new) : Lib.replaceAll s [c] new = subst1 c new s := by
  unfold Lib.replaceAll Lib.replace Lib.replaceNum Lib.count
  rw [if_neg (by simpa using h), if_pos (.inl (by omega))]
  exact replaceK1 c new s _ (Nat.le_refl _)
theorem subst1_length (c : UInt8) (new : Str) (hn : new.length ≤ 2) : ∀ s : Str, (subst1 c new s).length ≤ 2 * s.length
  | [] => by simp [subst1]
  | b :: l => by
    have := subst1_length c new hn l
    have e : subst1 c new (b :: l) = (if b = c then new else [b]) ++ subst1 c new l := by simp [subst1]
    rw [e, List.length_append, List.length_cons]
    split <;> simp <;> omega
end Go.Proofs.YtdkcdodkhghfhaaGreatDoor
/- Plain facts: a string divided at a byte. -/
namespace Go.Proofs.YtdkcdodkhghfhaaGreatDoor
open Go

/-- A string divided at a byte. -/
def splitS (c : UInt8) : Str → List Str
  | [] => [[]]
  | x :: t => if x = c then [] :: splitS c t else match splitS c t with
    | h :: r => (x :: h) :: r
    | [] => [[x]]
theorem splitS_ne (c : UInt8) : ∀ s : Str, splitS c s ≠ []
  | [] => by simp [splitS]
  | x :: t => by
    simp only [splitS]
    split
    · simp
    · split <;> simp
theorem index1_none (c : UInt8) : ∀ s : Str, Lib.index s [c] = -1 → splitS c s = [s] ∧ s.count c = 0
  | [], _ => ⟨rfl, rfl⟩
  | x :: t, h => by
    rw [index1_cons] at h
    by_cases hx : x = c
    · rw [if_pos hx] at h; omega
    · rw [if_neg hx] at h
      by_cases ht : Lib.index t [c] = -1
      · have ih := index1_none c t ht
        refine ⟨?_, by rw [List.count_cons_of_ne hx]; exact ih.2⟩
        simp only [splitS, if_neg hx, ih.1]
      · rw [if_neg ht] at h
        have := index1_ge c t
        omega
theorem countFrom1 (c : UInt8) : ∀ (s : Str) (fuel : Nat), s.length + 1 ≤ fuel → Lib.countFrom [c] fuel s = s.count c
  | [], fuel, h => by
    obtain ⟨f, rfl⟩ : ∃ f, fuel = f + 1 := ⟨fuel - 1, by simp at h; omega⟩
    simp [Lib.countFrom, index1_nil]
  | b :: l, fuel, h => by
    obtain ⟨f, rfl⟩ : ∃ f, fuel = f + 1 := ⟨fuel - 1, by simp at h; omega⟩
    simp only [List.length_cons] at h
    by_cases hb : b = c
    · have hi : Lib.index (b :: l) [c] = 0 := by rw [index1_cons, if_pos hb]
      have ih := countFrom1 c l f (by omega)
      subst hb
      simp [Lib.countFrom, hi, ih]; omega
    · rw [List.count_cons_of_ne hb]
      by_cases hl : Lib.index l [c] = -1
      · have hi : Lib.index (b :: l) [c] = -1 := by rw [index1_cons, if_neg hb, if_pos hl]
        rw [(index1_none c l hl).2]
        simp [Lib.countFrom, hi]
      · have hi : Lib.index (b :: l) [c] = Lib.index l [c] + 1 := by rw [index1_cons, if_neg hb, if_neg hl]
        have hge := index1_ge c l
        obtain ⟨i, hii⟩ : ∃ i : Nat, Lib.index l [c] = i := ⟨(Lib.index l [c]).toNat, by omega⟩
        have ih := countFrom1 c l (f + 1) (by omega)
        rw [hii] at hi
        have e1 : (((i : Int) + 1)).toNat = i + 1 := by omega
        have n1 : ((i : Int) == -1) = false := by simp
        have n2 : (((i : Int) + 1) == -1) = false := by rw [beq_eq_false_iff_ne]; omega
        rw [← ih]
        simp only [Lib.countFrom, hi, hii, n1, n2, e1]
        simp
theorem splitK1 (c : UInt8) : ∀ (s : Str) (k : Nat), s.count c ≤ k → Lib.splitK [c] 0 k s = splitS c s
  | [], k, _ => by cases k <;> simp [Lib.splitK, splitS, index1_nil]
  | b :: l, k, h => by
    by_cases hb : b = c
    · have hi : Lib.index (b :: l) [c] = 0 := by rw [index1_cons, if_pos hb]
      rw [hb, List.count_cons_self] at h
      obtain ⟨j, rfl⟩ : ∃ j, k = j + 1 := ⟨k - 1, by omega⟩
      have ih := splitK1 c l j (by omega)
      subst hb
      simp only [Lib.splitK, hi]
      simp [ih, splitS]
    · rw [List.count_cons_of_ne hb] at h
      by_cases hl : Lib.index l [c] = -1
      · have hi : Lib.index (b :: l) [c] = -1 := by rw [index1_cons, if_neg hb, if_pos hl]
        have h0 := (index1_none c (b :: l) hi).1
        rw [h0]
        cases k with
        | zero => rfl
        | succ k => simp [Lib.splitK, hi]
      · have hi : Lib.index (b :: l) [c] = Lib.index l [c] + 1 := by rw [index1_cons, if_neg hb, if_neg hl]
        have hge := index1_ge c l
        obtain ⟨i, hii⟩ : ∃ i : Nat, Lib.index l [c] = i := ⟨(Lib.index l [c]).toNat, by omega⟩
        have ih := splitK1 c l k h
        have hk : k ≠ 0 := by
          intro h0
          subst h0
          have h0 := countFrom1 c l (l.length + 1) (Nat.le_refl _)
          have n1 : ((i : Int) == -1) = false := by simp
          simp only [Lib.countFrom, hii, n1] at h0
          simp at h0
          omega
        obtain ⟨j, rfl⟩ : ∃ j, k = j + 1 := ⟨k - 1, by omega⟩
        rw [hii] at hi
        have e1 : (((i : Int) + 1)).toNat = i + 1 := by omega
        have n1 : ((i : Int) == -1) = false := by simp
        have n2 : (((i : Int) + 1) == -1) = false := by rw [beq_eq_false_iff_ne]; omega
        simp only [Lib.splitK, hii, n1] at ih
        simp only [Lib.splitK, hi, n2, e1, splitS, if_neg hb]
        simp at ih
        rw [← ih]
        simp
theorem split1 (c : UInt8) (s : Str) : (Lib.splitB ⟨#[c]⟩ 0 (Lib.countB ⟨s.toArray⟩ ⟨#[c]⟩) ⟨s.toArray⟩).map Value.string = (splitS c s).map fun l => Value.string ⟨l.toArray⟩ := by
  have h := Lib.splitB_data ⟨#[c]⟩ 0 (Lib.countB ⟨s.toArray⟩ ⟨#[c]⟩) ⟨s.toArray⟩
  have hc : Lib.countB ⟨s.toArray⟩ ⟨#[c]⟩ = s.count c := countFrom1 c s _ (Nat.le_refl _)
  have h2 : Lib.splitK (⟨#[c]⟩ : ByteArray).data.toList 0 (Lib.countB ⟨s.toArray⟩ ⟨#[c]⟩) (⟨s.toArray⟩ : ByteArray).data.toList = splitS c s := splitK1 c s _ (by rw [hc]; exact Nat.le_refl _)
  rw [h2] at h
  rw [← h, List.map_map]
  rfl
theorem splitS_length (c : UInt8) : ∀ s : Str, (splitS c s).length = s.count c + 1
  | [] => rfl
  | x :: t => by
    have ih := splitS_length c t
    simp only [splitS]
    by_cases hx : x = c
    · rw [if_pos hx, hx, List.count_cons_self, List.length_cons, ih]
    · rw [if_neg hx, List.count_cons_of_ne hx, ← ih]
      have := splitS_ne c t
      split
      · rename_i h; rw [h]; rfl
      · contradiction
theorem countB1 (c : UInt8) (s : Str) : Lib.countB ⟨s.toArray⟩ ⟨#[c]⟩ + 1 = (splitS c s).length := by
  rw [splitS_length]
  exact congrArg (· + 1) (countFrom1 c s _ (Nat.le_refl _))
end Go.Proofs.YtdkcdodkhghfhaaGreatDoor
