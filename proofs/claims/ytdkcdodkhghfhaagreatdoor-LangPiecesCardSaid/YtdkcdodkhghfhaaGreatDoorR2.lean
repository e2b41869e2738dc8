/- What lang.readLiteral returns, all cases together. -/
import Derived.Test.YtdkcdodkhghfhaaGreatDoorR
namespace Go.Proofs.YtdkcdodkhghfhaaGreatDoor
open Go.RowKit

theorem countFrom_le (sub : Str) : ∀ (fuel : Nat) (s : Str), Lib.countFrom sub fuel s ≤ fuel
  | 0, _ => Nat.le_refl _
  | f + 1, s => by
    unfold Lib.countFrom
    split
    · omega
    · have := countFrom_le sub f (s.drop ((Lib.index s sub).toNat + sub.length)); omega
theorem replaceK_length (old new : Str) : ∀ (k : Nat) (s : Str), (Lib.replaceK old new k s).length ≤ s.length + k * new.length
  | 0, s => by simp [Lib.replaceK]
  | k + 1, s => by
    unfold Lib.replaceK
    split
    · omega
    · have := replaceK_length old new k (s.drop ((Lib.index s old).toNat + old.length))
      simp only [List.length_append, List.length_take, List.length_drop] at *
      rw [Nat.add_mul]
      omega
theorem replaceAll_length (s old new : Str) (hn : new.length = 1) : (Lib.replaceAll s old new).length ≤ 2 * s.length + 1 := by
  unfold Lib.replaceAll Lib.replace
  split
  · omega
  · have h1 := replaceK_length old new (Lib.replaceNum s old (-1)) s
    have h2 : Lib.replaceNum s old (-1) ≤ s.length + 1 := by
      unfold Lib.replaceNum
      rw [if_pos (.inl (by omega))]
      exact countFrom_le _ _ _
    rw [hn] at h1
    omega
theorem atoi_range (s : Str) (n : Int) (h : Lib.atoiAll s = .ok n) : I64 n := by
  unfold Lib.atoiAll at h
  split at h
  · simp at h
  · simp only at h
    split at h
    · simp at h
    · simp at h
    · split at h
      · simp at h
      · split at h
        · simp at h
        · rename_i u _ h1 h2
          simp only [Lib.NumEnd.ok.injEq] at h
          subst h
          unfold I64
          split <;> rename_i hng
          · have : ¬ (9223372036854775808 < u) := fun h' => h2 ⟨hng, h'⟩
            omega
          · have : ¬ (9223372036854775808 ≤ u) := fun h' => h1 ⟨hng, h'⟩
            omega
theorem not_num (s : Str) (h : ∀ n, Lib.atoiAll s ≠ .ok n) : notNum s := by
  unfold notNum numB
  split
  · rename_i n hn
    exact absurd hn (h n)
  · rfl

/-- A string without its quotes. -/
def innerS (s : Str) : Str := Lib.replaceAll ((s.take (s.length - 1)).drop 1) [39, 39] [39]
/-- The constant that a text may be. -/
def readLitV (s : Str) : Val :=
  if s = [110, 105, 108] then ⟨1, 0, []⟩
  else if s = [116, 114, 117, 101] then ⟨2, 1, []⟩
  else if s = [102, 97, 108, 115, 101] then ⟨2, 0, []⟩
  else match Lib.atoiAll s with
    | .ok n => ⟨3, n, []⟩
    | _ => if 1 < s.length then ⟨4, 0, innerS s⟩ else Val.zero
/-- Is it? -/
def readLitB (s : Str) : Bool := (litS (readLitV s)).2 && (litS (readLitV s)).1 == s

theorem readLiteral_calls (s : Str) (w : World) (L : LW w) (hs : s.length < 40000000) :
    Calls Tryz.prog 119 #[.string ⟨s.toArray⟩] w fun e w' => e = .returned (.tuple #[(readLitV s).v, .bool (readLitB s)]) ∧ Below w.heap.size w w' := by
  unfold readLitB
  by_cases g1 : s = [110, 105, 108]
  · subst g1
    exact readLit_nil w L
  · by_cases g2 : s = [116, 114, 117, 101]
    · subst g2
      exact readLit_true w L
    · by_cases g3 : s = [102, 97, 108, 115, 101]
      · subst g3
        exact readLit_false w L
      · unfold readLitV
        rw [if_neg g1, if_neg g2, if_neg g3]
        rcases h : Lib.atoiAll s with n | _ | _
        · exact readLit_num s n w L (by omega) h (atoi_range s n h) g1 g2 g3
        all_goals
          have hnn : notNum s := by unfold notNum numB; rw [h]
          simp only
          split
          · exact readLit_str s (innerS s) rfl (by have := replaceAll_length ((s.take (s.length - 1)).drop 1) [39, 39] [39] rfl; simp only [List.length_drop, List.length_take] at this; unfold innerS; omega) w L (by omega) hnn (by assumption) g1 g2 g3
          · exact readLit_zero s w L (by omega) hnn (by omega) g1 g2 g3
end Go.Proofs.YtdkcdodkhghfhaaGreatDoor
