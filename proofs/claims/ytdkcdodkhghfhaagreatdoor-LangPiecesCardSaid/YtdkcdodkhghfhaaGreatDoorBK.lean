/- A strings.Builder as a list of bytes. -/
import Derived.Test.YtdkcdodkhghfhaaGreatDoorPA
namespace Go.Proofs.YtdkcdodkhghfhaaGreatDoor
open Go.RowKit Go.Proofs.YtdkcdodkhghfhaaGreatDoorW.PrintWords

/-- A builder at b holds these bytes; its row lies at B or behind. -/
def Bld (B b : Nat) (acc : Str) (w : World) : Prop := Lib.IsBuilderF 86 5 B b (Lib.byteCells acc) w
theorem byteCells_append (a b : Str) : Lib.byteCells (a ++ b) = Lib.byteCells a ++ Lib.byteCells b := by simp [Lib.byteCells]
theorem keep_others {b : Nat} {w w' : World} {bs : List Value} {B : Nat} (h : Lib.OthersKept 5 (some b) w w') (hb : Lib.IsBuilderF 86 5 B b bs w) : TKeep [5, 86] w w' := by
  intro g cs t hg ht
  rw [h g _ hg ?_ ?_, hg]
  · intro e
    injection e with e
    subst e
    rcases hb with ⟨_, v, hbk, _⟩ | ⟨_, v, hbk, _⟩ <;> (rw [hbk] at hg; injection hg with hg; injection hg with _ h2; subst h2; simp at ht)
  · intro c fz e
    injection e with _ h2
    subst h2
    simp at ht
theorem Bld.kept {B b : Nat} {acc : Str} {w w' : World} (h : Bld B b acc w) (hk : ∀ (g : Nat) (cs : Array Value) (t : Nat) (fz : Nat × Nat), w.heap[g]? = some (Obj.cells cs t fz) → (t = 5 ∨ t = 86) → w'.heap[g]? = w.heap[g]?) : Bld B b acc w' := by
  have at' : ∀ p, Lib.BuilderAtF 86 5 B b p (Lib.byteCells acc) w → Lib.BuilderAtF 86 5 B b p (Lib.byteCells acc) w' := by
    rintro p ⟨h1, v, h2, h3, h4⟩
    refine ⟨h1, v, (hk _ _ _ _ h2 (.inr rfl)).trans h2, ⟨h3.1, ?_⟩, h4⟩
    rcases h3.2 with h | ⟨g, cap, cur, fz, e1, e2, e3, e4⟩
    · exact .inl h
    · exact .inr ⟨g, cap, cur, fz, e1, e2, (hk _ _ _ _ e3 (.inl rfl)).trans e3, e4⟩
  rcases h with h | h
  · exact .inl (at' _ h)
  · exact .inr (at' _ h)
theorem Bld.below {B b : Nat} {acc : Str} {w w' : World} (h : Bld B b acc w) (hb : Below w.heap.size w w') : Bld B b acc w' :=
  h.kept fun g cs t fz hg _ => hb.block g (by
    rcases Nat.lt_or_ge g w.heap.size with h' | h'
    · exact h'
    · simp [Array.getElem?_eq_none h'] at hg)
theorem Bld.set {B b : Nat} {acc : Str} {w : World} {p : Addr} {u : Value} {cs : Array Value} {t : Nat} {fz : Nat × Nat} (h : Bld B b acc w) (hp : w.heap[p.block]? = some (.cells cs t fz)) (h5 : t ≠ 5) (h86 : t ≠ 86) : Bld B b acc (w.setCell p u) :=
  h.kept fun g cs' t' fz' hg ht => Below.heap_setCell w p u g (fun e => by
    subst e
    rw [hp] at hg
    injection hg with hg
    injection hg with _ h2
    subst h2
    rcases ht with ht | ht
    · exact h5 ht
    · exact h86 ht)
theorem Bld.lt {B b : Nat} {acc : Str} {w : World} (h : Bld B b acc w) : b < w.heap.size := by
  rcases h with h | h <;> exact h.lt
theorem Bld.new (w : World) (o : Obj) (B : Nat) (hB : B ≤ w.heap.size) (ho : o = .cells #[.pointer none, .slice none 0 0] 86 (0, 0)) : Bld B w.heap.size [] (w.alloc o) :=
  .inl ⟨hB, .slice none 0 0, by rw [heap_new, ho], ⟨rfl, .inl ⟨rfl, rfl⟩⟩, by simp [Value.ownBlock]⟩
theorem wr_str (B b : Nat) (acc s : Str) (w : World) (h : Bld B b acc w) (hlen : acc.length + s.length ≤ 140737488355328) (hBw : B ≤ w.heap.size) :
    Calls Tryz.prog 45 #[.pointer (some ⟨b, 0, none⟩), .string ⟨s.toArray⟩] w fun e w' => e = .returned (.tuple #[.int .i64 s.length, .nilIface]) ∧ Bld B b (acc ++ s) w' ∧ Below B w w' ∧ TKeep [5, 86] w w' := by
  refine (bld_WriteString B b _ ⟨s.toArray⟩ w h (by rw [Lib.byteCells_length]; exact hlen) hBw).mono ?_
  rintro e w' ⟨rfl, h1, h2, h3⟩
  refine ⟨rfl, .inr ?_, h2, keep_others h3 h⟩
  rw [byteCells_append]
  simpa [Lib.strCells, Lib.byteCells] using h1
theorem wr_byte (B b : Nat) (acc : Str) (c : UInt8) (w : World) (h : Bld B b acc w) (hlen : acc.length + 1 ≤ 140737488355328) (hBw : B ≤ w.heap.size) :
    Calls Tryz.prog 56 #[.pointer (some ⟨b, 0, none⟩), .int .u8 c.toNat] w fun e w' => e = .returned .nilIface ∧ Bld B b (acc ++ [c]) w' ∧ Below B w w' ∧ TKeep [5, 86] w w' := by
  refine (bld_WriteByte B b _ c.toNat w h (by simpa [Lib.byteCells] using hlen) hBw).mono ?_
  rintro e w' ⟨rfl, h1, h2, h3⟩
  refine ⟨rfl, .inr ?_, h2, keep_others h3 h⟩
  rw [byteCells_append]
  simpa [Lib.byteCells] using h1
theorem bld_str (B b : Nat) (acc : Str) (w : World) (h : Bld B b acc w) (hBw : B ≤ w.heap.size) :
    Calls Tryz.prog 47 #[.pointer (some ⟨b, 0, none⟩)] w fun e w' => e = .returned (.string ⟨acc.toArray⟩) ∧ Below B w w' := by
  by_cases h0 : acc = []
  · subst h0
    exact (Tryz.Builder_String_empty_k B b w h hBw).mono fun e w' ⟨h1, h2⟩ => ⟨h1, h2.2.1⟩
  · exact (Tryz.Builder_String_k B b acc w h h0).mono fun e w' ⟨h1, h2⟩ => ⟨h1, h2.2.1⟩
end Go.Proofs.YtdkcdodkhghfhaaGreatDoor
