/- What lang.Parse makes of a text, and how a program lies in memory. -/
import Derived.Test.YtdkcdodkhghfhaaGreatDoorT2
namespace Go.Proofs.YtdkcdodkhghfhaaGreatDoor
open Go.RowKit

/-- A program lies in memory. -/
def PrgIn (w : World) (vc vf : Value) (p : Prg) : Prop :=
  ∃ (xs : List ClsX) (ys : List FnX) (sc sf : Sl), vc = sc.v xs.length ∧ vf = sf.v ys.length ∧ xs.map (·.1) = p.classes ∧ ys.map (·.1) = p.funcs ∧
    RdB w 50 sc.A (cCells xs) ∧ RdB w 45 sf.A (fCells ys) ∧ (∀ x ∈ xs, ClsOk w x) ∧ (∀ y ∈ ys, FnOk w y)
theorem PrgIn.below {w w' : World} {vc vf : Value} {p : Prg} (h : PrgIn w vc vf p) (hb : Below w.heap.size w w') : PrgIn w' vc vf p := by
  obtain ⟨xs, ys, sc, sf, h1, h2, h3, h4, h5, h6, h7, h8⟩ := h
  exact ⟨xs, ys, sc, sf, h1, h2, h3, h4, h5.below hb, h6.below hb, fun x hx => (h7 x hx).keep (fun _ _ h => h.below hb) (fun h => h.below hb), fun y hy => (h8 y hy).keep (fun _ _ h => h.below hb) (fun _ h => h.below hb)⟩
theorem PrgIn.nil (w : World) : PrgIn w (.slice none 0 0) (.slice none 0 0) ⟨[], []⟩ :=
  ⟨[], [], ⟨none, 0⟩, ⟨none, 0⟩, rfl, rfl, rfl, rfl, .inl rfl, .inl rfl, by simp, by simp⟩
/-- A program lies in memory, at B or behind. -/
def PrgAt (B : Nat) (w : World) (vc vf : Value) (p : Prg) : Prop :=
  ∃ (xs : List ClsX) (ys : List FnX) (sc sf : Sl), vc = sc.v xs.length ∧ vf = sf.v ys.length ∧ xs.map (·.1) = p.classes ∧ ys.map (·.1) = p.funcs ∧
    RdB w 50 sc.A (cCells xs) ∧ FarA B sc.A (cCells xs) ∧ RdB w 45 sf.A (fCells ys) ∧ FarA B sf.A (fCells ys) ∧ (∀ x ∈ xs, ClsOkF B w x) ∧ (∀ y ∈ ys, FnOkF B w y)
theorem PrgAt.to {B : Nat} {w : World} {vc vf : Value} {p : Prg} (h : PrgAt B w vc vf p) : PrgIn w vc vf p := by
  obtain ⟨xs, ys, sc, sf, h1, h2, h3, h4, h5, _, h6, _, h7, h8⟩ := h
  exact ⟨xs, ys, sc, sf, h1, h2, h3, h4, h5, h6, fun x hx => (h7 x hx).1, fun y hy => (h8 y hy).ok⟩
theorem PrgAt.nil (B : Nat) (w : World) : PrgAt B w (.slice none 0 0) (.slice none 0 0) ⟨[], []⟩ :=
  ⟨[], [], ⟨none, 0⟩, ⟨none, 0⟩, rfl, rfl, rfl, rfl, .inl rfl, .inl rfl, .inl rfl, .inl rfl, by simp, by simp⟩
theorem PrgAt.below {B : Nat} {w w' : World} {vc vf : Value} {p : Prg} (h : PrgAt B w vc vf p) (hb : Below w.heap.size w w') : PrgAt B w' vc vf p := by
  obtain ⟨xs, ys, sc, sf, h1, h2, h3, h4, h5, hf, h6, hg, h7, h8⟩ := h
  exact ⟨xs, ys, sc, sf, h1, h2, h3, h4, h5.below hb, hf, h6.below hb, hg, fun x hx => (h7 x hx).keep (fun _ _ h => h.below hb) (fun h => h.below hb), fun y hy => (h8 y hy).keep (fun _ _ h => h.below hb) (fun _ h => h.below hb)⟩
theorem InvX.prg {base r : Nat} {w : World} {st : St} {xs : List ClsX} {ys : List FnX} {sc sf : Sl} (I : InvX base r w st xs ys sc sf) : PrgAt base w (sc.v xs.length) (sf.v ys.length) st.p :=
  ⟨xs, ys, sc, sf, rfl, rfl, I.hx, I.hy, RdB.of_own I.oc, FarA.of_own' I.oc, RdB.of_own I.of, FarA.of_own' I.of, I.cok, I.fok⟩

def linesS : Nat → St → Nat → Str → Except (Nat × Int) St
  | 0, st, _, _ => .ok st
  | n + 1, st, at', rest => if rest = [] then .ok st else
    match lineS st (Lib.cut rest [10]).1 (Lib.cut rest [10]).2.2 with
    | .error c => .error (at', c)
    | .ok st' => linesS n st' (at' + (Lib.cut rest [10]).1.length + 1) (rest.drop ((Lib.cut rest [10]).1.length + 1))
/-- What Parse returns: a program, a place, an error's number. -/
def parseS (s : Str) : Prg × Int × Int :=
  if 8000 < s.length then (⟨[], []⟩, 8000, 2)
  else match linesS (s.length + 1) ⟨⟨[], []⟩, false, false⟩ 0 s with
    | .error (at', c) => (⟨[], []⟩, at', c)
    | .ok st => if st.inside = true then (⟨[], []⟩, s.length, 12) else (st.p, 0, 0)

theorem linesS_enough : ∀ (n m : Nat) (st : St) (k : Nat) (s : Str), s.length < n → s.length < m → linesS n st k s = linesS m st k s
  | 0, _, _, _, _, h, _ => by omega
  | _, 0, _, _, _, _, h => by omega
  | n + 1, m + 1, st, k, s, h1, h2 => by
    simp only [linesS]
    split
    · rfl
    · rename_i hne
      split
      · rfl
      · exact linesS_enough n m _ _ _ (by have := List.length_pos_iff.2 hne; rw [List.length_drop]; omega) (by have := List.length_pos_iff.2 hne; rw [List.length_drop]; omega)
theorem lineS_ended {st st' : St} {s : Str} {b : Bool} (h : lineS st s b = .ok st') : b = true := by
  cases b with
  | true => rfl
  | false => simp [lineS] at h
theorem cut_room (s : Str) (h : (Lib.cut s [10]).2.2 = true) : (Lib.cut s [10]).1.length + 1 ≤ s.length := by
  unfold Lib.cut at h ⊢
  split
  · rename_i h0
    have := Lib.index_room s [10] h0
    simp [List.length_take] at this ⊢
    omega
  · rename_i h0
    rw [if_neg h0] at h
    cases h
/-- The numbers of errors. -/
def errOk (o : Except Int St) : Prop := ∀ c, o = .error c → c = 2 ∨ c = 12
theorem classS_err (st : St) (s : Str) : errOk (classS st s) := by
  intro c h
  unfold classS at h
  split at h
  · injection h with h; exact .inr h.symm
  · split at h
    · injection h with h; exact .inr h.symm
    · split at h
      · cases h
      · injection h with h; exact .inl h.symm
theorem funcS_err (st : St) (s : Str) : errOk (funcS st s) := by
  intro c h
  unfold funcS at h
  split at h
  · injection h with h; exact .inr h.symm
  · split at h
    · injection h with h; exact .inr h.symm
    · split at h
      · cases h
      · injection h with h; exact .inl h.symm
theorem methodS_err (st : St) (s : Str) : errOk (methodS st s) := by
  intro c h
  unfold methodS at h
  split at h
  · injection h with h; exact .inr h.symm
  · split at h
    · injection h with h; exact .inr h.symm
    · split at h
      · split at h
        · injection h with h; exact .inr h.symm
        · split at h
          · cases h
          · injection h with h; exact .inl h.symm
      · injection h with h; exact .inr h.symm
theorem bodyS_err (st : St) (s : Str) : errOk (bodyS st s) := by
  intro c h
  unfold bodyS at h
  split at h
  · cases h
  · split at h
    · injection h with h; exact .inr h.symm
    · split at h
      · injection h with h; exact .inr h.symm
      · split at h
        · cases h
        · injection h with h; exact .inl h.symm
theorem lineS_err (st : St) (s : Str) (b : Bool) : errOk (lineS st s b) := by
  intro c h
  unfold lineS at h
  split at h
  · injection h with h; exact .inr h.symm
  · split at h
    · exact bodyS_err _ _ c h
    · split at h
      · injection h with h; exact .inr h.symm
      · split at h
        · exact classS_err _ _ c h
        · split at h
          · exact methodS_err _ _ c h
          · split at h
            · exact funcS_err _ _ c h
            · injection h with h; exact .inr h.symm
end Go.Proofs.YtdkcdodkhghfhaaGreatDoor
