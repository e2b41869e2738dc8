/- Lines as data, the reading of a line by a form, and the walk of lang.field. -/
import Derived.Test.YtdkcdodkhghfhaaGreatDoorR2
import Derived.Test.YtdkcdodkhghfhaaGreatDoorF
namespace Go.Proofs.YtdkcdodkhghfhaaGreatDoor
open Go.RowKit

/-- A line. -/
structure Ln where
  op : Int
  a : Str
  b : Str
  c : Str
  nm : Str
  args : List Str
  cv : Val
  deriving DecidableEq
def Ln.zero (op : Int) : Ln := ⟨op, [], [], [], [], [], Val.zero⟩
def sv (s : Str) : Value := .string ⟨s.toArray⟩
def strs (l : List Str) : List Value := l.map sv
/-- The cells of a line, its arguments being the slice v. -/
def Ln.cells (l : Ln) (v : Value) : Array Value := #[.int .i64 l.op, sv l.a, sv l.b, sv l.c, sv l.nm, v, .int .i64 l.cv.k, .int .i64 l.cv.n, sv l.cv.s]

/-- The arguments at the begin of a string. -/
def argsF : Nat → List Str → Str → Option (List Str × Str)
  | 0, _, _ => none
  | n + 1, acc, s => match s with
    | [] => some (acc, [])
    | c :: t => if c = 32 then (if nameS (runS t) then argsF n (acc ++ [runS t]) (t.drop (runS t).length) else none) else some (acc, c :: t)
theorem argsF_enough : ∀ (n m : Nat) (acc : List Str) (s : Str), s.length < n → s.length < m → argsF n acc s = argsF m acc s
  | 0, _, _, _, h, _ => by omega
  | _, 0, _, _, _, h => by omega
  | n + 1, m + 1, acc, s, h1, h2 => by
    cases s with
    | nil => rfl
    | cons c t =>
      simp only [argsF]
      split
      · split
        · simp only [List.length_cons] at h1 h2
          exact argsF_enough n m _ _ (by rw [List.length_drop]; omega) (by rw [List.length_drop]; omega)
        · rfl
      · rfl
/-- A step through a form. -/
def stepF (c : UInt8) (l : Ln) (s : Str) : Option (Ln × Str) :=
  if c = 65 then (if nameS (runS s) then some ({ l with a := runS s }, s.drop (runS s).length) else none)
  else if c = 66 then (if nameS (runS s) then some ({ l with b := runS s }, s.drop (runS s).length) else none)
  else if c = 67 then (if nameS (runS s) then some ({ l with c := runS s }, s.drop (runS s).length) else none)
  else if c = 78 then (if nameS (runS s) then some ({ l with nm := runS s }, s.drop (runS s).length) else none)
  else if c = 76 then (if readLitB s then some ({ l with cv := readLitV s }, []) else none)
  else if c = 73 then (if readLitB (Lib.cut s [32]).1 && decide ((readLitV (Lib.cut s [32]).1).k = 3) then some ({ l with cv := readLitV (Lib.cut s [32]).1 }, s.drop (Lib.cut s [32]).1.length) else none)
  else if c = 126 then (argsF (s.length + 1) l.args s).map fun p => ({ l with args := p.1 }, p.2)
  else match s with
    | [] => none
    | x :: t => if x = c then some (l, t) else none
/-- The reading of a line by a form. -/
def matchF : Str → Ln → Str → Option Ln
  | [], l, s => if s = [] then some l else none
  | c :: f, l, s => (stepF c l s).bind fun p => matchF f p.1 p.2

/-- Which field a letter stands for. -/
def fieldN (c : Int) : Option Nat := if c = 65 then some 1 else if c = 66 then some 2 else if c = 67 then some 3 else if c = 78 then some 4 else none
set_option maxHeartbeats 400000 in
theorem field_calls (b : Nat) (c : Int) (w : World) :
    Calls Tryz.prog 54 #[.pointer (some ⟨b, 0, none⟩), .int .u8 c] w fun e w' => e = .returned (.pointer ((fieldN c).map fun i => ⟨b, i, none⟩)) ∧ w = w' := by
  by_cases h1 : c = 65
  · subst h1
    go_enter Tryz.func54, Tryz.ntmps54
    go_wp2
    go_ret
    exact ⟨rfl, rfl⟩
  · by_cases h2 : c = 66
    · subst h2
      go_enter Tryz.func54, Tryz.ntmps54
      go_wp2
      go_ret
      exact ⟨rfl, rfl⟩
    · by_cases h3 : c = 67
      · subst h3
        go_enter Tryz.func54, Tryz.ntmps54
        go_wp2
        go_ret
        exact ⟨rfl, rfl⟩
      · by_cases h4 : c = 78
        · subst h4
          go_enter Tryz.func54, Tryz.ntmps54
          go_wp2
          go_ret
          exact ⟨rfl, rfl⟩
        · have e1 : (c == 65) = false := by simpa using h1
          have e2 : (c == 66) = false := by simpa using h2
          have e3 : (c == 67) = false := by simpa using h3
          have e4 : (c == 78) = false := by simpa using h4
          have hN : fieldN c = none := by unfold fieldN; rw [if_neg h1, if_neg h2, if_neg h3, if_neg h4]
          have HN := Lib.hid hN
          clear h1 h2 h3 h4 hN
          go_enter Tryz.func54, Tryz.ntmps54
          go_wp2
          go_ret
          exact ⟨by rw [HN.out]; rfl, rfl⟩
theorem field_A (b : Nat) (w : World) : Calls Tryz.prog 54 #[.pointer (some ⟨b, 0, none⟩), .int .u8 65] w fun e w' => e = .returned (.pointer (some ⟨b, 1, none⟩)) ∧ w = w' := field_calls b 65 w
theorem field_B (b : Nat) (w : World) : Calls Tryz.prog 54 #[.pointer (some ⟨b, 0, none⟩), .int .u8 66] w fun e w' => e = .returned (.pointer (some ⟨b, 2, none⟩)) ∧ w = w' := field_calls b 66 w
theorem field_C (b : Nat) (w : World) : Calls Tryz.prog 54 #[.pointer (some ⟨b, 0, none⟩), .int .u8 67] w fun e w' => e = .returned (.pointer (some ⟨b, 3, none⟩)) ∧ w = w' := field_calls b 67 w
theorem field_N (b : Nat) (w : World) : Calls Tryz.prog 54 #[.pointer (some ⟨b, 0, none⟩), .int .u8 78] w fun e w' => e = .returned (.pointer (some ⟨b, 4, none⟩)) ∧ w = w' := field_calls b 78 w
theorem field_no (b : Nat) (c : Int) (w : World) (h : fieldN c = none) : Calls Tryz.prog 54 #[.pointer (some ⟨b, 0, none⟩), .int .u8 c] w fun e w' => e = .returned (.pointer none) ∧ w = w' := by
  have := field_calls b c w
  rw [h] at this
  exact this
end Go.Proofs.YtdkcdodkhghfhaaGreatDoor
