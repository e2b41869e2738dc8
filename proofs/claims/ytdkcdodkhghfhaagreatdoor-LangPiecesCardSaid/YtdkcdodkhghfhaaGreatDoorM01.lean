import Derived.Test.YtdkcdodkhghfhaaGreatDoorR2
import Derived.Test.YtdkcdodkhghfhaaGreatDoorF
/- Lines as data, the reading of a line by a form, and the walk of lang.field. -/
namespace Go.Proofs.YtdkcdodkhghfhaaGreatDoor
open Go.RowKit

/-- A line. -/
structure Ln where
  op : Int
  a : Str
  b : Str
  c : Str
  nm : Str
  args : List Str
  cv : Val
  deriving DecidableEq
def Ln.zero (op : Int) : Ln := ⟨op, [], [], [], [], [], Val.zero⟩
def sv (s : Str) : Value := .string ⟨s.toArray⟩
def strs (l : List Str) : List Value := l.map sv
/-- The cells of a line, its arguments being the slice v. -/
def Ln.cells (l : Ln) (v : Value) : Array Value := #[.int .i64 l.op, sv l.a, sv l.b, sv l.c, sv l.nm, v, .int .i64 l.cv.k, .int .i64 l.cv.n, sv l.cv.s]

/-- The arguments at the begin of a string. -/
def argsF : Nat → List Str → Str → Option (List Str × Str)
  | 0, _, _ => none
  | n + 1, acc, s => match s with
    | [] => some (acc, [])
    | c :: t => if c = 32 then (if nameS (runS t) then argsF n (acc ++ [runS t]) (t.drop (runS t).length) else none) else some (acc, c :: t)
theorem argsF_enough : ∀ (n m : Nat) (acc : List Str) (s : Str), s.length < n → s.length < m → argsF n acc s = argsF m acc s
  | 0, _, _, _, h, _ => by omega
  | _, 0, _, _, _, h => by omega
  | n + 1, m + 1, acc, s, h1, h2 => by
    cases s with
    | nil => rfl
    | cons c t =>
      simp only [argsF]
      split
      · split
        · simp only [List.length_cons] at h1 h2
          exact argsF_enough n m _ _ (by rw [List.length_drop]; omega) (by rw [List.length_drop]; omega)
        · rfl
      · rfl
/-- A step through a form. -/
def stepF (c : UInt8) (l : Ln) (s : Str) : Option (Ln × Str) :=
  if c = 65 then (if nameS (runS s) then some ({ l with a := runS s }, s.drop (runS s).length) else none)
  else if c = 66 then (if nameS (runS s) then some ({ l with b := runS s }, s.drop (runS s).length) else none)
  else if c = 67 then (if nameS (runS s) then some ({ l with c := runS s }, s.drop (runS s).length) else none)
  else if c = 78 then (if nameS (runS s) then some ({ l with nm := runS s }, s.drop (runS s).length) else none)
  else if c = 76 then (if readLitB s then some ({ l with cv := readLitV s }, []) else none)
  else if c = 73 then (if readLitB (Lib.cut s [32]).1 && decide ((readLitV (Lib.cut s [32]).1).k = 3) then some ({ l with cv := readLitV (Lib.cut s [32]).1 }, s.drop (Lib.cut s [32]).1.length) else none)
  else if c = 126 then (argsF (s.length + 1) l.args s).map fun p => ({ l with args := p.1 }, p.2)
  else match s with
    | [] => none
    | x :: t => if x = c then some (l, t) else none
/-- The reading of a line by a form. -/
def matchF : Str → Ln → Str → Option Ln
  | [], l, s => if s = [] then some l else none
  | c :: f, l, s => (stepF c l s).bind fun p => matchF f p.1 p.2

/-- Which field a letter stands for. -/
def fieldN (c : Int) : Option Nat := if c = 65 then some 1 else if c = 66 then some 2 else if c = 67 then some 3 else if c = 78 then some 4 else none
set_option maxHeartbeats 400000 in
theorem field_calls (b : Nat) (c : Int) (w : World) :
    Calls Tryz.prog 54 #[.pointer (some ⟨b, 0, none⟩), .int .u8 c] w fun e w' => e = .returned (.pointer ((fieldN c).map fun i => ⟨b, i, none⟩)) ∧ w = w' := by
  by_cases h1 : c = 65
  · subst h1
    go_enter Tryz.func54, Tryz.ntmps54
    go_wp2
    go_ret
    exact ⟨rfl, rfl⟩
  · by_cases h2 : c = 66
    · subst h2
      go_enter Tryz.func54, Tryz.ntmps54
      go_wp2
      go_ret
      exact ⟨rfl, rfl⟩
    · by_cases h3 : c = 67
      · subst h3
        go_enter Tryz.func54, Tryz.ntmps54
        go_wp2
        go_ret
        exact ⟨rfl, rfl⟩
      · by_cases h4 : c = 78
        · subst h4
          go_enter Tryz.func54, Tryz.ntmps54
          go_wp2
          go_ret
          exact ⟨rfl, rfl⟩
        · have e1 : (c == 65) = false := by simpa using h1
          have e2 : (c == 66) = false := by simpa using h2
          have e3 : (c == 67) = false := by simpa using h3
          have e4 : (c == 78) = false := by simpa using h4
          have hN : fieldN c = none := by unfold fieldN; rw [if_neg h1, if_neg h2, if_neg h3, if_neg h4]
          have HN := Lib.hid hN
          clear h1 h2 h3 h4 hN
          go_enter Tryz.func54, Tryz.ntmps54
          go_wp2
          go_ret
          exact ⟨by rw [HN.out]; rfl, rfl⟩
theorem field_A (b : Nat) (w : World) : Calls Tryz.prog 54 #[.pointer (some ⟨b, 0, none⟩), .int .u8 65] w fun e w' => e = .returned (.pointer (some ⟨b, 1, none⟩)) ∧ w = w' := field_calls b 65 w
theorem field_B (b : Nat) (w : World) : Calls Tryz.prog 54 #[.pointer (some ⟨b, 0, none⟩), .int .u8 66] w fun e w' => e = .returned (.pointer (some ⟨b, 2, none⟩)) ∧ w = w' := field_calls b 66 w
theorem field_C (b : Nat) (w : World) : Calls Tryz.prog 54 #[.pointer (some ⟨b, 0, none⟩), .int .u8 67] w fun e w' => e = .returned (.pointer (some ⟨b, 3, none⟩)) ∧ w = w' := field_calls b 67 w
theorem field_N (b : Nat) (w : World) : Calls Tryz.prog 54 #[.pointer (some ⟨b, 0, none⟩), .int .u8 78] w fun e w' => e = .returned (.pointer (some ⟨b, 4, none⟩)) ∧ w = w' := field_calls b 78 w
theorem field_no (b : Nat) (c : Int) (w : World) (h : fieldN c = none) : Calls Tryz.prog 54 #[.pointer (some ⟨b, 0, none⟩), .int .u8 c] w fun e w' => e = .returned (.pointer none) ∧ w = w' := by
  have := field_calls b c w
  rw [h] at this
  exact this
end Go.Proofs.YtdkcdodkhghfhaaGreatDoor
/- The results of a function that returns a line and a bool, read out of memory. -/
namespace Go.Proofs.YtdkcdodkhghfhaaGreatDoor
open Go.RowKit

theorem own_set' {w : World} {g i : Nat} {base e n : Nat} {v : Value} {xs : List Value} (h : w.ownsRow base e 1 v n xs) (hne : some g ≠ v.ownBlock) (u : Value) : (w.setCell ⟨g, i, none⟩ u).ownsRow base e 1 v n xs := Go.Proofs.YtdkcdodkhghfhaaGreatDoorW.PrintWords.own_setCell h hne u
set_option maxHeartbeats 2000000 in
theorem results_line {fn : Func} {tmps : Array Value} {W : World} {g p q : Nat} {b : Bool} {v0 v1 v2 v3 v4 v5 v6 v7 v8 : Value} (hres : fn.results = #[.cell p 40, .tmp q]) (h6 : tmps.getD p undef = .pointer (some ⟨g, 0, none⟩)) (h7 : tmps.getD q undef = .bool b)
    (hb : W.heap[g]? = some (.cells #[v0, v1, v2, v3, v4, v5, v6, v7, v8] 40 (0, 0))) (_h1 : ∀ v ∈ [v0, v1, v2, v3, v4, v5, v6, v7, v8], v.oneCell' = true) :
    (results fn tmps).run Tryz.prog W = .ok (.tuple #[.agg #[v0, v1, v2, v3, v4, v5, v6, v7, v8], .bool b]) W := by
  have c0 := cellB hb 0 rfl
  have c1 := cellB hb 1 rfl
  have c2 := cellB hb 2 rfl
  have c3 := cellB hb 3 rfl
  have c4 := cellB hb 4 rfl
  have c5 := cellB hb 5 rfl
  have c6 := cellB hb 6 rfl
  have c7 := cellB hb 7 rfl
  have c8 := cellB hb 8 rfl
  simp at c0 c1 c2 c3 c4 c5 c6 c7 c8 h6 h7
  simp [results, hres, h6, h7, go_sem, c0, c1, c2, c3, c4, c5, c6, c7, c8]
/-- A line stored whole. -/
theorem blk_put9 {w : World} {g : Nat} {z0 z1 z2 z3 z4 z5 z6 z7 z8 v0 v1 v2 v3 v4 v5 v6 v7 v8 : Value} (h : w.heap[g]? = some (.cells #[z0, z1, z2, z3, z4, z5, z6, z7, z8] 40 (0, 0))) :
    (((((((((w.setCell ⟨g, 0, none⟩ v0).setCell ⟨g, 1, none⟩ v1).setCell ⟨g, 2, none⟩ v2).setCell ⟨g, 3, none⟩ v3).setCell ⟨g, 4, none⟩ v4).setCell ⟨g, 5, none⟩ v5).setCell ⟨g, 6, none⟩ v6).setCell ⟨g, 7, none⟩ v7).setCell ⟨g, 8, none⟩ v8).heap[g]? = some (.cells #[v0, v1, v2, v3, v4, v5, v6, v7, v8] 40 (0, 0)) := by
  have h0 : (w.setCell ⟨g, 0, none⟩ v0).heap[g]? = some (.cells #[v0, z1, z2, z3, z4, z5, z6, z7, z8] 40 (0, 0)) := blk_set h 0 v0
  have h1 : ((w.setCell ⟨g, 0, none⟩ v0).setCell ⟨g, 1, none⟩ v1).heap[g]? = some (.cells #[v0, v1, z2, z3, z4, z5, z6, z7, z8] 40 (0, 0)) := blk_set h0 1 v1
  have h2 : (((w.setCell ⟨g, 0, none⟩ v0).setCell ⟨g, 1, none⟩ v1).setCell ⟨g, 2, none⟩ v2).heap[g]? = some (.cells #[v0, v1, v2, z3, z4, z5, z6, z7, z8] 40 (0, 0)) := blk_set h1 2 v2
  have h3 : ((((w.setCell ⟨g, 0, none⟩ v0).setCell ⟨g, 1, none⟩ v1).setCell ⟨g, 2, none⟩ v2).setCell ⟨g, 3, none⟩ v3).heap[g]? = some (.cells #[v0, v1, v2, v3, z4, z5, z6, z7, z8] 40 (0, 0)) := blk_set h2 3 v3
  have h4 : (((((w.setCell ⟨g, 0, none⟩ v0).setCell ⟨g, 1, none⟩ v1).setCell ⟨g, 2, none⟩ v2).setCell ⟨g, 3, none⟩ v3).setCell ⟨g, 4, none⟩ v4).heap[g]? = some (.cells #[v0, v1, v2, v3, v4, z5, z6, z7, z8] 40 (0, 0)) := blk_set h3 4 v4
  have h5 : ((((((w.setCell ⟨g, 0, none⟩ v0).setCell ⟨g, 1, none⟩ v1).setCell ⟨g, 2, none⟩ v2).setCell ⟨g, 3, none⟩ v3).setCell ⟨g, 4, none⟩ v4).setCell ⟨g, 5, none⟩ v5).heap[g]? = some (.cells #[v0, v1, v2, v3, v4, v5, z6, z7, z8] 40 (0, 0)) := blk_set h4 5 v5
  have h6 : (((((((w.setCell ⟨g, 0, none⟩ v0).setCell ⟨g, 1, none⟩ v1).setCell ⟨g, 2, none⟩ v2).setCell ⟨g, 3, none⟩ v3).setCell ⟨g, 4, none⟩ v4).setCell ⟨g, 5, none⟩ v5).setCell ⟨g, 6, none⟩ v6).heap[g]? = some (.cells #[v0, v1, v2, v3, v4, v5, v6, z7, z8] 40 (0, 0)) := blk_set h5 6 v6
  have h7 : ((((((((w.setCell ⟨g, 0, none⟩ v0).setCell ⟨g, 1, none⟩ v1).setCell ⟨g, 2, none⟩ v2).setCell ⟨g, 3, none⟩ v3).setCell ⟨g, 4, none⟩ v4).setCell ⟨g, 5, none⟩ v5).setCell ⟨g, 6, none⟩ v6).setCell ⟨g, 7, none⟩ v7).heap[g]? = some (.cells #[v0, v1, v2, v3, v4, v5, v6, v7, z8] 40 (0, 0)) := blk_set h6 7 v7
  have h8 : (((((((((w.setCell ⟨g, 0, none⟩ v0).setCell ⟨g, 1, none⟩ v1).setCell ⟨g, 2, none⟩ v2).setCell ⟨g, 3, none⟩ v3).setCell ⟨g, 4, none⟩ v4).setCell ⟨g, 5, none⟩ v5).setCell ⟨g, 6, none⟩ v6).setCell ⟨g, 7, none⟩ v7).setCell ⟨g, 8, none⟩ v8).heap[g]? = some (.cells #[v0, v1, v2, v3, v4, v5, v6, v7, v8] 40 (0, 0)) := blk_set h7 8 v8
  exact h8
theorem below_put9 {B : Nat} {w0 w : World} {g : Nat} {v0 v1 v2 v3 v4 v5 v6 v7 v8 : Value} (h : Below B w0 w) (hg : B ≤ g) : Below B w0 (((((((((w.setCell ⟨g, 0, none⟩ v0).setCell ⟨g, 1, none⟩ v1).setCell ⟨g, 2, none⟩ v2).setCell ⟨g, 3, none⟩ v3).setCell ⟨g, 4, none⟩ v4).setCell ⟨g, 5, none⟩ v5).setCell ⟨g, 6, none⟩ v6).setCell ⟨g, 7, none⟩ v7).setCell ⟨g, 8, none⟩ v8) := (((((((((h.setCell (p := ⟨g, 0, none⟩) hg _).setCell (p := ⟨g, 1, none⟩) hg _).setCell (p := ⟨g, 2, none⟩) hg _).setCell (p := ⟨g, 3, none⟩) hg _).setCell (p := ⟨g, 4, none⟩) hg _).setCell (p := ⟨g, 5, none⟩) hg _).setCell (p := ⟨g, 6, none⟩) hg _).setCell (p := ⟨g, 7, none⟩) hg _).setCell (p := ⟨g, 8, none⟩) hg _)
theorem far_put9 {w : World} {g k : Nat} {v0 v1 v2 v3 v4 v5 v6 v7 v8 : Value} (hk : k ≠ g) : (((((((((w.setCell ⟨g, 0, none⟩ v0).setCell ⟨g, 1, none⟩ v1).setCell ⟨g, 2, none⟩ v2).setCell ⟨g, 3, none⟩ v3).setCell ⟨g, 4, none⟩ v4).setCell ⟨g, 5, none⟩ v5).setCell ⟨g, 6, none⟩ v6).setCell ⟨g, 7, none⟩ v7).setCell ⟨g, 8, none⟩ v8).heap[k]? = w.heap[k]? := ((Below.heap_setCell _ ⟨g, 8, none⟩ _ k hk).trans ((Below.heap_setCell _ ⟨g, 7, none⟩ _ k hk).trans ((Below.heap_setCell _ ⟨g, 6, none⟩ _ k hk).trans ((Below.heap_setCell _ ⟨g, 5, none⟩ _ k hk).trans ((Below.heap_setCell _ ⟨g, 4, none⟩ _ k hk).trans ((Below.heap_setCell _ ⟨g, 3, none⟩ _ k hk).trans ((Below.heap_setCell _ ⟨g, 2, none⟩ _ k hk).trans ((Below.heap_setCell _ ⟨g, 1, none⟩ _ k hk).trans (Below.heap_setCell _ ⟨g, 0, none⟩ _ k hk)))))))))
theorem own_put9 {w : World} {g : Nat} {v0 v1 v2 v3 v4 v5 v6 v7 v8 : Value} {base e n : Nat} {v : Value} {xs : List Value} (h : w.ownsRow base e 1 v n xs) (hne : some g ≠ v.ownBlock) : (((((((((w.setCell ⟨g, 0, none⟩ v0).setCell ⟨g, 1, none⟩ v1).setCell ⟨g, 2, none⟩ v2).setCell ⟨g, 3, none⟩ v3).setCell ⟨g, 4, none⟩ v4).setCell ⟨g, 5, none⟩ v5).setCell ⟨g, 6, none⟩ v6).setCell ⟨g, 7, none⟩ v7).setCell ⟨g, 8, none⟩ v8).ownsRow base e 1 v n xs := own_set' (own_set' (own_set' (own_set' (own_set' (own_set' (own_set' (own_set' (own_set' (h) hne _) hne _) hne _) hne _) hne _) hne _) hne _) hne _) hne _
theorem readLiteral_calls' (s : Str) (w : World) (L : LW w) (hs : s.length < 40000000) :
    Calls Tryz.prog 119 #[.string ⟨s.toArray⟩] w fun e w' => e = .returned (.tuple #[.agg #[.int .i64 (readLitV s).k, .int .i64 (readLitV s).n, .string ⟨(readLitV s).s.toArray⟩], .bool (readLitB s)]) ∧ Below w.heap.size w w' := readLiteral_calls s w L hs
theorem LW.below' {w w' : World} (h : LW w) (hb : Below w.heap.size w w') : LW w' := h.below hb
end Go.Proofs.YtdkcdodkhghfhaaGreatDoor
