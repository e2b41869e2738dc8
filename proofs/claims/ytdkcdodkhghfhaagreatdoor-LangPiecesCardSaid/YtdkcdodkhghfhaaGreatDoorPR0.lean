/- The text of a program (plain), and the walks of slices.ContainsFunc and the closure of lang.Print. -/
import Derived.Test.YtdkcdodkhghfhaaGreatDoorLT
namespace Go.Proofs.YtdkcdodkhghfhaaGreatDoor
open Go.RowKit Go.Proofs.YtdkcdodkhghfhaaGreatDoorW.PrintLast Go.Proofs.YtdkcdodkhghfhaaGreatDoorW.PrintWords

/-- Words behind spaces. -/
def spc (l : List Str) : Str := l.flatMap (fun a => (32 : UInt8) :: a)
/-- A line of a word and names. -/
def lnText (word : Str) (names : List Str) : Str := word ++ spc names ++ [10]
def wClass : Str := [99, 108, 97, 115, 115]
def wMethod : Str := [109, 101, 116, 104, 111, 100]
def wFunc : Str := [102, 117, 110, 99]
def wEnd : Str := [101, 110, 100, 102, 117, 110, 99]
def mText (m : Str × Str) : Str := lnText wMethod [m.1, m.2]
def clsText (c : Cls) : Str := lnText wClass (c.nm :: c.fields) ++ c.methods.flatMap mText
def lText (l : Ln) : Str := lineT l ++ [10]
def fnText (f : Fn) : Str := lnText wFunc (f.nm :: f.params) ++ f.lines.flatMap lText ++ (wEnd ++ [10])
def mOk (m : Str × Str) : Bool := [m.1, m.2].all nameS
def lOk (l : Ln) : Bool := decide (lineT l ≠ [])
def clsOk (c : Cls) : Bool := decide (c.fields.length ≤ 8) && decide (c.methods.length ≤ 8) && (c.nm :: c.fields).all nameS && c.methods.all mOk
def fnOk (f : Fn) : Bool := decide (f.params.length ≤ 8) && decide (f.lines.length ≤ 60) && (f.nm :: f.params).all nameS && f.lines.all lOk
def rawText (p : Prg) : Str := p.classes.flatMap clsText ++ p.funcs.flatMap fnText
def prgOk (p : Prg) : Bool := decide (p.classes.length ≤ 12) && decide (p.funcs.length ≤ 24) && p.classes.all clsOk && p.funcs.all fnOk
/-- What Print returns. -/
def printS (p : Prg) : Str := if prgOk p = true ∧ (rawText p).length ≤ 8000 then rawText p else []

theorem join_spc (x : Str) (r : List Str) : 32 :: Lib.join (x :: r) [32] = spc (x :: r) := by
  rw [Lib.join_cons]
  simp [spc, Lib.joinTail, List.flatMap]
theorem lnText_len (w : Str) (l : List Str) : (lnText w l).length = w.length + (spc l).length + 1 := by simp [lnText]; omega
theorem spc_mem (l : List Str) (x : Str) (h : x ∈ l) : x.length ≤ (spc l).length := (flat_args l).2.1 x h
theorem spc_len (l : List Str) : l.length ≤ (spc l).length := (flat_args l).1

/-- A string of a row, at its place. -/
theorem rd_at {w : World} {A : Option Addr} {l : List Str} (h : RdB w 9 A (strs l)) {j : Nat} (hj : j < l.length) : ∃ g off, A = some ⟨g, off, none⟩ ∧ w.cell? ⟨g, off + j, none⟩ = some (.string ⟨(l[j]).toArray⟩) := by
  rcases h with h | ⟨g, off, cs, hAe, hg, hcs⟩
  · have := congrArg List.length h; simp [strs] at this; rw [this] at hj; simp at hj
  · exact ⟨g, off, hAe, cellB hg _ (hcs _ _ (by have h := strs_at l j hj; simpa using h))⟩

theorem all_false' (l : List Str) (k : Nat) (h : k < l.length) (hp : nameS l[k] = false) : l.all nameS = false := by
  rw [List.all_eq_false]
  exact ⟨l[k], List.getElem_mem h, by simp [hp]⟩
/-- The place of the first that is no name; -1 if there is none. -/
def notName (l : List Str) (i : Int) : Prop := decide (0 ≤ i) = !(l.all nameS)
set_option maxHeartbeats 400000 in
theorem noName_calls (x : Str) (w : World) (hx : x.length ≤ 140737488351232) :
    Calls Tryz.prog 44 #[.string ⟨x.toArray⟩] w fun e w' => e = .returned (.bool (!(nameS x))) ∧ w = w' := by
  go_enter Tryz.func44, Tryz.ntmps44
  go_wp2_with (go_at_call 29; refine (name_calls _ _ hx).mono ?_; rintro e w' ⟨rfl, rfl⟩)
  go_ret
  exact ⟨rfl, rfl⟩
set_option maxHeartbeats 1000000 in
theorem indexNo_calls (l : List Str) (A : Option Addr) (cp : Nat) (w : World) (hA : RdB w 9 A (strs l)) (hl : (spc l).length ≤ 10000000000) :
    Calls Tryz.prog 83 #[.slice A l.length cp, .func (.func 44) #[] #[]] w fun e w' => ∃ i : Int, e = .returned (.int .i64 i) ∧ notName l i ∧ w = w' := by
  have HA := Lib.hid hA
  have hll := spc_len l
  have HM := Lib.hid (fun x h => spc_mem l x h)
  clear hA
  go_enter Tryz.func83, Tryz.ntmps83
  go_wp2_with fail
  go_loop [8] (fun i => ∃ k : Nat, k ≤ l.length ∧ i = .int .i64 k ∧ (l.take k).all nameS = true) (fun i => l.length - (intOf i).toNat)
  case atStart => exact ⟨0, Nat.zero_le _, rfl, rfl⟩
  case round =>
    obtain ⟨k, hk, rfl, hall⟩ := hrel
    have HALL := Lib.hid hall
    clear hall
    by_cases hlt : k < l.length
    · obtain ⟨g, off, rfl, hc⟩ := rd_at HA.out hlt
      have hxl : (l[k]).length ≤ 140737488351232 := by have := HM.out l[k] (List.getElem_mem hlt); omega
      cases hx : nameS l[k]
      · have HX := Lib.hid hx
        clear hx
        go_wp2_with fail
        refine (noName_calls _ _ hxl).mono ?_
        rw [HX.out]
        rintro e w' ⟨rfl, rfl⟩
        go_wp2_with fail
        go_ret
        refine ⟨k, rfl, ?_, rfl⟩
        unfold notName
        rw [all_false' l k hlt HX.out]
        simp
      · have HX := Lib.hid hx
        clear hx
        go_wp2_with fail
        refine (noName_calls _ _ hxl).mono ?_
        rw [HX.out]
        rintro e w' ⟨rfl, rfl⟩
        go_wp2_with fail
        refine ⟨⟨k + 1, by omega, rfl, ?_⟩, by simp [intOf]; omega⟩
        rw [List.take_succ_eq_append_getElem hlt, List.all_append, HALL.out]
        simp [HX.out]
    · go_wp2_with fail
      go_ret
      refine ⟨-1, rfl, ?_, rfl⟩
      have h1 := HALL.out
      rw [List.take_of_length_le (by omega)] at h1
      unfold notName
      rw [h1]
      rfl
set_option maxHeartbeats 400000 in
theorem containsNo_calls (l : List Str) (A : Option Addr) (cp : Nat) (w : World) (hA : RdB w 9 A (strs l)) (hl : (spc l).length ≤ 10000000000) :
    Calls Tryz.prog 43 #[.slice A l.length cp, .func (.func 44) #[] #[]] w fun e w' => e = .returned (.bool (!(l.all nameS))) ∧ w = w' := by
  have HA := Lib.hid hA
  clear hA
  go_enter Tryz.func43, Tryz.ntmps43
  go_wp2_with fail
  refine (indexNo_calls l A cp _ HA.out hl).mono ?_
  rintro e w' ⟨i, rfl, hi, rfl⟩
  unfold notName at hi
  have HI := Lib.hid hi
  clear hi
  go_wp2_with fail
  go_ret
  exact ⟨ret_bool HI.out, rfl⟩
end Go.Proofs.YtdkcdodkhghfhaaGreatDoor
