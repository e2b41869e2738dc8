/- What the calls of Go's library ask of the world, and these calls in one form. -/
import Derived.Test.YtdkcdodkhghfhaaGreatDoorA
import Derived.Test.YtdkcdodkhghfhaaGreatDoorB
import Derived.Test.YtdkcdodkhghfhaaGreatDoorP2
import Derived.WalkSmall
import Derived.Laws.Concat
import Derived.Laws.Rows
namespace Go.Proofs.YtdkcdodkhghfhaaGreatDoor
open Go.RowKit Go.Sort

/-- What Go's library reads of its own variables. -/
structure LW (w : World) : Prop where
  m : ∃ m, w.cell? ⟨0, 0, none⟩ = some (.int .i64 m)
  pow : Lib.TabIs Tryz.prog w "internal/strconv.uint64pow10" .u64 Lib.pow10Tab
  syn : ∃ tp p, w.var? Tryz.prog "strconv.ErrSyntax" = some #[.iface tp p]
  rng : ∃ tp p, w.var? Tryz.prog "strconv.ErrRange" = some #[.iface tp p]
  big : 8 ≤ w.heap.size

theorem var?_below' {B : Nat} {W W' : World} {n : String} {cs : Array Value} (h : Below B W W') (hlt : (match Tryz.prog.globalNamed n with | some g => decide (g < 8) | none => false) = true) (hB : 8 ≤ B) (hv : W.var? Tryz.prog n = some cs) : W'.var? Tryz.prog n = some cs := by
  cases hg : Tryz.prog.globalNamed n with
  | none => rw [hg] at hlt; simp at hlt
  | some g =>
    rw [hg] at hlt
    simp at hlt
    exact var?_below h hg (by omega) hv
theorem LW.below {w w' : World} (h : LW w) (hb : Below w.heap.size w w') : LW w' := by
  have h16 := h.big
  refine ⟨?_, ?_, ?_, ?_, Nat.le_trans h.big hb.size⟩
  · obtain ⟨m, hm⟩ := h.m
    exact ⟨m, (hb.cell (p := ⟨0, 0, none⟩) (by show 0 < _; omega)).trans hm⟩
  · exact var?_below' hb (by kernel_rfl) h16 h.pow
  · obtain ⟨tp, p, hv⟩ := h.syn
    exact ⟨tp, p, var?_below' hb (by kernel_rfl) h16 hv⟩
  · obtain ⟨tp, p, hv⟩ := h.rng
    exact ⟨tp, p, var?_below' hb (by kernel_rfl) h16 hv⟩

theorem LW.drew {w : World} (h : LW w) : LW w.drew := h.below ⟨rfl, rfl, rfl, Nat.le_refl _, fun _ _ => rfl⟩
theorem LW.alloc {w : World} (h : LW w) (o : Obj) : LW (w.alloc o) := h.below ((Below.refl _ _).alloc (Nat.le_refl _) o)
theorem LW.drewN {w : World} (h : LW w) (n : Nat) : LW (w.drewN n) := h.below ⟨rfl, rfl, rfl, Nat.le_refl _, fun _ _ => rfl⟩
theorem below_drewN' {B : Nat} {w W : World} (h : Below B w W) (n : Nat) : Below B w (W.drewN n) := ⟨h.os, h.tape, h.output, h.size, h.block⟩
theorem below_grow' {B : Nat} {w W : World} (h : Below B w W) (hB : B ≤ W.heap.size) (os : Array Obj) : Below B w (grow W os) :=
  ⟨h.os, h.tape, h.output, Nat.le_trans h.size (by simp [grow]), fun k hk => by
    rw [← h.block k hk]
    show (W.heap ++ os)[k]? = _
    rw [Array.getElem?_append_left (by omega)]⟩
/-- One call behind another. -/
theorem Below.then {a b c : World} (h : Below a.heap.size a b) (k : Below b.heap.size b c) : Below a.heap.size a c := h.trans (k.mono h.size)

theorem heap_new (w : World) (o : Obj) : (w.alloc o).heap[w.heap.size]? = some o := (MapKept.heap_alloc w o).1
theorem heap_new' (w : World) (o : Obj) (k : Nat) (h : k = w.heap.size) : (w.alloc o).heap[k]? = some o := by subst h; exact heap_new w o
theorem cellB {w : World} {g t : Nat} {cs : Array Value} {v : Value} (h : w.heap[g]? = some (.cells cs t (0, 0))) (i : Nat) (hv : cs[i]? = some v) : w.cell? ⟨g, i, none⟩ = some v := (cell_of_row w g i cs t (0, 0) h).trans hv
theorem frozenB {w : World} {g t : Nat} {cs : Array Value} (h : w.heap[g]? = some (.cells cs t (0, 0))) (i : Nat) : w.frozen? ⟨g, i, none⟩ = false := by simp [World.frozen?, h]
theorem sizeB {w : World} {g : Nat} {o : Obj} (h : w.heap[g]? = some o) : g < w.heap.size := (Array.getElem?_eq_some_iff.1 h).1
theorem itoa_calls (n : Int) (w : World) (L : LW w) (h0 : -9223372036854775808 ≤ n) (h1 : n ≤ 9223372036854775807) :
    Calls Tryz.prog 94 #[.int .i64 n] w fun e w' => e = .returned (.string ⟨(Lib.itoa n).toArray⟩) ∧ Below w.heap.size w w' := by
  refine (Tryz.strconv_Itoa n h0 h1 w L.pow).mono ?_
  rintro e w' ⟨h, k, os, rfl⟩
  exact ⟨h, below_grow' (below_drewN' (Below.refl _ _) k) (Nat.le_refl _) os⟩

/-- Is there a byte in a string that no constant may hold? -/
def oddP (x : Nat) : Bool := decide (x < 32) || decide (126 < x)
def oddS (s : Str) : Bool := decide (0 ≤ Lib.idxFunc oddP true ⟨s.toArray⟩)
set_option maxHeartbeats 400000 in
theorem odd_calls (x : Nat) (hx : x ≤ 1114111) (w : World) :
    Calls Tryz.prog 96 #[.int .i32 x] w fun e w' => e = .returned (.bool (oddP x)) ∧ w = w' := by
  go_enter Tryz.func96, Tryz.ntmps96
  go_wp2
  all_goals
    go_ret
    refine ⟨ret_bool ?_, rfl⟩
    unfold oddP
    rw [Bool.eq_iff_iff]; simp; omega
theorem containsOdd_calls (s : Str) (w : World) :
    Calls Tryz.prog 95 #[.string ⟨s.toArray⟩, .func (.func 96) #[] #[]] w fun e w' => e = .returned (.bool (oddS s)) ∧ Below w.heap.size w w' :=
  Tryz.strings_ContainsFunc_runes 96 #[] (enters_of Tryz.func96 (by kernel_rfl) rfl) oddP ⟨s.toArray⟩ w (fun W x hx _ => (odd_calls x hx W).mono (fun e w' ⟨h, h'⟩ => ⟨h, 0, h'.symm⟩))

theorem replaceAll_calls (s old new : Str) (w : World) (L : LW w) (hs : s.length < 100000000) (h1 : 1 ≤ old.length) (hn : new.length ≤ 2) :
    Calls Tryz.prog 97 #[.string ⟨s.toArray⟩, .string ⟨old.toArray⟩, .string ⟨new.toArray⟩] w fun e w' => e = .returned (.string ⟨(Lib.replaceAll s old new).toArray⟩) ∧ Below w.heap.size w w' := by
  obtain ⟨m, hm⟩ := L.m
  refine Tryz.strings_ReplaceAll ⟨s.toArray⟩ ⟨old.toArray⟩ ⟨new.toArray⟩ m w (by show s.length < _; omega) hm h1 ?_
  show s.length + Lib.countB ⟨s.toArray⟩ ⟨old.toArray⟩ * new.length ≤ _
  have hc : Lib.countB ⟨s.toArray⟩ ⟨old.toArray⟩ ≤ s.length + 1 := Nat.le_succ_of_le (Lib.countB_le ⟨old.toArray⟩ h1 _ ⟨s.toArray⟩ (Nat.le_refl _))
  have : Lib.countB ⟨s.toArray⟩ ⟨old.toArray⟩ * new.length ≤ (s.length + 1) * 2 := Nat.mul_le_mul hc hn
  omega
theorem subst_calls (c : UInt8) (s new : Str) (w : World) (L : LW w) (hs : s.length < 100000000) (hn : new.length ≤ 2) (hne : [c] ≠ new) :
    Calls Tryz.prog 97 #[.string ⟨s.toArray⟩, .string ⟨#[c]⟩, .string ⟨new.toArray⟩] w fun e w' => e = .returned (.string ⟨(subst1 c new s).toArray⟩) ∧ Below w.heap.size w w' := by
  rw [← replaceAll1 c new s hne]
  exact replaceAll_calls s [c] new w L hs (by simp) hn
/-- Two strings joined by '+': no limit is met. -/
theorem run_add_lists (a b : Str) (h : a.length + b.length ≤ 9223372036854775807) (w : World) : (Op.stringOp .add ⟨a.toArray⟩ ⟨b.toArray⟩).run Tryz.prog w = .ok (.string ⟨(a ++ b).toArray⟩) w := by
  rw [run_string_add_sum w ⟨a.toArray⟩ ⟨b.toArray⟩ (by simpa [ByteArray.size] using h), ByteArray.mk_append_mk]
end Go.Proofs.YtdkcdodkhghfhaaGreatDoor
