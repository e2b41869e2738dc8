/- The map of the takers, and the deferred function of a reader's line. -/
import Derived.Test.YtdkcdodkhghfhaaGreatDoorC3
import Derived.Maps.OwnSet
import Derived.StringKeys
import Derived.Defers
import Derived.Recover
namespace Go.Proofs.YtdkcdodkhghfhaaGreatDoor
open Go.WideMaps Go.RowKit Go.Maps Go.Proofs.YtdkcdodkhghfhaaGreatDoorW.PrintLast Go.Proofs.YtdkcdodkhghfhaaGreatDoorW.PrintWords

/-- How an element of a map of functions reads: as itself. -/
def anyElem (v : Value) : Option (DataW Value × List MemPlace) := some (.held v, [])
def bC : ByteArray := ⟨#[99, 108, 97, 115, 115]⟩
def bM : ByteArray := ⟨#[109, 101, 116, 104, 111, 100]⟩
def bF : ByteArray := ⟨#[102, 117, 110, 99]⟩
def kC : Lit := .string [99, 108, 97, 115, 115]
def kM : Lit := .string [109, 101, 116, 104, 111, 100]
def kF : Lit := .string [102, 117, 110, 99]
def fnV (n : Nat) : Value := .func (.func n) #[] #[]
def takD : DataW Value := (((DataW.map []).put kC (.held (fnV 112))).put kM (.held (fnV 113))).put kF (.held (fnV 114))

set_option maxHeartbeats 1000000 in
set_option maxRecDepth 100000 in
theorem takers_calls (w : World) :
    Calls Tryz.prog 89 #[] w fun e w' => e = .returned (.map (some w.heap.size)) ∧ w'.ownsMap Tryz.prog 9 anyElem w.heap.size 3 takD ∧ Below w.heap.size w w' := by
  have hmm := @run_makeMap Tryz.prog
  go_enter Tryz.func89, Tryz.ntmps89
  have K := string_keyed Tryz.underlying9
  have hm0 : (w.alloc (.map #[] 0)).ownsMap Tryz.prog 9 anyElem w.heap.size 0 (.map []) := World.ownsMap_made _ _ _ _
  have h1 : keyOf Tryz.prog 9 (.string ⟨#[99, 108, 97, 115, 115]⟩) = some kC := keyOf_string_mk Tryz.underlying9 (s := bC) (by show 5 ≤ maxLen; unfold maxLen; omega)
  have h2 : keyOf Tryz.prog 9 (.string ⟨#[109, 101, 116, 104, 111, 100]⟩) = some kM := keyOf_string_mk Tryz.underlying9 (s := bM) (by show 6 ≤ maxLen; unfold maxLen; omega)
  have h3 : keyOf Tryz.prog 9 (.string ⟨#[102, 117, 110, 99]⟩) = some kF := keyOf_string_mk Tryz.underlying9 (s := bF) (by show 4 ≤ maxLen; unfold maxLen; omega)
  go_wp2_with (refine wpList_insert_own (H := Value) _ rfl _ _ _ 142 rfl 9 140 K Tryz.underlying142 anyElem w.heap.size 0 (.map []) rfl hm0 (by unfold maxLen; omega) (.string ⟨#[99, 108, 97, 115, 115]⟩) (fnV 112) kC rfl rfl h1 (.held (fnV 112)) [] rfl ?_)
  intro w1 hw1 hg1
  go_wp2_with (refine wpList_insert_own (H := Value) _ rfl _ _ _ 142 rfl 9 140 K Tryz.underlying142 anyElem w.heap.size 1 ((DataW.map []).put kC (.held (fnV 112))) rfl hw1 (by unfold maxLen; omega) (.string ⟨#[109, 101, 116, 104, 111, 100]⟩) (fnV 113) kM rfl rfl h2 (.held (fnV 113)) [] rfl ?_)
  intro w2 hw2 hg2
  go_wp2_with (refine wpList_insert_own (H := Value) _ rfl _ _ _ 142 rfl 9 140 K Tryz.underlying142 anyElem w.heap.size 2 (((DataW.map []).put kC (.held (fnV 112))).put kM (.held (fnV 113))) rfl hw2 (by unfold maxLen; omega) (.string ⟨#[102, 117, 110, 99]⟩) (fnV 114) kF rfl rfl h3 (.held (fnV 114)) [] rfl ?_)
  intro w3 hw3 hg3
  have hb : Below w.heap.size w w3 := ((((Below.refl _ _).alloc (Nat.le_refl _) _).grown hg1 (by simp) (fun k hk => by simp at hk; omega)).grown hg2 (Nat.le_trans (by simp) hg1.size) (fun k hk => by simp at hk; omega)).grown hg3 (Nat.le_trans (Nat.le_trans (by simp) hg1.size) hg2.size) (fun k hk => by simp at hk; omega)
  have HO := Lib.hid hw3
  clear hw1 hw2 hw3 hg1 hg2 hg3 hm0
  go_wp2
  go_ret
  exact ⟨rfl, HO.out, hb⟩

/-- What the map of the takers holds. -/
def takF (s : Str) : Value := if s = [99, 108, 97, 115, 115] then fnV 112 else if s = [109, 101, 116, 104, 111, 100] then fnV 113 else if s = [102, 117, 110, 99] then fnV 114 else .nilFunc
def takB (s : Str) : Bool := decide (s = [99, 108, 97, 115, 115] ∨ s = [109, 101, 116, 104, 111, 100] ∨ s = [102, 117, 110, 99])
theorem tak_at (s : Str) : takD.atKey (.string s) (.held .nilFunc) = .held (takF s) ∧ Maps.has takD (.string s) = takB s := by
  have i0 : IsMap (DataW.map [] : DataW Value) := isMap_empty
  have i1 := i0.put kC (.held (fnV 112))
  have i2 := i1.put kM (.held (fnV 113))
  unfold takD takF takB
  by_cases h3 : s = [102, 117, 110, 99]
  · subst h3
    exact ⟨(atKey_put_same i2 (by trivial) _ _).trans rfl, (has_put_same i2 (by trivial) _).trans rfl⟩
  · have n3 : (Lit.string s) ≠ kF := by unfold kF; intro e; injection e with e; exact h3 e
    rw [atKey_put_other n3, has_put_other n3]
    by_cases h2 : s = [109, 101, 116, 104, 111, 100]
    · subst h2
      exact ⟨(atKey_put_same i1 (by trivial) _ _).trans rfl, (has_put_same i1 (by trivial) _).trans rfl⟩
    · have n2 : (Lit.string s) ≠ kM := by unfold kM; intro e; injection e with e; exact h2 e
      rw [atKey_put_other n2, has_put_other n2]
      by_cases h1 : s = [99, 108, 97, 115, 115]
      · subst h1
        exact ⟨(atKey_put_same i0 (by trivial) _ _).trans rfl, (has_put_same i0 (by trivial) _).trans rfl⟩
      · have n1 : (Lit.string s) ≠ kC := by unfold kC; intro e; injection e with e; exact h1 e
        rw [atKey_put_other n1, has_put_other n1, if_neg h1, if_neg h2, if_neg h3]
        exact ⟨rfl, by simp [h1, h2, h3, Maps.has]⟩

theorem run_assert_stop (v : Value) (w : World) : (Instr.typeAssert (.iface 137 v) 20 137 true).run Tryz.prog w = .ok (.tuple #[v, .bool true]) w := by
  simp [Instr.typeAssert, run_underlying Tryz.underlying137, go_sem, Result.andThen]
set_option maxHeartbeats 1000000 in
set_option maxRecDepth 20000 in
theorem catch_panicking (k : Nat) (x c : Int) (w : World) (hc : w.cell? ⟨k, 0, none⟩ = some (.int .i64 x)) (hz : w.frozen? ⟨k, 0, none⟩ = false) (hp : ¬ k = w.heap.size) :
    CallsD Tryz.prog 86 #[.pointer (some ⟨k, 0, none⟩)] (.panicking (stopC c)) w fun e u' w' =>
      e = .returned (.tuple #[]) ∧ u' = .panicking [{ v := .iface 137 (.agg #[.int .i64 c]), recovered := true }] ∧ w' = (w.alloc (.cells #[.int .i64 c] 137)).setCell ⟨k, 0, none⟩ (.int .i64 c) := by
  refine callsD_of_wpS Tryz.func86 rfl fun c₀ cs hu => ?_
  apply wpS_seq
  apply wpS_region
  simp [wpOpsS, go_sem, recoverD, hu, Tryz.ntmps86, Exit.thenS, stopC]
  have hra := run_assert_stop
  have hc1 : (w.alloc (.cells #[.int .i64 c] 137)).cell? ⟨k, 0, none⟩ = some (.int .i64 x) := (World.cell?_alloc_old w _ ⟨k, 0, none⟩ hp).trans hc
  have hz1 : (w.alloc (.cells #[.int .i64 c] 137)).frozen? ⟨k, 0, none⟩ = false := (World.frozen?_alloc_old w _ ⟨k, 0, none⟩ hp).trans hz
  refine wpS_of_wp ?_
  go_wp2
  cases c₀
  simp_all [bodyPostS, results, stopC]

theorem catch_idle (p : Addr) (w : World) :
    CallsD Tryz.prog 86 #[.pointer (some p)] .returning w fun e u' w' => e = .returned (.tuple #[]) ∧ u' = .returning ∧ w' = w := by
  refine callsD_of_wpS Tryz.func86 rfl fun c₀ cs hu => ?_
  apply wpS_seq
  apply wpS_region
  simp [wpOpsS, go_sem, recoverD, hu, Tryz.ntmps86, Exit.thenS]
  refine wpS_of_wp ?_
  go_wp2
  cases c₀
  simp_all [bodyPostS, results]
end Go.Proofs.YtdkcdodkhghfhaaGreatDoor
