/- The reference: words, constants, and what a line shows. -/
import Derived.Test.YtdkcdodkhghfhaaGreatDoorRM
namespace Go.Proofs.YtdkcdodkhghfhaaGreatDoor
open Go.RowKit Go.Proofs.YtdkcdodkhghfhaaGreatDoorW.PrintWords

def words8 : List Str := [[120], [121], [105], [109, 97, 105, 110], [102, 49], [78, 111, 100, 101], [97, 98, 99, 100, 101, 102, 103, 104, 105, 106, 107, 108], [110, 101, 120, 116]]
def wordN (n : Int) : Str := words8.getD (n % 8).toNat []
theorem words8_names : words8.all nameS = true := by decide +kernel
theorem wordN_name (n : Int) : nameS (wordN n) = true ∧ (wordN n).length ≤ 12 := by
  have h0 : 0 ≤ n % 8 := Int.emod_nonneg _ (by omega)
  have h1 : n % 8 < 8 := Int.emod_lt_of_pos _ (by omega)
  have h : n % 8 = 0 ∨ n % 8 = 1 ∨ n % 8 = 2 ∨ n % 8 = 3 ∨ n % 8 = 4 ∨ n % 8 = 5 ∨ n % 8 = 6 ∨ n % 8 = 7 := by omega
  unfold wordN
  rcases h with h | h | h | h | h | h | h | h <;> rw [h] <;> decide +kernel
set_option maxHeartbeats 1000000 in
theorem word_calls (n : Int) (w : World) :
    Calls Tryz.prog 40 #[.int .i64 n] w fun e w' => e = .returned (.string ⟨(wordN n).toArray⟩) ∧ Below w.heap.size w w' := by
  have h0 : 0 ≤ n % 8 := Int.emod_nonneg _ (by omega)
  have h1 : n % 8 < 8 := Int.emod_lt_of_pos _ (by omega)
  have h : n % 8 = 0 ∨ n % 8 = 1 ∨ n % 8 = 2 ∨ n % 8 = 3 ∨ n % 8 = 4 ∨ n % 8 = 5 ∨ n % 8 = 6 ∨ n % 8 = 7 := by omega
  unfold wordN
  generalize hm : n % 8 = m at *
  have HM := Lib.hid hm
  clear hm h0 h1
  rcases h with rfl | rfl | rfl | rfl | rfl | rfl | rfl | rfl
  all_goals
    go_enter Tryz.func40, Tryz.ntmps40
    go_wp2_with fail
    refine (mod_calls n 8 _ (by omega) (by omega)).mono ?_
    rw [HM.out]
    rintro e w' ⟨rfl, rfl⟩
    go_wp2_with fail
    go_ret
    exact ⟨rfl, (Below.refl _ _).alloc (Nat.le_refl _) _⟩

def strs6 : List Str := [[], [105, 116, 39, 115], [39, 39], [120, 32, 61, 32, 121], [32], [97, 46, 98, 91, 99, 93]]
def ints3 : List Int := [1000000000000000, -1000000000000000, 0]
def constV (n : Int) : Val :=
  if n % 7 = 0 then ⟨1, 0, []⟩ else if n % 7 = 1 then ⟨2, 0, []⟩ else if n % 7 = 2 then ⟨2, 1, []⟩ else if n % 7 = 3 then ⟨3, n % 1000, []⟩
  else if n % 7 = 4 then ⟨3, ints3.getD (n / 7 % 3).toNat 0, []⟩ else if n % 7 = 5 then ⟨4, 0, strs6.getD (n / 7 % 6).toNat []⟩ else ⟨4, 0, wordN (n / 7)⟩
def ConstOut (n : Int) (w : World) (e : Ending) (w' : World) : Prop := e = .returned (.agg #[.int .i64 (constV n).k, .int .i64 (constV n).n, .string ⟨(constV n).s.toArray⟩]) ∧ Below w.heap.size w w'
theorem results_val {fn : Func} {tmps : Array Value} {W : World} {g : Nat} {v0 v1 v2 : Value} (hres : fn.results = #[.cell 2 38]) (h2 : tmps.getD 2 undef = .pointer (some ⟨g, 0, none⟩))
    (hb : W.heap[g]? = some (.cells #[v0, v1, v2] 38 (0, 0))) (h0 : v0.oneCell' = true) (h1 : v1.oneCell' = true) (h3 : v2.oneCell' = true) :
    (results fn tmps).run Tryz.prog W = .ok (.agg #[v0, v1, v2]) W := by
  have c0 := cellB hb 0 rfl
  have c1 := cellB hb 1 rfl
  have c2 := cellB hb 2 rfl
  simp at c0 c1 c2 h2
  simp [results, hres, h2, go_sem, c0, c1, c2, h0, h1, h3]
set_option maxHeartbeats 2000000 in
theorem const_calls (n : Int) (w : World) (hn0 : 0 ≤ n) (hn1 : n < 1000) : Calls Tryz.prog 59 #[.int .i64 n] w (ConstOut n w) := by
  have h : n % 7 = 0 ∨ n % 7 = 1 ∨ n % 7 = 2 ∨ n % 7 = 3 ∨ n % 7 = 4 ∨ n % 7 = 5 ∨ n % 7 = 6 := by omega
  rcases h with h | h | h | h | h | h | h
  · have HM := Lib.hid h
    have HV : Hid (constV n = ⟨1, 0, []⟩) := Lib.hid (by unfold constV; simp [h])
    clear h
    go_enter Tryz.func59, Tryz.ntmps59
    go_wp2_with fail
    refine (mod_calls n 7 _ (by omega) (by omega)).mono ?_
    rw [HM.out]
    rintro e w' ⟨rfl, rfl⟩
    go_wp2_with fail
    skip
    skip
    skip
    skip
    refine bodyPost_ret (v := .agg #[.int .i64 1, .int .i64 (0), .string ⟨#[]⟩]) (results_val rfl rfl (heap_new _ _) rfl rfl rfl) rfl ⟨by rw [HV.out], (Below.refl _ _).alloc (Nat.le_refl _) _⟩
  · have HM := Lib.hid h
    have HV : Hid (constV n = ⟨2, 0, []⟩) := Lib.hid (by unfold constV; simp [h])
    clear h
    go_enter Tryz.func59, Tryz.ntmps59
    go_wp2_with fail
    refine (mod_calls n 7 _ (by omega) (by omega)).mono ?_
    rw [HM.out]
    rintro e w' ⟨rfl, rfl⟩
    go_wp2_with fail
    refine (mod_calls n 7 _ (by omega) (by omega)).mono ?_
    rw [HM.out]
    rintro e w' ⟨rfl, rfl⟩
    go_wp2_with fail
    refine bodyPost_ret (v := .agg #[.int .i64 2, .int .i64 (0), .string ⟨#[]⟩]) (results_val rfl rfl (heap_new _ _) rfl rfl rfl) rfl ⟨by rw [HV.out], (Below.refl _ _).alloc (Nat.le_refl _) _⟩
  · have HM := Lib.hid h
    have HV : Hid (constV n = ⟨2, 1, []⟩) := Lib.hid (by unfold constV; simp [h])
    clear h
    go_enter Tryz.func59, Tryz.ntmps59
    go_wp2_with fail
    refine (mod_calls n 7 _ (by omega) (by omega)).mono ?_
    rw [HM.out]
    rintro e w' ⟨rfl, rfl⟩
    go_wp2_with fail
    refine (mod_calls n 7 _ (by omega) (by omega)).mono ?_
    rw [HM.out]
    rintro e w' ⟨rfl, rfl⟩
    go_wp2_with fail
    refine bodyPost_ret (v := .agg #[.int .i64 2, .int .i64 (1), .string ⟨#[]⟩]) (results_val rfl rfl (heap_new _ _) rfl rfl rfl) rfl ⟨by rw [HV.out], (Below.refl _ _).alloc (Nat.le_refl _) _⟩
  · have HM := Lib.hid h
    have HV : Hid (constV n = ⟨3, n % 1000, []⟩) := Lib.hid (by unfold constV; simp [h])
    clear h
    go_enter Tryz.func59, Tryz.ntmps59
    go_wp2_with fail
    refine (mod_calls n 7 _ (by omega) (by omega)).mono ?_
    rw [HM.out]
    rintro e w' ⟨rfl, rfl⟩
    go_wp2_with fail
    skip
    skip
    skip
    skip
    refine bodyPost_ret (v := .agg #[.int .i64 3, .int .i64 (n % 1000), .string ⟨#[]⟩]) (results_val rfl rfl (heap_new _ _) rfl rfl rfl) rfl ⟨by rw [HV.out], (Below.refl _ _).alloc (Nat.le_refl _) _⟩
  · have h3 : n / 7 % 3 = 0 ∨ n / 7 % 3 = 1 ∨ n / 7 % 3 = 2 := by omega
    have HM := Lib.hid h
    have HV : Hid (constV n = ⟨3, ints3.getD (n / 7 % 3).toNat 0, []⟩) := Lib.hid (by unfold constV; simp [h])
    clear h
    generalize hq : n / 7 % 3 = q at *
    have HQ := Lib.hid hq
    clear hq
    rcases h3 with rfl | rfl | rfl
    all_goals
      go_enter Tryz.func59, Tryz.ntmps59
      go_wp2_with fail
      refine (mod_calls n 7 _ (by omega) (by omega)).mono ?_
      rw [HM.out]
      rintro e w' ⟨rfl, rfl⟩
      go_wp2_with fail
      refine (mod_calls (n / 7) 3 _ (by omega) (by omega)).mono ?_
      rw [HQ.out]
      rintro e w' ⟨rfl, rfl⟩
      go_wp2_with fail
      refine bodyPost_ret (v := .agg #[.int .i64 3, .int .i64 _, .string ⟨#[]⟩]) (results_val rfl rfl ((heap_alloc_old _ _ (by simp)).trans (heap_new _ _)) rfl rfl rfl) rfl ⟨by rw [HV.out]; rfl, ((Below.refl _ _).alloc (Nat.le_refl _) _).alloc (by simp) _⟩
  · have h3 : n / 7 % 6 = 0 ∨ n / 7 % 6 = 1 ∨ n / 7 % 6 = 2 ∨ n / 7 % 6 = 3 ∨ n / 7 % 6 = 4 ∨ n / 7 % 6 = 5 := by omega
    have HM := Lib.hid h
    have HV : Hid (constV n = ⟨4, 0, strs6.getD (n / 7 % 6).toNat []⟩) := Lib.hid (by unfold constV; simp [h])
    clear h
    generalize hq : n / 7 % 6 = q at *
    have HQ := Lib.hid hq
    clear hq
    rcases h3 with rfl | rfl | rfl | rfl | rfl | rfl
    all_goals
      go_enter Tryz.func59, Tryz.ntmps59
      go_wp2_with fail
      refine (mod_calls n 7 _ (by omega) (by omega)).mono ?_
      rw [HM.out]
      rintro e w' ⟨rfl, rfl⟩
      go_wp2_with fail
      refine (mod_calls (n / 7) 6 _ (by omega) (by omega)).mono ?_
      rw [HQ.out]
      rintro e w' ⟨rfl, rfl⟩
      go_wp2_with fail
      refine bodyPost_ret (v := .agg #[.int .i64 4, .int .i64 0, .string _]) (results_val rfl rfl ((heap_alloc_old _ _ (by simp)).trans (heap_new _ _)) rfl rfl rfl) rfl ⟨by rw [HV.out]; rfl, ((Below.refl _ _).alloc (Nat.le_refl _) _).alloc (by simp) _⟩
  · have HM := Lib.hid h
    have HV : Hid (constV n = ⟨4, 0, wordN (n / 7)⟩) := Lib.hid (by unfold constV; simp [h])
    clear h
    go_enter Tryz.func59, Tryz.ntmps59
    go_wp2_with fail
    refine (mod_calls n 7 _ (by omega) (by omega)).mono ?_
    rw [HM.out]
    rintro e w' ⟨rfl, rfl⟩
    go_wp2_with fail
    refine (word_calls (n / 7) _).mono ?_
    rintro e w1 ⟨rfl, hb⟩
    have k0 : w1.heap[w.heap.size]? = some (.cells #[.int .i64 0, .int .i64 0, .string ⟨#[]⟩] 38 (0, 0)) := (hb.block _ (by simp)).trans (heap_new _ _)
    have HB := Lib.hid (((Below.refl _ w).alloc (Nat.le_refl _) _).trans (hb.mono (by simp)) : Below w.heap.size w w1)
    have q0 := frozenB k0 0
    have q1 := frozenB k0 1
    have q2 := frozenB k0 2
    have r0 : w1.cell? ⟨w.heap.size, 0, none⟩ = some (.int .i64 0) := cellB k0 0 rfl
    have r1 : w1.cell? ⟨w.heap.size, 1, none⟩ = some (.int .i64 0) := cellB k0 1 rfl
    have r2 : w1.cell? ⟨w.heap.size, 2, none⟩ = some (.string ⟨#[]⟩) := cellB k0 2 rfl
    have K0 := Lib.hid k0
    clear hb k0
    go_wp2_with fail
    refine bodyPost_ret (v := .agg #[.int .i64 4, .int .i64 0, .string ⟨(wordN (n / 7)).toArray⟩]) (results_val rfl rfl (blk_set (blk_set (blk_set K0.out 0 _) 1 _) 2 _) rfl rfl rfl) rfl ⟨by rw [HV.out], ((HB.out.setCell (Nat.le_refl _) _).setCell (Nat.le_refl _) _).setCell (Nat.le_refl _) _⟩
end Go.Proofs.YtdkcdodkhghfhaaGreatDoor
