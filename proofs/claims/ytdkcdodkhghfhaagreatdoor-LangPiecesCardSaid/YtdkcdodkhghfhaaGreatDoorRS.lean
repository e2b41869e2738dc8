/- The reference: what a line shows. -/
import Derived.Test.YtdkcdodkhghfhaaGreatDoorRW
namespace Go.Proofs.YtdkcdodkhghfhaaGreatDoor
open Go.RowKit Go.Proofs.YtdkcdodkhghfhaaGreatDoorW.PrintWords

def beforeS (op : Int) : Str :=
  if op = 3 then [110, 111, 116] else if op = 4 then [110, 101, 103] else if op = 18 then [97, 114, 114, 97, 121] else if op = 21 then [108, 101, 110] else if op = 26 then [119, 101, 97, 107] else if op = 27 then [100, 101, 114, 101, 102] else []
def hasA (op : Int) : Bool := decide (op = 34) || decide (op = 35) || decide (op = 36) || decide (op = 38) || decide (op = 40)
set_option maxHeartbeats 1000000 in
theorem before_calls (op : Int) (w : World) : Calls Tryz.prog 99 #[.int .i64 op] w fun e w' => e = .returned (.string ⟨(beforeS op).toArray⟩) ∧ w = w' := by
  go_enter Tryz.func99, Tryz.ntmps99
  go_wp2
  all_goals
    go_ret
    refine ⟨ret_str ?_, rfl⟩
    unfold beforeS
    simp_all
set_option maxHeartbeats 1000000 in
theorem hasA_calls (op : Int) (w : World) : Calls Tryz.prog 98 #[.int .i64 op] w fun e w' => e = .returned (.bool (hasA op)) ∧ w = w' := by
  go_enter Tryz.func98, Tryz.ntmps98
  go_wp2
  all_goals
    go_ret
    refine ⟨ret_bool ?_, rfl⟩
    unfold hasA
    rw [Bool.eq_iff_iff]
    first | (simp; omega) | simp | omega
def withoutA (op : Int) : Bool := decide (op = 32) || (decide (33 ≤ op) && !(hasA op))
def shows (op : Int) : Bool × Bool × Bool × Bool :=
  (!(withoutA op),
   decide (op = 2) || !(beforeS op).isEmpty || (decide (5 ≤ op) && decide (op ≤ 14)) || decide (op = 16) || decide (op = 17) || decide (op = 19) || decide (op = 20) || decide (op = 24) || decide (op = 25),
   (decide (5 ≤ op) && decide (op ≤ 14)) || decide (op = 19) || decide (op = 20),
   decide (op = 15) || decide (op = 16) || decide (op = 17) || decide (op = 22) || decide (op = 23) || decide (op = 25) || decide (op = 28) || decide (op = 32))
def ShowsOut (op : Int) (w : World) (e : Ending) (w' : World) : Prop := e = .returned (.agg #[.bool (shows op).1, .bool (shows op).2.1, .bool (shows op).2.2.1, .bool (shows op).2.2.2]) ∧ Below w.heap.size w w'
theorem results_b4 {fn : Func} {tmps : Array Value} {W : World} {g : Nat} {b0 b1 b2 b3 : Bool} (hres : fn.results = #[.cell 2 111]) (h2 : tmps.getD 2 undef = .pointer (some ⟨g, 0, none⟩))
    (hb : W.heap[g]? = some (.cells #[.bool b0, .bool b1, .bool b2, .bool b3] 111 (0, 0))) :
    (results fn tmps).run Tryz.prog W = .ok (.agg #[.bool b0, .bool b1, .bool b2, .bool b3]) W := by
  have c0 := cellB hb 0 rfl
  have c1 := cellB hb 1 rfl
  have c2 := cellB hb 2 rfl
  have c3 := cellB hb 3 rfl
  simp at c0 c1 c2 c3 h2
  simp [results, hres, h2, go_sem, c0, c1, c2, c3]
set_option maxHeartbeats 1000000 in
theorem shows_1 (w : World) : Calls Tryz.prog 58 #[.int .i64 1] w (ShowsOut 1 w) := by
  have hb : beforeS 1 = [] := rfl
  have ha : hasA 1 = false := rfl
  go_enter Tryz.func58, Tryz.ntmps58
  go_wp2_with (first | (go_at_call 98; refine (hasA_calls _ _).mono ?_; rintro e w' ⟨rfl, rfl⟩) | (go_at_call 99; refine (before_calls _ _).mono ?_; rintro e w' ⟨rfl, rfl⟩))
  refine bodyPost_ret (v := .agg #[.bool (shows 1).1, .bool (shows 1).2.1, .bool (shows 1).2.2.1, .bool (shows 1).2.2.2]) (results_b4 rfl rfl ((heap_alloc_old _ _ (by simp)).trans (heap_new _ _))) rfl ⟨rfl, ((Below.refl _ _).alloc (Nat.le_refl _) _).alloc (by simp) _⟩
set_option maxHeartbeats 1000000 in
theorem shows_2 (w : World) : Calls Tryz.prog 58 #[.int .i64 2] w (ShowsOut 2 w) := by
  have hb : beforeS 2 = [] := rfl
  have ha : hasA 2 = false := rfl
  go_enter Tryz.func58, Tryz.ntmps58
  go_wp2_with (first | (go_at_call 98; refine (hasA_calls _ _).mono ?_; rintro e w' ⟨rfl, rfl⟩) | (go_at_call 99; refine (before_calls _ _).mono ?_; rintro e w' ⟨rfl, rfl⟩))
  refine bodyPost_ret (v := .agg #[.bool (shows 2).1, .bool (shows 2).2.1, .bool (shows 2).2.2.1, .bool (shows 2).2.2.2]) (results_b4 rfl rfl ((heap_alloc_old _ _ (by simp)).trans (heap_new _ _))) rfl ⟨rfl, ((Below.refl _ _).alloc (Nat.le_refl _) _).alloc (by simp) _⟩
set_option maxHeartbeats 1000000 in
theorem shows_3 (w : World) : Calls Tryz.prog 58 #[.int .i64 3] w (ShowsOut 3 w) := by
  have hb : beforeS 3 = [110, 111, 116] := rfl
  have ha : hasA 3 = false := rfl
  go_enter Tryz.func58, Tryz.ntmps58
  go_wp2_with (first | (go_at_call 98; refine (hasA_calls _ _).mono ?_; rintro e w' ⟨rfl, rfl⟩) | (go_at_call 99; refine (before_calls _ _).mono ?_; rintro e w' ⟨rfl, rfl⟩))
  refine bodyPost_ret (v := .agg #[.bool (shows 3).1, .bool (shows 3).2.1, .bool (shows 3).2.2.1, .bool (shows 3).2.2.2]) (results_b4 rfl rfl ((heap_alloc_old _ _ (by simp)).trans (heap_new _ _))) rfl ⟨rfl, ((Below.refl _ _).alloc (Nat.le_refl _) _).alloc (by simp) _⟩
set_option maxHeartbeats 1000000 in
theorem shows_4 (w : World) : Calls Tryz.prog 58 #[.int .i64 4] w (ShowsOut 4 w) := by
  have hb : beforeS 4 = [110, 101, 103] := rfl
  have ha : hasA 4 = false := rfl
  go_enter Tryz.func58, Tryz.ntmps58
  go_wp2_with (first | (go_at_call 98; refine (hasA_calls _ _).mono ?_; rintro e w' ⟨rfl, rfl⟩) | (go_at_call 99; refine (before_calls _ _).mono ?_; rintro e w' ⟨rfl, rfl⟩))
  refine bodyPost_ret (v := .agg #[.bool (shows 4).1, .bool (shows 4).2.1, .bool (shows 4).2.2.1, .bool (shows 4).2.2.2]) (results_b4 rfl rfl ((heap_alloc_old _ _ (by simp)).trans (heap_new _ _))) rfl ⟨rfl, ((Below.refl _ _).alloc (Nat.le_refl _) _).alloc (by simp) _⟩
set_option maxHeartbeats 1000000 in
theorem shows_5 (w : World) : Calls Tryz.prog 58 #[.int .i64 5] w (ShowsOut 5 w) := by
  have hb : beforeS 5 = [] := rfl
  have ha : hasA 5 = false := rfl
  go_enter Tryz.func58, Tryz.ntmps58
  go_wp2_with (first | (go_at_call 98; refine (hasA_calls _ _).mono ?_; rintro e w' ⟨rfl, rfl⟩) | (go_at_call 99; refine (before_calls _ _).mono ?_; rintro e w' ⟨rfl, rfl⟩))
  refine bodyPost_ret (v := .agg #[.bool (shows 5).1, .bool (shows 5).2.1, .bool (shows 5).2.2.1, .bool (shows 5).2.2.2]) (results_b4 rfl rfl ((heap_alloc_old _ _ (by simp)).trans (heap_new _ _))) rfl ⟨rfl, ((Below.refl _ _).alloc (Nat.le_refl _) _).alloc (by simp) _⟩
set_option maxHeartbeats 1000000 in
theorem shows_6 (w : World) : Calls Tryz.prog 58 #[.int .i64 6] w (ShowsOut 6 w) := by
  have hb : beforeS 6 = [] := rfl
  have ha : hasA 6 = false := rfl
  go_enter Tryz.func58, Tryz.ntmps58
  go_wp2_with (first | (go_at_call 98; refine (hasA_calls _ _).mono ?_; rintro e w' ⟨rfl, rfl⟩) | (go_at_call 99; refine (before_calls _ _).mono ?_; rintro e w' ⟨rfl, rfl⟩))
  refine bodyPost_ret (v := .agg #[.bool (shows 6).1, .bool (shows 6).2.1, .bool (shows 6).2.2.1, .bool (shows 6).2.2.2]) (results_b4 rfl rfl ((heap_alloc_old _ _ (by simp)).trans (heap_new _ _))) rfl ⟨rfl, ((Below.refl _ _).alloc (Nat.le_refl _) _).alloc (by simp) _⟩
set_option maxHeartbeats 1000000 in
theorem shows_7 (w : World) : Calls Tryz.prog 58 #[.int .i64 7] w (ShowsOut 7 w) := by
  have hb : beforeS 7 = [] := rfl
  have ha : hasA 7 = false := rfl
  go_enter Tryz.func58, Tryz.ntmps58
  go_wp2_with (first | (go_at_call 98; refine (hasA_calls _ _).mono ?_; rintro e w' ⟨rfl, rfl⟩) | (go_at_call 99; refine (before_calls _ _).mono ?_; rintro e w' ⟨rfl, rfl⟩))
  refine bodyPost_ret (v := .agg #[.bool (shows 7).1, .bool (shows 7).2.1, .bool (shows 7).2.2.1, .bool (shows 7).2.2.2]) (results_b4 rfl rfl ((heap_alloc_old _ _ (by simp)).trans (heap_new _ _))) rfl ⟨rfl, ((Below.refl _ _).alloc (Nat.le_refl _) _).alloc (by simp) _⟩
set_option maxHeartbeats 1000000 in
theorem shows_8 (w : World) : Calls Tryz.prog 58 #[.int .i64 8] w (ShowsOut 8 w) := by
  have hb : beforeS 8 = [] := rfl
  have ha : hasA 8 = false := rfl
  go_enter Tryz.func58, Tryz.ntmps58
  go_wp2_with (first | (go_at_call 98; refine (hasA_calls _ _).mono ?_; rintro e w' ⟨rfl, rfl⟩) | (go_at_call 99; refine (before_calls _ _).mono ?_; rintro e w' ⟨rfl, rfl⟩))
  refine bodyPost_ret (v := .agg #[.bool (shows 8).1, .bool (shows 8).2.1, .bool (shows 8).2.2.1, .bool (shows 8).2.2.2]) (results_b4 rfl rfl ((heap_alloc_old _ _ (by simp)).trans (heap_new _ _))) rfl ⟨rfl, ((Below.refl _ _).alloc (Nat.le_refl _) _).alloc (by simp) _⟩
set_option maxHeartbeats 1000000 in
theorem shows_9 (w : World) : Calls Tryz.prog 58 #[.int .i64 9] w (ShowsOut 9 w) := by
  have hb : beforeS 9 = [] := rfl
  have ha : hasA 9 = false := rfl
  go_enter Tryz.func58, Tryz.ntmps58
  go_wp2_with (first | (go_at_call 98; refine (hasA_calls _ _).mono ?_; rintro e w' ⟨rfl, rfl⟩) | (go_at_call 99; refine (before_calls _ _).mono ?_; rintro e w' ⟨rfl, rfl⟩))
  refine bodyPost_ret (v := .agg #[.bool (shows 9).1, .bool (shows 9).2.1, .bool (shows 9).2.2.1, .bool (shows 9).2.2.2]) (results_b4 rfl rfl ((heap_alloc_old _ _ (by simp)).trans (heap_new _ _))) rfl ⟨rfl, ((Below.refl _ _).alloc (Nat.le_refl _) _).alloc (by simp) _⟩
set_option maxHeartbeats 1000000 in
theorem shows_10 (w : World) : Calls Tryz.prog 58 #[.int .i64 10] w (ShowsOut 10 w) := by
  have hb : beforeS 10 = [] := rfl
  have ha : hasA 10 = false := rfl
  go_enter Tryz.func58, Tryz.ntmps58
  go_wp2_with (first | (go_at_call 98; refine (hasA_calls _ _).mono ?_; rintro e w' ⟨rfl, rfl⟩) | (go_at_call 99; refine (before_calls _ _).mono ?_; rintro e w' ⟨rfl, rfl⟩))
  refine bodyPost_ret (v := .agg #[.bool (shows 10).1, .bool (shows 10).2.1, .bool (shows 10).2.2.1, .bool (shows 10).2.2.2]) (results_b4 rfl rfl ((heap_alloc_old _ _ (by simp)).trans (heap_new _ _))) rfl ⟨rfl, ((Below.refl _ _).alloc (Nat.le_refl _) _).alloc (by simp) _⟩
set_option maxHeartbeats 1000000 in
theorem shows_11 (w : World) : Calls Tryz.prog 58 #[.int .i64 11] w (ShowsOut 11 w) := by
  have hb : beforeS 11 = [] := rfl
  have ha : hasA 11 = false := rfl
  go_enter Tryz.func58, Tryz.ntmps58
  go_wp2_with (first | (go_at_call 98; refine (hasA_calls _ _).mono ?_; rintro e w' ⟨rfl, rfl⟩) | (go_at_call 99; refine (before_calls _ _).mono ?_; rintro e w' ⟨rfl, rfl⟩))
  refine bodyPost_ret (v := .agg #[.bool (shows 11).1, .bool (shows 11).2.1, .bool (shows 11).2.2.1, .bool (shows 11).2.2.2]) (results_b4 rfl rfl ((heap_alloc_old _ _ (by simp)).trans (heap_new _ _))) rfl ⟨rfl, ((Below.refl _ _).alloc (Nat.le_refl _) _).alloc (by simp) _⟩
set_option maxHeartbeats 1000000 in
theorem shows_12 (w : World) : Calls Tryz.prog 58 #[.int .i64 12] w (ShowsOut 12 w) := by
  have hb : beforeS 12 = [] := rfl
  have ha : hasA 12 = false := rfl
  go_enter Tryz.func58, Tryz.ntmps58
  go_wp2_with (first | (go_at_call 98; refine (hasA_calls _ _).mono ?_; rintro e w' ⟨rfl, rfl⟩) | (go_at_call 99; refine (before_calls _ _).mono ?_; rintro e w' ⟨rfl, rfl⟩))
  refine bodyPost_ret (v := .agg #[.bool (shows 12).1, .bool (shows 12).2.1, .bool (shows 12).2.2.1, .bool (shows 12).2.2.2]) (results_b4 rfl rfl ((heap_alloc_old _ _ (by simp)).trans (heap_new _ _))) rfl ⟨rfl, ((Below.refl _ _).alloc (Nat.le_refl _) _).alloc (by simp) _⟩
set_option maxHeartbeats 1000000 in
theorem shows_13 (w : World) : Calls Tryz.prog 58 #[.int .i64 13] w (ShowsOut 13 w) := by
  have hb : beforeS 13 = [] := rfl
  have ha : hasA 13 = false := rfl
  go_enter Tryz.func58, Tryz.ntmps58
  go_wp2_with (first | (go_at_call 98; refine (hasA_calls _ _).mono ?_; rintro e w' ⟨rfl, rfl⟩) | (go_at_call 99; refine (before_calls _ _).mono ?_; rintro e w' ⟨rfl, rfl⟩))
  refine bodyPost_ret (v := .agg #[.bool (shows 13).1, .bool (shows 13).2.1, .bool (shows 13).2.2.1, .bool (shows 13).2.2.2]) (results_b4 rfl rfl ((heap_alloc_old _ _ (by simp)).trans (heap_new _ _))) rfl ⟨rfl, ((Below.refl _ _).alloc (Nat.le_refl _) _).alloc (by simp) _⟩
set_option maxHeartbeats 1000000 in
theorem shows_14 (w : World) : Calls Tryz.prog 58 #[.int .i64 14] w (ShowsOut 14 w) := by
  have hb : beforeS 14 = [] := rfl
  have ha : hasA 14 = false := rfl
  go_enter Tryz.func58, Tryz.ntmps58
  go_wp2_with (first | (go_at_call 98; refine (hasA_calls _ _).mono ?_; rintro e w' ⟨rfl, rfl⟩) | (go_at_call 99; refine (before_calls _ _).mono ?_; rintro e w' ⟨rfl, rfl⟩))
  refine bodyPost_ret (v := .agg #[.bool (shows 14).1, .bool (shows 14).2.1, .bool (shows 14).2.2.1, .bool (shows 14).2.2.2]) (results_b4 rfl rfl ((heap_alloc_old _ _ (by simp)).trans (heap_new _ _))) rfl ⟨rfl, ((Below.refl _ _).alloc (Nat.le_refl _) _).alloc (by simp) _⟩
set_option maxHeartbeats 1000000 in
theorem shows_15 (w : World) : Calls Tryz.prog 58 #[.int .i64 15] w (ShowsOut 15 w) := by
  have hb : beforeS 15 = [] := rfl
  have ha : hasA 15 = false := rfl
  go_enter Tryz.func58, Tryz.ntmps58
  go_wp2_with (first | (go_at_call 98; refine (hasA_calls _ _).mono ?_; rintro e w' ⟨rfl, rfl⟩) | (go_at_call 99; refine (before_calls _ _).mono ?_; rintro e w' ⟨rfl, rfl⟩))
  refine bodyPost_ret (v := .agg #[.bool (shows 15).1, .bool (shows 15).2.1, .bool (shows 15).2.2.1, .bool (shows 15).2.2.2]) (results_b4 rfl rfl ((heap_alloc_old _ _ (by simp)).trans (heap_new _ _))) rfl ⟨rfl, ((Below.refl _ _).alloc (Nat.le_refl _) _).alloc (by simp) _⟩
set_option maxHeartbeats 1000000 in
theorem shows_16 (w : World) : Calls Tryz.prog 58 #[.int .i64 16] w (ShowsOut 16 w) := by
  have hb : beforeS 16 = [] := rfl
  have ha : hasA 16 = false := rfl
  go_enter Tryz.func58, Tryz.ntmps58
  go_wp2_with (first | (go_at_call 98; refine (hasA_calls _ _).mono ?_; rintro e w' ⟨rfl, rfl⟩) | (go_at_call 99; refine (before_calls _ _).mono ?_; rintro e w' ⟨rfl, rfl⟩))
  refine bodyPost_ret (v := .agg #[.bool (shows 16).1, .bool (shows 16).2.1, .bool (shows 16).2.2.1, .bool (shows 16).2.2.2]) (results_b4 rfl rfl ((heap_alloc_old _ _ (by simp)).trans (heap_new _ _))) rfl ⟨rfl, ((Below.refl _ _).alloc (Nat.le_refl _) _).alloc (by simp) _⟩
set_option maxHeartbeats 1000000 in
theorem shows_17 (w : World) : Calls Tryz.prog 58 #[.int .i64 17] w (ShowsOut 17 w) := by
  have hb : beforeS 17 = [] := rfl
  have ha : hasA 17 = false := rfl
  go_enter Tryz.func58, Tryz.ntmps58
  go_wp2_with (first | (go_at_call 98; refine (hasA_calls _ _).mono ?_; rintro e w' ⟨rfl, rfl⟩) | (go_at_call 99; refine (before_calls _ _).mono ?_; rintro e w' ⟨rfl, rfl⟩))
  refine bodyPost_ret (v := .agg #[.bool (shows 17).1, .bool (shows 17).2.1, .bool (shows 17).2.2.1, .bool (shows 17).2.2.2]) (results_b4 rfl rfl ((heap_alloc_old _ _ (by simp)).trans (heap_new _ _))) rfl ⟨rfl, ((Below.refl _ _).alloc (Nat.le_refl _) _).alloc (by simp) _⟩
set_option maxHeartbeats 1000000 in
theorem shows_18 (w : World) : Calls Tryz.prog 58 #[.int .i64 18] w (ShowsOut 18 w) := by
  have hb : beforeS 18 = [97, 114, 114, 97, 121] := rfl
  have ha : hasA 18 = false := rfl
  go_enter Tryz.func58, Tryz.ntmps58
  go_wp2_with (first | (go_at_call 98; refine (hasA_calls _ _).mono ?_; rintro e w' ⟨rfl, rfl⟩) | (go_at_call 99; refine (before_calls _ _).mono ?_; rintro e w' ⟨rfl, rfl⟩))
  refine bodyPost_ret (v := .agg #[.bool (shows 18).1, .bool (shows 18).2.1, .bool (shows 18).2.2.1, .bool (shows 18).2.2.2]) (results_b4 rfl rfl ((heap_alloc_old _ _ (by simp)).trans (heap_new _ _))) rfl ⟨rfl, ((Below.refl _ _).alloc (Nat.le_refl _) _).alloc (by simp) _⟩
set_option maxHeartbeats 1000000 in
theorem shows_19 (w : World) : Calls Tryz.prog 58 #[.int .i64 19] w (ShowsOut 19 w) := by
  have hb : beforeS 19 = [] := rfl
  have ha : hasA 19 = false := rfl
  go_enter Tryz.func58, Tryz.ntmps58
  go_wp2_with (first | (go_at_call 98; refine (hasA_calls _ _).mono ?_; rintro e w' ⟨rfl, rfl⟩) | (go_at_call 99; refine (before_calls _ _).mono ?_; rintro e w' ⟨rfl, rfl⟩))
  refine bodyPost_ret (v := .agg #[.bool (shows 19).1, .bool (shows 19).2.1, .bool (shows 19).2.2.1, .bool (shows 19).2.2.2]) (results_b4 rfl rfl ((heap_alloc_old _ _ (by simp)).trans (heap_new _ _))) rfl ⟨rfl, ((Below.refl _ _).alloc (Nat.le_refl _) _).alloc (by simp) _⟩
set_option maxHeartbeats 1000000 in
theorem shows_20 (w : World) : Calls Tryz.prog 58 #[.int .i64 20] w (ShowsOut 20 w) := by
  have hb : beforeS 20 = [] := rfl
  have ha : hasA 20 = false := rfl
  go_enter Tryz.func58, Tryz.ntmps58
  go_wp2_with (first | (go_at_call 98; refine (hasA_calls _ _).mono ?_; rintro e w' ⟨rfl, rfl⟩) | (go_at_call 99; refine (before_calls _ _).mono ?_; rintro e w' ⟨rfl, rfl⟩))
  refine bodyPost_ret (v := .agg #[.bool (shows 20).1, .bool (shows 20).2.1, .bool (shows 20).2.2.1, .bool (shows 20).2.2.2]) (results_b4 rfl rfl ((heap_alloc_old _ _ (by simp)).trans (heap_new _ _))) rfl ⟨rfl, ((Below.refl _ _).alloc (Nat.le_refl _) _).alloc (by simp) _⟩
set_option maxHeartbeats 1000000 in
theorem shows_21 (w : World) : Calls Tryz.prog 58 #[.int .i64 21] w (ShowsOut 21 w) := by
  have hb : beforeS 21 = [108, 101, 110] := rfl
  have ha : hasA 21 = false := rfl
  go_enter Tryz.func58, Tryz.ntmps58
  go_wp2_with (first | (go_at_call 98; refine (hasA_calls _ _).mono ?_; rintro e w' ⟨rfl, rfl⟩) | (go_at_call 99; refine (before_calls _ _).mono ?_; rintro e w' ⟨rfl, rfl⟩))
  refine bodyPost_ret (v := .agg #[.bool (shows 21).1, .bool (shows 21).2.1, .bool (shows 21).2.2.1, .bool (shows 21).2.2.2]) (results_b4 rfl rfl ((heap_alloc_old _ _ (by simp)).trans (heap_new _ _))) rfl ⟨rfl, ((Below.refl _ _).alloc (Nat.le_refl _) _).alloc (by simp) _⟩
set_option maxHeartbeats 1000000 in
theorem shows_22 (w : World) : Calls Tryz.prog 58 #[.int .i64 22] w (ShowsOut 22 w) := by
  have hb : beforeS 22 = [] := rfl
  have ha : hasA 22 = false := rfl
  go_enter Tryz.func58, Tryz.ntmps58
  go_wp2_with (first | (go_at_call 98; refine (hasA_calls _ _).mono ?_; rintro e w' ⟨rfl, rfl⟩) | (go_at_call 99; refine (before_calls _ _).mono ?_; rintro e w' ⟨rfl, rfl⟩))
  refine bodyPost_ret (v := .agg #[.bool (shows 22).1, .bool (shows 22).2.1, .bool (shows 22).2.2.1, .bool (shows 22).2.2.2]) (results_b4 rfl rfl ((heap_alloc_old _ _ (by simp)).trans (heap_new _ _))) rfl ⟨rfl, ((Below.refl _ _).alloc (Nat.le_refl _) _).alloc (by simp) _⟩
set_option maxHeartbeats 1000000 in
theorem shows_23 (w : World) : Calls Tryz.prog 58 #[.int .i64 23] w (ShowsOut 23 w) := by
  have hb : beforeS 23 = [] := rfl
  have ha : hasA 23 = false := rfl
  go_enter Tryz.func58, Tryz.ntmps58
  go_wp2_with (first | (go_at_call 98; refine (hasA_calls _ _).mono ?_; rintro e w' ⟨rfl, rfl⟩) | (go_at_call 99; refine (before_calls _ _).mono ?_; rintro e w' ⟨rfl, rfl⟩))
  refine bodyPost_ret (v := .agg #[.bool (shows 23).1, .bool (shows 23).2.1, .bool (shows 23).2.2.1, .bool (shows 23).2.2.2]) (results_b4 rfl rfl ((heap_alloc_old _ _ (by simp)).trans (heap_new _ _))) rfl ⟨rfl, ((Below.refl _ _).alloc (Nat.le_refl _) _).alloc (by simp) _⟩
set_option maxHeartbeats 1000000 in
theorem shows_24 (w : World) : Calls Tryz.prog 58 #[.int .i64 24] w (ShowsOut 24 w) := by
  have hb : beforeS 24 = [] := rfl
  have ha : hasA 24 = false := rfl
  go_enter Tryz.func58, Tryz.ntmps58
  go_wp2_with (first | (go_at_call 98; refine (hasA_calls _ _).mono ?_; rintro e w' ⟨rfl, rfl⟩) | (go_at_call 99; refine (before_calls _ _).mono ?_; rintro e w' ⟨rfl, rfl⟩))
  refine bodyPost_ret (v := .agg #[.bool (shows 24).1, .bool (shows 24).2.1, .bool (shows 24).2.2.1, .bool (shows 24).2.2.2]) (results_b4 rfl rfl ((heap_alloc_old _ _ (by simp)).trans (heap_new _ _))) rfl ⟨rfl, ((Below.refl _ _).alloc (Nat.le_refl _) _).alloc (by simp) _⟩
set_option maxHeartbeats 1000000 in
theorem shows_25 (w : World) : Calls Tryz.prog 58 #[.int .i64 25] w (ShowsOut 25 w) := by
  have hb : beforeS 25 = [] := rfl
  have ha : hasA 25 = false := rfl
  go_enter Tryz.func58, Tryz.ntmps58
  go_wp2_with (first | (go_at_call 98; refine (hasA_calls _ _).mono ?_; rintro e w' ⟨rfl, rfl⟩) | (go_at_call 99; refine (before_calls _ _).mono ?_; rintro e w' ⟨rfl, rfl⟩))
  refine bodyPost_ret (v := .agg #[.bool (shows 25).1, .bool (shows 25).2.1, .bool (shows 25).2.2.1, .bool (shows 25).2.2.2]) (results_b4 rfl rfl ((heap_alloc_old _ _ (by simp)).trans (heap_new _ _))) rfl ⟨rfl, ((Below.refl _ _).alloc (Nat.le_refl _) _).alloc (by simp) _⟩
set_option maxHeartbeats 1000000 in
theorem shows_26 (w : World) : Calls Tryz.prog 58 #[.int .i64 26] w (ShowsOut 26 w) := by
  have hb : beforeS 26 = [119, 101, 97, 107] := rfl
  have ha : hasA 26 = false := rfl
  go_enter Tryz.func58, Tryz.ntmps58
  go_wp2_with (first | (go_at_call 98; refine (hasA_calls _ _).mono ?_; rintro e w' ⟨rfl, rfl⟩) | (go_at_call 99; refine (before_calls _ _).mono ?_; rintro e w' ⟨rfl, rfl⟩))
  refine bodyPost_ret (v := .agg #[.bool (shows 26).1, .bool (shows 26).2.1, .bool (shows 26).2.2.1, .bool (shows 26).2.2.2]) (results_b4 rfl rfl ((heap_alloc_old _ _ (by simp)).trans (heap_new _ _))) rfl ⟨rfl, ((Below.refl _ _).alloc (Nat.le_refl _) _).alloc (by simp) _⟩
set_option maxHeartbeats 1000000 in
theorem shows_27 (w : World) : Calls Tryz.prog 58 #[.int .i64 27] w (ShowsOut 27 w) := by
  have hb : beforeS 27 = [100, 101, 114, 101, 102] := rfl
  have ha : hasA 27 = false := rfl
  go_enter Tryz.func58, Tryz.ntmps58
  go_wp2_with (first | (go_at_call 98; refine (hasA_calls _ _).mono ?_; rintro e w' ⟨rfl, rfl⟩) | (go_at_call 99; refine (before_calls _ _).mono ?_; rintro e w' ⟨rfl, rfl⟩))
  refine bodyPost_ret (v := .agg #[.bool (shows 27).1, .bool (shows 27).2.1, .bool (shows 27).2.2.1, .bool (shows 27).2.2.2]) (results_b4 rfl rfl ((heap_alloc_old _ _ (by simp)).trans (heap_new _ _))) rfl ⟨rfl, ((Below.refl _ _).alloc (Nat.le_refl _) _).alloc (by simp) _⟩
set_option maxHeartbeats 1000000 in
theorem shows_28 (w : World) : Calls Tryz.prog 58 #[.int .i64 28] w (ShowsOut 28 w) := by
  have hb : beforeS 28 = [] := rfl
  have ha : hasA 28 = false := rfl
  go_enter Tryz.func58, Tryz.ntmps58
  go_wp2_with (first | (go_at_call 98; refine (hasA_calls _ _).mono ?_; rintro e w' ⟨rfl, rfl⟩) | (go_at_call 99; refine (before_calls _ _).mono ?_; rintro e w' ⟨rfl, rfl⟩))
  refine bodyPost_ret (v := .agg #[.bool (shows 28).1, .bool (shows 28).2.1, .bool (shows 28).2.2.1, .bool (shows 28).2.2.2]) (results_b4 rfl rfl ((heap_alloc_old _ _ (by simp)).trans (heap_new _ _))) rfl ⟨rfl, ((Below.refl _ _).alloc (Nat.le_refl _) _).alloc (by simp) _⟩
set_option maxHeartbeats 1000000 in
theorem shows_29 (w : World) : Calls Tryz.prog 58 #[.int .i64 29] w (ShowsOut 29 w) := by
  have hb : beforeS 29 = [] := rfl
  have ha : hasA 29 = false := rfl
  go_enter Tryz.func58, Tryz.ntmps58
  go_wp2_with (first | (go_at_call 98; refine (hasA_calls _ _).mono ?_; rintro e w' ⟨rfl, rfl⟩) | (go_at_call 99; refine (before_calls _ _).mono ?_; rintro e w' ⟨rfl, rfl⟩))
  refine bodyPost_ret (v := .agg #[.bool (shows 29).1, .bool (shows 29).2.1, .bool (shows 29).2.2.1, .bool (shows 29).2.2.2]) (results_b4 rfl rfl ((heap_alloc_old _ _ (by simp)).trans (heap_new _ _))) rfl ⟨rfl, ((Below.refl _ _).alloc (Nat.le_refl _) _).alloc (by simp) _⟩
set_option maxHeartbeats 1000000 in
theorem shows_30 (w : World) : Calls Tryz.prog 58 #[.int .i64 30] w (ShowsOut 30 w) := by
  have hb : beforeS 30 = [] := rfl
  have ha : hasA 30 = false := rfl
  go_enter Tryz.func58, Tryz.ntmps58
  go_wp2_with (first | (go_at_call 98; refine (hasA_calls _ _).mono ?_; rintro e w' ⟨rfl, rfl⟩) | (go_at_call 99; refine (before_calls _ _).mono ?_; rintro e w' ⟨rfl, rfl⟩))
  refine bodyPost_ret (v := .agg #[.bool (shows 30).1, .bool (shows 30).2.1, .bool (shows 30).2.2.1, .bool (shows 30).2.2.2]) (results_b4 rfl rfl ((heap_alloc_old _ _ (by simp)).trans (heap_new _ _))) rfl ⟨rfl, ((Below.refl _ _).alloc (Nat.le_refl _) _).alloc (by simp) _⟩
set_option maxHeartbeats 1000000 in
theorem shows_31 (w : World) : Calls Tryz.prog 58 #[.int .i64 31] w (ShowsOut 31 w) := by
  have hb : beforeS 31 = [] := rfl
  have ha : hasA 31 = false := rfl
  go_enter Tryz.func58, Tryz.ntmps58
  go_wp2_with (first | (go_at_call 98; refine (hasA_calls _ _).mono ?_; rintro e w' ⟨rfl, rfl⟩) | (go_at_call 99; refine (before_calls _ _).mono ?_; rintro e w' ⟨rfl, rfl⟩))
  refine bodyPost_ret (v := .agg #[.bool (shows 31).1, .bool (shows 31).2.1, .bool (shows 31).2.2.1, .bool (shows 31).2.2.2]) (results_b4 rfl rfl ((heap_alloc_old _ _ (by simp)).trans (heap_new _ _))) rfl ⟨rfl, ((Below.refl _ _).alloc (Nat.le_refl _) _).alloc (by simp) _⟩
set_option maxHeartbeats 1000000 in
theorem shows_32 (w : World) : Calls Tryz.prog 58 #[.int .i64 32] w (ShowsOut 32 w) := by
  have hb : beforeS 32 = [] := rfl
  have ha : hasA 32 = false := rfl
  go_enter Tryz.func58, Tryz.ntmps58
  go_wp2_with (first | (go_at_call 98; refine (hasA_calls _ _).mono ?_; rintro e w' ⟨rfl, rfl⟩) | (go_at_call 99; refine (before_calls _ _).mono ?_; rintro e w' ⟨rfl, rfl⟩))
  refine bodyPost_ret (v := .agg #[.bool (shows 32).1, .bool (shows 32).2.1, .bool (shows 32).2.2.1, .bool (shows 32).2.2.2]) (results_b4 rfl rfl ((heap_alloc_old _ _ (by simp)).trans (heap_new _ _))) rfl ⟨rfl, ((Below.refl _ _).alloc (Nat.le_refl _) _).alloc (by simp) _⟩
set_option maxHeartbeats 1000000 in
theorem shows_33 (w : World) : Calls Tryz.prog 58 #[.int .i64 33] w (ShowsOut 33 w) := by
  have hb : beforeS 33 = [] := rfl
  have ha : hasA 33 = false := rfl
  go_enter Tryz.func58, Tryz.ntmps58
  go_wp2_with (first | (go_at_call 98; refine (hasA_calls _ _).mono ?_; rintro e w' ⟨rfl, rfl⟩) | (go_at_call 99; refine (before_calls _ _).mono ?_; rintro e w' ⟨rfl, rfl⟩))
  refine bodyPost_ret (v := .agg #[.bool (shows 33).1, .bool (shows 33).2.1, .bool (shows 33).2.2.1, .bool (shows 33).2.2.2]) (results_b4 rfl rfl ((heap_alloc_old _ _ (by simp)).trans (heap_new _ _))) rfl ⟨rfl, ((Below.refl _ _).alloc (Nat.le_refl _) _).alloc (by simp) _⟩
set_option maxHeartbeats 1000000 in
theorem shows_34 (w : World) : Calls Tryz.prog 58 #[.int .i64 34] w (ShowsOut 34 w) := by
  have hb : beforeS 34 = [] := rfl
  have ha : hasA 34 = true := rfl
  go_enter Tryz.func58, Tryz.ntmps58
  go_wp2_with (first | (go_at_call 98; refine (hasA_calls _ _).mono ?_; rintro e w' ⟨rfl, rfl⟩) | (go_at_call 99; refine (before_calls _ _).mono ?_; rintro e w' ⟨rfl, rfl⟩))
  refine bodyPost_ret (v := .agg #[.bool (shows 34).1, .bool (shows 34).2.1, .bool (shows 34).2.2.1, .bool (shows 34).2.2.2]) (results_b4 rfl rfl ((heap_alloc_old _ _ (by simp)).trans (heap_new _ _))) rfl ⟨rfl, ((Below.refl _ _).alloc (Nat.le_refl _) _).alloc (by simp) _⟩
set_option maxHeartbeats 1000000 in
theorem shows_35 (w : World) : Calls Tryz.prog 58 #[.int .i64 35] w (ShowsOut 35 w) := by
  have hb : beforeS 35 = [] := rfl
  have ha : hasA 35 = true := rfl
  go_enter Tryz.func58, Tryz.ntmps58
  go_wp2_with (first | (go_at_call 98; refine (hasA_calls _ _).mono ?_; rintro e w' ⟨rfl, rfl⟩) | (go_at_call 99; refine (before_calls _ _).mono ?_; rintro e w' ⟨rfl, rfl⟩))
  refine bodyPost_ret (v := .agg #[.bool (shows 35).1, .bool (shows 35).2.1, .bool (shows 35).2.2.1, .bool (shows 35).2.2.2]) (results_b4 rfl rfl ((heap_alloc_old _ _ (by simp)).trans (heap_new _ _))) rfl ⟨rfl, ((Below.refl _ _).alloc (Nat.le_refl _) _).alloc (by simp) _⟩
set_option maxHeartbeats 1000000 in
theorem shows_36 (w : World) : Calls Tryz.prog 58 #[.int .i64 36] w (ShowsOut 36 w) := by
  have hb : beforeS 36 = [] := rfl
  have ha : hasA 36 = true := rfl
  go_enter Tryz.func58, Tryz.ntmps58
  go_wp2_with (first | (go_at_call 98; refine (hasA_calls _ _).mono ?_; rintro e w' ⟨rfl, rfl⟩) | (go_at_call 99; refine (before_calls _ _).mono ?_; rintro e w' ⟨rfl, rfl⟩))
  refine bodyPost_ret (v := .agg #[.bool (shows 36).1, .bool (shows 36).2.1, .bool (shows 36).2.2.1, .bool (shows 36).2.2.2]) (results_b4 rfl rfl ((heap_alloc_old _ _ (by simp)).trans (heap_new _ _))) rfl ⟨rfl, ((Below.refl _ _).alloc (Nat.le_refl _) _).alloc (by simp) _⟩
set_option maxHeartbeats 1000000 in
theorem shows_37 (w : World) : Calls Tryz.prog 58 #[.int .i64 37] w (ShowsOut 37 w) := by
  have hb : beforeS 37 = [] := rfl
  have ha : hasA 37 = false := rfl
  go_enter Tryz.func58, Tryz.ntmps58
  go_wp2_with (first | (go_at_call 98; refine (hasA_calls _ _).mono ?_; rintro e w' ⟨rfl, rfl⟩) | (go_at_call 99; refine (before_calls _ _).mono ?_; rintro e w' ⟨rfl, rfl⟩))
  refine bodyPost_ret (v := .agg #[.bool (shows 37).1, .bool (shows 37).2.1, .bool (shows 37).2.2.1, .bool (shows 37).2.2.2]) (results_b4 rfl rfl ((heap_alloc_old _ _ (by simp)).trans (heap_new _ _))) rfl ⟨rfl, ((Below.refl _ _).alloc (Nat.le_refl _) _).alloc (by simp) _⟩
set_option maxHeartbeats 1000000 in
theorem shows_38 (w : World) : Calls Tryz.prog 58 #[.int .i64 38] w (ShowsOut 38 w) := by
  have hb : beforeS 38 = [] := rfl
  have ha : hasA 38 = true := rfl
  go_enter Tryz.func58, Tryz.ntmps58
  go_wp2_with (first | (go_at_call 98; refine (hasA_calls _ _).mono ?_; rintro e w' ⟨rfl, rfl⟩) | (go_at_call 99; refine (before_calls _ _).mono ?_; rintro e w' ⟨rfl, rfl⟩))
  refine bodyPost_ret (v := .agg #[.bool (shows 38).1, .bool (shows 38).2.1, .bool (shows 38).2.2.1, .bool (shows 38).2.2.2]) (results_b4 rfl rfl ((heap_alloc_old _ _ (by simp)).trans (heap_new _ _))) rfl ⟨rfl, ((Below.refl _ _).alloc (Nat.le_refl _) _).alloc (by simp) _⟩
set_option maxHeartbeats 1000000 in
theorem shows_39 (w : World) : Calls Tryz.prog 58 #[.int .i64 39] w (ShowsOut 39 w) := by
  have hb : beforeS 39 = [] := rfl
  have ha : hasA 39 = false := rfl
  go_enter Tryz.func58, Tryz.ntmps58
  go_wp2_with (first | (go_at_call 98; refine (hasA_calls _ _).mono ?_; rintro e w' ⟨rfl, rfl⟩) | (go_at_call 99; refine (before_calls _ _).mono ?_; rintro e w' ⟨rfl, rfl⟩))
  refine bodyPost_ret (v := .agg #[.bool (shows 39).1, .bool (shows 39).2.1, .bool (shows 39).2.2.1, .bool (shows 39).2.2.2]) (results_b4 rfl rfl ((heap_alloc_old _ _ (by simp)).trans (heap_new _ _))) rfl ⟨rfl, ((Below.refl _ _).alloc (Nat.le_refl _) _).alloc (by simp) _⟩
set_option maxHeartbeats 1000000 in
theorem shows_40 (w : World) : Calls Tryz.prog 58 #[.int .i64 40] w (ShowsOut 40 w) := by
  have hb : beforeS 40 = [] := rfl
  have ha : hasA 40 = true := rfl
  go_enter Tryz.func58, Tryz.ntmps58
  go_wp2_with (first | (go_at_call 98; refine (hasA_calls _ _).mono ?_; rintro e w' ⟨rfl, rfl⟩) | (go_at_call 99; refine (before_calls _ _).mono ?_; rintro e w' ⟨rfl, rfl⟩))
  refine bodyPost_ret (v := .agg #[.bool (shows 40).1, .bool (shows 40).2.1, .bool (shows 40).2.2.1, .bool (shows 40).2.2.2]) (results_b4 rfl rfl ((heap_alloc_old _ _ (by simp)).trans (heap_new _ _))) rfl ⟨rfl, ((Below.refl _ _).alloc (Nat.le_refl _) _).alloc (by simp) _⟩
set_option maxHeartbeats 1000000 in
theorem shows_41 (w : World) : Calls Tryz.prog 58 #[.int .i64 41] w (ShowsOut 41 w) := by
  have hb : beforeS 41 = [] := rfl
  have ha : hasA 41 = false := rfl
  go_enter Tryz.func58, Tryz.ntmps58
  go_wp2_with (first | (go_at_call 98; refine (hasA_calls _ _).mono ?_; rintro e w' ⟨rfl, rfl⟩) | (go_at_call 99; refine (before_calls _ _).mono ?_; rintro e w' ⟨rfl, rfl⟩))
  refine bodyPost_ret (v := .agg #[.bool (shows 41).1, .bool (shows 41).2.1, .bool (shows 41).2.2.1, .bool (shows 41).2.2.2]) (results_b4 rfl rfl ((heap_alloc_old _ _ (by simp)).trans (heap_new _ _))) rfl ⟨rfl, ((Below.refl _ _).alloc (Nat.le_refl _) _).alloc (by simp) _⟩
set_option maxHeartbeats 1000000 in
theorem shows_42 (w : World) : Calls Tryz.prog 58 #[.int .i64 42] w (ShowsOut 42 w) := by
  have hb : beforeS 42 = [] := rfl
  have ha : hasA 42 = false := rfl
  go_enter Tryz.func58, Tryz.ntmps58
  go_wp2_with (first | (go_at_call 98; refine (hasA_calls _ _).mono ?_; rintro e w' ⟨rfl, rfl⟩) | (go_at_call 99; refine (before_calls _ _).mono ?_; rintro e w' ⟨rfl, rfl⟩))
  refine bodyPost_ret (v := .agg #[.bool (shows 42).1, .bool (shows 42).2.1, .bool (shows 42).2.2.1, .bool (shows 42).2.2.2]) (results_b4 rfl rfl ((heap_alloc_old _ _ (by simp)).trans (heap_new _ _))) rfl ⟨rfl, ((Below.refl _ _).alloc (Nat.le_refl _) _).alloc (by simp) _⟩
set_option maxHeartbeats 1000000 in
theorem shows_lo (op : Int) (h : op ≤ 0) (w : World) : Calls Tryz.prog 58 #[.int .i64 op] w (ShowsOut op w) := by
  have hb : beforeS op = [] := by unfold beforeS; rw [if_neg (by omega), if_neg (by omega), if_neg (by omega), if_neg (by omega), if_neg (by omega), if_neg (by omega)]
  have ha : hasA op = false := by unfold hasA; simp; omega
  have hv : shows op = (true, false, false, false) := by unfold shows withoutA; rw [hb, ha]; simp; omega
  have HV := Lib.hid hv
  clear hv
  have n2 : (op == 2) = false := by rw [beq_eq_false_iff_ne]; omega
  have n15 : (op == 15) = false := by rw [beq_eq_false_iff_ne]; omega
  have n16 : (op == 16) = false := by rw [beq_eq_false_iff_ne]; omega
  have n17 : (op == 17) = false := by rw [beq_eq_false_iff_ne]; omega
  have n19 : (op == 19) = false := by rw [beq_eq_false_iff_ne]; omega
  have n20 : (op == 20) = false := by rw [beq_eq_false_iff_ne]; omega
  have n22 : (op == 22) = false := by rw [beq_eq_false_iff_ne]; omega
  have n23 : (op == 23) = false := by rw [beq_eq_false_iff_ne]; omega
  have n24 : (op == 24) = false := by rw [beq_eq_false_iff_ne]; omega
  have n25 : (op == 25) = false := by rw [beq_eq_false_iff_ne]; omega
  have n28 : (op == 28) = false := by rw [beq_eq_false_iff_ne]; omega
  have n32 : (op == 32) = false := by rw [beq_eq_false_iff_ne]; omega
  have g1 : op < 33 := by omega
  have g2 : op < 5 := by omega
  clear h
  go_enter Tryz.func58, Tryz.ntmps58
  go_wp2_with (first | (go_at_call 98; refine (hasA_calls _ _).mono ?_; rintro e w' ⟨rfl, rfl⟩) | (go_at_call 99; refine (before_calls _ _).mono ?_; rintro e w' ⟨rfl, rfl⟩))
  refine bodyPost_ret (v := .agg #[.bool true, .bool false, .bool false, .bool false]) (results_b4 rfl rfl ((heap_alloc_old _ _ (by simp)).trans (heap_new _ _))) rfl ⟨by rw [HV.out], ((Below.refl _ _).alloc (Nat.le_refl _) _).alloc (by simp) _⟩
set_option maxHeartbeats 1000000 in
theorem shows_hi (op : Int) (h : 43 ≤ op) (w : World) : Calls Tryz.prog 58 #[.int .i64 op] w (ShowsOut op w) := by
  have hb : beforeS op = [] := by unfold beforeS; rw [if_neg (by omega), if_neg (by omega), if_neg (by omega), if_neg (by omega), if_neg (by omega), if_neg (by omega)]
  have ha : hasA op = false := by unfold hasA; simp; omega
  have hv : shows op = (false, false, false, false) := by unfold shows withoutA; rw [hb, ha]; simp; omega
  have HV := Lib.hid hv
  clear hv
  have n2 : (op == 2) = false := by rw [beq_eq_false_iff_ne]; omega
  have n15 : (op == 15) = false := by rw [beq_eq_false_iff_ne]; omega
  have n16 : (op == 16) = false := by rw [beq_eq_false_iff_ne]; omega
  have n17 : (op == 17) = false := by rw [beq_eq_false_iff_ne]; omega
  have n19 : (op == 19) = false := by rw [beq_eq_false_iff_ne]; omega
  have n20 : (op == 20) = false := by rw [beq_eq_false_iff_ne]; omega
  have n22 : (op == 22) = false := by rw [beq_eq_false_iff_ne]; omega
  have n23 : (op == 23) = false := by rw [beq_eq_false_iff_ne]; omega
  have n24 : (op == 24) = false := by rw [beq_eq_false_iff_ne]; omega
  have n25 : (op == 25) = false := by rw [beq_eq_false_iff_ne]; omega
  have n28 : (op == 28) = false := by rw [beq_eq_false_iff_ne]; omega
  have n32 : (op == 32) = false := by rw [beq_eq_false_iff_ne]; omega
  have g1 : 33 ≤ op := by omega
  have g2 : 5 ≤ op := by omega
  have g3 : decide (op ≤ 14) = false := by simp; omega
  clear h
  go_enter Tryz.func58, Tryz.ntmps58
  go_wp2_with (first | (go_at_call 98; refine (hasA_calls _ _).mono ?_; rintro e w' ⟨rfl, rfl⟩) | (go_at_call 99; refine (before_calls _ _).mono ?_; rintro e w' ⟨rfl, rfl⟩))
  refine bodyPost_ret (v := .agg #[.bool false, .bool false, .bool false, .bool false]) (results_b4 rfl rfl ((heap_alloc_old _ _ (by simp)).trans (heap_new _ _))) rfl ⟨by rw [HV.out], ((Below.refl _ _).alloc (Nat.le_refl _) _).alloc (by simp) _⟩
theorem shows_calls (op : Int) (w : World) : Calls Tryz.prog 58 #[.int .i64 op] w (ShowsOut op w) := by
  by_cases h0 : op ≤ 0
  · exact shows_lo op h0 w
  by_cases h1 : 43 ≤ op
  · exact shows_hi op h1 w
  have h : op = 1 ∨ op = 2 ∨ op = 3 ∨ op = 4 ∨ op = 5 ∨ op = 6 ∨ op = 7 ∨ op = 8 ∨ op = 9 ∨ op = 10 ∨ op = 11 ∨ op = 12 ∨ op = 13 ∨ op = 14 ∨ op = 15 ∨ op = 16 ∨ op = 17 ∨ op = 18 ∨ op = 19 ∨ op = 20 ∨ op = 21 ∨ op = 22 ∨ op = 23 ∨ op = 24 ∨ op = 25 ∨ op = 26 ∨ op = 27 ∨ op = 28 ∨ op = 29 ∨ op = 30 ∨ op = 31 ∨ op = 32 ∨ op = 33 ∨ op = 34 ∨ op = 35 ∨ op = 36 ∨ op = 37 ∨ op = 38 ∨ op = 39 ∨ op = 40 ∨ op = 41 ∨ op = 42 := by omega
  rcases h with rfl | rfl | rfl | rfl | rfl | rfl | rfl | rfl | rfl | rfl | rfl | rfl | rfl | rfl | rfl | rfl | rfl | rfl | rfl | rfl | rfl | rfl | rfl | rfl | rfl | rfl | rfl | rfl | rfl | rfl | rfl | rfl | rfl | rfl | rfl | rfl | rfl | rfl | rfl | rfl | rfl | rfl
  · exact shows_1 w
  · exact shows_2 w
  · exact shows_3 w
  · exact shows_4 w
  · exact shows_5 w
  · exact shows_6 w
  · exact shows_7 w
  · exact shows_8 w
  · exact shows_9 w
  · exact shows_10 w
  · exact shows_11 w
  · exact shows_12 w
  · exact shows_13 w
  · exact shows_14 w
  · exact shows_15 w
  · exact shows_16 w
  · exact shows_17 w
  · exact shows_18 w
  · exact shows_19 w
  · exact shows_20 w
  · exact shows_21 w
  · exact shows_22 w
  · exact shows_23 w
  · exact shows_24 w
  · exact shows_25 w
  · exact shows_26 w
  · exact shows_27 w
  · exact shows_28 w
  · exact shows_29 w
  · exact shows_30 w
  · exact shows_31 w
  · exact shows_32 w
  · exact shows_33 w
  · exact shows_34 w
  · exact shows_35 w
  · exact shows_36 w
  · exact shows_37 w
  · exact shows_38 w
  · exact shows_39 w
  · exact shows_40 w
  · exact shows_41 w
  · exact shows_42 w
end Go.Proofs.YtdkcdodkhghfhaaGreatDoor
