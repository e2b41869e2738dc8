/- The walk of lang.readLiteral. -/
import Derived.Test.YtdkcdodkhghfhaaGreatDoorL
import Derived.Test.YtdkcdodkhghfhaaGreatDoorWWords
namespace Go.Proofs.YtdkcdodkhghfhaaGreatDoor
open Go.RowKit Go.Proofs.YtdkcdodkhghfhaaGreatDoorW.PrintLast

theorem below_set16 (w : World) (a : Addr) (v : Value) (ha : 8 ≤ a.block) : Below 8 w (w.setCell a v) := (Below.refl 8 w).setCell ha v
theorem blk_set {w : World} {g : Nat} {t : TypeId} {cs : Array Value} (h : w.heap[g]? = some (.cells cs t (0, 0))) (i : Nat) (u : Value) : (w.setCell ⟨g, i, none⟩ u).heap[g]? = some (.cells (cs.setIfInBounds i u) t (0, 0)) := Go.Proofs.YtdkcdodkhghfhaaGreatDoorW.PrintWords.blk_set h i u
theorem LW.setCell {w : World} (h : LW w) {a : Addr} (ha : 8 ≤ a.block) (v : Value) : LW (w.setCell a v) := ⟨by obtain ⟨m, hm⟩ := h.m; exact ⟨m, ((below_set16 w a v ha).cell (p := ⟨0, 0, none⟩) (by show 0 < 8; omega)).trans hm⟩, var?_below' (below_set16 w a v ha) (by kernel_rfl) (by omega) h.pow, by obtain ⟨tp, p, hv⟩ := h.syn; exact ⟨tp, p, var?_below' (below_set16 w a v ha) (by kernel_rfl) (by omega) hv⟩, by obtain ⟨tp, p, hv⟩ := h.rng; exact ⟨tp, p, var?_below' (below_set16 w a v ha) (by kernel_rfl) (by omega) hv⟩, by have := h.big; simpa using this⟩

theorem atoi_ok (s : Str) (v : Int) (w : World) (hs : s.length < 100000000) (h : Lib.atoiAll s = .ok v) :
    Calls Tryz.prog 135 #[.string ⟨s.toArray⟩] w fun e w' => e = .returned (.tuple #[.int .i64 v, .nilIface]) ∧ Below w.heap.size w w' := by
  refine (Tryz.strconv_Atoi_ok ⟨s.toArray⟩ (by show s.length ≤ _; omega) v h w).mono ?_
  rintro e w' ⟨h1, h2 | ⟨t, h2⟩⟩
  · exact ⟨h1, by rw [h2]; exact Below.refl _ _⟩
  · refine ⟨h1, ?_⟩
    rw [h2]
    exact Go.Proofs.YtdkcdodkhghfhaaGreatDoorW.PrintWords.bytes_below (Below.refl _ _) (Nat.le_refl _) 5 t
/-- Is a string no whole number? -/
def numB (s : Str) : Bool := match Lib.atoiAll s with | .ok _ => true | _ => false
def notNum (s : Str) : Prop := numB s = false
theorem atoi_no (s : Str) (w : World) (L : LW w) (hs : s.length < 100000000) (h : notNum s) :
    Calls Tryz.prog 135 #[.string ⟨s.toArray⟩] w fun e w' => ∃ n t N, e = .returned (.tuple #[.int .i64 n, .iface t (.pointer (some ⟨N, 0, none⟩))]) ∧ Below w.heap.size w w' := by
  rcases hr : Lib.atoiAll s with n | _ | _
  · unfold notNum numB at h
    rw [hr] at h
    cases h
  · obtain ⟨tp, p, hv⟩ := L.syn
    refine (Any.strconv_Atoi_syntax_var Tryz.laysC172 ⟨s.toArray⟩ (by show s.length ≤ _; omega) hr tp p w hv).mono ?_
    rintro e w' ⟨N, h1, _, _, h2⟩
    exact ⟨_, _, N, h1, h2⟩
  · obtain ⟨tp, p, hv⟩ := L.rng
    refine (Tryz.strconv_Atoi_range_var ⟨s.toArray⟩ (by show s.length ≤ _; omega) hr tp p w hv).mono ?_
    rintro e w' ⟨N, h1, _, _, h2⟩
    exact ⟨_, _, N, h1, h2⟩

set_option maxHeartbeats 2000000 in
set_option maxRecDepth 100000 in
theorem readLit_nil (w : World) (L : LW w) :
    Calls Tryz.prog 119 #[.string ⟨#[110, 105, 108]⟩] w fun e w' => e = .returned (.tuple #[.agg #[.int .i64 1, .int .i64 0, .string ⟨#[]⟩], .bool ((litS ⟨1, 0, []⟩).2 && (litS ⟨1, 0, []⟩).1 == [110, 105, 108])]) ∧ Below w.heap.size w w' := by
  have HL := Lib.hid L
  clear L
  have hn : notNum [110, 105, 108] := by unfold notNum; decide
  have hs : ([110, 105, 108] : Str).length < 100000000 := by simp
  go_enter Tryz.func119, Tryz.ntmps119
  go_wp2_with fail
  refine (atoi_no [110, 105, 108] _ ((HL.out.alloc _).alloc _) hs hn).mono ?_
  rintro e w1 ⟨n0, t0, N0, rfl, hb1⟩
  have z1 := hb1.size
  simp at z1
  have b0 : w1.heap[w.heap.size]? = some (.cells #[.int .i64 0, .int .i64 0, .string ⟨#[]⟩] 38 (0, 0)) := by rw [hb1.block _ (by (try simp); omega), Below.heap_alloc _ _ _ (by simp)]; exact heap_new _ _
  have b1 : w1.heap[w.heap.size + 1]? = some (.cells #[.int .i64 0, .int .i64 0, .string ⟨#[]⟩] 38 (0, 0)) := by rw [hb1.block _ (by simp)]; exact heap_new' _ _ _ (by simp)
  have l1 := ((HL.out.alloc (.cells #[.int .i64 0, .int .i64 0, .string ⟨#[]⟩] 38)).alloc (.cells #[.int .i64 0, .int .i64 0, .string ⟨#[]⟩] 38)).below hb1
  have L1 := Lib.hid l1
  have B0 := Lib.hid b0
  have B1 := Lib.hid b1
  have c0 := cellB b1 0 rfl
  have c1 := cellB b1 1 rfl
  have c2 := cellB b1 2 rfl
  have f0 := frozenB b1 0
  have f1 := frozenB b1 1
  have f2 := frozenB b1 2
  clear b0 b1 l1
  go_wp2_with fail
  have lb := HL.out.big
  refine (literal_calls ⟨1, 0, []⟩ _ (L1.out.setCell (by (try simp); omega) _) ⟨by decide, by decide⟩ (by simp)).mono ?_
  rintro e w2 ⟨rfl, hb2⟩
  have hz2 := hb2.size
  try simp at hz2
  have B0' : w2.heap[w.heap.size]? = some (.cells #[.int .i64 0, .int .i64 0, .string ⟨#[]⟩] 38 (0, 0)) := by
    rw [hb2.block _ (by (try simp); omega), Below.heap_setCell _ _ _ _ (by simp)]; exact B0.out
  have B1' : w2.heap[w.heap.size + 1]? = some (.cells #[.int .i64 1, .int .i64 0, .string ⟨#[]⟩] 38 (0, 0)) := (hb2.block _ (by (try simp); omega)).trans (blk_set B1.out 0 _)
  have d0 := cellB B1' 0 rfl
  have d1 := cellB B1' 1 rfl
  have d2 := cellB B1' 2 rfl
  have r0 := cellB B0' 0 rfl
  have r1 := cellB B0' 1 rfl
  have r2 := cellB B0' 2 rfl
  have q0 := frozenB B0' 0
  have q1 := frozenB B0' 1
  have q2 := frozenB B0' 2
  have H1 : Below w.heap.size w _ := (((Below.refl _ w).alloc (Nat.le_refl _) _).alloc (by simp) _).trans (hb1.mono (by (try simp); omega))
  have H2 : Below w.heap.size w w2 := Below.trans (by repeat (first | exact H1 | refine Below.setCell ?_ (by simp) _)) (hb2.mono (by (try simp); omega))
  have H0 := Lib.hid B0'
  clear B0' B1' c0 c1 c2 f0 f1 f2
  cases hr : (litS ⟨1, 0, []⟩).2
  all_goals
    go_wp2_with fail
    refine bodyPost_ret (v := .tuple #[.agg #[.int .i64 1, .int .i64 0, .string ⟨#[]⟩], .bool _]) (by simp [results, Tryz.results119, go_sem, r0, r1, r2]; rfl) rfl ⟨by rw [hr]; rfl, ?_⟩
    repeat (first | exact H2 | refine Below.setCell ?_ (by simp) _)

set_option maxHeartbeats 2000000 in
set_option maxRecDepth 100000 in
theorem readLit_true (w : World) (L : LW w) :
    Calls Tryz.prog 119 #[.string ⟨#[116, 114, 117, 101]⟩] w fun e w' => e = .returned (.tuple #[.agg #[.int .i64 2, .int .i64 1, .string ⟨#[]⟩], .bool ((litS ⟨2, 1, []⟩).2 && (litS ⟨2, 1, []⟩).1 == [116, 114, 117, 101])]) ∧ Below w.heap.size w w' := by
  have HL := Lib.hid L
  clear L
  have hn : notNum [116, 114, 117, 101] := by unfold notNum; decide
  have hs : ([116, 114, 117, 101] : Str).length < 100000000 := by simp
  go_enter Tryz.func119, Tryz.ntmps119
  go_wp2_with fail
  refine (atoi_no [116, 114, 117, 101] _ ((HL.out.alloc _).alloc _) hs hn).mono ?_
  rintro e w1 ⟨n0, t0, N0, rfl, hb1⟩
  have z1 := hb1.size
  simp at z1
  have b0 : w1.heap[w.heap.size]? = some (.cells #[.int .i64 0, .int .i64 0, .string ⟨#[]⟩] 38 (0, 0)) := by rw [hb1.block _ (by (try simp); omega), Below.heap_alloc _ _ _ (by simp)]; exact heap_new _ _
  have b1 : w1.heap[w.heap.size + 1]? = some (.cells #[.int .i64 0, .int .i64 0, .string ⟨#[]⟩] 38 (0, 0)) := by rw [hb1.block _ (by simp)]; exact heap_new' _ _ _ (by simp)
  have l1 := ((HL.out.alloc (.cells #[.int .i64 0, .int .i64 0, .string ⟨#[]⟩] 38)).alloc (.cells #[.int .i64 0, .int .i64 0, .string ⟨#[]⟩] 38)).below hb1
  have L1 := Lib.hid l1
  have B0 := Lib.hid b0
  have B1 := Lib.hid b1
  have c0 := cellB b1 0 rfl
  have c1 := cellB b1 1 rfl
  have c2 := cellB b1 2 rfl
  have f0 := frozenB b1 0
  have f1 := frozenB b1 1
  have f2 := frozenB b1 2
  clear b0 b1 l1
  go_wp2_with fail
  have lb := HL.out.big
  refine (literal_calls ⟨2, 1, []⟩ _ (((L1.out.setCell (by (try simp); omega) _).setCell (by (try simp); omega) _).setCell (by (try simp); omega) _) ⟨by decide, by decide⟩ (by simp)).mono ?_
  rintro e w2 ⟨rfl, hb2⟩
  have hz2 := hb2.size
  try simp at hz2
  have B0' : w2.heap[w.heap.size]? = some (.cells #[.int .i64 0, .int .i64 0, .string ⟨#[]⟩] 38 (0, 0)) := by
    rw [hb2.block _ (by (try simp); omega), Below.heap_setCell _ _ _ _ (by simp), Below.heap_setCell _ _ _ _ (by simp), Below.heap_setCell _ _ _ _ (by simp)]; exact B0.out
  have B1' : w2.heap[w.heap.size + 1]? = some (.cells #[.int .i64 2, .int .i64 1, .string ⟨#[]⟩] 38 (0, 0)) := (hb2.block _ (by (try simp); omega)).trans (blk_set (blk_set (blk_set B1.out 0 _) 1 _) 2 _)
  have d0 := cellB B1' 0 rfl
  have d1 := cellB B1' 1 rfl
  have d2 := cellB B1' 2 rfl
  have r0 := cellB B0' 0 rfl
  have r1 := cellB B0' 1 rfl
  have r2 := cellB B0' 2 rfl
  have q0 := frozenB B0' 0
  have q1 := frozenB B0' 1
  have q2 := frozenB B0' 2
  have H1 : Below w.heap.size w _ := (((Below.refl _ w).alloc (Nat.le_refl _) _).alloc (by simp) _).trans (hb1.mono (by (try simp); omega))
  have H2 : Below w.heap.size w w2 := Below.trans (by repeat (first | exact H1 | refine Below.setCell ?_ (by simp) _)) (hb2.mono (by (try simp); omega))
  have H0 := Lib.hid B0'
  clear B0' B1' c0 c1 c2 f0 f1 f2
  cases hr : (litS ⟨2, 1, []⟩).2
  all_goals
    go_wp2_with fail
    refine bodyPost_ret (v := .tuple #[.agg #[.int .i64 2, .int .i64 1, .string ⟨#[]⟩], .bool _]) (by simp [results, Tryz.results119, go_sem, r0, r1, r2]; rfl) rfl ⟨by rw [hr]; rfl, ?_⟩
    repeat (first | exact H2 | refine Below.setCell ?_ (by simp) _)

set_option maxHeartbeats 2000000 in
set_option maxRecDepth 100000 in
theorem readLit_false (w : World) (L : LW w) :
    Calls Tryz.prog 119 #[.string ⟨#[102, 97, 108, 115, 101]⟩] w fun e w' => e = .returned (.tuple #[.agg #[.int .i64 2, .int .i64 0, .string ⟨#[]⟩], .bool ((litS ⟨2, 0, []⟩).2 && (litS ⟨2, 0, []⟩).1 == [102, 97, 108, 115, 101])]) ∧ Below w.heap.size w w' := by
  have HL := Lib.hid L
  clear L
  have hn : notNum [102, 97, 108, 115, 101] := by unfold notNum; decide
  have hs : ([102, 97, 108, 115, 101] : Str).length < 100000000 := by simp
  go_enter Tryz.func119, Tryz.ntmps119
  go_wp2_with fail
  refine (atoi_no [102, 97, 108, 115, 101] _ ((HL.out.alloc _).alloc _) hs hn).mono ?_
  rintro e w1 ⟨n0, t0, N0, rfl, hb1⟩
  have z1 := hb1.size
  simp at z1
  have b0 : w1.heap[w.heap.size]? = some (.cells #[.int .i64 0, .int .i64 0, .string ⟨#[]⟩] 38 (0, 0)) := by rw [hb1.block _ (by (try simp); omega), Below.heap_alloc _ _ _ (by simp)]; exact heap_new _ _
  have b1 : w1.heap[w.heap.size + 1]? = some (.cells #[.int .i64 0, .int .i64 0, .string ⟨#[]⟩] 38 (0, 0)) := by rw [hb1.block _ (by simp)]; exact heap_new' _ _ _ (by simp)
  have l1 := ((HL.out.alloc (.cells #[.int .i64 0, .int .i64 0, .string ⟨#[]⟩] 38)).alloc (.cells #[.int .i64 0, .int .i64 0, .string ⟨#[]⟩] 38)).below hb1
  have L1 := Lib.hid l1
  have B0 := Lib.hid b0
  have B1 := Lib.hid b1
  have c0 := cellB b1 0 rfl
  have c1 := cellB b1 1 rfl
  have c2 := cellB b1 2 rfl
  have f0 := frozenB b1 0
  have f1 := frozenB b1 1
  have f2 := frozenB b1 2
  clear b0 b1 l1
  go_wp2_with fail
  have lb := HL.out.big
  refine (literal_calls ⟨2, 0, []⟩ _ (L1.out.setCell (by (try simp); omega) _) ⟨by decide, by decide⟩ (by simp)).mono ?_
  rintro e w2 ⟨rfl, hb2⟩
  have hz2 := hb2.size
  try simp at hz2
  have B0' : w2.heap[w.heap.size]? = some (.cells #[.int .i64 0, .int .i64 0, .string ⟨#[]⟩] 38 (0, 0)) := by
    rw [hb2.block _ (by (try simp); omega), Below.heap_setCell _ _ _ _ (by simp)]; exact B0.out
  have B1' : w2.heap[w.heap.size + 1]? = some (.cells #[.int .i64 2, .int .i64 0, .string ⟨#[]⟩] 38 (0, 0)) := (hb2.block _ (by (try simp); omega)).trans (blk_set B1.out 0 _)
  have d0 := cellB B1' 0 rfl
  have d1 := cellB B1' 1 rfl
  have d2 := cellB B1' 2 rfl
  have r0 := cellB B0' 0 rfl
  have r1 := cellB B0' 1 rfl
  have r2 := cellB B0' 2 rfl
  have q0 := frozenB B0' 0
  have q1 := frozenB B0' 1
  have q2 := frozenB B0' 2
  have H1 : Below w.heap.size w _ := (((Below.refl _ w).alloc (Nat.le_refl _) _).alloc (by simp) _).trans (hb1.mono (by (try simp); omega))
  have H2 : Below w.heap.size w w2 := Below.trans (by repeat (first | exact H1 | refine Below.setCell ?_ (by simp) _)) (hb2.mono (by (try simp); omega))
  have H0 := Lib.hid B0'
  clear B0' B1' c0 c1 c2 f0 f1 f2
  cases hr : (litS ⟨2, 0, []⟩).2
  all_goals
    go_wp2_with fail
    refine bodyPost_ret (v := .tuple #[.agg #[.int .i64 2, .int .i64 0, .string ⟨#[]⟩], .bool _]) (by simp [results, Tryz.results119, go_sem, r0, r1, r2]; rfl) rfl ⟨by rw [hr]; rfl, ?_⟩
    repeat (first | exact H2 | refine Below.setCell ?_ (by simp) _)

set_option maxHeartbeats 2000000 in
set_option maxRecDepth 100000 in
theorem readLit_num (s : Str) (n : Int) (w : World) (L : LW w) (hs : s.length < 100000000) (hn : Lib.atoiAll s = .ok n) (hi : I64 n) (g1 : s ≠ [110, 105, 108]) (g2 : s ≠ [116, 114, 117, 101]) (g3 : s ≠ [102, 97, 108, 115, 101]) :
    Calls Tryz.prog 119 #[.string ⟨s.toArray⟩] w fun e w' => e = .returned (.tuple #[.agg #[.int .i64 3, .int .i64 n, .string ⟨#[]⟩], .bool ((litS ⟨3, n, []⟩).2 && (litS ⟨3, n, []⟩).1 == s)]) ∧ Below w.heap.size w w' := by
  have HL := Lib.hid L
  clear L
  have h1 : (s == [110, 105, 108]) = false := by simpa using g1
  have h2 : (s == [116, 114, 117, 101]) = false := by simpa using g2
  have h3 : (s == [102, 97, 108, 115, 101]) = false := by simpa using g3
  clear g1 g2 g3
  have HN := Lib.hid hn
  clear hn
  go_enter Tryz.func119, Tryz.ntmps119
  go_wp2_with fail
  refine (atoi_ok s n _ hs HN.out).mono ?_
  rintro e w1 ⟨rfl, hb1⟩
  have z1 := hb1.size
  simp at z1
  have b0 : w1.heap[w.heap.size]? = some (.cells #[.int .i64 0, .int .i64 0, .string ⟨#[]⟩] 38 (0, 0)) := by rw [hb1.block _ (by (try simp); omega), Below.heap_alloc _ _ _ (by simp)]; exact heap_new _ _
  have b1 : w1.heap[w.heap.size + 1]? = some (.cells #[.int .i64 0, .int .i64 0, .string ⟨#[]⟩] 38 (0, 0)) := by rw [hb1.block _ (by simp)]; exact heap_new' _ _ _ (by simp)
  have l1 := ((HL.out.alloc (.cells #[.int .i64 0, .int .i64 0, .string ⟨#[]⟩] 38)).alloc (.cells #[.int .i64 0, .int .i64 0, .string ⟨#[]⟩] 38)).below hb1
  have L1 := Lib.hid l1
  have B0 := Lib.hid b0
  have B1 := Lib.hid b1
  have c0 := cellB b1 0 rfl
  have c1 := cellB b1 1 rfl
  have c2 := cellB b1 2 rfl
  have f0 := frozenB b1 0
  have f1 := frozenB b1 1
  have f2 := frozenB b1 2
  clear b0 b1 l1
  go_wp2_with fail
  have lb := HL.out.big
  refine (literal_calls ⟨3, n, []⟩ _ (((L1.out.setCell (by (try simp); omega) _).setCell (by (try simp); omega) _).setCell (by (try simp); omega) _) hi (by simp)).mono ?_
  rintro e w2 ⟨rfl, hb2⟩
  have hz2 := hb2.size
  try simp at hz2
  have B0' : w2.heap[w.heap.size]? = some (.cells #[.int .i64 0, .int .i64 0, .string ⟨#[]⟩] 38 (0, 0)) := by
    rw [hb2.block _ (by (try simp); omega), Below.heap_setCell _ _ _ _ (by simp), Below.heap_setCell _ _ _ _ (by simp), Below.heap_setCell _ _ _ _ (by simp)]; exact B0.out
  have B1' : w2.heap[w.heap.size + 1]? = some (.cells #[.int .i64 3, .int .i64 n, .string ⟨#[]⟩] 38 (0, 0)) := (hb2.block _ (by (try simp); omega)).trans (blk_set (blk_set (blk_set B1.out 0 _) 1 _) 2 _)
  have d0 := cellB B1' 0 rfl
  have d1 := cellB B1' 1 rfl
  have d2 := cellB B1' 2 rfl
  have r0 := cellB B0' 0 rfl
  have r1 := cellB B0' 1 rfl
  have r2 := cellB B0' 2 rfl
  have q0 := frozenB B0' 0
  have q1 := frozenB B0' 1
  have q2 := frozenB B0' 2
  have H1 : Below w.heap.size w _ := (((Below.refl _ w).alloc (Nat.le_refl _) _).alloc (by simp) _).trans (hb1.mono (by (try simp); omega))
  have H2 : Below w.heap.size w w2 := Below.trans (by repeat (first | exact H1 | refine Below.setCell ?_ (by simp) _)) (hb2.mono (by (try simp); omega))
  have H0 := Lib.hid B0'
  clear B0' B1' c0 c1 c2 f0 f1 f2
  cases hr : (litS ⟨3, n, []⟩).2
  all_goals
    go_wp2_with fail
    refine bodyPost_ret (v := .tuple #[.agg #[.int .i64 3, .int .i64 n, .string ⟨#[]⟩], .bool _]) (by simp [results, Tryz.results119, go_sem, r0, r1, r2]; rfl) rfl ⟨by rw [hr]; rfl, ?_⟩
    repeat (first | exact H2 | refine Below.setCell ?_ (by simp) _)

set_option maxHeartbeats 2000000 in
set_option maxRecDepth 100000 in
theorem readLit_zero (s : Str) (w : World) (L : LW w) (hs : s.length < 100000000) (hn : notNum s) (hl : s.length ≤ 1) (g1 : s ≠ [110, 105, 108]) (g2 : s ≠ [116, 114, 117, 101]) (g3 : s ≠ [102, 97, 108, 115, 101]) :
    Calls Tryz.prog 119 #[.string ⟨s.toArray⟩] w fun e w' => e = .returned (.tuple #[.agg #[.int .i64 0, .int .i64 0, .string ⟨#[]⟩], .bool ((litS ⟨0, 0, []⟩).2 && (litS ⟨0, 0, []⟩).1 == s)]) ∧ Below w.heap.size w w' := by
  have HL := Lib.hid L
  clear L
  have h1 : (s == [110, 105, 108]) = false := by simpa using g1
  have h2 : (s == [116, 114, 117, 101]) = false := by simpa using g2
  have h3 : (s == [102, 97, 108, 115, 101]) = false := by simpa using g3
  clear g1 g2 g3
  have hl' : (s.length : Int) ≤ 1 := by omega
  have HN := Lib.hid hn
  clear hn
  go_enter Tryz.func119, Tryz.ntmps119
  go_wp2_with fail
  refine (atoi_no s _ ((HL.out.alloc _).alloc _) hs HN.out).mono ?_
  rintro e w1 ⟨n0, t0, N0, rfl, hb1⟩
  have z1 := hb1.size
  simp at z1
  have b0 : w1.heap[w.heap.size]? = some (.cells #[.int .i64 0, .int .i64 0, .string ⟨#[]⟩] 38 (0, 0)) := by rw [hb1.block _ (by (try simp); omega), Below.heap_alloc _ _ _ (by simp)]; exact heap_new _ _
  have b1 : w1.heap[w.heap.size + 1]? = some (.cells #[.int .i64 0, .int .i64 0, .string ⟨#[]⟩] 38 (0, 0)) := by rw [hb1.block _ (by simp)]; exact heap_new' _ _ _ (by simp)
  have l1 := ((HL.out.alloc (.cells #[.int .i64 0, .int .i64 0, .string ⟨#[]⟩] 38)).alloc (.cells #[.int .i64 0, .int .i64 0, .string ⟨#[]⟩] 38)).below hb1
  have L1 := Lib.hid l1
  have B0 := Lib.hid b0
  have B1 := Lib.hid b1
  have c0 := cellB b1 0 rfl
  have c1 := cellB b1 1 rfl
  have c2 := cellB b1 2 rfl
  have f0 := frozenB b1 0
  have f1 := frozenB b1 1
  have f2 := frozenB b1 2
  clear b0 b1 l1
  go_wp2_with fail
  have lb := HL.out.big
  refine (literal_calls ⟨0, 0, []⟩ _ L1.out ⟨by decide, by decide⟩ (by simp)).mono ?_
  rintro e w2 ⟨rfl, hb2⟩
  have hz2 := hb2.size
  try simp at hz2
  have B0' : w2.heap[w.heap.size]? = some (.cells #[.int .i64 0, .int .i64 0, .string ⟨#[]⟩] 38 (0, 0)) := by
    rw [hb2.block _ (by (try simp); omega)]; exact B0.out
  have B1' : w2.heap[w.heap.size + 1]? = some (.cells #[.int .i64 0, .int .i64 0, .string ⟨#[]⟩] 38 (0, 0)) := (hb2.block _ (by (try simp); omega)).trans B1.out
  have d0 := cellB B1' 0 rfl
  have d1 := cellB B1' 1 rfl
  have d2 := cellB B1' 2 rfl
  have r0 := cellB B0' 0 rfl
  have r1 := cellB B0' 1 rfl
  have r2 := cellB B0' 2 rfl
  have q0 := frozenB B0' 0
  have q1 := frozenB B0' 1
  have q2 := frozenB B0' 2
  have H1 : Below w.heap.size w _ := (((Below.refl _ w).alloc (Nat.le_refl _) _).alloc (by simp) _).trans (hb1.mono (by (try simp); omega))
  have H2 : Below w.heap.size w w2 := Below.trans (by repeat (first | exact H1 | refine Below.setCell ?_ (by simp) _)) (hb2.mono (by (try simp); omega))
  have H0 := Lib.hid B0'
  clear B0' B1' c0 c1 c2 f0 f1 f2
  cases hr : (litS ⟨0, 0, []⟩).2
  all_goals
    go_wp2_with fail
    refine bodyPost_ret (v := .tuple #[.agg #[.int .i64 0, .int .i64 0, .string ⟨#[]⟩], .bool _]) (by simp [results, Tryz.results119, go_sem, r0, r1, r2]; rfl) rfl ⟨by rw [hr]; rfl, ?_⟩
    repeat (first | exact H2 | refine Below.setCell ?_ (by simp) _)

set_option maxHeartbeats 2000000 in
set_option maxRecDepth 100000 in
theorem readLit_str (s R : Str) (hR : Lib.replaceAll ((s.take (s.length - 1)).drop 1) [39, 39] [39] = R) (hRl : R.length < 100000000) (w : World) (L : LW w) (hs : s.length < 100000000) (hn : notNum s) (hl : 1 < s.length) (g1 : s ≠ [110, 105, 108]) (g2 : s ≠ [116, 114, 117, 101]) (g3 : s ≠ [102, 97, 108, 115, 101]) :
    Calls Tryz.prog 119 #[.string ⟨s.toArray⟩] w fun e w' => e = .returned (.tuple #[.agg #[.int .i64 4, .int .i64 0, .string ⟨R.toArray⟩], .bool ((litS ⟨4, 0, R⟩).2 && (litS ⟨4, 0, R⟩).1 == s)]) ∧ Below w.heap.size w w' := by
  have HL := Lib.hid L
  clear L
  have h1 : (s == [110, 105, 108]) = false := by simpa using g1
  have h2 : (s == [116, 114, 117, 101]) = false := by simpa using g2
  have h3 : (s == [102, 97, 108, 115, 101]) = false := by simpa using g3
  clear g1 g2 g3
  have HR := Lib.hid hR
  clear hR
  have hl' : (1 : Int) < (s.length : Int) := by omega
  have hk : ((s.length : Int) - 1).toNat = s.length - 1 := by omega
  have HN := Lib.hid hn
  clear hn
  have hi : ((s.take (s.length - 1)).drop 1).length < 100000000 := by simp; omega
  go_enter Tryz.func119, Tryz.ntmps119
  go_wp2_with fail
  refine (atoi_no s _ ((HL.out.alloc _).alloc _) hs HN.out).mono ?_
  rintro e w1 ⟨n0, t0, N0, rfl, hb1⟩
  have z1 := hb1.size
  simp at z1
  have b0 : w1.heap[w.heap.size]? = some (.cells #[.int .i64 0, .int .i64 0, .string ⟨#[]⟩] 38 (0, 0)) := by rw [hb1.block _ (by (try simp); omega), Below.heap_alloc _ _ _ (by simp)]; exact heap_new _ _
  have b1 : w1.heap[w.heap.size + 1]? = some (.cells #[.int .i64 0, .int .i64 0, .string ⟨#[]⟩] 38 (0, 0)) := by rw [hb1.block _ (by simp)]; exact heap_new' _ _ _ (by simp)
  have l1 := ((HL.out.alloc (.cells #[.int .i64 0, .int .i64 0, .string ⟨#[]⟩] 38)).alloc (.cells #[.int .i64 0, .int .i64 0, .string ⟨#[]⟩] 38)).below hb1
  have L1 := Lib.hid l1
  go_wp2_with fail
  rw [ext_list]
  refine (replaceAll_calls _ [39, 39] [39] _ l1 hi (by simp) (by simp)).mono ?_
  rw [HR.out]
  rintro e w9 ⟨rfl, hb9⟩
  replace b0 := (hb9.block _ (sizeB b0)).trans b0
  replace b1 := (hb9.block _ (sizeB b1)).trans b1
  replace l1 := l1.below hb9
  replace hb1 := Below.trans hb1 (hb9.mono hb1.size)
  replace z1 := Nat.le_trans z1 hb9.size
  replace L1 := Lib.hid l1
  have B0 := Lib.hid b0
  have B1 := Lib.hid b1
  have c0 := cellB b1 0 rfl
  have c1 := cellB b1 1 rfl
  have c2 := cellB b1 2 rfl
  have f0 := frozenB b1 0
  have f1 := frozenB b1 1
  have f2 := frozenB b1 2
  clear b0 b1 l1
  go_wp2_with fail
  have lb := HL.out.big
  refine (literal_calls ⟨4, 0, R⟩ _ (((L1.out.setCell (by (try simp); omega) _).setCell (by (try simp); omega) _).setCell (by (try simp); omega) _) ⟨by show (-9223372036854775808 : Int) ≤ 0; omega, by show (0 : Int) ≤ _; omega⟩ hRl).mono ?_
  rintro e w2 ⟨rfl, hb2⟩
  have hz2 := hb2.size
  try simp at hz2
  have B0' : w2.heap[w.heap.size]? = some (.cells #[.int .i64 0, .int .i64 0, .string ⟨#[]⟩] 38 (0, 0)) := by
    rw [hb2.block _ (by (try simp); omega), Below.heap_setCell _ _ _ _ (by simp), Below.heap_setCell _ _ _ _ (by simp), Below.heap_setCell _ _ _ _ (by simp)]; exact B0.out
  have B1' : w2.heap[w.heap.size + 1]? = some (.cells #[.int .i64 4, .int .i64 0, .string ⟨R.toArray⟩] 38 (0, 0)) := (hb2.block _ (by (try simp); omega)).trans (blk_set (blk_set (blk_set B1.out 0 _) 1 _) 2 _)
  have d0 := cellB B1' 0 rfl
  have d1 := cellB B1' 1 rfl
  have d2 := cellB B1' 2 rfl
  have r0 := cellB B0' 0 rfl
  have r1 := cellB B0' 1 rfl
  have r2 := cellB B0' 2 rfl
  have q0 := frozenB B0' 0
  have q1 := frozenB B0' 1
  have q2 := frozenB B0' 2
  have H1 : Below w.heap.size w _ := (((Below.refl _ w).alloc (Nat.le_refl _) _).alloc (by simp) _).trans (hb1.mono (by (try simp); omega))
  have H2 : Below w.heap.size w w2 := Below.trans (by repeat (first | exact H1 | refine Below.setCell ?_ (by simp) _)) (hb2.mono (by (try simp); omega))
  have H0 := Lib.hid B0'
  clear B0' B1' c0 c1 c2 f0 f1 f2
  cases hr : (litS ⟨4, 0, R⟩).2
  all_goals
    go_wp2_with fail
    refine bodyPost_ret (v := .tuple #[.agg #[.int .i64 4, .int .i64 0, .string ⟨R.toArray⟩], .bool _]) (by simp [results, Tryz.results119, go_sem, r0, r1, r2]; rfl) rfl ⟨by rw [hr]; rfl, ?_⟩
    repeat (first | exact H2 | refine Below.setCell ?_ (by simp) _)
end Go.Proofs.YtdkcdodkhghfhaaGreatDoor
