/- The walk of lang.ReadLine. -/
import Derived.Test.YtdkcdodkhghfhaaGreatDoorRL
namespace Go.Proofs.YtdkcdodkhghfhaaGreatDoor
open Go.RowKit Go.Proofs.YtdkcdodkhghfhaaGreatDoorW.PrintLast Go.Proofs.YtdkcdodkhghfhaaGreatDoorW.PrintWords

/-- What ReadLine may return for a text. -/
def RL8 (s : Str) (r : Option Ln) : Prop := ∃ r0, RL s r0 ∧ r = r0.bind fun l => if l.args.length ≤ 8 then some l else none

theorem readLine_calls' (s : Str) (w : World) (L : LW w) (hs : s.length < 40000000) :
    Calls Tryz.prog 52 #[.string ⟨s.toArray⟩] w fun e w' => Below w.heap.size w w' ∧
      ∃ (r : Option Ln) (l : Ln) (A : Option Addr) (cp : Nat), RL s r ∧ l = r.getD (Ln.zero 0) ∧ e = .returned (.tuple #[.agg #[.int .i64 l.op, .string ⟨(l.a).toArray⟩, .string ⟨(l.b).toArray⟩, .string ⟨(l.c).toArray⟩, .string ⟨(l.nm).toArray⟩, .slice A l.args.length cp, .int .i64 l.cv.k, .int .i64 l.cv.n, .string ⟨(l.cv.s).toArray⟩], .bool r.isSome]) ∧
        w'.ownsRow w.heap.size 9 1 (.slice A l.args.length cp) l.args.length (strs l.args) :=
  (readLine_calls s w L hs).mono fun _e _w' ⟨h1, r, A, cp, h2, h3, h4⟩ => ⟨h1, r, _, A, cp, h2, rfl, h3, h4⟩

set_option maxHeartbeats 4000000 in
set_option maxRecDepth 100000 in
theorem ReadLine_calls (s : Str) (w : World) (L : LW w) (hs : s.length < 40000000) :
    Calls Tryz.prog 19 #[.string ⟨s.toArray⟩] w fun e w' => Below w.heap.size w w' ∧
      ∃ (r : Option Ln) (l : Ln) (A : Option Addr) (cp : Nat), RL8 s r ∧ l = r.getD (Ln.zero 0) ∧ e = .returned (.tuple #[.agg #[.int .i64 l.op, .string ⟨(l.a).toArray⟩, .string ⟨(l.b).toArray⟩, .string ⟨(l.c).toArray⟩, .string ⟨(l.nm).toArray⟩, .slice A l.args.length cp, .int .i64 l.cv.k, .int .i64 l.cv.n, .string ⟨(l.cv.s).toArray⟩], .bool r.isSome]) ∧
        w'.ownsRow w.heap.size 9 1 (.slice A l.args.length cp) l.args.length (strs l.args) := by
  have HL := Lib.hid L
  clear L
  go_enter Tryz.func19, Tryz.ntmps19
  go_wp2_with fail
  refine (readLine_calls' s _ (HL.out.alloc _) hs).mono ?_
  rintro e w1 ⟨hb1, r, l, A, cp, hr, hl, rfl, hown⟩
  have k0 : w1.heap[w.heap.size]? = some (.cells ((Ln.zero 0).cells (.slice none 0 0)) 40 (0, 0)) := (hb1.block _ (by simp)).trans (heap_new _ _)
  have HB := Lib.hid (((Below.refl _ w).alloc (Nat.le_refl _) _).trans (hb1.mono (by simp)) : Below w.heap.size w w1)
  have hz4 : w.heap.size < w1.heap.size := sizeB k0
  have n4 : ¬ w.heap.size = w1.heap.size := by omega
  have HO := Lib.hid (own_lower hown (by simp) : w1.ownsRow w.heap.size 9 1 (.slice A l.args.length cp) l.args.length (strs l.args))
  have HLD := Lib.hid hl
  have HR := Lib.hid hr
  clear hb1 hown hl hr
  have r0 : w1.cell? ⟨w.heap.size, 0, none⟩ = some (.int .i64 0) := cellB k0 0 rfl
  have q0 := frozenB k0 0
  have r1 : w1.cell? ⟨w.heap.size, 1, none⟩ = some (.string ⟨#[]⟩) := cellB k0 1 rfl
  have q1 := frozenB k0 1
  have r2 : w1.cell? ⟨w.heap.size, 2, none⟩ = some (.string ⟨#[]⟩) := cellB k0 2 rfl
  have q2 := frozenB k0 2
  have r3 : w1.cell? ⟨w.heap.size, 3, none⟩ = some (.string ⟨#[]⟩) := cellB k0 3 rfl
  have q3 := frozenB k0 3
  have r4 : w1.cell? ⟨w.heap.size, 4, none⟩ = some (.string ⟨#[]⟩) := cellB k0 4 rfl
  have q4 := frozenB k0 4
  have r5 : w1.cell? ⟨w.heap.size, 5, none⟩ = some (.slice none 0 0) := cellB k0 5 rfl
  have q5 := frozenB k0 5
  have r6 : w1.cell? ⟨w.heap.size, 6, none⟩ = some (.int .i64 0) := cellB k0 6 rfl
  have q6 := frozenB k0 6
  have r7 : w1.cell? ⟨w.heap.size, 7, none⟩ = some (.int .i64 0) := cellB k0 7 rfl
  have q7 := frozenB k0 7
  have r8 : w1.cell? ⟨w.heap.size, 8, none⟩ = some (.string ⟨#[]⟩) := cellB k0 8 rfl
  have q8 := frozenB k0 8
  have K0 := Lib.hid k0
  clear k0
  cases r with
  | none =>
    go_wp2_with fail
    refine bodyPost_ret (v := .tuple #[.agg #[.int .i64 0, .string ⟨#[]⟩, .string ⟨#[]⟩, .string ⟨#[]⟩, .string ⟨#[]⟩, .slice none 0 0, .int .i64 0, .int .i64 0, .string ⟨#[]⟩], .bool false]) (results_line rfl rfl rfl ((Below.heap_alloc _ _ _ (by simpa using hz4)).trans (blk_put9 K0.out)) (by simp [Value.oneCell'])) rfl ⟨(below_put9 HB.out (Nat.le_refl _)).alloc (by simp; omega) _, none, Ln.zero 0, none, 0, ⟨none, HR.out, rfl⟩, rfl, rfl, own_nil _ _ _ _⟩
  | some l0 =>
    by_cases h8 : l.args.length ≤ 8
    · have h8' : (l.args.length : Int) ≤ 8 := by omega
      have HR8 := Lib.hid (⟨some l0, HR.out, by rw [HLD.out] at h8; simp at h8; simp [h8]⟩ : RL8 s (some l0))
      clear h8
      go_wp2_with fail
      refine bodyPost_ret (v := .tuple #[.agg #[.int .i64 l.op, .string ⟨(l.a).toArray⟩, .string ⟨(l.b).toArray⟩, .string ⟨(l.c).toArray⟩, .string ⟨(l.nm).toArray⟩, .slice A l.args.length cp, .int .i64 l.cv.k, .int .i64 l.cv.n, .string ⟨(l.cv.s).toArray⟩], .bool true]) (results_line rfl rfl rfl ((Below.heap_alloc _ _ _ (by simpa using hz4)).trans (blk_put9 K0.out)) (by simp [Value.oneCell'])) rfl ⟨(below_put9 HB.out (Nat.le_refl _)).alloc (by simp; omega) _, some l0, l, A, cp, HR8.out, HLD.out, rfl, (own_put9 HO.out (own_ne HO.out K0.out (by decide))).alloc _⟩
    · have h8' : (8 : Int) < (l.args.length : Int) := by omega
      have HR8 := Lib.hid (⟨some l0, HR.out, by rw [HLD.out] at h8; simp at h8; simp; omega⟩ : RL8 s none)
      clear h8
      go_wp2_with fail
      refine bodyPost_ret (v := .tuple #[.agg #[.int .i64 0, .string ⟨#[]⟩, .string ⟨#[]⟩, .string ⟨#[]⟩, .string ⟨#[]⟩, .slice none 0 0, .int .i64 0, .int .i64 0, .string ⟨#[]⟩], .bool false]) (results_line rfl rfl rfl ((Below.heap_alloc _ _ _ (by simpa using hz4)).trans (blk_put9 K0.out)) (by simp [Value.oneCell'])) rfl ⟨(below_put9 HB.out (Nat.le_refl _)).alloc (by simp; omega) _, none, Ln.zero 0, none, 0, HR8.out, rfl, rfl, own_nil _ _ _ _⟩
end Go.Proofs.YtdkcdodkhghfhaaGreatDoor
