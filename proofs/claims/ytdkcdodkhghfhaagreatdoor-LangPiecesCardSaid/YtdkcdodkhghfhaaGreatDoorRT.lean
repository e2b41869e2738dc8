/- The reference: lists of strings, and lines, compared. -/
import Derived.Test.YtdkcdodkhghfhaaGreatDoorRM
import Derived.Test.YtdkcdodkhghfhaaGreatDoorAP
namespace Go.Proofs.YtdkcdodkhghfhaaGreatDoor
open Go.RowKit Go.Proofs.YtdkcdodkhghfhaaGreatDoorW.PrintWords

theorem take_ne {l m : List Str} {k : Nat} (h : k < l.length) (h' : k < m.length) (hne : l[k] ≠ m[k]) : (l == m) = false := by
  have : ¬ l = m := fun e => by subst e; exact hne rfl
  simpa using this
theorem take_eq {l m : List Str} {k : Nat} (h : k < l.length) (h' : k < m.length) (ht : l.take k = m.take k) (he : l[k] = m[k]) : l.take (k + 1) = m.take (k + 1) := by
  rw [List.take_succ_eq_append_getElem h, List.take_succ_eq_append_getElem h', ht, he]
set_option maxHeartbeats 1000000 in
theorem strings_calls (l m : List Str) (A B : Option Addr) (cp cq : Nat) (w : World) (hA : RdB w 9 A (strs l)) (hB : RdB w 9 B (strs m)) (hl : l.length ≤ 1000000000000) (hm : m.length ≤ 1000000000000) :
    Calls Tryz.prog 57 #[.slice A l.length cp, .slice B m.length cq] w fun e w' => e = .returned (.bool (l == m)) ∧ Below w.heap.size w w' := by
  have HA := Lib.hid hA
  have HB := Lib.hid hB
  clear hA hB
  go_enter Tryz.func57, Tryz.ntmps57
  by_cases hlen : l.length = m.length
  · have HL := Lib.hid hlen
    rw [← hlen]
    clear hlen
    go_wp2_with fail
    go_loopw [5] (fun i wr => ∃ k : Nat, k ≤ l.length ∧ i = .int .i64 k ∧ l.take k = m.take k ∧ Below w.heap.size w wr) (fun i _ => l.length - (intOf i).toNat)
    case atStart => exact ⟨0, Nat.zero_le _, rfl, rfl, Below.refl _ _⟩
    case round =>
      obtain ⟨k, hk, rfl, ht, hb⟩ := hrel
      have HT := Lib.hid ht
      have BB := Lib.hid hb
      clear ht hb
      by_cases hlt : k < l.length
      · have hlt' : k < m.length := by rw [← HL.out]; exact hlt
        obtain ⟨g, off, rfl, hc⟩ := rd_at (HA.out.below BB.out) hlt
        obtain ⟨g', off', rfl, hc'⟩ := rd_at (HB.out.below BB.out) hlt'
        by_cases hx : l[k] = m[k]
        · have HN := Lib.hid (take_eq hlt hlt' HT.out hx)
          rw [← hx] at hc'
          clear hlt' hx
          generalize l[k] = x at *
          go_wp2_with fail
          go_quiet (fail)
          go_wp2_with fail
          refine ⟨⟨k + 1, hlt, rfl, HN.out, ?_⟩, by simp [intOf]; omega⟩
          exact BB.out.trans ⟨rfl, rfl, rfl, Nat.le_refl _, fun _ _ => rfl⟩
        · have HN := Lib.hid (take_ne hlt hlt' hx)
          generalize l[k] = x at *
          generalize m[k] = y at *
          have hx1 : (x == y) = false := by simpa using hx
          clear hlt'
          go_wp2_with fail
          go_quiet (fail)
          go_wp2_with fail
          go_ret
          exact ⟨ret_bool HN.out.symm, BB.out.trans ⟨rfl, rfl, rfl, Nat.le_refl _, fun _ _ => rfl⟩⟩
      · go_wp2_with fail
        go_ret
        have h1 := HT.out
        rw [List.take_of_length_le (by omega), List.take_of_length_le (by rw [← HL.out]; omega)] at h1
        exact ⟨ret_bool (by rw [h1]; simp), BB.out⟩
  · have hne : ¬ (l.length : Int) = (m.length : Int) := by omega
    have hf : (l == m) = false := by
      have : ¬ l = m := fun e => hlen (by rw [e])
      simpa using this
    have HF := Lib.hid hf
    clear hf
    go_wp2_with fail
    go_ret
    exact ⟨ret_bool HF.out.symm, Below.refl _ _⟩
/-- Are two lines the same? -/
def sameL (a b : Ln) : Bool := (a.args == b.args) && decide (a.op = b.op) && decide (a.a = b.a) && decide (a.b = b.b) && decide (a.c = b.c) && decide (a.nm = b.nm) && (decide (a.cv.k = b.cv.k) && decide (a.cv.n = b.cv.n) && decide (a.cv.s = b.cv.s))
theorem sameL_iff (a b : Ln) : sameL a b = true ↔ a = b := by
  obtain ⟨o, a1, a2, a3, a4, a5, k, n, s⟩ := a
  obtain ⟨o', b1, b2, b3, b4, b5, k', n', s'⟩ := b
  simp [sameL]
  constructor
  · rintro ⟨⟨⟨⟨⟨⟨rfl, rfl⟩, rfl⟩, rfl⟩, rfl⟩, rfl⟩, ⟨rfl, rfl⟩, rfl⟩
    simp
  · rintro ⟨rfl, rfl, rfl, rfl, rfl, rfl, rfl, rfl, rfl⟩
    simp
set_option maxHeartbeats 4000000 in
set_option maxRecDepth 100000 in
theorem sameLine_calls (a b : Ln) (A B : Option Addr) (cp cq : Nat) (w : World) (hA : RdB w 9 A (strs a.args)) (hB : RdB w 9 B (strs b.args)) (hl : a.args.length ≤ 1000000000000) (hm : b.args.length ≤ 1000000000000) :
    Calls Tryz.prog 21 #[.agg (a.cells (.slice A a.args.length cp)), .agg (b.cells (.slice B b.args.length cq))] w fun e w' => e = .returned (.bool (sameL a b)) ∧ Below w.heap.size w w' := by
  have HA := Lib.hid hA
  have HB := Lib.hid hB
  clear hA hB
  go_enter Tryz.func21, Tryz.ntmps21
  unfold Ln.cells
  unfold sv
  go_wp2_with fail
  have hbw : Below w.heap.size w ((w.alloc (.cells #[.int .i64 a.op, .string ⟨a.a.toArray⟩, .string ⟨a.b.toArray⟩, .string ⟨a.c.toArray⟩, .string ⟨a.nm.toArray⟩, .slice A a.args.length cp, .int .i64 a.cv.k, .int .i64 a.cv.n, .string ⟨a.cv.s.toArray⟩] 40)).alloc (.cells #[.int .i64 b.op, .string ⟨b.a.toArray⟩, .string ⟨b.b.toArray⟩, .string ⟨b.c.toArray⟩, .string ⟨b.nm.toArray⟩, .slice B b.args.length cq, .int .i64 b.cv.k, .int .i64 b.cv.n, .string ⟨b.cv.s.toArray⟩] 40)) := ((Below.refl _ _).alloc (Nat.le_refl _) _).alloc (by simp) _
  refine (strings_calls a.args b.args A B cp cq _ (HA.out.below hbw) (HB.out.below hbw) hl hm).mono ?_
  rintro e w1 ⟨rfl, hb⟩
  have h1 : (w.alloc (.cells #[.int .i64 a.op, .string ⟨a.a.toArray⟩, .string ⟨a.b.toArray⟩, .string ⟨a.c.toArray⟩, .string ⟨a.nm.toArray⟩, .slice A a.args.length cp, .int .i64 a.cv.k, .int .i64 a.cv.n, .string ⟨a.cv.s.toArray⟩] 40)).heap[w.heap.size]? = some (.cells #[.int .i64 a.op, .string ⟨a.a.toArray⟩, .string ⟨a.b.toArray⟩, .string ⟨a.c.toArray⟩, .string ⟨a.nm.toArray⟩, .slice A a.args.length cp, .int .i64 a.cv.k, .int .i64 a.cv.n, .string ⟨a.cv.s.toArray⟩] 40 (0, 0)) := heap_new _ _
  have ra : w1.heap[w.heap.size]? = some (.cells #[.int .i64 a.op, .string ⟨a.a.toArray⟩, .string ⟨a.b.toArray⟩, .string ⟨a.c.toArray⟩, .string ⟨a.nm.toArray⟩, .slice A a.args.length cp, .int .i64 a.cv.k, .int .i64 a.cv.n, .string ⟨a.cv.s.toArray⟩] 40 (0, 0)) := (hb.block _ (by simp; omega)).trans ((((Below.refl _ _).alloc (Nat.le_refl _) _).block _ (sizeB h1)).trans h1)
  have rb : w1.heap[w.heap.size + 1]? = some (.cells #[.int .i64 b.op, .string ⟨b.a.toArray⟩, .string ⟨b.b.toArray⟩, .string ⟨b.c.toArray⟩, .string ⟨b.nm.toArray⟩, .slice B b.args.length cq, .int .i64 b.cv.k, .int .i64 b.cv.n, .string ⟨b.cv.s.toArray⟩] 40 (0, 0)) := (hb.block _ (by simp)).trans (heap_new' _ _ _ (by simp))
  have BB := Lib.hid (hbw.trans (hb.mono (by simp; omega)))
  clear hb hbw h1
  have a0 := cellB ra 0 rfl
  have b0 := cellB rb 0 rfl
  have a1 := cellB ra 1 rfl
  have b1 := cellB rb 1 rfl
  have a2 := cellB ra 2 rfl
  have b2 := cellB rb 2 rfl
  have a3 := cellB ra 3 rfl
  have b3 := cellB rb 3 rfl
  have a4 := cellB ra 4 rfl
  have b4 := cellB rb 4 rfl
  have a5 := cellB ra 5 rfl
  have b5 := cellB rb 5 rfl
  have a6 := cellB ra 6 rfl
  have b6 := cellB rb 6 rfl
  have a7 := cellB ra 7 rfl
  have b7 := cellB rb 7 rfl
  have a8 := cellB ra 8 rfl
  have b8 := cellB rb 8 rfl
  clear ra rb
  have HE : Hid (sameL a b = ((a.args == b.args) && decide (a.op = b.op) && decide (a.a = b.a) && decide (a.b = b.b) && decide (a.c = b.c) && decide (a.nm = b.nm) && (decide (a.cv.k = b.cv.k) && decide (a.cv.n = b.cv.n) && decide (a.cv.s = b.cv.s)))) := Lib.hid rfl
  generalize (a.args == b.args) = q0 at *
  generalize a.op = x0 at *
  generalize b.op = y0 at *
  generalize a.a = x1 at *
  generalize b.a = y1 at *
  generalize a.b = x2 at *
  generalize b.b = y2 at *
  generalize a.c = x3 at *
  generalize b.c = y3 at *
  generalize a.nm = x4 at *
  generalize b.nm = y4 at *
  generalize a.cv.k = x5 at *
  generalize b.cv.k = y5 at *
  generalize a.cv.n = x6 at *
  generalize b.cv.n = y6 at *
  generalize a.cv.s = x7 at *
  generalize b.cv.s = y7 at *
  cases q0 <;> go_wp2_with fail
  all_goals (go_ret; refine ⟨ret_bool ?_, BB.out⟩; rw [HE.out]; first | rfl | simp [*] | simp_all)
end Go.Proofs.YtdkcdodkhghfhaaGreatDoor
