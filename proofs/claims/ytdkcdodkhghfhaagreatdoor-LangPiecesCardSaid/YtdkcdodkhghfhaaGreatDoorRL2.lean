import Derived.Test.YtdkcdodkhghfhaaGreatDoorM1
import Derived.Maps.RangeWalk
import Derived.Maps.StringElems
/- The walks of lang.readLine and lang.ReadLine. -/
namespace Go.Proofs.YtdkcdodkhghfhaaGreatDoor
open Go.RowKit Go.Proofs.YtdkcdodkhghfhaaGreatDoorW.PrintLast Go.Proofs.YtdkcdodkhghfhaaGreatDoorW.PrintWords Go.Maps

/-- What readLine may return for a text: a line that one of the forms reads; none, if there is none. -/
def RL (s : Str) (r : Option Ln) : Prop :=
  (∃ p ∈ formsL, ∃ l, matchF p.2 (Ln.zero p.1) s = some l ∧ r = some l) ∨ ((∀ p ∈ formsL, matchF p.2 (Ln.zero p.1) s = none) ∧ r = none)

theorem match_calls' (op : Int) (form s : Str) (w : World) (L : LW w) (hf : form.length < 1000) (hs : s.length < 40000000) :
    Calls Tryz.prog 93 #[.int .i64 op, .string ⟨form.toArray⟩, .string ⟨s.toArray⟩] w fun e w' => Below w.heap.size w w' ∧
      ∃ l A cp, e = .returned (.tuple #[.agg #[.int .i64 l.op, .string ⟨(l.a).toArray⟩, .string ⟨(l.b).toArray⟩, .string ⟨(l.c).toArray⟩, .string ⟨(l.nm).toArray⟩, .slice A l.args.length cp, .int .i64 l.cv.k, .int .i64 l.cv.n, .string ⟨(l.cv.s).toArray⟩], .bool (matchF form (Ln.zero op) s).isSome]) ∧
        ∀ l', matchF form (Ln.zero op) s = some l' → l = l' ∧ w'.ownsRow w.heap.size 9 1 (.slice A l.args.length cp) l.args.length (strs l.args) := match_calls op form s w L hf hs
theorem own_lower {w : World} {base base' e size n : Nat} {v : Value} {xs : List Value} (h : w.ownsRow base e size v n xs) (hb : base' ≤ base) : w.ownsRow base' e size v n xs := by
  refine ⟨h.1, ?_⟩
  rcases h.2 with h1 | ⟨g, cap, cur, h1, h2, h3⟩
  · exact .inl h1
  · exact .inr ⟨g, cap, cur, h1, Nat.le_trans hb h2, h3⟩
theorem forms_short {x : Int} {f : Str} (h : formS x = some f) : f.length < 1000 := by
  have hall : formsL.all (fun p => decide (p.2.length < 1000)) = true := by decide +kernel
  have := List.all_eq_true.1 hall _ (formS_some h)
  simpa using this
def RRel (s : Str) (w : World) (b r : Nat) (left : Lit → Bool) (cnt : Nat) (wr : World) : Prop :=
  wr.ranges Tryz.prog 3 (plainElem Tryz.prog 9) b r 42 formsD left cnt ∧ (∀ p ∈ formsL, left (.int .i64 p.1) = false → matchF p.2 (Ln.zero p.1) s = none) ∧
    wr.heap[w.heap.size]? = some (.cells ((Ln.zero 0).cells (.slice none 0 0)) 40 (0, 0)) ∧ Below w.heap.size w wr
set_option maxHeartbeats 4000000 in
set_option maxRecDepth 100000 in
theorem readLine_calls (s : Str) (w : World) (L : LW w) (hs : s.length < 40000000) :
    Calls Tryz.prog 52 #[.string ⟨s.toArray⟩] w fun e w' => Below w.heap.size w w' ∧
      ∃ (r : Option Ln) (A : Option Addr) (cp : Nat), RL s r ∧ e = .returned (.tuple #[.agg ((r.getD (Ln.zero 0)).cells (.slice A (r.getD (Ln.zero 0)).args.length cp)), .bool r.isSome]) ∧
        w'.ownsRow w.heap.size 9 1 (.slice A (r.getD (Ln.zero 0)).args.length cp) (r.getD (Ln.zero 0)).args.length (strs (r.getD (Ln.zero 0)).args) := by
  have HL := Lib.hid L
  clear L
  have law : Keyed Tryz.prog 3 := int_keyed Tryz.underlying3
  go_enter Tryz.func52, Tryz.ntmps52
  go_wp2_with fail
  refine (forms_calls _).mono ?_
  rintro e w1 ⟨rfl, hown, hb1⟩
  have z1 := hb1.size
  have b0 : w1.heap[w.heap.size]? = some (.cells ((Ln.zero 0).cells (.slice none 0 0)) 40 (0, 0)) := (hb1.block _ (by simp)).trans (heap_new _ _)
  have B0 := Lib.hid b0
  have HB1 := Lib.hid (((Below.refl _ w).alloc (Nat.le_refl _) _).trans (hb1.mono (by simp)) : Below w.heap.size w w1)
  clear b0 hb1
  simp at z1
  go_wp2_with (at_range; refine wpList_range_own _ rfl _ _ rfl 3 9 law Tryz.underlying103 (plainElem Tryz.prog 9) (w.heap.size + 1) 42 formsD rfl (by simpa using hown) ?_; intro w0 hrg0 hg0 hs0)
  go_frame
  have hr : w1.heap.size + 1 = w1.heap.size + 1 := rfl
  have HRG := Lib.hid hrg0
  have HG := Lib.hid hg0
  clear hrg0 hg0
  go_loopw [4] (fun _ wr => ∃ left cnt, RRel s w (w.heap.size + 1) w1.heap.size left cnt wr) (fun _ wr => wr.rangeLeft (w.heap.size + 1) w1.heap.size)
  case atStart =>
    refine ⟨Maps.has formsD, Maps.size formsD, HRG.out, ?_, ?_, ?_⟩
    · intro p hp h
      have := (formsD_at p.1 (.lit (.bool false))).2
      rw [h, formS_mem (show (p.1, p.2) ∈ formsL from hp)] at this
      simp at this
    · exact (HG.out.block _ (by omega) (by simp)).trans B0.out
    · exact HB1.out.grown HG.out (by omega) (by simp)
  case round =>
    obtain ⟨left, cnt, hrg, hno, hB0, hBw⟩ := hrel
    have HRG2 := Lib.hid hrg
    have HNO := Lib.hid hno
    have HB0 := Lib.hid hB0
    have HBw := Lib.hid hBw
    have szr := hBw.size
    clear hrg hno hBw hB0
    go_wp2_with (at_next; refine wpList_next_ranges_is _ rfl _ rfl 3 9 .i64 law Tryz.underlying3 Tryz.underlying9 (w.heap.size + 1) w1.heap.size 42 _ left cnt rfl HRG2.out ?_ ?_)
    · intro hc0 hl0
      have HN := Lib.hid (fun p hp => HNO.out p hp (hl0 _) : ∀ p ∈ formsL, matchF p.2 (Ln.zero p.1) s = none)
      clear hl0
      have r0 : wr.cell? ⟨w.heap.size, 0, none⟩ = some (.int .i64 0) := cellB HB0.out 0 rfl
      have q0 := frozenB HB0.out 0
      have r1 : wr.cell? ⟨w.heap.size, 1, none⟩ = some (.string ⟨#[]⟩) := cellB HB0.out 1 rfl
      have q1 := frozenB HB0.out 1
      have r2 : wr.cell? ⟨w.heap.size, 2, none⟩ = some (.string ⟨#[]⟩) := cellB HB0.out 2 rfl
      have q2 := frozenB HB0.out 2
      have r3 : wr.cell? ⟨w.heap.size, 3, none⟩ = some (.string ⟨#[]⟩) := cellB HB0.out 3 rfl
      have q3 := frozenB HB0.out 3
      have r4 : wr.cell? ⟨w.heap.size, 4, none⟩ = some (.string ⟨#[]⟩) := cellB HB0.out 4 rfl
      have q4 := frozenB HB0.out 4
      have r5 : wr.cell? ⟨w.heap.size, 5, none⟩ = some (.slice none 0 0) := cellB HB0.out 5 rfl
      have q5 := frozenB HB0.out 5
      have r6 : wr.cell? ⟨w.heap.size, 6, none⟩ = some (.int .i64 0) := cellB HB0.out 6 rfl
      have q6 := frozenB HB0.out 6
      have r7 : wr.cell? ⟨w.heap.size, 7, none⟩ = some (.int .i64 0) := cellB HB0.out 7 rfl
      have q7 := frozenB HB0.out 7
      have r8 : wr.cell? ⟨w.heap.size, 8, none⟩ = some (.string ⟨#[]⟩) := cellB HB0.out 8 rfl
      have q8 := frozenB HB0.out 8
      go_wp2_with fail
      refine bodyPost_ret (v := .tuple #[.agg #[.int .i64 0, .string ⟨#[]⟩, .string ⟨#[]⟩, .string ⟨#[]⟩, .string ⟨#[]⟩, .slice none 0 0, .int .i64 0, .int .i64 0, .string ⟨#[]⟩], .bool false]) (results_line rfl rfl rfl (blk_put9 HB0.out) (by simp [Value.oneCell'])) rfl ⟨below_put9 HBw.out (Nat.le_refl _), none, none, 0, .inr ⟨HN.out, rfl⟩, rfl, own_nil _ _ _ _⟩
    · intro x c w' cnt' hwx hwc hlx hat hrg1 hlt hg1 hs1 hen
      obtain ⟨f, hf, rfl⟩ : ∃ f, formS x = some f ∧ c = ⟨f.toArray⟩ := by
        have h1 := hat (.lit (.bool false))
        rw [(formsD_at x _).1] at h1
        cases h2 : formS x with
        | none => rw [h2] at h1; simp at h1
        | some f =>
          rw [h2] at h1
          simp at h1
          exact ⟨f, rfl, by rw [h1]⟩
      have hfl : f.length < 1000 := forms_short hf
      have HF := Lib.hid hf
      have HRG3 := Lib.hid hrg1
      have HLT := Lib.hid hlt
      have hb3 : Below w.heap.size w w' := HBw.out.grown hg1 szr (by intro k hk; simp at hk; omega)
      have hb0' := (hg1.block _ (sizeB HB0.out) (by simp; omega)).trans HB0.out
      have HB0' := Lib.hid hb0'
      have HB3 := Lib.hid hb3
      have hs3 : wr.heap.size = w'.heap.size := hs1.symm
      have hz3 : w.heap.size < w'.heap.size := sizeB hb0'
      have HMEM := Lib.hid (formS_some hf)
      clear hat hlx hrg1 hlt hb0' hf hg1 hs1 hs3 hwc
      go_wp2_with fail
      have lw' := HL.out.below hb3
      clear hb3
      refine (match_calls' x f s _ lw' hfl hs).mono ?_
      rintro e w2 ⟨hb2, l, A, cp, rfl, hml⟩
      have HML := Lib.hid hml
      have HB2 := Lib.hid hb2
      have k0 := (hb2.block _ hz3).trans HB0'.out
      have hz4 : w.heap.size < w2.heap.size := sizeB k0
      have n4 : ¬ w.heap.size = w2.heap.size := by omega
      have HB4 := Lib.hid (HB3.out.trans (hb2.mono (by omega)))
      clear hml hen lw' hb2
      cases hm : matchF f (Ln.zero x) s with
      | none =>
        go_wp2_with fail
        have hrg4 := (HRG3.out.kept (grown_of_below HB2.out none) (by simp) (by simp)).alloc (.cells #[.int .i64 l.op, .string ⟨(l.a).toArray⟩, .string ⟨(l.b).toArray⟩, .string ⟨(l.c).toArray⟩, .string ⟨(l.nm).toArray⟩, .slice A l.args.length cp, .int .i64 l.cv.k, .int .i64 l.cv.n, .string ⟨(l.cv.s).toArray⟩] 40)
        refine ⟨⟨_, _, hrg4, ?_, (Below.heap_alloc _ _ _ hz4).trans k0, HB4.out.alloc (by omega) _⟩, ?_⟩
        · intro p hp h
          simp only [Bool.and_eq_false_iff, Bool.not_eq_false'] at h
          rcases h with h | h
          · exact HNO.out p hp h
          · have e : p.1 = x := by
              have := WideAt.sameKey_eq h
              injection this
            have e2 : p.2 = f := by
              have := formS_mem (show (p.1, p.2) ∈ formsL from hp)
              rw [e, HF.out] at this
              exact (Option.some.inj this).symm
            rw [e, e2]; exact hm
        · rw [hrg4.left_eq, HRG2.out.left_eq]; exact HLT.out
      | some l' =>
        obtain ⟨rfl, hown⟩ := HML.out l' hm
        have HO := Lib.hid hown
        have HM := Lib.hid hm
        clear hm hown
        have r0 : w2.cell? ⟨w.heap.size, 0, none⟩ = some (.int .i64 0) := cellB k0 0 rfl
        have q0 := frozenB k0 0
        have r1 : w2.cell? ⟨w.heap.size, 1, none⟩ = some (.string ⟨#[]⟩) := cellB k0 1 rfl
        have q1 := frozenB k0 1
        have r2 : w2.cell? ⟨w.heap.size, 2, none⟩ = some (.string ⟨#[]⟩) := cellB k0 2 rfl
        have q2 := frozenB k0 2
        have r3 : w2.cell? ⟨w.heap.size, 3, none⟩ = some (.string ⟨#[]⟩) := cellB k0 3 rfl
        have q3 := frozenB k0 3
        have r4 : w2.cell? ⟨w.heap.size, 4, none⟩ = some (.string ⟨#[]⟩) := cellB k0 4 rfl
        have q4 := frozenB k0 4
        have r5 : w2.cell? ⟨w.heap.size, 5, none⟩ = some (.slice none 0 0) := cellB k0 5 rfl
        have q5 := frozenB k0 5
        have r6 : w2.cell? ⟨w.heap.size, 6, none⟩ = some (.int .i64 0) := cellB k0 6 rfl
        have q6 := frozenB k0 6
        have r7 : w2.cell? ⟨w.heap.size, 7, none⟩ = some (.int .i64 0) := cellB k0 7 rfl
        have q7 := frozenB k0 7
        have r8 : w2.cell? ⟨w.heap.size, 8, none⟩ = some (.string ⟨#[]⟩) := cellB k0 8 rfl
        have q8 := frozenB k0 8
        have K0 := Lib.hid k0
        clear k0
        go_wp2_with fail
        refine bodyPost_ret (v := .tuple #[.agg #[.int .i64 l.op, .string ⟨(l.a).toArray⟩, .string ⟨(l.b).toArray⟩, .string ⟨(l.c).toArray⟩, .string ⟨(l.nm).toArray⟩, .slice A l.args.length cp, .int .i64 l.cv.k, .int .i64 l.cv.n, .string ⟨(l.cv.s).toArray⟩], .bool true]) (results_line rfl rfl rfl ((Below.heap_alloc _ _ _ (by simpa using hz4)).trans (blk_put9 K0.out)) (by simp [Value.oneCell'])) rfl ⟨(below_put9 HB4.out (Nat.le_refl _)).alloc (by simp; omega) _, some l, A, cp, .inl ⟨(x, f), HMEM.out, l, HM.out, rfl⟩, rfl, ?_⟩
        exact (own_put9 (own_lower HO.out (by omega)) (own_ne HO.out K0.out (by decide))).alloc _
end Go.Proofs.YtdkcdodkhghfhaaGreatDoor
/- The walk of lang.ReadLine. -/
namespace Go.Proofs.YtdkcdodkhghfhaaGreatDoor
open Go.RowKit Go.Proofs.YtdkcdodkhghfhaaGreatDoorW.PrintLast Go.Proofs.YtdkcdodkhghfhaaGreatDoorW.PrintWords

/-- What ReadLine may return for a text. -/
def RL8 (s : Str) (r : Option Ln) : Prop := ∃ r0, RL s r0 ∧ r = r0.bind fun l => if l.args.length ≤ 8 then some l else none

theorem readLine_calls' (s : Str) (w : World) (L : LW w) (hs : s.length < 40000000) :
    Calls Tryz.prog 52 #[.string ⟨s.toArray⟩] w fun e w' => Below w.heap.size w w' ∧
      ∃ (r : Option Ln) (l : Ln) (A : Option Addr) (cp : Nat), RL s r ∧ l = r.getD (Ln.zero 0) ∧ e = .returned (.tuple #[.agg #[.int .i64 l.op, .string ⟨(l.a).toArray⟩, .string ⟨(l.b).toArray⟩, .string ⟨(l.c).toArray⟩, .string ⟨(l.nm).toArray⟩, .slice A l.args.length cp, .int .i64 l.cv.k, .int .i64 l.cv.n, .string ⟨(l.cv.s).toArray⟩], .bool r.isSome]) ∧
        w'.ownsRow w.heap.size 9 1 (.slice A l.args.length cp) l.args.length (strs l.args) :=
  (readLine_calls s w L hs).mono fun _e _w' ⟨h1, r, A, cp, h2, h3, h4⟩ => ⟨h1, r, _, A, cp, h2, rfl, h3, h4⟩

set_option maxHeartbeats 4000000 in
set_option maxRecDepth 100000 in
theorem ReadLine_calls (s : Str) (w : World) (L : LW w) (hs : s.length < 40000000) :
    Calls Tryz.prog 19 #[.string ⟨s.toArray⟩] w fun e w' => Below w.heap.size w w' ∧
      ∃ (r : Option Ln) (l : Ln) (A : Option Addr) (cp : Nat), RL8 s r ∧ l = r.getD (Ln.zero 0) ∧ e = .returned (.tuple #[.agg #[.int .i64 l.op, .string ⟨(l.a).toArray⟩, .string ⟨(l.b).toArray⟩, .string ⟨(l.c).toArray⟩, .string ⟨(l.nm).toArray⟩, .slice A l.args.length cp, .int .i64 l.cv.k, .int .i64 l.cv.n, .string ⟨(l.cv.s).toArray⟩], .bool r.isSome]) ∧
        w'.ownsRow w.heap.size 9 1 (.slice A l.args.length cp) l.args.length (strs l.args) := by
  have HL := Lib.hid L
  clear L
  go_enter Tryz.func19, Tryz.ntmps19
  go_wp2_with fail
  refine (readLine_calls' s _ (HL.out.alloc _) hs).mono ?_
  rintro e w1 ⟨hb1, r, l, A, cp, hr, hl, rfl, hown⟩
  have k0 : w1.heap[w.heap.size]? = some (.cells ((Ln.zero 0).cells (.slice none 0 0)) 40 (0, 0)) := (hb1.block _ (by simp)).trans (heap_new _ _)
  have HB := Lib.hid (((Below.refl _ w).alloc (Nat.le_refl _) _).trans (hb1.mono (by simp)) : Below w.heap.size w w1)
  have hz4 : w.heap.size < w1.heap.size := sizeB k0
  have n4 : ¬ w.heap.size = w1.heap.size := by omega
  have HO := Lib.hid (own_lower hown (by simp) : w1.ownsRow w.heap.size 9 1 (.slice A l.args.length cp) l.args.length (strs l.args))
  have HLD := Lib.hid hl
  have HR := Lib.hid hr
  clear hb1 hown hl hr
  have r0 : w1.cell? ⟨w.heap.size, 0, none⟩ = some (.int .i64 0) := cellB k0 0 rfl
  have q0 := frozenB k0 0
  have r1 : w1.cell? ⟨w.heap.size, 1, none⟩ = some (.string ⟨#[]⟩) := cellB k0 1 rfl
  have q1 := frozenB k0 1
  have r2 : w1.cell? ⟨w.heap.size, 2, none⟩ = some (.string ⟨#[]⟩) := cellB k0 2 rfl
  have q2 := frozenB k0 2
  have r3 : w1.cell? ⟨w.heap.size, 3, none⟩ = some (.string ⟨#[]⟩) := cellB k0 3 rfl
  have q3 := frozenB k0 3
  have r4 : w1.cell? ⟨w.heap.size, 4, none⟩ = some (.string ⟨#[]⟩) := cellB k0 4 rfl
  have q4 := frozenB k0 4
  have r5 : w1.cell? ⟨w.heap.size, 5, none⟩ = some (.slice none 0 0) := cellB k0 5 rfl
  have q5 := frozenB k0 5
  have r6 : w1.cell? ⟨w.heap.size, 6, none⟩ = some (.int .i64 0) := cellB k0 6 rfl
  have q6 := frozenB k0 6
  have r7 : w1.cell? ⟨w.heap.size, 7, none⟩ = some (.int .i64 0) := cellB k0 7 rfl
  have q7 := frozenB k0 7
  have r8 : w1.cell? ⟨w.heap.size, 8, none⟩ = some (.string ⟨#[]⟩) := cellB k0 8 rfl
  have q8 := frozenB k0 8
  have K0 := Lib.hid k0
  clear k0
  cases r with
  | none =>
    go_wp2_with fail
    refine bodyPost_ret (v := .tuple #[.agg #[.int .i64 0, .string ⟨#[]⟩, .string ⟨#[]⟩, .string ⟨#[]⟩, .string ⟨#[]⟩, .slice none 0 0, .int .i64 0, .int .i64 0, .string ⟨#[]⟩], .bool false]) (results_line rfl rfl rfl ((Below.heap_alloc _ _ _ (by simpa using hz4)).trans (blk_put9 K0.out)) (by simp [Value.oneCell'])) rfl ⟨(below_put9 HB.out (Nat.le_refl _)).alloc (by simp; omega) _, none, Ln.zero 0, none, 0, ⟨none, HR.out, rfl⟩, rfl, rfl, own_nil _ _ _ _⟩
  | some l0 =>
    by_cases h8 : l.args.length ≤ 8
    · have h8' : (l.args.length : Int) ≤ 8 := by omega
      have HR8 := Lib.hid (⟨some l0, HR.out, by rw [HLD.out] at h8; simp at h8; simp [h8]⟩ : RL8 s (some l0))
      clear h8
      go_wp2_with fail
      refine bodyPost_ret (v := .tuple #[.agg #[.int .i64 l.op, .string ⟨(l.a).toArray⟩, .string ⟨(l.b).toArray⟩, .string ⟨(l.c).toArray⟩, .string ⟨(l.nm).toArray⟩, .slice A l.args.length cp, .int .i64 l.cv.k, .int .i64 l.cv.n, .string ⟨(l.cv.s).toArray⟩], .bool true]) (results_line rfl rfl rfl ((Below.heap_alloc _ _ _ (by simpa using hz4)).trans (blk_put9 K0.out)) (by simp [Value.oneCell'])) rfl ⟨(below_put9 HB.out (Nat.le_refl _)).alloc (by simp; omega) _, some l0, l, A, cp, HR8.out, HLD.out, rfl, (own_put9 HO.out (own_ne HO.out K0.out (by decide))).alloc _⟩
    · have h8' : (8 : Int) < (l.args.length : Int) := by omega
      have HR8 := Lib.hid (⟨some l0, HR.out, by rw [HLD.out] at h8; simp at h8; simp; omega⟩ : RL8 s none)
      clear h8
      go_wp2_with fail
      refine bodyPost_ret (v := .tuple #[.agg #[.int .i64 0, .string ⟨#[]⟩, .string ⟨#[]⟩, .string ⟨#[]⟩, .string ⟨#[]⟩, .slice none 0 0, .int .i64 0, .int .i64 0, .string ⟨#[]⟩], .bool false]) (results_line rfl rfl rfl ((Below.heap_alloc _ _ _ (by simpa using hz4)).trans (blk_put9 K0.out)) (by simp [Value.oneCell'])) rfl ⟨(below_put9 HB.out (Nat.le_refl _)).alloc (by simp; omega) _, none, Ln.zero 0, none, 0, HR8.out, rfl, rfl, own_nil _ _ _ _⟩
end Go.Proofs.YtdkcdodkhghfhaaGreatDoor
