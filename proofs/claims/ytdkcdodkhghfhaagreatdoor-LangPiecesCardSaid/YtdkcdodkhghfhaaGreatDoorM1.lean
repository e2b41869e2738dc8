/- The walk of lang.match. -/
import Derived.Test.YtdkcdodkhghfhaaGreatDoorM01
import Derived.OwnWalk
import Derived.Deep.LoopGhost
import Derived.Deep.AppendLies
import Derived.IntWalk
import Derived.Laws.NewBlocks
import Derived.Test.YtdkcdodkhghfhaaGreatDoorWLast
namespace Go.Proofs.YtdkcdodkhghfhaaGreatDoor
open Go.RowKit Go.Proofs.YtdkcdodkhghfhaaGreatDoorW.PrintLast Go.Proofs.YtdkcdodkhghfhaaGreatDoorW.PrintWords

theorem runS_length (s : Str) : (runS s).length ≤ s.length := (List.takeWhile_sublist _).length_le
theorem ext_from (s : Str) (k : Nat) : (⟨s.toArray⟩ : ByteArray).extract k s.length = ⟨(s.drop k).toArray⟩ := by rw [ext_list]; simp
theorem drop_at (form : Str) (k : Nat) (h : k < form.length) (c : UInt8) (hc : (⟨form.toArray⟩ : ByteArray)[k]'h = c) : form.drop k = c :: form.drop (k + 1) := by
  rw [List.drop_eq_getElem_cons h, ← hc]; rfl
theorem matchF_step {form : Str} {k : Nat} {h : k < form.length} {c : UInt8} (hc : (⟨form.toArray⟩ : ByteArray)[k]'h = c) {l l2 : Ln} {s' s2 : Str} {R : Option Ln} (hm : matchF (form.drop k) l s' = R) (hs : stepF c l s' = some (l2, s2)) : matchF (form.drop (k + 1)) l2 s2 = R := by
  rw [drop_at form k h c hc] at hm
  simpa [matchF, hs] using hm
theorem matchF_fail {form : Str} {k : Nat} {h : k < form.length} {c : UInt8} (hc : (⟨form.toArray⟩ : ByteArray)[k]'h = c) {l : Ln} {s' : Str} {R : Option Ln} (hm : matchF (form.drop k) l s' = R) (hs : stepF c l s' = none) : R = none := by
  rw [drop_at form k h c hc] at hm
  simpa [matchF, hs] using hm.symm

theorem cut_length (s sep : Str) : (Lib.cut s sep).1.length ≤ s.length := by
  unfold Lib.cut
  split
  · simp [List.length_take]; omega
  · exact Nat.le_refl _
theorem cut_calls (s sep : Str) (w : World) (L : LW w) (hs : s.length < 40000000) :
    Calls Tryz.prog 48 #[.string ⟨s.toArray⟩, .string ⟨sep.toArray⟩] w fun e w' => e = .returned (.tuple #[.string ⟨(Lib.cut s sep).1.toArray⟩, .string ⟨(Lib.cut s sep).2.1.toArray⟩, .bool (Lib.cut s sep).2.2]) ∧ ∃ n, w' = w.drewN n := by
  obtain ⟨m, hm⟩ := L.m
  exact Tryz.strings_Cut ⟨s.toArray⟩ ⟨sep.toArray⟩ m w (by show s.length < _; omega) hm

theorem stepF_args (l : Ln) (s : Str) : stepF 126 l s = (argsF (s.length + 1) l.args s).map fun p => ({ l with args := p.1 }, p.2) := by simp [stepF]
theorem hp_calls (s p : Str) (w : World) : Calls Tryz.prog 18 #[.string ⟨s.toArray⟩, .string ⟨p.toArray⟩] w fun e w' => e = .returned (.bool (Lib.hasPrefix s p)) ∧ w = w' :=
  (Tryz.strings_HasPrefix ⟨s.toArray⟩ ⟨p.toArray⟩ w).mono fun _ _ ⟨h, h'⟩ => ⟨h, h'.symm⟩
theorem info9s : (Tryz.prog.info? 9).map (fun i => (i.zero, i.size, i.bytes)) = some (some (.string ⟨#[]⟩), 1, 16) := by kernel_rfl
theorem stepF_other {c : UInt8} (h65 : ¬ c = 65) (h66 : ¬ c = 66) (h67 : ¬ c = 67) (h78 : ¬ c = 78) (h76 : ¬ c = 76) (h73 : ¬ c = 73) (h126 : ¬ c = 126) (l : Ln) : stepF c l [] = none ∧ ∀ x t, stepF c l (x :: t) = if x = c then some (l, t) else none := by
  constructor
  · simp [stepF, h65, h66, h67, h78, h76, h73, h126]
  · intro x t; simp [stepF, h65, h66, h67, h78, h76, h73, h126]
theorem byte_ne {c d : UInt8} (h : ¬ c = d) : ((c.toNat : Int) == (d.toNat : Int)) = false := by
  rw [beq_eq_false_iff_ne]
  intro h'
  exact h (UInt8.toNat_inj.1 (Int.ofNat_inj.1 h'))
theorem fieldN_none {c : UInt8} (h1 : ¬ c = 65) (h2 : ¬ c = 66) (h3 : ¬ c = 67) (h4 : ¬ c = 78) : fieldN (c.toNat : Int) = none := by
  have k (d : UInt8) (h : ¬ c = d) : ¬ (c.toNat : Int) = (d.toNat : Int) := fun h' => h (UInt8.toNat_inj.1 (Int.ofNat_inj.1 h'))
  unfold fieldN
  have e1 : ¬ (c.toNat : Int) = 65 := k 65 h1
  have e2 : ¬ (c.toNat : Int) = 66 := k 66 h2
  have e3 : ¬ (c.toNat : Int) = 67 := k 67 h3
  have e4 : ¬ (c.toNat : Int) = 78 := k 78 h4
  rw [if_neg e1, if_neg e2, if_neg e3, if_neg e4]
def strLen : Value → Nat | .string b => b.size | _ => 0
/-- What holds at the head of the loop over the arguments. -/
def ARel (w : World) (s : Str) (l : Ln) (R : Option (List Str × Str)) (s2 : Str) (wr : World) : Prop :=
  ∃ acc v, wr.heap[w.heap.size]? = some (.cells ((Ln.zero 0).cells (.slice none 0 0)) 40 (0, 0)) ∧ wr.heap[w.heap.size + 1]? = some (.cells (({ l with args := acc } : Ln).cells v) 40 (0, 0)) ∧
    wr.ownsRow w.heap.size 9 1 v acc.length (strs acc) ∧ Below w.heap.size w wr ∧ argsF (s2.length + 1) acc s2 = R ∧ acc.length + s2.length ≤ s.length
/-- What holds at the head of match's loop. -/
def MRel (op : Int) (form s : Str) (w : World) (k : Nat) (s' : Str) (wr : World) : Prop :=
  ∃ l v, wr.heap[w.heap.size]? = some (.cells ((Ln.zero 0).cells (.slice none 0 0)) 40 (0, 0)) ∧ wr.heap[w.heap.size + 1]? = some (.cells (l.cells v) 40 (0, 0)) ∧
    wr.ownsRow w.heap.size 9 1 v l.args.length (strs l.args) ∧ Below w.heap.size w wr ∧ matchF (form.drop k) l s' = matchF form (Ln.zero op) s ∧ l.args.length + s'.length ≤ s.length

set_option maxHeartbeats 20000000 in
set_option maxRecDepth 100000 in
theorem match_calls (op : Int) (form s : Str) (w : World) (L : LW w) (hf : form.length < 1000) (hs : s.length < 40000000) :
    Calls Tryz.prog 93 #[.int .i64 op, .string ⟨form.toArray⟩, .string ⟨s.toArray⟩] w fun e w' => Below w.heap.size w w' ∧
      ∃ l A cp, e = .returned (.tuple #[.agg (l.cells (.slice A l.args.length cp)), .bool (matchF form (Ln.zero op) s).isSome]) ∧
        ∀ l', matchF form (Ln.zero op) s = some l' → l = l' ∧ w'.ownsRow w.heap.size 9 1 (.slice A l.args.length cp) l.args.length (strs l.args) := by
  have HL := Lib.hid L
  clear L
  go_enter Tryz.func93, Tryz.ntmps93
  go_wp2_with fail
  go_loopw [2, 20] (fun t i wr => ∃ (k : Nat) (s' : Str), k ≤ form.length ∧ i = .int .i64 k ∧ t = .string ⟨s'.toArray⟩ ∧ MRel op form s w k s' wr) (fun _ i _ => form.length - (intOf i).toNat)
  case atStart =>
    refine ⟨0, s, Nat.zero_le _, rfl, rfl, Ln.zero op, .slice none 0 0, ?_, ?_, own_nil _ _ _ _, ?_, rfl, by simp [Ln.zero]⟩
    · exact (Below.heap_alloc _ _ _ (by simp)).trans (heap_new _ _)
    · exact heap_new' _ _ _ (by simp)
    · exact ((Below.refl _ w).alloc (Nat.le_refl _) _).alloc (by simp) _
  case round =>
    obtain ⟨k, s', hk, rfl, rfl, l, v, b0, b1, own, hb, hm, hl⟩ := hrel
    obtain ⟨A, cp, rfl⟩ := own_slice own
    have hs' : s'.length < 40000000 := by omega
    have hne : some (w.heap.size + 1) ≠ (Value.slice A l.args.length cp).ownBlock := own_ne own b1 (by decide)
    have hne0 : some w.heap.size ≠ (Value.slice A l.args.length cp).ownBlock := own_ne own b0 (by decide)
    have HM := Lib.hid hm
    have B0 := Lib.hid b0
    have B1 := Lib.hid b1
    have OWN := Lib.hid own
    have HB := Lib.hid hb
    have HNE := Lib.hid hne
    have HNE0 := Lib.hid hne0
    clear hm own hb hne hne0
    by_cases hlt : k < form.length
    · skip
      by_cases h65 : (⟨form.toArray⟩ : ByteArray)[k]'hlt = 65
      · have hrl : (runS s').length ≤ s'.length := runS_length s'
        have c0 : wr.cell? ⟨w.heap.size + 1, 0, none⟩ = some (.int .i64 l.op) := cellB b1 0 rfl
        have f0 := frozenB b1 0
        have c1 : wr.cell? ⟨w.heap.size + 1, 1, none⟩ = some (.string ⟨(l.a).toArray⟩) := cellB b1 1 rfl
        have f1 := frozenB b1 1
        have c2 : wr.cell? ⟨w.heap.size + 1, 2, none⟩ = some (.string ⟨(l.b).toArray⟩) := cellB b1 2 rfl
        have f2 := frozenB b1 2
        have c3 : wr.cell? ⟨w.heap.size + 1, 3, none⟩ = some (.string ⟨(l.c).toArray⟩) := cellB b1 3 rfl
        have f3 := frozenB b1 3
        have c4 : wr.cell? ⟨w.heap.size + 1, 4, none⟩ = some (.string ⟨(l.nm).toArray⟩) := cellB b1 4 rfl
        have f4 := frozenB b1 4
        have c5 : wr.cell? ⟨w.heap.size + 1, 5, none⟩ = some (.slice A l.args.length cp) := cellB b1 5 rfl
        have f5 := frozenB b1 5
        have c6 : wr.cell? ⟨w.heap.size + 1, 6, none⟩ = some (.int .i64 l.cv.k) := cellB b1 6 rfl
        have f6 := frozenB b1 6
        have c7 : wr.cell? ⟨w.heap.size + 1, 7, none⟩ = some (.int .i64 l.cv.n) := cellB b1 7 rfl
        have f7 := frozenB b1 7
        have c8 : wr.cell? ⟨w.heap.size + 1, 8, none⟩ = some (.string ⟨(l.cv.s).toArray⟩) := cellB b1 8 rfl
        have f8 := frozenB b1 8
        have r0 : wr.cell? ⟨w.heap.size, 0, none⟩ = some (.int .i64 0) := cellB b0 0 rfl
        have q0 := frozenB b0 0
        have r1 : wr.cell? ⟨w.heap.size, 1, none⟩ = some (.string ⟨#[]⟩) := cellB b0 1 rfl
        have q1 := frozenB b0 1
        have r2 : wr.cell? ⟨w.heap.size, 2, none⟩ = some (.string ⟨#[]⟩) := cellB b0 2 rfl
        have q2 := frozenB b0 2
        have r3 : wr.cell? ⟨w.heap.size, 3, none⟩ = some (.string ⟨#[]⟩) := cellB b0 3 rfl
        have q3 := frozenB b0 3
        have r4 : wr.cell? ⟨w.heap.size, 4, none⟩ = some (.string ⟨#[]⟩) := cellB b0 4 rfl
        have q4 := frozenB b0 4
        have r5 : wr.cell? ⟨w.heap.size, 5, none⟩ = some (.slice none 0 0) := cellB b0 5 rfl
        have q5 := frozenB b0 5
        have r6 : wr.cell? ⟨w.heap.size, 6, none⟩ = some (.int .i64 0) := cellB b0 6 rfl
        have q6 := frozenB b0 6
        have r7 : wr.cell? ⟨w.heap.size, 7, none⟩ = some (.int .i64 0) := cellB b0 7 rfl
        have q7 := frozenB b0 7
        have r8 : wr.cell? ⟨w.heap.size, 8, none⟩ = some (.string ⟨#[]⟩) := cellB b0 8 rfl
        have q8 := frozenB b0 8
        clear b0 b1
        cases hn : nameS (runS s')
        · have hst : stepF 65 l s' = none := by simp [stepF, hn]
          have hF := matchF_fail h65 HM.out hst
          have HF := Lib.hid hF
          clear hF hst
          go_wp2_with (first | (go_at_call 54; refine (field_A _ _).mono ?_; rintro e w' ⟨rfl, rfl⟩) | (go_at_call 118; refine (run_calls s' _ (by omega)).mono ?_; rintro e w' ⟨rfl, rfl⟩) | (go_at_call 29; refine (name_calls (runS s') _ (by omega)).mono ?_; rintro e w' ⟨rfl, rfl⟩))
          refine bodyPost_ret (v := .tuple #[.agg #[.int .i64 l.op, .string ⟨(runS s').toArray⟩, .string ⟨(l.b).toArray⟩, .string ⟨(l.c).toArray⟩, .string ⟨(l.nm).toArray⟩, .slice A l.args.length cp, .int .i64 l.cv.k, .int .i64 l.cv.n, .string ⟨(l.cv.s).toArray⟩], .bool false]) (results_line rfl rfl rfl (blk_put9 ((Below.heap_setCell _ _ _ _ (by simp)).trans B0.out)) (by simp [Value.oneCell'])) rfl ⟨below_put9 (HB.out.setCell (by simp) _) (Nat.le_refl _), { l with a := runS s' }, A, cp, ?_, ?_⟩
          · rw [HF.out]; rfl
          · intro l' hl'; rw [HF.out] at hl'; cases hl'
        · have hst : stepF 65 l s' = some ({ l with a := runS s' }, s'.drop (runS s').length) := by simp [stepF, hn]
          have HF := Lib.hid (matchF_step h65 HM.out hst)
          clear hst
          go_wp2_with (first | (go_at_call 54; refine (field_A _ _).mono ?_; rintro e w' ⟨rfl, rfl⟩) | (go_at_call 118; refine (run_calls s' _ (by omega)).mono ?_; rintro e w' ⟨rfl, rfl⟩) | (go_at_call 29; refine (name_calls (runS s') _ (by omega)).mono ?_; rintro e w' ⟨rfl, rfl⟩))
          refine ⟨⟨k + 1, s'.drop (runS s').length, by omega, rfl, by rw [ext_from], { l with a := runS s' }, .slice A l.args.length cp, (Below.heap_setCell _ _ _ _ (by simp)).trans B0.out, blk_set B1.out 1 _, own_setCell OWN.out HNE.out _, HB.out.setCell (by simp) _, HF.out, by simp; omega⟩, by simp [intOf]; omega⟩
      by_cases h66 : (⟨form.toArray⟩ : ByteArray)[k]'hlt = 66
      · have hrl : (runS s').length ≤ s'.length := runS_length s'
        have c0 : wr.cell? ⟨w.heap.size + 1, 0, none⟩ = some (.int .i64 l.op) := cellB b1 0 rfl
        have f0 := frozenB b1 0
        have c1 : wr.cell? ⟨w.heap.size + 1, 1, none⟩ = some (.string ⟨(l.a).toArray⟩) := cellB b1 1 rfl
        have f1 := frozenB b1 1
        have c2 : wr.cell? ⟨w.heap.size + 1, 2, none⟩ = some (.string ⟨(l.b).toArray⟩) := cellB b1 2 rfl
        have f2 := frozenB b1 2
        have c3 : wr.cell? ⟨w.heap.size + 1, 3, none⟩ = some (.string ⟨(l.c).toArray⟩) := cellB b1 3 rfl
        have f3 := frozenB b1 3
        have c4 : wr.cell? ⟨w.heap.size + 1, 4, none⟩ = some (.string ⟨(l.nm).toArray⟩) := cellB b1 4 rfl
        have f4 := frozenB b1 4
        have c5 : wr.cell? ⟨w.heap.size + 1, 5, none⟩ = some (.slice A l.args.length cp) := cellB b1 5 rfl
        have f5 := frozenB b1 5
        have c6 : wr.cell? ⟨w.heap.size + 1, 6, none⟩ = some (.int .i64 l.cv.k) := cellB b1 6 rfl
        have f6 := frozenB b1 6
        have c7 : wr.cell? ⟨w.heap.size + 1, 7, none⟩ = some (.int .i64 l.cv.n) := cellB b1 7 rfl
        have f7 := frozenB b1 7
        have c8 : wr.cell? ⟨w.heap.size + 1, 8, none⟩ = some (.string ⟨(l.cv.s).toArray⟩) := cellB b1 8 rfl
        have f8 := frozenB b1 8
        have r0 : wr.cell? ⟨w.heap.size, 0, none⟩ = some (.int .i64 0) := cellB b0 0 rfl
        have q0 := frozenB b0 0
        have r1 : wr.cell? ⟨w.heap.size, 1, none⟩ = some (.string ⟨#[]⟩) := cellB b0 1 rfl
        have q1 := frozenB b0 1
        have r2 : wr.cell? ⟨w.heap.size, 2, none⟩ = some (.string ⟨#[]⟩) := cellB b0 2 rfl
        have q2 := frozenB b0 2
        have r3 : wr.cell? ⟨w.heap.size, 3, none⟩ = some (.string ⟨#[]⟩) := cellB b0 3 rfl
        have q3 := frozenB b0 3
        have r4 : wr.cell? ⟨w.heap.size, 4, none⟩ = some (.string ⟨#[]⟩) := cellB b0 4 rfl
        have q4 := frozenB b0 4
        have r5 : wr.cell? ⟨w.heap.size, 5, none⟩ = some (.slice none 0 0) := cellB b0 5 rfl
        have q5 := frozenB b0 5
        have r6 : wr.cell? ⟨w.heap.size, 6, none⟩ = some (.int .i64 0) := cellB b0 6 rfl
        have q6 := frozenB b0 6
        have r7 : wr.cell? ⟨w.heap.size, 7, none⟩ = some (.int .i64 0) := cellB b0 7 rfl
        have q7 := frozenB b0 7
        have r8 : wr.cell? ⟨w.heap.size, 8, none⟩ = some (.string ⟨#[]⟩) := cellB b0 8 rfl
        have q8 := frozenB b0 8
        clear b0 b1
        cases hn : nameS (runS s')
        · have hst : stepF 66 l s' = none := by simp [stepF, hn]
          have hF := matchF_fail h66 HM.out hst
          have HF := Lib.hid hF
          clear hF hst
          go_wp2_with (first | (go_at_call 54; refine (field_B _ _).mono ?_; rintro e w' ⟨rfl, rfl⟩) | (go_at_call 118; refine (run_calls s' _ (by omega)).mono ?_; rintro e w' ⟨rfl, rfl⟩) | (go_at_call 29; refine (name_calls (runS s') _ (by omega)).mono ?_; rintro e w' ⟨rfl, rfl⟩))
          refine bodyPost_ret (v := .tuple #[.agg #[.int .i64 l.op, .string ⟨(l.a).toArray⟩, .string ⟨(runS s').toArray⟩, .string ⟨(l.c).toArray⟩, .string ⟨(l.nm).toArray⟩, .slice A l.args.length cp, .int .i64 l.cv.k, .int .i64 l.cv.n, .string ⟨(l.cv.s).toArray⟩], .bool false]) (results_line rfl rfl rfl (blk_put9 ((Below.heap_setCell _ _ _ _ (by simp)).trans B0.out)) (by simp [Value.oneCell'])) rfl ⟨below_put9 (HB.out.setCell (by simp) _) (Nat.le_refl _), { l with b := runS s' }, A, cp, ?_, ?_⟩
          · rw [HF.out]; rfl
          · intro l' hl'; rw [HF.out] at hl'; cases hl'
        · have hst : stepF 66 l s' = some ({ l with b := runS s' }, s'.drop (runS s').length) := by simp [stepF, hn]
          have HF := Lib.hid (matchF_step h66 HM.out hst)
          clear hst
          go_wp2_with (first | (go_at_call 54; refine (field_B _ _).mono ?_; rintro e w' ⟨rfl, rfl⟩) | (go_at_call 118; refine (run_calls s' _ (by omega)).mono ?_; rintro e w' ⟨rfl, rfl⟩) | (go_at_call 29; refine (name_calls (runS s') _ (by omega)).mono ?_; rintro e w' ⟨rfl, rfl⟩))
          refine ⟨⟨k + 1, s'.drop (runS s').length, by omega, rfl, by rw [ext_from], { l with b := runS s' }, .slice A l.args.length cp, (Below.heap_setCell _ _ _ _ (by simp)).trans B0.out, blk_set B1.out 2 _, own_setCell OWN.out HNE.out _, HB.out.setCell (by simp) _, HF.out, by simp; omega⟩, by simp [intOf]; omega⟩
      by_cases h67 : (⟨form.toArray⟩ : ByteArray)[k]'hlt = 67
      · have hrl : (runS s').length ≤ s'.length := runS_length s'
        have c0 : wr.cell? ⟨w.heap.size + 1, 0, none⟩ = some (.int .i64 l.op) := cellB b1 0 rfl
        have f0 := frozenB b1 0
        have c1 : wr.cell? ⟨w.heap.size + 1, 1, none⟩ = some (.string ⟨(l.a).toArray⟩) := cellB b1 1 rfl
        have f1 := frozenB b1 1
        have c2 : wr.cell? ⟨w.heap.size + 1, 2, none⟩ = some (.string ⟨(l.b).toArray⟩) := cellB b1 2 rfl
        have f2 := frozenB b1 2
        have c3 : wr.cell? ⟨w.heap.size + 1, 3, none⟩ = some (.string ⟨(l.c).toArray⟩) := cellB b1 3 rfl
        have f3 := frozenB b1 3
        have c4 : wr.cell? ⟨w.heap.size + 1, 4, none⟩ = some (.string ⟨(l.nm).toArray⟩) := cellB b1 4 rfl
        have f4 := frozenB b1 4
        have c5 : wr.cell? ⟨w.heap.size + 1, 5, none⟩ = some (.slice A l.args.length cp) := cellB b1 5 rfl
        have f5 := frozenB b1 5
        have c6 : wr.cell? ⟨w.heap.size + 1, 6, none⟩ = some (.int .i64 l.cv.k) := cellB b1 6 rfl
        have f6 := frozenB b1 6
        have c7 : wr.cell? ⟨w.heap.size + 1, 7, none⟩ = some (.int .i64 l.cv.n) := cellB b1 7 rfl
        have f7 := frozenB b1 7
        have c8 : wr.cell? ⟨w.heap.size + 1, 8, none⟩ = some (.string ⟨(l.cv.s).toArray⟩) := cellB b1 8 rfl
        have f8 := frozenB b1 8
        have r0 : wr.cell? ⟨w.heap.size, 0, none⟩ = some (.int .i64 0) := cellB b0 0 rfl
        have q0 := frozenB b0 0
        have r1 : wr.cell? ⟨w.heap.size, 1, none⟩ = some (.string ⟨#[]⟩) := cellB b0 1 rfl
        have q1 := frozenB b0 1
        have r2 : wr.cell? ⟨w.heap.size, 2, none⟩ = some (.string ⟨#[]⟩) := cellB b0 2 rfl
        have q2 := frozenB b0 2
        have r3 : wr.cell? ⟨w.heap.size, 3, none⟩ = some (.string ⟨#[]⟩) := cellB b0 3 rfl
        have q3 := frozenB b0 3
        have r4 : wr.cell? ⟨w.heap.size, 4, none⟩ = some (.string ⟨#[]⟩) := cellB b0 4 rfl
        have q4 := frozenB b0 4
        have r5 : wr.cell? ⟨w.heap.size, 5, none⟩ = some (.slice none 0 0) := cellB b0 5 rfl
        have q5 := frozenB b0 5
        have r6 : wr.cell? ⟨w.heap.size, 6, none⟩ = some (.int .i64 0) := cellB b0 6 rfl
        have q6 := frozenB b0 6
        have r7 : wr.cell? ⟨w.heap.size, 7, none⟩ = some (.int .i64 0) := cellB b0 7 rfl
        have q7 := frozenB b0 7
        have r8 : wr.cell? ⟨w.heap.size, 8, none⟩ = some (.string ⟨#[]⟩) := cellB b0 8 rfl
        have q8 := frozenB b0 8
        clear b0 b1
        cases hn : nameS (runS s')
        · have hst : stepF 67 l s' = none := by simp [stepF, hn]
          have hF := matchF_fail h67 HM.out hst
          have HF := Lib.hid hF
          clear hF hst
          go_wp2_with (first | (go_at_call 54; refine (field_C _ _).mono ?_; rintro e w' ⟨rfl, rfl⟩) | (go_at_call 118; refine (run_calls s' _ (by omega)).mono ?_; rintro e w' ⟨rfl, rfl⟩) | (go_at_call 29; refine (name_calls (runS s') _ (by omega)).mono ?_; rintro e w' ⟨rfl, rfl⟩))
          refine bodyPost_ret (v := .tuple #[.agg #[.int .i64 l.op, .string ⟨(l.a).toArray⟩, .string ⟨(l.b).toArray⟩, .string ⟨(runS s').toArray⟩, .string ⟨(l.nm).toArray⟩, .slice A l.args.length cp, .int .i64 l.cv.k, .int .i64 l.cv.n, .string ⟨(l.cv.s).toArray⟩], .bool false]) (results_line rfl rfl rfl (blk_put9 ((Below.heap_setCell _ _ _ _ (by simp)).trans B0.out)) (by simp [Value.oneCell'])) rfl ⟨below_put9 (HB.out.setCell (by simp) _) (Nat.le_refl _), { l with c := runS s' }, A, cp, ?_, ?_⟩
          · rw [HF.out]; rfl
          · intro l' hl'; rw [HF.out] at hl'; cases hl'
        · have hst : stepF 67 l s' = some ({ l with c := runS s' }, s'.drop (runS s').length) := by simp [stepF, hn]
          have HF := Lib.hid (matchF_step h67 HM.out hst)
          clear hst
          go_wp2_with (first | (go_at_call 54; refine (field_C _ _).mono ?_; rintro e w' ⟨rfl, rfl⟩) | (go_at_call 118; refine (run_calls s' _ (by omega)).mono ?_; rintro e w' ⟨rfl, rfl⟩) | (go_at_call 29; refine (name_calls (runS s') _ (by omega)).mono ?_; rintro e w' ⟨rfl, rfl⟩))
          refine ⟨⟨k + 1, s'.drop (runS s').length, by omega, rfl, by rw [ext_from], { l with c := runS s' }, .slice A l.args.length cp, (Below.heap_setCell _ _ _ _ (by simp)).trans B0.out, blk_set B1.out 3 _, own_setCell OWN.out HNE.out _, HB.out.setCell (by simp) _, HF.out, by simp; omega⟩, by simp [intOf]; omega⟩
      by_cases h78 : (⟨form.toArray⟩ : ByteArray)[k]'hlt = 78
      · have hrl : (runS s').length ≤ s'.length := runS_length s'
        have c0 : wr.cell? ⟨w.heap.size + 1, 0, none⟩ = some (.int .i64 l.op) := cellB b1 0 rfl
        have f0 := frozenB b1 0
        have c1 : wr.cell? ⟨w.heap.size + 1, 1, none⟩ = some (.string ⟨(l.a).toArray⟩) := cellB b1 1 rfl
        have f1 := frozenB b1 1
        have c2 : wr.cell? ⟨w.heap.size + 1, 2, none⟩ = some (.string ⟨(l.b).toArray⟩) := cellB b1 2 rfl
        have f2 := frozenB b1 2
        have c3 : wr.cell? ⟨w.heap.size + 1, 3, none⟩ = some (.string ⟨(l.c).toArray⟩) := cellB b1 3 rfl
        have f3 := frozenB b1 3
        have c4 : wr.cell? ⟨w.heap.size + 1, 4, none⟩ = some (.string ⟨(l.nm).toArray⟩) := cellB b1 4 rfl
        have f4 := frozenB b1 4
        have c5 : wr.cell? ⟨w.heap.size + 1, 5, none⟩ = some (.slice A l.args.length cp) := cellB b1 5 rfl
        have f5 := frozenB b1 5
        have c6 : wr.cell? ⟨w.heap.size + 1, 6, none⟩ = some (.int .i64 l.cv.k) := cellB b1 6 rfl
        have f6 := frozenB b1 6
        have c7 : wr.cell? ⟨w.heap.size + 1, 7, none⟩ = some (.int .i64 l.cv.n) := cellB b1 7 rfl
        have f7 := frozenB b1 7
        have c8 : wr.cell? ⟨w.heap.size + 1, 8, none⟩ = some (.string ⟨(l.cv.s).toArray⟩) := cellB b1 8 rfl
        have f8 := frozenB b1 8
        have r0 : wr.cell? ⟨w.heap.size, 0, none⟩ = some (.int .i64 0) := cellB b0 0 rfl
        have q0 := frozenB b0 0
        have r1 : wr.cell? ⟨w.heap.size, 1, none⟩ = some (.string ⟨#[]⟩) := cellB b0 1 rfl
        have q1 := frozenB b0 1
        have r2 : wr.cell? ⟨w.heap.size, 2, none⟩ = some (.string ⟨#[]⟩) := cellB b0 2 rfl
        have q2 := frozenB b0 2
        have r3 : wr.cell? ⟨w.heap.size, 3, none⟩ = some (.string ⟨#[]⟩) := cellB b0 3 rfl
        have q3 := frozenB b0 3
        have r4 : wr.cell? ⟨w.heap.size, 4, none⟩ = some (.string ⟨#[]⟩) := cellB b0 4 rfl
        have q4 := frozenB b0 4
        have r5 : wr.cell? ⟨w.heap.size, 5, none⟩ = some (.slice none 0 0) := cellB b0 5 rfl
        have q5 := frozenB b0 5
        have r6 : wr.cell? ⟨w.heap.size, 6, none⟩ = some (.int .i64 0) := cellB b0 6 rfl
        have q6 := frozenB b0 6
        have r7 : wr.cell? ⟨w.heap.size, 7, none⟩ = some (.int .i64 0) := cellB b0 7 rfl
        have q7 := frozenB b0 7
        have r8 : wr.cell? ⟨w.heap.size, 8, none⟩ = some (.string ⟨#[]⟩) := cellB b0 8 rfl
        have q8 := frozenB b0 8
        clear b0 b1
        cases hn : nameS (runS s')
        · have hst : stepF 78 l s' = none := by simp [stepF, hn]
          have hF := matchF_fail h78 HM.out hst
          have HF := Lib.hid hF
          clear hF hst
          go_wp2_with (first | (go_at_call 54; refine (field_N _ _).mono ?_; rintro e w' ⟨rfl, rfl⟩) | (go_at_call 118; refine (run_calls s' _ (by omega)).mono ?_; rintro e w' ⟨rfl, rfl⟩) | (go_at_call 29; refine (name_calls (runS s') _ (by omega)).mono ?_; rintro e w' ⟨rfl, rfl⟩))
          refine bodyPost_ret (v := .tuple #[.agg #[.int .i64 l.op, .string ⟨(l.a).toArray⟩, .string ⟨(l.b).toArray⟩, .string ⟨(l.c).toArray⟩, .string ⟨(runS s').toArray⟩, .slice A l.args.length cp, .int .i64 l.cv.k, .int .i64 l.cv.n, .string ⟨(l.cv.s).toArray⟩], .bool false]) (results_line rfl rfl rfl (blk_put9 ((Below.heap_setCell _ _ _ _ (by simp)).trans B0.out)) (by simp [Value.oneCell'])) rfl ⟨below_put9 (HB.out.setCell (by simp) _) (Nat.le_refl _), { l with nm := runS s' }, A, cp, ?_, ?_⟩
          · rw [HF.out]; rfl
          · intro l' hl'; rw [HF.out] at hl'; cases hl'
        · have hst : stepF 78 l s' = some ({ l with nm := runS s' }, s'.drop (runS s').length) := by simp [stepF, hn]
          have HF := Lib.hid (matchF_step h78 HM.out hst)
          clear hst
          go_wp2_with (first | (go_at_call 54; refine (field_N _ _).mono ?_; rintro e w' ⟨rfl, rfl⟩) | (go_at_call 118; refine (run_calls s' _ (by omega)).mono ?_; rintro e w' ⟨rfl, rfl⟩) | (go_at_call 29; refine (name_calls (runS s') _ (by omega)).mono ?_; rintro e w' ⟨rfl, rfl⟩))
          refine ⟨⟨k + 1, s'.drop (runS s').length, by omega, rfl, by rw [ext_from], { l with nm := runS s' }, .slice A l.args.length cp, (Below.heap_setCell _ _ _ _ (by simp)).trans B0.out, blk_set B1.out 4 _, own_setCell OWN.out HNE.out _, HB.out.setCell (by simp) _, HF.out, by simp; omega⟩, by simp [intOf]; omega⟩
      by_cases h76 : (⟨form.toArray⟩ : ByteArray)[k]'hlt = 76
      · have hfn : fieldN 76 = none := rfl
        have c0 : wr.cell? ⟨w.heap.size + 1, 0, none⟩ = some (.int .i64 l.op) := cellB b1 0 rfl
        have f0 := frozenB b1 0
        have c1 : wr.cell? ⟨w.heap.size + 1, 1, none⟩ = some (.string ⟨(l.a).toArray⟩) := cellB b1 1 rfl
        have f1 := frozenB b1 1
        have c2 : wr.cell? ⟨w.heap.size + 1, 2, none⟩ = some (.string ⟨(l.b).toArray⟩) := cellB b1 2 rfl
        have f2 := frozenB b1 2
        have c3 : wr.cell? ⟨w.heap.size + 1, 3, none⟩ = some (.string ⟨(l.c).toArray⟩) := cellB b1 3 rfl
        have f3 := frozenB b1 3
        have c4 : wr.cell? ⟨w.heap.size + 1, 4, none⟩ = some (.string ⟨(l.nm).toArray⟩) := cellB b1 4 rfl
        have f4 := frozenB b1 4
        have c5 : wr.cell? ⟨w.heap.size + 1, 5, none⟩ = some (.slice A l.args.length cp) := cellB b1 5 rfl
        have f5 := frozenB b1 5
        have c6 : wr.cell? ⟨w.heap.size + 1, 6, none⟩ = some (.int .i64 l.cv.k) := cellB b1 6 rfl
        have f6 := frozenB b1 6
        have c7 : wr.cell? ⟨w.heap.size + 1, 7, none⟩ = some (.int .i64 l.cv.n) := cellB b1 7 rfl
        have f7 := frozenB b1 7
        have c8 : wr.cell? ⟨w.heap.size + 1, 8, none⟩ = some (.string ⟨(l.cv.s).toArray⟩) := cellB b1 8 rfl
        have f8 := frozenB b1 8
        have r0 : wr.cell? ⟨w.heap.size, 0, none⟩ = some (.int .i64 0) := cellB b0 0 rfl
        have q0 := frozenB b0 0
        have r1 : wr.cell? ⟨w.heap.size, 1, none⟩ = some (.string ⟨#[]⟩) := cellB b0 1 rfl
        have q1 := frozenB b0 1
        have r2 : wr.cell? ⟨w.heap.size, 2, none⟩ = some (.string ⟨#[]⟩) := cellB b0 2 rfl
        have q2 := frozenB b0 2
        have r3 : wr.cell? ⟨w.heap.size, 3, none⟩ = some (.string ⟨#[]⟩) := cellB b0 3 rfl
        have q3 := frozenB b0 3
        have r4 : wr.cell? ⟨w.heap.size, 4, none⟩ = some (.string ⟨#[]⟩) := cellB b0 4 rfl
        have q4 := frozenB b0 4
        have r5 : wr.cell? ⟨w.heap.size, 5, none⟩ = some (.slice none 0 0) := cellB b0 5 rfl
        have q5 := frozenB b0 5
        have r6 : wr.cell? ⟨w.heap.size, 6, none⟩ = some (.int .i64 0) := cellB b0 6 rfl
        have q6 := frozenB b0 6
        have r7 : wr.cell? ⟨w.heap.size, 7, none⟩ = some (.int .i64 0) := cellB b0 7 rfl
        have q7 := frozenB b0 7
        have r8 : wr.cell? ⟨w.heap.size, 8, none⟩ = some (.string ⟨#[]⟩) := cellB b0 8 rfl
        have q8 := frozenB b0 8
        clear b0 b1
        obtain ⟨V, hV⟩ : ∃ V, readLitV s' = V := ⟨_, rfl⟩
        have HV := Lib.hid hV
        clear hV
        cases hok : readLitB s'
        · have hst : stepF 76 l s' = none := by simp [stepF, hok]
          have HF := Lib.hid (matchF_fail h76 HM.out hst)
          clear hst
          go_wp2_with (first | (go_at_call 54; refine (field_no _ _ _ hfn).mono ?_; rintro e w' ⟨rfl, rfl⟩))
          refine (readLiteral_calls' s' _ (HL.out.below' HB.out) (by omega)).mono ?_
          rw [HV.out, hok]
          rintro e w1 ⟨rfl, hb1⟩
          clear c0 f0 r0 q0 c1 f1 r1 q1 c2 f2 r2 q2 c3 f3 r3 q3 c4 f4 r4 q4 c5 f5 r5 q5 c6 f6 r6 q6 c7 f7 r7 q7 c8 f8 r8 q8
          have z1 := hb1.size
          have B0' := (hb1.block _ (sizeB B0.out)).trans B0.out
          have B1' := (hb1.block _ (sizeB B1.out)).trans B1.out
          have OWN' := pw_own_below OWN.out hb1
          have HB' : Below w.heap.size w w1 := HB.out.trans (hb1.mono HB.out.size)
          have g0 := sizeB B0'
          have g1 := sizeB B1'
          have n0 : ¬ w.heap.size = w1.heap.size := by omega
          have n1 : ¬ w.heap.size + 1 = w1.heap.size := by omega
          have c0 : w1.cell? ⟨w.heap.size + 1, 0, none⟩ = some (.int .i64 l.op) := cellB B1' 0 rfl
          have f0 := frozenB B1' 0
          have c1 : w1.cell? ⟨w.heap.size + 1, 1, none⟩ = some (.string ⟨(l.a).toArray⟩) := cellB B1' 1 rfl
          have f1 := frozenB B1' 1
          have c2 : w1.cell? ⟨w.heap.size + 1, 2, none⟩ = some (.string ⟨(l.b).toArray⟩) := cellB B1' 2 rfl
          have f2 := frozenB B1' 2
          have c3 : w1.cell? ⟨w.heap.size + 1, 3, none⟩ = some (.string ⟨(l.c).toArray⟩) := cellB B1' 3 rfl
          have f3 := frozenB B1' 3
          have c4 : w1.cell? ⟨w.heap.size + 1, 4, none⟩ = some (.string ⟨(l.nm).toArray⟩) := cellB B1' 4 rfl
          have f4 := frozenB B1' 4
          have c5 : w1.cell? ⟨w.heap.size + 1, 5, none⟩ = some (.slice A l.args.length cp) := cellB B1' 5 rfl
          have f5 := frozenB B1' 5
          have c6 : w1.cell? ⟨w.heap.size + 1, 6, none⟩ = some (.int .i64 l.cv.k) := cellB B1' 6 rfl
          have f6 := frozenB B1' 6
          have c7 : w1.cell? ⟨w.heap.size + 1, 7, none⟩ = some (.int .i64 l.cv.n) := cellB B1' 7 rfl
          have f7 := frozenB B1' 7
          have c8 : w1.cell? ⟨w.heap.size + 1, 8, none⟩ = some (.string ⟨(l.cv.s).toArray⟩) := cellB B1' 8 rfl
          have f8 := frozenB B1' 8
          have r0 : w1.cell? ⟨w.heap.size, 0, none⟩ = some (.int .i64 0) := cellB B0' 0 rfl
          have q0 := frozenB B0' 0
          have r1 : w1.cell? ⟨w.heap.size, 1, none⟩ = some (.string ⟨#[]⟩) := cellB B0' 1 rfl
          have q1 := frozenB B0' 1
          have r2 : w1.cell? ⟨w.heap.size, 2, none⟩ = some (.string ⟨#[]⟩) := cellB B0' 2 rfl
          have q2 := frozenB B0' 2
          have r3 : w1.cell? ⟨w.heap.size, 3, none⟩ = some (.string ⟨#[]⟩) := cellB B0' 3 rfl
          have q3 := frozenB B0' 3
          have r4 : w1.cell? ⟨w.heap.size, 4, none⟩ = some (.string ⟨#[]⟩) := cellB B0' 4 rfl
          have q4 := frozenB B0' 4
          have r5 : w1.cell? ⟨w.heap.size, 5, none⟩ = some (.slice none 0 0) := cellB B0' 5 rfl
          have q5 := frozenB B0' 5
          have r6 : w1.cell? ⟨w.heap.size, 6, none⟩ = some (.int .i64 0) := cellB B0' 6 rfl
          have q6 := frozenB B0' 6
          have r7 : w1.cell? ⟨w.heap.size, 7, none⟩ = some (.int .i64 0) := cellB B0' 7 rfl
          have q7 := frozenB B0' 7
          have r8 : w1.cell? ⟨w.heap.size, 8, none⟩ = some (.string ⟨#[]⟩) := cellB B0' 8 rfl
          have q8 := frozenB B0' 8
          replace B0' := Lib.hid B0'
          replace B1' := Lib.hid B1'
          replace OWN' := Lib.hid OWN'
          replace HB' := Lib.hid HB'
          clear hb1
          go_wp2_with fail
          refine bodyPost_ret (v := .tuple #[.agg #[.int .i64 l.op, .string ⟨(l.a).toArray⟩, .string ⟨(l.b).toArray⟩, .string ⟨(l.c).toArray⟩, .string ⟨(l.nm).toArray⟩, .slice A l.args.length cp, .int .i64 l.cv.k, .int .i64 l.cv.n, .string ⟨(l.cv.s).toArray⟩], .bool false]) (results_line rfl rfl rfl ((Below.heap_alloc _ _ _ (by simpa using g0)).trans (blk_put9 B0'.out)) (by simp [Value.oneCell'])) rfl ⟨(below_put9 HB'.out (Nat.le_refl _)).alloc (by simp; omega) _, l, A, cp, ?_, ?_⟩
          · rw [HF.out]; rfl
          · intro l' hl'; rw [HF.out] at hl'; cases hl'
        · have hst : stepF 76 l s' = some ({ l with cv := V }, []) := by simp [stepF, hok, HV.out]
          have HF := Lib.hid (matchF_step h76 HM.out hst)
          clear hst
          go_wp2_with (first | (go_at_call 54; refine (field_no _ _ _ hfn).mono ?_; rintro e w' ⟨rfl, rfl⟩))
          refine (readLiteral_calls' s' _ (HL.out.below' HB.out) (by omega)).mono ?_
          rw [HV.out, hok]
          rintro e w1 ⟨rfl, hb1⟩
          clear c0 f0 r0 q0 c1 f1 r1 q1 c2 f2 r2 q2 c3 f3 r3 q3 c4 f4 r4 q4 c5 f5 r5 q5 c6 f6 r6 q6 c7 f7 r7 q7 c8 f8 r8 q8
          have z1 := hb1.size
          have B0' := (hb1.block _ (sizeB B0.out)).trans B0.out
          have B1' := (hb1.block _ (sizeB B1.out)).trans B1.out
          have OWN' := pw_own_below OWN.out hb1
          have HB' : Below w.heap.size w w1 := HB.out.trans (hb1.mono HB.out.size)
          have g0 := sizeB B0'
          have g1 := sizeB B1'
          have n0 : ¬ w.heap.size = w1.heap.size := by omega
          have n1 : ¬ w.heap.size + 1 = w1.heap.size := by omega
          have c0 : w1.cell? ⟨w.heap.size + 1, 0, none⟩ = some (.int .i64 l.op) := cellB B1' 0 rfl
          have f0 := frozenB B1' 0
          have c1 : w1.cell? ⟨w.heap.size + 1, 1, none⟩ = some (.string ⟨(l.a).toArray⟩) := cellB B1' 1 rfl
          have f1 := frozenB B1' 1
          have c2 : w1.cell? ⟨w.heap.size + 1, 2, none⟩ = some (.string ⟨(l.b).toArray⟩) := cellB B1' 2 rfl
          have f2 := frozenB B1' 2
          have c3 : w1.cell? ⟨w.heap.size + 1, 3, none⟩ = some (.string ⟨(l.c).toArray⟩) := cellB B1' 3 rfl
          have f3 := frozenB B1' 3
          have c4 : w1.cell? ⟨w.heap.size + 1, 4, none⟩ = some (.string ⟨(l.nm).toArray⟩) := cellB B1' 4 rfl
          have f4 := frozenB B1' 4
          have c5 : w1.cell? ⟨w.heap.size + 1, 5, none⟩ = some (.slice A l.args.length cp) := cellB B1' 5 rfl
          have f5 := frozenB B1' 5
          have c6 : w1.cell? ⟨w.heap.size + 1, 6, none⟩ = some (.int .i64 l.cv.k) := cellB B1' 6 rfl
          have f6 := frozenB B1' 6
          have c7 : w1.cell? ⟨w.heap.size + 1, 7, none⟩ = some (.int .i64 l.cv.n) := cellB B1' 7 rfl
          have f7 := frozenB B1' 7
          have c8 : w1.cell? ⟨w.heap.size + 1, 8, none⟩ = some (.string ⟨(l.cv.s).toArray⟩) := cellB B1' 8 rfl
          have f8 := frozenB B1' 8
          have r0 : w1.cell? ⟨w.heap.size, 0, none⟩ = some (.int .i64 0) := cellB B0' 0 rfl
          have q0 := frozenB B0' 0
          have r1 : w1.cell? ⟨w.heap.size, 1, none⟩ = some (.string ⟨#[]⟩) := cellB B0' 1 rfl
          have q1 := frozenB B0' 1
          have r2 : w1.cell? ⟨w.heap.size, 2, none⟩ = some (.string ⟨#[]⟩) := cellB B0' 2 rfl
          have q2 := frozenB B0' 2
          have r3 : w1.cell? ⟨w.heap.size, 3, none⟩ = some (.string ⟨#[]⟩) := cellB B0' 3 rfl
          have q3 := frozenB B0' 3
          have r4 : w1.cell? ⟨w.heap.size, 4, none⟩ = some (.string ⟨#[]⟩) := cellB B0' 4 rfl
          have q4 := frozenB B0' 4
          have r5 : w1.cell? ⟨w.heap.size, 5, none⟩ = some (.slice none 0 0) := cellB B0' 5 rfl
          have q5 := frozenB B0' 5
          have r6 : w1.cell? ⟨w.heap.size, 6, none⟩ = some (.int .i64 0) := cellB B0' 6 rfl
          have q6 := frozenB B0' 6
          have r7 : w1.cell? ⟨w.heap.size, 7, none⟩ = some (.int .i64 0) := cellB B0' 7 rfl
          have q7 := frozenB B0' 7
          have r8 : w1.cell? ⟨w.heap.size, 8, none⟩ = some (.string ⟨#[]⟩) := cellB B0' 8 rfl
          have q8 := frozenB B0' 8
          replace B0' := Lib.hid B0'
          replace B1' := Lib.hid B1'
          replace OWN' := Lib.hid OWN'
          replace HB' := Lib.hid HB'
          clear hb1
          go_wp2_with fail
          refine start_ (n := 8) (S := fun w' => w'.cell? ⟨w1.heap.size, 0, none⟩ = some (.int .i64 V.k) ∧ w'.cell? ⟨w1.heap.size, 1, none⟩ = some (.int .i64 V.n) ∧ w'.cell? ⟨w1.heap.size, 2, none⟩ = some (.string ⟨(V.s).toArray⟩)) (ds := []) #[false, false, false, false, false, false, false, false] (by kernel_rfl) rfl rfl ⟨by go_simp, by go_simp, by go_simp⟩ (fun hHeld => ?_)
          refine take_ (i := 0) (N := some 82) (v := ?_) (a' := ?_) #[true, false, false, false, false, false, false, false] rfl rfl (by kernel_rfl) (fun _ _ _ h => h) (Or.inl ⟨by rfl, ?_⟩) hHeld ?_ ?_
          rotate_left
          · rintro w' ⟨s0, s1, s2⟩
            go_simp
            with_reducible rfl
          rotate_left
          · simp only [Act.put, List.setIfInBounds_toArray, List.set_cons_zero, List.set_cons_succ]
            rfl
          refine pure_ (i := 1) (N := some 83) (v := ?_) (a' := ?_) #[true, true, false, false, false, false, false, false] rfl rfl (by kernel_rfl) (fun _ _ _ h => h) (Or.inl ⟨by rfl, ?_⟩) ?_ ?_
          rotate_left
          · intro w'
            go_simp
            with_reducible rfl
          rotate_left
          · simp only [Act.put, List.setIfInBounds_toArray, List.set_cons_zero, List.set_cons_succ]
            rfl
          refine pure_ (i := 2) (N := some 84) (v := ?_) (a' := ?_) #[true, true, true, false, false, false, false, false] rfl rfl (by kernel_rfl) (fun _ _ _ h => h) (Or.inl ⟨by rfl, ?_⟩) ?_ ?_
          rotate_left
          · intro w'
            go_simp
            with_reducible rfl
          rotate_left
          · simp only [Act.put, List.setIfInBounds_toArray, List.set_cons_zero, List.set_cons_succ]
            rfl
          refine pure_ (i := 3) (N := some 85) (v := ?_) (a' := ?_) #[true, true, true, true, false, false, false, false] rfl rfl (by kernel_rfl) (fun _ _ _ h => h) (Or.inl ⟨by rfl, ?_⟩) ?_ ?_
          rotate_left
          · intro w'
            go_simp
            with_reducible rfl
          rotate_left
          · simp only [Act.put, List.setIfInBounds_toArray, List.set_cons_zero, List.set_cons_succ]
            rfl
          refine pure_ (i := 4) (N := some 86) (v := ?_) (a' := ?_) #[true, true, true, true, true, false, false, false] rfl rfl (by kernel_rfl) (fun _ _ _ h => h) (Or.inl ⟨by rfl, ?_⟩) ?_ ?_
          rotate_left
          · intro w'
            go_simp
            with_reducible rfl
          rotate_left
          · simp only [Act.put, List.setIfInBounds_toArray, List.set_cons_zero, List.set_cons_succ]
            rfl
          refine pure_ (i := 5) (N := some 87) (v := ?_) (a' := ?_) #[true, true, true, true, true, true, false, false] rfl rfl (by kernel_rfl) (fun _ _ _ h => h) (Or.inl ⟨by rfl, ?_⟩) ?_ ?_
          rotate_left
          · intro w'
            go_simp
            with_reducible rfl
          rotate_left
          · simp only [Act.put, List.setIfInBounds_toArray, List.set_cons_zero, List.set_cons_succ]
            rfl
          refine one_ (i := 6) (N := none) #[true, true, true, true, true, true, true, false] rfl rfl (by kernel_rfl) (by simp) (fun K hK => ?_)
          refine skip_ (w1 := (((w1.alloc (.cells #[.int .i64 V.k, .int .i64 V.n, .string ⟨(V.s).toArray⟩] 38)).drew.setCell ⟨w.heap.size + 1, 6, none⟩ (.int .i64 V.k)).setCell ⟨w.heap.size + 1, 7, none⟩ (.int .i64 V.n)).setCell ⟨w.heap.size + 1, 8, none⟩ (.string ⟨(V.s).toArray⟩)) rfl rfl (by go_simp) ?_
          refine hK.out _ _ ⟨by go_simp, by go_simp, by go_simp⟩ (fun hHeld => ?_)
          refine pure_ (i := 7) (N := some 2) (v := ?_) (a' := ?_) #[true, true, true, true, true, true, true, true] rfl rfl (by kernel_rfl) (fun _ _ _ h => h) (Or.inl ⟨by rfl, ?_⟩) ?_ ?_
          rotate_left
          · intro w'
            go_simp
            with_reducible rfl
          rotate_left
          · simp only [Act.put, List.setIfInBounds_toArray, List.set_cons_zero, List.set_cons_succ]
            rfl
          refine done_ (by kernel_rfl) ?_
          go_wp2_with fail
          refine ⟨⟨k + 1, [], by omega, rfl, rfl, { l with cv := V }, .slice A l.args.length cp, ?_, ?_, ?_, ?_, HF.out, by first | omega | (simp; done) | (simp; omega)⟩, by simp [intOf]; omega⟩
          · exact (Below.heap_alloc _ _ _ (by simpa using g0)).trans ((Below.heap_setCell _ _ _ _ (by simp)).trans ((Below.heap_setCell _ _ _ _ (by simp)).trans ((Below.heap_setCell _ _ _ _ (by simp)).trans B0'.out)))
          · exact (Below.heap_alloc _ _ _ (by simpa using g1)).trans (blk_set (blk_set (blk_set B1'.out 6 _) 7 _) 8 _)
          · exact (((own_set' (own_set' (own_set' OWN'.out HNE.out _) HNE.out _) HNE.out _).alloc _).drew)
          · exact ((((HB'.out.setCell (by simp) _).setCell (by simp) _).setCell (by simp) _).alloc (by simp; omega) _).drew
      by_cases h73 : (⟨form.toArray⟩ : ByteArray)[k]'hlt = 73
      · have hfn : fieldN 73 = none := rfl
        have c0 : wr.cell? ⟨w.heap.size + 1, 0, none⟩ = some (.int .i64 l.op) := cellB b1 0 rfl
        have f0 := frozenB b1 0
        have c1 : wr.cell? ⟨w.heap.size + 1, 1, none⟩ = some (.string ⟨(l.a).toArray⟩) := cellB b1 1 rfl
        have f1 := frozenB b1 1
        have c2 : wr.cell? ⟨w.heap.size + 1, 2, none⟩ = some (.string ⟨(l.b).toArray⟩) := cellB b1 2 rfl
        have f2 := frozenB b1 2
        have c3 : wr.cell? ⟨w.heap.size + 1, 3, none⟩ = some (.string ⟨(l.c).toArray⟩) := cellB b1 3 rfl
        have f3 := frozenB b1 3
        have c4 : wr.cell? ⟨w.heap.size + 1, 4, none⟩ = some (.string ⟨(l.nm).toArray⟩) := cellB b1 4 rfl
        have f4 := frozenB b1 4
        have c5 : wr.cell? ⟨w.heap.size + 1, 5, none⟩ = some (.slice A l.args.length cp) := cellB b1 5 rfl
        have f5 := frozenB b1 5
        have c6 : wr.cell? ⟨w.heap.size + 1, 6, none⟩ = some (.int .i64 l.cv.k) := cellB b1 6 rfl
        have f6 := frozenB b1 6
        have c7 : wr.cell? ⟨w.heap.size + 1, 7, none⟩ = some (.int .i64 l.cv.n) := cellB b1 7 rfl
        have f7 := frozenB b1 7
        have c8 : wr.cell? ⟨w.heap.size + 1, 8, none⟩ = some (.string ⟨(l.cv.s).toArray⟩) := cellB b1 8 rfl
        have f8 := frozenB b1 8
        have r0 : wr.cell? ⟨w.heap.size, 0, none⟩ = some (.int .i64 0) := cellB b0 0 rfl
        have q0 := frozenB b0 0
        have r1 : wr.cell? ⟨w.heap.size, 1, none⟩ = some (.string ⟨#[]⟩) := cellB b0 1 rfl
        have q1 := frozenB b0 1
        have r2 : wr.cell? ⟨w.heap.size, 2, none⟩ = some (.string ⟨#[]⟩) := cellB b0 2 rfl
        have q2 := frozenB b0 2
        have r3 : wr.cell? ⟨w.heap.size, 3, none⟩ = some (.string ⟨#[]⟩) := cellB b0 3 rfl
        have q3 := frozenB b0 3
        have r4 : wr.cell? ⟨w.heap.size, 4, none⟩ = some (.string ⟨#[]⟩) := cellB b0 4 rfl
        have q4 := frozenB b0 4
        have r5 : wr.cell? ⟨w.heap.size, 5, none⟩ = some (.slice none 0 0) := cellB b0 5 rfl
        have q5 := frozenB b0 5
        have r6 : wr.cell? ⟨w.heap.size, 6, none⟩ = some (.int .i64 0) := cellB b0 6 rfl
        have q6 := frozenB b0 6
        have r7 : wr.cell? ⟨w.heap.size, 7, none⟩ = some (.int .i64 0) := cellB b0 7 rfl
        have q7 := frozenB b0 7
        have r8 : wr.cell? ⟨w.heap.size, 8, none⟩ = some (.string ⟨#[]⟩) := cellB b0 8 rfl
        have q8 := frozenB b0 8
        clear b0 b1
        obtain ⟨wd, hwd⟩ : ∃ wd, (Lib.cut s' [32]).1 = wd := ⟨_, rfl⟩
        have hwl : wd.length ≤ s'.length := by rw [← hwd]; exact cut_length s' [32]
        have HWD := Lib.hid hwd
        clear hwd
        obtain ⟨V, hV⟩ : ∃ V, readLitV wd = V := ⟨_, rfl⟩
        have HV := Lib.hid hV
        clear hV
        cases hok : readLitB wd
        · have hst : stepF 73 l s' = none := by simp [stepF, HWD.out, hok]
          have HF := Lib.hid (matchF_fail h73 HM.out hst)
          clear hst
          go_wp2_with (first | (go_at_call 54; refine (field_no _ _ _ hfn).mono ?_; rintro e w' ⟨rfl, rfl⟩))
          refine (cut_calls s' [32] _ (HL.out.below' HB.out) (by omega)).mono ?_
          rw [HWD.out]
          rintro e wc ⟨rfl, nd, hnd⟩
          have HND := Lib.hid hnd
          clear hnd
          go_wp2_with fail
          have hbc : Below wr.heap.size wr wc := by rw [HND.out]; exact below_drewN' (Below.refl _ _) nd
          refine (readLiteral_calls' wd _ ((HL.out.below' HB.out).below' hbc) (by omega)).mono ?_
          rw [HV.out, hok]
          rintro e w1 ⟨rfl, hb1⟩
          replace hb1 := hbc.trans (hb1.mono hbc.size)
          clear c0 f0 r0 q0 c1 f1 r1 q1 c2 f2 r2 q2 c3 f3 r3 q3 c4 f4 r4 q4 c5 f5 r5 q5 c6 f6 r6 q6 c7 f7 r7 q7 c8 f8 r8 q8
          have z1 := hb1.size
          have B0' := (hb1.block _ (sizeB B0.out)).trans B0.out
          have B1' := (hb1.block _ (sizeB B1.out)).trans B1.out
          have OWN' := pw_own_below OWN.out hb1
          have HB' : Below w.heap.size w w1 := HB.out.trans (hb1.mono HB.out.size)
          have g0 := sizeB B0'
          have g1 := sizeB B1'
          have n0 : ¬ w.heap.size = w1.heap.size := by omega
          have n1 : ¬ w.heap.size + 1 = w1.heap.size := by omega
          have c0 : w1.cell? ⟨w.heap.size + 1, 0, none⟩ = some (.int .i64 l.op) := cellB B1' 0 rfl
          have f0 := frozenB B1' 0
          have c1 : w1.cell? ⟨w.heap.size + 1, 1, none⟩ = some (.string ⟨(l.a).toArray⟩) := cellB B1' 1 rfl
          have f1 := frozenB B1' 1
          have c2 : w1.cell? ⟨w.heap.size + 1, 2, none⟩ = some (.string ⟨(l.b).toArray⟩) := cellB B1' 2 rfl
          have f2 := frozenB B1' 2
          have c3 : w1.cell? ⟨w.heap.size + 1, 3, none⟩ = some (.string ⟨(l.c).toArray⟩) := cellB B1' 3 rfl
          have f3 := frozenB B1' 3
          have c4 : w1.cell? ⟨w.heap.size + 1, 4, none⟩ = some (.string ⟨(l.nm).toArray⟩) := cellB B1' 4 rfl
          have f4 := frozenB B1' 4
          have c5 : w1.cell? ⟨w.heap.size + 1, 5, none⟩ = some (.slice A l.args.length cp) := cellB B1' 5 rfl
          have f5 := frozenB B1' 5
          have c6 : w1.cell? ⟨w.heap.size + 1, 6, none⟩ = some (.int .i64 l.cv.k) := cellB B1' 6 rfl
          have f6 := frozenB B1' 6
          have c7 : w1.cell? ⟨w.heap.size + 1, 7, none⟩ = some (.int .i64 l.cv.n) := cellB B1' 7 rfl
          have f7 := frozenB B1' 7
          have c8 : w1.cell? ⟨w.heap.size + 1, 8, none⟩ = some (.string ⟨(l.cv.s).toArray⟩) := cellB B1' 8 rfl
          have f8 := frozenB B1' 8
          have r0 : w1.cell? ⟨w.heap.size, 0, none⟩ = some (.int .i64 0) := cellB B0' 0 rfl
          have q0 := frozenB B0' 0
          have r1 : w1.cell? ⟨w.heap.size, 1, none⟩ = some (.string ⟨#[]⟩) := cellB B0' 1 rfl
          have q1 := frozenB B0' 1
          have r2 : w1.cell? ⟨w.heap.size, 2, none⟩ = some (.string ⟨#[]⟩) := cellB B0' 2 rfl
          have q2 := frozenB B0' 2
          have r3 : w1.cell? ⟨w.heap.size, 3, none⟩ = some (.string ⟨#[]⟩) := cellB B0' 3 rfl
          have q3 := frozenB B0' 3
          have r4 : w1.cell? ⟨w.heap.size, 4, none⟩ = some (.string ⟨#[]⟩) := cellB B0' 4 rfl
          have q4 := frozenB B0' 4
          have r5 : w1.cell? ⟨w.heap.size, 5, none⟩ = some (.slice none 0 0) := cellB B0' 5 rfl
          have q5 := frozenB B0' 5
          have r6 : w1.cell? ⟨w.heap.size, 6, none⟩ = some (.int .i64 0) := cellB B0' 6 rfl
          have q6 := frozenB B0' 6
          have r7 : w1.cell? ⟨w.heap.size, 7, none⟩ = some (.int .i64 0) := cellB B0' 7 rfl
          have q7 := frozenB B0' 7
          have r8 : w1.cell? ⟨w.heap.size, 8, none⟩ = some (.string ⟨#[]⟩) := cellB B0' 8 rfl
          have q8 := frozenB B0' 8
          replace B0' := Lib.hid B0'
          replace B1' := Lib.hid B1'
          replace OWN' := Lib.hid OWN'
          replace HB' := Lib.hid HB'
          clear hb1
          go_wp2_with fail
          refine bodyPost_ret (v := .tuple #[.agg #[.int .i64 l.op, .string ⟨(l.a).toArray⟩, .string ⟨(l.b).toArray⟩, .string ⟨(l.c).toArray⟩, .string ⟨(l.nm).toArray⟩, .slice A l.args.length cp, .int .i64 l.cv.k, .int .i64 l.cv.n, .string ⟨(l.cv.s).toArray⟩], .bool false]) (results_line rfl rfl rfl ((Below.heap_alloc _ _ _ (by simpa using g0)).trans (blk_put9 B0'.out)) (by simp [Value.oneCell'])) rfl ⟨(below_put9 HB'.out (Nat.le_refl _)).alloc (by simp; omega) _, l, A, cp, ?_, ?_⟩
          · rw [HF.out]; rfl
          · intro l' hl'; rw [HF.out] at hl'; cases hl'
        · by_cases hk3 : V.k = 3
          · have hst : stepF 73 l s' = some ({ l with cv := V }, s'.drop wd.length) := by simp [stepF, HWD.out, hok, HV.out, hk3]
            have HF := Lib.hid (matchF_step h73 HM.out hst)
            clear hst
            have hk3' : (V.k == 3) = true := by simpa using hk3
            have HK3 := Lib.hid hk3
            clear hk3
            go_wp2_with (first | (go_at_call 54; refine (field_no _ _ _ hfn).mono ?_; rintro e w' ⟨rfl, rfl⟩))
            refine (cut_calls s' [32] _ (HL.out.below' HB.out) (by omega)).mono ?_
            rw [HWD.out]
            rintro e wc ⟨rfl, nd, hnd⟩
            have HND := Lib.hid hnd
            clear hnd
            go_wp2_with fail
            have hbc : Below wr.heap.size wr wc := by rw [HND.out]; exact below_drewN' (Below.refl _ _) nd
            refine (readLiteral_calls' wd _ ((HL.out.below' HB.out).below' hbc) (by omega)).mono ?_
            rw [HV.out, hok]
            rintro e w1 ⟨rfl, hb1⟩
            replace hb1 := hbc.trans (hb1.mono hbc.size)
            clear c0 f0 r0 q0 c1 f1 r1 q1 c2 f2 r2 q2 c3 f3 r3 q3 c4 f4 r4 q4 c5 f5 r5 q5 c6 f6 r6 q6 c7 f7 r7 q7 c8 f8 r8 q8
            have z1 := hb1.size
            have B0' := (hb1.block _ (sizeB B0.out)).trans B0.out
            have B1' := (hb1.block _ (sizeB B1.out)).trans B1.out
            have OWN' := pw_own_below OWN.out hb1
            have HB' : Below w.heap.size w w1 := HB.out.trans (hb1.mono HB.out.size)
            have g0 := sizeB B0'
            have g1 := sizeB B1'
            have n0 : ¬ w.heap.size = w1.heap.size := by omega
            have n1 : ¬ w.heap.size + 1 = w1.heap.size := by omega
            have c0 : w1.cell? ⟨w.heap.size + 1, 0, none⟩ = some (.int .i64 l.op) := cellB B1' 0 rfl
            have f0 := frozenB B1' 0
            have c1 : w1.cell? ⟨w.heap.size + 1, 1, none⟩ = some (.string ⟨(l.a).toArray⟩) := cellB B1' 1 rfl
            have f1 := frozenB B1' 1
            have c2 : w1.cell? ⟨w.heap.size + 1, 2, none⟩ = some (.string ⟨(l.b).toArray⟩) := cellB B1' 2 rfl
            have f2 := frozenB B1' 2
            have c3 : w1.cell? ⟨w.heap.size + 1, 3, none⟩ = some (.string ⟨(l.c).toArray⟩) := cellB B1' 3 rfl
            have f3 := frozenB B1' 3
            have c4 : w1.cell? ⟨w.heap.size + 1, 4, none⟩ = some (.string ⟨(l.nm).toArray⟩) := cellB B1' 4 rfl
            have f4 := frozenB B1' 4
            have c5 : w1.cell? ⟨w.heap.size + 1, 5, none⟩ = some (.slice A l.args.length cp) := cellB B1' 5 rfl
            have f5 := frozenB B1' 5
            have c6 : w1.cell? ⟨w.heap.size + 1, 6, none⟩ = some (.int .i64 l.cv.k) := cellB B1' 6 rfl
            have f6 := frozenB B1' 6
            have c7 : w1.cell? ⟨w.heap.size + 1, 7, none⟩ = some (.int .i64 l.cv.n) := cellB B1' 7 rfl
            have f7 := frozenB B1' 7
            have c8 : w1.cell? ⟨w.heap.size + 1, 8, none⟩ = some (.string ⟨(l.cv.s).toArray⟩) := cellB B1' 8 rfl
            have f8 := frozenB B1' 8
            have r0 : w1.cell? ⟨w.heap.size, 0, none⟩ = some (.int .i64 0) := cellB B0' 0 rfl
            have q0 := frozenB B0' 0
            have r1 : w1.cell? ⟨w.heap.size, 1, none⟩ = some (.string ⟨#[]⟩) := cellB B0' 1 rfl
            have q1 := frozenB B0' 1
            have r2 : w1.cell? ⟨w.heap.size, 2, none⟩ = some (.string ⟨#[]⟩) := cellB B0' 2 rfl
            have q2 := frozenB B0' 2
            have r3 : w1.cell? ⟨w.heap.size, 3, none⟩ = some (.string ⟨#[]⟩) := cellB B0' 3 rfl
            have q3 := frozenB B0' 3
            have r4 : w1.cell? ⟨w.heap.size, 4, none⟩ = some (.string ⟨#[]⟩) := cellB B0' 4 rfl
            have q4 := frozenB B0' 4
            have r5 : w1.cell? ⟨w.heap.size, 5, none⟩ = some (.slice none 0 0) := cellB B0' 5 rfl
            have q5 := frozenB B0' 5
            have r6 : w1.cell? ⟨w.heap.size, 6, none⟩ = some (.int .i64 0) := cellB B0' 6 rfl
            have q6 := frozenB B0' 6
            have r7 : w1.cell? ⟨w.heap.size, 7, none⟩ = some (.int .i64 0) := cellB B0' 7 rfl
            have q7 := frozenB B0' 7
            have r8 : w1.cell? ⟨w.heap.size, 8, none⟩ = some (.string ⟨#[]⟩) := cellB B0' 8 rfl
            have q8 := frozenB B0' 8
            replace B0' := Lib.hid B0'
            replace B1' := Lib.hid B1'
            replace OWN' := Lib.hid OWN'
            replace HB' := Lib.hid HB'
            clear hb1
            go_wp2_with fail
            refine start_ (n := 8) (S := fun w' => w'.cell? ⟨w1.heap.size, 0, none⟩ = some (.int .i64 V.k) ∧ w'.cell? ⟨w1.heap.size, 1, none⟩ = some (.int .i64 V.n) ∧ w'.cell? ⟨w1.heap.size, 2, none⟩ = some (.string ⟨(V.s).toArray⟩)) (ds := []) #[false, false, false, false, false, false, false, false] (by kernel_rfl) rfl rfl ⟨by go_simp, by go_simp, by go_simp⟩ (fun hHeld => ?_)
            refine take_ (i := 0) (N := some 82) (v := ?_) (a' := ?_) #[true, false, false, false, false, false, false, false] rfl rfl (by kernel_rfl) (fun _ _ _ h => h) (Or.inl ⟨by rfl, ?_⟩) hHeld ?_ ?_
            rotate_left
            · rintro w' ⟨s0, s1, s2⟩
              go_simp
              with_reducible rfl
            rotate_left
            · simp only [Act.put, List.setIfInBounds_toArray, List.set_cons_zero, List.set_cons_succ]
              rfl
            refine pure_ (i := 1) (N := some 83) (v := ?_) (a' := ?_) #[true, true, false, false, false, false, false, false] rfl rfl (by kernel_rfl) (fun _ _ _ h => h) (Or.inl ⟨by rfl, ?_⟩) ?_ ?_
            rotate_left
            · intro w'
              go_simp
              with_reducible rfl
            rotate_left
            · simp only [Act.put, List.setIfInBounds_toArray, List.set_cons_zero, List.set_cons_succ]
              rfl
            refine pure_ (i := 2) (N := some 84) (v := ?_) (a' := ?_) #[true, true, true, false, false, false, false, false] rfl rfl (by kernel_rfl) (fun _ _ _ h => h) (Or.inl ⟨by rfl, ?_⟩) ?_ ?_
            rotate_left
            · intro w'
              go_simp
              with_reducible rfl
            rotate_left
            · simp only [Act.put, List.setIfInBounds_toArray, List.set_cons_zero, List.set_cons_succ]
              rfl
            refine pure_ (i := 3) (N := some 85) (v := ?_) (a' := ?_) #[true, true, true, true, false, false, false, false] rfl rfl (by kernel_rfl) (fun _ _ _ h => h) (Or.inl ⟨by rfl, ?_⟩) ?_ ?_
            rotate_left
            · intro w'
              go_simp
              with_reducible rfl
            rotate_left
            · simp only [Act.put, List.setIfInBounds_toArray, List.set_cons_zero, List.set_cons_succ]
              rfl
            refine pure_ (i := 4) (N := some 86) (v := ?_) (a' := ?_) #[true, true, true, true, true, false, false, false] rfl rfl (by kernel_rfl) (fun _ _ _ h => h) (Or.inl ⟨by rfl, ?_⟩) ?_ ?_
            rotate_left
            · intro w'
              go_simp
              with_reducible rfl
            rotate_left
            · simp only [Act.put, List.setIfInBounds_toArray, List.set_cons_zero, List.set_cons_succ]
              rfl
            refine pure_ (i := 5) (N := some 87) (v := ?_) (a' := ?_) #[true, true, true, true, true, true, false, false] rfl rfl (by kernel_rfl) (fun _ _ _ h => h) (Or.inl ⟨by rfl, ?_⟩) ?_ ?_
            rotate_left
            · intro w'
              go_simp
              with_reducible rfl
            rotate_left
            · simp only [Act.put, List.setIfInBounds_toArray, List.set_cons_zero, List.set_cons_succ]
              rfl
            refine one_ (i := 6) (N := none) #[true, true, true, true, true, true, true, false] rfl rfl (by kernel_rfl) (by simp) (fun K hK => ?_)
            refine skip_ (w1 := (((w1.alloc (.cells #[.int .i64 V.k, .int .i64 V.n, .string ⟨(V.s).toArray⟩] 38)).drew.setCell ⟨w.heap.size + 1, 6, none⟩ (.int .i64 V.k)).setCell ⟨w.heap.size + 1, 7, none⟩ (.int .i64 V.n)).setCell ⟨w.heap.size + 1, 8, none⟩ (.string ⟨(V.s).toArray⟩)) rfl rfl (by go_simp) ?_
            refine hK.out _ _ ⟨by go_simp, by go_simp, by go_simp⟩ (fun hHeld => ?_)
            refine pure_ (i := 7) (N := some 2) (v := ?_) (a' := ?_) #[true, true, true, true, true, true, true, true] rfl rfl (by kernel_rfl) (fun _ _ _ h => h) (Or.inl ⟨by rfl, ?_⟩) ?_ ?_
            rotate_left
            · intro w'
              go_simp
              with_reducible rfl
            rotate_left
            · simp only [Act.put, List.setIfInBounds_toArray, List.set_cons_zero, List.set_cons_succ]
              rfl
            refine done_ (by kernel_rfl) ?_
            go_wp2_with fail
            refine ⟨⟨k + 1, s'.drop wd.length, by omega, rfl, by rw [ext_from], { l with cv := V }, .slice A l.args.length cp, ?_, ?_, ?_, ?_, HF.out, by first | omega | (simp; done) | (simp; omega)⟩, by simp [intOf]; omega⟩
            · exact (Below.heap_alloc _ _ _ (by simpa using g0)).trans ((Below.heap_setCell _ _ _ _ (by simp)).trans ((Below.heap_setCell _ _ _ _ (by simp)).trans ((Below.heap_setCell _ _ _ _ (by simp)).trans B0'.out)))
            · exact (Below.heap_alloc _ _ _ (by simpa using g1)).trans (blk_set (blk_set (blk_set B1'.out 6 _) 7 _) 8 _)
            · exact (((own_set' (own_set' (own_set' OWN'.out HNE.out _) HNE.out _) HNE.out _).alloc _).drew)
            · exact ((((HB'.out.setCell (by simp) _).setCell (by simp) _).setCell (by simp) _).alloc (by simp; omega) _).drew
          · have hst : stepF 73 l s' = none := by simp [stepF, HWD.out, hok, HV.out, hk3]
            have HF := Lib.hid (matchF_fail h73 HM.out hst)
            clear hst
            have hk3' : (V.k == 3) = false := by simpa using hk3
            clear hk3
            go_wp2_with (first | (go_at_call 54; refine (field_no _ _ _ hfn).mono ?_; rintro e w' ⟨rfl, rfl⟩))
            refine (cut_calls s' [32] _ (HL.out.below' HB.out) (by omega)).mono ?_
            rw [HWD.out]
            rintro e wc ⟨rfl, nd, hnd⟩
            have HND := Lib.hid hnd
            clear hnd
            go_wp2_with fail
            have hbc : Below wr.heap.size wr wc := by rw [HND.out]; exact below_drewN' (Below.refl _ _) nd
            refine (readLiteral_calls' wd _ ((HL.out.below' HB.out).below' hbc) (by omega)).mono ?_
            rw [HV.out, hok]
            rintro e w1 ⟨rfl, hb1⟩
            replace hb1 := hbc.trans (hb1.mono hbc.size)
            clear c0 f0 r0 q0 c1 f1 r1 q1 c2 f2 r2 q2 c3 f3 r3 q3 c4 f4 r4 q4 c5 f5 r5 q5 c6 f6 r6 q6 c7 f7 r7 q7 c8 f8 r8 q8
            have z1 := hb1.size
            have B0' := (hb1.block _ (sizeB B0.out)).trans B0.out
            have B1' := (hb1.block _ (sizeB B1.out)).trans B1.out
            have OWN' := pw_own_below OWN.out hb1
            have HB' : Below w.heap.size w w1 := HB.out.trans (hb1.mono HB.out.size)
            have g0 := sizeB B0'
            have g1 := sizeB B1'
            have n0 : ¬ w.heap.size = w1.heap.size := by omega
            have n1 : ¬ w.heap.size + 1 = w1.heap.size := by omega
            have c0 : w1.cell? ⟨w.heap.size + 1, 0, none⟩ = some (.int .i64 l.op) := cellB B1' 0 rfl
            have f0 := frozenB B1' 0
            have c1 : w1.cell? ⟨w.heap.size + 1, 1, none⟩ = some (.string ⟨(l.a).toArray⟩) := cellB B1' 1 rfl
            have f1 := frozenB B1' 1
            have c2 : w1.cell? ⟨w.heap.size + 1, 2, none⟩ = some (.string ⟨(l.b).toArray⟩) := cellB B1' 2 rfl
            have f2 := frozenB B1' 2
            have c3 : w1.cell? ⟨w.heap.size + 1, 3, none⟩ = some (.string ⟨(l.c).toArray⟩) := cellB B1' 3 rfl
            have f3 := frozenB B1' 3
            have c4 : w1.cell? ⟨w.heap.size + 1, 4, none⟩ = some (.string ⟨(l.nm).toArray⟩) := cellB B1' 4 rfl
            have f4 := frozenB B1' 4
            have c5 : w1.cell? ⟨w.heap.size + 1, 5, none⟩ = some (.slice A l.args.length cp) := cellB B1' 5 rfl
            have f5 := frozenB B1' 5
            have c6 : w1.cell? ⟨w.heap.size + 1, 6, none⟩ = some (.int .i64 l.cv.k) := cellB B1' 6 rfl
            have f6 := frozenB B1' 6
            have c7 : w1.cell? ⟨w.heap.size + 1, 7, none⟩ = some (.int .i64 l.cv.n) := cellB B1' 7 rfl
            have f7 := frozenB B1' 7
            have c8 : w1.cell? ⟨w.heap.size + 1, 8, none⟩ = some (.string ⟨(l.cv.s).toArray⟩) := cellB B1' 8 rfl
            have f8 := frozenB B1' 8
            have r0 : w1.cell? ⟨w.heap.size, 0, none⟩ = some (.int .i64 0) := cellB B0' 0 rfl
            have q0 := frozenB B0' 0
            have r1 : w1.cell? ⟨w.heap.size, 1, none⟩ = some (.string ⟨#[]⟩) := cellB B0' 1 rfl
            have q1 := frozenB B0' 1
            have r2 : w1.cell? ⟨w.heap.size, 2, none⟩ = some (.string ⟨#[]⟩) := cellB B0' 2 rfl
            have q2 := frozenB B0' 2
            have r3 : w1.cell? ⟨w.heap.size, 3, none⟩ = some (.string ⟨#[]⟩) := cellB B0' 3 rfl
            have q3 := frozenB B0' 3
            have r4 : w1.cell? ⟨w.heap.size, 4, none⟩ = some (.string ⟨#[]⟩) := cellB B0' 4 rfl
            have q4 := frozenB B0' 4
            have r5 : w1.cell? ⟨w.heap.size, 5, none⟩ = some (.slice none 0 0) := cellB B0' 5 rfl
            have q5 := frozenB B0' 5
            have r6 : w1.cell? ⟨w.heap.size, 6, none⟩ = some (.int .i64 0) := cellB B0' 6 rfl
            have q6 := frozenB B0' 6
            have r7 : w1.cell? ⟨w.heap.size, 7, none⟩ = some (.int .i64 0) := cellB B0' 7 rfl
            have q7 := frozenB B0' 7
            have r8 : w1.cell? ⟨w.heap.size, 8, none⟩ = some (.string ⟨#[]⟩) := cellB B0' 8 rfl
            have q8 := frozenB B0' 8
            replace B0' := Lib.hid B0'
            replace B1' := Lib.hid B1'
            replace OWN' := Lib.hid OWN'
            replace HB' := Lib.hid HB'
            clear hb1
            go_wp2_with fail
            refine bodyPost_ret (v := .tuple #[.agg #[.int .i64 l.op, .string ⟨(l.a).toArray⟩, .string ⟨(l.b).toArray⟩, .string ⟨(l.c).toArray⟩, .string ⟨(l.nm).toArray⟩, .slice A l.args.length cp, .int .i64 l.cv.k, .int .i64 l.cv.n, .string ⟨(l.cv.s).toArray⟩], .bool false]) (results_line rfl rfl rfl ((Below.heap_alloc _ _ _ (by simpa using g0)).trans (blk_put9 B0'.out)) (by simp [Value.oneCell'])) rfl ⟨(below_put9 HB'.out (Nat.le_refl _)).alloc (by simp; omega) _, l, A, cp, ?_, ?_⟩
            · rw [HF.out]; rfl
            · intro l' hl'; rw [HF.out] at hl'; cases hl'
      by_cases h126 : (⟨form.toArray⟩ : ByteArray)[k]'hlt = 126
      · have hfn : fieldN 126 = none := rfl
        have c0 : wr.cell? ⟨w.heap.size + 1, 0, none⟩ = some (.int .i64 l.op) := cellB b1 0 rfl
        have f0 := frozenB b1 0
        have c1 : wr.cell? ⟨w.heap.size + 1, 1, none⟩ = some (.string ⟨(l.a).toArray⟩) := cellB b1 1 rfl
        have f1 := frozenB b1 1
        have c2 : wr.cell? ⟨w.heap.size + 1, 2, none⟩ = some (.string ⟨(l.b).toArray⟩) := cellB b1 2 rfl
        have f2 := frozenB b1 2
        have c3 : wr.cell? ⟨w.heap.size + 1, 3, none⟩ = some (.string ⟨(l.c).toArray⟩) := cellB b1 3 rfl
        have f3 := frozenB b1 3
        have c4 : wr.cell? ⟨w.heap.size + 1, 4, none⟩ = some (.string ⟨(l.nm).toArray⟩) := cellB b1 4 rfl
        have f4 := frozenB b1 4
        have c5 : wr.cell? ⟨w.heap.size + 1, 5, none⟩ = some (.slice A l.args.length cp) := cellB b1 5 rfl
        have f5 := frozenB b1 5
        have c6 : wr.cell? ⟨w.heap.size + 1, 6, none⟩ = some (.int .i64 l.cv.k) := cellB b1 6 rfl
        have f6 := frozenB b1 6
        have c7 : wr.cell? ⟨w.heap.size + 1, 7, none⟩ = some (.int .i64 l.cv.n) := cellB b1 7 rfl
        have f7 := frozenB b1 7
        have c8 : wr.cell? ⟨w.heap.size + 1, 8, none⟩ = some (.string ⟨(l.cv.s).toArray⟩) := cellB b1 8 rfl
        have f8 := frozenB b1 8
        have r0 : wr.cell? ⟨w.heap.size, 0, none⟩ = some (.int .i64 0) := cellB b0 0 rfl
        have q0 := frozenB b0 0
        have r1 : wr.cell? ⟨w.heap.size, 1, none⟩ = some (.string ⟨#[]⟩) := cellB b0 1 rfl
        have q1 := frozenB b0 1
        have r2 : wr.cell? ⟨w.heap.size, 2, none⟩ = some (.string ⟨#[]⟩) := cellB b0 2 rfl
        have q2 := frozenB b0 2
        have r3 : wr.cell? ⟨w.heap.size, 3, none⟩ = some (.string ⟨#[]⟩) := cellB b0 3 rfl
        have q3 := frozenB b0 3
        have r4 : wr.cell? ⟨w.heap.size, 4, none⟩ = some (.string ⟨#[]⟩) := cellB b0 4 rfl
        have q4 := frozenB b0 4
        have r5 : wr.cell? ⟨w.heap.size, 5, none⟩ = some (.slice none 0 0) := cellB b0 5 rfl
        have q5 := frozenB b0 5
        have r6 : wr.cell? ⟨w.heap.size, 6, none⟩ = some (.int .i64 0) := cellB b0 6 rfl
        have q6 := frozenB b0 6
        have r7 : wr.cell? ⟨w.heap.size, 7, none⟩ = some (.int .i64 0) := cellB b0 7 rfl
        have q7 := frozenB b0 7
        have r8 : wr.cell? ⟨w.heap.size, 8, none⟩ = some (.string ⟨#[]⟩) := cellB b0 8 rfl
        have q8 := frozenB b0 8
        clear b0 b1
        go_wp2_with (first | (go_at_call 54; refine (field_no _ _ _ hfn).mono ?_; rintro e w' ⟨rfl, rfl⟩))
        obtain ⟨wo, rfl⟩ : ∃ wo : World, wo = wr := ⟨_, rfl⟩
        clear c0 f0 r0 q0 c1 f1 r1 q1 c2 f2 r2 q2 c3 f3 r3 q3 c4 f4 r4 q4 c5 f5 r5 q5 c6 f6 r6 q6 c7 f7 r7 q7 c8 f8 r8 q8
        go_loopw [2, 15] (fun t _ w2 => ∃ s2 : Str, t = .string ⟨s2.toArray⟩ ∧ ARel w s l (argsF (s'.length + 1) l.args s') s2 w2) (fun t _ _ => strLen t)
        case atStart => exact ⟨s', rfl, l.args, _, B0.out, B1.out, OWN.out, HB.out, rfl, hl⟩
        case round =>
          obtain ⟨s2, rfl, acc, v2, b0, b1, own, hb2, ha, hl2⟩ := hrel
          obtain ⟨A2, cp2, rfl⟩ := own_slice own
          have hne2 : some (w.heap.size + 1) ≠ (Value.slice A2 acc.length cp2).ownBlock := own_ne own b1 (by decide)
          have HA := Lib.hid ha
          have BB0 := Lib.hid b0
          have BB1 := Lib.hid b1
          have OWN2 := Lib.hid own
          have HB2 := Lib.hid hb2
          have HNE2 := Lib.hid hne2
          clear ha own hb2 hne2
          have c0 : wr.cell? ⟨w.heap.size + 1, 0, none⟩ = some (.int .i64 l.op) := cellB b1 0 rfl
          have f0 := frozenB b1 0
          have c1 : wr.cell? ⟨w.heap.size + 1, 1, none⟩ = some (.string ⟨(l.a).toArray⟩) := cellB b1 1 rfl
          have f1 := frozenB b1 1
          have c2 : wr.cell? ⟨w.heap.size + 1, 2, none⟩ = some (.string ⟨(l.b).toArray⟩) := cellB b1 2 rfl
          have f2 := frozenB b1 2
          have c3 : wr.cell? ⟨w.heap.size + 1, 3, none⟩ = some (.string ⟨(l.c).toArray⟩) := cellB b1 3 rfl
          have f3 := frozenB b1 3
          have c4 : wr.cell? ⟨w.heap.size + 1, 4, none⟩ = some (.string ⟨(l.nm).toArray⟩) := cellB b1 4 rfl
          have f4 := frozenB b1 4
          have c5 : wr.cell? ⟨w.heap.size + 1, 5, none⟩ = some (.slice A2 acc.length cp2) := cellB b1 5 rfl
          have f5 := frozenB b1 5
          have c6 : wr.cell? ⟨w.heap.size + 1, 6, none⟩ = some (.int .i64 l.cv.k) := cellB b1 6 rfl
          have f6 := frozenB b1 6
          have c7 : wr.cell? ⟨w.heap.size + 1, 7, none⟩ = some (.int .i64 l.cv.n) := cellB b1 7 rfl
          have f7 := frozenB b1 7
          have c8 : wr.cell? ⟨w.heap.size + 1, 8, none⟩ = some (.string ⟨(l.cv.s).toArray⟩) := cellB b1 8 rfl
          have f8 := frozenB b1 8
          have r0 : wr.cell? ⟨w.heap.size, 0, none⟩ = some (.int .i64 0) := cellB b0 0 rfl
          have q0 := frozenB b0 0
          have r1 : wr.cell? ⟨w.heap.size, 1, none⟩ = some (.string ⟨#[]⟩) := cellB b0 1 rfl
          have q1 := frozenB b0 1
          have r2 : wr.cell? ⟨w.heap.size, 2, none⟩ = some (.string ⟨#[]⟩) := cellB b0 2 rfl
          have q2 := frozenB b0 2
          have r3 : wr.cell? ⟨w.heap.size, 3, none⟩ = some (.string ⟨#[]⟩) := cellB b0 3 rfl
          have q3 := frozenB b0 3
          have r4 : wr.cell? ⟨w.heap.size, 4, none⟩ = some (.string ⟨#[]⟩) := cellB b0 4 rfl
          have q4 := frozenB b0 4
          have r5 : wr.cell? ⟨w.heap.size, 5, none⟩ = some (.slice none 0 0) := cellB b0 5 rfl
          have q5 := frozenB b0 5
          have r6 : wr.cell? ⟨w.heap.size, 6, none⟩ = some (.int .i64 0) := cellB b0 6 rfl
          have q6 := frozenB b0 6
          have r7 : wr.cell? ⟨w.heap.size, 7, none⟩ = some (.int .i64 0) := cellB b0 7 rfl
          have q7 := frozenB b0 7
          have r8 : wr.cell? ⟨w.heap.size, 8, none⟩ = some (.string ⟨#[]⟩) := cellB b0 8 rfl
          have q8 := frozenB b0 8
          clear b0 b1
          cases s2 with
          | nil =>
            have hpf : Lib.hasPrefix ([] : Str) [32] = false := rfl
            have hst : stepF 126 l s' = some ({ l with args := acc }, []) := by rw [stepF_args, ← HA.out]; simp [argsF]
            have HF := Lib.hid (matchF_step h126 HM.out hst)
            clear hst
            go_wp2_with (first | (go_at_call 18; refine (hp_calls _ [32] _).mono ?_; rintro e w' ⟨rfl, rfl⟩))
            refine ⟨⟨k + 1, _, by omega, rfl, rfl, { l with args := acc }, .slice A2 acc.length cp2, BB0.out, BB1.out, OWN2.out, HB2.out, HF.out, hl2⟩, by simp [intOf]; omega⟩
          | cons c t =>
            by_cases hc : c = 32
            · subst hc
              have hpf : Lib.hasPrefix ((32 : UInt8) :: t) [32] = true := by simp [Lib.hasPrefix]
              have hx : (⟨((32 : UInt8) :: t).toArray⟩ : ByteArray).extract 1 (t.length + 1) = ⟨t.toArray⟩ := by rw [ext_list]; simp
              have hrl : (runS t).length ≤ t.length := runS_length t
              have ht : t.length < 40000000 := by simp at hl2; omega
              cases hn : nameS (runS t)
              · have hst : stepF 126 l s' = none := by rw [stepF_args, ← HA.out]; simp [argsF, hn]
                have HF := Lib.hid (matchF_fail h126 HM.out hst)
                clear hst
                go_wp2_with (first | (go_at_call 18; refine (hp_calls _ [32] _).mono ?_; rintro e w' ⟨rfl, rfl⟩) | (go_at_call 118; refine (run_calls t _ (by omega)).mono ?_; rintro e w' ⟨rfl, rfl⟩) | (go_at_call 29; refine (name_calls (runS t) _ (by omega)).mono ?_; rintro e w' ⟨rfl, rfl⟩))
                refine bodyPost_ret (v := .tuple #[.agg #[.int .i64 l.op, .string ⟨(l.a).toArray⟩, .string ⟨(l.b).toArray⟩, .string ⟨(l.c).toArray⟩, .string ⟨(l.nm).toArray⟩, .slice A2 acc.length cp2, .int .i64 l.cv.k, .int .i64 l.cv.n, .string ⟨(l.cv.s).toArray⟩], .bool false]) (results_line rfl rfl rfl (blk_put9 BB0.out) (by simp [Value.oneCell'])) rfl ⟨below_put9 HB2.out (Nat.le_refl _), { l with args := acc }, A2, cp2, ?_, ?_⟩
                · rw [HF.out]; rfl
                · intro l' hl'; rw [HF.out] at hl'; cases hl'
              · go_wp2_with (first | (go_at_call 18; refine (hp_calls _ [32] _).mono ?_; rintro e w' ⟨rfl, rfl⟩) | (go_at_call 118; refine (run_calls t _ (by omega)).mono ?_; rintro e w' ⟨rfl, rfl⟩) | (go_at_call 29; refine (name_calls (runS t) _ (by omega)).mono ?_; rintro e w' ⟨rfl, rfl⟩))
                obtain ⟨i0, hi, hz0, hz1, hz2⟩ := info_parts info9s
                have hrw : IntKind.i64.wrap (1 + ((runS t).length : Int)) = 1 + ((runS t).length : Int) := IntWalk.i64_in _ (by omega)
                have hr0 : (0 : Int) ≤ 1 + ((runS t).length : Int) := by omega
                have hr1 : 1 + ((runS t).length : Int) ≤ (t.length : Int) + 1 := by omega
                have hr2 : (1 + ((runS t).length : Int)).toNat = 1 + (runS t).length := by omega
                have D0 := Lib.hid (show wr.drew.heap[w.heap.size]? = _ from BB0.out)
                have D1 := Lib.hid (show wr.drew.heap[w.heap.size + 1]? = _ from BB1.out)
                have DO := Lib.hid OWN2.out.drew
                have DB := Lib.hid HB2.out.drew
                have e5 : wr.drew.cell? ⟨w.heap.size + 1, 5, none⟩ = some (.slice A2 acc.length cp2) := cellB D1.out 5 rfl
                have eB : w.heap.size + 1 < wr.drew.heap.size := sizeB D1.out
                clear c0 f0 r0 q0 c1 f1 r1 q1 c2 f2 r2 q2 c3 f3 r3 q3 c4 f4 r4 q4 c5 f5 r5 q5 c6 f6 r6 q6 c7 f7 r7 q7 c8 f8 r8 q8
                refine start_ (n := 13) (S := fun w' => w'.cell? ⟨w.heap.size + 1, 5, none⟩ = some (.slice A2 acc.length cp2)) (ds := [11]) #[false, false, false, false, false, false, false, false, false, false, false, false, false] (by kernel_rfl) rfl rfl e5 (fun hHeld => ?_)
                generalize wr.drew = W at D0 D1 DO DB e5 eB hHeld ⊢
                refine pure_ (i := 0) (N := some 100) (v := ?_) (a' := ?_) #[true, false, false, false, false, false, false, false, false, false, false, false, false] rfl rfl (by kernel_rfl) (fun _ _ _ h => h) (Or.inl ⟨by rfl, ?_⟩) ?_ ?_
                rotate_left
                · intro w'
                  go_simp
                  with_reducible rfl
                rotate_left
                · simp only [Act.put, List.setIfInBounds_toArray, List.set_cons_zero, List.set_cons_succ]
                  rfl
                refine take_ (i := 1) (N := some 101) (v := ?_) (a' := ?_) #[true, true, false, false, false, false, false, false, false, false, false, false, false] rfl rfl (by kernel_rfl) (fun _ _ _ h => h) (Or.inl ⟨by rfl, ?_⟩) hHeld ?_ ?_
                rotate_left
                · rintro w' s0
                  go_simp
                  with_reducible rfl
                rotate_left
                · simp only [Act.put, List.setIfInBounds_toArray, List.set_cons_zero, List.set_cons_succ]
                  rfl
                refine pure_ (i := 2) (N := some 102) (v := ?_) (a' := ?_) #[true, true, true, false, false, false, false, false, false, false, false, false, false] rfl rfl (by kernel_rfl) (fun _ _ _ h => h) (Or.inl ⟨by rfl, ?_⟩) ?_ ?_
                rotate_left
                · intro w'
                  go_simp
                  with_reducible rfl
                rotate_left
                · simp only [Act.put, List.setIfInBounds_toArray, List.set_cons_zero, List.set_cons_succ]
                  rfl
                refine pure_ (i := 5) (N := some 105) (v := ?_) (a' := ?_) #[true, true, true, false, false, true, false, false, false, false, false, false, false] rfl rfl (by kernel_rfl) (fun _ _ _ h => h) (Or.inl ⟨by rfl, ?_⟩) ?_ ?_
                rotate_left
                · intro w'
                  go_simp
                  with_reducible rfl
                rotate_left
                · simp only [Act.put, List.setIfInBounds_toArray, List.set_cons_zero, List.set_cons_succ]
                  rfl
                refine pure_ (i := 6) (N := some 106) (v := ?_) (a' := ?_) #[true, true, true, false, false, true, true, false, false, false, false, false, false] rfl rfl (by kernel_rfl) (fun _ _ _ h => h) (Or.inl ⟨by rfl, ?_⟩) ?_ ?_
                rotate_left
                · intro w'
                  go_simp
                  with_reducible rfl
                rotate_left
                · simp only [Act.put, List.setIfInBounds_toArray, List.set_cons_zero, List.set_cons_succ]
                  rfl
                refine pure_ (i := 7) (N := some 107) (v := ?_) (a' := ?_) #[true, true, true, false, false, true, true, true, false, false, false, false, false] rfl rfl (by kernel_rfl) (fun _ _ _ h => h) (Or.inl ⟨by rfl, ?_⟩) ?_ ?_
                rotate_left
                · intro w'
                  go_simp
                  with_reducible rfl
                rotate_left
                · simp only [Act.put, List.setIfInBounds_toArray, List.set_cons_zero, List.set_cons_succ]
                  rfl
                refine pure_ (i := 8) (N := some 108) (v := ?_) (a' := ?_) #[true, true, true, false, false, true, true, true, true, false, false, false, false] rfl rfl (by kernel_rfl) (fun _ _ _ h => h) (Or.inl ⟨by rfl, ?_⟩) ?_ ?_
                rotate_left
                · intro w'
                  go_simp
                  with_reducible rfl
                rotate_left
                · simp only [Act.put, List.setIfInBounds_toArray, List.set_cons_zero, List.set_cons_succ]
                  rfl
                refine pure_ (i := 9) (N := some 109) (v := ?_) (a' := ?_) #[true, true, true, false, false, true, true, true, true, true, false, false, false] rfl rfl (by kernel_rfl) (fun _ _ _ h => h) (Or.inl ⟨by rfl, ?_⟩) ?_ ?_
                rotate_left
                · intro w'
                  go_simp
                  with_reducible rfl
                rotate_left
                · simp only [Act.put, List.setIfInBounds_toArray, List.set_cons_zero, List.set_cons_succ]
                  rfl
                refine one_ (i := 3) (N := some 103) #[true, true, true, true, false, true, true, true, true, true, false, false, false] rfl rfl (by kernel_rfl) (by simp) (fun K hK => ?_)
                refine value_ (v := .slice (some ⟨W.heap.size, 0, none⟩) 1 1) (w1 := W.alloc (.cells #[.string ⟨(runS t).toArray⟩] 9)) rfl rfl (by go_simp) ?_
                refine hK.out _ _ ((World.cell?_alloc_past _ _ _ eB).trans hHeld) (fun hHeld => ?_)
                refine one_ (i := 4) (N := some 104) #[true, true, true, true, true, true, true, true, true, true, false, false, false] rfl rfl (by kernel_rfl) (by simp) (fun K hK => ?_)
                refine step_append_lies (W.alloc (.cells #[.string ⟨(runS t).toArray⟩] 9)) (by rfl) _ _ _ (by rfl) w.heap.size 9 i0 _ 1 16 Tryz.underlying34 hi hz0 hz1 hz2 rfl (by omega) (.slice A2 acc.length cp2) acc.length (strs acc) (by rfl) (DO.out.alloc _) ⟨W.heap.size, 0, none⟩ 1 1 [.string ⟨(runS t).toArray⟩] (by rfl) (by rfl) (World.news_of_block (cs := #[.string ⟨(runS t).toArray⟩]) (t := 9) (fr := (0, 0)) (heap_alloc_new W _)) (by simp [Value.oneCell']) (by omega) (by unfold maxLen; simp at hl2; omega) (by simp at hl2; omega) (by simp; omega) (W.heap.size + 1) (by simp) ?_
                intro gg cap w3 hown3 hgrow hat hlt3
                have k0 : w3.heap[w.heap.size]? = _ := (hgrow.block _ (by simp; omega) (own_ne DO.out D0.out (by decide))).trans ((Below.heap_alloc _ _ _ (by omega)).trans D0.out)
                have k1 : w3.heap[w.heap.size + 1]? = _ := (hgrow.block _ (by simp; omega) HNE2.out).trans ((Below.heap_alloc _ _ _ eB).trans D1.out)
                have kB : Below w.heap.size w w3 := (DB.out.alloc (by omega) _).grown hgrow (by simp; omega) (own_base DO.out)
                have K0 := Lib.hid k0
                have K1 := Lib.hid k1
                have KB := Lib.hid kB
                have KO := Lib.hid hown3
                change K (Act.put _ (some 104) _) w3
                have u5 : w3.cell? ⟨w.heap.size + 1, 5, none⟩ = _ := cellB k1 5 rfl
                have v5 := frozenB k1 5
                clear k0 k1 kB hown3 hgrow hat
                refine hK.out _ _ u5 (fun hHeld => ?_)
                refine pure_ (i := 10) (N := some 110) (v := ?_) (a' := ?_) #[true, true, true, true, true, true, true, true, true, true, true, false, false] rfl rfl (by kernel_rfl) (fun _ _ _ h => h) (Or.inl ⟨by rfl, ?_⟩) ?_ ?_
                rotate_left
                · intro w'
                  go_simp
                  with_reducible rfl
                rotate_left
                · simp only [Act.put, List.setIfInBounds_toArray, List.set_cons_zero, List.set_cons_succ]
                  rfl
                refine last_ (i := 11) (N := none) #[true, true, true, true, true, true, true, true, true, true, true, true, false] rfl rfl (by kernel_rfl) (by simp) (fun K hK => ?_)
                refine skip_ (w1 := w3.setCell ⟨w.heap.size + 1, 5, none⟩ (.slice (some ⟨gg, 0, none⟩) (acc.length + 1) cap)) rfl rfl (by go_simp) ?_
                refine hK.out _ _ ?_
                refine pure_ (i := 12) (N := some 2) (v := ?_) (a' := ?_) #[true, true, true, true, true, true, true, true, true, true, true, true, true] rfl rfl (by kernel_rfl) (fun _ _ _ h => h) (Or.inl ⟨by rfl, ?_⟩) ?_ ?_
                rotate_left
                · intro w'
                  go_simp
                  with_reducible rfl
                rotate_left
                · simp only [Act.put, List.setIfInBounds_toArray, List.set_cons_zero, List.set_cons_succ]
                  rfl
                refine done_ (by kernel_rfl) ?_
                go_wp2_with fail
                refine ⟨⟨t.drop (runS t).length, ?_, acc ++ [runS t], .slice (some ⟨gg, 0, none⟩) (acc.length + 1) cap, ?_, ?_, ?_, ?_, ?_, ?_⟩, ?_⟩
                · rw [ext_list, List.take_of_length_le (by simp), Nat.add_comm 1, List.drop_succ_cons]
                · exact (Below.heap_setCell _ _ _ _ (by simp)).trans K0.out
                · exact blk_set K1.out 5 _
                · have h := own_set' (i := 5) KO.out (own_ne KO.out K1.out (by decide)) (Value.slice (some ⟨gg, 0, none⟩) (acc.length + 1) cap)
                  simpa [strs, sv] using h
                · exact KB.out.setCell (by simp) _
                · rw [← HA.out]
                  have e : argsF (((32 : UInt8) :: t).length + 1) acc (32 :: t) = argsF ((32 : UInt8) :: t).length (acc ++ [runS t]) (t.drop (runS t).length) := by simp only [argsF, hn, if_true]
                  rw [e]
                  exact argsF_enough _ _ _ _ (by omega) (by simp only [List.length_drop, List.length_cons]; omega)
                · simp at hl2 ⊢; omega
                · simp [strLen, ByteArray.size]; omega
            · have hpf : Lib.hasPrefix (c :: t) [32] = false := by simp [Lib.hasPrefix, List.isPrefixOf, Ne.symm hc]
              have hst : stepF 126 l s' = some ({ l with args := acc }, c :: t) := by rw [stepF_args, ← HA.out]; simp [argsF, hc]
              have HF := Lib.hid (matchF_step h126 HM.out hst)
              clear hst
              go_wp2_with (first | (go_at_call 18; refine (hp_calls _ [32] _).mono ?_; rintro e w' ⟨rfl, rfl⟩))
              refine ⟨⟨k + 1, _, by omega, rfl, rfl, { l with args := acc }, .slice A2 acc.length cp2, BB0.out, BB1.out, OWN2.out, HB2.out, HF.out, hl2⟩, by simp [intOf]; omega⟩
      obtain ⟨c, hc⟩ : ∃ c, (⟨form.toArray⟩ : ByteArray)[k]'hlt = c := ⟨_, rfl⟩
      rw [hc] at h65 h66 h67 h78 h76 h73 h126
      have hfn : fieldN (c.toNat : Int) = none := fieldN_none h65 h66 h67 h78
      have e76 : ((c.toNat : Int) == 76) = false := byte_ne h76
      have e73 : ((c.toNat : Int) == 73) = false := byte_ne h73
      have e126 : ((c.toNat : Int) == 126) = false := byte_ne h126
      have HSP := Lib.hid (stepF_other h65 h66 h67 h78 h76 h73 h126 l)
      clear h65 h66 h67 h78 h76 h73 h126
      have c0 : wr.cell? ⟨w.heap.size + 1, 0, none⟩ = some (.int .i64 l.op) := cellB b1 0 rfl
      have f0 := frozenB b1 0
      have c1 : wr.cell? ⟨w.heap.size + 1, 1, none⟩ = some (.string ⟨(l.a).toArray⟩) := cellB b1 1 rfl
      have f1 := frozenB b1 1
      have c2 : wr.cell? ⟨w.heap.size + 1, 2, none⟩ = some (.string ⟨(l.b).toArray⟩) := cellB b1 2 rfl
      have f2 := frozenB b1 2
      have c3 : wr.cell? ⟨w.heap.size + 1, 3, none⟩ = some (.string ⟨(l.c).toArray⟩) := cellB b1 3 rfl
      have f3 := frozenB b1 3
      have c4 : wr.cell? ⟨w.heap.size + 1, 4, none⟩ = some (.string ⟨(l.nm).toArray⟩) := cellB b1 4 rfl
      have f4 := frozenB b1 4
      have c5 : wr.cell? ⟨w.heap.size + 1, 5, none⟩ = some (.slice A l.args.length cp) := cellB b1 5 rfl
      have f5 := frozenB b1 5
      have c6 : wr.cell? ⟨w.heap.size + 1, 6, none⟩ = some (.int .i64 l.cv.k) := cellB b1 6 rfl
      have f6 := frozenB b1 6
      have c7 : wr.cell? ⟨w.heap.size + 1, 7, none⟩ = some (.int .i64 l.cv.n) := cellB b1 7 rfl
      have f7 := frozenB b1 7
      have c8 : wr.cell? ⟨w.heap.size + 1, 8, none⟩ = some (.string ⟨(l.cv.s).toArray⟩) := cellB b1 8 rfl
      have f8 := frozenB b1 8
      have r0 : wr.cell? ⟨w.heap.size, 0, none⟩ = some (.int .i64 0) := cellB b0 0 rfl
      have q0 := frozenB b0 0
      have r1 : wr.cell? ⟨w.heap.size, 1, none⟩ = some (.string ⟨#[]⟩) := cellB b0 1 rfl
      have q1 := frozenB b0 1
      have r2 : wr.cell? ⟨w.heap.size, 2, none⟩ = some (.string ⟨#[]⟩) := cellB b0 2 rfl
      have q2 := frozenB b0 2
      have r3 : wr.cell? ⟨w.heap.size, 3, none⟩ = some (.string ⟨#[]⟩) := cellB b0 3 rfl
      have q3 := frozenB b0 3
      have r4 : wr.cell? ⟨w.heap.size, 4, none⟩ = some (.string ⟨#[]⟩) := cellB b0 4 rfl
      have q4 := frozenB b0 4
      have r5 : wr.cell? ⟨w.heap.size, 5, none⟩ = some (.slice none 0 0) := cellB b0 5 rfl
      have q5 := frozenB b0 5
      have r6 : wr.cell? ⟨w.heap.size, 6, none⟩ = some (.int .i64 0) := cellB b0 6 rfl
      have q6 := frozenB b0 6
      have r7 : wr.cell? ⟨w.heap.size, 7, none⟩ = some (.int .i64 0) := cellB b0 7 rfl
      have q7 := frozenB b0 7
      have r8 : wr.cell? ⟨w.heap.size, 8, none⟩ = some (.string ⟨#[]⟩) := cellB b0 8 rfl
      have q8 := frozenB b0 8
      clear b0 b1
      cases s' with
      | nil =>
        have HF := Lib.hid (matchF_fail hc HM.out HSP.out.1)
        go_wp2_with (first | (go_at_call 54; refine (field_no _ _ _ hfn).mono ?_; rintro e w' ⟨rfl, rfl⟩))
        refine bodyPost_ret (v := .tuple #[.agg #[.int .i64 l.op, .string ⟨(l.a).toArray⟩, .string ⟨(l.b).toArray⟩, .string ⟨(l.c).toArray⟩, .string ⟨(l.nm).toArray⟩, .slice A l.args.length cp, .int .i64 l.cv.k, .int .i64 l.cv.n, .string ⟨(l.cv.s).toArray⟩], .bool false]) (results_line rfl rfl rfl (blk_put9 B0.out) (by simp [Value.oneCell'])) rfl ⟨below_put9 HB.out (Nat.le_refl _), l, A, cp, ?_, ?_⟩
        · rw [HF.out]; rfl
        · intro l' hl'; rw [HF.out] at hl'; cases hl'
      | cons x t =>
        have hx : ((⟨(x :: t).toArray⟩ : ByteArray)[0]'(by show 0 < (x :: t).length; simp)) = x := rfl
        have hx1 : (⟨(x :: t).toArray⟩ : ByteArray).extract 1 (t.length + 1) = ⟨t.toArray⟩ := by rw [ext_list]; simp
        have ht : t.length < 40000000 := by simp at hl; omega
        by_cases hxc : x = c
        · subst hxc
          have HF := Lib.hid (matchF_step hc HM.out ((HSP.out.2 x t).trans (if_pos rfl)))
          go_wp2_with (first | (go_at_call 54; refine (field_no _ _ _ hfn).mono ?_; rintro e w' ⟨rfl, rfl⟩))
          refine ⟨⟨k + 1, t, by omega, rfl, rfl, l, .slice A l.args.length cp, B0.out, B1.out, OWN.out, HB.out, HF.out, by simp at hl; omega⟩, by simp [intOf]; omega⟩
        · have HF := Lib.hid (matchF_fail hc HM.out ((HSP.out.2 x t).trans (if_neg hxc)))
          have hxn : ((x.toNat : Int) == (c.toNat : Int)) = false := by
            rw [beq_eq_false_iff_ne]
            intro h
            exact hxc (UInt8.toNat_inj.1 (Int.ofNat_inj.1 h))
          have hxn2 : ((x.toNat : Int) != (c.toNat : Int)) = true := by rw [bne, hxn]; rfl
          clear hxc
          go_wp2_with (first | (go_at_call 54; refine (field_no _ _ _ hfn).mono ?_; rintro e w' ⟨rfl, rfl⟩))
          refine bodyPost_ret (v := .tuple #[.agg #[.int .i64 l.op, .string ⟨(l.a).toArray⟩, .string ⟨(l.b).toArray⟩, .string ⟨(l.c).toArray⟩, .string ⟨(l.nm).toArray⟩, .slice A l.args.length cp, .int .i64 l.cv.k, .int .i64 l.cv.n, .string ⟨(l.cv.s).toArray⟩], .bool false]) (results_line rfl rfl rfl (blk_put9 B0.out) (by simp [Value.oneCell'])) rfl ⟨below_put9 HB.out (Nat.le_refl _), l, A, cp, ?_, ?_⟩
          · rw [HF.out]; rfl
          · intro l' hl'; rw [HF.out] at hl'; cases hl'
    · have hke : k = form.length := by omega
      have hR : matchF form (Ln.zero op) s = if s' = [] then some l else none := by rw [← HM.out, hke, List.drop_length]; rfl
      have HF := Lib.hid hR
      clear hR
      have c0 : wr.cell? ⟨w.heap.size + 1, 0, none⟩ = some (.int .i64 l.op) := cellB b1 0 rfl
      have f0 := frozenB b1 0
      have c1 : wr.cell? ⟨w.heap.size + 1, 1, none⟩ = some (.string ⟨(l.a).toArray⟩) := cellB b1 1 rfl
      have f1 := frozenB b1 1
      have c2 : wr.cell? ⟨w.heap.size + 1, 2, none⟩ = some (.string ⟨(l.b).toArray⟩) := cellB b1 2 rfl
      have f2 := frozenB b1 2
      have c3 : wr.cell? ⟨w.heap.size + 1, 3, none⟩ = some (.string ⟨(l.c).toArray⟩) := cellB b1 3 rfl
      have f3 := frozenB b1 3
      have c4 : wr.cell? ⟨w.heap.size + 1, 4, none⟩ = some (.string ⟨(l.nm).toArray⟩) := cellB b1 4 rfl
      have f4 := frozenB b1 4
      have c5 : wr.cell? ⟨w.heap.size + 1, 5, none⟩ = some (.slice A l.args.length cp) := cellB b1 5 rfl
      have f5 := frozenB b1 5
      have c6 : wr.cell? ⟨w.heap.size + 1, 6, none⟩ = some (.int .i64 l.cv.k) := cellB b1 6 rfl
      have f6 := frozenB b1 6
      have c7 : wr.cell? ⟨w.heap.size + 1, 7, none⟩ = some (.int .i64 l.cv.n) := cellB b1 7 rfl
      have f7 := frozenB b1 7
      have c8 : wr.cell? ⟨w.heap.size + 1, 8, none⟩ = some (.string ⟨(l.cv.s).toArray⟩) := cellB b1 8 rfl
      have f8 := frozenB b1 8
      have r0 : wr.cell? ⟨w.heap.size, 0, none⟩ = some (.int .i64 0) := cellB b0 0 rfl
      have q0 := frozenB b0 0
      have r1 : wr.cell? ⟨w.heap.size, 1, none⟩ = some (.string ⟨#[]⟩) := cellB b0 1 rfl
      have q1 := frozenB b0 1
      have r2 : wr.cell? ⟨w.heap.size, 2, none⟩ = some (.string ⟨#[]⟩) := cellB b0 2 rfl
      have q2 := frozenB b0 2
      have r3 : wr.cell? ⟨w.heap.size, 3, none⟩ = some (.string ⟨#[]⟩) := cellB b0 3 rfl
      have q3 := frozenB b0 3
      have r4 : wr.cell? ⟨w.heap.size, 4, none⟩ = some (.string ⟨#[]⟩) := cellB b0 4 rfl
      have q4 := frozenB b0 4
      have r5 : wr.cell? ⟨w.heap.size, 5, none⟩ = some (.slice none 0 0) := cellB b0 5 rfl
      have q5 := frozenB b0 5
      have r6 : wr.cell? ⟨w.heap.size, 6, none⟩ = some (.int .i64 0) := cellB b0 6 rfl
      have q6 := frozenB b0 6
      have r7 : wr.cell? ⟨w.heap.size, 7, none⟩ = some (.int .i64 0) := cellB b0 7 rfl
      have q7 := frozenB b0 7
      have r8 : wr.cell? ⟨w.heap.size, 8, none⟩ = some (.string ⟨#[]⟩) := cellB b0 8 rfl
      have q8 := frozenB b0 8
      clear b0 b1
      cases s' with
      | nil =>
        go_wp2_with fail
        refine bodyPost_ret (v := .tuple #[.agg #[.int .i64 l.op, .string ⟨(l.a).toArray⟩, .string ⟨(l.b).toArray⟩, .string ⟨(l.c).toArray⟩, .string ⟨(l.nm).toArray⟩, .slice A l.args.length cp, .int .i64 l.cv.k, .int .i64 l.cv.n, .string ⟨(l.cv.s).toArray⟩], .bool true]) (results_line rfl rfl rfl (blk_put9 B0.out) (by simp [Value.oneCell'])) rfl ⟨below_put9 HB.out (Nat.le_refl _), l, A, cp, ?_, ?_⟩
        · rw [HF.out]; rfl
        · intro l' hl'
          rw [HF.out] at hl'
          refine ⟨by simpa using hl', own_put9 OWN.out HNE0.out⟩
      | cons x t =>
        go_wp2_with fail
        refine bodyPost_ret (v := .tuple #[.agg #[.int .i64 l.op, .string ⟨(l.a).toArray⟩, .string ⟨(l.b).toArray⟩, .string ⟨(l.c).toArray⟩, .string ⟨(l.nm).toArray⟩, .slice A l.args.length cp, .int .i64 l.cv.k, .int .i64 l.cv.n, .string ⟨(l.cv.s).toArray⟩], .bool false]) (results_line rfl rfl rfl (blk_put9 B0.out) (by simp [Value.oneCell'])) rfl ⟨below_put9 HB.out (Nat.le_refl _), l, A, cp, ?_, ?_⟩
        · rw [HF.out]; rfl
        · intro l' hl'; rw [HF.out] at hl'; simp at hl'
end Go.Proofs.YtdkcdodkhghfhaaGreatDoor
