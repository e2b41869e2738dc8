/- The walk of the sanity check. -/
import Derived.Test.YtdkcdodkhghfhaaGreatDoorSN0
namespace Go.Proofs.YtdkcdodkhghfhaaGreatDoor
open Go.RowKit Go.Proofs.YtdkcdodkhghfhaaGreatDoorW.PrintLast Go.Proofs.YtdkcdodkhghfhaaGreatDoorW.PrintWords

theorem ReadLine_is (s : Str) (r : Option Ln) (hr : rd8 s = r) (l : Ln) (hl : l = r.getD (Ln.zero 0)) (w : World) (L : LW w) (hs : s.length < 40000000) :
    Calls Tryz.prog 19 #[.string ⟨s.toArray⟩] w fun e w' => Below w.heap.size w w' ∧
      ∃ (A : Option Addr) (cp : Nat), e = .returned (.tuple #[.agg #[.int .i64 l.op, .string ⟨(l.a).toArray⟩, .string ⟨(l.b).toArray⟩, .string ⟨(l.c).toArray⟩, .string ⟨(l.nm).toArray⟩, .slice A l.args.length cp, .int .i64 l.cv.k, .int .i64 l.cv.n, .string ⟨(l.cv.s).toArray⟩], .bool r.isSome]) ∧
        w'.ownsRow w.heap.size 9 1 (.slice A l.args.length cp) l.args.length (strs l.args) := by
  refine (ReadLine_calls s w L hs).mono ?_
  rintro e w' ⟨h1, r2, l2, A, cp, h2, rfl, h3, h4⟩
  have h := h2.eq
  have h5 : r2 = r := h.trans hr
  subst h5
  subst hl
  exact ⟨h1, A, cp, h3, h4⟩
theorem Parse_is (s : Str) (p : Prg) (n e0 : Int) (hr : parseS s = (p, n, e0)) (w : World) (L : LW w) (hs : s.length < 40000000) :
    Calls Tryz.prog 16 #[.string ⟨s.toArray⟩] w fun e w' => Below w.heap.size w w' ∧ ∃ vc vf, e = .returned (.tuple #[.agg #[vc, vf], .int .i64 n, .int .i64 e0]) ∧ PrgIn w' vc vf p := by
  have h := Parse_calls s w L hs
  rw [hr] at h
  exact h
theorem small1 : ∀ f ∈ prg1.funcs, ∀ l ∈ f.lines, Small l ∧ (Lit.int IntKind.i64 l.op).wf = true := by
  intro f hf l hl
  simp only [prg1, List.mem_singleton] at hf
  subst hf
  simp only [List.mem_cons, List.not_mem_nil, or_false] at hl
  rcases hl with rfl | rfl <;> exact ⟨⟨by decide, by decide, by decide, by decide, by decide, ⟨by decide, by decide⟩, by decide⟩, by decide⟩
/-- The one function of the program that was read: where its cells are. -/
theorem prg1_in {w : World} {vc vf : Value} (h : PrgIn w vc vf prg1) : ∃ A cc g off cp pA pc lA lc, vc = .slice A 0 cc ∧ vf = .slice (some ⟨g, off, none⟩) 1 cp ∧ w.cell? ⟨g, off, none⟩ = some (.string ⟨#[109, 97, 105, 110]⟩) ∧ w.cell? ⟨g, off + 1, none⟩ = some (.slice pA 0 pc) ∧ w.cell? ⟨g, off + 2, none⟩ = some (.slice lA 2 lc) := by
  obtain ⟨xs, ys, ⟨cA, cc⟩, ⟨fA, fc⟩, rfl, rfl, hx, hy, _, h45, _, _⟩ := h
  have hx0 : xs = [] := by simpa [prg1] using hx
  subst hx0
  have hyl : ys.length = 1 := by have := congrArg List.length hy; simpa [prg1] using this
  obtain ⟨y, rfl⟩ := List.length_eq_one_iff.1 hyl
  obtain ⟨f, ⟨pA, pc⟩, ⟨lA, lc⟩⟩ := y
  have hf : f = ⟨[109, 97, 105, 110], [], [⟨1, [120], [], [], [], [], ⟨3, 1, []⟩⟩, ⟨29, [120], [], [], [], [], ⟨0, 0, []⟩⟩]⟩ := by simpa [prg1] using hy
  subst hf
  obtain ⟨g, off, hA, hc⟩ := rd3 fCells1 (fun _ => rfl) h45 (k := 0) (by simp)
  dsimp only at hA
  subst hA
  simp only [Nat.zero_mul, Nat.add_zero] at hc
  exact ⟨cA, cc, g, off, fc, pA, pc, lA, lc, rfl, rfl, hc 0 _ rfl, hc 1 _ rfl, hc 2 _ rfl⟩
theorem cell_lt {w : World} {g o : Nat} {v : Value} (h : w.cell? ⟨g, o, none⟩ = some v) : g < w.heap.size := by
  rcases Nat.lt_or_ge g w.heap.size with h' | h'
  · exact h'
  · simp [World.cell?, Array.getElem?_eq_none h'] at h
set_option maxHeartbeats 8000000 in
set_option maxRecDepth 100000 in
theorem sanity_calls (w : World) (L : LW w) :
    Calls Tryz.prog 13 #[] w fun e w' => e = .returned (.bool true) ∧ Below w.heap.size w w' := by
  have HL := Lib.hid L
  clear L
  go_enter Tryz.func13, Tryz.ntmps13
  go_wp2_with fail
  refine (ReadLine_is _ _ sa ⟨1, [120], [], [], [], [], ⟨4, 0, [105, 116, 39, 115]⟩⟩ rfl _ HL.out (by decide)).mono ?_
  rintro e w1 ⟨b1, A1, c1, rfl, _⟩
  have L1 := Lib.hid (HL.out.below b1)
  have HB1 := Lib.hid b1
  clear b1
  dsimp only [Option.isSome, List.length_nil, Ln.zero, Val.zero]
  go_wp2_with fail
  refine (ReadLine_is _ _ sb ⟨16, [120], [121], [], [122], [], ⟨0, 0, []⟩⟩ rfl _ (L1.out.alloc _) (by decide)).mono ?_
  rintro e w2 ⟨b2, A2, c2, rfl, _⟩
  have L2 := Lib.hid ((L1.out.alloc _).below b2)
  have HB2 := Lib.hid ((HB1.out.alloc HB1.out.size (.cells #[.int .i64 1, .string ⟨#[120]⟩, .string ⟨#[]⟩, .string ⟨#[]⟩, .string ⟨#[]⟩, .slice A1 0 c1, .int .i64 4, .int .i64 0, .string ⟨#[105, 116, 39, 115]⟩] 40)).trans (b2.mono (by have := HB1.out.size; simp; omega)) : Below w.heap.size w w2)
  have z1 : w1.heap.size < w2.heap.size := by have := b2.size; simp at this; omega
  have K1 : Hid (w2.heap[w1.heap.size]? = some (.cells #[.int .i64 1, .string ⟨#[120]⟩, .string ⟨#[]⟩, .string ⟨#[]⟩, .string ⟨#[]⟩, .slice A1 0 c1, .int .i64 4, .int .i64 0, .string ⟨#[105, 116, 39, 115]⟩] 40 (0, 0))) := Lib.hid ((b2.block _ (by simp)).trans (heap_new _ _))
  clear b2
  dsimp only [Option.isSome, List.length_nil, Ln.zero, Val.zero]
  go_wp2_with fail
  refine (ReadLine_is _ _ sc ⟨14, [120], [121], [122], [], [], ⟨0, 0, []⟩⟩ rfl _ (L2.out.alloc _) (by decide)).mono ?_
  rintro e w3 ⟨b3, A3, c3, rfl, _⟩
  have L3 := Lib.hid ((L2.out.alloc _).below b3)
  have HB3 := Lib.hid ((HB2.out.alloc HB2.out.size (.cells #[.int .i64 16, .string ⟨#[120]⟩, .string ⟨#[121]⟩, .string ⟨#[]⟩, .string ⟨#[122]⟩, .slice A2 0 c2, .int .i64 0, .int .i64 0, .string ⟨#[]⟩] 40)).trans (b3.mono (by have := HB2.out.size; simp; omega)) : Below w.heap.size w w3)
  have z2 : w2.heap.size < w3.heap.size := by have := b3.size; simp at this; omega
  have K2 : Hid (w3.heap[w2.heap.size]? = some (.cells #[.int .i64 16, .string ⟨#[120]⟩, .string ⟨#[121]⟩, .string ⟨#[]⟩, .string ⟨#[122]⟩, .slice A2 0 c2, .int .i64 0, .int .i64 0, .string ⟨#[]⟩] 40 (0, 0))) := Lib.hid ((b3.block _ (by simp)).trans (heap_new _ _))
  have K1 : Hid (w3.heap[w1.heap.size]? = some (.cells #[.int .i64 1, .string ⟨#[120]⟩, .string ⟨#[]⟩, .string ⟨#[]⟩, .string ⟨#[]⟩, .slice A1 0 c1, .int .i64 4, .int .i64 0, .string ⟨#[105, 116, 39, 115]⟩] 40 (0, 0))) := Lib.hid ((b3.block _ (by simp; omega)).trans ((heap_alloc_old _ _ (by omega)).trans K1.out))
  clear b3
  dsimp only [Option.isSome, List.length_nil, Ln.zero, Val.zero]
  go_wp2_with fail
  refine (ReadLine_is _ _ sd ⟨20, [120], [105], [121], [], [], ⟨0, 0, []⟩⟩ rfl _ (L3.out.alloc _) (by decide)).mono ?_
  rintro e w4 ⟨b4, A4, c4, rfl, _⟩
  have L4 := Lib.hid ((L3.out.alloc _).below b4)
  have HB4 := Lib.hid ((HB3.out.alloc HB3.out.size (.cells #[.int .i64 14, .string ⟨#[120]⟩, .string ⟨#[121]⟩, .string ⟨#[122]⟩, .string ⟨#[]⟩, .slice A3 0 c3, .int .i64 0, .int .i64 0, .string ⟨#[]⟩] 40)).trans (b4.mono (by have := HB3.out.size; simp; omega)) : Below w.heap.size w w4)
  have z3 : w3.heap.size < w4.heap.size := by have := b4.size; simp at this; omega
  have K3 : Hid (w4.heap[w3.heap.size]? = some (.cells #[.int .i64 14, .string ⟨#[120]⟩, .string ⟨#[121]⟩, .string ⟨#[122]⟩, .string ⟨#[]⟩, .slice A3 0 c3, .int .i64 0, .int .i64 0, .string ⟨#[]⟩] 40 (0, 0))) := Lib.hid ((b4.block _ (by simp)).trans (heap_new _ _))
  have K1 : Hid (w4.heap[w1.heap.size]? = some (.cells #[.int .i64 1, .string ⟨#[120]⟩, .string ⟨#[]⟩, .string ⟨#[]⟩, .string ⟨#[]⟩, .slice A1 0 c1, .int .i64 4, .int .i64 0, .string ⟨#[105, 116, 39, 115]⟩] 40 (0, 0))) := Lib.hid ((b4.block _ (by simp; omega)).trans ((heap_alloc_old _ _ (by omega)).trans K1.out))
  have K2 : Hid (w4.heap[w2.heap.size]? = some (.cells #[.int .i64 16, .string ⟨#[120]⟩, .string ⟨#[121]⟩, .string ⟨#[]⟩, .string ⟨#[122]⟩, .slice A2 0 c2, .int .i64 0, .int .i64 0, .string ⟨#[]⟩] 40 (0, 0))) := Lib.hid ((b4.block _ (by simp; omega)).trans ((heap_alloc_old _ _ (by omega)).trans K2.out))
  clear b4
  dsimp only [Option.isSome, List.length_nil, Ln.zero, Val.zero]
  go_wp2_with fail
  refine (ReadLine_is _ _ se (Ln.zero 0) rfl _ (L4.out.alloc _) (by decide)).mono ?_
  rintro e w5 ⟨b5, A5, c5, rfl, _⟩
  have L5 := Lib.hid ((L4.out.alloc _).below b5)
  have HB5 := Lib.hid ((HB4.out.alloc HB4.out.size (.cells #[.int .i64 20, .string ⟨#[120]⟩, .string ⟨#[105]⟩, .string ⟨#[121]⟩, .string ⟨#[]⟩, .slice A4 0 c4, .int .i64 0, .int .i64 0, .string ⟨#[]⟩] 40)).trans (b5.mono (by have := HB4.out.size; simp; omega)) : Below w.heap.size w w5)
  have z4 : w4.heap.size < w5.heap.size := by have := b5.size; simp at this; omega
  have K4 : Hid (w5.heap[w4.heap.size]? = some (.cells #[.int .i64 20, .string ⟨#[120]⟩, .string ⟨#[105]⟩, .string ⟨#[121]⟩, .string ⟨#[]⟩, .slice A4 0 c4, .int .i64 0, .int .i64 0, .string ⟨#[]⟩] 40 (0, 0))) := Lib.hid ((b5.block _ (by simp)).trans (heap_new _ _))
  have K1 : Hid (w5.heap[w1.heap.size]? = some (.cells #[.int .i64 1, .string ⟨#[120]⟩, .string ⟨#[]⟩, .string ⟨#[]⟩, .string ⟨#[]⟩, .slice A1 0 c1, .int .i64 4, .int .i64 0, .string ⟨#[105, 116, 39, 115]⟩] 40 (0, 0))) := Lib.hid ((b5.block _ (by simp; omega)).trans ((heap_alloc_old _ _ (by omega)).trans K1.out))
  have K2 : Hid (w5.heap[w2.heap.size]? = some (.cells #[.int .i64 16, .string ⟨#[120]⟩, .string ⟨#[121]⟩, .string ⟨#[]⟩, .string ⟨#[122]⟩, .slice A2 0 c2, .int .i64 0, .int .i64 0, .string ⟨#[]⟩] 40 (0, 0))) := Lib.hid ((b5.block _ (by simp; omega)).trans ((heap_alloc_old _ _ (by omega)).trans K2.out))
  have K3 : Hid (w5.heap[w3.heap.size]? = some (.cells #[.int .i64 14, .string ⟨#[120]⟩, .string ⟨#[121]⟩, .string ⟨#[122]⟩, .string ⟨#[]⟩, .slice A3 0 c3, .int .i64 0, .int .i64 0, .string ⟨#[]⟩] 40 (0, 0))) := Lib.hid ((b5.block _ (by simp; omega)).trans ((heap_alloc_old _ _ (by omega)).trans K3.out))
  clear b5
  dsimp only [Option.isSome, List.length_nil, Ln.zero, Val.zero]
  go_wp2_with fail
  refine (ReadLine_is _ _ sf (Ln.zero 0) rfl _ (L5.out.alloc _) (by decide)).mono ?_
  rintro e w6 ⟨b6, A6, c6, rfl, _⟩
  have L6 := Lib.hid ((L5.out.alloc _).below b6)
  have HB6 := Lib.hid ((HB5.out.alloc HB5.out.size (.cells #[.int .i64 0, .string ⟨#[]⟩, .string ⟨#[]⟩, .string ⟨#[]⟩, .string ⟨#[]⟩, .slice A5 0 c5, .int .i64 0, .int .i64 0, .string ⟨#[]⟩] 40)).trans (b6.mono (by have := HB5.out.size; simp; omega)) : Below w.heap.size w w6)
  have z5 : w5.heap.size < w6.heap.size := by have := b6.size; simp at this; omega
  have K5 : Hid (w6.heap[w5.heap.size]? = some (.cells #[.int .i64 0, .string ⟨#[]⟩, .string ⟨#[]⟩, .string ⟨#[]⟩, .string ⟨#[]⟩, .slice A5 0 c5, .int .i64 0, .int .i64 0, .string ⟨#[]⟩] 40 (0, 0))) := Lib.hid ((b6.block _ (by simp)).trans (heap_new _ _))
  have K1 : Hid (w6.heap[w1.heap.size]? = some (.cells #[.int .i64 1, .string ⟨#[120]⟩, .string ⟨#[]⟩, .string ⟨#[]⟩, .string ⟨#[]⟩, .slice A1 0 c1, .int .i64 4, .int .i64 0, .string ⟨#[105, 116, 39, 115]⟩] 40 (0, 0))) := Lib.hid ((b6.block _ (by simp; omega)).trans ((heap_alloc_old _ _ (by omega)).trans K1.out))
  have K2 : Hid (w6.heap[w2.heap.size]? = some (.cells #[.int .i64 16, .string ⟨#[120]⟩, .string ⟨#[121]⟩, .string ⟨#[]⟩, .string ⟨#[122]⟩, .slice A2 0 c2, .int .i64 0, .int .i64 0, .string ⟨#[]⟩] 40 (0, 0))) := Lib.hid ((b6.block _ (by simp; omega)).trans ((heap_alloc_old _ _ (by omega)).trans K2.out))
  have K3 : Hid (w6.heap[w3.heap.size]? = some (.cells #[.int .i64 14, .string ⟨#[120]⟩, .string ⟨#[121]⟩, .string ⟨#[122]⟩, .string ⟨#[]⟩, .slice A3 0 c3, .int .i64 0, .int .i64 0, .string ⟨#[]⟩] 40 (0, 0))) := Lib.hid ((b6.block _ (by simp; omega)).trans ((heap_alloc_old _ _ (by omega)).trans K3.out))
  have K4 : Hid (w6.heap[w4.heap.size]? = some (.cells #[.int .i64 20, .string ⟨#[120]⟩, .string ⟨#[105]⟩, .string ⟨#[121]⟩, .string ⟨#[]⟩, .slice A4 0 c4, .int .i64 0, .int .i64 0, .string ⟨#[]⟩] 40 (0, 0))) := Lib.hid ((b6.block _ (by simp; omega)).trans ((heap_alloc_old _ _ (by omega)).trans K4.out))
  clear b6
  dsimp only [Option.isSome, List.length_nil, Ln.zero, Val.zero]
  have k10 : w6.cell? ⟨w1.heap.size, 0, none⟩ = some (.int .i64 1) := cellB K1.out 0 rfl
  have k16 : w6.cell? ⟨w1.heap.size, 6, none⟩ = some (.int .i64 4) := cellB K1.out 6 rfl
  have k17 : w6.cell? ⟨w1.heap.size, 7, none⟩ = some (.int .i64 0) := cellB K1.out 7 rfl
  have k18 : w6.cell? ⟨w1.heap.size, 8, none⟩ = some (.string ⟨#[105, 116, 39, 115]⟩) := cellB K1.out 8 rfl
  have k20 : w6.cell? ⟨w2.heap.size, 0, none⟩ = some (.int .i64 16) := cellB K2.out 0 rfl
  have k24 : w6.cell? ⟨w2.heap.size, 4, none⟩ = some (.string ⟨#[122]⟩) := cellB K2.out 4 rfl
  have k30 : w6.cell? ⟨w3.heap.size, 0, none⟩ = some (.int .i64 14) := cellB K3.out 0 rfl
  have k33 : w6.cell? ⟨w3.heap.size, 3, none⟩ = some (.string ⟨#[122]⟩) := cellB K3.out 3 rfl
  have k40 : w6.cell? ⟨w4.heap.size, 0, none⟩ = some (.int .i64 20) := cellB K4.out 0 rfl
  have k42 : w6.cell? ⟨w4.heap.size, 2, none⟩ = some (.string ⟨#[105]⟩) := cellB K4.out 2 rfl
  have k43 : w6.cell? ⟨w4.heap.size, 3, none⟩ = some (.string ⟨#[121]⟩) := cellB K4.out 3 rfl
  have m1 : w1.heap.size < w6.heap.size := by omega
  have m2 : w2.heap.size < w6.heap.size := by omega
  have m3 : w3.heap.size < w6.heap.size := by omega
  have m4 : w4.heap.size < w6.heap.size := by omega
  have m5 : w5.heap.size < w6.heap.size := by omega
  have n1 : ¬ w1.heap.size = w6.heap.size := by omega
  have n2 : ¬ w2.heap.size = w6.heap.size := by omega
  have n3 : ¬ w3.heap.size = w6.heap.size := by omega
  have n4 : ¬ w4.heap.size = w6.heap.size := by omega
  have n5 : ¬ w5.heap.size = w6.heap.size := by omega
  go_wp2_with fail
  clear k10 k16 k17 k18 k20 k24 k30 k33 k40 k42 k43 n1 m1 K1 n2 m2 K2 n3 m3 K3 n4 m4 K4 n5 m5 K5 z1 z2 z3 z4 z5
  have HB0 := Lib.hid ((HB6.out.alloc HB6.out.size (.cells #[.int .i64 0, .string ⟨#[]⟩, .string ⟨#[]⟩, .string ⟨#[]⟩, .string ⟨#[]⟩, .slice A6 0 c6, .int .i64 0, .int .i64 0, .string ⟨#[]⟩] 40)) : Below w.heap.size w (w6.alloc (.cells #[.int .i64 0, .string ⟨#[]⟩, .string ⟨#[]⟩, .string ⟨#[]⟩, .string ⟨#[]⟩, .slice A6 0 c6, .int .i64 0, .int .i64 0, .string ⟨#[]⟩] 40)))
  have L0 := Lib.hid (L6.out.alloc (.cells #[.int .i64 0, .string ⟨#[]⟩, .string ⟨#[]⟩, .string ⟨#[]⟩, .string ⟨#[]⟩, .slice A6 0 c6, .int .i64 0, .int .i64 0, .string ⟨#[]⟩] 40))
  generalize w6.alloc (.cells #[.int .i64 0, .string ⟨#[]⟩, .string ⟨#[]⟩, .string ⟨#[]⟩, .string ⟨#[]⟩, .slice A6 0 c6, .int .i64 0, .int .i64 0, .string ⟨#[]⟩] 40) = X at *
  refine (Parse_is txt1 prg1 0 0 sp1 _ L0.out (by decide)).mono ?_
  rintro e w7 ⟨b7, vc, vf, rfl, hP⟩
  have L7 := Lib.hid (L0.out.below b7)
  have HB7 := Lib.hid (HB0.out.trans (b7.mono HB0.out.size))
  have HP := Lib.hid hP
  obtain ⟨A, cc, g, off, cp, pA, pc, lA, lc, rfl, rfl, _⟩ := prg1_in hP
  clear b7 hP
  go_wp2_with fail
  refine (Parse_is _ _ _ _ sp2 _ (L7.out.alloc _) (by decide)).mono ?_
  rintro e w8 ⟨b8, vc2, vf2, rfl, xs2, ys2, sc2, sf2, rfl, rfl, _⟩
  have L8 := Lib.hid ((L7.out.alloc _).below b8)
  have HB8 := Lib.hid ((HB7.out.alloc HB7.out.size _).trans (b8.mono (by have := HB7.out.size; simp; omega)))
  have HP8 := Lib.hid ((HP.out.below ((Below.refl _ _).alloc (Nat.le_refl _) _)).below b8)
  have z7 : w7.heap.size < w8.heap.size := by have := b8.size; simp at this; omega
  have K8 := Lib.hid ((b8.block _ (by simp)).trans (heap_new w7 (.cells #[.slice A 0 cc, .slice (some ⟨g, off, none⟩) 1 cp] 27)))
  clear b8
  unfold Sl.v
  go_wp2_with fail
  refine (Parse_is _ _ _ _ sp3 _ (L8.out.alloc _) (by decide)).mono ?_
  rintro e w9 ⟨b9, vc3, vf3, rfl, xs3, ys3, sc3, sf3, rfl, rfl, _⟩
  have L9 := Lib.hid ((L8.out.alloc _).below b9)
  have HB9 := Lib.hid ((HB8.out.alloc HB8.out.size _).trans (b9.mono (by have := HB8.out.size; simp; omega)))
  have HP9 := (HP8.out.below ((Below.refl _ _).alloc (Nat.le_refl _) _)).below b9
  have z9 : w7.heap.size < w9.heap.size := by have := b9.size; simp at this; omega
  have n9 : ¬ w7.heap.size = w9.heap.size := by omega
  have K9 := (b9.block _ (by simp; omega)).trans ((heap_alloc_old _ _ z7).trans K8.out)
  obtain ⟨A', cc', g', off', cp', pA', pc', lA', lc', e1, e2, q0, q1, q2⟩ := prg1_in HP9
  injection e1 with e1a _ e1b
  injection e2 with e2a _ e2b
  injection e2a with e2a
  injection e2a with e2c e2d
  subst e1a e1b e2b e2c e2d
  have hgl : g < w9.heap.size := cell_lt q0
  have hgn : ¬ g = w9.heap.size := by omega
  have k0 := cellB K9 0 rfl
  have k1 := cellB K9 1 rfl
  have HPN := Lib.hid HP9
  have HK9 := Lib.hid K9
  clear b9 K8 HP8 HP HP9 K9 q0 q1
  unfold Sl.v
  go_wp2_with fail
  refine (Print_calls prg1 _ _ _ (L9.out.alloc _) (HPN.out.below ((Below.refl _ _).alloc (Nat.le_refl _) _)) small1 (by decide +kernel)).mono ?_
  rw [spr]
  rintro e w10 ⟨rfl, b10⟩
  have HB10 := Lib.hid ((HB9.out.alloc HB9.out.size _).trans (b10.mono (by have := HB9.out.size; simp; omega)))
  clear b10 k0 k1 q2 hgl hgn n9
  unfold txt1
  go_wp2_with fail
  go_ret
  exact ⟨rfl, HB10.out⟩
end Go.Proofs.YtdkcdodkhghfhaaGreatDoor
