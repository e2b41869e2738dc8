/- The walk of lang.Print. -/
import Derived.Test.YtdkcdodkhghfhaaGreatDoorAP
import Derived.Deep.DeepCutAuto
namespace Go.Proofs.YtdkcdodkhghfhaaGreatDoor
open Go.RowKit Go.Proofs.YtdkcdodkhghfhaaGreatDoorW.PrintLast Go.Proofs.YtdkcdodkhghfhaaGreatDoorW.PrintWords

/-- What holds while a program is printed. -/
structure PSt (w : World) (vc vf : Value) (ok : Bool) (acc : Str) (W : World) : Prop where
  p : W.heap[w.heap.size]? = some (.cells #[vc, vf] 27 (0, 0))
  o : W.heap[w.heap.size + 1 + 1]? = some (.cells #[.bool ok] 4 (0, 0))
  b : Bld w.heap.size (w.heap.size + 1) acc W
  u : Below w.heap.size w W
/-- Cells of rows of elements of three cells. -/
theorem at3 {α : Type} (f : α → List Value) (h3 : ∀ x, (f x).length = 3) (l : List α) (k : Nat) (hk : k < l.length) (i : Nat) (hi : i < 3) : (l.flatMap f)[k * 3 + i]? = (f l[k])[i]? := by
  induction l generalizing k with
  | nil => simp at hk
  | cons x l ih =>
    cases k with
    | zero =>
      simp only [List.flatMap_cons, Nat.zero_mul, Nat.zero_add, List.getElem_cons_zero]
      rw [List.getElem?_append_left (by rw [h3]; omega)]
    | succ k =>
      simp only [List.flatMap_cons, List.getElem_cons_succ]
      rw [List.getElem?_append_right (by rw [h3]; omega), h3, show (k + 1) * 3 + i - 3 = k * 3 + i from by omega]
      exact ih k (by simpa using hk)
theorem rd3 {α : Type} {w : World} {e : Nat} {A : Option Addr} (f : α → List Value) (h3 : ∀ x, (f x).length = 3) {l : List α} (h : RdB w e A (l.flatMap f)) {k : Nat} (hk : k < l.length) :
    ∃ g off, A = some ⟨g, off, none⟩ ∧ ∀ i u, (f l[k])[i]? = some u → w.cell? ⟨g, off + k * 3 + i, none⟩ = some u := by
  rcases h with h | ⟨g, off, cs, hAe, hg, hcs⟩
  · have := congrArg List.length h
    have h0 := at3 f h3 l k hk 0 (by omega)
    rw [h] at h0
    have hne : 0 < (f l[k]).length := by rw [h3]; omega
    rw [List.getElem?_eq_getElem hne] at h0
    cases h0
  · refine ⟨g, off, hAe, fun i u hu => ?_⟩
    have hi : i < 3 := by
      rcases Nat.lt_or_ge i 3 with h | h
      · exact h
      · rw [List.getElem?_eq_none (by rw [h3]; exact h)] at hu; cases hu
    rw [Nat.add_assoc]
    exact cellB hg _ (hcs _ _ ((at3 f h3 l k hk i hi).trans hu))
theorem strs_one (l : List Str) : ∀ u ∈ strs l, u.oneCell' = true := by
  intro u hu
  obtain ⟨x, _, rfl⟩ := List.mem_map.1 hu
  rfl
theorem PSt.start (w : World) (cA fA : Option Addr) (n cc m fc : Nat) (b v : Bool) (h : v = b) : PSt w (.slice cA n cc) (.slice fA m fc) b [] (((w.alloc (.cells #[.slice cA n cc, .slice fA m fc] 27)).alloc (.cells #[.pointer none, .slice none 0 0] 86)).alloc (.cells #[.bool v] 4)) := by
  subst h
  refine ⟨(heap_alloc_old _ _ (by simp; omega)).trans ((heap_alloc_old _ _ (by simp)).trans (heap_new _ _)), heap_new' _ _ _ (by simp), ?_, (((Below.refl _ _).alloc (Nat.le_refl _) _).alloc (by simp) _).alloc (by simp; omega) _⟩
  have h := (Bld.new (w.alloc (.cells #[.slice cA n cc, .slice fA m fc] 27)) _ w.heap.size (by simp) rfl).below ((Below.refl _ _).alloc (Nat.le_refl _) (.cells #[.bool v] 4))
  simpa using h
theorem PSt.below {w W V : World} {vc vf : Value} {ok : Bool} {acc : Str} (h : PSt w vc vf ok acc W) (hb : Below W.heap.size W V) : PSt w vc vf ok acc V :=
  ⟨(hb.block _ (sizeB h.p)).trans h.p, (hb.block _ (sizeB h.o)).trans h.o, h.b.below hb, h.u.trans (hb.mono h.u.size)⟩
theorem PSt.line {w W V : World} {vc vf : Value} {ok ok' : Bool} {acc acc' : Str} (h : PSt w vc vf ok acc W) (hl : LineOut w.heap.size (w.heap.size + 1 + 1) (w.heap.size + 1) ok' acc' W V) : PSt w vc vf ok' acc' V :=
  ⟨(hl.2.2.2 _ _ _ h.p (by decide)).trans h.p, hl.1, hl.2.1, h.u.trans hl.2.2.1⟩
theorem take_next {α : Type} (l : List α) (k : Nat) (x : α) (h : l[k]? = some x) (p : α → Bool) (f : α → Str) :
    (l.take (k + 1)).all p = ((l.take k).all p && p x) ∧ (l.take (k + 1)).flatMap f = (l.take k).flatMap f ++ f x := by
  obtain ⟨hk, rfl⟩ := List.getElem?_eq_some_iff.1 h
  rw [List.take_succ_eq_append_getElem hk, List.all_append, List.flatMap_append]
  simp
theorem flatMap_mem_le {α : Type} (f : α → Str) (l : List α) (x : α) (h : x ∈ l) : (f x).length ≤ (l.flatMap f).length := by
  induction l with
  | nil => cases h
  | cons y l ih =>
    simp only [List.flatMap_cons, List.length_append]
    rcases List.mem_cons.1 h with rfl | h
    · omega
    · have := ih h; omega
theorem flatMap_take_le {α : Type} (f : α → Str) (l : List α) (k : Nat) : ((l.take k).flatMap f).length ≤ (l.flatMap f).length := by
  induction l generalizing k with
  | nil => simp
  | cons y l ih =>
    cases k with
    | zero => simp
    | succ k => have := ih k; simp only [List.take_succ_cons, List.flatMap_cons, List.length_append]; omega
theorem flatMap_len_ge {α : Type} (f : α → Str) (hf : ∀ x, 0 < (f x).length) (l : List α) : l.length ≤ (l.flatMap f).length := by
  induction l with
  | nil => simp
  | cons y l ih => have := hf y; simp only [List.flatMap_cons, List.length_append, List.length_cons]; omega
theorem clsText_len (c : Cls) : (clsText c).length = (lnText wClass (c.nm :: c.fields)).length + (c.methods.flatMap mText).length ∧ (lnText wClass (c.nm :: c.fields)).length = (spc (c.nm :: c.fields)).length + 6 ∧ c.fields.length + 1 ≤ (spc (c.nm :: c.fields)).length := by
  refine ⟨by simp [clsText], by rw [lnText_len]; simp [wClass]; omega, spc_len (c.nm :: c.fields)⟩
theorem rd2 {w : World} {A : Option Addr} {l : List (Str × Str)} (h : RdB w 52 A (mCells l)) {j : Nat} (hj : j < l.length) :
    ∃ g off, A = some ⟨g, off, none⟩ ∧ w.cell? ⟨g, off + j * 2, none⟩ = some (.string ⟨(l[j]).1.toArray⟩) ∧ w.cell? ⟨g, off + j * 2 + 1, none⟩ = some (.string ⟨(l[j]).2.toArray⟩) := by
  have key : ∀ (l : List (Str × Str)) (j : Nat) (hj : j < l.length), (mCells l)[j * 2]? = some (sv (l[j]).1) ∧ (mCells l)[j * 2 + 1]? = some (sv (l[j]).2) := by
    intro l
    induction l with
    | nil => intro j hj; simp at hj
    | cons x l ih =>
      intro j hj
      cases j with
      | zero => exact ⟨rfl, rfl⟩
      | succ j =>
        have := ih j (by simpa using hj)
        simp only [mCells, List.flatMap_cons, List.getElem_cons_succ] at this ⊢
        rw [show (j + 1) * 2 = j * 2 + 1 + 1 from by omega]
        exact this
  obtain ⟨k1, k2⟩ := key l j hj
  rcases h with h | ⟨g, off, cs, hAe, hg, hcs⟩
  · rw [h] at k1; cases k1
  · exact ⟨g, off, hAe, cellB hg _ (hcs _ _ k1), by rw [Nat.add_assoc]; exact cellB hg _ (hcs _ _ k2)⟩
theorem fnText_len (c : Fn) : (fnText c).length = (lnText wFunc (c.nm :: c.params)).length + (c.lines.flatMap lText).length + 8 ∧ (lnText wFunc (c.nm :: c.params)).length = (spc (c.nm :: c.params)).length + 5 ∧ c.params.length + 1 ≤ (spc (c.nm :: c.params)).length := by
  refine ⟨by simp [fnText, wEnd]; omega, by rw [lnText_len]; simp [wFunc]; omega, spc_len (c.nm :: c.params)⟩
theorem PSt.wrote {w W V : World} {vc vf : Value} {ok : Bool} {acc acc' : Str} (h : PSt w vc vf ok acc W) (hb : Bld w.heap.size (w.heap.size + 1) acc' V) (hu : Below w.heap.size W V) (hk : TKeep [5, 86] W V) : PSt w vc vf ok acc' V :=
  ⟨(hk _ _ _ h.p (by decide)).trans h.p, (hk _ _ _ h.o (by decide)).trans h.o, hb, h.u.trans hu⟩
theorem PSt.flag {w W : World} {vc vf : Value} {ok : Bool} {acc : Str} (h : PSt w vc vf ok acc W) (v : Bool) : PSt w vc vf v acc (W.setCell ⟨w.heap.size + 1 + 1, 0, none⟩ (.bool v)) :=
  ⟨(Below.heap_setCell _ _ _ _ (by simp; omega)).trans h.p, blk_set h.o 0 _, h.b.set h.o (by decide) (by decide), h.u.setCell (by simp; omega) _⟩
theorem blen_calls {B b : Nat} {acc : Str} {w : World} (h : Bld B b acc w) : Calls Tryz.prog 46 #[.pointer (some ⟨b, 0, none⟩)] w fun e w' => e = .returned (.int .i64 acc.length) ∧ w = w' := by
  refine (Tryz.Builder_Len_f B b _ w h).mono ?_
  rintro e w' ⟨rfl, rfl⟩
  rw [Lib.byteCells_length]
  exact ⟨rfl, rfl⟩
theorem lCells1_length (x : LnX) : (lCells1 x).length = 9 := rfl
theorem at9 (l : List LnX) (k : Nat) (hk : k < l.length) (i : Nat) (hi : i < 9) : (lCells l)[k * 9 + i]? = (lCells1 l[k])[i]? := by
  induction l generalizing k with
  | nil => simp at hk
  | cons x l ih =>
    cases k with
    | zero =>
      simp only [lCells, List.flatMap_cons, Nat.zero_mul, Nat.zero_add, List.getElem_cons_zero]
      rw [List.getElem?_append_left (by rw [lCells1_length]; omega)]
    | succ k =>
      simp only [lCells, List.flatMap_cons, List.getElem_cons_succ]
      rw [List.getElem?_append_right (by rw [lCells1_length]; omega), lCells1_length, show (k + 1) * 9 + i - 9 = k * 9 + i from by omega]
      exact ih k (by simpa using hk)
theorem rd9 {w W : World} {c : Fn} {s1 : Sl} {mA : Option Addr} {mc : Nat} (h : FnOk w (c, s1, ⟨mA, mc⟩)) (hb : Below w.heap.size w W) {j : Nat} (hj : j < c.lines.length) :
    ∃ g off a cp, mA = some ⟨g, off, none⟩ ∧ RdB W 9 a (strs (c.lines[j]).args) ∧ (W.cell? ⟨g, off + j * 9, none⟩ = some (.int .i64 (c.lines[j]).op) ∧ W.cell? ⟨g, off + j * 9 + 1, none⟩ = some (.string ⟨(c.lines[j]).a.toArray⟩) ∧
      W.cell? ⟨g, off + j * 9 + 2, none⟩ = some (.string ⟨(c.lines[j]).b.toArray⟩) ∧ W.cell? ⟨g, off + j * 9 + 3, none⟩ = some (.string ⟨(c.lines[j]).c.toArray⟩) ∧ W.cell? ⟨g, off + j * 9 + 4, none⟩ = some (.string ⟨(c.lines[j]).nm.toArray⟩) ∧
      W.cell? ⟨g, off + j * 9 + 5, none⟩ = some (.slice a (c.lines[j]).args.length cp) ∧ W.cell? ⟨g, off + j * 9 + 6, none⟩ = some (.int .i64 (c.lines[j]).cv.k) ∧ W.cell? ⟨g, off + j * 9 + 7, none⟩ = some (.int .i64 (c.lines[j]).cv.n) ∧
      W.cell? ⟨g, off + j * 9 + 8, none⟩ = some (.string ⟨(c.lines[j]).cv.s.toArray⟩)) := by
  obtain ⟨_, zs, hz, hr, hok⟩ := h
  dsimp only at hz hr
  have hzl : j < zs.length := by have := congrArg List.length hz; rw [List.length_map] at this; omega
  have hzj : (zs[j]).1 = c.lines[j] := by
    have : (zs.map (·.1))[j]? = c.lines[j]? := by rw [hz]
    rw [List.getElem?_map, List.getElem?_eq_getElem hzl, List.getElem?_eq_getElem hj] at this
    injection this
  have hrb := hr.below hb
  have hargs := (hok _ (List.getElem_mem hzl)).keep (fun _ _ h => h.below hb)
  have hx := at9 zs j hzl
  generalize zs[j] = z at *
  obtain ⟨l, a, cp⟩ := z
  dsimp only at hzj
  subst hzj
  rcases hrb with h | ⟨g, off, cs, hAe, hg, hcs⟩
  · have := hx 0 (by omega)
    rw [h] at this
    cases this
  · have key : ∀ i u, i < 9 → (lCells1 (c.lines[j], ⟨a, cp⟩))[i]? = some u → W.cell? ⟨g, off + (j * 9 + i), none⟩ = some u := fun i u hi hu => cellB hg _ (hcs _ _ ((hx i hi).trans hu))
    simp only [Nat.add_assoc]
    exact ⟨g, off, a, cp, hAe, hargs, key 0 _ (by omega) rfl, key 1 _ (by omega) rfl, key 2 _ (by omega) rfl, key 3 _ (by omega) rfl, key 4 _ (by omega) rfl, key 5 _ (by omega) rfl, key 6 _ (by omega) rfl, key 7 _ (by omega) rfl, key 8 _ (by omega) rfl⟩
set_option maxHeartbeats 4000000 in
set_option maxRecDepth 100000 in
theorem Print_calls (p : Prg) (vc vf : Value) (w : World) (L : LW w) (hp : PrgIn w vc vf p) (hs : ∀ f ∈ p.funcs, ∀ l ∈ f.lines, Small l ∧ (Lit.int IntKind.i64 l.op).wf = true) (hraw : (rawText p).length ≤ 1000000000) :
    Calls Tryz.prog 15 #[.agg #[vc, vf]] w fun e w' => e = .returned (.string ⟨(printS p).toArray⟩) ∧ Below w.heap.size w w' := by
  obtain ⟨xs, ys, ⟨cA, cc⟩, ⟨fA, fc⟩, rfl, rfl, hx, hy, h50, h45, hcls, hfn⟩ := hp
  have hcl : xs.length = p.classes.length := by rw [← hx, List.length_map]
  have hfl : ys.length = p.funcs.length := by rw [← hy, List.length_map]
  have hmf : ∀ (fn : Go.Fn) (first cap : Array Value) (w : World), (Instr.makeFunc fn first cap).run Tryz.prog w = .ok (.func fn first cap) w := fun _ _ _ _ => rfl
  unfold Sl.v
  dsimp only at h50 h45 ⊢
  obtain ⟨i9, hi9, hz9, hs9, hb9⟩ := info_parts info9s
  have hxn : xs.length ≤ 1000000000 := by
    have h := flatMap_len_ge clsText (fun c => by have := (clsText_len c).1; have := (clsText_len c).2.1; omega) p.classes
    simp only [rawText, List.length_append] at hraw
    omega
  have hyn : ys.length ≤ 1000000000 := by
    have h := flatMap_len_ge fnText (fun c => by have := (fnText_len c).1; omega) p.funcs
    simp only [rawText, List.length_append] at hraw
    omega
  have HL := Lib.hid L
  have hB : 8 ≤ w.heap.size := L.big
  have HX := Lib.hid hx
  have HY := Lib.hid hy
  have H50 := Lib.hid h50
  have H45 := Lib.hid h45
  have HC := Lib.hid hcls
  have HF := Lib.hid hfn
  clear h50 h45 hcls hfn hx hy hcl hfl L
  by_cases h12 : xs.length ≤ 12
  · skip
    have h12' : (xs.length : Int) ≤ 12 := by omega
    go_enter Tryz.func15, Tryz.ntmps15
    go_wp2_with fail
    go_loopw [7, 9, 29, 57] (fun _ _ i _ wr => ∃ k : Nat, k ≤ xs.length ∧ i = .int .i64 k ∧ PSt w (.slice cA xs.length cc) (.slice fA ys.length fc) (decide (ys.length ≤ 24) && (p.classes.take k).all clsOk) ((p.classes.take k).flatMap clsText) wr) (fun _ _ i _ _ => xs.length - (intOf i).toNat)
    case atStart =>
      refine ⟨0, Nat.zero_le _, rfl, ?_⟩
      rw [List.take_zero, List.all_nil, Bool.and_true, List.flatMap_nil]
      exact PSt.start w cA fA xs.length cc ys.length fc _ _ (by first | rfl | exact decide_eq_decide.2 (by omega))
    case round =>
      obtain ⟨k, hk, rfl, hS⟩ := hrel
      have PS := Lib.hid hS
      clear hS
      by_cases hlt : k < xs.length
      · skip
        obtain ⟨g, off, hA, hcell⟩ := rd3 cCells1 (fun _ => rfl) (H50.out.below PS.out.u) hlt
        have hmem : xs[k] ∈ xs := List.getElem_mem hlt
        have hnext := Lib.hid (take_next p.classes k (xs[k]).1 (by rw [← HX.out, List.getElem?_map, List.getElem?_eq_getElem hlt]; rfl) clsOk clsText)
        have hclen : (clsText (xs[k]).1).length ≤ 1000000000 := by
          have h := flatMap_mem_le clsText p.classes (xs[k]).1 (by rw [← HX.out]; exact List.mem_map.2 ⟨_, hmem, rfl⟩)
          simp only [rawText, List.length_append] at hraw
          omega
        have hacc : ((p.classes.take k).flatMap clsText).length ≤ 1000000000 := by
          have h := flatMap_take_le clsText p.classes k
          simp only [rawText, List.length_append] at hraw
          omega
        have HCX := Lib.hid (HC.out _ hmem)
        clear hmem
        generalize xs[k] = x at *
        obtain ⟨c, ⟨pA, pc⟩, ⟨mA, mc⟩⟩ := x
        dsimp only at hclen hnext
        generalize (p.classes.take k).flatMap clsText = acc at *
        generalize hokk : (decide (ys.length ≤ 24) && (p.classes.take k).all clsOk) = okk at *
        have HOKK := Lib.hid hokk
        have e0 : wr.cell? ⟨g, off + k * 3, none⟩ = some (.string ⟨c.nm.toArray⟩) := hcell 0 _ rfl
        have e1 : wr.cell? ⟨g, off + k * 3 + 1, none⟩ = some (.slice pA c.fields.length pc) := hcell 1 _ rfl
        have e2 : wr.cell? ⟨g, off + k * 3 + 2, none⟩ = some (.slice mA c.methods.length mc) := hcell 2 _ rfl
        have hok : wr.cell? ⟨w.heap.size + 1 + 1, 0, none⟩ = some (.bool okk) := cellB PS.out.o 0 rfl
        have hof := frozenB PS.out.o 0
        have hsz := sizeB PS.out.o
        have hlens := clsText_len c
        subst hA
        clear hcell hokk
        go_upto_region 7 with fail
        go_cut [] (fun W => W.heap[wr.heap.size]? = some (.cells #[.string ⟨c.nm.toArray⟩, .slice pA c.fields.length pc, .slice mA c.methods.length mc] 50 (0, 0)) ∧ PSt w (.slice (some ⟨g, off, none⟩) xs.length cc) (.slice fA ys.length fc) (okk && decide (c.fields.length ≤ 8) && decide (c.methods.length ≤ 8)) acc W)
        case first =>
          have fin : ∀ v : Bool, v = (okk && decide (c.fields.length ≤ 8) && decide (c.methods.length ≤ 8)) → ((wr.setCell ⟨w.heap.size + 1 + 1, 0, none⟩ (.bool v)).alloc (.cells #[.string ⟨c.nm.toArray⟩, .slice pA c.fields.length pc, .slice mA c.methods.length mc] 50)).heap[wr.heap.size]? = some (.cells #[.string ⟨c.nm.toArray⟩, .slice pA c.fields.length pc, .slice mA c.methods.length mc] 50 (0, 0)) ∧
              PSt w (.slice (some ⟨g, off, none⟩) xs.length cc) (.slice fA ys.length fc) (okk && decide (c.fields.length ≤ 8) && decide (c.methods.length ≤ 8)) acc ((wr.setCell ⟨w.heap.size + 1 + 1, 0, none⟩ (.bool v)).alloc (.cells #[.string ⟨c.nm.toArray⟩, .slice pA c.fields.length pc, .slice mA c.methods.length mc] 50)) := by
            intro v hv
            rw [← hv]
            have q := sizeB PS.out.p
            have hz : (wr.setCell ⟨w.heap.size + 1 + 1, 0, none⟩ (.bool v)).heap.size = wr.heap.size := by simp
            refine ⟨heap_new' _ _ _ hz.symm, (heap_alloc_old _ _ (by rw [hz]; exact q)).trans ((Below.heap_setCell _ _ _ _ (by simp; omega)).trans PS.out.p), (heap_alloc_old _ _ (by rw [hz]; exact hsz)).trans (blk_set PS.out.o 0 _), (PS.out.b.set PS.out.o (by decide) (by decide)).below ((Below.refl _ _).alloc (Nat.le_refl _) _), (PS.out.u.setCell (by simp; omega) _).alloc (by rw [hz]; omega) _⟩
          have FIN := Lib.hid fin
          clear fin
          cases okk with
          | false =>
            go_wp2_with fail
            go_meet
            exact FIN.out false rfl
          | true =>
            by_cases hf8 : c.fields.length ≤ 8
            · have hf8' : (c.fields.length : Int) ≤ 8 := by omega
              go_wp2_with fail
              go_meet
              exact FIN.out (decide ((c.methods.length : Int) ≤ 8)) (by rw [decide_eq_true hf8, Bool.and_true, Bool.true_and]; exact decide_eq_decide.2 (by omega))
            · have hf8' : (8 : Int) < c.fields.length := by omega
              go_wp2_with fail
              all_goals (go_meet; exact FIN.out false (by simp [hf8]))
        case rest =>
          obtain ⟨hc, hS⟩ := hcut
          have hc0 : wc.cell? ⟨wr.heap.size, 0, none⟩ = some (.string ⟨c.nm.toArray⟩) := cellB hc 0 rfl
          have hc1 : wc.cell? ⟨wr.heap.size, 1, none⟩ = some (.slice pA c.fields.length pc) := cellB hc 1 rfl
          have hwlt := sizeB hc
          have hwne : ¬ wr.heap.size = wc.heap.size := by omega
          have PS2 := Lib.hid hS
          have HCB := Lib.hid hc
          have hfields : RdB (wc.alloc (.cells #[.string ⟨c.nm.toArray⟩] 9)) 9 pA (strs c.fields) := (HCX.out.1.below PS2.out.u).below ((Below.refl _ _).alloc (Nat.le_refl _) _)
          have HFL := Lib.hid hfields
          have hown := World.ownsRow_lit (base := wc.heap.size) (e := 9) (size := 1) wc #[.string ⟨c.nm.toArray⟩] 1 (Nat.le_refl _) (by unfold maxLen; omega) rfl
          have HOW := Lib.hid hown
          have hBwc := PS2.out.u.size
          clear hS hc hfields hown
          generalize hokc : (okk && decide (c.fields.length ≤ 8) && decide (c.methods.length ≤ 8)) = okc0 at *
          have HOC0 := Lib.hid hokc
          clear hokc
          go_wp2_with (at_builtin; refine wpList_append_rd _ rfl (.tmp 49) (.tmp 51) _ rfl wc.heap.size 9 9 i9 _ 1 16 Tryz.underlying34 hi9 hz9 hs9 hb9 rfl (by omega) _ 1 _ rfl HOW.out pA c.fields.length pc (strs c.fields) rfl HFL.out (by simp [strs]) ?c1 (by unfold maxLen; omega) (by omega) (by simp) ?_)
          case c1 => exact strs_one _
          intro v' W2 hown2 hgrow _
          rw [Nat.add_comm 1] at hown2
          obtain ⟨g9, cp9, rfl, hg9, hcp9, hlt9⟩ := own_slice hown2 (by omega)
          have hA2 : RdB W2 9 (some ⟨g9, 0, none⟩) (strs (c.nm :: c.fields)) := RdB.of_own hown2
          have hbW2 : Below wc.heap.size wc W2 := ((Below.refl _ wc).alloc (Nat.le_refl _) _).grown hgrow (by simp) (by intro k hk; simp [Value.ownBlock] at hk; omega)
          have PSW := Lib.hid (PS2.out.below hbW2)
          have HCW := Lib.hid ((hbW2.block _ hwlt).trans HCB.out)
          have HA2 := Lib.hid hA2
          have hBw2 := PSW.out.u.size
          clear hown2 hgrow hbW2 hA2 hc0 hc1 hwlt hwne
          go_wp2_with fail
          refine (pline_calls w.heap.size (w.heap.size + 1 + 1) (w.heap.size + 1) okc0 acc wClass c.nm c.fields _ cp9 _ PSW.out.o (by omega) PSW.out.b HA2.out (by omega) (by simp [wClass]) (by omega) (by omega) hBw2).mono ?_
          rintro e W3 ⟨rfl, hL⟩
          have PS3 := Lib.hid (PSW.out.line hL)
          have HC3 := Lib.hid ((hL.2.2.2 _ _ _ HCW.out (by decide)).trans HCW.out)
          generalize hokc : (okc0 && (c.nm :: c.fields).all nameS) = okc at *
          have HOC := Lib.hid hokc
          have hal : (acc ++ lnText wClass (c.nm :: c.fields)).length ≤ 3000000000 := by simp only [List.length_append]; omega
          generalize haccc : acc ++ lnText wClass (c.nm :: c.fields) = accc at *
          have HAC := Lib.hid haccc
          clear hL haccc hokc
          have hm2 : W3.cell? ⟨wr.heap.size, 2, none⟩ = some (.slice mA c.methods.length mc) := cellB HC3.out 2 rfl
          have HMR := Lib.hid (HCX.out.2.below PS.out.u)
          have hmlen : c.methods.length ≤ 1000000000 := by
            have h := flatMap_len_ge mText (fun m => by simp [mText, lnText]; omega) c.methods
            omega
          go_wp2_with fail
          go_loopw [9, 57] (fun _ i wv => ∃ j : Nat, j ≤ c.methods.length ∧ i = .int .i64 j ∧ PSt w (.slice (some ⟨g, off, none⟩) xs.length cc) (.slice fA ys.length fc) (okc && (c.methods.take j).all mOk) (accc ++ (c.methods.take j).flatMap mText) wv) (fun _ i _ => c.methods.length - (intOf i).toNat)
          case atStart =>
            refine ⟨0, Nat.zero_le _, rfl, ?_⟩
            rw [List.take_zero, List.all_nil, Bool.and_true, List.flatMap_nil, List.append_nil]
            exact PS3.out
          case round =>
            obtain ⟨j, hj, rfl, hS⟩ := hrel
            have QS := Lib.hid hS
            clear hS
            by_cases hjl : j < c.methods.length
            · obtain ⟨g2, off2, hA2, hcell⟩ := rd2 (HCX.out.2.below QS.out.u) hjl
              have hnx := Lib.hid (take_next c.methods j (c.methods[j]) (List.getElem?_eq_getElem hjl) mOk mText)
              have hml : (mText c.methods[j]).length ≤ 1000000000 := by
                have h := flatMap_mem_le mText c.methods c.methods[j] (List.getElem_mem hjl)
                omega
              have hacc2 : (accc ++ (c.methods.take j).flatMap mText).length ≤ 5000000000 := by
                have h := flatMap_take_le mText c.methods j
                simp only [List.length_append]
                omega
              generalize c.methods[j] = mm at *
              obtain ⟨ma, mb⟩ := mm
              generalize hq1 : accc ++ (c.methods.take j).flatMap mText = acc2 at *
              generalize hq2 : (okc && (c.methods.take j).all mOk) = ok2 at *
              have HQ1 := Lib.hid hq1
              have HQ2 := Lib.hid hq2
              clear hq1 hq2
              have m0 : wr.cell? ⟨g2, off2 + j * 2, none⟩ = some (.string ⟨ma.toArray⟩) := hcell.1
              have m1 : wr.cell? ⟨g2, off2 + j * 2 + 1, none⟩ = some (.string ⟨mb.toArray⟩) := hcell.2
              subst hA2
              clear hcell hm2
              have hbo := sizeB QS.out.o
              go_wp2_with fail
              refine (pline_calls w.heap.size (w.heap.size + 1 + 1) (w.heap.size + 1) ok2 acc2 wMethod ma [mb] _ _ _ ?ho (by omega) ?hb ?hA ?hl (by simp [wMethod]) (by omega) (Nat.le_refl _) ?hBw).mono ?_
              case ho => exact (heap_alloc_old _ _ (by simp; omega)).trans ((heap_alloc_old _ _ hbo).trans QS.out.o)
              case hb => exact (QS.out.b.below ((Below.refl _ _).alloc (Nat.le_refl _) _)).below ((Below.refl _ _).alloc (Nat.le_refl _) _)
              case hA => exact .inr ⟨_, 0, #[.string ⟨ma.toArray⟩, .string ⟨mb.toArray⟩], rfl, heap_new' _ _ _ (by simp), fun j u h => by rw [Nat.zero_add, ← Array.getElem?_toList]; exact h⟩
              case hl => have := hml; simp only [mText, lnText_len] at this; omega
              case hBw => have := QS.out.u.size; simp; omega
              rintro e W4 ⟨rfl, hL⟩
              have QS2 := Lib.hid (((QS.out.below ((Below.refl _ _).alloc (Nat.le_refl _) _)).below ((Below.refl _ _).alloc (Nat.le_refl _) _)).line hL)
              clear hL m0 m1
              go_wp2_with fail
              refine ⟨⟨j + 1, hjl, rfl, ?_⟩, by simp [intOf]; omega⟩
              have h := QS2.out
              rw [hnx.out.1, hnx.out.2, ← Bool.and_assoc, HQ2.out, ← List.append_assoc, HQ1.out]
              exact h
            · have hj' : j = c.methods.length := by omega
              subst hj'
              rw [List.take_length] at QS
              go_wp2_with fail
              refine ⟨⟨k + 1, hlt, rfl, ?_⟩, by simp [intOf]; omega⟩
              have h := QS.out
              rw [hnext.out.1, hnext.out.2, ← Bool.and_assoc, HOKK.out]
              have e1 : (okk && clsOk c) = (okc && c.methods.all mOk) := by
                rw [← HOC.out, ← HOC0.out]; simp only [clsOk, Bool.and_assoc]
              have e2 : acc ++ clsText c = accc ++ c.methods.flatMap mText := by
                rw [← HAC.out]; simp [clsText]
              rw [e1, e2]
              exact h
      · have hk' : k = xs.length := by omega
        subst hk'
        have hpc : p.classes.take xs.length = p.classes := by
          have : xs.length = p.classes.length := by rw [← HX.out, List.length_map]
          rw [this, List.take_length]
        rw [hpc] at PS
        clear hpc hk hlt
        have hctl : (p.classes.flatMap clsText).length ≤ 1000000000 := by
          simp only [rawText, List.length_append] at hraw
          omega
        generalize hcb : (decide (ys.length ≤ 24) && p.classes.all clsOk) = cb at *
        generalize hct : p.classes.flatMap clsText = ct at *
        have HCBE := Lib.hid hcb
        have HCTE := Lib.hid hct
        clear hcb hct
        have v1 : wr.cell? ⟨w.heap.size, 1, none⟩ = some (.slice fA ys.length fc) := cellB PS.out.p 1 rfl
        go_wp2_with fail
        clear v1
        go_loopw [11, 13, 14, 73, 101] (fun _ _ _ i _ wr => ∃ k : Nat, k ≤ ys.length ∧ i = .int .i64 k ∧ PSt w (.slice cA xs.length cc) (.slice fA ys.length fc) (cb && (p.funcs.take k).all fnOk) (ct ++ (p.funcs.take k).flatMap fnText) wr) (fun _ _ _ i _ _ => ys.length - (intOf i).toNat)
        case atStart =>
          refine ⟨0, Nat.zero_le _, rfl, ?_⟩
          rw [List.take_zero, List.all_nil, Bool.and_true, List.flatMap_nil, List.append_nil]
          exact PS.out
        case round =>
          clear PS
          obtain ⟨k, hk, rfl, hS⟩ := hrel
          have PS := Lib.hid hS
          clear hS
          by_cases hlt : k < ys.length
          · obtain ⟨g, off, hA, hcell⟩ := rd3 fCells1 (fun _ => rfl) (H45.out.below PS.out.u) hlt
            have hmem : ys[k] ∈ ys := List.getElem_mem hlt
            have hpm : (ys[k]).1 ∈ p.funcs := by rw [← HY.out]; exact List.mem_map.2 ⟨_, hmem, rfl⟩
            have hnext := Lib.hid (take_next p.funcs k (ys[k]).1 (by rw [← HY.out, List.getElem?_map, List.getElem?_eq_getElem hlt]; rfl) fnOk fnText)
            have hflen : (fnText (ys[k]).1).length ≤ 1000000000 := by
              have h := flatMap_mem_le fnText p.funcs (ys[k]).1 hpm
              simp only [rawText, List.length_append] at hraw
              omega
            have hacc : (ct ++ (p.funcs.take k).flatMap fnText).length ≤ 2000000000 := by
              have h := flatMap_take_le fnText p.funcs k
              simp only [rawText, List.length_append] at hraw ⊢
              omega
            have HSM := Lib.hid (hs _ hpm)
            have HFX := Lib.hid (HF.out _ hmem)
            clear hmem hpm
            generalize ys[k] = x at *
            obtain ⟨c, ⟨pA, pc⟩, ⟨mA, mc⟩⟩ := x
            dsimp only at hflen hnext HSM
            generalize hacce : ct ++ (p.funcs.take k).flatMap fnText = acc at *
            generalize hokk : (cb && (p.funcs.take k).all fnOk) = okk at *
            have HOKK := Lib.hid hokk
            have HACCE := Lib.hid hacce
            have e0 : wr.cell? ⟨g, off + k * 3, none⟩ = some (.string ⟨c.nm.toArray⟩) := hcell 0 _ rfl
            have e1 : wr.cell? ⟨g, off + k * 3 + 1, none⟩ = some (.slice pA c.params.length pc) := hcell 1 _ rfl
            have e2 : wr.cell? ⟨g, off + k * 3 + 2, none⟩ = some (.slice mA c.lines.length mc) := hcell 2 _ rfl
            have hok : wr.cell? ⟨w.heap.size + 1 + 1, 0, none⟩ = some (.bool okk) := cellB PS.out.o 0 rfl
            have hof := frozenB PS.out.o 0
            have hsz := sizeB PS.out.o
            have hlens := fnText_len c
            subst hA
            clear hcell hokk hacce
            go_upto_region 18 with fail
            go_cut [] (fun W => W.heap[wr.heap.size]? = some (.cells #[.string ⟨c.nm.toArray⟩, .slice pA c.params.length pc, .slice mA c.lines.length mc] 45 (0, 0)) ∧ PSt w (.slice cA xs.length cc) (.slice (some ⟨g, off, none⟩) ys.length fc) (okk && decide (c.params.length ≤ 8) && decide (c.lines.length ≤ 60)) acc W)
            case first =>
              have fin : ∀ v : Bool, v = (okk && decide (c.params.length ≤ 8) && decide (c.lines.length ≤ 60)) → ((wr.setCell ⟨w.heap.size + 1 + 1, 0, none⟩ (.bool v)).alloc (.cells #[.string ⟨c.nm.toArray⟩, .slice pA c.params.length pc, .slice mA c.lines.length mc] 45)).heap[wr.heap.size]? = some (.cells #[.string ⟨c.nm.toArray⟩, .slice pA c.params.length pc, .slice mA c.lines.length mc] 45 (0, 0)) ∧
                  PSt w (.slice cA xs.length cc) (.slice (some ⟨g, off, none⟩) ys.length fc) (okk && decide (c.params.length ≤ 8) && decide (c.lines.length ≤ 60)) acc ((wr.setCell ⟨w.heap.size + 1 + 1, 0, none⟩ (.bool v)).alloc (.cells #[.string ⟨c.nm.toArray⟩, .slice pA c.params.length pc, .slice mA c.lines.length mc] 45)) := by
                intro v hv
                rw [← hv]
                have q := sizeB PS.out.p
                have hz : (wr.setCell ⟨w.heap.size + 1 + 1, 0, none⟩ (.bool v)).heap.size = wr.heap.size := by simp
                refine ⟨heap_new' _ _ _ hz.symm, (heap_alloc_old _ _ (by rw [hz]; exact q)).trans ((Below.heap_setCell _ _ _ _ (by simp; omega)).trans PS.out.p), (heap_alloc_old _ _ (by rw [hz]; exact hsz)).trans (blk_set PS.out.o 0 _), (PS.out.b.set PS.out.o (by decide) (by decide)).below ((Below.refl _ _).alloc (Nat.le_refl _) _), (PS.out.u.setCell (by simp; omega) _).alloc (by rw [hz]; omega) _⟩
              have FIN := Lib.hid fin
              clear fin
              cases okk with
              | false =>
                go_wp2_with fail
                go_meet
                exact FIN.out false rfl
              | true =>
                by_cases hf8 : c.params.length ≤ 8
                · have hf8' : (c.params.length : Int) ≤ 8 := by omega
                  go_wp2_with fail
                  go_meet
                  exact FIN.out (decide ((c.lines.length : Int) ≤ 60)) (by rw [decide_eq_true hf8, Bool.and_true, Bool.true_and]; exact decide_eq_decide.2 (by omega))
                · have hf8' : (8 : Int) < c.params.length := by omega
                  go_wp2_with fail
                  all_goals (go_meet; exact FIN.out false (by simp [hf8]))
            case rest =>
              obtain ⟨hc, hS⟩ := hcut
              have hc0 : wc.cell? ⟨wr.heap.size, 0, none⟩ = some (.string ⟨c.nm.toArray⟩) := cellB hc 0 rfl
              have hc1 : wc.cell? ⟨wr.heap.size, 1, none⟩ = some (.slice pA c.params.length pc) := cellB hc 1 rfl
              have hwlt := sizeB hc
              have hwne : ¬ wr.heap.size = wc.heap.size := by omega
              have PS2 := Lib.hid hS
              have HCB := Lib.hid hc
              have hfields : RdB (wc.alloc (.cells #[.string ⟨c.nm.toArray⟩] 9)) 9 pA (strs c.params) := (HFX.out.1.below PS2.out.u).below ((Below.refl _ _).alloc (Nat.le_refl _) _)
              have HFL := Lib.hid hfields
              have hown := World.ownsRow_lit (base := wc.heap.size) (e := 9) (size := 1) wc #[.string ⟨c.nm.toArray⟩] 1 (Nat.le_refl _) (by unfold maxLen; omega) rfl
              have HOW := Lib.hid hown
              have hBwc := PS2.out.u.size
              clear hS hc hfields hown
              generalize hokc : (okk && decide (c.params.length ≤ 8) && decide (c.lines.length ≤ 60)) = okc0 at *
              have HOC0 := Lib.hid hokc
              clear hokc
              go_wp2_with (at_builtin; refine wpList_append_rd _ rfl (.tmp 93) (.tmp 95) _ rfl wc.heap.size 9 9 i9 _ 1 16 Tryz.underlying34 hi9 hz9 hs9 hb9 rfl (by omega) _ 1 _ rfl HOW.out pA c.params.length pc (strs c.params) rfl HFL.out (by simp [strs]) ?c1 (by unfold maxLen; omega) (by omega) (by simp) ?_)
              case c1 => exact strs_one _
              intro v' W2 hown2 hgrow _
              rw [Nat.add_comm 1] at hown2
              obtain ⟨g9, cp9, rfl, hg9, hcp9, hlt9⟩ := own_slice hown2 (by omega)
              have hA2 : RdB W2 9 (some ⟨g9, 0, none⟩) (strs (c.nm :: c.params)) := RdB.of_own hown2
              have hbW2 : Below wc.heap.size wc W2 := ((Below.refl _ wc).alloc (Nat.le_refl _) _).grown hgrow (by simp) (by intro k hk; simp [Value.ownBlock] at hk; omega)
              have PSW := Lib.hid (PS2.out.below hbW2)
              have HCW := Lib.hid ((hbW2.block _ hwlt).trans HCB.out)
              have HA2 := Lib.hid hA2
              have hBw2 := PSW.out.u.size
              clear hown2 hgrow hbW2 hA2 hc0 hc1 hwlt hwne
              go_wp2_with fail
              refine (pline_calls w.heap.size (w.heap.size + 1 + 1) (w.heap.size + 1) okc0 acc wFunc c.nm c.params _ cp9 _ PSW.out.o (by omega) PSW.out.b HA2.out (by omega) (by simp [wFunc]) (by omega) (by omega) hBw2).mono ?_
              rintro e W3 ⟨rfl, hL⟩
              have PS3 := Lib.hid (PSW.out.line hL)
              have HC3 := Lib.hid ((hL.2.2.2 _ _ _ HCW.out (by decide)).trans HCW.out)
              generalize hokc : (okc0 && (c.nm :: c.params).all nameS) = okc at *
              have HOC := Lib.hid hokc
              have hal : (acc ++ lnText wFunc (c.nm :: c.params)).length ≤ 3000000000 := by simp only [List.length_append]; omega
              generalize haccc : acc ++ lnText wFunc (c.nm :: c.params) = accc at *
              have HAC := Lib.hid haccc
              clear hL haccc hokc
              have hm2 : W3.cell? ⟨wr.heap.size, 2, none⟩ = some (.slice mA c.lines.length mc) := cellB HC3.out 2 rfl
              have hmlen : c.lines.length ≤ 1000000000 := by
                have h := flatMap_len_ge lText (fun m => by simp [lText]) c.lines
                omega
              go_wp2_with fail
              clear hm2
              go_loopw [13, 14, 101] (fun _ _ i wv => ∃ j : Nat, j ≤ c.lines.length ∧ i = .int .i64 j ∧ PSt w (.slice cA xs.length cc) (.slice (some ⟨g, off, none⟩) ys.length fc) (okc && (c.lines.take j).all lOk) (accc ++ (c.lines.take j).flatMap lText) wv) (fun _ _ i _ => c.lines.length - (intOf i).toNat)
              case atStart =>
                refine ⟨0, Nat.zero_le _, rfl, ?_⟩
                rw [List.take_zero, List.all_nil, Bool.and_true, List.flatMap_nil, List.append_nil]
                exact PS3.out
              case round =>
                obtain ⟨j, hj, rfl, hS⟩ := hrel
                have QS := Lib.hid hS
                clear hS
                by_cases hjl : j < c.lines.length
                · obtain ⟨g2, off2, a2, cp2, hA2, hrd2, hcell⟩ := rd9 ⟨HFX.out.1, HFX.out.2⟩ QS.out.u hjl
                  have hnx := Lib.hid (take_next c.lines j (c.lines[j]) (List.getElem?_eq_getElem hjl) lOk lText)
                  have hml : (lText c.lines[j]).length ≤ 1000000000 := by
                    have h := flatMap_mem_le lText c.lines c.lines[j] (List.getElem_mem hjl)
                    omega
                  have hacc2 : (accc ++ (c.lines.take j).flatMap lText).length ≤ 5000000000 := by
                    have h := flatMap_take_le lText c.lines j
                    simp only [List.length_append]
                    omega
                  have HSL := Lib.hid (HSM.out _ (List.getElem_mem hjl))
                  generalize c.lines[j] = l at *
                  generalize hq1 : accc ++ (c.lines.take j).flatMap lText = acc2 at *
                  generalize hq2 : (okc && (c.lines.take j).all lOk) = ok2 at *
                  have HQ1 := Lib.hid hq1
                  have HQ2 := Lib.hid hq2
                  clear hq1 hq2
                  obtain ⟨m0, m1, m2, m3, m4, m5, m6, m7, m8⟩ := hcell
                  have HR2 := Lib.hid hrd2
                  subst hA2
                  clear hrd2
                  have hbo := sizeB QS.out.o
                  go_wp2_with fail
                  refine (Line_calls l a2 cp2 _ (LW.alloc (HL.out.belowB hB QS.out.u) _) (HR2.out.below ((Below.refl _ _).alloc (Nat.le_refl _) _)) HSL.out.1 HSL.out.2).mono ?_
                  rintro e V ⟨rfl, hV⟩
                  have QV := Lib.hid ((QS.out.below ((Below.refl _ _).alloc (Nat.le_refl _) _)).below hV)
                  clear hV m0 m1 m2 m3 m4 m5 m6 m7 m8 hbo
                  have hlO : lOk l = decide (lineT l ≠ []) := rfl
                  have hlT : lText l = lineT l ++ [10] := rfl
                  have HLO := Lib.hid hlO
                  have HLT := Lib.hid hlT
                  have h1 : (lineT l).length ≤ 1000000000 := by rw [hlT] at hml; simp at hml; omega
                  clear hlO hlT hml
                  generalize lineT l = t at *
                  have hk0 : V.cell? ⟨w.heap.size + 1 + 1, 0, none⟩ = some (.bool ok2) := cellB QV.out.o 0 rfl
                  have hk1 := frozenB QV.out.o 0
                  go_upto_region 24 with fail
                  go_cut [] (fun W => PSt w (.slice cA xs.length cc) (.slice (some ⟨g, off, none⟩) ys.length fc) (ok2 && decide (t ≠ [])) acc2 W)
                  case first =>
                    have fin : ∀ v : Bool, v = (ok2 && decide (t ≠ [])) → PSt w (.slice cA xs.length cc) (.slice (some ⟨g, off, none⟩) ys.length fc) (ok2 && decide (t ≠ [])) acc2 (V.setCell ⟨w.heap.size + 1 + 1, 0, none⟩ (.bool v)) := fun v hv => by
                      rw [← hv]
                      exact QV.out.flag v
                    have FIN := Lib.hid fin
                    clear fin
                    cases ok2 with
                    | false =>
                      go_wp2_with fail
                      go_meet
                      exact FIN.out false rfl
                    | true =>
                      by_cases ht : t = []
                      · subst ht
                        go_wp2_with fail
                        go_meet
                        exact FIN.out false rfl
                      · have ht1 : (t == []) = false := by simpa using ht
                        have ht2 : t.isEmpty = false := by simpa using ht
                        have HT := Lib.hid ht
                        clear ht
                        go_wp2_with fail
                        go_meet
                        exact FIN.out true (by simp [HT.out])
                  case rest =>
                    have QC := Lib.hid hcut
                    clear hcut hk0 hk1
                    have hcat : ((⟨t.toArray⟩ : ByteArray) ++ ⟨#[10]⟩) = ⟨(t ++ [10]).toArray⟩ := by
                      apply ByteArray.ext; apply Array.toList_inj.1; simp
                    go_wp2_with fail
                    refine (wr_str w.heap.size (w.heap.size + 1) acc2 (t ++ [10]) _ QC.out.b (by simp only [List.length_append, List.length_singleton]; omega) QC.out.u.size).mono ?_
                    rintro e V2 ⟨rfl, h4, h5, h6⟩
                    have QW := Lib.hid (QC.out.wrote h4 h5 h6)
                    clear h4 h5 h6 hcat
                    go_wp2_with fail
                    refine ⟨⟨j + 1, hjl, rfl, ?_⟩, by simp [intOf]; omega⟩
                    have h := QW.out
                    rw [hnx.out.1, hnx.out.2, ← Bool.and_assoc, HQ2.out, ← List.append_assoc, HQ1.out, HLO.out, HLT.out]
                    exact h
                · have hj' : j = c.lines.length := by omega
                  subst hj'
                  rw [List.take_length] at QS
                  have hal2 : (accc ++ c.lines.flatMap lText).length ≤ 5000000000 := by simp only [List.length_append]; omega
                  go_wp2_with fail
                  refine (wr_str w.heap.size (w.heap.size + 1) _ [101, 110, 100, 102, 117, 110, 99, 10] _ QS.out.b (by simp only [List.length_cons, List.length_nil]; omega) QS.out.u.size).mono ?_
                  rintro e V2 ⟨rfl, h4, h5, h6⟩
                  have QW := Lib.hid (QS.out.wrote h4 h5 h6)
                  clear h4 h5 h6 hal2
                  go_wp2_with fail
                  refine ⟨⟨k + 1, hlt, rfl, ?_⟩, by simp [intOf]; omega⟩
                  have h := QW.out
                  rw [hnext.out.1, hnext.out.2, ← Bool.and_assoc, HOKK.out, ← List.append_assoc, HACCE.out]
                  have e1 : (okk && fnOk c) = (okc && c.lines.all lOk) := by
                    rw [← HOC.out, ← HOC0.out]; simp only [fnOk, Bool.and_assoc]
                  have e2 : acc ++ fnText c = accc ++ c.lines.flatMap lText ++ (wEnd ++ [10]) := by
                    rw [← HAC.out]; simp [fnText]
                  rw [e1, e2]
                  exact h
          · have hk' : k = ys.length := by omega
            subst hk'
            have hpf : p.funcs.take ys.length = p.funcs := by
              have : ys.length = p.funcs.length := by rw [← HY.out, List.length_map]
              rw [this, List.take_length]
            rw [hpf, ← HCTE.out, ← HCBE.out] at PS
            have hfin : prgOk p = (decide (ys.length ≤ 24) && p.classes.all clsOk && p.funcs.all fnOk) := by
              have l1 : p.classes.length = xs.length := by rw [← HX.out, List.length_map]
              have l2 : p.funcs.length = ys.length := by rw [← HY.out, List.length_map]
              unfold prgOk
              rw [l1, l2, decide_eq_true h12, Bool.true_and]
            have hraw2 : p.classes.flatMap clsText ++ p.funcs.flatMap fnText = rawText p := rfl
            rw [hraw2, ← hfin] at PS
            clear hpf hfin hraw2 HCTE HCBE
            have HPR : Hid (printS p = if prgOk p = true ∧ (rawText p).length ≤ 8000 then rawText p else []) := Lib.hid rfl
            generalize prgOk p = okF at *
            generalize rawText p = raw at *
            have hk0 : wr.cell? ⟨w.heap.size + 1 + 1, 0, none⟩ = some (.bool okF) := cellB PS.out.o 0 rfl
            cases okF with
            | false =>
              go_wp2_with fail
              go_ret
              rw [HPR.out]
              exact ⟨rfl, PS.out.u⟩
            | true =>
              go_wp2_with fail
              refine (blen_calls PS.out.b).mono ?_
              rintro e w' ⟨rfl, rfl⟩
              by_cases h8 : raw.length ≤ 8000
              · have h8' : (raw.length : Int) ≤ 8000 := by omega
                go_wp2_with fail
                refine (bld_str w.heap.size (w.heap.size + 1) raw wr PS.out.b PS.out.u.size).mono ?_
                rintro e V ⟨rfl, hV⟩
                have HV := Lib.hid (PS.out.u.trans hV)
                clear hV
                go_wp2_with fail
                go_ret
                rw [HPR.out, if_pos ⟨by trivial, h8⟩]
                exact ⟨rfl, HV.out⟩
              · have h8' : (8000 : Int) < raw.length := by omega
                go_wp2_with fail
                go_ret
                rw [HPR.out, if_neg (fun h => h8 h.2)]
                exact ⟨rfl, PS.out.u⟩
  · skip
    have h12' : (12 : Int) < (xs.length : Int) := by omega
    go_enter Tryz.func15, Tryz.ntmps15
    go_wp2_with fail
    go_loopw [7, 9, 29, 57] (fun _ _ i _ wr => ∃ k : Nat, k ≤ xs.length ∧ i = .int .i64 k ∧ PSt w (.slice cA xs.length cc) (.slice fA ys.length fc) (false && (p.classes.take k).all clsOk) ((p.classes.take k).flatMap clsText) wr) (fun _ _ i _ _ => xs.length - (intOf i).toNat)
    case atStart =>
      refine ⟨0, Nat.zero_le _, rfl, ?_⟩
      rw [List.take_zero, List.all_nil, Bool.and_true, List.flatMap_nil]
      exact PSt.start w cA fA xs.length cc ys.length fc _ _ (by first | rfl | exact decide_eq_decide.2 (by omega))
    case round =>
      obtain ⟨k, hk, rfl, hS⟩ := hrel
      have PS := Lib.hid hS
      clear hS
      by_cases hlt : k < xs.length
      · skip
        obtain ⟨g, off, hA, hcell⟩ := rd3 cCells1 (fun _ => rfl) (H50.out.below PS.out.u) hlt
        have hmem : xs[k] ∈ xs := List.getElem_mem hlt
        have hnext := Lib.hid (take_next p.classes k (xs[k]).1 (by rw [← HX.out, List.getElem?_map, List.getElem?_eq_getElem hlt]; rfl) clsOk clsText)
        have hclen : (clsText (xs[k]).1).length ≤ 1000000000 := by
          have h := flatMap_mem_le clsText p.classes (xs[k]).1 (by rw [← HX.out]; exact List.mem_map.2 ⟨_, hmem, rfl⟩)
          simp only [rawText, List.length_append] at hraw
          omega
        have hacc : ((p.classes.take k).flatMap clsText).length ≤ 1000000000 := by
          have h := flatMap_take_le clsText p.classes k
          simp only [rawText, List.length_append] at hraw
          omega
        have HCX := Lib.hid (HC.out _ hmem)
        clear hmem
        generalize xs[k] = x at *
        obtain ⟨c, ⟨pA, pc⟩, ⟨mA, mc⟩⟩ := x
        dsimp only at hclen hnext
        generalize (p.classes.take k).flatMap clsText = acc at *
        generalize hokk : (false && (p.classes.take k).all clsOk) = okk at *
        have HOKK := Lib.hid hokk
        have e0 : wr.cell? ⟨g, off + k * 3, none⟩ = some (.string ⟨c.nm.toArray⟩) := hcell 0 _ rfl
        have e1 : wr.cell? ⟨g, off + k * 3 + 1, none⟩ = some (.slice pA c.fields.length pc) := hcell 1 _ rfl
        have e2 : wr.cell? ⟨g, off + k * 3 + 2, none⟩ = some (.slice mA c.methods.length mc) := hcell 2 _ rfl
        have hok : wr.cell? ⟨w.heap.size + 1 + 1, 0, none⟩ = some (.bool okk) := cellB PS.out.o 0 rfl
        have hof := frozenB PS.out.o 0
        have hsz := sizeB PS.out.o
        have hlens := clsText_len c
        subst hA
        clear hcell hokk
        go_upto_region 7 with fail
        go_cut [] (fun W => W.heap[wr.heap.size]? = some (.cells #[.string ⟨c.nm.toArray⟩, .slice pA c.fields.length pc, .slice mA c.methods.length mc] 50 (0, 0)) ∧ PSt w (.slice (some ⟨g, off, none⟩) xs.length cc) (.slice fA ys.length fc) (okk && decide (c.fields.length ≤ 8) && decide (c.methods.length ≤ 8)) acc W)
        case first =>
          have fin : ∀ v : Bool, v = (okk && decide (c.fields.length ≤ 8) && decide (c.methods.length ≤ 8)) → ((wr.setCell ⟨w.heap.size + 1 + 1, 0, none⟩ (.bool v)).alloc (.cells #[.string ⟨c.nm.toArray⟩, .slice pA c.fields.length pc, .slice mA c.methods.length mc] 50)).heap[wr.heap.size]? = some (.cells #[.string ⟨c.nm.toArray⟩, .slice pA c.fields.length pc, .slice mA c.methods.length mc] 50 (0, 0)) ∧
              PSt w (.slice (some ⟨g, off, none⟩) xs.length cc) (.slice fA ys.length fc) (okk && decide (c.fields.length ≤ 8) && decide (c.methods.length ≤ 8)) acc ((wr.setCell ⟨w.heap.size + 1 + 1, 0, none⟩ (.bool v)).alloc (.cells #[.string ⟨c.nm.toArray⟩, .slice pA c.fields.length pc, .slice mA c.methods.length mc] 50)) := by
            intro v hv
            rw [← hv]
            have q := sizeB PS.out.p
            have hz : (wr.setCell ⟨w.heap.size + 1 + 1, 0, none⟩ (.bool v)).heap.size = wr.heap.size := by simp
            refine ⟨heap_new' _ _ _ hz.symm, (heap_alloc_old _ _ (by rw [hz]; exact q)).trans ((Below.heap_setCell _ _ _ _ (by simp; omega)).trans PS.out.p), (heap_alloc_old _ _ (by rw [hz]; exact hsz)).trans (blk_set PS.out.o 0 _), (PS.out.b.set PS.out.o (by decide) (by decide)).below ((Below.refl _ _).alloc (Nat.le_refl _) _), (PS.out.u.setCell (by simp; omega) _).alloc (by rw [hz]; omega) _⟩
          have FIN := Lib.hid fin
          clear fin
          cases okk with
          | false =>
            go_wp2_with fail
            go_meet
            exact FIN.out false rfl
          | true =>
            by_cases hf8 : c.fields.length ≤ 8
            · have hf8' : (c.fields.length : Int) ≤ 8 := by omega
              go_wp2_with fail
              go_meet
              exact FIN.out (decide ((c.methods.length : Int) ≤ 8)) (by rw [decide_eq_true hf8, Bool.and_true, Bool.true_and]; exact decide_eq_decide.2 (by omega))
            · have hf8' : (8 : Int) < c.fields.length := by omega
              go_wp2_with fail
              all_goals (go_meet; exact FIN.out false (by simp [hf8]))
        case rest =>
          obtain ⟨hc, hS⟩ := hcut
          have hc0 : wc.cell? ⟨wr.heap.size, 0, none⟩ = some (.string ⟨c.nm.toArray⟩) := cellB hc 0 rfl
          have hc1 : wc.cell? ⟨wr.heap.size, 1, none⟩ = some (.slice pA c.fields.length pc) := cellB hc 1 rfl
          have hwlt := sizeB hc
          have hwne : ¬ wr.heap.size = wc.heap.size := by omega
          have PS2 := Lib.hid hS
          have HCB := Lib.hid hc
          have hfields : RdB (wc.alloc (.cells #[.string ⟨c.nm.toArray⟩] 9)) 9 pA (strs c.fields) := (HCX.out.1.below PS2.out.u).below ((Below.refl _ _).alloc (Nat.le_refl _) _)
          have HFL := Lib.hid hfields
          have hown := World.ownsRow_lit (base := wc.heap.size) (e := 9) (size := 1) wc #[.string ⟨c.nm.toArray⟩] 1 (Nat.le_refl _) (by unfold maxLen; omega) rfl
          have HOW := Lib.hid hown
          have hBwc := PS2.out.u.size
          clear hS hc hfields hown
          generalize hokc : (okk && decide (c.fields.length ≤ 8) && decide (c.methods.length ≤ 8)) = okc0 at *
          have HOC0 := Lib.hid hokc
          clear hokc
          go_wp2_with (at_builtin; refine wpList_append_rd _ rfl (.tmp 49) (.tmp 51) _ rfl wc.heap.size 9 9 i9 _ 1 16 Tryz.underlying34 hi9 hz9 hs9 hb9 rfl (by omega) _ 1 _ rfl HOW.out pA c.fields.length pc (strs c.fields) rfl HFL.out (by simp [strs]) ?c1 (by unfold maxLen; omega) (by omega) (by simp) ?_)
          case c1 => exact strs_one _
          intro v' W2 hown2 hgrow _
          rw [Nat.add_comm 1] at hown2
          obtain ⟨g9, cp9, rfl, hg9, hcp9, hlt9⟩ := own_slice hown2 (by omega)
          have hA2 : RdB W2 9 (some ⟨g9, 0, none⟩) (strs (c.nm :: c.fields)) := RdB.of_own hown2
          have hbW2 : Below wc.heap.size wc W2 := ((Below.refl _ wc).alloc (Nat.le_refl _) _).grown hgrow (by simp) (by intro k hk; simp [Value.ownBlock] at hk; omega)
          have PSW := Lib.hid (PS2.out.below hbW2)
          have HCW := Lib.hid ((hbW2.block _ hwlt).trans HCB.out)
          have HA2 := Lib.hid hA2
          have hBw2 := PSW.out.u.size
          clear hown2 hgrow hbW2 hA2 hc0 hc1 hwlt hwne
          go_wp2_with fail
          refine (pline_calls w.heap.size (w.heap.size + 1 + 1) (w.heap.size + 1) okc0 acc wClass c.nm c.fields _ cp9 _ PSW.out.o (by omega) PSW.out.b HA2.out (by omega) (by simp [wClass]) (by omega) (by omega) hBw2).mono ?_
          rintro e W3 ⟨rfl, hL⟩
          have PS3 := Lib.hid (PSW.out.line hL)
          have HC3 := Lib.hid ((hL.2.2.2 _ _ _ HCW.out (by decide)).trans HCW.out)
          generalize hokc : (okc0 && (c.nm :: c.fields).all nameS) = okc at *
          have HOC := Lib.hid hokc
          have hal : (acc ++ lnText wClass (c.nm :: c.fields)).length ≤ 3000000000 := by simp only [List.length_append]; omega
          generalize haccc : acc ++ lnText wClass (c.nm :: c.fields) = accc at *
          have HAC := Lib.hid haccc
          clear hL haccc hokc
          have hm2 : W3.cell? ⟨wr.heap.size, 2, none⟩ = some (.slice mA c.methods.length mc) := cellB HC3.out 2 rfl
          have HMR := Lib.hid (HCX.out.2.below PS.out.u)
          have hmlen : c.methods.length ≤ 1000000000 := by
            have h := flatMap_len_ge mText (fun m => by simp [mText, lnText]; omega) c.methods
            omega
          go_wp2_with fail
          go_loopw [9, 57] (fun _ i wv => ∃ j : Nat, j ≤ c.methods.length ∧ i = .int .i64 j ∧ PSt w (.slice (some ⟨g, off, none⟩) xs.length cc) (.slice fA ys.length fc) (okc && (c.methods.take j).all mOk) (accc ++ (c.methods.take j).flatMap mText) wv) (fun _ i _ => c.methods.length - (intOf i).toNat)
          case atStart =>
            refine ⟨0, Nat.zero_le _, rfl, ?_⟩
            rw [List.take_zero, List.all_nil, Bool.and_true, List.flatMap_nil, List.append_nil]
            exact PS3.out
          case round =>
            obtain ⟨j, hj, rfl, hS⟩ := hrel
            have QS := Lib.hid hS
            clear hS
            by_cases hjl : j < c.methods.length
            · obtain ⟨g2, off2, hA2, hcell⟩ := rd2 (HCX.out.2.below QS.out.u) hjl
              have hnx := Lib.hid (take_next c.methods j (c.methods[j]) (List.getElem?_eq_getElem hjl) mOk mText)
              have hml : (mText c.methods[j]).length ≤ 1000000000 := by
                have h := flatMap_mem_le mText c.methods c.methods[j] (List.getElem_mem hjl)
                omega
              have hacc2 : (accc ++ (c.methods.take j).flatMap mText).length ≤ 5000000000 := by
                have h := flatMap_take_le mText c.methods j
                simp only [List.length_append]
                omega
              generalize c.methods[j] = mm at *
              obtain ⟨ma, mb⟩ := mm
              generalize hq1 : accc ++ (c.methods.take j).flatMap mText = acc2 at *
              generalize hq2 : (okc && (c.methods.take j).all mOk) = ok2 at *
              have HQ1 := Lib.hid hq1
              have HQ2 := Lib.hid hq2
              clear hq1 hq2
              have m0 : wr.cell? ⟨g2, off2 + j * 2, none⟩ = some (.string ⟨ma.toArray⟩) := hcell.1
              have m1 : wr.cell? ⟨g2, off2 + j * 2 + 1, none⟩ = some (.string ⟨mb.toArray⟩) := hcell.2
              subst hA2
              clear hcell hm2
              have hbo := sizeB QS.out.o
              go_wp2_with fail
              refine (pline_calls w.heap.size (w.heap.size + 1 + 1) (w.heap.size + 1) ok2 acc2 wMethod ma [mb] _ _ _ ?ho (by omega) ?hb ?hA ?hl (by simp [wMethod]) (by omega) (Nat.le_refl _) ?hBw).mono ?_
              case ho => exact (heap_alloc_old _ _ (by simp; omega)).trans ((heap_alloc_old _ _ hbo).trans QS.out.o)
              case hb => exact (QS.out.b.below ((Below.refl _ _).alloc (Nat.le_refl _) _)).below ((Below.refl _ _).alloc (Nat.le_refl _) _)
              case hA => exact .inr ⟨_, 0, #[.string ⟨ma.toArray⟩, .string ⟨mb.toArray⟩], rfl, heap_new' _ _ _ (by simp), fun j u h => by rw [Nat.zero_add, ← Array.getElem?_toList]; exact h⟩
              case hl => have := hml; simp only [mText, lnText_len] at this; omega
              case hBw => have := QS.out.u.size; simp; omega
              rintro e W4 ⟨rfl, hL⟩
              have QS2 := Lib.hid (((QS.out.below ((Below.refl _ _).alloc (Nat.le_refl _) _)).below ((Below.refl _ _).alloc (Nat.le_refl _) _)).line hL)
              clear hL m0 m1
              go_wp2_with fail
              refine ⟨⟨j + 1, hjl, rfl, ?_⟩, by simp [intOf]; omega⟩
              have h := QS2.out
              rw [hnx.out.1, hnx.out.2, ← Bool.and_assoc, HQ2.out, ← List.append_assoc, HQ1.out]
              exact h
            · have hj' : j = c.methods.length := by omega
              subst hj'
              rw [List.take_length] at QS
              go_wp2_with fail
              refine ⟨⟨k + 1, hlt, rfl, ?_⟩, by simp [intOf]; omega⟩
              have h := QS.out
              rw [hnext.out.1, hnext.out.2, ← Bool.and_assoc, HOKK.out]
              have e1 : (okk && clsOk c) = (okc && c.methods.all mOk) := by
                rw [← HOC.out, ← HOC0.out]; simp only [clsOk, Bool.and_assoc]
              have e2 : acc ++ clsText c = accc ++ c.methods.flatMap mText := by
                rw [← HAC.out]; simp [clsText]
              rw [e1, e2]
              exact h
      · have hk' : k = xs.length := by omega
        subst hk'
        have hpc : p.classes.take xs.length = p.classes := by
          have : xs.length = p.classes.length := by rw [← HX.out, List.length_map]
          rw [this, List.take_length]
        rw [hpc] at PS
        clear hpc hk hlt
        have hctl : (p.classes.flatMap clsText).length ≤ 1000000000 := by
          simp only [rawText, List.length_append] at hraw
          omega
        generalize hcb : (false && p.classes.all clsOk) = cb at *
        generalize hct : p.classes.flatMap clsText = ct at *
        have HCBE := Lib.hid hcb
        have HCTE := Lib.hid hct
        clear hcb hct
        have v1 : wr.cell? ⟨w.heap.size, 1, none⟩ = some (.slice fA ys.length fc) := cellB PS.out.p 1 rfl
        go_wp2_with fail
        clear v1
        go_loopw [11, 13, 14, 73, 101] (fun _ _ _ i _ wr => ∃ k : Nat, k ≤ ys.length ∧ i = .int .i64 k ∧ PSt w (.slice cA xs.length cc) (.slice fA ys.length fc) (cb && (p.funcs.take k).all fnOk) (ct ++ (p.funcs.take k).flatMap fnText) wr) (fun _ _ _ i _ _ => ys.length - (intOf i).toNat)
        case atStart =>
          refine ⟨0, Nat.zero_le _, rfl, ?_⟩
          rw [List.take_zero, List.all_nil, Bool.and_true, List.flatMap_nil, List.append_nil]
          exact PS.out
        case round =>
          clear PS
          obtain ⟨k, hk, rfl, hS⟩ := hrel
          have PS := Lib.hid hS
          clear hS
          by_cases hlt : k < ys.length
          · obtain ⟨g, off, hA, hcell⟩ := rd3 fCells1 (fun _ => rfl) (H45.out.below PS.out.u) hlt
            have hmem : ys[k] ∈ ys := List.getElem_mem hlt
            have hpm : (ys[k]).1 ∈ p.funcs := by rw [← HY.out]; exact List.mem_map.2 ⟨_, hmem, rfl⟩
            have hnext := Lib.hid (take_next p.funcs k (ys[k]).1 (by rw [← HY.out, List.getElem?_map, List.getElem?_eq_getElem hlt]; rfl) fnOk fnText)
            have hflen : (fnText (ys[k]).1).length ≤ 1000000000 := by
              have h := flatMap_mem_le fnText p.funcs (ys[k]).1 hpm
              simp only [rawText, List.length_append] at hraw
              omega
            have hacc : (ct ++ (p.funcs.take k).flatMap fnText).length ≤ 2000000000 := by
              have h := flatMap_take_le fnText p.funcs k
              simp only [rawText, List.length_append] at hraw ⊢
              omega
            have HSM := Lib.hid (hs _ hpm)
            have HFX := Lib.hid (HF.out _ hmem)
            clear hmem hpm
            generalize ys[k] = x at *
            obtain ⟨c, ⟨pA, pc⟩, ⟨mA, mc⟩⟩ := x
            dsimp only at hflen hnext HSM
            generalize hacce : ct ++ (p.funcs.take k).flatMap fnText = acc at *
            generalize hokk : (cb && (p.funcs.take k).all fnOk) = okk at *
            have HOKK := Lib.hid hokk
            have HACCE := Lib.hid hacce
            have e0 : wr.cell? ⟨g, off + k * 3, none⟩ = some (.string ⟨c.nm.toArray⟩) := hcell 0 _ rfl
            have e1 : wr.cell? ⟨g, off + k * 3 + 1, none⟩ = some (.slice pA c.params.length pc) := hcell 1 _ rfl
            have e2 : wr.cell? ⟨g, off + k * 3 + 2, none⟩ = some (.slice mA c.lines.length mc) := hcell 2 _ rfl
            have hok : wr.cell? ⟨w.heap.size + 1 + 1, 0, none⟩ = some (.bool okk) := cellB PS.out.o 0 rfl
            have hof := frozenB PS.out.o 0
            have hsz := sizeB PS.out.o
            have hlens := fnText_len c
            subst hA
            clear hcell hokk hacce
            go_upto_region 18 with fail
            go_cut [] (fun W => W.heap[wr.heap.size]? = some (.cells #[.string ⟨c.nm.toArray⟩, .slice pA c.params.length pc, .slice mA c.lines.length mc] 45 (0, 0)) ∧ PSt w (.slice cA xs.length cc) (.slice (some ⟨g, off, none⟩) ys.length fc) (okk && decide (c.params.length ≤ 8) && decide (c.lines.length ≤ 60)) acc W)
            case first =>
              have fin : ∀ v : Bool, v = (okk && decide (c.params.length ≤ 8) && decide (c.lines.length ≤ 60)) → ((wr.setCell ⟨w.heap.size + 1 + 1, 0, none⟩ (.bool v)).alloc (.cells #[.string ⟨c.nm.toArray⟩, .slice pA c.params.length pc, .slice mA c.lines.length mc] 45)).heap[wr.heap.size]? = some (.cells #[.string ⟨c.nm.toArray⟩, .slice pA c.params.length pc, .slice mA c.lines.length mc] 45 (0, 0)) ∧
                  PSt w (.slice cA xs.length cc) (.slice (some ⟨g, off, none⟩) ys.length fc) (okk && decide (c.params.length ≤ 8) && decide (c.lines.length ≤ 60)) acc ((wr.setCell ⟨w.heap.size + 1 + 1, 0, none⟩ (.bool v)).alloc (.cells #[.string ⟨c.nm.toArray⟩, .slice pA c.params.length pc, .slice mA c.lines.length mc] 45)) := by
                intro v hv
                rw [← hv]
                have q := sizeB PS.out.p
                have hz : (wr.setCell ⟨w.heap.size + 1 + 1, 0, none⟩ (.bool v)).heap.size = wr.heap.size := by simp
                refine ⟨heap_new' _ _ _ hz.symm, (heap_alloc_old _ _ (by rw [hz]; exact q)).trans ((Below.heap_setCell _ _ _ _ (by simp; omega)).trans PS.out.p), (heap_alloc_old _ _ (by rw [hz]; exact hsz)).trans (blk_set PS.out.o 0 _), (PS.out.b.set PS.out.o (by decide) (by decide)).below ((Below.refl _ _).alloc (Nat.le_refl _) _), (PS.out.u.setCell (by simp; omega) _).alloc (by rw [hz]; omega) _⟩
              have FIN := Lib.hid fin
              clear fin
              cases okk with
              | false =>
                go_wp2_with fail
                go_meet
                exact FIN.out false rfl
              | true =>
                by_cases hf8 : c.params.length ≤ 8
                · have hf8' : (c.params.length : Int) ≤ 8 := by omega
                  go_wp2_with fail
                  go_meet
                  exact FIN.out (decide ((c.lines.length : Int) ≤ 60)) (by rw [decide_eq_true hf8, Bool.and_true, Bool.true_and]; exact decide_eq_decide.2 (by omega))
                · have hf8' : (8 : Int) < c.params.length := by omega
                  go_wp2_with fail
                  all_goals (go_meet; exact FIN.out false (by simp [hf8]))
            case rest =>
              obtain ⟨hc, hS⟩ := hcut
              have hc0 : wc.cell? ⟨wr.heap.size, 0, none⟩ = some (.string ⟨c.nm.toArray⟩) := cellB hc 0 rfl
              have hc1 : wc.cell? ⟨wr.heap.size, 1, none⟩ = some (.slice pA c.params.length pc) := cellB hc 1 rfl
              have hwlt := sizeB hc
              have hwne : ¬ wr.heap.size = wc.heap.size := by omega
              have PS2 := Lib.hid hS
              have HCB := Lib.hid hc
              have hfields : RdB (wc.alloc (.cells #[.string ⟨c.nm.toArray⟩] 9)) 9 pA (strs c.params) := (HFX.out.1.below PS2.out.u).below ((Below.refl _ _).alloc (Nat.le_refl _) _)
              have HFL := Lib.hid hfields
              have hown := World.ownsRow_lit (base := wc.heap.size) (e := 9) (size := 1) wc #[.string ⟨c.nm.toArray⟩] 1 (Nat.le_refl _) (by unfold maxLen; omega) rfl
              have HOW := Lib.hid hown
              have hBwc := PS2.out.u.size
              clear hS hc hfields hown
              generalize hokc : (okk && decide (c.params.length ≤ 8) && decide (c.lines.length ≤ 60)) = okc0 at *
              have HOC0 := Lib.hid hokc
              clear hokc
              go_wp2_with (at_builtin; refine wpList_append_rd _ rfl (.tmp 93) (.tmp 95) _ rfl wc.heap.size 9 9 i9 _ 1 16 Tryz.underlying34 hi9 hz9 hs9 hb9 rfl (by omega) _ 1 _ rfl HOW.out pA c.params.length pc (strs c.params) rfl HFL.out (by simp [strs]) ?c1 (by unfold maxLen; omega) (by omega) (by simp) ?_)
              case c1 => exact strs_one _
              intro v' W2 hown2 hgrow _
              rw [Nat.add_comm 1] at hown2
              obtain ⟨g9, cp9, rfl, hg9, hcp9, hlt9⟩ := own_slice hown2 (by omega)
              have hA2 : RdB W2 9 (some ⟨g9, 0, none⟩) (strs (c.nm :: c.params)) := RdB.of_own hown2
              have hbW2 : Below wc.heap.size wc W2 := ((Below.refl _ wc).alloc (Nat.le_refl _) _).grown hgrow (by simp) (by intro k hk; simp [Value.ownBlock] at hk; omega)
              have PSW := Lib.hid (PS2.out.below hbW2)
              have HCW := Lib.hid ((hbW2.block _ hwlt).trans HCB.out)
              have HA2 := Lib.hid hA2
              have hBw2 := PSW.out.u.size
              clear hown2 hgrow hbW2 hA2 hc0 hc1 hwlt hwne
              go_wp2_with fail
              refine (pline_calls w.heap.size (w.heap.size + 1 + 1) (w.heap.size + 1) okc0 acc wFunc c.nm c.params _ cp9 _ PSW.out.o (by omega) PSW.out.b HA2.out (by omega) (by simp [wFunc]) (by omega) (by omega) hBw2).mono ?_
              rintro e W3 ⟨rfl, hL⟩
              have PS3 := Lib.hid (PSW.out.line hL)
              have HC3 := Lib.hid ((hL.2.2.2 _ _ _ HCW.out (by decide)).trans HCW.out)
              generalize hokc : (okc0 && (c.nm :: c.params).all nameS) = okc at *
              have HOC := Lib.hid hokc
              have hal : (acc ++ lnText wFunc (c.nm :: c.params)).length ≤ 3000000000 := by simp only [List.length_append]; omega
              generalize haccc : acc ++ lnText wFunc (c.nm :: c.params) = accc at *
              have HAC := Lib.hid haccc
              clear hL haccc hokc
              have hm2 : W3.cell? ⟨wr.heap.size, 2, none⟩ = some (.slice mA c.lines.length mc) := cellB HC3.out 2 rfl
              have hmlen : c.lines.length ≤ 1000000000 := by
                have h := flatMap_len_ge lText (fun m => by simp [lText]) c.lines
                omega
              go_wp2_with fail
              clear hm2
              go_loopw [13, 14, 101] (fun _ _ i wv => ∃ j : Nat, j ≤ c.lines.length ∧ i = .int .i64 j ∧ PSt w (.slice cA xs.length cc) (.slice (some ⟨g, off, none⟩) ys.length fc) (okc && (c.lines.take j).all lOk) (accc ++ (c.lines.take j).flatMap lText) wv) (fun _ _ i _ => c.lines.length - (intOf i).toNat)
              case atStart =>
                refine ⟨0, Nat.zero_le _, rfl, ?_⟩
                rw [List.take_zero, List.all_nil, Bool.and_true, List.flatMap_nil, List.append_nil]
                exact PS3.out
              case round =>
                obtain ⟨j, hj, rfl, hS⟩ := hrel
                have QS := Lib.hid hS
                clear hS
                by_cases hjl : j < c.lines.length
                · obtain ⟨g2, off2, a2, cp2, hA2, hrd2, hcell⟩ := rd9 ⟨HFX.out.1, HFX.out.2⟩ QS.out.u hjl
                  have hnx := Lib.hid (take_next c.lines j (c.lines[j]) (List.getElem?_eq_getElem hjl) lOk lText)
                  have hml : (lText c.lines[j]).length ≤ 1000000000 := by
                    have h := flatMap_mem_le lText c.lines c.lines[j] (List.getElem_mem hjl)
                    omega
                  have hacc2 : (accc ++ (c.lines.take j).flatMap lText).length ≤ 5000000000 := by
                    have h := flatMap_take_le lText c.lines j
                    simp only [List.length_append]
                    omega
                  have HSL := Lib.hid (HSM.out _ (List.getElem_mem hjl))
                  generalize c.lines[j] = l at *
                  generalize hq1 : accc ++ (c.lines.take j).flatMap lText = acc2 at *
                  generalize hq2 : (okc && (c.lines.take j).all lOk) = ok2 at *
                  have HQ1 := Lib.hid hq1
                  have HQ2 := Lib.hid hq2
                  clear hq1 hq2
                  obtain ⟨m0, m1, m2, m3, m4, m5, m6, m7, m8⟩ := hcell
                  have HR2 := Lib.hid hrd2
                  subst hA2
                  clear hrd2
                  have hbo := sizeB QS.out.o
                  go_wp2_with fail
                  refine (Line_calls l a2 cp2 _ (LW.alloc (HL.out.belowB hB QS.out.u) _) (HR2.out.below ((Below.refl _ _).alloc (Nat.le_refl _) _)) HSL.out.1 HSL.out.2).mono ?_
                  rintro e V ⟨rfl, hV⟩
                  have QV := Lib.hid ((QS.out.below ((Below.refl _ _).alloc (Nat.le_refl _) _)).below hV)
                  clear hV m0 m1 m2 m3 m4 m5 m6 m7 m8 hbo
                  have hlO : lOk l = decide (lineT l ≠ []) := rfl
                  have hlT : lText l = lineT l ++ [10] := rfl
                  have HLO := Lib.hid hlO
                  have HLT := Lib.hid hlT
                  have h1 : (lineT l).length ≤ 1000000000 := by rw [hlT] at hml; simp at hml; omega
                  clear hlO hlT hml
                  generalize lineT l = t at *
                  have hk0 : V.cell? ⟨w.heap.size + 1 + 1, 0, none⟩ = some (.bool ok2) := cellB QV.out.o 0 rfl
                  have hk1 := frozenB QV.out.o 0
                  go_upto_region 24 with fail
                  go_cut [] (fun W => PSt w (.slice cA xs.length cc) (.slice (some ⟨g, off, none⟩) ys.length fc) (ok2 && decide (t ≠ [])) acc2 W)
                  case first =>
                    have fin : ∀ v : Bool, v = (ok2 && decide (t ≠ [])) → PSt w (.slice cA xs.length cc) (.slice (some ⟨g, off, none⟩) ys.length fc) (ok2 && decide (t ≠ [])) acc2 (V.setCell ⟨w.heap.size + 1 + 1, 0, none⟩ (.bool v)) := fun v hv => by
                      rw [← hv]
                      exact QV.out.flag v
                    have FIN := Lib.hid fin
                    clear fin
                    cases ok2 with
                    | false =>
                      go_wp2_with fail
                      go_meet
                      exact FIN.out false rfl
                    | true =>
                      by_cases ht : t = []
                      · subst ht
                        go_wp2_with fail
                        go_meet
                        exact FIN.out false rfl
                      · have ht1 : (t == []) = false := by simpa using ht
                        have ht2 : t.isEmpty = false := by simpa using ht
                        have HT := Lib.hid ht
                        clear ht
                        go_wp2_with fail
                        go_meet
                        exact FIN.out true (by simp [HT.out])
                  case rest =>
                    have QC := Lib.hid hcut
                    clear hcut hk0 hk1
                    have hcat : ((⟨t.toArray⟩ : ByteArray) ++ ⟨#[10]⟩) = ⟨(t ++ [10]).toArray⟩ := by
                      apply ByteArray.ext; apply Array.toList_inj.1; simp
                    go_wp2_with fail
                    refine (wr_str w.heap.size (w.heap.size + 1) acc2 (t ++ [10]) _ QC.out.b (by simp only [List.length_append, List.length_singleton]; omega) QC.out.u.size).mono ?_
                    rintro e V2 ⟨rfl, h4, h5, h6⟩
                    have QW := Lib.hid (QC.out.wrote h4 h5 h6)
                    clear h4 h5 h6 hcat
                    go_wp2_with fail
                    refine ⟨⟨j + 1, hjl, rfl, ?_⟩, by simp [intOf]; omega⟩
                    have h := QW.out
                    rw [hnx.out.1, hnx.out.2, ← Bool.and_assoc, HQ2.out, ← List.append_assoc, HQ1.out, HLO.out, HLT.out]
                    exact h
                · have hj' : j = c.lines.length := by omega
                  subst hj'
                  rw [List.take_length] at QS
                  have hal2 : (accc ++ c.lines.flatMap lText).length ≤ 5000000000 := by simp only [List.length_append]; omega
                  go_wp2_with fail
                  refine (wr_str w.heap.size (w.heap.size + 1) _ [101, 110, 100, 102, 117, 110, 99, 10] _ QS.out.b (by simp only [List.length_cons, List.length_nil]; omega) QS.out.u.size).mono ?_
                  rintro e V2 ⟨rfl, h4, h5, h6⟩
                  have QW := Lib.hid (QS.out.wrote h4 h5 h6)
                  clear h4 h5 h6 hal2
                  go_wp2_with fail
                  refine ⟨⟨k + 1, hlt, rfl, ?_⟩, by simp [intOf]; omega⟩
                  have h := QW.out
                  rw [hnext.out.1, hnext.out.2, ← Bool.and_assoc, HOKK.out, ← List.append_assoc, HACCE.out]
                  have e1 : (okk && fnOk c) = (okc && c.lines.all lOk) := by
                    rw [← HOC.out, ← HOC0.out]; simp only [fnOk, Bool.and_assoc]
                  have e2 : acc ++ fnText c = accc ++ c.lines.flatMap lText ++ (wEnd ++ [10]) := by
                    rw [← HAC.out]; simp [fnText]
                  rw [e1, e2]
                  exact h
          · have hk' : k = ys.length := by omega
            subst hk'
            have hpf : p.funcs.take ys.length = p.funcs := by
              have : ys.length = p.funcs.length := by rw [← HY.out, List.length_map]
              rw [this, List.take_length]
            rw [hpf, ← HCTE.out, ← HCBE.out] at PS
            have hfin : prgOk p = (false && p.classes.all clsOk && p.funcs.all fnOk) := by
              have l1 : p.classes.length = xs.length := by rw [← HX.out, List.length_map]
              have l2 : p.funcs.length = ys.length := by rw [← HY.out, List.length_map]
              unfold prgOk
              rw [l1, l2, decide_eq_false h12, Bool.false_and]
            have hraw2 : p.classes.flatMap clsText ++ p.funcs.flatMap fnText = rawText p := rfl
            rw [hraw2, ← hfin] at PS
            clear hpf hfin hraw2 HCTE HCBE
            have HPR : Hid (printS p = if prgOk p = true ∧ (rawText p).length ≤ 8000 then rawText p else []) := Lib.hid rfl
            generalize prgOk p = okF at *
            generalize rawText p = raw at *
            have hk0 : wr.cell? ⟨w.heap.size + 1 + 1, 0, none⟩ = some (.bool okF) := cellB PS.out.o 0 rfl
            cases okF with
            | false =>
              go_wp2_with fail
              go_ret
              rw [HPR.out]
              exact ⟨rfl, PS.out.u⟩
            | true =>
              go_wp2_with fail
              refine (blen_calls PS.out.b).mono ?_
              rintro e w' ⟨rfl, rfl⟩
              by_cases h8 : raw.length ≤ 8000
              · have h8' : (raw.length : Int) ≤ 8000 := by omega
                go_wp2_with fail
                refine (bld_str w.heap.size (w.heap.size + 1) raw wr PS.out.b PS.out.u.size).mono ?_
                rintro e V ⟨rfl, hV⟩
                have HV := Lib.hid (PS.out.u.trans hV)
                clear hV
                go_wp2_with fail
                go_ret
                rw [HPR.out, if_pos ⟨by trivial, h8⟩]
                exact ⟨rfl, HV.out⟩
              · have h8' : (8000 : Int) < raw.length := by omega
                go_wp2_with fail
                go_ret
                rw [HPR.out, if_neg (fun h => h8 h.2)]
                exact ⟨rfl, PS.out.u⟩
end Go.Proofs.YtdkcdodkhghfhaaGreatDoor
