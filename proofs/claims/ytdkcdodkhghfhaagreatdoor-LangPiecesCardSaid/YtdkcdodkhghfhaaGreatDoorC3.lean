/- The walks of the reader's lines: a line of a function. -/
import Derived.Test.YtdkcdodkhghfhaaGreatDoorC2
namespace Go.Proofs.YtdkcdodkhghfhaaGreatDoor
open Go.RowKit Go.Proofs.YtdkcdodkhghfhaaGreatDoorW.PrintLast Go.Proofs.YtdkcdodkhghfhaaGreatDoorW.PrintWords

theorem readLine_callsU (s : Str) (w : World) (L : LW w) (hs : s.length < 40000000) :
    Calls Tryz.prog 52 #[.string ⟨s.toArray⟩] w fun e w' => Below w.heap.size w w' ∧
      ∃ (l : Ln) (A : Option Addr) (cp : Nat), l = (rlS s).getD (Ln.zero 0) ∧ e = .returned (.tuple #[.agg #[.int .i64 l.op, .string ⟨(l.a).toArray⟩, .string ⟨(l.b).toArray⟩, .string ⟨(l.c).toArray⟩, .string ⟨(l.nm).toArray⟩, .slice A l.args.length cp, .int .i64 l.cv.k, .int .i64 l.cv.n, .string ⟨(l.cv.s).toArray⟩], .bool (rlS s).isSome]) ∧
        w'.ownsRow w.heap.size 9 1 (.slice A l.args.length cp) l.args.length (strs l.args) :=
  (readLine_calls' s w L hs).mono fun e w' ⟨h1, r, l, A, cp, h2, h3, h4, h5⟩ => by
    have h2 := h2.eq
    subst h2
    exact ⟨h1, l, A, cp, h3, h4, h5⟩
set_option maxHeartbeats 8000000 in
set_option maxRecDepth 100000 in
theorem body_calls (base r : Nat) (st : St) (s : Str) (w : World) (I : Inv base r w st) (L : LW w) (hs : s.length < 40000000) (_hB : 8 ≤ base) (hin : st.inside = true) :
    Calls Tryz.prog 88 #[.pointer (some ⟨r, 0, none⟩), .string ⟨s.toArray⟩] w (Came base r w (bodyS st s)) := by
  obtain ⟨xs, ys, sc, sf, I⟩ := I
  obtain ⟨⟨cs, fs⟩, ins, cl⟩ := st
  have hin : ins = true := hin
  subst hin
  have HL := Lib.hid L
  have hbw : base ≤ w.heap.size := by have := sizeB I.rd; have := I.hr; omega
  have IH := Lib.hid I
  have nr : ¬ r = w.heap.size := by have := sizeB I.rd; omega
  have hbr : base ≤ r := I.hr
  have rd := I.rd
  clear L I
  obtain ⟨pre, cx, zs, hxs, hzs, hlast, hzo, hd⟩ := IH.out.lf rfl
  subst hxs
  have hn0 : (pre ++ [cx]).length = pre.length + 1 := by simp
  have IH2 := IH.out
  have hgl : fs.getLast? = some cx.1 := by rw [show fs = _ from IH2.hy.symm]; simp
  have hdl : fs.dropLast = pre.map (·.1) := by rw [show fs = _ from IH2.hy.symm]; simp
  have rd : w.heap[r]? = some (.cells #[sc.v xs.length, sf.v (pre.length + 1), .bool true, .bool cl] 97 (0, 0)) := by rw [rd, hn0]
  clear IH2
  have HZS := Lib.hid hzs
  have HZO := Lib.hid hzo
  have HD := Lib.hid hd
  have HLA := Lib.hid hlast
  clear hzs hzo hd hlast
  have c0 : w.cell? ⟨r, 0, none⟩ = some (.slice sc.A xs.length sc.cap) := cellB rd 0 rfl
  have c1 : w.cell? ⟨r, 1, none⟩ = some (.slice sf.A (pre.length + 1) sf.cap) := cellB rd 1 rfl
  have c2 : w.cell? ⟨r, 2, none⟩ = some (.bool true) := cellB rd 2 rfl
  have c3 : w.cell? ⟨r, 3, none⟩ = some (.bool cl) := cellB rd 3 rfl
  have f0 := frozenB rd 0
  have f1 := frozenB rd 1
  have f2 := frozenB rd 2
  have f3 := frozenB rd 3
  clear rd
  by_cases he : s = [101, 110, 100, 102, 117, 110, 99]
  · have HS : Hid (bodyS ⟨⟨cs, fs⟩, true, cl⟩ s = .ok ⟨⟨cs, fs⟩, false, cl⟩) := by simp [bodyS, he, Hid]
    have hsb : ((⟨s.toArray⟩ : ByteArray) == ⟨#[101, 110, 100, 102, 117, 110, 99]⟩) = true := by rw [he]; rfl
    subst he
    go_enter Tryz.func88, Tryz.ntmps88
    go_wp2_with fail
    go_end0
    refine ⟨(Below.refl _ _).setCell hbr _, (TKeep.set (T := [97]) IH.out.rd (by simp)).wide (by simp [T5]), ?_⟩
    rw [HS.out]
    exact ⟨rfl, _, _, _, _, IH.out.end_func⟩
  · have hse : (s == [101, 110, 100, 102, 117, 110, 99]) = false := by simpa using he
    go_enter Tryz.func88, Tryz.ntmps88
    go_wp2_with fail
    refine (readLine_callsU s _ HL.out hs).mono ?_
    rintro e W ⟨hW, l, A, cp, hl, rfl, hown⟩
    have kW : TKeep [] w W := TKeep.below hW
    have IW : InvX base r W ⟨⟨cs, fs⟩, true, cl⟩ xs (pre ++ [cx]) sc sf := IH.out.keep kW
    have LA := kW.own (by simp) HLA.out
    have ZO : ∀ z ∈ zs, LnOkF base W z := fun z hz => (HZO.out z hz).keep (fun _ _ => kW.rd (by simp))
    have LO : LnOkF base W (l, ⟨A, cp⟩) := ⟨RdB.of_own hown, FarA.of_own' (Go.Proofs.YtdkcdodkhghfhaaGreatDoor.own_lower hown hbw)⟩
    have rdW : W.heap[r]? = some (.cells #[sc.v xs.length, sf.v (pre.length + 1), .bool true, .bool cl] 97 (0, 0)) := by rw [IW.rd, hn0]
    have BW : Below base w W := hW.mono hbw
    have zW : base ≤ W.heap.size := Nat.le_trans hbw BW.size
    have KW : Hid (TKeep T5 w W) := Lib.hid kW.mono
    obtain ⟨gc, cur, hA, hcur, hgb, hmx, hcell⟩ := own_block (by rw [← hn0]; exact IW.of) (by omega : 0 < pre.length + 1)
    have cq : W.cell? ⟨gc, pre.length * 3 + 2, none⟩ = some (.slice cx.2.2.A cx.1.lines.length cx.2.2.cap) := cellB hcur _ (hcell _ _ (fCells_at pre cx 2 _ rfl))
    have fq := frozenB hcur (pre.length * 3 + 2)
    have hwr : IntKind.i64.wrap (pre.length : Int) = (pre.length : Int) := IntWalk.i64_in _ (by unfold maxLen at hmx; omega)
    have hp0 : (0 : Int) ≤ (pre.length : Int) := by omega
    have hp1 : (pre.length : Int) < (pre.length : Int) + 1 := by omega
    have HA := Lib.hid hA
    have HC := Lib.hid hcur
    have HCC := Lib.hid hcell
    have IW := Lib.hid IW
    have LA := Lib.hid LA
    have ZO := Lib.hid ZO
    have LO := Lib.hid LO
    have BW := Lib.hid BW
    have HLN := Lib.hid hl
    clear hW kW hcur hcell hown hl c0 c1 c2 c3 f0 f1 f2 f3
    have c0 : W.cell? ⟨r, 0, none⟩ = some (.slice sc.A xs.length sc.cap) := cellB rdW 0 rfl
    have c1 : W.cell? ⟨r, 1, none⟩ = some (.slice (some ⟨gc, 0, none⟩) (pre.length + 1) sf.cap) := cellB rdW 1 (by simp [Sl.v, hA])
    have c2 : W.cell? ⟨r, 2, none⟩ = some (.bool true) := cellB rdW 2 rfl
    have c3 : W.cell? ⟨r, 3, none⟩ = some (.bool cl) := cellB rdW 3 rfl
    have f0 := frozenB rdW 0
    have f1 := frozenB rdW 1
    have eR : ¬ r = W.heap.size := by have := sizeB rdW; omega
    have eG : ¬ gc = W.heap.size := by have := sizeB HC.out; omega
    have RDW := Lib.hid rdW
    clear rdW
    cases hrl : rlS s with
    | none =>
      have HS : Hid (bodyS ⟨⟨cs, fs⟩, true, cl⟩ s = .error 12) := Lib.hid (by unfold bodyS; rw [if_neg he, hrl])
      clear he
      go_wp2_with (go_at_call 87; refine (need_no _ _).mono ?_; rintro e w' ⟨rfl, rfl⟩)
      refine ⟨rfl, BW.out.alloc zW _, KW.out.trans (TKeep.alloc _ _ _), ?_⟩
      rw [HS.out]
    | some l0 =>
      have hl0 : l = l0 := by rw [HLN.out, hrl]; rfl
      subst hl0
      clear HLN
      go_wp2_with fail
      refine (need_ok _ _).mono ?_
      rintro e w' ⟨rfl, rfl⟩
      have bq : Below W.heap.size W (W.alloc (.cells #[.int .i64 l.op, .string ⟨l.a.toArray⟩, .string ⟨l.b.toArray⟩, .string ⟨l.c.toArray⟩, .string ⟨l.nm.toArray⟩, .slice A l.args.length cp, .int .i64 l.cv.k, .int .i64 l.cv.n, .string ⟨l.cv.s.toArray⟩] 40)) := (Below.refl _ _).alloc (Nat.le_refl _) _
      have hq : (W.alloc (.cells #[.int .i64 l.op, .string ⟨l.a.toArray⟩, .string ⟨l.b.toArray⟩, .string ⟨l.c.toArray⟩, .string ⟨l.nm.toArray⟩, .slice A l.args.length cp, .int .i64 l.cv.k, .int .i64 l.cv.n, .string ⟨l.cv.s.toArray⟩] 40)).heap[W.heap.size]? = some (.cells (l.cells (.slice A l.args.length cp)) 40 (0, 0)) := heap_new _ _
      generalize hx : W.alloc (.cells #[.int .i64 l.op, .string ⟨l.a.toArray⟩, .string ⟨l.b.toArray⟩, .string ⟨l.c.toArray⟩, .string ⟨l.nm.toArray⟩, .slice A l.args.length cp, .int .i64 l.cv.k, .int .i64 l.cv.n, .string ⟨l.cv.s.toArray⟩] 40) = V at bq hq ⊢
      have kV : TKeep [] W V := TKeep.below bq
      have LAW := Lib.hid LA.out
      have IW : Hid (InvX base r V ⟨⟨cs, fs⟩, true, cl⟩ xs (pre ++ [cx]) sc sf) := Lib.hid (IW.out.keep kV)
      have LA := Lib.hid (kV.own (by simp) LA.out)
      have ZO : Hid (∀ z ∈ zs, LnOkF base V z) := Lib.hid (fun z hz => (ZO.out z hz).keep (fun _ _ => kV.rd (by simp)))
      have LO : Hid (LnOkF base V (l, ⟨A, cp⟩)) := Lib.hid (LO.out.keep (fun _ _ => kV.rd (by simp)))
      have hcur : V.heap[gc]? = some (.cells cur 45 (0, 0)) := (kV gc _ 45 HC.out (by simp)).trans HC.out
      have BW : Hid (Below base w V) := Lib.hid (BW.out.trans (bq.mono zW))
      have zW : base ≤ V.heap.size := Nat.le_trans zW bq.size
      have KW : Hid (TKeep T5 w V) := Lib.hid (KW.out.trans kV.mono)
      have RDW : Hid (V.heap[r]? = some (.cells #[sc.v xs.length, sf.v (pre.length + 1), .bool true, .bool cl] 97 (0, 0))) := Lib.hid ((kV r _ 97 RDW.out (by simp)).trans RDW.out)
      have HC := Lib.hid hcur
      have LB := Lib.hid hq
      have NK : Hid (some W.heap.size ≠ (cx.2.2.v cx.1.lines.length).ownBlock) := Lib.hid (fun e => by
        rcases LAW.out.2 with ⟨h1, _⟩ | ⟨g, _, _, h1, _, h3, _⟩
        · rw [h1] at e; cases e
        · rw [h1] at e
          have := sizeB h3
          have e : W.heap.size = g := by simpa [Value.ownBlock] using e
          omega)
      generalize hk : W.heap.size = k at hq LB NK ⊢
      clear cq fq c0 c1 c2 c3 f0 f1 bq kV hcur hq LAW hk hx eR eG
      have cq : V.cell? ⟨gc, pre.length * 3 + 2, none⟩ = some (.slice cx.2.2.A cx.1.lines.length cx.2.2.cap) := cellB HC.out _ (HCC.out _ _ (fCells_at pre cx 2 _ rfl))
      have c1 : V.cell? ⟨r, 1, none⟩ = some (.slice (some ⟨gc, 0, none⟩) (pre.length + 1) sf.cap) := cellB RDW.out 1 (by simp [Sl.v, hA])
      go_wp2_with fail
      refine start_ (n := 14) (S := fun w' => w'.cell? ⟨r, 1, none⟩ = some (.slice (some ⟨gc, 0, none⟩) (pre.length + 1) sf.cap)) (ds := []) #[false, false, false, false, false, false, false, false, false, false, false, false, false, false] (by kernel_rfl) rfl rfl (by first | assumption | exact ⟨by assumption, by assumption⟩ | exact ⟨by assumption, by assumption, by assumption⟩) (fun hHeld => ?_)
      have hq : V.drew.heap = V.heap := rfl
      have bq : Below base V V.drew := (Below.refl _ _).drew
      generalize V.drew = U at hHeld hq bq ⊢
      have kV : TKeep [] V U := fun g cs t hg _ => by rw [hq]
      have IW : Hid (InvX base r U ⟨⟨cs, fs⟩, true, cl⟩ xs (pre ++ [cx]) sc sf) := Lib.hid (IW.out.keep kV)
      have LA := Lib.hid (kV.own (by simp) LA.out)
      have ZO : Hid (∀ z ∈ zs, LnOkF base U z) := Lib.hid (fun z hz => (ZO.out z hz).keep (fun _ _ => kV.rd (by simp)))
      have LO : Hid (LnOkF base U (l, ⟨A, cp⟩)) := Lib.hid (LO.out.keep (fun _ _ => kV.rd (by simp)))
      have HC : Hid (U.heap[gc]? = some (.cells cur 45 (0, 0))) := Lib.hid (by rw [hq]; exact HC.out)
      have LB : Hid (U.heap[k]? = some (.cells (l.cells (.slice A l.args.length cp)) 40 (0, 0))) := Lib.hid (by rw [hq]; exact LB.out)
      have BW : Hid (Below base w U) := Lib.hid (BW.out.trans bq)
      have KW : Hid (TKeep T5 w U) := Lib.hid (KW.out.trans kV.mono)
      have zW : base ≤ U.heap.size := by rw [hq]; exact zW
      have cq : U.cell? ⟨gc, pre.length * 3 + 2, none⟩ = some (.slice cx.2.2.A cx.1.lines.length cx.2.2.cap) := cellB HC.out _ (HCC.out _ _ (fCells_at pre cx 2 _ rfl))
      have fq := frozenB HC.out (pre.length * 3 + 2)
      have l5 : U.cell? ⟨k, 5, none⟩ = some (.slice A l.args.length cp) := cellB LB.out 5 rfl
      clear hq bq kV
      refine pure_ (i := 0) (N := some 19) (v := ?_) (a' := ?_) #[true, false, false, false, false, false, false, false, false, false, false, false, false, false] rfl rfl (by kernel_rfl) (fun _ _ _ h => h) (Or.inl ⟨by rfl, ?_⟩) ?_ ?_
      rotate_left
      · intro w'
        go_simp
        with_reducible rfl
      rotate_left
      · simp only [Act.put, List.setIfInBounds_toArray, List.set_cons_zero, List.set_cons_succ]
        rfl
      refine pure_ (i := 1) (N := some 20) (v := ?_) (a' := ?_) #[true, true, false, false, false, false, false, false, false, false, false, false, false, false] rfl rfl (by kernel_rfl) (fun _ _ _ h => h) (Or.inl ⟨by rfl, ?_⟩) ?_ ?_
      rotate_left
      · intro w'
        go_simp
        with_reducible rfl
      rotate_left
      · simp only [Act.put, List.setIfInBounds_toArray, List.set_cons_zero, List.set_cons_succ]
        rfl
      refine pure_ (i := 2) (N := some 21) (v := ?_) (a' := ?_) #[true, true, true, false, false, false, false, false, false, false, false, false, false, false] rfl rfl (by kernel_rfl) (fun _ _ _ h => h) (Or.inl ⟨by rfl, ?_⟩) ?_ ?_
      rotate_left
      · intro w'
        go_simp
        with_reducible rfl
      rotate_left
      · simp only [Act.put, List.setIfInBounds_toArray, List.set_cons_zero, List.set_cons_succ]
        rfl
      refine pure_ (i := 3) (N := some 22) (v := ?_) (a' := ?_) #[true, true, true, true, false, false, false, false, false, false, false, false, false, false] rfl rfl (by kernel_rfl) (fun _ _ _ h => h) (Or.inl ⟨by rfl, ?_⟩) ?_ ?_
      rotate_left
      · intro w'
        go_simp
        with_reducible rfl
      rotate_left
      · simp only [Act.put, List.setIfInBounds_toArray, List.set_cons_zero, List.set_cons_succ]
        rfl
      refine take_ (i := 4) (N := some 23) (v := ?_) (a' := ?_) #[true, true, true, true, true, false, false, false, false, false, false, false, false, false] rfl rfl (by kernel_rfl) (fun _ _ _ h => h) (Or.inl ⟨by rfl, ?_⟩) hHeld ?_ ?_
      rotate_left
      · rintro w' h0
        go_simp
        with_reducible rfl
      rotate_left
      · simp only [Act.put, List.setIfInBounds_toArray, List.set_cons_zero, List.set_cons_succ]
        rfl
      refine pure_ (i := 5) (N := some 24) (v := ?_) (a' := ?_) #[true, true, true, true, true, true, false, false, false, false, false, false, false, false] rfl rfl (by kernel_rfl) (fun _ _ _ h => h) (Or.inl ⟨by rfl, ?_⟩) ?_ ?_
      rotate_left
      · intro w'
        go_simp
        with_reducible rfl
      rotate_left
      · simp only [Act.put, List.setIfInBounds_toArray, List.set_cons_zero, List.set_cons_succ]
        rfl
      refine pure_ (i := 6) (N := some 25) (v := ?_) (a' := ?_) #[true, true, true, true, true, true, true, false, false, false, false, false, false, false] rfl rfl (by kernel_rfl) (fun _ _ _ h => h) (Or.inl ⟨by rfl, ?_⟩) ?_ ?_
      rotate_left
      · intro w'
        go_simp
        with_reducible rfl
      rotate_left
      · simp only [Act.put, List.setIfInBounds_toArray, List.set_cons_zero, List.set_cons_succ]
        rfl
      refine pure_ (i := 7) (N := some 26) (v := ?_) (a' := ?_) #[true, true, true, true, true, true, true, true, false, false, false, false, false, false] rfl rfl (by kernel_rfl) (fun _ _ _ h => h) (Or.inl ⟨by rfl, ?_⟩) ?_ ?_
      rotate_left
      · intro w'
        go_simp
        with_reducible rfl
      rotate_left
      · simp only [Act.put, List.setIfInBounds_toArray, List.set_cons_zero, List.set_cons_succ]
        rfl
      refine pure_ (i := 8) (N := some 27) (v := ?_) (a' := ?_) #[true, true, true, true, true, true, true, true, true, false, false, false, false, false] rfl rfl (by kernel_rfl) (fun _ _ _ h => h) (Or.inl ⟨by rfl, ?_⟩) ?_ ?_
      rotate_left
      · intro w'
        go_simp
        with_reducible rfl
      rotate_left
      · simp only [Act.put, List.setIfInBounds_toArray, List.set_cons_zero, List.set_cons_succ]
        rfl
      refine take_ (i := 9) (N := some 28) (v := ?_) (a' := ?_) #[true, true, true, true, true, true, true, true, true, true, false, false, false, false] rfl rfl (by kernel_rfl) (fun _ _ _ h => h) (Or.inl ⟨by rfl, ?_⟩) hHeld ?_ ?_
      rotate_left
      · rintro w' h0
        go_simp
        with_reducible rfl
      rotate_left
      · simp only [Act.put, List.setIfInBounds_toArray, List.set_cons_zero, List.set_cons_succ]
        rfl
      refine pure_ (i := 10) (N := some 29) (v := ?_) (a' := ?_) #[true, true, true, true, true, true, true, true, true, true, true, false, false, false] rfl rfl (by kernel_rfl) (fun _ _ _ h => h) (Or.inl ⟨by rfl, ?_⟩) ?_ ?_
      rotate_left
      · intro w'
        go_simp
        with_reducible rfl
      rotate_left
      · simp only [Act.put, List.setIfInBounds_toArray, List.set_cons_zero, List.set_cons_succ]
        rfl
      refine pure_ (i := 11) (N := some 30) (v := ?_) (a' := ?_) #[true, true, true, true, true, true, true, true, true, true, true, true, false, false] rfl rfl (by kernel_rfl) (fun _ _ _ h => h) (Or.inl ⟨by rfl, ?_⟩) ?_ ?_
      rotate_left
      · intro w'
        go_simp
        with_reducible rfl
      rotate_left
      · simp only [Act.put, List.setIfInBounds_toArray, List.set_cons_zero, List.set_cons_succ]
        rfl
      refine pure_ (i := 12) (N := some 31) (v := ?_) (a' := ?_) #[true, true, true, true, true, true, true, true, true, true, true, true, true, false] rfl rfl (by kernel_rfl) (fun _ _ _ h => h) (Or.inl ⟨by rfl, ?_⟩) ?_ ?_
      rotate_left
      · intro w'
        go_simp
        with_reducible rfl
      rotate_left
      · simp only [Act.put, List.setIfInBounds_toArray, List.set_cons_zero, List.set_cons_succ]
        rfl
      refine pure_ (i := 13) (N := some 6) (v := ?_) (a' := ?_) #[true, true, true, true, true, true, true, true, true, true, true, true, true, true] rfl rfl (by kernel_rfl) (fun _ _ _ h => h) (Or.inl ⟨by rfl, ?_⟩) ?_ ?_
      rotate_left
      · intro w'
        go_simp
        with_reducible rfl
      rotate_left
      · simp only [Act.put, List.setIfInBounds_toArray, List.set_cons_zero, List.set_cons_succ]
        rfl
      refine done_ (by kernel_rfl) ?_
      by_cases h8 : (l.args.length : Int) ≤ 8
      rotate_left
      · have HS : Hid (bodyS ⟨⟨cs, fs⟩, true, cl⟩ s = .error 2) := Lib.hid (by unfold bodyS; rw [if_neg he, hrl]; simp only [hgl]; rw [if_neg (by omega)])
        have h8' : decide ((l.args.length : Int) ≤ 8) = false := decide_eq_false h8
        have h8'' : (8 : Int) < (l.args.length : Int) := by omega
        clear he h8
        go_wp2_with (go_at_call 87; refine (need_no _ _).mono ?_; rintro e w' ⟨rfl, rfl⟩)
        refine ⟨rfl, BW.out, KW.out, ?_⟩
        rw [HS.out]
      by_cases h60 : (cx.1.lines.length : Int) < 60
      rotate_left
      · have HS : Hid (bodyS ⟨⟨cs, fs⟩, true, cl⟩ s = .error 2) := Lib.hid (by unfold bodyS; rw [if_neg he, hrl]; simp only [hgl]; rw [if_neg (by omega)])
        have h60' : decide ((cx.1.lines.length : Int) < 60) = false := decide_eq_false h60
        have h60'' : (60 : Int) ≤ (cx.1.lines.length : Int) := by omega
        clear he h60
        go_wp2_with (go_at_call 87; refine (need_no _ _).mono ?_; rintro e w' ⟨rfl, rfl⟩)
        refine ⟨rfl, BW.out, KW.out, ?_⟩
        rw [HS.out]
      have HS : Hid (bodyS ⟨⟨cs, fs⟩, true, cl⟩ s = .ok ⟨⟨cs, pre.map (·.1) ++ [⟨cx.1.nm, cx.1.params, cx.1.lines ++ [l]⟩]⟩, true, cl⟩) := Lib.hid (by unfold bodyS; rw [if_neg he, hrl]; simp only [hgl, hdl]; rw [if_pos (by omega)])
      clear he
      go_wp2_with fail
      refine (need_ok _ _).mono ?_
      rintro e w' ⟨rfl, rfl⟩
      go_wp2_with fail
      have eG : gc < U.heap.size := sizeB HC.out
      have eB : k < U.heap.size := sizeB LB.out
      obtain ⟨i0, hi, hz0, hz1, hz2⟩ := info_parts info40
      refine start_ (n := 11) (S := fun w' => w'.cell? ⟨gc, pre.length * 3 + 2, none⟩ = some (.slice cx.2.2.A cx.1.lines.length cx.2.2.cap) ∧ w'.heap[k]? = some (.cells (l.cells (.slice A l.args.length cp)) 40 (0, 0))) (ds := [10]) #[false, false, false, false, false, false, false, false, false, false, false] (by kernel_rfl) rfl rfl ⟨cq, LB.out⟩ (fun hHeld => ?_)
      have hq : U.drew.heap = U.heap := rfl
      have bq : Below base U U.drew := (Below.refl _ _).drew
      generalize U.drew = X at hHeld hq bq ⊢
      have kV : TKeep [] U X := fun g cs t hg _ => by rw [hq]
      have IW : Hid (InvX base r X ⟨⟨cs, fs⟩, true, cl⟩ xs (pre ++ [cx]) sc sf) := Lib.hid (IW.out.keep kV)
      have LA := Lib.hid (kV.own (by simp) LA.out)
      have ZO : Hid (∀ z ∈ zs, LnOkF base X z) := Lib.hid (fun z hz => (ZO.out z hz).keep (fun _ _ => kV.rd (by simp)))
      have LO : Hid (LnOkF base X (l, ⟨A, cp⟩)) := Lib.hid (LO.out.keep (fun _ _ => kV.rd (by simp)))
      have HC : Hid (X.heap[gc]? = some (.cells cur 45 (0, 0))) := Lib.hid (by rw [hq]; exact HC.out)
      have LB : Hid (X.heap[k]? = some (.cells (l.cells (.slice A l.args.length cp)) 40 (0, 0))) := Lib.hid (by rw [hq]; exact LB.out)
      have BW : Hid (Below base w X) := Lib.hid (BW.out.trans bq)
      have KW : Hid (TKeep T5 w X) := Lib.hid (KW.out.trans kV.mono)
      have zW : base ≤ X.heap.size := by rw [hq]; exact zW
      have cq : X.cell? ⟨gc, pre.length * 3 + 2, none⟩ = some (.slice cx.2.2.A cx.1.lines.length cx.2.2.cap) := cellB HC.out _ (HCC.out _ _ (fCells_at pre cx 2 _ rfl))
      have fq := frozenB HC.out (pre.length * 3 + 2)
      have l5 : X.cell? ⟨k, 5, none⟩ = some (.slice A l.args.length cp) := cellB LB.out 5 rfl
      have eG : gc < X.heap.size := by rw [hq]; exact eG
      have eB : k < X.heap.size := by rw [hq]; exact eB
      clear hq bq kV
      refine pure_ (i := 0) (N := some 45) (v := ?_) (a' := ?_) #[true, false, false, false, false, false, false, false, false, false, false] rfl rfl (by kernel_rfl) (fun _ _ _ h => h) (Or.inl ⟨by rfl, ?_⟩) ?_ ?_
      rotate_left
      · intro w'
        go_simp
        with_reducible rfl
      rotate_left
      · simp only [Act.put, List.setIfInBounds_toArray, List.set_cons_zero, List.set_cons_succ]
        rfl
      refine pure_ (i := 1) (N := some 46) (v := ?_) (a' := ?_) #[true, true, false, false, false, false, false, false, false, false, false] rfl rfl (by kernel_rfl) (fun _ _ _ h => h) (Or.inl ⟨by rfl, ?_⟩) ?_ ?_
      rotate_left
      · intro w'
        go_simp
        with_reducible rfl
      rotate_left
      · simp only [Act.put, List.setIfInBounds_toArray, List.set_cons_zero, List.set_cons_succ]
        rfl
      refine pure_ (i := 2) (N := some 47) (v := ?_) (a' := ?_) #[true, true, true, false, false, false, false, false, false, false, false] rfl rfl (by kernel_rfl) (fun _ _ _ h => h) (Or.inl ⟨by rfl, ?_⟩) ?_ ?_
      rotate_left
      · intro w'
        go_simp
        with_reducible rfl
      rotate_left
      · simp only [Act.put, List.setIfInBounds_toArray, List.set_cons_zero, List.set_cons_succ]
        rfl
      refine pure_ (i := 3) (N := some 48) (v := ?_) (a' := ?_) #[true, true, true, true, false, false, false, false, false, false, false] rfl rfl (by kernel_rfl) (fun _ _ _ h => h) (Or.inl ⟨by rfl, ?_⟩) ?_ ?_
      rotate_left
      · intro w'
        go_simp
        with_reducible rfl
      rotate_left
      · simp only [Act.put, List.setIfInBounds_toArray, List.set_cons_zero, List.set_cons_succ]
        rfl
      refine take_ (i := 4) (N := some 49) (v := ?_) (a' := ?_) #[true, true, true, true, true, false, false, false, false, false, false] rfl rfl (by kernel_rfl) (fun _ _ _ h => h) (Or.inl ⟨by rfl, ?_⟩) hHeld ?_ ?_
      rotate_left
      · rintro w' ⟨h0, h1⟩
        go_simp
        with_reducible rfl
      rotate_left
      · simp only [Act.put, List.setIfInBounds_toArray, List.set_cons_zero, List.set_cons_succ]
        rfl
      refine take_ (i := 5) (N := some 50) (v := ?_) (a' := ?_) #[true, true, true, true, true, true, false, false, false, false, false] rfl rfl (by kernel_rfl) (fun _ _ _ h => h) (Or.inl ⟨by rfl, ?_⟩) hHeld ?_ ?_
      rotate_left
      · rintro w' ⟨h0, h1⟩
        have b0 : w'.cell? ⟨k, 0, none⟩ = some (.int .i64 l.op) := cellB h1 0 rfl
        have b1 : w'.cell? ⟨k, 1, none⟩ = some (.string ⟨l.a.toArray⟩) := cellB h1 1 rfl
        have b2 : w'.cell? ⟨k, 2, none⟩ = some (.string ⟨l.b.toArray⟩) := cellB h1 2 rfl
        have b3 : w'.cell? ⟨k, 3, none⟩ = some (.string ⟨l.c.toArray⟩) := cellB h1 3 rfl
        have b4 : w'.cell? ⟨k, 4, none⟩ = some (.string ⟨l.nm.toArray⟩) := cellB h1 4 rfl
        have b5 : w'.cell? ⟨k, 5, none⟩ = some (.slice A l.args.length cp) := cellB h1 5 rfl
        have b6 : w'.cell? ⟨k, 6, none⟩ = some (.int .i64 l.cv.k) := cellB h1 6 rfl
        have b7 : w'.cell? ⟨k, 7, none⟩ = some (.int .i64 l.cv.n) := cellB h1 7 rfl
        have b8 : w'.cell? ⟨k, 8, none⟩ = some (.string ⟨l.cv.s.toArray⟩) := cellB h1 8 rfl
        go_simp
        with_reducible rfl
      rotate_left
      · simp only [Act.put, List.setIfInBounds_toArray, List.set_cons_zero, List.set_cons_succ]
        rfl
      refine one_ (i := 6) (N := some 51) #[true, true, true, true, true, true, true, false, false, false, false] rfl rfl (by kernel_rfl) (by simp) (fun K hK => ?_)
      refine value_ (v := .slice (some ⟨X.heap.size, 0, none⟩) 1 1) (w1 := X.alloc (.cells #[.int .i64 l.op, .string ⟨l.a.toArray⟩, .string ⟨l.b.toArray⟩, .string ⟨l.c.toArray⟩, .string ⟨l.nm.toArray⟩, .slice A l.args.length cp, .int .i64 l.cv.k, .int .i64 l.cv.n, .string ⟨l.cv.s.toArray⟩] 40)) rfl rfl (by go_simp) ?_
      refine hK.out _ _ ⟨(World.cell?_alloc_past _ _ _ eG).trans hHeld.1, (heap_alloc_old _ _ eB).trans hHeld.2⟩ (fun hHeld => ?_)
      refine one_ (i := 7) (N := some 52) #[true, true, true, true, true, true, true, true, false, false, false] rfl rfl (by kernel_rfl) (by simp) (fun K hK => ?_)
      refine step_append_lies (X.alloc (.cells #[.int .i64 l.op, .string ⟨l.a.toArray⟩, .string ⟨l.b.toArray⟩, .string ⟨l.c.toArray⟩, .string ⟨l.nm.toArray⟩, .slice A l.args.length cp, .int .i64 l.cv.k, .int .i64 l.cv.n, .string ⟨l.cv.s.toArray⟩] 40)) (by rfl) _ _ _ (by rfl) base 40 i0 _ 9 128 Tryz.underlying33 hi hz0 hz1 hz2 rfl (by omega) (.slice cx.2.2.A cx.1.lines.length cx.2.2.cap) cx.1.lines.length (lCells zs) (by rfl) (LA.out.alloc _) ⟨X.heap.size, 0, none⟩ 1 1 [.int .i64 l.op, .string ⟨l.a.toArray⟩, .string ⟨l.b.toArray⟩, .string ⟨l.c.toArray⟩, .string ⟨l.nm.toArray⟩, .slice A l.args.length cp, .int .i64 l.cv.k, .int .i64 l.cv.n, .string ⟨l.cv.s.toArray⟩] (by rfl) (by rfl) (World.news_of_block (cs := #[.int .i64 l.op, .string ⟨l.a.toArray⟩, .string ⟨l.b.toArray⟩, .string ⟨l.c.toArray⟩, .string ⟨l.nm.toArray⟩, .slice A l.args.length cp, .int .i64 l.cv.k, .int .i64 l.cv.n, .string ⟨l.cv.s.toArray⟩]) (t := 40) (fr := (0, 0)) (heap_alloc_new X _)) (by simp [Value.oneCell']) (by omega) (by unfold maxLen; omega) (by omega) (by simp; omega) (X.heap.size + 1) (by simp) ?_
      intro gg cap w3 hown3 hgrow hat hlt3
      have KO := Lib.hid hown3
      have KG := Lib.hid hgrow
      have KA := Lib.hid hat
      have gc3 : w3.heap[gc]? = some (.cells cur 45 (0, 0)) := (hgrow.block _ (by simp; omega) (own_ne LA.out HC.out (by decide))).trans ((heap_alloc_old _ _ eG).trans HC.out)
      have u0 : w3.cell? ⟨gc, pre.length * 3 + 2, none⟩ = some (.slice cx.2.2.A cx.1.lines.length cx.2.2.cap) := cellB gc3 _ (HCC.out _ _ (fCells_at pre cx 2 _ rfl))
      have v0 := frozenB gc3 (pre.length * 3 + 2)
      have ROW3 : w3.heap[k]? = some (.cells (l.cells (.slice A l.args.length cp)) 40 (0, 0)) := (hgrow.block _ (by simp; omega) NK.out).trans ((heap_alloc_old _ _ eB).trans LB.out)
      have GC3 := Lib.hid gc3
      clear hown3 hgrow hat gc3
      change K (Act.put _ (some 52) _) w3
      refine hK.out _ _ ⟨u0, ROW3⟩ (fun hHeld => ?_)
      refine pure_ (i := 8) (N := some 53) (v := ?_) (a' := ?_) #[true, true, true, true, true, true, true, true, true, false, false] rfl rfl (by kernel_rfl) (fun _ _ _ h => h) (Or.inl ⟨by rfl, ?_⟩) ?_ ?_
      rotate_left
      · intro w'
        go_simp
        with_reducible rfl
      rotate_left
      · simp only [Act.put, List.setIfInBounds_toArray, List.set_cons_zero, List.set_cons_succ]
        rfl
      refine pure_ (i := 9) (N := some 54) (v := ?_) (a' := ?_) #[true, true, true, true, true, true, true, true, true, true, false] rfl rfl (by kernel_rfl) (fun _ _ _ h => h) (Or.inl ⟨by rfl, ?_⟩) ?_ ?_
      rotate_left
      · intro w'
        go_simp
        with_reducible rfl
      rotate_left
      · simp only [Act.put, List.setIfInBounds_toArray, List.set_cons_zero, List.set_cons_succ]
        rfl
      refine last_ (i := 10) (N := none) #[true, true, true, true, true, true, true, true, true, true, true] rfl rfl (by kernel_rfl) (by simp) (fun K hK => ?_)
      refine skip_ (w1 := w3.setCell ⟨gc, pre.length * 3 + 2, none⟩ (.slice (some ⟨gg, 0, none⟩) (cx.1.lines.length + 1) cap)) rfl rfl (by go_simp) ?_
      refine hK.out _ _ ?_
      refine done_ (by kernel_rfl) ?_
      go_wp2_with fail
      go_end0
      refine ⟨?_, ?_, ?_⟩
      · exact ((BW.out.alloc zW _).grown KG.out (by simp; omega) (own_base LA.out)).setCell hgb _
      · exact (KW.out.trans (TKeep.alloc _ _ _)).trans (((TKeep.grown (T := [40]) (LA.out.alloc _) KG.out (by simp)).wide (by simp [T5])).trans ((TKeep.set (T := [45]) GC3.out (by simp)).wide (by simp [T5])))
      · rw [HS.out]
        have kX : TKeep [] X (X.alloc (.cells #[.int .i64 l.op, .string ⟨l.a.toArray⟩, .string ⟨l.b.toArray⟩, .string ⟨l.c.toArray⟩, .string ⟨l.nm.toArray⟩, .slice A l.args.length cp, .int .i64 l.cv.k, .int .i64 l.cv.n, .string ⟨l.cv.s.toArray⟩] 40)) := TKeep.below ((Below.refl _ _).alloc (Nat.le_refl _) _)
        have KA' : (cx.2.2.v cx.1.lines.length).ownBlock = some gg ∨ (X.alloc (.cells #[.int .i64 l.op, .string ⟨l.a.toArray⟩, .string ⟨l.b.toArray⟩, .string ⟨l.c.toArray⟩, .string ⟨l.nm.toArray⟩, .slice A l.args.length cp, .int .i64 l.cv.k, .int .i64 l.cv.n, .string ⟨l.cv.s.toArray⟩] 40)).heap.size ≤ gg := by
          rcases KA.out with h | h
          · exact .inl h
          · exact .inr (by rw [h]; simp)
        exact ⟨rfl, _, _, _, _, (IW.out.keep kX).add_line (l := (l, ⟨A, cp⟩)) rfl HZS.out (fun z hz => (ZO.out z hz).keep (fun _ _ => kX.rd (by simp))) (LO.out.keep (fun _ _ => kX.rd (by simp))) (LA.out.alloc _) HD.out KO.out KG.out KA' HA.out⟩
end Go.Proofs.YtdkcdodkhghfhaaGreatDoor
