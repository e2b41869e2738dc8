/- The walks of the reader's lines: a method, and a line of a function. -/
import Derived.Test.YtdkcdodkhghfhaaGreatDoorC
import Derived.Test.YtdkcdodkhghfhaaGreatDoorU
namespace Go.Proofs.YtdkcdodkhghfhaaGreatDoor
open Go.RowKit Go.Proofs.YtdkcdodkhghfhaaGreatDoorW.PrintLast Go.Proofs.YtdkcdodkhghfhaaGreatDoorW.PrintWords

/-- A method. -/
def methodS (st : St) (s : Str) : Except Int St :=
  if st.cls = false then .error 12
  else if namesOk s = false then .error 12
  else match splitS 32 s with
    | [a, b] => match st.p.classes.getLast? with
      | none => .error 12
      | some c => if c.methods.length < 8 then .ok ⟨⟨st.p.classes.dropLast ++ [⟨c.nm, c.fields, c.methods ++ [(a, b)]⟩], st.p.funcs⟩, st.inside, true⟩ else .error 2
    | _ => .error 12
/-- A line inside a function. -/
def bodyS (st : St) (s : Str) : Except Int St :=
  if s = [101, 110, 100, 102, 117, 110, 99] then .ok ⟨st.p, false, st.cls⟩
  else match rlS s with
    | none => .error 12
    | some l => match st.p.funcs.getLast? with
      | none => .error 12
      | some f => if l.args.length ≤ 8 ∧ f.lines.length < 60 then .ok ⟨⟨st.p.classes, st.p.funcs.dropLast ++ [⟨f.nm, f.params, f.lines ++ [l]⟩]⟩, st.inside, st.cls⟩ else .error 2

theorem own_block {w : World} {base e size n : Nat} {s : Sl} {xs : List Value} (h : w.ownsRow base e size (s.v n) n xs) (hn : 0 < n) :
    ∃ (g : Nat) (cur : Array Value), s.A = some ⟨g, 0, none⟩ ∧ w.heap[g]? = some (.cells cur e (0, 0)) ∧ base ≤ g ∧ n ≤ maxLen ∧ ∀ (i : Nat) (u : Value), xs[i]? = some u → cur[i]? = some u := by
  rcases h.2 with ⟨h1, h2⟩ | ⟨g', cap', cur, h1, h2, h3, h4, h5, _, h7⟩
  · omega
  · injection h1 with e1 e2 e3
    refine ⟨g', cur, e1, h3, h2, Nat.le_trans h4 h5, fun i u hu => ?_⟩
    rw [← h7, List.getElem?_take] at hu
    split at hu
    · rw [← Array.getElem?_toList]; exact hu
    · cases hu
theorem cCells_at (pre : List ClsX) (x : ClsX) (i : Nat) (u : Value) (h : (cCells1 x)[i]? = some u) : (cCells (pre ++ [x]))[pre.length * 3 + i]? = some u := by
  rw [cCells_append, List.getElem?_append_right (by rw [cCells_length]; omega), cCells_length, show pre.length * 3 + i - pre.length * 3 = i from by omega]
  simpa [cCells] using h
theorem fCells_at (pre : List FnX) (x : FnX) (i : Nat) (u : Value) (h : (fCells1 x)[i]? = some u) : (fCells (pre ++ [x]))[pre.length * 3 + i]? = some u := by
  rw [fCells_append, List.getElem?_append_right (by rw [fCells_length]; omega), fCells_length, show pre.length * 3 + i - pre.length * 3 = i from by omega]
  simpa [fCells] using h
theorem info52 : (Tryz.prog.info? 52).map (fun i => (i.zero, i.size, i.bytes)) = some (some (.agg #[.string ⟨#[]⟩, .string ⟨#[]⟩]), 2, 32) := by kernel_rfl
theorem info40 : (Tryz.prog.info? 40).map (fun i => (i.zero, i.size, i.bytes)) = some (some (.agg ((Ln.zero 0).cells (.slice none 0 0))), 9, 128) := by kernel_rfl
set_option maxHeartbeats 8000000 in
set_option maxRecDepth 100000 in
theorem methodLine_calls (base r : Nat) (st : St) (s : Str) (w : World) (I : Inv base r w st) (L : LW w) (hs : s.length < 40000000) (_hB : 8 ≤ base) :
    Calls Tryz.prog 113 #[.pointer (some ⟨r, 0, none⟩), .string ⟨s.toArray⟩] w (Came base r w (methodS st s)) := by
  obtain ⟨xs, ys, sc, sf, I⟩ := I
  obtain ⟨⟨cs, fs⟩, ins, cl⟩ := st
  have HL := Lib.hid L
  have hbw : base ≤ w.heap.size := by have := sizeB I.rd; have := I.hr; omega
  have IH := Lib.hid I
  have nr : ¬ r = w.heap.size := by have := sizeB I.rd; omega
  have rd := I.rd
  have hlen : (splitS 32 s).length ≤ 40000000 := by rw [splitS_length]; have := List.count_le_length (a := (32 : UInt8)) (l := s); omega
  clear L I
  cases cl with
  | false =>
    have HS : Hid (methodS ⟨⟨cs, fs⟩, ins, false⟩ s = .error 12) := by simp [methodS, Hid]
    have c0 : w.cell? ⟨r, 0, none⟩ = some (.slice sc.A xs.length sc.cap) := cellB rd 0 rfl
    have c1 : w.cell? ⟨r, 1, none⟩ = some (.slice sf.A ys.length sf.cap) := cellB rd 1 rfl
    have c2 : w.cell? ⟨r, 2, none⟩ = some (.bool ins) := cellB rd 2 rfl
    have c3 : w.cell? ⟨r, 3, none⟩ = some (.bool false) := cellB rd 3 rfl
    have f0 := frozenB rd 0
    have f1 := frozenB rd 1
    have f2 := frozenB rd 2
    have f3 := frozenB rd 3
    clear rd
    go_enter Tryz.func113, Tryz.ntmps113
    go_wp2_with (go_at_call 87; refine (need_no _ _).mono ?_; rintro e w' ⟨rfl, rfl⟩)
    refine ⟨rfl, Below.refl _ _, TKeep.refl _ _, ?_⟩
    rw [HS.out]
  | true =>
    obtain ⟨pre, cx, hxs, hlast, hd⟩ := IH.out.lc rfl
    subst hxs
    have hn0 : (pre ++ [cx]).length = pre.length + 1 := by simp
    have IH2 := IH.out
    have hgl : cs.getLast? = some cx.1 := by rw [show cs = _ from IH2.hx.symm]; simp
    have hdl : cs.dropLast = pre.map (·.1) := by rw [show cs = _ from IH2.hx.symm]; simp
    have rd : w.heap[r]? = some (.cells #[sc.v (pre.length + 1), sf.v ys.length, .bool ins, .bool true] 97 (0, 0)) := by rw [rd, hn0]
    clear IH2
    have c0 : w.cell? ⟨r, 0, none⟩ = some (.slice sc.A (pre.length + 1) sc.cap) := cellB rd 0 rfl
    have c1 : w.cell? ⟨r, 1, none⟩ = some (.slice sf.A ys.length sf.cap) := cellB rd 1 rfl
    have c2 : w.cell? ⟨r, 2, none⟩ = some (.bool ins) := cellB rd 2 rfl
    have c3 : w.cell? ⟨r, 3, none⟩ = some (.bool true) := cellB rd 3 rfl
    have f0 := frozenB rd 0
    have f1 := frozenB rd 1
    have f2 := frozenB rd 2
    have f3 := frozenB rd 3
    clear rd
    cases hn : namesOk s with
    | false =>
      have HS : Hid (methodS ⟨⟨cs, fs⟩, ins, true⟩ s = .error 12) := by simp [methodS, hn, Hid]
      have HN := Lib.hid hn
      clear hn
      go_enter Tryz.func113, Tryz.ntmps113
      go_wp2_with (first | (go_at_call 87; refine (need_ok _ _).mono ?_; rintro e w' ⟨rfl, rfl⟩) | (go_at_call 133; refine (names_no s _ HL.out hs HN.out).mono ?_; rintro e w' ⟨rfl, rfl⟩))
      refine ⟨rfl, (Below.refl _ _).alloc hbw _, TKeep.alloc _ _ _, ?_⟩
      rw [HS.out]
    | true =>
      have HN := Lib.hid hn
      clear hn
      generalize hl : splitS 32 s = l at hlen
      have HLL := Lib.hid hl
      have HD := Lib.hid hd
      have HLA := Lib.hid hlast
      clear hd hlast
      by_cases h2 : l.length = 2
      rotate_left
      · have HS : Hid (methodS ⟨⟨cs, fs⟩, ins, true⟩ s = .error 12) := by
          refine Lib.hid ?_
          unfold methodS
          rw [if_neg (by simp), if_neg (by rw [HN.out]; simp), HLL.out]
          split
          · exact absurd rfl h2
          · rfl
        have h2' : ((l.length : Int) == 2) = false := by
          have : ¬ (l.length : Int) = 2 := by omega
          simpa using this
        clear h2
        go_enter Tryz.func113, Tryz.ntmps113
        go_wp2_with fail
        refine (need_ok _ _).mono ?_
        rintro e w' ⟨rfl, rfl⟩
        go_wp2_with fail
        refine (names_ok s _ HL.out hs HN.out).mono ?_
        rw [HLL.out]
        rintro e W ⟨rfl, hW⟩
        have kW : TKeep [] w W := TKeep.below (by rw [hW]; exact (Below.refl _ _).alloc (Nat.le_refl _) _)
        have IW : InvX base r W ⟨⟨cs, fs⟩, ins, true⟩ (pre ++ [cx]) ys sc sf := IH.out.keep kW
        have LA := kW.own (by simp) HLA.out
        have rdW : W.heap[r]? = some (.cells #[sc.v (pre.length + 1), sf.v ys.length, .bool ins, .bool true] 97 (0, 0)) := by rw [IW.rd, hn0]
        have rowW : W.heap[w.heap.size]? = some (.cells (strs l).toArray 9 (0, 0)) := by rw [hW]; exact heap_new _ _
        have BW : Below base w W := by rw [hW]; exact (Below.refl _ _).alloc hbw _
        have zW : base ≤ W.heap.size := Nat.le_trans hbw BW.size
        have KW : Hid (TKeep T5 w W) := Lib.hid kW.mono
        obtain ⟨gc, cur, hA, hcur, hgb, hmx, hcell⟩ := own_block (by rw [← hn0]; exact IW.oc) (by omega : 0 < pre.length + 1)
        have cq : W.cell? ⟨gc, pre.length * 3 + 2, none⟩ = some (.slice cx.2.2.A cx.1.methods.length cx.2.2.cap) := cellB hcur _ (hcell _ _ (cCells_at pre cx 2 _ rfl))
        have fq := frozenB hcur (pre.length * 3 + 2)
        have hwr : IntKind.i64.wrap (pre.length : Int) = (pre.length : Int) := IntWalk.i64_in _ (by unfold maxLen at hmx; omega)
        have hp0 : (0 : Int) ≤ (pre.length : Int) := by omega
        have hp1 : (pre.length : Int) < (pre.length : Int) + 1 := by omega
        have HA := Lib.hid hA
        have HC := Lib.hid hcur
        have HCC := Lib.hid hcell
        have IW := Lib.hid IW
        have LA := Lib.hid LA
        have ROW := Lib.hid rowW
        have BW := Lib.hid BW
        clear hW kW hcur hcell c0 c1 c2 c3 f0 f1 f2 f3
        have c0 : W.cell? ⟨r, 0, none⟩ = some (.slice (some ⟨gc, 0, none⟩) (pre.length + 1) sc.cap) := cellB rdW 0 (by simp [Sl.v, hA])
        have c1 : W.cell? ⟨r, 1, none⟩ = some (.slice sf.A ys.length sf.cap) := cellB rdW 1 rfl
        have c2 : W.cell? ⟨r, 2, none⟩ = some (.bool ins) := cellB rdW 2 rfl
        have c3 : W.cell? ⟨r, 3, none⟩ = some (.bool true) := cellB rdW 3 rfl
        have f0 := frozenB rdW 0
        have f1 := frozenB rdW 1
        have f2 := frozenB rdW 2
        have f3 := frozenB rdW 3
        go_wp2_with (go_at_call 87; refine (need_no _ _).mono ?_; rintro e w' ⟨rfl, rfl⟩)
        refine ⟨rfl, BW.out, KW.out, ?_⟩
        rw [HS.out]
      obtain ⟨a, b, rfl⟩ : ∃ a b, l = [a, b] := by
        rcases l with _ | ⟨a, _ | ⟨b, _ | ⟨c, t⟩⟩⟩
        · simp at h2
        · simp at h2
        · exact ⟨a, b, rfl⟩
        · simp at h2
      clear h2 hl hlen
      by_cases h8 : (cx.1.methods.length : Int) < 8
      · have HS : Hid (methodS ⟨⟨cs, fs⟩, ins, true⟩ s = .ok ⟨⟨pre.map (·.1) ++ [⟨cx.1.nm, cx.1.fields, cx.1.methods ++ [(a, b)]⟩], fs⟩, ins, true⟩) := by
          refine Lib.hid ?_
          unfold methodS
          rw [if_neg (by simp), if_neg (by rw [HN.out]; simp), HLL.out]
          simp only [hgl, hdl]
          rw [if_pos (by omega)]
        go_enter Tryz.func113, Tryz.ntmps113
        go_wp2_with fail
        refine (need_ok _ _).mono ?_
        rintro e w' ⟨rfl, rfl⟩
        go_wp2_with fail
        refine (names_ok s _ HL.out hs HN.out).mono ?_
        rw [HLL.out]
        rintro e W ⟨rfl, hW⟩
        have kW : TKeep [] w W := TKeep.below (by rw [hW]; exact (Below.refl _ _).alloc (Nat.le_refl _) _)
        have IW : InvX base r W ⟨⟨cs, fs⟩, ins, true⟩ (pre ++ [cx]) ys sc sf := IH.out.keep kW
        have LA := kW.own (by simp) HLA.out
        have rdW : W.heap[r]? = some (.cells #[sc.v (pre.length + 1), sf.v ys.length, .bool ins, .bool true] 97 (0, 0)) := by rw [IW.rd, hn0]
        have rowW : W.heap[w.heap.size]? = some (.cells (strs [a, b]).toArray 9 (0, 0)) := by rw [hW]; exact heap_new _ _
        have BW : Below base w W := by rw [hW]; exact (Below.refl _ _).alloc hbw _
        have zW : base ≤ W.heap.size := Nat.le_trans hbw BW.size
        have KW : Hid (TKeep T5 w W) := Lib.hid kW.mono
        obtain ⟨gc, cur, hA, hcur, hgb, hmx, hcell⟩ := own_block (by rw [← hn0]; exact IW.oc) (by omega : 0 < pre.length + 1)
        have cq : W.cell? ⟨gc, pre.length * 3 + 2, none⟩ = some (.slice cx.2.2.A cx.1.methods.length cx.2.2.cap) := cellB hcur _ (hcell _ _ (cCells_at pre cx 2 _ rfl))
        have fq := frozenB hcur (pre.length * 3 + 2)
        have hwr : IntKind.i64.wrap (pre.length : Int) = (pre.length : Int) := IntWalk.i64_in _ (by unfold maxLen at hmx; omega)
        have hp0 : (0 : Int) ≤ (pre.length : Int) := by omega
        have hp1 : (pre.length : Int) < (pre.length : Int) + 1 := by omega
        have HA := Lib.hid hA
        have HC := Lib.hid hcur
        have HCC := Lib.hid hcell
        have IW := Lib.hid IW
        have LA := Lib.hid LA
        have ROW := Lib.hid rowW
        have BW := Lib.hid BW
        clear hW kW hcur hcell c0 c1 c2 c3 f0 f1 f2 f3
        have c0 : W.cell? ⟨r, 0, none⟩ = some (.slice (some ⟨gc, 0, none⟩) (pre.length + 1) sc.cap) := cellB rdW 0 (by simp [Sl.v, hA])
        have c1 : W.cell? ⟨r, 1, none⟩ = some (.slice sf.A ys.length sf.cap) := cellB rdW 1 rfl
        have c2 : W.cell? ⟨r, 2, none⟩ = some (.bool ins) := cellB rdW 2 rfl
        have c3 : W.cell? ⟨r, 3, none⟩ = some (.bool true) := cellB rdW 3 rfl
        have f0 := frozenB rdW 0
        have f1 := frozenB rdW 1
        have f2 := frozenB rdW 2
        have f3 := frozenB rdW 3
        have d0 : W.cell? ⟨w.heap.size, 0, none⟩ = some (.string ⟨a.toArray⟩) := cellB rowW 0 rfl
        have d1 : W.cell? ⟨w.heap.size, 1, none⟩ = some (.string ⟨b.toArray⟩) := cellB rowW 1 rfl
        clear rdW rowW
        go_wp2_with fail
        refine (need_ok _ _).mono ?_
        rintro e w' ⟨rfl, rfl⟩
        go_wp2_with fail
        refine start_ (n := 14) (S := fun w' => w'.cell? ⟨r, 0, none⟩ = some (.slice (some ⟨gc, 0, none⟩) (pre.length + 1) sc.cap)) (ds := []) #[false, false, false, false, false, false, false, false, false, false, false, false, false, false] (by kernel_rfl) rfl rfl (by first | assumption | exact ⟨by assumption, by assumption⟩ | exact ⟨by assumption, by assumption, by assumption⟩) (fun hHeld => ?_)
        have hq : W.drew.heap = W.heap := rfl
        have bq : Below base W W.drew := (Below.refl _ _).drew
        generalize W.drew = V at hHeld hq bq ⊢
        have kV : TKeep [] W V := fun g cs t hg _ => by rw [hq]
        have IW : Hid (InvX base r V ⟨⟨cs, fs⟩, ins, true⟩ (pre ++ [cx]) ys sc sf) := Lib.hid (IW.out.keep kV)
        have LA := Lib.hid (kV.own (by simp) LA.out)
        have ROW : Hid (V.heap[w.heap.size]? = some (.cells (strs [a, b]).toArray 9 (0, 0))) := Lib.hid (by rw [hq]; exact ROW.out)
        have HC : Hid (V.heap[gc]? = some (.cells cur 50 (0, 0))) := Lib.hid (by rw [hq]; exact HC.out)
        have BW : Hid (Below base w V) := Lib.hid (BW.out.trans bq)
        have KW : Hid (TKeep T5 w V) := Lib.hid (KW.out.trans kV.mono)
        have zW : base ≤ V.heap.size := by rw [hq]; exact zW
        have cq : V.cell? ⟨gc, pre.length * 3 + 2, none⟩ = some (.slice cx.2.2.A cx.1.methods.length cx.2.2.cap) := cellB HC.out _ (HCC.out _ _ (cCells_at pre cx 2 _ rfl))
        have fq := frozenB HC.out (pre.length * 3 + 2)
        have d0 : V.cell? ⟨w.heap.size, 0, none⟩ = some (.string ⟨a.toArray⟩) := cellB ROW.out 0 rfl
        have d1 : V.cell? ⟨w.heap.size, 1, none⟩ = some (.string ⟨b.toArray⟩) := cellB ROW.out 1 rfl
        clear hq bq kV
        refine pure_ (i := 0) (N := some 17) (v := ?_) (a' := ?_) #[true, false, false, false, false, false, false, false, false, false, false, false, false, false] rfl rfl (by kernel_rfl) (fun _ _ _ h => h) (Or.inl ⟨by rfl, ?_⟩) ?_ ?_
        rotate_left
        · intro w'
          go_simp
          with_reducible rfl
        rotate_left
        · simp only [Act.put, List.setIfInBounds_toArray, List.set_cons_zero, List.set_cons_succ]
          rfl
        refine pure_ (i := 1) (N := some 18) (v := ?_) (a' := ?_) #[true, true, false, false, false, false, false, false, false, false, false, false, false, false] rfl rfl (by kernel_rfl) (fun _ _ _ h => h) (Or.inl ⟨by rfl, ?_⟩) ?_ ?_
        rotate_left
        · intro w'
          go_simp
          with_reducible rfl
        rotate_left
        · simp only [Act.put, List.setIfInBounds_toArray, List.set_cons_zero, List.set_cons_succ]
          rfl
        refine pure_ (i := 2) (N := some 19) (v := ?_) (a' := ?_) #[true, true, true, false, false, false, false, false, false, false, false, false, false, false] rfl rfl (by kernel_rfl) (fun _ _ _ h => h) (Or.inl ⟨by rfl, ?_⟩) ?_ ?_
        rotate_left
        · intro w'
          go_simp
          with_reducible rfl
        rotate_left
        · simp only [Act.put, List.setIfInBounds_toArray, List.set_cons_zero, List.set_cons_succ]
          rfl
        refine pure_ (i := 3) (N := some 20) (v := ?_) (a' := ?_) #[true, true, true, true, false, false, false, false, false, false, false, false, false, false] rfl rfl (by kernel_rfl) (fun _ _ _ h => h) (Or.inl ⟨by rfl, ?_⟩) ?_ ?_
        rotate_left
        · intro w'
          go_simp
          with_reducible rfl
        rotate_left
        · simp only [Act.put, List.setIfInBounds_toArray, List.set_cons_zero, List.set_cons_succ]
          rfl
        refine take_ (i := 4) (N := some 21) (v := ?_) (a' := ?_) #[true, true, true, true, true, false, false, false, false, false, false, false, false, false] rfl rfl (by kernel_rfl) (fun _ _ _ h => h) (Or.inl ⟨by rfl, ?_⟩) hHeld ?_ ?_
        rotate_left
        · rintro w' h0
          go_simp
          with_reducible rfl
        rotate_left
        · simp only [Act.put, List.setIfInBounds_toArray, List.set_cons_zero, List.set_cons_succ]
          rfl
        refine pure_ (i := 5) (N := some 22) (v := ?_) (a' := ?_) #[true, true, true, true, true, true, false, false, false, false, false, false, false, false] rfl rfl (by kernel_rfl) (fun _ _ _ h => h) (Or.inl ⟨by rfl, ?_⟩) ?_ ?_
        rotate_left
        · intro w'
          go_simp
          with_reducible rfl
        rotate_left
        · simp only [Act.put, List.setIfInBounds_toArray, List.set_cons_zero, List.set_cons_succ]
          rfl
        refine pure_ (i := 6) (N := some 23) (v := ?_) (a' := ?_) #[true, true, true, true, true, true, true, false, false, false, false, false, false, false] rfl rfl (by kernel_rfl) (fun _ _ _ h => h) (Or.inl ⟨by rfl, ?_⟩) ?_ ?_
        rotate_left
        · intro w'
          go_simp
          with_reducible rfl
        rotate_left
        · simp only [Act.put, List.setIfInBounds_toArray, List.set_cons_zero, List.set_cons_succ]
          rfl
        refine pure_ (i := 7) (N := some 24) (v := ?_) (a' := ?_) #[true, true, true, true, true, true, true, true, false, false, false, false, false, false] rfl rfl (by kernel_rfl) (fun _ _ _ h => h) (Or.inl ⟨by rfl, ?_⟩) ?_ ?_
        rotate_left
        · intro w'
          go_simp
          with_reducible rfl
        rotate_left
        · simp only [Act.put, List.setIfInBounds_toArray, List.set_cons_zero, List.set_cons_succ]
          rfl
        refine pure_ (i := 8) (N := some 25) (v := ?_) (a' := ?_) #[true, true, true, true, true, true, true, true, true, false, false, false, false, false] rfl rfl (by kernel_rfl) (fun _ _ _ h => h) (Or.inl ⟨by rfl, ?_⟩) ?_ ?_
        rotate_left
        · intro w'
          go_simp
          with_reducible rfl
        rotate_left
        · simp only [Act.put, List.setIfInBounds_toArray, List.set_cons_zero, List.set_cons_succ]
          rfl
        refine take_ (i := 9) (N := some 26) (v := ?_) (a' := ?_) #[true, true, true, true, true, true, true, true, true, true, false, false, false, false] rfl rfl (by kernel_rfl) (fun _ _ _ h => h) (Or.inl ⟨by rfl, ?_⟩) hHeld ?_ ?_
        rotate_left
        · rintro w' h0
          go_simp
          with_reducible rfl
        rotate_left
        · simp only [Act.put, List.setIfInBounds_toArray, List.set_cons_zero, List.set_cons_succ]
          rfl
        refine pure_ (i := 10) (N := some 27) (v := ?_) (a' := ?_) #[true, true, true, true, true, true, true, true, true, true, true, false, false, false] rfl rfl (by kernel_rfl) (fun _ _ _ h => h) (Or.inl ⟨by rfl, ?_⟩) ?_ ?_
        rotate_left
        · intro w'
          go_simp
          with_reducible rfl
        rotate_left
        · simp only [Act.put, List.setIfInBounds_toArray, List.set_cons_zero, List.set_cons_succ]
          rfl
        refine pure_ (i := 11) (N := some 28) (v := ?_) (a' := ?_) #[true, true, true, true, true, true, true, true, true, true, true, true, false, false] rfl rfl (by kernel_rfl) (fun _ _ _ h => h) (Or.inl ⟨by rfl, ?_⟩) ?_ ?_
        rotate_left
        · intro w'
          go_simp
          with_reducible rfl
        rotate_left
        · simp only [Act.put, List.setIfInBounds_toArray, List.set_cons_zero, List.set_cons_succ]
          rfl
        refine pure_ (i := 12) (N := some 29) (v := ?_) (a' := ?_) #[true, true, true, true, true, true, true, true, true, true, true, true, true, false] rfl rfl (by kernel_rfl) (fun _ _ _ h => h) (Or.inl ⟨by rfl, ?_⟩) ?_ ?_
        rotate_left
        · intro w'
          go_simp
          with_reducible rfl
        rotate_left
        · simp only [Act.put, List.setIfInBounds_toArray, List.set_cons_zero, List.set_cons_succ]
          rfl
        refine pure_ (i := 13) (N := some 5) (v := ?_) (a' := ?_) #[true, true, true, true, true, true, true, true, true, true, true, true, true, true] rfl rfl (by kernel_rfl) (fun _ _ _ h => h) (Or.inl ⟨by rfl, ?_⟩) ?_ ?_
        rotate_left
        · intro w'
          go_simp
          with_reducible rfl
        rotate_left
        · simp only [Act.put, List.setIfInBounds_toArray, List.set_cons_zero, List.set_cons_succ]
          rfl
        refine done_ (by kernel_rfl) ?_
        go_wp2_with fail
        refine (need_ok _ _).mono ?_
        rintro e w' ⟨rfl, rfl⟩
        go_wp2_with fail
        have eG : gc < V.heap.size := sizeB HC.out
        have eB : w.heap.size < V.heap.size := sizeB ROW.out
        obtain ⟨i0, hi, hz0, hz1, hz2⟩ := info_parts info52
        refine start_ (n := 17) (S := fun w' => w'.cell? ⟨gc, pre.length * 3 + 2, none⟩ = some (.slice cx.2.2.A cx.1.methods.length cx.2.2.cap) ∧ w'.cell? ⟨w.heap.size, 0, none⟩ = some (.string ⟨a.toArray⟩) ∧ w'.cell? ⟨w.heap.size, 1, none⟩ = some (.string ⟨b.toArray⟩)) (ds := [16]) #[false, false, false, false, false, false, false, false, false, false, false, false, false, false, false, false, false] (by kernel_rfl) rfl rfl (by first | assumption | exact ⟨by assumption, by assumption⟩ | exact ⟨by assumption, by assumption, by assumption⟩) (fun hHeld => ?_)
        have hq : V.drew.heap = V.heap := rfl
        have bq : Below base V V.drew := (Below.refl _ _).drew
        generalize V.drew = U at hHeld hq bq ⊢
        have kV : TKeep [] V U := fun g cs t hg _ => by rw [hq]
        have IW : Hid (InvX base r U ⟨⟨cs, fs⟩, ins, true⟩ (pre ++ [cx]) ys sc sf) := Lib.hid (IW.out.keep kV)
        have LA := Lib.hid (kV.own (by simp) LA.out)
        have ROW : Hid (U.heap[w.heap.size]? = some (.cells (strs [a, b]).toArray 9 (0, 0))) := Lib.hid (by rw [hq]; exact ROW.out)
        have HC : Hid (U.heap[gc]? = some (.cells cur 50 (0, 0))) := Lib.hid (by rw [hq]; exact HC.out)
        have BW : Hid (Below base w U) := Lib.hid (BW.out.trans bq)
        have KW : Hid (TKeep T5 w U) := Lib.hid (KW.out.trans kV.mono)
        have zW : base ≤ U.heap.size := by rw [hq]; exact zW
        have cq : U.cell? ⟨gc, pre.length * 3 + 2, none⟩ = some (.slice cx.2.2.A cx.1.methods.length cx.2.2.cap) := cellB HC.out _ (HCC.out _ _ (cCells_at pre cx 2 _ rfl))
        have fq := frozenB HC.out (pre.length * 3 + 2)
        have d0 : U.cell? ⟨w.heap.size, 0, none⟩ = some (.string ⟨a.toArray⟩) := cellB ROW.out 0 rfl
        have d1 : U.cell? ⟨w.heap.size, 1, none⟩ = some (.string ⟨b.toArray⟩) := cellB ROW.out 1 rfl
        have eG : gc < U.heap.size := by rw [hq]; exact eG
        have eB : w.heap.size < U.heap.size := by rw [hq]; exact eB
        clear hq bq kV
        refine pure_ (i := 0) (N := some 37) (v := ?_) (a' := ?_) #[true, false, false, false, false, false, false, false, false, false, false, false, false, false, false, false, false] rfl rfl (by kernel_rfl) (fun _ _ _ h => h) (Or.inl ⟨by rfl, ?_⟩) ?_ ?_
        rotate_left
        · intro w'
          go_simp
          with_reducible rfl
        rotate_left
        · simp only [Act.put, List.setIfInBounds_toArray, List.set_cons_zero, List.set_cons_succ]
          rfl
        refine pure_ (i := 1) (N := some 38) (v := ?_) (a' := ?_) #[true, true, false, false, false, false, false, false, false, false, false, false, false, false, false, false, false] rfl rfl (by kernel_rfl) (fun _ _ _ h => h) (Or.inl ⟨by rfl, ?_⟩) ?_ ?_
        rotate_left
        · intro w'
          go_simp
          with_reducible rfl
        rotate_left
        · simp only [Act.put, List.setIfInBounds_toArray, List.set_cons_zero, List.set_cons_succ]
          rfl
        refine pure_ (i := 2) (N := some 39) (v := ?_) (a' := ?_) #[true, true, true, false, false, false, false, false, false, false, false, false, false, false, false, false, false] rfl rfl (by kernel_rfl) (fun _ _ _ h => h) (Or.inl ⟨by rfl, ?_⟩) ?_ ?_
        rotate_left
        · intro w'
          go_simp
          with_reducible rfl
        rotate_left
        · simp only [Act.put, List.setIfInBounds_toArray, List.set_cons_zero, List.set_cons_succ]
          rfl
        refine pure_ (i := 3) (N := some 40) (v := ?_) (a' := ?_) #[true, true, true, true, false, false, false, false, false, false, false, false, false, false, false, false, false] rfl rfl (by kernel_rfl) (fun _ _ _ h => h) (Or.inl ⟨by rfl, ?_⟩) ?_ ?_
        rotate_left
        · intro w'
          go_simp
          with_reducible rfl
        rotate_left
        · simp only [Act.put, List.setIfInBounds_toArray, List.set_cons_zero, List.set_cons_succ]
          rfl
        refine take_ (i := 4) (N := some 41) (v := ?_) (a' := ?_) #[true, true, true, true, true, false, false, false, false, false, false, false, false, false, false, false, false] rfl rfl (by kernel_rfl) (fun _ _ _ h => h) (Or.inl ⟨by rfl, ?_⟩) hHeld ?_ ?_
        rotate_left
        · rintro w' ⟨h0, h1, h2⟩
          go_simp
          with_reducible rfl
        rotate_left
        · simp only [Act.put, List.setIfInBounds_toArray, List.set_cons_zero, List.set_cons_succ]
          rfl
        refine pure_ (i := 5) (N := some 42) (v := ?_) (a' := ?_) #[true, true, true, true, true, true, false, false, false, false, false, false, false, false, false, false, false] rfl rfl (by kernel_rfl) (fun _ _ _ h => h) (Or.inl ⟨by rfl, ?_⟩) ?_ ?_
        rotate_left
        · intro w'
          go_simp
          with_reducible rfl
        rotate_left
        · simp only [Act.put, List.setIfInBounds_toArray, List.set_cons_zero, List.set_cons_succ]
          rfl
        refine pure_ (i := 6) (N := some 43) (v := ?_) (a' := ?_) #[true, true, true, true, true, true, true, false, false, false, false, false, false, false, false, false, false] rfl rfl (by kernel_rfl) (fun _ _ _ h => h) (Or.inl ⟨by rfl, ?_⟩) ?_ ?_
        rotate_left
        · intro w'
          go_simp
          with_reducible rfl
        rotate_left
        · simp only [Act.put, List.setIfInBounds_toArray, List.set_cons_zero, List.set_cons_succ]
          rfl
        refine take_ (i := 7) (N := some 44) (v := ?_) (a' := ?_) #[true, true, true, true, true, true, true, true, false, false, false, false, false, false, false, false, false] rfl rfl (by kernel_rfl) (fun _ _ _ h => h) (Or.inl ⟨by rfl, ?_⟩) hHeld ?_ ?_
        rotate_left
        · rintro w' ⟨h0, h1, h2⟩
          go_simp
          with_reducible rfl
        rotate_left
        · simp only [Act.put, List.setIfInBounds_toArray, List.set_cons_zero, List.set_cons_succ]
          rfl
        refine pure_ (i := 8) (N := some 45) (v := ?_) (a' := ?_) #[true, true, true, true, true, true, true, true, true, false, false, false, false, false, false, false, false] rfl rfl (by kernel_rfl) (fun _ _ _ h => h) (Or.inl ⟨by rfl, ?_⟩) ?_ ?_
        rotate_left
        · intro w'
          go_simp
          with_reducible rfl
        rotate_left
        · simp only [Act.put, List.setIfInBounds_toArray, List.set_cons_zero, List.set_cons_succ]
          rfl
        refine pure_ (i := 9) (N := some 46) (v := ?_) (a' := ?_) #[true, true, true, true, true, true, true, true, true, true, false, false, false, false, false, false, false] rfl rfl (by kernel_rfl) (fun _ _ _ h => h) (Or.inl ⟨by rfl, ?_⟩) ?_ ?_
        rotate_left
        · intro w'
          go_simp
          with_reducible rfl
        rotate_left
        · simp only [Act.put, List.setIfInBounds_toArray, List.set_cons_zero, List.set_cons_succ]
          rfl
        refine take_ (i := 10) (N := some 47) (v := ?_) (a' := ?_) #[true, true, true, true, true, true, true, true, true, true, true, false, false, false, false, false, false] rfl rfl (by kernel_rfl) (fun _ _ _ h => h) (Or.inl ⟨by rfl, ?_⟩) hHeld ?_ ?_
        rotate_left
        · rintro w' ⟨h0, h1, h2⟩
          go_simp
          with_reducible rfl
        rotate_left
        · simp only [Act.put, List.setIfInBounds_toArray, List.set_cons_zero, List.set_cons_succ]
          rfl
        refine pure_ (i := 11) (N := some 48) (v := ?_) (a' := ?_) #[true, true, true, true, true, true, true, true, true, true, true, true, false, false, false, false, false] rfl rfl (by kernel_rfl) (fun _ _ _ h => h) (Or.inl ⟨by rfl, ?_⟩) ?_ ?_
        rotate_left
        · intro w'
          go_simp
          with_reducible rfl
        rotate_left
        · simp only [Act.put, List.setIfInBounds_toArray, List.set_cons_zero, List.set_cons_succ]
          rfl
        refine one_ (i := 12) (N := some 49) #[true, true, true, true, true, true, true, true, true, true, true, true, true, false, false, false, false] rfl rfl (by kernel_rfl) (by simp) (fun K hK => ?_)
        refine value_ (v := .slice (some ⟨U.heap.size, 0, none⟩) 1 1) (w1 := U.alloc (.cells #[.string ⟨a.toArray⟩, .string ⟨b.toArray⟩] 52)) rfl rfl (by go_simp) ?_
        refine hK.out _ _ ⟨(World.cell?_alloc_past _ _ _ eG).trans hHeld.1, (World.cell?_alloc_past _ _ _ eB).trans hHeld.2.1, (World.cell?_alloc_past _ _ _ eB).trans hHeld.2.2⟩ (fun hHeld => ?_)
        refine one_ (i := 13) (N := some 50) #[true, true, true, true, true, true, true, true, true, true, true, true, true, true, false, false, false] rfl rfl (by kernel_rfl) (by simp) (fun K hK => ?_)
        refine step_append_lies (U.alloc (.cells #[.string ⟨a.toArray⟩, .string ⟨b.toArray⟩] 52)) (by rfl) _ _ _ (by rfl) base 52 i0 _ 2 32 Tryz.underlying48 hi hz0 hz1 hz2 rfl (by omega) (.slice cx.2.2.A cx.1.methods.length cx.2.2.cap) cx.1.methods.length (mCells cx.1.methods) (by rfl) (LA.out.alloc _) ⟨U.heap.size, 0, none⟩ 1 1 [.string ⟨a.toArray⟩, .string ⟨b.toArray⟩] (by rfl) (by rfl) (World.news_of_block (cs := #[.string ⟨a.toArray⟩, .string ⟨b.toArray⟩]) (t := 52) (fr := (0, 0)) (heap_alloc_new U _)) (by simp [Value.oneCell']) (by omega) (by unfold maxLen; omega) (by omega) (by simp; omega) (U.heap.size + 1) (by simp) ?_
        intro gg cap w3 hown3 hgrow hat hlt3
        have KO := Lib.hid hown3
        have KG := Lib.hid hgrow
        have KA := Lib.hid hat
        have gc3 : w3.heap[gc]? = some (.cells cur 50 (0, 0)) := (hgrow.block _ (by simp; omega) (own_ne LA.out HC.out (by decide))).trans ((heap_alloc_old _ _ eG).trans HC.out)
        have row3 : w3.heap[w.heap.size]? = some (.cells (strs [a, b]).toArray 9 (0, 0)) := (hgrow.block _ (by simp; omega) (own_ne LA.out ROW.out (by decide))).trans ((heap_alloc_old _ _ eB).trans ROW.out)
        have u0 : w3.cell? ⟨gc, pre.length * 3 + 2, none⟩ = some (.slice cx.2.2.A cx.1.methods.length cx.2.2.cap) := cellB gc3 _ (HCC.out _ _ (cCells_at pre cx 2 _ rfl))
        have u1 : w3.cell? ⟨w.heap.size, 0, none⟩ = some (.string ⟨a.toArray⟩) := cellB row3 0 rfl
        have u2 : w3.cell? ⟨w.heap.size, 1, none⟩ = some (.string ⟨b.toArray⟩) := cellB row3 1 rfl
        have v0 := frozenB gc3 (pre.length * 3 + 2)
        have GC3 := Lib.hid gc3
        clear hown3 hgrow hat row3 gc3
        change K (Act.put _ (some 50) _) w3
        refine hK.out _ _ ⟨u0, u1, u2⟩ (fun hHeld => ?_)
        refine pure_ (i := 14) (N := some 51) (v := ?_) (a' := ?_) #[true, true, true, true, true, true, true, true, true, true, true, true, true, true, true, false, false] rfl rfl (by kernel_rfl) (fun _ _ _ h => h) (Or.inl ⟨by rfl, ?_⟩) ?_ ?_
        rotate_left
        · intro w'
          go_simp
          with_reducible rfl
        rotate_left
        · simp only [Act.put, List.setIfInBounds_toArray, List.set_cons_zero, List.set_cons_succ]
          rfl
        refine pure_ (i := 15) (N := some 52) (v := ?_) (a' := ?_) #[true, true, true, true, true, true, true, true, true, true, true, true, true, true, true, true, false] rfl rfl (by kernel_rfl) (fun _ _ _ h => h) (Or.inl ⟨by rfl, ?_⟩) ?_ ?_
        rotate_left
        · intro w'
          go_simp
          with_reducible rfl
        rotate_left
        · simp only [Act.put, List.setIfInBounds_toArray, List.set_cons_zero, List.set_cons_succ]
          rfl
        refine last_ (i := 16) (N := none) #[true, true, true, true, true, true, true, true, true, true, true, true, true, true, true, true, true] rfl rfl (by kernel_rfl) (by simp) (fun K hK => ?_)
        refine skip_ (w1 := w3.setCell ⟨gc, pre.length * 3 + 2, none⟩ (.slice (some ⟨gg, 0, none⟩) (cx.1.methods.length + 1) cap)) rfl rfl (by go_simp) ?_
        refine hK.out _ _ ?_
        refine done_ (by kernel_rfl) ?_
        go_wp2_with fail
        go_end0
        refine ⟨?_, ?_, ?_⟩
        · exact ((BW.out.alloc zW _).grown KG.out (by simp; omega) (own_base LA.out)).setCell hgb _
        · exact (KW.out.trans (TKeep.alloc _ _ _)).trans (((TKeep.grown (T := [52]) (LA.out.alloc _) KG.out (by simp)).wide (by simp [T5])).trans ((TKeep.set (T := [50]) GC3.out (by simp)).wide (by simp [T5])))
        · rw [HS.out]
          have KA' : (cx.2.2.v cx.1.methods.length).ownBlock = some gg ∨ (U.alloc (.cells #[.string ⟨a.toArray⟩, .string ⟨b.toArray⟩] 52)).heap.size ≤ gg := by
            rcases KA.out with h | h
            · exact .inl h
            · exact .inr (by rw [h]; simp)
          exact ⟨rfl, _, _, _, _, (IW.out.keep (TKeep.below ((Below.refl _ _).alloc (Nat.le_refl _) _))).add_method rfl (LA.out.alloc _) HD.out KO.out KG.out KA' HA.out⟩
      · have HS : Hid (methodS ⟨⟨cs, fs⟩, ins, true⟩ s = .error 2) := by
          refine Lib.hid ?_
          unfold methodS
          rw [if_neg (by simp), if_neg (by rw [HN.out]; simp), HLL.out]
          simp only [hgl]
          rw [if_neg (by omega)]
        have h8' : decide ((cx.1.methods.length : Int) < 8) = false := decide_eq_false h8
        have h8'' : (8 : Int) ≤ (cx.1.methods.length : Int) := by omega
        clear h8
        go_enter Tryz.func113, Tryz.ntmps113
        go_wp2_with fail
        refine (need_ok _ _).mono ?_
        rintro e w' ⟨rfl, rfl⟩
        go_wp2_with fail
        refine (names_ok s _ HL.out hs HN.out).mono ?_
        rw [HLL.out]
        rintro e W ⟨rfl, hW⟩
        have kW : TKeep [] w W := TKeep.below (by rw [hW]; exact (Below.refl _ _).alloc (Nat.le_refl _) _)
        have IW : InvX base r W ⟨⟨cs, fs⟩, ins, true⟩ (pre ++ [cx]) ys sc sf := IH.out.keep kW
        have LA := kW.own (by simp) HLA.out
        have rdW : W.heap[r]? = some (.cells #[sc.v (pre.length + 1), sf.v ys.length, .bool ins, .bool true] 97 (0, 0)) := by rw [IW.rd, hn0]
        have rowW : W.heap[w.heap.size]? = some (.cells (strs [a, b]).toArray 9 (0, 0)) := by rw [hW]; exact heap_new _ _
        have BW : Below base w W := by rw [hW]; exact (Below.refl _ _).alloc hbw _
        have zW : base ≤ W.heap.size := Nat.le_trans hbw BW.size
        have KW : Hid (TKeep T5 w W) := Lib.hid kW.mono
        obtain ⟨gc, cur, hA, hcur, hgb, hmx, hcell⟩ := own_block (by rw [← hn0]; exact IW.oc) (by omega : 0 < pre.length + 1)
        have cq : W.cell? ⟨gc, pre.length * 3 + 2, none⟩ = some (.slice cx.2.2.A cx.1.methods.length cx.2.2.cap) := cellB hcur _ (hcell _ _ (cCells_at pre cx 2 _ rfl))
        have fq := frozenB hcur (pre.length * 3 + 2)
        have hwr : IntKind.i64.wrap (pre.length : Int) = (pre.length : Int) := IntWalk.i64_in _ (by unfold maxLen at hmx; omega)
        have hp0 : (0 : Int) ≤ (pre.length : Int) := by omega
        have hp1 : (pre.length : Int) < (pre.length : Int) + 1 := by omega
        have HA := Lib.hid hA
        have HC := Lib.hid hcur
        have HCC := Lib.hid hcell
        have IW := Lib.hid IW
        have LA := Lib.hid LA
        have ROW := Lib.hid rowW
        have BW := Lib.hid BW
        clear hW kW hcur hcell c0 c1 c2 c3 f0 f1 f2 f3
        have c0 : W.cell? ⟨r, 0, none⟩ = some (.slice (some ⟨gc, 0, none⟩) (pre.length + 1) sc.cap) := cellB rdW 0 (by simp [Sl.v, hA])
        have c1 : W.cell? ⟨r, 1, none⟩ = some (.slice sf.A ys.length sf.cap) := cellB rdW 1 rfl
        have c2 : W.cell? ⟨r, 2, none⟩ = some (.bool ins) := cellB rdW 2 rfl
        have c3 : W.cell? ⟨r, 3, none⟩ = some (.bool true) := cellB rdW 3 rfl
        have f0 := frozenB rdW 0
        have f1 := frozenB rdW 1
        have f2 := frozenB rdW 2
        have f3 := frozenB rdW 3
        clear rdW rowW
        go_wp2_with fail
        refine (need_ok _ _).mono ?_
        rintro e w' ⟨rfl, rfl⟩
        go_wp2_with fail
        refine start_ (n := 14) (S := fun w' => w'.cell? ⟨r, 0, none⟩ = some (.slice (some ⟨gc, 0, none⟩) (pre.length + 1) sc.cap)) (ds := []) #[false, false, false, false, false, false, false, false, false, false, false, false, false, false] (by kernel_rfl) rfl rfl (by first | assumption | exact ⟨by assumption, by assumption⟩ | exact ⟨by assumption, by assumption, by assumption⟩) (fun hHeld => ?_)
        have hq : W.drew.heap = W.heap := rfl
        have bq : Below base W W.drew := (Below.refl _ _).drew
        generalize W.drew = V at hHeld hq bq ⊢
        have kV : TKeep [] W V := fun g cs t hg _ => by rw [hq]
        have IW : Hid (InvX base r V ⟨⟨cs, fs⟩, ins, true⟩ (pre ++ [cx]) ys sc sf) := Lib.hid (IW.out.keep kV)
        have LA := Lib.hid (kV.own (by simp) LA.out)
        have ROW : Hid (V.heap[w.heap.size]? = some (.cells (strs [a, b]).toArray 9 (0, 0))) := Lib.hid (by rw [hq]; exact ROW.out)
        have HC : Hid (V.heap[gc]? = some (.cells cur 50 (0, 0))) := Lib.hid (by rw [hq]; exact HC.out)
        have BW : Hid (Below base w V) := Lib.hid (BW.out.trans bq)
        have KW : Hid (TKeep T5 w V) := Lib.hid (KW.out.trans kV.mono)
        have zW : base ≤ V.heap.size := by rw [hq]; exact zW
        have cq : V.cell? ⟨gc, pre.length * 3 + 2, none⟩ = some (.slice cx.2.2.A cx.1.methods.length cx.2.2.cap) := cellB HC.out _ (HCC.out _ _ (cCells_at pre cx 2 _ rfl))
        have fq := frozenB HC.out (pre.length * 3 + 2)
        have d0 : V.cell? ⟨w.heap.size, 0, none⟩ = some (.string ⟨a.toArray⟩) := cellB ROW.out 0 rfl
        have d1 : V.cell? ⟨w.heap.size, 1, none⟩ = some (.string ⟨b.toArray⟩) := cellB ROW.out 1 rfl
        clear hq bq kV
        refine pure_ (i := 0) (N := some 17) (v := ?_) (a' := ?_) #[true, false, false, false, false, false, false, false, false, false, false, false, false, false] rfl rfl (by kernel_rfl) (fun _ _ _ h => h) (Or.inl ⟨by rfl, ?_⟩) ?_ ?_
        rotate_left
        · intro w'
          go_simp
          with_reducible rfl
        rotate_left
        · simp only [Act.put, List.setIfInBounds_toArray, List.set_cons_zero, List.set_cons_succ]
          rfl
        refine pure_ (i := 1) (N := some 18) (v := ?_) (a' := ?_) #[true, true, false, false, false, false, false, false, false, false, false, false, false, false] rfl rfl (by kernel_rfl) (fun _ _ _ h => h) (Or.inl ⟨by rfl, ?_⟩) ?_ ?_
        rotate_left
        · intro w'
          go_simp
          with_reducible rfl
        rotate_left
        · simp only [Act.put, List.setIfInBounds_toArray, List.set_cons_zero, List.set_cons_succ]
          rfl
        refine pure_ (i := 2) (N := some 19) (v := ?_) (a' := ?_) #[true, true, true, false, false, false, false, false, false, false, false, false, false, false] rfl rfl (by kernel_rfl) (fun _ _ _ h => h) (Or.inl ⟨by rfl, ?_⟩) ?_ ?_
        rotate_left
        · intro w'
          go_simp
          with_reducible rfl
        rotate_left
        · simp only [Act.put, List.setIfInBounds_toArray, List.set_cons_zero, List.set_cons_succ]
          rfl
        refine pure_ (i := 3) (N := some 20) (v := ?_) (a' := ?_) #[true, true, true, true, false, false, false, false, false, false, false, false, false, false] rfl rfl (by kernel_rfl) (fun _ _ _ h => h) (Or.inl ⟨by rfl, ?_⟩) ?_ ?_
        rotate_left
        · intro w'
          go_simp
          with_reducible rfl
        rotate_left
        · simp only [Act.put, List.setIfInBounds_toArray, List.set_cons_zero, List.set_cons_succ]
          rfl
        refine take_ (i := 4) (N := some 21) (v := ?_) (a' := ?_) #[true, true, true, true, true, false, false, false, false, false, false, false, false, false] rfl rfl (by kernel_rfl) (fun _ _ _ h => h) (Or.inl ⟨by rfl, ?_⟩) hHeld ?_ ?_
        rotate_left
        · rintro w' h0
          go_simp
          with_reducible rfl
        rotate_left
        · simp only [Act.put, List.setIfInBounds_toArray, List.set_cons_zero, List.set_cons_succ]
          rfl
        refine pure_ (i := 5) (N := some 22) (v := ?_) (a' := ?_) #[true, true, true, true, true, true, false, false, false, false, false, false, false, false] rfl rfl (by kernel_rfl) (fun _ _ _ h => h) (Or.inl ⟨by rfl, ?_⟩) ?_ ?_
        rotate_left
        · intro w'
          go_simp
          with_reducible rfl
        rotate_left
        · simp only [Act.put, List.setIfInBounds_toArray, List.set_cons_zero, List.set_cons_succ]
          rfl
        refine pure_ (i := 6) (N := some 23) (v := ?_) (a' := ?_) #[true, true, true, true, true, true, true, false, false, false, false, false, false, false] rfl rfl (by kernel_rfl) (fun _ _ _ h => h) (Or.inl ⟨by rfl, ?_⟩) ?_ ?_
        rotate_left
        · intro w'
          go_simp
          with_reducible rfl
        rotate_left
        · simp only [Act.put, List.setIfInBounds_toArray, List.set_cons_zero, List.set_cons_succ]
          rfl
        refine pure_ (i := 7) (N := some 24) (v := ?_) (a' := ?_) #[true, true, true, true, true, true, true, true, false, false, false, false, false, false] rfl rfl (by kernel_rfl) (fun _ _ _ h => h) (Or.inl ⟨by rfl, ?_⟩) ?_ ?_
        rotate_left
        · intro w'
          go_simp
          with_reducible rfl
        rotate_left
        · simp only [Act.put, List.setIfInBounds_toArray, List.set_cons_zero, List.set_cons_succ]
          rfl
        refine pure_ (i := 8) (N := some 25) (v := ?_) (a' := ?_) #[true, true, true, true, true, true, true, true, true, false, false, false, false, false] rfl rfl (by kernel_rfl) (fun _ _ _ h => h) (Or.inl ⟨by rfl, ?_⟩) ?_ ?_
        rotate_left
        · intro w'
          go_simp
          with_reducible rfl
        rotate_left
        · simp only [Act.put, List.setIfInBounds_toArray, List.set_cons_zero, List.set_cons_succ]
          rfl
        refine take_ (i := 9) (N := some 26) (v := ?_) (a' := ?_) #[true, true, true, true, true, true, true, true, true, true, false, false, false, false] rfl rfl (by kernel_rfl) (fun _ _ _ h => h) (Or.inl ⟨by rfl, ?_⟩) hHeld ?_ ?_
        rotate_left
        · rintro w' h0
          go_simp
          with_reducible rfl
        rotate_left
        · simp only [Act.put, List.setIfInBounds_toArray, List.set_cons_zero, List.set_cons_succ]
          rfl
        refine pure_ (i := 10) (N := some 27) (v := ?_) (a' := ?_) #[true, true, true, true, true, true, true, true, true, true, true, false, false, false] rfl rfl (by kernel_rfl) (fun _ _ _ h => h) (Or.inl ⟨by rfl, ?_⟩) ?_ ?_
        rotate_left
        · intro w'
          go_simp
          with_reducible rfl
        rotate_left
        · simp only [Act.put, List.setIfInBounds_toArray, List.set_cons_zero, List.set_cons_succ]
          rfl
        refine pure_ (i := 11) (N := some 28) (v := ?_) (a' := ?_) #[true, true, true, true, true, true, true, true, true, true, true, true, false, false] rfl rfl (by kernel_rfl) (fun _ _ _ h => h) (Or.inl ⟨by rfl, ?_⟩) ?_ ?_
        rotate_left
        · intro w'
          go_simp
          with_reducible rfl
        rotate_left
        · simp only [Act.put, List.setIfInBounds_toArray, List.set_cons_zero, List.set_cons_succ]
          rfl
        refine pure_ (i := 12) (N := some 29) (v := ?_) (a' := ?_) #[true, true, true, true, true, true, true, true, true, true, true, true, true, false] rfl rfl (by kernel_rfl) (fun _ _ _ h => h) (Or.inl ⟨by rfl, ?_⟩) ?_ ?_
        rotate_left
        · intro w'
          go_simp
          with_reducible rfl
        rotate_left
        · simp only [Act.put, List.setIfInBounds_toArray, List.set_cons_zero, List.set_cons_succ]
          rfl
        refine pure_ (i := 13) (N := some 5) (v := ?_) (a' := ?_) #[true, true, true, true, true, true, true, true, true, true, true, true, true, true] rfl rfl (by kernel_rfl) (fun _ _ _ h => h) (Or.inl ⟨by rfl, ?_⟩) ?_ ?_
        rotate_left
        · intro w'
          go_simp
          with_reducible rfl
        rotate_left
        · simp only [Act.put, List.setIfInBounds_toArray, List.set_cons_zero, List.set_cons_succ]
          rfl
        refine done_ (by kernel_rfl) ?_
        go_wp2_with (go_at_call 87; refine (need_no _ _).mono ?_; rintro e w' ⟨rfl, rfl⟩)
        refine ⟨rfl, BW.out, KW.out, ?_⟩
        rw [HS.out]
end Go.Proofs.YtdkcdodkhghfhaaGreatDoor
