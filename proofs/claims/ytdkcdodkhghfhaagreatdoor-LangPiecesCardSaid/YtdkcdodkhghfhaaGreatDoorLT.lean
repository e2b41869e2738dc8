/- The walk of lang.Line. -/
import Derived.Test.YtdkcdodkhghfhaaGreatDoorBK
import Derived.Lib.ItoaLen
namespace Go.Proofs.YtdkcdodkhghfhaaGreatDoor
open Go.WideMaps Go.RowKit Go.Maps Go.Proofs.YtdkcdodkhghfhaaGreatDoorW.PrintLast Go.Proofs.YtdkcdodkhghfhaaGreatDoorW.PrintWords

/-- A step of writing a line: what is written, is it right, what is not yet written. -/
def stepT (l : Ln) (c : UInt8) (x : Str × Bool × Ln) : Str × Bool × Ln :=
  if c = 65 then (x.1 ++ x.2.2.a, x.2.1 && nameS x.2.2.a, { x.2.2 with a := [] })
  else if c = 66 then (x.1 ++ x.2.2.b, x.2.1 && nameS x.2.2.b, { x.2.2 with b := [] })
  else if c = 67 then (x.1 ++ x.2.2.c, x.2.1 && nameS x.2.2.c, { x.2.2 with c := [] })
  else if c = 78 then (x.1 ++ x.2.2.nm, x.2.1 && nameS x.2.2.nm, { x.2.2 with nm := [] })
  else if c = 76 then (x.1 ++ (litS l.cv).1, x.2.1 && (litS l.cv).2, { x.2.2 with cv := Val.zero })
  else if c = 73 then (x.1 ++ (litS l.cv).1, x.2.1 && (litS l.cv).2 && decide (l.cv.k = 3), { x.2.2 with cv := Val.zero })
  else if c = 126 then (x.1 ++ l.args.flatMap (fun a => 32 :: a), x.2.1 && l.args.all nameS && decide (l.args.length ≤ 8), { x.2.2 with args := [] })
  else (x.1 ++ [c], x.2.1, x.2.2)
def foldT (l : Ln) (f : Str) : Str × Bool × Ln := f.foldl (fun x c => stepT l c x) ([], (formS l.op).isSome, l)
/-- The text of a line; nothing, where it is not right. -/
def lineT (l : Ln) : Str :=
  let x := foldT l ((formS l.op).getD [])
  if x.2.1 = true ∧ x.2.2.a = [] ∧ x.2.2.b = [] ∧ x.2.2.c = [] ∧ x.2.2.nm = [] ∧ x.2.2.args = [] ∧ x.2.2.cv = Val.zero then x.1 else []
/-- A line's strings are not long. -/
structure Small (l : Ln) : Prop where
  a : l.a.length ≤ 10000000
  b : l.b.length ≤ 10000000
  c : l.c.length ≤ 10000000
  nm : l.nm.length ≤ 10000000
  s : l.cv.s.length ≤ 10000000
  n : I64 l.cv.n
  args : (l.args.flatMap (fun a => (32 : UInt8) :: a)).length ≤ 10000000
theorem litS_length (x : Val) (hs : x.s.length ≤ 10000000) (hn : I64 x.n) : (litS x).1.length ≤ 30000000 := by
  unfold litS
  split
  · simp
  · split
    · simp
    · split
      · simp
      · split
        · have := Lib.itoa_length_le x.n hn.1 hn.2
          simp only; omega
        · have := subst1_length 39 [39, 39] (by simp) x.s
          simp only [quoS, List.length_cons, List.length_append, List.length_nil]
          omega
/-- What holds at the head of a round of Line's. -/
def TRel (l : Ln) (A : Option Addr) (cp : Nat) (w : World) (k : Nat) (x : Str × Bool × Ln) (wr : World) : Prop :=
  wr.heap[w.heap.size]? = some (.cells (l.cells (.slice A l.args.length cp)) 40 (0, 0)) ∧ Bld w.heap.size (w.heap.size + 1) x.1 wr ∧
    (∃ A2 cp2, wr.heap[w.heap.size + 1 + 1]? = some (.cells (x.2.2.cells (.slice A2 x.2.2.args.length cp2)) 40 (0, 0))) ∧ RdB wr 9 A (strs l.args) ∧ Below w.heap.size w wr ∧ x.1.length ≤ k * 40000000 ∧ (x.2.2.a.length ≤ 10000000 ∧ x.2.2.b.length ≤ 10000000 ∧ x.2.2.c.length ≤ 10000000 ∧ x.2.2.nm.length ≤ 10000000)
theorem TRel.below {l : Ln} {A : Option Addr} {cp : Nat} {w : World} {k : Nat} {x : Str × Bool × Ln} {a b : World} (h : TRel l A cp w k x a) (hb : Below a.heap.size a b) : TRel l A cp w k x b := by
  obtain ⟨h1, h2, ⟨A2, cp2, h3⟩, h4, h5, h6⟩ := h
  exact ⟨(hb.block _ (sizeB h1)).trans h1, h2.below hb, ⟨A2, cp2, (hb.block _ (sizeB h3)).trans h3⟩, h4.below hb, h5.trans (hb.mono h5.size), h6⟩
theorem run_zero9 (W : World) : (zeroValue 9).run Tryz.prog W = .ok (.string ⟨#[]⟩) W := by
  have h : Tryz.t9.zero = some (.string ⟨#[]⟩) := by kernel_rfl
  simp [zeroValue, go_sem, h, Result.andThen]
theorem zero_reads : plainElem Tryz.prog 9 (.string ⟨#[]⟩) = some ((.lit (.string []) : DataW Unit), []) := by
  unfold plainElem
  rw [Tryz.underlying9]
  rfl
theorem literal_calls' (x : Val) (w : World) (L : LW w) (hn : I64 x.n) (hs : x.s.length < 100000000) :
    Calls Tryz.prog 55 #[.agg #[.int .i64 x.k, .int .i64 x.n, .string ⟨x.s.toArray⟩]] w fun e w' => e = .returned (.tuple #[.string ⟨(litS x).1.toArray⟩, .bool (litS x).2]) ∧ Below w.heap.size w w' := literal_calls x w L hn hs
/-- What holds at the head of a round over the arguments. -/
def URel (l : Ln) (A : Option Addr) (cp : Nat) (w : World) (y : Ln) (A2 : Option Addr) (cp2 : Nat) (acc : Str) (wr : World) : Prop :=
  wr.heap[w.heap.size]? = some (.cells (l.cells (.slice A l.args.length cp)) 40 (0, 0)) ∧ Bld w.heap.size (w.heap.size + 1) acc wr ∧ wr.heap[w.heap.size + 1 + 1]? = some (.cells (y.cells (.slice A2 y.args.length cp2)) 40 (0, 0)) ∧
    RdB wr 9 A (strs l.args) ∧ Below w.heap.size w wr
theorem flat_args (l : List Str) : l.length ≤ (l.flatMap (fun a => (32 : UInt8) :: a)).length ∧ (∀ a ∈ l, a.length ≤ (l.flatMap (fun a => (32 : UInt8) :: a)).length) ∧ ∀ j, ((l.take j).flatMap (fun a => (32 : UInt8) :: a)).length ≤ (l.flatMap (fun a => (32 : UInt8) :: a)).length := by
  refine ⟨?_, ?_, ?_⟩
  · induction l with
    | nil => simp
    | cons x l ih => simp only [List.flatMap_cons, List.length_append, List.length_cons]; omega
  · induction l with
    | nil => simp
    | cons x l ih =>
      intro a ha
      simp only [List.flatMap_cons, List.length_append, List.length_cons]
      rcases List.mem_cons.1 ha with rfl | ha
      · omega
      · have := ih a ha; omega
  · induction l with
    | nil => simp
    | cons x l ih =>
      intro j
      cases j with
      | zero => simp
      | succ j =>
        have := ih j
        simp only [List.take_succ_cons, List.flatMap_cons, List.length_append, List.length_cons]
        omega
theorem toList_loop_length (bs : ByteArray) : ∀ (n i : Nat) (r : List UInt8), bs.size - i = n → (ByteArray.toList.loop bs i r).length = n + r.length
  | 0, i, r, h => by
    rw [ByteArray.toList.loop.eq_def, if_neg (by omega)]
    simp
  | n + 1, i, r, h => by
    rw [ByteArray.toList.loop.eq_def, if_pos (by omega), toList_loop_length bs n (i + 1) _ (by omega)]
    simp
    omega
theorem toList_len (bs : ByteArray) : bs.toList.length = bs.size := by
  rw [ByteArray.toList.eq_1, toList_loop_length bs bs.size 0 [] (by omega)]
  simp
theorem cat_nil (a b c d : Str) : ((⟨a.toArray⟩ : ByteArray) ++ ⟨b.toArray⟩ ++ ⟨c.toArray⟩ ++ ⟨d.toArray⟩).toList = [] ↔ (a = [] ∧ b = [] ∧ c = [] ∧ d = []) := by
  rw [← List.length_eq_zero_iff, toList_len]
  simp only [ByteArray.size_append]
  show a.length + b.length + c.length + d.length = 0 ↔ _
  rw [← List.length_eq_zero_iff (l := a), ← List.length_eq_zero_iff (l := b), ← List.length_eq_zero_iff (l := c), ← List.length_eq_zero_iff (l := d)]
  omega
theorem form_short (op : Int) : ((formS op).getD []).length < 1000 := by
  cases h : formS op with
  | none => simp
  | some f => exact forms_short h

set_option maxHeartbeats 8000000 in
set_option maxRecDepth 100000 in
theorem Line_calls (l : Ln) (A : Option Addr) (cp : Nat) (w : World) (L : LW w) (hA : RdB w 9 A (strs l.args)) (hl : Small l) (hop : (Lit.int IntKind.i64 l.op).wf = true) :
    Calls Tryz.prog 20 #[.agg #[.int .i64 l.op, .string ⟨(l.a).toArray⟩, .string ⟨(l.b).toArray⟩, .string ⟨(l.c).toArray⟩, .string ⟨(l.nm).toArray⟩, .slice A l.args.length cp, .int .i64 l.cv.k, .int .i64 l.cv.n, .string ⟨(l.cv.s).toArray⟩]] w fun e w' => e = .returned (.string ⟨(lineT l).toArray⟩) ∧ Below w.heap.size w w' := by
  have HL := Lib.hid L
  have HA := Lib.hid hA
  have HS := Lib.hid hl
  have hB : 8 ≤ w.heap.size := L.big
  have hfl := form_short l.op
  clear L hA hl
  have hkey : keyOf Tryz.prog 3 (.int .i64 l.op) = some (.int .i64 l.op) := keyOf_int_mk Tryz.underlying3 hop
  have hzr := run_zero9
  have t0 : TRel l A cp w 0 ([], (formS l.op).isSome, l) (((w.alloc (.cells #[.int .i64 l.op, .string ⟨(l.a).toArray⟩, .string ⟨(l.b).toArray⟩, .string ⟨(l.c).toArray⟩, .string ⟨(l.nm).toArray⟩, .slice A l.args.length cp, .int .i64 l.cv.k, .int .i64 l.cv.n, .string ⟨(l.cv.s).toArray⟩] 40)).alloc (.cells #[.pointer none, .slice none 0 0] 86)).alloc (.cells #[.int .i64 l.op, .string ⟨(l.a).toArray⟩, .string ⟨(l.b).toArray⟩, .string ⟨(l.c).toArray⟩, .string ⟨(l.nm).toArray⟩, .slice A l.args.length cp, .int .i64 l.cv.k, .int .i64 l.cv.n, .string ⟨(l.cv.s).toArray⟩] 40)) := by
    refine ⟨(heap_alloc_old _ _ (by simp; omega)).trans ((heap_alloc_old _ _ (by simp)).trans (heap_new _ _)), ?_, ⟨A, cp, heap_new' _ _ _ (by simp)⟩, ?_, (((Below.refl _ _).alloc (Nat.le_refl _) _).alloc (by simp) _).alloc (by simp; omega) _, by simp, HS.out.a, HS.out.b, HS.out.c, HS.out.nm⟩
    · have h := (Bld.new (w.alloc (.cells #[.int .i64 l.op, .string ⟨(l.a).toArray⟩, .string ⟨(l.b).toArray⟩, .string ⟨(l.c).toArray⟩, .string ⟨(l.nm).toArray⟩, .slice A l.args.length cp, .int .i64 l.cv.k, .int .i64 l.cv.n, .string ⟨(l.cv.s).toArray⟩] 40)) _ w.heap.size (by simp) rfl).below ((Below.refl _ _).alloc (Nat.le_refl _) (.cells #[.int .i64 l.op, .string ⟨(l.a).toArray⟩, .string ⟨(l.b).toArray⟩, .string ⟨(l.c).toArray⟩, .string ⟨(l.nm).toArray⟩, .slice A l.args.length cp, .int .i64 l.cv.k, .int .i64 l.cv.n, .string ⟨(l.cv.s).toArray⟩] 40))
      simpa using h
    · exact HA.out.below ((((Below.refl _ _).alloc (Nat.le_refl _) _).alloc (by simp) _).alloc (by simp; omega) _)
  go_enter Tryz.func20, Tryz.ntmps20
  go_wp2_with fail
  generalize (((w.alloc (.cells #[.int .i64 l.op, .string ⟨(l.a).toArray⟩, .string ⟨(l.b).toArray⟩, .string ⟨(l.c).toArray⟩, .string ⟨(l.nm).toArray⟩, .slice A l.args.length cp, .int .i64 l.cv.k, .int .i64 l.cv.n, .string ⟨(l.cv.s).toArray⟩] 40)).alloc (.cells #[.pointer none, .slice none 0 0] 86)).alloc (.cells #[.int .i64 l.op, .string ⟨(l.a).toArray⟩, .string ⟨(l.b).toArray⟩, .string ⟨(l.c).toArray⟩, .string ⟨(l.nm).toArray⟩, .slice A l.args.length cp, .int .i64 l.cv.k, .int .i64 l.cv.n, .string ⟨(l.cv.s).toArray⟩] 40)) = W at t0 ⊢
  have op0 : W.cell? ⟨w.heap.size, 0, none⟩ = some (.int .i64 l.op) := cellB t0.1 0 rfl
  refine start_ (n := 9) (S := fun w' => w'.cell? ⟨w.heap.size, 0, none⟩ = some (.int .i64 l.op)) (ds := []) #[false, false, false, false, false, false, false, false, false] (by kernel_rfl) rfl rfl (by first | assumption | exact ⟨by assumption, by assumption⟩ | exact ⟨by assumption, by assumption, by assumption⟩) (fun hHeld => ?_)
  have t0 : TRel l A cp w 0 ([], (formS l.op).isSome, l) W.drew := t0.below ⟨rfl, rfl, rfl, Nat.le_refl _, fun _ _ => rfl⟩
  clear op0
  generalize W.drew = X at hHeld t0 ⊢
  refine pure_ (i := 1) (N := some 18) (v := ?_) (a' := ?_) #[false, true, false, false, false, false, false, false, false] rfl rfl (by kernel_rfl) (fun _ _ _ h => h) (Or.inl ⟨by rfl, ?_⟩) ?_ ?_
  rotate_left
  · intro w'
    go_simp
    with_reducible rfl
  rotate_left
  · simp only [Act.put, List.setIfInBounds_toArray, List.set_cons_zero, List.set_cons_succ]
    rfl
  refine take_ (i := 2) (N := some 19) (v := ?_) (a' := ?_) #[false, true, true, false, false, false, false, false, false] rfl rfl (by kernel_rfl) (fun _ _ _ h => h) (Or.inl ⟨by rfl, ?_⟩) hHeld ?_ ?_
  rotate_left
  · rintro w' h0
    go_simp
    with_reducible rfl
  rotate_left
  · simp only [Act.put, List.setIfInBounds_toArray, List.set_cons_zero, List.set_cons_succ]
    rfl
  refine one_ (i := 0) (N := some 17) #[true, true, true, false, false, false, false, false, false] rfl rfl (by kernel_rfl) (by simp) (fun K hK => ?_)
  refine goes_ Tryz.func53 (by kernel_rfl) rfl #[] rfl rfl rfl (by simp) ?_
  refine (forms_calls X).mono ?_
  rintro e V ⟨rfl, hown, hbV⟩
  have tV : TRel l A cp w 0 ([], (formS l.op).isSome, l) V := t0.below hbV
  have opV : V.cell? ⟨w.heap.size, 0, none⟩ = some (.int .i64 l.op) := cellB tV.1 0 rfl
  obtain ⟨v, ps, hrun, hv⟩ := hown.look_ok (int_keyed Tryz.underlying3) Tryz.underlying103 (hzr V) (zd := .lit (.string [])) (zp := []) zero_reads hkey
  rw [(formsD_at l.op (.lit (.string []))).2] at hrun
  obtain ⟨f, rfl, hf, _⟩ := plainElem_string_inv Tryz.underlying9 hv
  refine ⟨_, rfl, ?_⟩
  refine hK.out _ _ opV (fun hHeld => ?_)
  refine one_ (i := 3) (N := some 20) #[true, true, true, true, false, false, false, false, false] rfl rfl (by kernel_rfl) (by simp) (fun K hK => ?_)
  refine value_ (v := .tuple #[.string f, .bool (formS l.op).isSome]) (w1 := V) rfl rfl (by go_simp) ?_
  refine hK.out _ _ opV (fun hHeld => ?_)
  refine pure_ (i := 4) (N := some 16) (v := ?_) (a' := ?_) #[true, true, true, true, true, false, false, false, false] rfl rfl (by kernel_rfl) (fun _ _ _ h => h) (Or.inl ⟨by rfl, ?_⟩) ?_ ?_
  rotate_left
  · intro w'
    go_simp
    with_reducible rfl
  rotate_left
  · simp only [Act.put, List.setIfInBounds_toArray, List.set_cons_zero, List.set_cons_succ]
    rfl
  refine pure_ (i := 5) (N := some 21) (v := ?_) (a' := ?_) #[true, true, true, true, true, true, false, false, false] rfl rfl (by kernel_rfl) (fun _ _ _ h => h) (Or.inl ⟨by rfl, ?_⟩) ?_ ?_
  rotate_left
  · intro w'
    go_simp
    with_reducible rfl
  rotate_left
  · simp only [Act.put, List.setIfInBounds_toArray, List.set_cons_zero, List.set_cons_succ]
    rfl
  refine pure_ (i := 6) (N := some 22) (v := ?_) (a' := ?_) #[true, true, true, true, true, true, true, false, false] rfl rfl (by kernel_rfl) (fun _ _ _ h => h) (Or.inl ⟨by rfl, ?_⟩) ?_ ?_
  rotate_left
  · intro w'
    go_simp
    with_reducible rfl
  rotate_left
  · simp only [Act.put, List.setIfInBounds_toArray, List.set_cons_zero, List.set_cons_succ]
    rfl
  refine pure_ (i := 7) (N := some 5) (v := ?_) (a' := ?_) #[true, true, true, true, true, true, true, true, false] rfl rfl (by kernel_rfl) (fun _ _ _ h => h) (Or.inl ⟨by rfl, ?_⟩) ?_ ?_
  rotate_left
  · intro w'
    go_simp
    with_reducible rfl
  rotate_left
  · simp only [Act.put, List.setIfInBounds_toArray, List.set_cons_zero, List.set_cons_succ]
    rfl
  refine pure_ (i := 8) (N := some 6) (v := ?_) (a' := ?_) #[true, true, true, true, true, true, true, true, true] rfl rfl (by kernel_rfl) (fun _ _ _ h => h) (Or.inl ⟨by rfl, ?_⟩) ?_ ?_
  rotate_left
  · intro w'
    go_simp
    with_reducible rfl
  rotate_left
  · simp only [Act.put, List.setIfInBounds_toArray, List.set_cons_zero, List.set_cons_succ]
    rfl
  refine done_ (by kernel_rfl) ?_
  have hfo : f = ⟨((formS l.op).getD []).toArray⟩ := by
    simp only [Prod.mk.injEq] at hf
    have h := hf.1
    rw [(formsD_at l.op _).1] at h
    cases ho : formS l.op with
    | none => rw [ho] at h; injection h with h; injection h with h; apply ByteArray.ext; apply Array.toList_inj.1; simpa using h.symm
    | some g => rw [ho] at h; injection h with h; injection h with h; apply ByteArray.ext; apply Array.toList_inj.1; simpa using h.symm
  subst hfo
  have TV := Lib.hid tV
  clear tV hrun hv hf hown hbV t0 hHeld hkey hzr opV
  generalize hform : (formS l.op).getD [] = form at *
  have HFO := Lib.hid hform
  clear hform
  go_wp2_with fail
  go_loopw [7, 26] (fun o i wr => ∃ k : Nat, k ≤ form.length ∧ i = .int .i64 k ∧ o = .bool (foldT l (form.take k)).2.1 ∧ TRel l A cp w k (foldT l (form.take k)) wr) (fun _ i _ => form.length - (intOf i).toNat)
  case atStart => exact ⟨0, Nat.zero_le _, rfl, rfl, TV.out⟩
  case round =>
    obtain ⟨k, hk, rfl, rfl, hT⟩ := hrel
    have hsucc : Hid (∀ h : k < form.length, ∀ c, (⟨form.toArray⟩ : ByteArray)[k]'h = c → foldT l (form.take (k + 1)) = stepT l c (foldT l (form.take k))) := Lib.hid (fun h c hc => by
      have : form[k] = c := hc
      unfold foldT
      rw [List.take_succ_eq_append_getElem h, List.foldl_append, this]
      rfl)
    have hfull : Hid (k = form.length → foldT l (form.take k) = foldT l form) := Lib.hid (fun h => by rw [h, List.take_of_length_le (Nat.le_refl _)])
    generalize foldT l (form.take k) = x at *
    obtain ⟨acc, ok, y⟩ := x
    obtain ⟨b1, bb, ⟨A2, cp2, b4⟩, hra, hb, hacc, hya, hyb, hyc, hyn⟩ := hT
    simp only at b4 bb hacc hya hyb hyc hyn
    have B1 := Lib.hid b1
    have BB := Lib.hid bb
    have B4 := Lib.hid b4
    have RA := Lib.hid hra
    have HB := Lib.hid hb
    have hk1000 : k < 1000 := by omega
    have haccb : acc.length ≤ 40000000000 := by omega
    clear bb hra hb
    by_cases hlt : k < form.length
    · skip
      by_cases h65 : (⟨form.toArray⟩ : ByteArray)[k]'hlt = 65
      · have hst := Lib.hid (hsucc.out hlt _ h65)
        clear hsucc
        have c0 : wr.cell? ⟨w.heap.size, 0, none⟩ = some (.int .i64 l.op) := cellB b1 0 rfl
        have r0 : wr.cell? ⟨w.heap.size + 1 + 1, 0, none⟩ = some (.int .i64 y.op) := cellB b4 0 rfl
        have q0 := frozenB b4 0
        have c1 : wr.cell? ⟨w.heap.size, 1, none⟩ = some (.string ⟨(l.a).toArray⟩) := cellB b1 1 rfl
        have r1 : wr.cell? ⟨w.heap.size + 1 + 1, 1, none⟩ = some (.string ⟨(y.a).toArray⟩) := cellB b4 1 rfl
        have q1 := frozenB b4 1
        have c2 : wr.cell? ⟨w.heap.size, 2, none⟩ = some (.string ⟨(l.b).toArray⟩) := cellB b1 2 rfl
        have r2 : wr.cell? ⟨w.heap.size + 1 + 1, 2, none⟩ = some (.string ⟨(y.b).toArray⟩) := cellB b4 2 rfl
        have q2 := frozenB b4 2
        have c3 : wr.cell? ⟨w.heap.size, 3, none⟩ = some (.string ⟨(l.c).toArray⟩) := cellB b1 3 rfl
        have r3 : wr.cell? ⟨w.heap.size + 1 + 1, 3, none⟩ = some (.string ⟨(y.c).toArray⟩) := cellB b4 3 rfl
        have q3 := frozenB b4 3
        have c4 : wr.cell? ⟨w.heap.size, 4, none⟩ = some (.string ⟨(l.nm).toArray⟩) := cellB b1 4 rfl
        have r4 : wr.cell? ⟨w.heap.size + 1 + 1, 4, none⟩ = some (.string ⟨(y.nm).toArray⟩) := cellB b4 4 rfl
        have q4 := frozenB b4 4
        have c5 : wr.cell? ⟨w.heap.size, 5, none⟩ = some (.slice A l.args.length cp) := cellB b1 5 rfl
        have r5 : wr.cell? ⟨w.heap.size + 1 + 1, 5, none⟩ = some (.slice A2 y.args.length cp2) := cellB b4 5 rfl
        have q5 := frozenB b4 5
        have c6 : wr.cell? ⟨w.heap.size, 6, none⟩ = some (.int .i64 l.cv.k) := cellB b1 6 rfl
        have r6 : wr.cell? ⟨w.heap.size + 1 + 1, 6, none⟩ = some (.int .i64 y.cv.k) := cellB b4 6 rfl
        have q6 := frozenB b4 6
        have c7 : wr.cell? ⟨w.heap.size, 7, none⟩ = some (.int .i64 l.cv.n) := cellB b1 7 rfl
        have r7 : wr.cell? ⟨w.heap.size + 1 + 1, 7, none⟩ = some (.int .i64 y.cv.n) := cellB b4 7 rfl
        have q7 := frozenB b4 7
        have c8 : wr.cell? ⟨w.heap.size, 8, none⟩ = some (.string ⟨(l.cv.s).toArray⟩) := cellB b1 8 rfl
        have r8 : wr.cell? ⟨w.heap.size + 1 + 1, 8, none⟩ = some (.string ⟨(y.cv.s).toArray⟩) := cellB b4 8 rfl
        have q8 := frozenB b4 8
        clear b1 b4
        cases ok with
        | false =>
          go_wp2_with (first | (go_at_call 54; refine (field_A _ _).mono ?_; rintro e w' ⟨rfl, rfl⟩))
          refine (wr_str w.heap.size (w.heap.size + 1) acc y.a wr BB.out (by omega) HB.out.size).mono ?_
          rintro e V ⟨rfl, bbV, hbV, kV⟩
          have b1 := (kV _ _ 40 B1.out (by simp)).trans B1.out
          have b4 := (kV _ _ 40 B4.out (by simp)).trans B4.out
          have RV := Lib.hid (kV.rd (by simp) RA.out)
          have BBV := Lib.hid bbV
          have HBV := Lib.hid (HB.out.trans hbV)
          clear c0 r0 q0 c1 r1 q1 c2 r2 q2 c3 r3 q3 c4 r4 q4 c5 r5 q5 c6 r6 q6 c7 r7 q7 c8 r8 q8 bbV hbV kV
          have r1 : V.cell? ⟨w.heap.size + 1 + 1, 1, none⟩ = some (.string ⟨(y.a).toArray⟩) := cellB b4 1 rfl
          have q1 := frozenB b4 1
          have D1 := Lib.hid b1
          have D4 := Lib.hid b4
          clear b1 b4
          go_wp2_with fail
          have hs : stepT l 65 (acc, false, y) = (acc ++ y.a, false && nameS y.a, { y with a := [] }) := rfl
          refine ⟨⟨k + 1, hlt, rfl, ?_, ?_⟩, by simp [intOf]; omega⟩
          · rw [hst.out, hs]; simp
          · rw [hst.out, hs]
            refine ⟨(Below.heap_setCell _ _ _ _ (by simp; omega)).trans D1.out, BBV.out.set D4.out (by decide) (by decide), ⟨A2, cp2, blk_set D4.out 1 _⟩, RdB.set RV.out D4.out (by decide), HBV.out.setCell (by simp; omega) _, ?_, ?_⟩
            · simp only [List.length_append]; omega
            · simp; omega
        | true =>
          go_wp2_with (first | (go_at_call 54; refine (field_A _ _).mono ?_; rintro e w' ⟨rfl, rfl⟩) | (go_at_call 29; refine (name_calls y.a _ (by omega)).mono ?_; rintro e w' ⟨rfl, rfl⟩))
          refine (wr_str w.heap.size (w.heap.size + 1) acc y.a wr BB.out (by omega) HB.out.size).mono ?_
          rintro e V ⟨rfl, bbV, hbV, kV⟩
          have b1 := (kV _ _ 40 B1.out (by simp)).trans B1.out
          have b4 := (kV _ _ 40 B4.out (by simp)).trans B4.out
          have RV := Lib.hid (kV.rd (by simp) RA.out)
          have BBV := Lib.hid bbV
          have HBV := Lib.hid (HB.out.trans hbV)
          clear c0 r0 q0 c1 r1 q1 c2 r2 q2 c3 r3 q3 c4 r4 q4 c5 r5 q5 c6 r6 q6 c7 r7 q7 c8 r8 q8 bbV hbV kV
          have r1 : V.cell? ⟨w.heap.size + 1 + 1, 1, none⟩ = some (.string ⟨(y.a).toArray⟩) := cellB b4 1 rfl
          have q1 := frozenB b4 1
          have D1 := Lib.hid b1
          have D4 := Lib.hid b4
          clear b1 b4
          go_wp2_with fail
          have hs : stepT l 65 (acc, true, y) = (acc ++ y.a, true && nameS y.a, { y with a := [] }) := rfl
          refine ⟨⟨k + 1, hlt, rfl, ?_, ?_⟩, by simp [intOf]; omega⟩
          · rw [hst.out, hs]; simp
          · rw [hst.out, hs]
            refine ⟨(Below.heap_setCell _ _ _ _ (by simp; omega)).trans D1.out, BBV.out.set D4.out (by decide) (by decide), ⟨A2, cp2, blk_set D4.out 1 _⟩, RdB.set RV.out D4.out (by decide), HBV.out.setCell (by simp; omega) _, ?_, ?_⟩
            · simp only [List.length_append]; omega
            · simp; omega
      by_cases h66 : (⟨form.toArray⟩ : ByteArray)[k]'hlt = 66
      · have hst := Lib.hid (hsucc.out hlt _ h66)
        clear hsucc
        have c0 : wr.cell? ⟨w.heap.size, 0, none⟩ = some (.int .i64 l.op) := cellB b1 0 rfl
        have r0 : wr.cell? ⟨w.heap.size + 1 + 1, 0, none⟩ = some (.int .i64 y.op) := cellB b4 0 rfl
        have q0 := frozenB b4 0
        have c1 : wr.cell? ⟨w.heap.size, 1, none⟩ = some (.string ⟨(l.a).toArray⟩) := cellB b1 1 rfl
        have r1 : wr.cell? ⟨w.heap.size + 1 + 1, 1, none⟩ = some (.string ⟨(y.a).toArray⟩) := cellB b4 1 rfl
        have q1 := frozenB b4 1
        have c2 : wr.cell? ⟨w.heap.size, 2, none⟩ = some (.string ⟨(l.b).toArray⟩) := cellB b1 2 rfl
        have r2 : wr.cell? ⟨w.heap.size + 1 + 1, 2, none⟩ = some (.string ⟨(y.b).toArray⟩) := cellB b4 2 rfl
        have q2 := frozenB b4 2
        have c3 : wr.cell? ⟨w.heap.size, 3, none⟩ = some (.string ⟨(l.c).toArray⟩) := cellB b1 3 rfl
        have r3 : wr.cell? ⟨w.heap.size + 1 + 1, 3, none⟩ = some (.string ⟨(y.c).toArray⟩) := cellB b4 3 rfl
        have q3 := frozenB b4 3
        have c4 : wr.cell? ⟨w.heap.size, 4, none⟩ = some (.string ⟨(l.nm).toArray⟩) := cellB b1 4 rfl
        have r4 : wr.cell? ⟨w.heap.size + 1 + 1, 4, none⟩ = some (.string ⟨(y.nm).toArray⟩) := cellB b4 4 rfl
        have q4 := frozenB b4 4
        have c5 : wr.cell? ⟨w.heap.size, 5, none⟩ = some (.slice A l.args.length cp) := cellB b1 5 rfl
        have r5 : wr.cell? ⟨w.heap.size + 1 + 1, 5, none⟩ = some (.slice A2 y.args.length cp2) := cellB b4 5 rfl
        have q5 := frozenB b4 5
        have c6 : wr.cell? ⟨w.heap.size, 6, none⟩ = some (.int .i64 l.cv.k) := cellB b1 6 rfl
        have r6 : wr.cell? ⟨w.heap.size + 1 + 1, 6, none⟩ = some (.int .i64 y.cv.k) := cellB b4 6 rfl
        have q6 := frozenB b4 6
        have c7 : wr.cell? ⟨w.heap.size, 7, none⟩ = some (.int .i64 l.cv.n) := cellB b1 7 rfl
        have r7 : wr.cell? ⟨w.heap.size + 1 + 1, 7, none⟩ = some (.int .i64 y.cv.n) := cellB b4 7 rfl
        have q7 := frozenB b4 7
        have c8 : wr.cell? ⟨w.heap.size, 8, none⟩ = some (.string ⟨(l.cv.s).toArray⟩) := cellB b1 8 rfl
        have r8 : wr.cell? ⟨w.heap.size + 1 + 1, 8, none⟩ = some (.string ⟨(y.cv.s).toArray⟩) := cellB b4 8 rfl
        have q8 := frozenB b4 8
        clear b1 b4
        cases ok with
        | false =>
          go_wp2_with (first | (go_at_call 54; refine (field_B _ _).mono ?_; rintro e w' ⟨rfl, rfl⟩))
          refine (wr_str w.heap.size (w.heap.size + 1) acc y.b wr BB.out (by omega) HB.out.size).mono ?_
          rintro e V ⟨rfl, bbV, hbV, kV⟩
          have b1 := (kV _ _ 40 B1.out (by simp)).trans B1.out
          have b4 := (kV _ _ 40 B4.out (by simp)).trans B4.out
          have RV := Lib.hid (kV.rd (by simp) RA.out)
          have BBV := Lib.hid bbV
          have HBV := Lib.hid (HB.out.trans hbV)
          clear c0 r0 q0 c1 r1 q1 c2 r2 q2 c3 r3 q3 c4 r4 q4 c5 r5 q5 c6 r6 q6 c7 r7 q7 c8 r8 q8 bbV hbV kV
          have r2 : V.cell? ⟨w.heap.size + 1 + 1, 2, none⟩ = some (.string ⟨(y.b).toArray⟩) := cellB b4 2 rfl
          have q2 := frozenB b4 2
          have D1 := Lib.hid b1
          have D4 := Lib.hid b4
          clear b1 b4
          go_wp2_with fail
          have hs : stepT l 66 (acc, false, y) = (acc ++ y.b, false && nameS y.b, { y with b := [] }) := rfl
          refine ⟨⟨k + 1, hlt, rfl, ?_, ?_⟩, by simp [intOf]; omega⟩
          · rw [hst.out, hs]; simp
          · rw [hst.out, hs]
            refine ⟨(Below.heap_setCell _ _ _ _ (by simp; omega)).trans D1.out, BBV.out.set D4.out (by decide) (by decide), ⟨A2, cp2, blk_set D4.out 2 _⟩, RdB.set RV.out D4.out (by decide), HBV.out.setCell (by simp; omega) _, ?_, ?_⟩
            · simp only [List.length_append]; omega
            · simp; omega
        | true =>
          go_wp2_with (first | (go_at_call 54; refine (field_B _ _).mono ?_; rintro e w' ⟨rfl, rfl⟩) | (go_at_call 29; refine (name_calls y.b _ (by omega)).mono ?_; rintro e w' ⟨rfl, rfl⟩))
          refine (wr_str w.heap.size (w.heap.size + 1) acc y.b wr BB.out (by omega) HB.out.size).mono ?_
          rintro e V ⟨rfl, bbV, hbV, kV⟩
          have b1 := (kV _ _ 40 B1.out (by simp)).trans B1.out
          have b4 := (kV _ _ 40 B4.out (by simp)).trans B4.out
          have RV := Lib.hid (kV.rd (by simp) RA.out)
          have BBV := Lib.hid bbV
          have HBV := Lib.hid (HB.out.trans hbV)
          clear c0 r0 q0 c1 r1 q1 c2 r2 q2 c3 r3 q3 c4 r4 q4 c5 r5 q5 c6 r6 q6 c7 r7 q7 c8 r8 q8 bbV hbV kV
          have r2 : V.cell? ⟨w.heap.size + 1 + 1, 2, none⟩ = some (.string ⟨(y.b).toArray⟩) := cellB b4 2 rfl
          have q2 := frozenB b4 2
          have D1 := Lib.hid b1
          have D4 := Lib.hid b4
          clear b1 b4
          go_wp2_with fail
          have hs : stepT l 66 (acc, true, y) = (acc ++ y.b, true && nameS y.b, { y with b := [] }) := rfl
          refine ⟨⟨k + 1, hlt, rfl, ?_, ?_⟩, by simp [intOf]; omega⟩
          · rw [hst.out, hs]; simp
          · rw [hst.out, hs]
            refine ⟨(Below.heap_setCell _ _ _ _ (by simp; omega)).trans D1.out, BBV.out.set D4.out (by decide) (by decide), ⟨A2, cp2, blk_set D4.out 2 _⟩, RdB.set RV.out D4.out (by decide), HBV.out.setCell (by simp; omega) _, ?_, ?_⟩
            · simp only [List.length_append]; omega
            · simp; omega
      by_cases h67 : (⟨form.toArray⟩ : ByteArray)[k]'hlt = 67
      · have hst := Lib.hid (hsucc.out hlt _ h67)
        clear hsucc
        have c0 : wr.cell? ⟨w.heap.size, 0, none⟩ = some (.int .i64 l.op) := cellB b1 0 rfl
        have r0 : wr.cell? ⟨w.heap.size + 1 + 1, 0, none⟩ = some (.int .i64 y.op) := cellB b4 0 rfl
        have q0 := frozenB b4 0
        have c1 : wr.cell? ⟨w.heap.size, 1, none⟩ = some (.string ⟨(l.a).toArray⟩) := cellB b1 1 rfl
        have r1 : wr.cell? ⟨w.heap.size + 1 + 1, 1, none⟩ = some (.string ⟨(y.a).toArray⟩) := cellB b4 1 rfl
        have q1 := frozenB b4 1
        have c2 : wr.cell? ⟨w.heap.size, 2, none⟩ = some (.string ⟨(l.b).toArray⟩) := cellB b1 2 rfl
        have r2 : wr.cell? ⟨w.heap.size + 1 + 1, 2, none⟩ = some (.string ⟨(y.b).toArray⟩) := cellB b4 2 rfl
        have q2 := frozenB b4 2
        have c3 : wr.cell? ⟨w.heap.size, 3, none⟩ = some (.string ⟨(l.c).toArray⟩) := cellB b1 3 rfl
        have r3 : wr.cell? ⟨w.heap.size + 1 + 1, 3, none⟩ = some (.string ⟨(y.c).toArray⟩) := cellB b4 3 rfl
        have q3 := frozenB b4 3
        have c4 : wr.cell? ⟨w.heap.size, 4, none⟩ = some (.string ⟨(l.nm).toArray⟩) := cellB b1 4 rfl
        have r4 : wr.cell? ⟨w.heap.size + 1 + 1, 4, none⟩ = some (.string ⟨(y.nm).toArray⟩) := cellB b4 4 rfl
        have q4 := frozenB b4 4
        have c5 : wr.cell? ⟨w.heap.size, 5, none⟩ = some (.slice A l.args.length cp) := cellB b1 5 rfl
        have r5 : wr.cell? ⟨w.heap.size + 1 + 1, 5, none⟩ = some (.slice A2 y.args.length cp2) := cellB b4 5 rfl
        have q5 := frozenB b4 5
        have c6 : wr.cell? ⟨w.heap.size, 6, none⟩ = some (.int .i64 l.cv.k) := cellB b1 6 rfl
        have r6 : wr.cell? ⟨w.heap.size + 1 + 1, 6, none⟩ = some (.int .i64 y.cv.k) := cellB b4 6 rfl
        have q6 := frozenB b4 6
        have c7 : wr.cell? ⟨w.heap.size, 7, none⟩ = some (.int .i64 l.cv.n) := cellB b1 7 rfl
        have r7 : wr.cell? ⟨w.heap.size + 1 + 1, 7, none⟩ = some (.int .i64 y.cv.n) := cellB b4 7 rfl
        have q7 := frozenB b4 7
        have c8 : wr.cell? ⟨w.heap.size, 8, none⟩ = some (.string ⟨(l.cv.s).toArray⟩) := cellB b1 8 rfl
        have r8 : wr.cell? ⟨w.heap.size + 1 + 1, 8, none⟩ = some (.string ⟨(y.cv.s).toArray⟩) := cellB b4 8 rfl
        have q8 := frozenB b4 8
        clear b1 b4
        cases ok with
        | false =>
          go_wp2_with (first | (go_at_call 54; refine (field_C _ _).mono ?_; rintro e w' ⟨rfl, rfl⟩))
          refine (wr_str w.heap.size (w.heap.size + 1) acc y.c wr BB.out (by omega) HB.out.size).mono ?_
          rintro e V ⟨rfl, bbV, hbV, kV⟩
          have b1 := (kV _ _ 40 B1.out (by simp)).trans B1.out
          have b4 := (kV _ _ 40 B4.out (by simp)).trans B4.out
          have RV := Lib.hid (kV.rd (by simp) RA.out)
          have BBV := Lib.hid bbV
          have HBV := Lib.hid (HB.out.trans hbV)
          clear c0 r0 q0 c1 r1 q1 c2 r2 q2 c3 r3 q3 c4 r4 q4 c5 r5 q5 c6 r6 q6 c7 r7 q7 c8 r8 q8 bbV hbV kV
          have r3 : V.cell? ⟨w.heap.size + 1 + 1, 3, none⟩ = some (.string ⟨(y.c).toArray⟩) := cellB b4 3 rfl
          have q3 := frozenB b4 3
          have D1 := Lib.hid b1
          have D4 := Lib.hid b4
          clear b1 b4
          go_wp2_with fail
          have hs : stepT l 67 (acc, false, y) = (acc ++ y.c, false && nameS y.c, { y with c := [] }) := rfl
          refine ⟨⟨k + 1, hlt, rfl, ?_, ?_⟩, by simp [intOf]; omega⟩
          · rw [hst.out, hs]; simp
          · rw [hst.out, hs]
            refine ⟨(Below.heap_setCell _ _ _ _ (by simp; omega)).trans D1.out, BBV.out.set D4.out (by decide) (by decide), ⟨A2, cp2, blk_set D4.out 3 _⟩, RdB.set RV.out D4.out (by decide), HBV.out.setCell (by simp; omega) _, ?_, ?_⟩
            · simp only [List.length_append]; omega
            · simp; omega
        | true =>
          go_wp2_with (first | (go_at_call 54; refine (field_C _ _).mono ?_; rintro e w' ⟨rfl, rfl⟩) | (go_at_call 29; refine (name_calls y.c _ (by omega)).mono ?_; rintro e w' ⟨rfl, rfl⟩))
          refine (wr_str w.heap.size (w.heap.size + 1) acc y.c wr BB.out (by omega) HB.out.size).mono ?_
          rintro e V ⟨rfl, bbV, hbV, kV⟩
          have b1 := (kV _ _ 40 B1.out (by simp)).trans B1.out
          have b4 := (kV _ _ 40 B4.out (by simp)).trans B4.out
          have RV := Lib.hid (kV.rd (by simp) RA.out)
          have BBV := Lib.hid bbV
          have HBV := Lib.hid (HB.out.trans hbV)
          clear c0 r0 q0 c1 r1 q1 c2 r2 q2 c3 r3 q3 c4 r4 q4 c5 r5 q5 c6 r6 q6 c7 r7 q7 c8 r8 q8 bbV hbV kV
          have r3 : V.cell? ⟨w.heap.size + 1 + 1, 3, none⟩ = some (.string ⟨(y.c).toArray⟩) := cellB b4 3 rfl
          have q3 := frozenB b4 3
          have D1 := Lib.hid b1
          have D4 := Lib.hid b4
          clear b1 b4
          go_wp2_with fail
          have hs : stepT l 67 (acc, true, y) = (acc ++ y.c, true && nameS y.c, { y with c := [] }) := rfl
          refine ⟨⟨k + 1, hlt, rfl, ?_, ?_⟩, by simp [intOf]; omega⟩
          · rw [hst.out, hs]; simp
          · rw [hst.out, hs]
            refine ⟨(Below.heap_setCell _ _ _ _ (by simp; omega)).trans D1.out, BBV.out.set D4.out (by decide) (by decide), ⟨A2, cp2, blk_set D4.out 3 _⟩, RdB.set RV.out D4.out (by decide), HBV.out.setCell (by simp; omega) _, ?_, ?_⟩
            · simp only [List.length_append]; omega
            · simp; omega
      by_cases h78 : (⟨form.toArray⟩ : ByteArray)[k]'hlt = 78
      · have hst := Lib.hid (hsucc.out hlt _ h78)
        clear hsucc
        have c0 : wr.cell? ⟨w.heap.size, 0, none⟩ = some (.int .i64 l.op) := cellB b1 0 rfl
        have r0 : wr.cell? ⟨w.heap.size + 1 + 1, 0, none⟩ = some (.int .i64 y.op) := cellB b4 0 rfl
        have q0 := frozenB b4 0
        have c1 : wr.cell? ⟨w.heap.size, 1, none⟩ = some (.string ⟨(l.a).toArray⟩) := cellB b1 1 rfl
        have r1 : wr.cell? ⟨w.heap.size + 1 + 1, 1, none⟩ = some (.string ⟨(y.a).toArray⟩) := cellB b4 1 rfl
        have q1 := frozenB b4 1
        have c2 : wr.cell? ⟨w.heap.size, 2, none⟩ = some (.string ⟨(l.b).toArray⟩) := cellB b1 2 rfl
        have r2 : wr.cell? ⟨w.heap.size + 1 + 1, 2, none⟩ = some (.string ⟨(y.b).toArray⟩) := cellB b4 2 rfl
        have q2 := frozenB b4 2
        have c3 : wr.cell? ⟨w.heap.size, 3, none⟩ = some (.string ⟨(l.c).toArray⟩) := cellB b1 3 rfl
        have r3 : wr.cell? ⟨w.heap.size + 1 + 1, 3, none⟩ = some (.string ⟨(y.c).toArray⟩) := cellB b4 3 rfl
        have q3 := frozenB b4 3
        have c4 : wr.cell? ⟨w.heap.size, 4, none⟩ = some (.string ⟨(l.nm).toArray⟩) := cellB b1 4 rfl
        have r4 : wr.cell? ⟨w.heap.size + 1 + 1, 4, none⟩ = some (.string ⟨(y.nm).toArray⟩) := cellB b4 4 rfl
        have q4 := frozenB b4 4
        have c5 : wr.cell? ⟨w.heap.size, 5, none⟩ = some (.slice A l.args.length cp) := cellB b1 5 rfl
        have r5 : wr.cell? ⟨w.heap.size + 1 + 1, 5, none⟩ = some (.slice A2 y.args.length cp2) := cellB b4 5 rfl
        have q5 := frozenB b4 5
        have c6 : wr.cell? ⟨w.heap.size, 6, none⟩ = some (.int .i64 l.cv.k) := cellB b1 6 rfl
        have r6 : wr.cell? ⟨w.heap.size + 1 + 1, 6, none⟩ = some (.int .i64 y.cv.k) := cellB b4 6 rfl
        have q6 := frozenB b4 6
        have c7 : wr.cell? ⟨w.heap.size, 7, none⟩ = some (.int .i64 l.cv.n) := cellB b1 7 rfl
        have r7 : wr.cell? ⟨w.heap.size + 1 + 1, 7, none⟩ = some (.int .i64 y.cv.n) := cellB b4 7 rfl
        have q7 := frozenB b4 7
        have c8 : wr.cell? ⟨w.heap.size, 8, none⟩ = some (.string ⟨(l.cv.s).toArray⟩) := cellB b1 8 rfl
        have r8 : wr.cell? ⟨w.heap.size + 1 + 1, 8, none⟩ = some (.string ⟨(y.cv.s).toArray⟩) := cellB b4 8 rfl
        have q8 := frozenB b4 8
        clear b1 b4
        cases ok with
        | false =>
          go_wp2_with (first | (go_at_call 54; refine (field_N _ _).mono ?_; rintro e w' ⟨rfl, rfl⟩))
          refine (wr_str w.heap.size (w.heap.size + 1) acc y.nm wr BB.out (by omega) HB.out.size).mono ?_
          rintro e V ⟨rfl, bbV, hbV, kV⟩
          have b1 := (kV _ _ 40 B1.out (by simp)).trans B1.out
          have b4 := (kV _ _ 40 B4.out (by simp)).trans B4.out
          have RV := Lib.hid (kV.rd (by simp) RA.out)
          have BBV := Lib.hid bbV
          have HBV := Lib.hid (HB.out.trans hbV)
          clear c0 r0 q0 c1 r1 q1 c2 r2 q2 c3 r3 q3 c4 r4 q4 c5 r5 q5 c6 r6 q6 c7 r7 q7 c8 r8 q8 bbV hbV kV
          have r4 : V.cell? ⟨w.heap.size + 1 + 1, 4, none⟩ = some (.string ⟨(y.nm).toArray⟩) := cellB b4 4 rfl
          have q4 := frozenB b4 4
          have D1 := Lib.hid b1
          have D4 := Lib.hid b4
          clear b1 b4
          go_wp2_with fail
          have hs : stepT l 78 (acc, false, y) = (acc ++ y.nm, false && nameS y.nm, { y with nm := [] }) := rfl
          refine ⟨⟨k + 1, hlt, rfl, ?_, ?_⟩, by simp [intOf]; omega⟩
          · rw [hst.out, hs]; simp
          · rw [hst.out, hs]
            refine ⟨(Below.heap_setCell _ _ _ _ (by simp; omega)).trans D1.out, BBV.out.set D4.out (by decide) (by decide), ⟨A2, cp2, blk_set D4.out 4 _⟩, RdB.set RV.out D4.out (by decide), HBV.out.setCell (by simp; omega) _, ?_, ?_⟩
            · simp only [List.length_append]; omega
            · simp; omega
        | true =>
          go_wp2_with (first | (go_at_call 54; refine (field_N _ _).mono ?_; rintro e w' ⟨rfl, rfl⟩) | (go_at_call 29; refine (name_calls y.nm _ (by omega)).mono ?_; rintro e w' ⟨rfl, rfl⟩))
          refine (wr_str w.heap.size (w.heap.size + 1) acc y.nm wr BB.out (by omega) HB.out.size).mono ?_
          rintro e V ⟨rfl, bbV, hbV, kV⟩
          have b1 := (kV _ _ 40 B1.out (by simp)).trans B1.out
          have b4 := (kV _ _ 40 B4.out (by simp)).trans B4.out
          have RV := Lib.hid (kV.rd (by simp) RA.out)
          have BBV := Lib.hid bbV
          have HBV := Lib.hid (HB.out.trans hbV)
          clear c0 r0 q0 c1 r1 q1 c2 r2 q2 c3 r3 q3 c4 r4 q4 c5 r5 q5 c6 r6 q6 c7 r7 q7 c8 r8 q8 bbV hbV kV
          have r4 : V.cell? ⟨w.heap.size + 1 + 1, 4, none⟩ = some (.string ⟨(y.nm).toArray⟩) := cellB b4 4 rfl
          have q4 := frozenB b4 4
          have D1 := Lib.hid b1
          have D4 := Lib.hid b4
          clear b1 b4
          go_wp2_with fail
          have hs : stepT l 78 (acc, true, y) = (acc ++ y.nm, true && nameS y.nm, { y with nm := [] }) := rfl
          refine ⟨⟨k + 1, hlt, rfl, ?_, ?_⟩, by simp [intOf]; omega⟩
          · rw [hst.out, hs]; simp
          · rw [hst.out, hs]
            refine ⟨(Below.heap_setCell _ _ _ _ (by simp; omega)).trans D1.out, BBV.out.set D4.out (by decide) (by decide), ⟨A2, cp2, blk_set D4.out 4 _⟩, RdB.set RV.out D4.out (by decide), HBV.out.setCell (by simp; omega) _, ?_, ?_⟩
            · simp only [List.length_append]; omega
            · simp; omega
      by_cases h76 : (⟨form.toArray⟩ : ByteArray)[k]'hlt = 76
      · have hst := Lib.hid (hsucc.out hlt _ h76)
        clear hsucc
        have c0 : wr.cell? ⟨w.heap.size, 0, none⟩ = some (.int .i64 l.op) := cellB b1 0 rfl
        have r0 : wr.cell? ⟨w.heap.size + 1 + 1, 0, none⟩ = some (.int .i64 y.op) := cellB b4 0 rfl
        have q0 := frozenB b4 0
        have c1 : wr.cell? ⟨w.heap.size, 1, none⟩ = some (.string ⟨(l.a).toArray⟩) := cellB b1 1 rfl
        have r1 : wr.cell? ⟨w.heap.size + 1 + 1, 1, none⟩ = some (.string ⟨(y.a).toArray⟩) := cellB b4 1 rfl
        have q1 := frozenB b4 1
        have c2 : wr.cell? ⟨w.heap.size, 2, none⟩ = some (.string ⟨(l.b).toArray⟩) := cellB b1 2 rfl
        have r2 : wr.cell? ⟨w.heap.size + 1 + 1, 2, none⟩ = some (.string ⟨(y.b).toArray⟩) := cellB b4 2 rfl
        have q2 := frozenB b4 2
        have c3 : wr.cell? ⟨w.heap.size, 3, none⟩ = some (.string ⟨(l.c).toArray⟩) := cellB b1 3 rfl
        have r3 : wr.cell? ⟨w.heap.size + 1 + 1, 3, none⟩ = some (.string ⟨(y.c).toArray⟩) := cellB b4 3 rfl
        have q3 := frozenB b4 3
        have c4 : wr.cell? ⟨w.heap.size, 4, none⟩ = some (.string ⟨(l.nm).toArray⟩) := cellB b1 4 rfl
        have r4 : wr.cell? ⟨w.heap.size + 1 + 1, 4, none⟩ = some (.string ⟨(y.nm).toArray⟩) := cellB b4 4 rfl
        have q4 := frozenB b4 4
        have c5 : wr.cell? ⟨w.heap.size, 5, none⟩ = some (.slice A l.args.length cp) := cellB b1 5 rfl
        have r5 : wr.cell? ⟨w.heap.size + 1 + 1, 5, none⟩ = some (.slice A2 y.args.length cp2) := cellB b4 5 rfl
        have q5 := frozenB b4 5
        have c6 : wr.cell? ⟨w.heap.size, 6, none⟩ = some (.int .i64 l.cv.k) := cellB b1 6 rfl
        have r6 : wr.cell? ⟨w.heap.size + 1 + 1, 6, none⟩ = some (.int .i64 y.cv.k) := cellB b4 6 rfl
        have q6 := frozenB b4 6
        have c7 : wr.cell? ⟨w.heap.size, 7, none⟩ = some (.int .i64 l.cv.n) := cellB b1 7 rfl
        have r7 : wr.cell? ⟨w.heap.size + 1 + 1, 7, none⟩ = some (.int .i64 y.cv.n) := cellB b4 7 rfl
        have q7 := frozenB b4 7
        have c8 : wr.cell? ⟨w.heap.size, 8, none⟩ = some (.string ⟨(l.cv.s).toArray⟩) := cellB b1 8 rfl
        have r8 : wr.cell? ⟨w.heap.size + 1 + 1, 8, none⟩ = some (.string ⟨(y.cv.s).toArray⟩) := cellB b4 8 rfl
        have q8 := frozenB b4 8
        have LR := Lib.hid (HL.out.belowB hB HB.out)
        have hll := litS_length l.cv HS.out.s HS.out.n
        clear b1 b4
        go_wp2_with (first | (go_at_call 54; refine (field_no _ 76 _ rfl).mono ?_; rintro e w' ⟨rfl, rfl⟩))
        refine (literal_calls' l.cv _ LR.out HS.out.n (by have := HS.out.s; omega)).mono ?_
        rintro e V0 ⟨rfl, hV0⟩
        have b1 := (hV0.block _ (sizeB B1.out)).trans B1.out
        have b4 := (hV0.block _ (sizeB B4.out)).trans B4.out
        have RA := Lib.hid (RA.out.below hV0)
        have BB := Lib.hid (BB.out.below hV0)
        have HB := Lib.hid (HB.out.trans (hV0.mono HB.out.size))
        have B1 := Lib.hid b1
        have B4 := Lib.hid b4
        clear c0 r0 q0 c1 r1 q1 c2 r2 q2 c3 r3 q3 c4 r4 q4 c5 r5 q5 c6 r6 q6 c7 r7 q7 c8 r8 q8 hV0
        have c6 : V0.cell? ⟨w.heap.size, 6, none⟩ = some (.int .i64 l.cv.k) := cellB b1 6 rfl
        clear b1 b4
        generalize hlit : litS l.cv = tt at *
        obtain ⟨txt, right⟩ := tt
        simp only at hll
        have HLI := Lib.hid hlit
        clear hlit
        cases ok with
        | false =>
          cases right with
          | false =>
            go_wp2_with fail
            refine (wr_str w.heap.size (w.heap.size + 1) acc txt V0 BB.out (by omega) HB.out.size).mono ?_
            rintro e V ⟨rfl, bbV, hbV, kV⟩
            have b1 := (kV _ _ 40 B1.out (by simp)).trans B1.out
            have b4 := (kV _ _ 40 B4.out (by simp)).trans B4.out
            have RV := Lib.hid (kV.rd (by simp) RA.out)
            have BBV := Lib.hid bbV
            have HBV := Lib.hid (HB.out.trans hbV)
            clear c6 bbV hbV kV
            have r6 : V.cell? ⟨w.heap.size + 1 + 1, 6, none⟩ = some (.int .i64 y.cv.k) := cellB b4 6 rfl
            have q6 := frozenB b4 6
            have r7 : V.cell? ⟨w.heap.size + 1 + 1, 7, none⟩ = some (.int .i64 y.cv.n) := cellB b4 7 rfl
            have q7 := frozenB b4 7
            have r8 : V.cell? ⟨w.heap.size + 1 + 1, 8, none⟩ = some (.string ⟨(y.cv.s).toArray⟩) := cellB b4 8 rfl
            have q8 := frozenB b4 8
            have D1 := Lib.hid b1
            have D4 := Lib.hid b4
            clear b1 b4
            go_wp2_with fail
            have hs : stepT l 76 (acc, false, y) = (acc ++ txt, false && false, { y with cv := Val.zero }) := by
              have : stepT l 76 (acc, false, y) = (acc ++ (litS l.cv).1, false && (litS l.cv).2, { y with cv := Val.zero }) := rfl
              rw [this, HLI.out]
            refine ⟨⟨k + 1, hlt, rfl, ?_, ?_⟩, by simp [intOf]; omega⟩
            · rw [hst.out, hs]; simp
            · rw [hst.out, hs]
              refine ⟨(Below.heap_setCell _ _ _ _ (by simp; omega)).trans ((Below.heap_setCell _ _ _ _ (by simp; omega)).trans ((Below.heap_setCell _ _ _ _ (by simp; omega)).trans D1.out)), ((BBV.out.set D4.out (by decide) (by decide)).set (blk_set D4.out 6 _) (by decide) (by decide)).set (blk_set (blk_set D4.out 6 _) 7 _) (by decide) (by decide), ⟨A2, cp2, blk_set (blk_set (blk_set D4.out 6 _) 7 _) 8 _⟩, RdB.set (RdB.set (RdB.set RV.out D4.out (by decide)) (blk_set D4.out 6 _) (by decide)) (blk_set (blk_set D4.out 6 _) 7 _) (by decide), ((HBV.out.setCell (by simp; omega) _).setCell (by simp; omega) _).setCell (by simp; omega) _, ?_, ?_⟩
              · simp only [List.length_append]; omega
              · simp; omega
          | true =>
            go_wp2_with fail
            refine (wr_str w.heap.size (w.heap.size + 1) acc txt V0 BB.out (by omega) HB.out.size).mono ?_
            rintro e V ⟨rfl, bbV, hbV, kV⟩
            have b1 := (kV _ _ 40 B1.out (by simp)).trans B1.out
            have b4 := (kV _ _ 40 B4.out (by simp)).trans B4.out
            have RV := Lib.hid (kV.rd (by simp) RA.out)
            have BBV := Lib.hid bbV
            have HBV := Lib.hid (HB.out.trans hbV)
            clear c6 bbV hbV kV
            have r6 : V.cell? ⟨w.heap.size + 1 + 1, 6, none⟩ = some (.int .i64 y.cv.k) := cellB b4 6 rfl
            have q6 := frozenB b4 6
            have r7 : V.cell? ⟨w.heap.size + 1 + 1, 7, none⟩ = some (.int .i64 y.cv.n) := cellB b4 7 rfl
            have q7 := frozenB b4 7
            have r8 : V.cell? ⟨w.heap.size + 1 + 1, 8, none⟩ = some (.string ⟨(y.cv.s).toArray⟩) := cellB b4 8 rfl
            have q8 := frozenB b4 8
            have D1 := Lib.hid b1
            have D4 := Lib.hid b4
            clear b1 b4
            go_wp2_with fail
            have hs : stepT l 76 (acc, false, y) = (acc ++ txt, false && true, { y with cv := Val.zero }) := by
              have : stepT l 76 (acc, false, y) = (acc ++ (litS l.cv).1, false && (litS l.cv).2, { y with cv := Val.zero }) := rfl
              rw [this, HLI.out]
            refine ⟨⟨k + 1, hlt, rfl, ?_, ?_⟩, by simp [intOf]; omega⟩
            · rw [hst.out, hs]; simp
            · rw [hst.out, hs]
              refine ⟨(Below.heap_setCell _ _ _ _ (by simp; omega)).trans ((Below.heap_setCell _ _ _ _ (by simp; omega)).trans ((Below.heap_setCell _ _ _ _ (by simp; omega)).trans D1.out)), ((BBV.out.set D4.out (by decide) (by decide)).set (blk_set D4.out 6 _) (by decide) (by decide)).set (blk_set (blk_set D4.out 6 _) 7 _) (by decide) (by decide), ⟨A2, cp2, blk_set (blk_set (blk_set D4.out 6 _) 7 _) 8 _⟩, RdB.set (RdB.set (RdB.set RV.out D4.out (by decide)) (blk_set D4.out 6 _) (by decide)) (blk_set (blk_set D4.out 6 _) 7 _) (by decide), ((HBV.out.setCell (by simp; omega) _).setCell (by simp; omega) _).setCell (by simp; omega) _, ?_, ?_⟩
              · simp only [List.length_append]; omega
              · simp; omega
        | true =>
          cases right with
          | false =>
            go_wp2_with fail
            refine (wr_str w.heap.size (w.heap.size + 1) acc txt V0 BB.out (by omega) HB.out.size).mono ?_
            rintro e V ⟨rfl, bbV, hbV, kV⟩
            have b1 := (kV _ _ 40 B1.out (by simp)).trans B1.out
            have b4 := (kV _ _ 40 B4.out (by simp)).trans B4.out
            have RV := Lib.hid (kV.rd (by simp) RA.out)
            have BBV := Lib.hid bbV
            have HBV := Lib.hid (HB.out.trans hbV)
            clear c6 bbV hbV kV
            have r6 : V.cell? ⟨w.heap.size + 1 + 1, 6, none⟩ = some (.int .i64 y.cv.k) := cellB b4 6 rfl
            have q6 := frozenB b4 6
            have r7 : V.cell? ⟨w.heap.size + 1 + 1, 7, none⟩ = some (.int .i64 y.cv.n) := cellB b4 7 rfl
            have q7 := frozenB b4 7
            have r8 : V.cell? ⟨w.heap.size + 1 + 1, 8, none⟩ = some (.string ⟨(y.cv.s).toArray⟩) := cellB b4 8 rfl
            have q8 := frozenB b4 8
            have D1 := Lib.hid b1
            have D4 := Lib.hid b4
            clear b1 b4
            go_wp2_with fail
            have hs : stepT l 76 (acc, true, y) = (acc ++ txt, true && false, { y with cv := Val.zero }) := by
              have : stepT l 76 (acc, true, y) = (acc ++ (litS l.cv).1, true && (litS l.cv).2, { y with cv := Val.zero }) := rfl
              rw [this, HLI.out]
            refine ⟨⟨k + 1, hlt, rfl, ?_, ?_⟩, by simp [intOf]; omega⟩
            · rw [hst.out, hs]; simp
            · rw [hst.out, hs]
              refine ⟨(Below.heap_setCell _ _ _ _ (by simp; omega)).trans ((Below.heap_setCell _ _ _ _ (by simp; omega)).trans ((Below.heap_setCell _ _ _ _ (by simp; omega)).trans D1.out)), ((BBV.out.set D4.out (by decide) (by decide)).set (blk_set D4.out 6 _) (by decide) (by decide)).set (blk_set (blk_set D4.out 6 _) 7 _) (by decide) (by decide), ⟨A2, cp2, blk_set (blk_set (blk_set D4.out 6 _) 7 _) 8 _⟩, RdB.set (RdB.set (RdB.set RV.out D4.out (by decide)) (blk_set D4.out 6 _) (by decide)) (blk_set (blk_set D4.out 6 _) 7 _) (by decide), ((HBV.out.setCell (by simp; omega) _).setCell (by simp; omega) _).setCell (by simp; omega) _, ?_, ?_⟩
              · simp only [List.length_append]; omega
              · simp; omega
          | true =>
            go_wp2_with fail
            refine (wr_str w.heap.size (w.heap.size + 1) acc txt V0 BB.out (by omega) HB.out.size).mono ?_
            rintro e V ⟨rfl, bbV, hbV, kV⟩
            have b1 := (kV _ _ 40 B1.out (by simp)).trans B1.out
            have b4 := (kV _ _ 40 B4.out (by simp)).trans B4.out
            have RV := Lib.hid (kV.rd (by simp) RA.out)
            have BBV := Lib.hid bbV
            have HBV := Lib.hid (HB.out.trans hbV)
            clear c6 bbV hbV kV
            have r6 : V.cell? ⟨w.heap.size + 1 + 1, 6, none⟩ = some (.int .i64 y.cv.k) := cellB b4 6 rfl
            have q6 := frozenB b4 6
            have r7 : V.cell? ⟨w.heap.size + 1 + 1, 7, none⟩ = some (.int .i64 y.cv.n) := cellB b4 7 rfl
            have q7 := frozenB b4 7
            have r8 : V.cell? ⟨w.heap.size + 1 + 1, 8, none⟩ = some (.string ⟨(y.cv.s).toArray⟩) := cellB b4 8 rfl
            have q8 := frozenB b4 8
            have D1 := Lib.hid b1
            have D4 := Lib.hid b4
            clear b1 b4
            go_wp2_with fail
            have hs : stepT l 76 (acc, true, y) = (acc ++ txt, true && true, { y with cv := Val.zero }) := by
              have : stepT l 76 (acc, true, y) = (acc ++ (litS l.cv).1, true && (litS l.cv).2, { y with cv := Val.zero }) := rfl
              rw [this, HLI.out]
            refine ⟨⟨k + 1, hlt, rfl, ?_, ?_⟩, by simp [intOf]; omega⟩
            · rw [hst.out, hs]; simp
            · rw [hst.out, hs]
              refine ⟨(Below.heap_setCell _ _ _ _ (by simp; omega)).trans ((Below.heap_setCell _ _ _ _ (by simp; omega)).trans ((Below.heap_setCell _ _ _ _ (by simp; omega)).trans D1.out)), ((BBV.out.set D4.out (by decide) (by decide)).set (blk_set D4.out 6 _) (by decide) (by decide)).set (blk_set (blk_set D4.out 6 _) 7 _) (by decide) (by decide), ⟨A2, cp2, blk_set (blk_set (blk_set D4.out 6 _) 7 _) 8 _⟩, RdB.set (RdB.set (RdB.set RV.out D4.out (by decide)) (blk_set D4.out 6 _) (by decide)) (blk_set (blk_set D4.out 6 _) 7 _) (by decide), ((HBV.out.setCell (by simp; omega) _).setCell (by simp; omega) _).setCell (by simp; omega) _, ?_, ?_⟩
              · simp only [List.length_append]; omega
              · simp; omega
      by_cases h73 : (⟨form.toArray⟩ : ByteArray)[k]'hlt = 73
      · have hst := Lib.hid (hsucc.out hlt _ h73)
        clear hsucc
        have c0 : wr.cell? ⟨w.heap.size, 0, none⟩ = some (.int .i64 l.op) := cellB b1 0 rfl
        have r0 : wr.cell? ⟨w.heap.size + 1 + 1, 0, none⟩ = some (.int .i64 y.op) := cellB b4 0 rfl
        have q0 := frozenB b4 0
        have c1 : wr.cell? ⟨w.heap.size, 1, none⟩ = some (.string ⟨(l.a).toArray⟩) := cellB b1 1 rfl
        have r1 : wr.cell? ⟨w.heap.size + 1 + 1, 1, none⟩ = some (.string ⟨(y.a).toArray⟩) := cellB b4 1 rfl
        have q1 := frozenB b4 1
        have c2 : wr.cell? ⟨w.heap.size, 2, none⟩ = some (.string ⟨(l.b).toArray⟩) := cellB b1 2 rfl
        have r2 : wr.cell? ⟨w.heap.size + 1 + 1, 2, none⟩ = some (.string ⟨(y.b).toArray⟩) := cellB b4 2 rfl
        have q2 := frozenB b4 2
        have c3 : wr.cell? ⟨w.heap.size, 3, none⟩ = some (.string ⟨(l.c).toArray⟩) := cellB b1 3 rfl
        have r3 : wr.cell? ⟨w.heap.size + 1 + 1, 3, none⟩ = some (.string ⟨(y.c).toArray⟩) := cellB b4 3 rfl
        have q3 := frozenB b4 3
        have c4 : wr.cell? ⟨w.heap.size, 4, none⟩ = some (.string ⟨(l.nm).toArray⟩) := cellB b1 4 rfl
        have r4 : wr.cell? ⟨w.heap.size + 1 + 1, 4, none⟩ = some (.string ⟨(y.nm).toArray⟩) := cellB b4 4 rfl
        have q4 := frozenB b4 4
        have c5 : wr.cell? ⟨w.heap.size, 5, none⟩ = some (.slice A l.args.length cp) := cellB b1 5 rfl
        have r5 : wr.cell? ⟨w.heap.size + 1 + 1, 5, none⟩ = some (.slice A2 y.args.length cp2) := cellB b4 5 rfl
        have q5 := frozenB b4 5
        have c6 : wr.cell? ⟨w.heap.size, 6, none⟩ = some (.int .i64 l.cv.k) := cellB b1 6 rfl
        have r6 : wr.cell? ⟨w.heap.size + 1 + 1, 6, none⟩ = some (.int .i64 y.cv.k) := cellB b4 6 rfl
        have q6 := frozenB b4 6
        have c7 : wr.cell? ⟨w.heap.size, 7, none⟩ = some (.int .i64 l.cv.n) := cellB b1 7 rfl
        have r7 : wr.cell? ⟨w.heap.size + 1 + 1, 7, none⟩ = some (.int .i64 y.cv.n) := cellB b4 7 rfl
        have q7 := frozenB b4 7
        have c8 : wr.cell? ⟨w.heap.size, 8, none⟩ = some (.string ⟨(l.cv.s).toArray⟩) := cellB b1 8 rfl
        have r8 : wr.cell? ⟨w.heap.size + 1 + 1, 8, none⟩ = some (.string ⟨(y.cv.s).toArray⟩) := cellB b4 8 rfl
        have q8 := frozenB b4 8
        have LR := Lib.hid (HL.out.belowB hB HB.out)
        have hll := litS_length l.cv HS.out.s HS.out.n
        clear b1 b4
        go_wp2_with (first | (go_at_call 54; refine (field_no _ 73 _ rfl).mono ?_; rintro e w' ⟨rfl, rfl⟩))
        refine (literal_calls' l.cv _ LR.out HS.out.n (by have := HS.out.s; omega)).mono ?_
        rintro e V0 ⟨rfl, hV0⟩
        have b1 := (hV0.block _ (sizeB B1.out)).trans B1.out
        have b4 := (hV0.block _ (sizeB B4.out)).trans B4.out
        have RA := Lib.hid (RA.out.below hV0)
        have BB := Lib.hid (BB.out.below hV0)
        have HB := Lib.hid (HB.out.trans (hV0.mono HB.out.size))
        have B1 := Lib.hid b1
        have B4 := Lib.hid b4
        clear c0 r0 q0 c1 r1 q1 c2 r2 q2 c3 r3 q3 c4 r4 q4 c5 r5 q5 c6 r6 q6 c7 r7 q7 c8 r8 q8 hV0
        have c6 : V0.cell? ⟨w.heap.size, 6, none⟩ = some (.int .i64 l.cv.k) := cellB b1 6 rfl
        clear b1 b4
        generalize hlit : litS l.cv = tt at *
        obtain ⟨txt, right⟩ := tt
        simp only at hll
        have HLI := Lib.hid hlit
        clear hlit
        cases ok with
        | false =>
          cases right with
          | false =>
            cases hk3 : decide (l.cv.k = 3) with
            | false =>
              have hk3' : (l.cv.k == 3) = false := by simpa using hk3
              go_wp2_with fail
              refine (wr_str w.heap.size (w.heap.size + 1) acc txt V0 BB.out (by omega) HB.out.size).mono ?_
              rintro e V ⟨rfl, bbV, hbV, kV⟩
              have b1 := (kV _ _ 40 B1.out (by simp)).trans B1.out
              have b4 := (kV _ _ 40 B4.out (by simp)).trans B4.out
              have RV := Lib.hid (kV.rd (by simp) RA.out)
              have BBV := Lib.hid bbV
              have HBV := Lib.hid (HB.out.trans hbV)
              clear c6 bbV hbV kV
              have r6 : V.cell? ⟨w.heap.size + 1 + 1, 6, none⟩ = some (.int .i64 y.cv.k) := cellB b4 6 rfl
              have q6 := frozenB b4 6
              have r7 : V.cell? ⟨w.heap.size + 1 + 1, 7, none⟩ = some (.int .i64 y.cv.n) := cellB b4 7 rfl
              have q7 := frozenB b4 7
              have r8 : V.cell? ⟨w.heap.size + 1 + 1, 8, none⟩ = some (.string ⟨(y.cv.s).toArray⟩) := cellB b4 8 rfl
              have q8 := frozenB b4 8
              have D1 := Lib.hid b1
              have D4 := Lib.hid b4
              clear b1 b4
              go_wp2_with fail
              have hs : stepT l 73 (acc, false, y) = (acc ++ txt, false && false && false, { y with cv := Val.zero }) := by
                have : stepT l 73 (acc, false, y) = (acc ++ (litS l.cv).1, false && (litS l.cv).2 && decide (l.cv.k = 3), { y with cv := Val.zero }) := rfl
                rw [this, HLI.out, hk3]
              refine ⟨⟨k + 1, hlt, rfl, ?_, ?_⟩, by simp [intOf]; omega⟩
              · rw [hst.out, hs]; simp
              · rw [hst.out, hs]
                refine ⟨(Below.heap_setCell _ _ _ _ (by simp; omega)).trans ((Below.heap_setCell _ _ _ _ (by simp; omega)).trans ((Below.heap_setCell _ _ _ _ (by simp; omega)).trans D1.out)), ((BBV.out.set D4.out (by decide) (by decide)).set (blk_set D4.out 6 _) (by decide) (by decide)).set (blk_set (blk_set D4.out 6 _) 7 _) (by decide) (by decide), ⟨A2, cp2, blk_set (blk_set (blk_set D4.out 6 _) 7 _) 8 _⟩, RdB.set (RdB.set (RdB.set RV.out D4.out (by decide)) (blk_set D4.out 6 _) (by decide)) (blk_set (blk_set D4.out 6 _) 7 _) (by decide), ((HBV.out.setCell (by simp; omega) _).setCell (by simp; omega) _).setCell (by simp; omega) _, ?_, ?_⟩
                · simp only [List.length_append]; omega
                · simp; omega
            | true =>
              have hk3' : (l.cv.k == 3) = true := by simpa using hk3
              go_wp2_with fail
              refine (wr_str w.heap.size (w.heap.size + 1) acc txt V0 BB.out (by omega) HB.out.size).mono ?_
              rintro e V ⟨rfl, bbV, hbV, kV⟩
              have b1 := (kV _ _ 40 B1.out (by simp)).trans B1.out
              have b4 := (kV _ _ 40 B4.out (by simp)).trans B4.out
              have RV := Lib.hid (kV.rd (by simp) RA.out)
              have BBV := Lib.hid bbV
              have HBV := Lib.hid (HB.out.trans hbV)
              clear c6 bbV hbV kV
              have r6 : V.cell? ⟨w.heap.size + 1 + 1, 6, none⟩ = some (.int .i64 y.cv.k) := cellB b4 6 rfl
              have q6 := frozenB b4 6
              have r7 : V.cell? ⟨w.heap.size + 1 + 1, 7, none⟩ = some (.int .i64 y.cv.n) := cellB b4 7 rfl
              have q7 := frozenB b4 7
              have r8 : V.cell? ⟨w.heap.size + 1 + 1, 8, none⟩ = some (.string ⟨(y.cv.s).toArray⟩) := cellB b4 8 rfl
              have q8 := frozenB b4 8
              have D1 := Lib.hid b1
              have D4 := Lib.hid b4
              clear b1 b4
              go_wp2_with fail
              have hs : stepT l 73 (acc, false, y) = (acc ++ txt, false && false && true, { y with cv := Val.zero }) := by
                have : stepT l 73 (acc, false, y) = (acc ++ (litS l.cv).1, false && (litS l.cv).2 && decide (l.cv.k = 3), { y with cv := Val.zero }) := rfl
                rw [this, HLI.out, hk3]
              refine ⟨⟨k + 1, hlt, rfl, ?_, ?_⟩, by simp [intOf]; omega⟩
              · rw [hst.out, hs]; simp
              · rw [hst.out, hs]
                refine ⟨(Below.heap_setCell _ _ _ _ (by simp; omega)).trans ((Below.heap_setCell _ _ _ _ (by simp; omega)).trans ((Below.heap_setCell _ _ _ _ (by simp; omega)).trans D1.out)), ((BBV.out.set D4.out (by decide) (by decide)).set (blk_set D4.out 6 _) (by decide) (by decide)).set (blk_set (blk_set D4.out 6 _) 7 _) (by decide) (by decide), ⟨A2, cp2, blk_set (blk_set (blk_set D4.out 6 _) 7 _) 8 _⟩, RdB.set (RdB.set (RdB.set RV.out D4.out (by decide)) (blk_set D4.out 6 _) (by decide)) (blk_set (blk_set D4.out 6 _) 7 _) (by decide), ((HBV.out.setCell (by simp; omega) _).setCell (by simp; omega) _).setCell (by simp; omega) _, ?_, ?_⟩
                · simp only [List.length_append]; omega
                · simp; omega
          | true =>
            cases hk3 : decide (l.cv.k = 3) with
            | false =>
              have hk3' : (l.cv.k == 3) = false := by simpa using hk3
              go_wp2_with fail
              refine (wr_str w.heap.size (w.heap.size + 1) acc txt V0 BB.out (by omega) HB.out.size).mono ?_
              rintro e V ⟨rfl, bbV, hbV, kV⟩
              have b1 := (kV _ _ 40 B1.out (by simp)).trans B1.out
              have b4 := (kV _ _ 40 B4.out (by simp)).trans B4.out
              have RV := Lib.hid (kV.rd (by simp) RA.out)
              have BBV := Lib.hid bbV
              have HBV := Lib.hid (HB.out.trans hbV)
              clear c6 bbV hbV kV
              have r6 : V.cell? ⟨w.heap.size + 1 + 1, 6, none⟩ = some (.int .i64 y.cv.k) := cellB b4 6 rfl
              have q6 := frozenB b4 6
              have r7 : V.cell? ⟨w.heap.size + 1 + 1, 7, none⟩ = some (.int .i64 y.cv.n) := cellB b4 7 rfl
              have q7 := frozenB b4 7
              have r8 : V.cell? ⟨w.heap.size + 1 + 1, 8, none⟩ = some (.string ⟨(y.cv.s).toArray⟩) := cellB b4 8 rfl
              have q8 := frozenB b4 8
              have D1 := Lib.hid b1
              have D4 := Lib.hid b4
              clear b1 b4
              go_wp2_with fail
              have hs : stepT l 73 (acc, false, y) = (acc ++ txt, false && true && false, { y with cv := Val.zero }) := by
                have : stepT l 73 (acc, false, y) = (acc ++ (litS l.cv).1, false && (litS l.cv).2 && decide (l.cv.k = 3), { y with cv := Val.zero }) := rfl
                rw [this, HLI.out, hk3]
              refine ⟨⟨k + 1, hlt, rfl, ?_, ?_⟩, by simp [intOf]; omega⟩
              · rw [hst.out, hs]; simp
              · rw [hst.out, hs]
                refine ⟨(Below.heap_setCell _ _ _ _ (by simp; omega)).trans ((Below.heap_setCell _ _ _ _ (by simp; omega)).trans ((Below.heap_setCell _ _ _ _ (by simp; omega)).trans D1.out)), ((BBV.out.set D4.out (by decide) (by decide)).set (blk_set D4.out 6 _) (by decide) (by decide)).set (blk_set (blk_set D4.out 6 _) 7 _) (by decide) (by decide), ⟨A2, cp2, blk_set (blk_set (blk_set D4.out 6 _) 7 _) 8 _⟩, RdB.set (RdB.set (RdB.set RV.out D4.out (by decide)) (blk_set D4.out 6 _) (by decide)) (blk_set (blk_set D4.out 6 _) 7 _) (by decide), ((HBV.out.setCell (by simp; omega) _).setCell (by simp; omega) _).setCell (by simp; omega) _, ?_, ?_⟩
                · simp only [List.length_append]; omega
                · simp; omega
            | true =>
              have hk3' : (l.cv.k == 3) = true := by simpa using hk3
              go_wp2_with fail
              refine (wr_str w.heap.size (w.heap.size + 1) acc txt V0 BB.out (by omega) HB.out.size).mono ?_
              rintro e V ⟨rfl, bbV, hbV, kV⟩
              have b1 := (kV _ _ 40 B1.out (by simp)).trans B1.out
              have b4 := (kV _ _ 40 B4.out (by simp)).trans B4.out
              have RV := Lib.hid (kV.rd (by simp) RA.out)
              have BBV := Lib.hid bbV
              have HBV := Lib.hid (HB.out.trans hbV)
              clear c6 bbV hbV kV
              have r6 : V.cell? ⟨w.heap.size + 1 + 1, 6, none⟩ = some (.int .i64 y.cv.k) := cellB b4 6 rfl
              have q6 := frozenB b4 6
              have r7 : V.cell? ⟨w.heap.size + 1 + 1, 7, none⟩ = some (.int .i64 y.cv.n) := cellB b4 7 rfl
              have q7 := frozenB b4 7
              have r8 : V.cell? ⟨w.heap.size + 1 + 1, 8, none⟩ = some (.string ⟨(y.cv.s).toArray⟩) := cellB b4 8 rfl
              have q8 := frozenB b4 8
              have D1 := Lib.hid b1
              have D4 := Lib.hid b4
              clear b1 b4
              go_wp2_with fail
              have hs : stepT l 73 (acc, false, y) = (acc ++ txt, false && true && true, { y with cv := Val.zero }) := by
                have : stepT l 73 (acc, false, y) = (acc ++ (litS l.cv).1, false && (litS l.cv).2 && decide (l.cv.k = 3), { y with cv := Val.zero }) := rfl
                rw [this, HLI.out, hk3]
              refine ⟨⟨k + 1, hlt, rfl, ?_, ?_⟩, by simp [intOf]; omega⟩
              · rw [hst.out, hs]; simp
              · rw [hst.out, hs]
                refine ⟨(Below.heap_setCell _ _ _ _ (by simp; omega)).trans ((Below.heap_setCell _ _ _ _ (by simp; omega)).trans ((Below.heap_setCell _ _ _ _ (by simp; omega)).trans D1.out)), ((BBV.out.set D4.out (by decide) (by decide)).set (blk_set D4.out 6 _) (by decide) (by decide)).set (blk_set (blk_set D4.out 6 _) 7 _) (by decide) (by decide), ⟨A2, cp2, blk_set (blk_set (blk_set D4.out 6 _) 7 _) 8 _⟩, RdB.set (RdB.set (RdB.set RV.out D4.out (by decide)) (blk_set D4.out 6 _) (by decide)) (blk_set (blk_set D4.out 6 _) 7 _) (by decide), ((HBV.out.setCell (by simp; omega) _).setCell (by simp; omega) _).setCell (by simp; omega) _, ?_, ?_⟩
                · simp only [List.length_append]; omega
                · simp; omega
        | true =>
          cases right with
          | false =>
            cases hk3 : decide (l.cv.k = 3) with
            | false =>
              have hk3' : (l.cv.k == 3) = false := by simpa using hk3
              go_wp2_with fail
              refine (wr_str w.heap.size (w.heap.size + 1) acc txt V0 BB.out (by omega) HB.out.size).mono ?_
              rintro e V ⟨rfl, bbV, hbV, kV⟩
              have b1 := (kV _ _ 40 B1.out (by simp)).trans B1.out
              have b4 := (kV _ _ 40 B4.out (by simp)).trans B4.out
              have RV := Lib.hid (kV.rd (by simp) RA.out)
              have BBV := Lib.hid bbV
              have HBV := Lib.hid (HB.out.trans hbV)
              clear c6 bbV hbV kV
              have r6 : V.cell? ⟨w.heap.size + 1 + 1, 6, none⟩ = some (.int .i64 y.cv.k) := cellB b4 6 rfl
              have q6 := frozenB b4 6
              have r7 : V.cell? ⟨w.heap.size + 1 + 1, 7, none⟩ = some (.int .i64 y.cv.n) := cellB b4 7 rfl
              have q7 := frozenB b4 7
              have r8 : V.cell? ⟨w.heap.size + 1 + 1, 8, none⟩ = some (.string ⟨(y.cv.s).toArray⟩) := cellB b4 8 rfl
              have q8 := frozenB b4 8
              have D1 := Lib.hid b1
              have D4 := Lib.hid b4
              clear b1 b4
              go_wp2_with fail
              have hs : stepT l 73 (acc, true, y) = (acc ++ txt, true && false && false, { y with cv := Val.zero }) := by
                have : stepT l 73 (acc, true, y) = (acc ++ (litS l.cv).1, true && (litS l.cv).2 && decide (l.cv.k = 3), { y with cv := Val.zero }) := rfl
                rw [this, HLI.out, hk3]
              refine ⟨⟨k + 1, hlt, rfl, ?_, ?_⟩, by simp [intOf]; omega⟩
              · rw [hst.out, hs]; simp
              · rw [hst.out, hs]
                refine ⟨(Below.heap_setCell _ _ _ _ (by simp; omega)).trans ((Below.heap_setCell _ _ _ _ (by simp; omega)).trans ((Below.heap_setCell _ _ _ _ (by simp; omega)).trans D1.out)), ((BBV.out.set D4.out (by decide) (by decide)).set (blk_set D4.out 6 _) (by decide) (by decide)).set (blk_set (blk_set D4.out 6 _) 7 _) (by decide) (by decide), ⟨A2, cp2, blk_set (blk_set (blk_set D4.out 6 _) 7 _) 8 _⟩, RdB.set (RdB.set (RdB.set RV.out D4.out (by decide)) (blk_set D4.out 6 _) (by decide)) (blk_set (blk_set D4.out 6 _) 7 _) (by decide), ((HBV.out.setCell (by simp; omega) _).setCell (by simp; omega) _).setCell (by simp; omega) _, ?_, ?_⟩
                · simp only [List.length_append]; omega
                · simp; omega
            | true =>
              have hk3' : (l.cv.k == 3) = true := by simpa using hk3
              go_wp2_with fail
              refine (wr_str w.heap.size (w.heap.size + 1) acc txt V0 BB.out (by omega) HB.out.size).mono ?_
              rintro e V ⟨rfl, bbV, hbV, kV⟩
              have b1 := (kV _ _ 40 B1.out (by simp)).trans B1.out
              have b4 := (kV _ _ 40 B4.out (by simp)).trans B4.out
              have RV := Lib.hid (kV.rd (by simp) RA.out)
              have BBV := Lib.hid bbV
              have HBV := Lib.hid (HB.out.trans hbV)
              clear c6 bbV hbV kV
              have r6 : V.cell? ⟨w.heap.size + 1 + 1, 6, none⟩ = some (.int .i64 y.cv.k) := cellB b4 6 rfl
              have q6 := frozenB b4 6
              have r7 : V.cell? ⟨w.heap.size + 1 + 1, 7, none⟩ = some (.int .i64 y.cv.n) := cellB b4 7 rfl
              have q7 := frozenB b4 7
              have r8 : V.cell? ⟨w.heap.size + 1 + 1, 8, none⟩ = some (.string ⟨(y.cv.s).toArray⟩) := cellB b4 8 rfl
              have q8 := frozenB b4 8
              have D1 := Lib.hid b1
              have D4 := Lib.hid b4
              clear b1 b4
              go_wp2_with fail
              have hs : stepT l 73 (acc, true, y) = (acc ++ txt, true && false && true, { y with cv := Val.zero }) := by
                have : stepT l 73 (acc, true, y) = (acc ++ (litS l.cv).1, true && (litS l.cv).2 && decide (l.cv.k = 3), { y with cv := Val.zero }) := rfl
                rw [this, HLI.out, hk3]
              refine ⟨⟨k + 1, hlt, rfl, ?_, ?_⟩, by simp [intOf]; omega⟩
              · rw [hst.out, hs]; simp
              · rw [hst.out, hs]
                refine ⟨(Below.heap_setCell _ _ _ _ (by simp; omega)).trans ((Below.heap_setCell _ _ _ _ (by simp; omega)).trans ((Below.heap_setCell _ _ _ _ (by simp; omega)).trans D1.out)), ((BBV.out.set D4.out (by decide) (by decide)).set (blk_set D4.out 6 _) (by decide) (by decide)).set (blk_set (blk_set D4.out 6 _) 7 _) (by decide) (by decide), ⟨A2, cp2, blk_set (blk_set (blk_set D4.out 6 _) 7 _) 8 _⟩, RdB.set (RdB.set (RdB.set RV.out D4.out (by decide)) (blk_set D4.out 6 _) (by decide)) (blk_set (blk_set D4.out 6 _) 7 _) (by decide), ((HBV.out.setCell (by simp; omega) _).setCell (by simp; omega) _).setCell (by simp; omega) _, ?_, ?_⟩
                · simp only [List.length_append]; omega
                · simp; omega
          | true =>
            cases hk3 : decide (l.cv.k = 3) with
            | false =>
              have hk3' : (l.cv.k == 3) = false := by simpa using hk3
              go_wp2_with fail
              refine (wr_str w.heap.size (w.heap.size + 1) acc txt V0 BB.out (by omega) HB.out.size).mono ?_
              rintro e V ⟨rfl, bbV, hbV, kV⟩
              have b1 := (kV _ _ 40 B1.out (by simp)).trans B1.out
              have b4 := (kV _ _ 40 B4.out (by simp)).trans B4.out
              have RV := Lib.hid (kV.rd (by simp) RA.out)
              have BBV := Lib.hid bbV
              have HBV := Lib.hid (HB.out.trans hbV)
              clear c6 bbV hbV kV
              have r6 : V.cell? ⟨w.heap.size + 1 + 1, 6, none⟩ = some (.int .i64 y.cv.k) := cellB b4 6 rfl
              have q6 := frozenB b4 6
              have r7 : V.cell? ⟨w.heap.size + 1 + 1, 7, none⟩ = some (.int .i64 y.cv.n) := cellB b4 7 rfl
              have q7 := frozenB b4 7
              have r8 : V.cell? ⟨w.heap.size + 1 + 1, 8, none⟩ = some (.string ⟨(y.cv.s).toArray⟩) := cellB b4 8 rfl
              have q8 := frozenB b4 8
              have D1 := Lib.hid b1
              have D4 := Lib.hid b4
              clear b1 b4
              go_wp2_with fail
              have hs : stepT l 73 (acc, true, y) = (acc ++ txt, true && true && false, { y with cv := Val.zero }) := by
                have : stepT l 73 (acc, true, y) = (acc ++ (litS l.cv).1, true && (litS l.cv).2 && decide (l.cv.k = 3), { y with cv := Val.zero }) := rfl
                rw [this, HLI.out, hk3]
              refine ⟨⟨k + 1, hlt, rfl, ?_, ?_⟩, by simp [intOf]; omega⟩
              · rw [hst.out, hs]; simp
              · rw [hst.out, hs]
                refine ⟨(Below.heap_setCell _ _ _ _ (by simp; omega)).trans ((Below.heap_setCell _ _ _ _ (by simp; omega)).trans ((Below.heap_setCell _ _ _ _ (by simp; omega)).trans D1.out)), ((BBV.out.set D4.out (by decide) (by decide)).set (blk_set D4.out 6 _) (by decide) (by decide)).set (blk_set (blk_set D4.out 6 _) 7 _) (by decide) (by decide), ⟨A2, cp2, blk_set (blk_set (blk_set D4.out 6 _) 7 _) 8 _⟩, RdB.set (RdB.set (RdB.set RV.out D4.out (by decide)) (blk_set D4.out 6 _) (by decide)) (blk_set (blk_set D4.out 6 _) 7 _) (by decide), ((HBV.out.setCell (by simp; omega) _).setCell (by simp; omega) _).setCell (by simp; omega) _, ?_, ?_⟩
                · simp only [List.length_append]; omega
                · simp; omega
            | true =>
              have hk3' : (l.cv.k == 3) = true := by simpa using hk3
              go_wp2_with fail
              refine (wr_str w.heap.size (w.heap.size + 1) acc txt V0 BB.out (by omega) HB.out.size).mono ?_
              rintro e V ⟨rfl, bbV, hbV, kV⟩
              have b1 := (kV _ _ 40 B1.out (by simp)).trans B1.out
              have b4 := (kV _ _ 40 B4.out (by simp)).trans B4.out
              have RV := Lib.hid (kV.rd (by simp) RA.out)
              have BBV := Lib.hid bbV
              have HBV := Lib.hid (HB.out.trans hbV)
              clear c6 bbV hbV kV
              have r6 : V.cell? ⟨w.heap.size + 1 + 1, 6, none⟩ = some (.int .i64 y.cv.k) := cellB b4 6 rfl
              have q6 := frozenB b4 6
              have r7 : V.cell? ⟨w.heap.size + 1 + 1, 7, none⟩ = some (.int .i64 y.cv.n) := cellB b4 7 rfl
              have q7 := frozenB b4 7
              have r8 : V.cell? ⟨w.heap.size + 1 + 1, 8, none⟩ = some (.string ⟨(y.cv.s).toArray⟩) := cellB b4 8 rfl
              have q8 := frozenB b4 8
              have D1 := Lib.hid b1
              have D4 := Lib.hid b4
              clear b1 b4
              go_wp2_with fail
              have hs : stepT l 73 (acc, true, y) = (acc ++ txt, true && true && true, { y with cv := Val.zero }) := by
                have : stepT l 73 (acc, true, y) = (acc ++ (litS l.cv).1, true && (litS l.cv).2 && decide (l.cv.k = 3), { y with cv := Val.zero }) := rfl
                rw [this, HLI.out, hk3]
              refine ⟨⟨k + 1, hlt, rfl, ?_, ?_⟩, by simp [intOf]; omega⟩
              · rw [hst.out, hs]; simp
              · rw [hst.out, hs]
                refine ⟨(Below.heap_setCell _ _ _ _ (by simp; omega)).trans ((Below.heap_setCell _ _ _ _ (by simp; omega)).trans ((Below.heap_setCell _ _ _ _ (by simp; omega)).trans D1.out)), ((BBV.out.set D4.out (by decide) (by decide)).set (blk_set D4.out 6 _) (by decide) (by decide)).set (blk_set (blk_set D4.out 6 _) 7 _) (by decide) (by decide), ⟨A2, cp2, blk_set (blk_set (blk_set D4.out 6 _) 7 _) 8 _⟩, RdB.set (RdB.set (RdB.set RV.out D4.out (by decide)) (blk_set D4.out 6 _) (by decide)) (blk_set (blk_set D4.out 6 _) 7 _) (by decide), ((HBV.out.setCell (by simp; omega) _).setCell (by simp; omega) _).setCell (by simp; omega) _, ?_, ?_⟩
                · simp only [List.length_append]; omega
                · simp; omega
      by_cases h126 : (⟨form.toArray⟩ : ByteArray)[k]'hlt = 126
      · have hst := Lib.hid (hsucc.out hlt _ h126)
        clear hsucc hfull
        have c0 : wr.cell? ⟨w.heap.size, 0, none⟩ = some (.int .i64 l.op) := cellB b1 0 rfl
        have r0 : wr.cell? ⟨w.heap.size + 1 + 1, 0, none⟩ = some (.int .i64 y.op) := cellB b4 0 rfl
        have q0 := frozenB b4 0
        have c1 : wr.cell? ⟨w.heap.size, 1, none⟩ = some (.string ⟨(l.a).toArray⟩) := cellB b1 1 rfl
        have r1 : wr.cell? ⟨w.heap.size + 1 + 1, 1, none⟩ = some (.string ⟨(y.a).toArray⟩) := cellB b4 1 rfl
        have q1 := frozenB b4 1
        have c2 : wr.cell? ⟨w.heap.size, 2, none⟩ = some (.string ⟨(l.b).toArray⟩) := cellB b1 2 rfl
        have r2 : wr.cell? ⟨w.heap.size + 1 + 1, 2, none⟩ = some (.string ⟨(y.b).toArray⟩) := cellB b4 2 rfl
        have q2 := frozenB b4 2
        have c3 : wr.cell? ⟨w.heap.size, 3, none⟩ = some (.string ⟨(l.c).toArray⟩) := cellB b1 3 rfl
        have r3 : wr.cell? ⟨w.heap.size + 1 + 1, 3, none⟩ = some (.string ⟨(y.c).toArray⟩) := cellB b4 3 rfl
        have q3 := frozenB b4 3
        have c4 : wr.cell? ⟨w.heap.size, 4, none⟩ = some (.string ⟨(l.nm).toArray⟩) := cellB b1 4 rfl
        have r4 : wr.cell? ⟨w.heap.size + 1 + 1, 4, none⟩ = some (.string ⟨(y.nm).toArray⟩) := cellB b4 4 rfl
        have q4 := frozenB b4 4
        have c5 : wr.cell? ⟨w.heap.size, 5, none⟩ = some (.slice A l.args.length cp) := cellB b1 5 rfl
        have r5 : wr.cell? ⟨w.heap.size + 1 + 1, 5, none⟩ = some (.slice A2 y.args.length cp2) := cellB b4 5 rfl
        have q5 := frozenB b4 5
        have c6 : wr.cell? ⟨w.heap.size, 6, none⟩ = some (.int .i64 l.cv.k) := cellB b1 6 rfl
        have r6 : wr.cell? ⟨w.heap.size + 1 + 1, 6, none⟩ = some (.int .i64 y.cv.k) := cellB b4 6 rfl
        have q6 := frozenB b4 6
        have c7 : wr.cell? ⟨w.heap.size, 7, none⟩ = some (.int .i64 l.cv.n) := cellB b1 7 rfl
        have r7 : wr.cell? ⟨w.heap.size + 1 + 1, 7, none⟩ = some (.int .i64 y.cv.n) := cellB b4 7 rfl
        have q7 := frozenB b4 7
        have c8 : wr.cell? ⟨w.heap.size, 8, none⟩ = some (.string ⟨(l.cv.s).toArray⟩) := cellB b1 8 rfl
        have r8 : wr.cell? ⟨w.heap.size + 1 + 1, 8, none⟩ = some (.string ⟨(y.cv.s).toArray⟩) := cellB b4 8 rfl
        have q8 := frozenB b4 8
        clear b1 b4
        have hal := flat_args l.args
        have hab := HS.out.args
        go_wp2_with (first | (go_at_call 54; refine (field_no _ 126 _ rfl).mono ?_; rintro e w' ⟨rfl, rfl⟩))
        clear c0 r0 q0 c1 r1 q1 c2 r2 q2 c3 r3 q3 c4 r4 q4 c5 r5 q5 c6 r6 q6 c7 r7 q7 c8 r8 q8
        go_loopw [7, 89] (fun o i wv => ∃ j : Nat, j ≤ l.args.length ∧ i = .int .i64 j ∧ o = .bool (ok && (l.args.take j).all nameS) ∧ URel l A cp w y A2 cp2 (acc ++ (l.args.take j).flatMap (fun a => (32 : UInt8) :: a)) wv) (fun _ i _ => l.args.length - (intOf i).toNat)
        case atStart => exact ⟨0, Nat.zero_le _, rfl, by simp, by rw [List.take_zero, List.flatMap_nil, List.append_nil]; exact ⟨B1.out, BB.out, B4.out, RA.out, HB.out⟩⟩
        case round =>
          obtain ⟨j, hj, rfl, rfl, hU⟩ := hrel
          obtain ⟨b1, bb, b4, hra, hb⟩ := hU
          have B1 := Lib.hid b1
          have BB := Lib.hid bb
          have B4 := Lib.hid b4
          have RA := Lib.hid hra
          have HB := Lib.hid hb
          clear bb hra hb
          have hacc2 : (acc ++ (l.args.take j).flatMap (fun a => (32 : UInt8) :: a)).length ≤ 50000000000 := by have := hal.2.2 j; simp only [List.length_append]; omega
          by_cases hjl : j < l.args.length
          · obtain ⟨g, off, cs, hAe, hg, hcs⟩ : ∃ g off cs, A = some ⟨g, off, none⟩ ∧ wr.heap[g]? = some (.cells cs 9 (0, 0)) ∧ ∀ j u, (strs l.args)[j]? = some u → cs[off + j]? = some u := by
              rcases RA.out with h | h
              · have := congrArg List.length h; simp [strs] at this; rw [this] at hjl; simp at hjl
              · exact h
            have hel : wr.cell? ⟨g, off + j, none⟩ = some (.string ⟨(l.args[j]).toArray⟩) := cellB hg _ (hcs _ _ (by have h := strs_at l.args j hjl; simpa using h))
            have hlen1 := hal.2.1 _ (List.getElem_mem hjl)
            have hcat : ((⟨#[32]⟩ : ByteArray) ++ ⟨(l.args[j]).toArray⟩) = ⟨((32 : UInt8) :: l.args[j]).toArray⟩ := by
              apply ByteArray.ext; apply Array.toList_inj.1; simp
            subst hAe
            have hnext : Hid (((l.args.take (j + 1)).all nameS = ((l.args.take j).all nameS && nameS l.args[j])) ∧ (l.args.take (j + 1)).flatMap (fun a => (32 : UInt8) :: a) = (l.args.take j).flatMap (fun a => (32 : UInt8) :: a) ++ (32 :: l.args[j])) := Lib.hid (by
              rw [List.take_succ_eq_append_getElem hjl, List.all_append, List.flatMap_append]; simp)
            generalize l.args[j] = x at *
            clear hg hcs b1 b4
            generalize hok : (ok && (l.args.take j).all nameS) = okj
            have HOK := Lib.hid hok
            clear hok
            cases okj with
            | false =>
              go_wp2_with fail
              refine (wr_str w.heap.size (w.heap.size + 1) _ (32 :: x) _ BB.out (by simp only [List.length_cons]; omega) HB.out.size).mono ?_
              rintro e V ⟨rfl, bbV, hbV, kV⟩
              have D1 := Lib.hid ((kV _ _ 40 B1.out (by simp)).trans B1.out)
              have D4 := Lib.hid ((kV _ _ 40 B4.out (by simp)).trans B4.out)
              have RV := Lib.hid (kV.rd (by simp) RA.out)
              have BBV := Lib.hid bbV
              have HBV := Lib.hid (HB.out.trans hbV)
              clear bbV hbV kV hel
              go_wp2_with fail
              refine ⟨⟨j + 1, hjl, rfl, ?_, ?_⟩, by simp [intOf]; omega⟩
              · rw [hnext.out.1, ← Bool.and_assoc, HOK.out]; simp
              · rw [hnext.out.2, ← List.append_assoc]
                exact ⟨D1.out, BBV.out, D4.out, RV.out, HBV.out⟩
            | true =>
              go_wp2_with (go_at_call 29; refine (name_calls x _ (by omega)).mono ?_; rintro e w' ⟨rfl, rfl⟩)
              refine (wr_str w.heap.size (w.heap.size + 1) _ (32 :: x) _ BB.out (by simp only [List.length_cons]; omega) HB.out.size).mono ?_
              rintro e V ⟨rfl, bbV, hbV, kV⟩
              have D1 := Lib.hid ((kV _ _ 40 B1.out (by simp)).trans B1.out)
              have D4 := Lib.hid ((kV _ _ 40 B4.out (by simp)).trans B4.out)
              have RV := Lib.hid (kV.rd (by simp) RA.out)
              have BBV := Lib.hid bbV
              have HBV := Lib.hid (HB.out.trans hbV)
              clear bbV hbV kV hel
              go_wp2_with fail
              refine ⟨⟨j + 1, hjl, rfl, ?_, ?_⟩, by simp [intOf]; omega⟩
              · rw [hnext.out.1, ← Bool.and_assoc, HOK.out]; simp
              · rw [hnext.out.2, ← List.append_assoc]
                exact ⟨D1.out, BBV.out, D4.out, RV.out, HBV.out⟩
          · have hj' : j = l.args.length := by omega
            subst hj'
            rw [List.take_length] at *
            have hs : Hid (stepT l 126 (acc, ok, y) = (acc ++ l.args.flatMap (fun a => 32 :: a), ok && l.args.all nameS && decide (l.args.length ≤ 8), { y with args := [] })) := Lib.hid rfl
            generalize hok : (ok && l.args.all nameS) = okj at hs ⊢
            have c5 : wr.cell? ⟨w.heap.size, 5, none⟩ = some (.slice A l.args.length cp) := cellB b1 5 rfl
            have r5 : wr.cell? ⟨w.heap.size + 1 + 1, 5, none⟩ = some (.slice A2 y.args.length cp2) := cellB b4 5 rfl
            have q5 := frozenB b4 5
            clear b1 b4 hok
            have fin : ∀ v : Bool, v = (okj && decide (l.args.length ≤ 8)) → TRel l A cp w (k + 1) (acc ++ l.args.flatMap (fun a => 32 :: a), v, { y with args := [] }) (wr.setCell ⟨w.heap.size + 1 + 1, 5, none⟩ (.slice none 0 0)) := fun v hv => by
              refine ⟨(Below.heap_setCell _ _ _ _ (by simp; omega)).trans B1.out, BB.out.set B4.out (by decide) (by decide), ⟨none, 0, blk_set B4.out 5 _⟩, RdB.set RA.out B4.out (by decide), HB.out.setCell (by simp; omega) _, ?_, hya, hyb, hyc, hyn⟩
              simp only [List.length_append]; omega
            have FIN := Lib.hid fin
            clear fin
            cases okj with
            | false =>
              go_wp2_with fail
              refine ⟨⟨k + 1, hlt, rfl, ?_, ?_⟩, by simp [intOf]; omega⟩
              · rw [hst.out, hs.out]; rfl
              · rw [hst.out, hs.out]; exact FIN.out _ rfl
            | true =>
              cases h8 : decide (l.args.length ≤ 8) with
              | true =>
                have h8' : (l.args.length : Int) ≤ 8 := by simp at h8; omega
                have H8 := Lib.hid h8
                clear h8
                go_wp2_with fail
                refine ⟨⟨k + 1, hlt, rfl, ?_, ?_⟩, by simp [intOf]; omega⟩
                · rw [hst.out, hs.out, H8.out]; rfl
                · rw [hst.out, hs.out, H8.out]; exact FIN.out _ (by rw [H8.out])
              | false =>
                have h8' : decide ((l.args.length : Int) ≤ 8) = false := by simp at h8 ⊢; omega
                have H8 := Lib.hid h8
                clear h8
                go_wp2_with fail
                refine ⟨⟨k + 1, hlt, rfl, ?_, ?_⟩, by simp [intOf]; omega⟩
                · rw [hst.out, hs.out, H8.out]; rfl
                · rw [hst.out, hs.out, H8.out]; exact FIN.out _ (by rw [H8.out])
      obtain ⟨c, hc⟩ : ∃ c, (⟨form.toArray⟩ : ByteArray)[k]'hlt = c := ⟨_, rfl⟩
      have hst := Lib.hid (hsucc.out hlt _ hc)
      rw [hc] at h65 h66 h67 h78 h76 h73 h126
      have hfn : fieldN (c.toNat : Int) = none := fieldN_none h65 h66 h67 h78
      have e76 : ((c.toNat : Int) == 76) = false := byte_ne h76
      have e73 : ((c.toNat : Int) == 73) = false := byte_ne h73
      have e126 : ((c.toNat : Int) == 126) = false := byte_ne h126
      have hs : Hid (stepT l c (acc, ok, y) = (acc ++ [c], ok, y)) := by simp [stepT, h65, h66, h67, h78, h76, h73, h126, Hid]
      clear h65 h66 h67 h78 h76 h73 h126 hsucc b1 b4
      go_wp2_with (first | (go_at_call 54; refine (field_no _ _ _ hfn).mono ?_; rintro e w' ⟨rfl, rfl⟩))
      refine (wr_byte w.heap.size (w.heap.size + 1) acc c wr BB.out (by omega) HB.out.size).mono ?_
      rintro e V ⟨rfl, bbV, hbV, kV⟩
      have b1 := (kV _ _ 40 B1.out (by simp)).trans B1.out
      have b4 := (kV _ _ 40 B4.out (by simp)).trans B4.out
      have D1 := Lib.hid b1
      have D4 := Lib.hid b4
      have RV := Lib.hid (kV.rd (by simp) RA.out)
      have BBV := Lib.hid bbV
      have HBV := Lib.hid (HB.out.trans hbV)
      clear bbV hbV kV b1 b4
      go_wp2_with fail
      refine ⟨⟨k + 1, hlt, rfl, ?_, ?_⟩, by simp [intOf]; omega⟩
      · rw [hst.out, hs.out]
      · rw [hst.out, hs.out]
        refine ⟨D1.out, BBV.out, ⟨A2, cp2, D4.out⟩, RV.out, HBV.out, ?_, ?_⟩
        · simp only [List.length_append, List.length_singleton]; omega
        · simp; omega
    · have hfe : Hid (foldT l form = (acc, ok, y)) := Lib.hid ((hfull.out (by omega)).symm)
      clear hsucc hfull
      have c0 : wr.cell? ⟨w.heap.size, 0, none⟩ = some (.int .i64 l.op) := cellB b1 0 rfl
      have r0 : wr.cell? ⟨w.heap.size + 1 + 1, 0, none⟩ = some (.int .i64 y.op) := cellB b4 0 rfl
      have q0 := frozenB b4 0
      have c1 : wr.cell? ⟨w.heap.size, 1, none⟩ = some (.string ⟨(l.a).toArray⟩) := cellB b1 1 rfl
      have r1 : wr.cell? ⟨w.heap.size + 1 + 1, 1, none⟩ = some (.string ⟨(y.a).toArray⟩) := cellB b4 1 rfl
      have q1 := frozenB b4 1
      have c2 : wr.cell? ⟨w.heap.size, 2, none⟩ = some (.string ⟨(l.b).toArray⟩) := cellB b1 2 rfl
      have r2 : wr.cell? ⟨w.heap.size + 1 + 1, 2, none⟩ = some (.string ⟨(y.b).toArray⟩) := cellB b4 2 rfl
      have q2 := frozenB b4 2
      have c3 : wr.cell? ⟨w.heap.size, 3, none⟩ = some (.string ⟨(l.c).toArray⟩) := cellB b1 3 rfl
      have r3 : wr.cell? ⟨w.heap.size + 1 + 1, 3, none⟩ = some (.string ⟨(y.c).toArray⟩) := cellB b4 3 rfl
      have q3 := frozenB b4 3
      have c4 : wr.cell? ⟨w.heap.size, 4, none⟩ = some (.string ⟨(l.nm).toArray⟩) := cellB b1 4 rfl
      have r4 : wr.cell? ⟨w.heap.size + 1 + 1, 4, none⟩ = some (.string ⟨(y.nm).toArray⟩) := cellB b4 4 rfl
      have q4 := frozenB b4 4
      have c5 : wr.cell? ⟨w.heap.size, 5, none⟩ = some (.slice A l.args.length cp) := cellB b1 5 rfl
      have r5 : wr.cell? ⟨w.heap.size + 1 + 1, 5, none⟩ = some (.slice A2 y.args.length cp2) := cellB b4 5 rfl
      have q5 := frozenB b4 5
      have c6 : wr.cell? ⟨w.heap.size, 6, none⟩ = some (.int .i64 l.cv.k) := cellB b1 6 rfl
      have r6 : wr.cell? ⟨w.heap.size + 1 + 1, 6, none⟩ = some (.int .i64 y.cv.k) := cellB b4 6 rfl
      have q6 := frozenB b4 6
      have c7 : wr.cell? ⟨w.heap.size, 7, none⟩ = some (.int .i64 l.cv.n) := cellB b1 7 rfl
      have r7 : wr.cell? ⟨w.heap.size + 1 + 1, 7, none⟩ = some (.int .i64 y.cv.n) := cellB b4 7 rfl
      have q7 := frozenB b4 7
      have c8 : wr.cell? ⟨w.heap.size, 8, none⟩ = some (.string ⟨(l.cv.s).toArray⟩) := cellB b1 8 rfl
      have r8 : wr.cell? ⟨w.heap.size + 1 + 1, 8, none⟩ = some (.string ⟨(y.cv.s).toArray⟩) := cellB b4 8 rfl
      have q8 := frozenB b4 8
      clear b1 b4
      cases ok with
      | false =>
        have hlt' : Hid (lineT l = []) := Lib.hid (by unfold lineT; rw [HFO.out, hfe.out]; simp)
        go_wp2_with fail
        go_ret
        rw [hlt'.out]
        exact ⟨rfl, HB.out⟩
      | true =>
        have hcat : (((⟨y.a.toArray⟩ : ByteArray) ++ ⟨y.b.toArray⟩ ++ ⟨y.c.toArray⟩ ++ ⟨y.nm.toArray⟩).toList = []) ↔ (y.a = [] ∧ y.b = [] ∧ y.c = [] ∧ y.nm = []) := cat_nil _ _ _ _
        have hno : ∀ (_ : ¬ (y.a = [] ∧ y.b = [] ∧ y.c = [] ∧ y.nm = [] ∧ y.args = [] ∧ y.cv = Val.zero)), lineT l = [] := fun h => by unfold lineT; rw [HFO.out, hfe.out]; exact if_neg (fun h' => h h'.2)
        have hyes : ∀ (_ : (y.a = [] ∧ y.b = [] ∧ y.c = [] ∧ y.nm = [] ∧ y.args = [] ∧ y.cv = Val.zero)), lineT l = acc := fun h => by unfold lineT; rw [HFO.out, hfe.out]; exact if_pos ⟨rfl, h⟩
        have HCAT := Lib.hid hcat
        have HNO := Lib.hid hno
        have HYES := Lib.hid hyes
        clear hcat hno hyes
        by_cases z1 : ((⟨y.a.toArray⟩ : ByteArray) ++ ⟨y.b.toArray⟩ ++ ⟨y.c.toArray⟩ ++ ⟨y.nm.toArray⟩).toList = []
        rotate_left
        · go_wp2_with fail
          go_ret
          rw [HNO.out (fun h => z1 (HCAT.out.2 ⟨h.1, h.2.1, h.2.2.1, h.2.2.2.1⟩))]
          exact ⟨rfl, HB.out⟩
        by_cases z2 : y.args = []
        rotate_left
        · have z2' : 0 < y.args.length := List.length_pos_iff.2 z2
          have z2'' : (0 : Int) < (y.args.length : Int) := by omega
          go_wp2_with fail
          go_ret
          rw [HNO.out (fun h => z2 h.2.2.2.2.1)]
          exact ⟨rfl, HB.out⟩
        by_cases z3 : y.cv.k = 0
        rotate_left
        · go_wp2_with fail
          go_ret
          rw [HNO.out (fun h => z3 (by rw [h.2.2.2.2.2]; rfl))]
          exact ⟨rfl, HB.out⟩
        by_cases z4 : y.cv.n = 0
        rotate_left
        · go_wp2_with fail
          go_ret
          rw [HNO.out (fun h => z4 (by rw [h.2.2.2.2.2]; rfl))]
          exact ⟨rfl, HB.out⟩
        by_cases z5 : y.cv.s = []
        rotate_left
        · go_wp2_with fail
          go_ret
          rw [HNO.out (fun h => z5 (by rw [h.2.2.2.2.2]; rfl))]
          exact ⟨rfl, HB.out⟩
        have ht := HYES.out ⟨(HCAT.out.1 z1).1, (HCAT.out.1 z1).2.1, (HCAT.out.1 z1).2.2.1, (HCAT.out.1 z1).2.2.2, z2, by cases hcv : y.cv; rw [hcv] at z3 z4 z5; simp at z3 z4 z5; rw [z3, z4, z5]; rfl⟩
        have HT := Lib.hid ht
        clear ht
        go_wp2_with fail
        refine (bld_str w.heap.size (w.heap.size + 1) acc wr BB.out HB.out.size).mono ?_
        rintro e V ⟨rfl, hV⟩
        have HV := Lib.hid (HB.out.trans hV)
        clear hV
        go_wp2_with fail
        go_ret
        rw [HT.out]
        exact ⟨rfl, HV.out⟩
end Go.Proofs.YtdkcdodkhghfhaaGreatDoor
