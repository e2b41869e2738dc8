/- The walk of a reader's line. -/
import Derived.Test.YtdkcdodkhghfhaaGreatDoorT
namespace Go.Proofs.YtdkcdodkhghfhaaGreatDoor
open Go.WideMaps Go.RowKit Go.Maps Go.Proofs.YtdkcdodkhghfhaaGreatDoorW.PrintLast Go.Proofs.YtdkcdodkhghfhaaGreatDoorW.PrintWords

/-- What a reader makes of a line. -/
def lineS (st : St) (s : Str) (ended : Bool) : Except Int St :=
  if ended = false then .error 12
  else if st.inside = true then bodyS st s
  else if (Lib.cut s [32]).2.2 = false then .error 12
  else if (Lib.cut s [32]).1 = [99, 108, 97, 115, 115] then classS st (Lib.cut s [32]).2.1
  else if (Lib.cut s [32]).1 = [109, 101, 116, 104, 111, 100] then methodS st (Lib.cut s [32]).2.1
  else if (Lib.cut s [32]).1 = [102, 117, 110, 99] then funcS st (Lib.cut s [32]).2.1
  else .error 12
def LineCame (base r : Nat) (w : World) (o : Except Int St) (e : Ending) (w' : World) : Prop :=
  Below base w w' ∧ TKeep T5 w w' ∧ match o with | .error c => e = .returned (.int .i64 c) | .ok st' => e = .returned (.int .i64 0) ∧ Inv base r w' st'

theorem leaves_panic {tmps : Array Value} {R : Ending → World → Prop} {W : World} {k : Nat} {c x : Int} (h6 : tmps.getD 6 undef = .pointer (some ⟨k, 0, none⟩)) (hk : W.heap[k]? = some (.cells #[.int .i64 x] 30 (0, 0)))
    (hR : R (.returned (.int .i64 c)) ((W.alloc (.cells #[.int .i64 c] 137)).setCell ⟨k, 0, none⟩ (.int .i64 c))) :
    Leaves Tryz.prog Tryz.f49 tmps R [{ target := .fn (.func 86) #[.pointer (some ⟨k, 0, none⟩)], args := #[] }] (.panicking (stopC c)) W := by
  have hz := sizeB hk
  refine leaves_cons (f := 86) (args := #[.pointer (some ⟨k, 0, none⟩)]) (by simp) (by simp [go_sem]) ?_
  refine (catch_panicking k x c _ (cellB hk 0 rfl) (frozenB hk 0) (by omega)).mono ?_
  rintro e u' w'' ⟨rfl, rfl, rfl⟩
  have hb := blk_set ((heap_alloc_old W (.cells #[.int .i64 c] 137) hz).trans hk) 0 (.int .i64 c)
  have hc := cellB hb 0 rfl
  simp at h6 hc
  simp [Leaves, settle, results, Tryz.f49, go_sem, h6, hc]
  exact hR
theorem leaves_idle {tmps : Array Value} {R : Ending → World → Prop} {W : World} {k : Nat} {x : Int} (h6 : tmps.getD 6 undef = .pointer (some ⟨k, 0, none⟩)) (hk : W.heap[k]? = some (.cells #[.int .i64 x] 30 (0, 0)))
    (hR : R (.returned (.int .i64 x)) W) :
    Leaves Tryz.prog Tryz.f49 tmps R [{ target := .fn (.func 86) #[.pointer (some ⟨k, 0, none⟩)], args := #[] }] .returning W := by
  refine leaves_cons (f := 86) (args := #[.pointer (some ⟨k, 0, none⟩)]) (by simp) (by simp [go_sem]) ?_
  refine (catch_idle ⟨k, 0, none⟩ _).mono ?_
  rintro e u' w'' ⟨rfl, rfl, rfl⟩
  have hc := cellB hk 0 rfl
  simp at h6 hc
  simp [Leaves, settle, results, Tryz.f49, go_sem, h6, hc]
  exact hR

/-- Where nothing of a reader's was written, but an error number. -/
theorem InvX.keep30 {base r : Nat} {w w' : World} {st : St} {xs : List ClsX} {ys : List FnX} {sc sf : Sl} (I : InvX base r w st xs ys sc sf) (h : TKeep [30] w w') : InvX base r w' st xs ys sc sf where
  hr := I.hr
  rd := (h r _ 97 I.rd (by simp)).trans I.rd
  hx := I.hx
  hy := I.hy
  oc := h.own (by simp) I.oc
  of := h.own (by simp) I.of
  cok := fun x hx => (I.cok x hx).keep (fun _ _ => h.rd (by simp)) (h.rd (by simp))
  fok := fun y hy => (I.fok y hy).keep (fun _ _ => h.rd (by simp)) (fun _ => h.rd (by simp))
  lc := fun hc => (I.lc hc).keep h (by simp)
  lf := fun hc => (I.lf hc).keep h (by simp) (by simp)
theorem run_zero140 (W : World) : (zeroValue 140).run Tryz.prog W = .ok .nilFunc W := by
  have h : Tryz.t140.zero = some .nilFunc := by kernel_rfl
  simp [zeroValue, go_sem, h, Result.andThen]
theorem cut_length2 (s sep : Str) : (Lib.cut s sep).2.1.length ≤ s.length := by
  unfold Lib.cut
  split
  · simp [List.length_drop]
  · simp
set_option maxHeartbeats 4000000 in
set_option maxRecDepth 100000 in
theorem line_calls (base r : Nat) (st : St) (s : Str) (ended : Bool) (w : World) (I : Inv base r w st) (L : LW w) (hs : s.length < 40000000) (hB : 8 ≤ base) :
    Calls Tryz.prog 49 #[.pointer (some ⟨r, 0, none⟩), .string ⟨s.toArray⟩, .bool ended] w (LineCame base r w (lineS st s ended)) := by
  have hmf : ∀ (fn : Go.Fn) (first cap : Array Value) (w : World), (Instr.makeFunc fn first cap).run Tryz.prog w = .ok (.func fn first cap) w := fun _ _ _ _ => rfl
  have I' : Inv base r (w.alloc (.cells #[.int .i64 0] 30)) st := by
    obtain ⟨xs, ys, sc, sf, I⟩ := I
    exact ⟨xs, ys, sc, sf, I.keep (TKeep.alloc _ _ _)⟩
  have hbw : base ≤ w.heap.size := by obtain ⟨xs, ys, sc, sf, I⟩ := I; have := sizeB I.rd; have := I.hr; omega
  have L' := L.alloc (.cells #[.int .i64 0] 30)
  have B' : Below base w (w.alloc (.cells #[.int .i64 0] 30)) := (Below.refl _ _).alloc hbw _
  have K' := TKeep.alloc T5 w (.cells #[.int .i64 0] 30)
  have D' : (w.alloc (.cells #[.int .i64 0] 30)).heap[w.heap.size]? = some (.cells #[.int .i64 0] 30 (0, 0)) := heap_new _ _
  have HI := Lib.hid I'
  have HL := Lib.hid L'
  have HB := Lib.hid B'
  have HK := Lib.hid K'
  have HD := Lib.hid D'
  clear I I' L L' B' K' D'
  have pan : ∀ (tmps : Array Value) (W : World) (k : Nat) (c : Int), tmps.getD 6 undef = .pointer (some ⟨k, 0, none⟩) → W.heap[k]? = some (.cells #[.int .i64 0] 30 (0, 0)) → base ≤ k → Below base w W → TKeep T5 w W → k = w.heap.size → lineS st s ended = .error c →
      Leaves Tryz.prog Tryz.f49 tmps (LineCame base r w (lineS st s ended)) [{ target := .fn (.func 86) #[.pointer (some ⟨k, 0, none⟩)], args := #[] }] (.panicking (stopC c)) W := by
    intro tmps W k c h6 hk hbk hB hK hkw ho
    refine leaves_panic h6 hk ?_
    rw [ho]
    refine ⟨(hB.alloc (Nat.le_trans hbk (by have := sizeB hk; omega)) _).setCell hbk _, ?_, rfl⟩
    intro g cs t hg ht
    have hne : g ≠ k := by have := sizeB hg; omega
    exact (Below.heap_setCell _ _ _ _ hne).trans ((heap_alloc_old _ _ (Nat.lt_of_lt_of_le (sizeB hg) hB.size)).trans (hK g cs t hg ht))
  have PAN := Lib.hid pan
  clear pan
  have ret : ∀ (tmps : Array Value) (W : World) (k : Nat) (st' : St), tmps.getD 6 undef = .pointer (some ⟨k, 0, none⟩) → W.heap[k]? = some (.cells #[.int .i64 0] 30 (0, 0)) → base ≤ k → Below base w W → TKeep T5 w W → k = w.heap.size → lineS st s ended = .ok st' → Inv base r W st' →
      Leaves Tryz.prog Tryz.f49 tmps (LineCame base r w (lineS st s ended)) [{ target := .fn (.func 86) #[.pointer (some ⟨k, 0, none⟩)], args := #[] }] .returning (W.setCell ⟨k, 0, none⟩ (.int .i64 0)) := by
    intro tmps W k st' h6 hk hbk hB hK hkw ho hI
    refine leaves_idle (x := 0) h6 (blk_set hk 0 (.int .i64 0)) ?_
    rw [ho]
    refine ⟨hB.setCell hbk _, ?_, rfl, ?_⟩
    · intro g cs t hg ht
      have hne : g ≠ k := by have := sizeB hg; omega
      exact (Below.heap_setCell _ _ _ _ hne).trans (hK g cs t hg ht)
    · obtain ⟨xs, ys, sc, sf, I⟩ := hI
      exact ⟨xs, ys, sc, sf, I.keep30 (TKeep.set hk (by simp))⟩
  have RET := Lib.hid ret
  clear ret
  cases ended with
  | false =>
    have HS : Hid (lineS st s false = .error 12) := by simp [lineS, Hid]
    go_enter_defers Tryz.func49, Tryz.ntmps49
    go_wp2_with fail
    refine (need_no _ _).mono ?_
    rintro e w' ⟨rfl, rfl⟩
    go_wp2_with fail
    exact PAN.out _ _ _ _ rfl HD.out hbw HB.out HK.out rfl HS.out
  | true =>
    cases hin : st.inside with
    | true =>
      have HS : Hid (lineS st s true = bodyS st s) := by simp [lineS, hin, Hid]
      have HIN := Lib.hid hin
      obtain ⟨xs, ys, sc, sf, hI⟩ := HI.out
      have rd := hI.rd
      rw [hin] at rd
      have c2 : (w.alloc (.cells #[.int .i64 0] 30)).cell? ⟨r, 2, none⟩ = some (.bool true) := cellB rd 2 rfl
      have f2 := frozenB rd 2
      clear hI rd hin
      go_enter_defers Tryz.func49, Tryz.ntmps49
      go_wp2_with fail
      refine (need_ok _ _).mono ?_
      rintro e w' ⟨rfl, rfl⟩
      go_wp2_with fail
      refine (body_calls base r st s _ HI.out HL.out hs hB HIN.out).mono ?_
      rintro e W ⟨hb, hk, hcame⟩
      have dW : W.heap[w.heap.size]? = some (.cells #[.int .i64 0] 30 (0, 0)) := (hk _ _ 30 HD.out (by simp [T5])).trans HD.out
      have BW := Lib.hid (HB.out.trans hb)
      have KW := Lib.hid (HK.out.trans hk)
      cases ho : bodyS st s with
      | error c =>
        rw [ho] at hcame
        have hcame : e = .panicked (stopC c) := hcame
        subst hcame
        have HO := Lib.hid ho
        clear ho hb hk
        go_wp2_with fail
        exact PAN.out _ _ _ _ rfl dW hbw BW.out KW.out rfl (HS.out.trans HO.out)
      | ok st' =>
        rw [ho] at hcame
        obtain ⟨rfl, hI⟩ := hcame
        have HO := Lib.hid ho
        have HI := Lib.hid hI
        clear ho hb hk hI
        have d0 : W.cell? ⟨w.heap.size, 0, none⟩ = some (.int .i64 0) := cellB dW 0 rfl
        have d1 := frozenB dW 0
        go_wp2_with fail
        exact RET.out _ _ _ _ rfl dW hbw BW.out KW.out rfl (HS.out.trans HO.out) HI.out
    | false =>
      have HIN := Lib.hid hin
      obtain ⟨xs, ys, sc, sf, hI⟩ := HI.out
      have rd := hI.rd
      rw [hin] at rd
      have c2 : (w.alloc (.cells #[.int .i64 0] 30)).cell? ⟨r, 2, none⟩ = some (.bool false) := cellB rd 2 rfl
      have f2 := frozenB rd 2
      clear hI rd hin
      have hzr : ∀ W : World, (zeroValue 140).run Tryz.prog W = .ok .nilFunc W := run_zero140
      have hr : (Lib.cut s [32]).2.1.length < 40000000 := by
        have := cut_length2 s [32]
        omega
      have hf : (Lib.cut s [32]).1.length < 40000000 := by
        have := cut_length s [32]
        omega
      have hkey : keyOf Tryz.prog 9 (.string ⟨(Lib.cut s [32]).1.toArray⟩) = some (.string (Lib.cut s [32]).1) := by
        rw [keyOf_string_mk Tryz.underlying9 (by show (Lib.cut s [32]).1.length ≤ maxLen; unfold maxLen; omega)]
      have HF := Lib.hid hf
      have HR := Lib.hid hr
      clear hf hr
      generalize hcut : Lib.cut s [32] = C at *
      obtain ⟨first, rest, found⟩ := C
      have HC := Lib.hid hcut
      simp only at hkey HF HR
      clear hcut
      cases found with
      | false =>
        have HS : Hid (lineS st s true = .error 12) := Lib.hid (by unfold lineS; rw [if_neg (by simp), if_neg (by rw [HIN.out]; simp), HC.out]; simp)
        go_enter_defers Tryz.func49, Tryz.ntmps49
        go_wp2_with fail
        refine (need_ok _ _).mono ?_
        rintro e w' ⟨rfl, rfl⟩
        go_wp2_with fail
        refine (cut_calls s [32] _ HL.out hs).mono ?_
        rw [HC.out]
        rintro e w' ⟨rfl, n, rfl⟩
        have hh : ((w.alloc (.cells #[.int .i64 0] 30)).drewN n).heap = (w.alloc (.cells #[.int .i64 0] 30)).heap := rfl
        have bV : Below base (w.alloc (.cells #[.int .i64 0] 30)) ((w.alloc (.cells #[.int .i64 0] 30)).drewN n) := ⟨rfl, rfl, rfl, Nat.le_refl _, fun _ _ => rfl⟩
        have HL2 := Lib.hid (HL.out.drewN n)
        generalize hV : (w.alloc (.cells #[.int .i64 0] 30)).drewN n = V at hh bV HL2 ⊢
        have kV : TKeep [] (w.alloc (.cells #[.int .i64 0] 30)) V := fun g cs t hg _ => by rw [hh]
        have zV : w.heap.size < V.heap.size := by rw [hh]; simp
        clear hh hV
        go_wp2_with fail
        refine (takers_calls V).mono ?_
        rintro e X ⟨rfl, hown, hbX⟩
        have kX : TKeep [] (w.alloc (.cells #[.int .i64 0] 30)) X := kV.trans (TKeep.below hbX)
        have HX := Lib.hid hown
        have BX := Lib.hid ((HB.out.trans bV).trans (hbX.mono (by omega)))
        have KX := Lib.hid (HK.out.trans kX.mono)
        have DX := Lib.hid ((kX _ _ 30 HD.out (by simp)).trans HD.out)
        have IX : Hid (Inv base r X st) := Lib.hid (by obtain ⟨xs, ys, sc, sf, I⟩ := HI.out; exact ⟨xs, ys, sc, sf, I.keep kX⟩)
        have LX := Lib.hid (HL2.out.below hbX)
        clear hown hbX kV kX bV
        have hhas := (tak_at first).2
        go_wp2_with (at_lookup; refine wpList_lookup_own_ok (H := Value) _ rfl _ _ 142 rfl 9 140 (string_keyed Tryz.underlying9) Tryz.underlying142 anyElem (hzr _) (.held .nilFunc) [] rfl V.heap.size 3 takD rfl HX.out (.string ⟨first.toArray⟩) (.string first) rfl hkey ?_; intro v ps hv; rw [(tak_at first).1] at hv; obtain rfl : v = takF first := by (unfold anyElem at hv; injection hv with hv; injection hv with hv _; injection hv))
        refine (need_no _ _).mono ?_
        rintro e w' ⟨rfl, rfl⟩
        go_wp2_with fail
        exact PAN.out _ _ _ _ rfl DX.out hbw BX.out KX.out rfl HS.out
      | true =>
        by_cases hclassS : first = [99, 108, 97, 115, 115]
        · subst hclassS
          have HS : Hid (lineS st s true = classS st rest) := Lib.hid (by unfold lineS; rw [if_neg (by simp), if_neg (by rw [HIN.out]; simp), HC.out]; simp)
          have htb : takB [99, 108, 97, 115, 115] = true := by decide +kernel
          have htf : takF [99, 108, 97, 115, 115] = .func (.func 112) #[] #[] := by simp [takF, fnV]
          go_enter_defers Tryz.func49, Tryz.ntmps49
          go_wp2_with fail
          refine (need_ok _ _).mono ?_
          rintro e w' ⟨rfl, rfl⟩
          go_wp2_with fail
          refine (cut_calls s [32] _ HL.out hs).mono ?_
          rw [HC.out]
          rintro e w' ⟨rfl, n, rfl⟩
          have hh : ((w.alloc (.cells #[.int .i64 0] 30)).drewN n).heap = (w.alloc (.cells #[.int .i64 0] 30)).heap := rfl
          have bV : Below base (w.alloc (.cells #[.int .i64 0] 30)) ((w.alloc (.cells #[.int .i64 0] 30)).drewN n) := ⟨rfl, rfl, rfl, Nat.le_refl _, fun _ _ => rfl⟩
          have HL2 := Lib.hid (HL.out.drewN n)
          generalize hV : (w.alloc (.cells #[.int .i64 0] 30)).drewN n = V at hh bV HL2 ⊢
          have kV : TKeep [] (w.alloc (.cells #[.int .i64 0] 30)) V := fun g cs t hg _ => by rw [hh]
          have zV : w.heap.size < V.heap.size := by rw [hh]; simp
          clear hh hV
          go_wp2_with fail
          refine (takers_calls V).mono ?_
          rintro e X ⟨rfl, hown, hbX⟩
          have kX : TKeep [] (w.alloc (.cells #[.int .i64 0] 30)) X := kV.trans (TKeep.below hbX)
          have HX := Lib.hid hown
          have BX := Lib.hid ((HB.out.trans bV).trans (hbX.mono (by omega)))
          have KX := Lib.hid (HK.out.trans kX.mono)
          have DX := Lib.hid ((kX _ _ 30 HD.out (by simp)).trans HD.out)
          have IX : Hid (Inv base r X st) := Lib.hid (by obtain ⟨xs, ys, sc, sf, I⟩ := HI.out; exact ⟨xs, ys, sc, sf, I.keep kX⟩)
          have LX := Lib.hid (HL2.out.below hbX)
          clear hown hbX kV kX bV
          have hhas := (tak_at [99, 108, 97, 115, 115]).2
          go_wp2_with (at_lookup; refine wpList_lookup_own_ok (H := Value) _ rfl _ _ 142 rfl 9 140 (string_keyed Tryz.underlying9) Tryz.underlying142 anyElem (hzr _) (.held .nilFunc) [] rfl V.heap.size 3 takD rfl HX.out (.string ⟨(([99, 108, 97, 115, 115] : Str)).toArray⟩) (.string [99, 108, 97, 115, 115]) rfl hkey ?_; intro v ps hv; rw [(tak_at [99, 108, 97, 115, 115]).1] at hv; obtain rfl : v = takF [99, 108, 97, 115, 115] := by (unfold anyElem at hv; injection hv with hv; injection hv with hv _; injection hv))
          refine (need_ok _ _).mono ?_
          rintro e w' ⟨rfl, rfl⟩
          go_wp2_with fail
          refine (classLine_calls base r st rest _ IX.out LX.out HR.out hB).mono ?_
          rintro e W ⟨hb, hk, hcame⟩
          have dW : W.heap[w.heap.size]? = some (.cells #[.int .i64 0] 30 (0, 0)) := (hk _ _ 30 DX.out (by simp [T5])).trans DX.out
          have BW := Lib.hid (BX.out.trans hb)
          have KW := Lib.hid (KX.out.trans hk)
          cases ho : classS st rest with
          | error c =>
            rw [ho] at hcame
            have hcame : e = .panicked (stopC c) := hcame
            subst hcame
            have HO := Lib.hid ho
            clear ho hb hk
            go_wp2_with fail
            exact PAN.out _ _ _ _ rfl dW hbw BW.out KW.out rfl (HS.out.trans HO.out)
          | ok st' =>
            rw [ho] at hcame
            obtain ⟨rfl, hI⟩ := hcame
            have HO := Lib.hid ho
            have HI := Lib.hid hI
            clear ho hb hk hI
            have d0 : W.cell? ⟨w.heap.size, 0, none⟩ = some (.int .i64 0) := cellB dW 0 rfl
            have d1 := frozenB dW 0
            go_wp2_with fail
            exact RET.out _ _ _ _ rfl dW hbw BW.out KW.out rfl (HS.out.trans HO.out) HI.out
        by_cases hmethodS : first = [109, 101, 116, 104, 111, 100]
        · subst hmethodS
          have HS : Hid (lineS st s true = methodS st rest) := Lib.hid (by unfold lineS; rw [if_neg (by simp), if_neg (by rw [HIN.out]; simp), HC.out]; simp)
          have htb : takB [109, 101, 116, 104, 111, 100] = true := by decide +kernel
          have htf : takF [109, 101, 116, 104, 111, 100] = .func (.func 113) #[] #[] := by simp [takF, fnV]
          clear hclassS
          go_enter_defers Tryz.func49, Tryz.ntmps49
          go_wp2_with fail
          refine (need_ok _ _).mono ?_
          rintro e w' ⟨rfl, rfl⟩
          go_wp2_with fail
          refine (cut_calls s [32] _ HL.out hs).mono ?_
          rw [HC.out]
          rintro e w' ⟨rfl, n, rfl⟩
          have hh : ((w.alloc (.cells #[.int .i64 0] 30)).drewN n).heap = (w.alloc (.cells #[.int .i64 0] 30)).heap := rfl
          have bV : Below base (w.alloc (.cells #[.int .i64 0] 30)) ((w.alloc (.cells #[.int .i64 0] 30)).drewN n) := ⟨rfl, rfl, rfl, Nat.le_refl _, fun _ _ => rfl⟩
          have HL2 := Lib.hid (HL.out.drewN n)
          generalize hV : (w.alloc (.cells #[.int .i64 0] 30)).drewN n = V at hh bV HL2 ⊢
          have kV : TKeep [] (w.alloc (.cells #[.int .i64 0] 30)) V := fun g cs t hg _ => by rw [hh]
          have zV : w.heap.size < V.heap.size := by rw [hh]; simp
          clear hh hV
          go_wp2_with fail
          refine (takers_calls V).mono ?_
          rintro e X ⟨rfl, hown, hbX⟩
          have kX : TKeep [] (w.alloc (.cells #[.int .i64 0] 30)) X := kV.trans (TKeep.below hbX)
          have HX := Lib.hid hown
          have BX := Lib.hid ((HB.out.trans bV).trans (hbX.mono (by omega)))
          have KX := Lib.hid (HK.out.trans kX.mono)
          have DX := Lib.hid ((kX _ _ 30 HD.out (by simp)).trans HD.out)
          have IX : Hid (Inv base r X st) := Lib.hid (by obtain ⟨xs, ys, sc, sf, I⟩ := HI.out; exact ⟨xs, ys, sc, sf, I.keep kX⟩)
          have LX := Lib.hid (HL2.out.below hbX)
          clear hown hbX kV kX bV
          have hhas := (tak_at [109, 101, 116, 104, 111, 100]).2
          go_wp2_with (at_lookup; refine wpList_lookup_own_ok (H := Value) _ rfl _ _ 142 rfl 9 140 (string_keyed Tryz.underlying9) Tryz.underlying142 anyElem (hzr _) (.held .nilFunc) [] rfl V.heap.size 3 takD rfl HX.out (.string ⟨(([109, 101, 116, 104, 111, 100] : Str)).toArray⟩) (.string [109, 101, 116, 104, 111, 100]) rfl hkey ?_; intro v ps hv; rw [(tak_at [109, 101, 116, 104, 111, 100]).1] at hv; obtain rfl : v = takF [109, 101, 116, 104, 111, 100] := by (unfold anyElem at hv; injection hv with hv; injection hv with hv _; injection hv))
          refine (need_ok _ _).mono ?_
          rintro e w' ⟨rfl, rfl⟩
          go_wp2_with fail
          refine (methodLine_calls base r st rest _ IX.out LX.out HR.out hB).mono ?_
          rintro e W ⟨hb, hk, hcame⟩
          have dW : W.heap[w.heap.size]? = some (.cells #[.int .i64 0] 30 (0, 0)) := (hk _ _ 30 DX.out (by simp [T5])).trans DX.out
          have BW := Lib.hid (BX.out.trans hb)
          have KW := Lib.hid (KX.out.trans hk)
          cases ho : methodS st rest with
          | error c =>
            rw [ho] at hcame
            have hcame : e = .panicked (stopC c) := hcame
            subst hcame
            have HO := Lib.hid ho
            clear ho hb hk
            go_wp2_with fail
            exact PAN.out _ _ _ _ rfl dW hbw BW.out KW.out rfl (HS.out.trans HO.out)
          | ok st' =>
            rw [ho] at hcame
            obtain ⟨rfl, hI⟩ := hcame
            have HO := Lib.hid ho
            have HI := Lib.hid hI
            clear ho hb hk hI
            have d0 : W.cell? ⟨w.heap.size, 0, none⟩ = some (.int .i64 0) := cellB dW 0 rfl
            have d1 := frozenB dW 0
            go_wp2_with fail
            exact RET.out _ _ _ _ rfl dW hbw BW.out KW.out rfl (HS.out.trans HO.out) HI.out
        by_cases hfuncS : first = [102, 117, 110, 99]
        · subst hfuncS
          have HS : Hid (lineS st s true = funcS st rest) := Lib.hid (by unfold lineS; rw [if_neg (by simp), if_neg (by rw [HIN.out]; simp), HC.out]; simp)
          have htb : takB [102, 117, 110, 99] = true := by decide +kernel
          have htf : takF [102, 117, 110, 99] = .func (.func 114) #[] #[] := by simp [takF, fnV]
          clear hclassS
          clear hmethodS
          go_enter_defers Tryz.func49, Tryz.ntmps49
          go_wp2_with fail
          refine (need_ok _ _).mono ?_
          rintro e w' ⟨rfl, rfl⟩
          go_wp2_with fail
          refine (cut_calls s [32] _ HL.out hs).mono ?_
          rw [HC.out]
          rintro e w' ⟨rfl, n, rfl⟩
          have hh : ((w.alloc (.cells #[.int .i64 0] 30)).drewN n).heap = (w.alloc (.cells #[.int .i64 0] 30)).heap := rfl
          have bV : Below base (w.alloc (.cells #[.int .i64 0] 30)) ((w.alloc (.cells #[.int .i64 0] 30)).drewN n) := ⟨rfl, rfl, rfl, Nat.le_refl _, fun _ _ => rfl⟩
          have HL2 := Lib.hid (HL.out.drewN n)
          generalize hV : (w.alloc (.cells #[.int .i64 0] 30)).drewN n = V at hh bV HL2 ⊢
          have kV : TKeep [] (w.alloc (.cells #[.int .i64 0] 30)) V := fun g cs t hg _ => by rw [hh]
          have zV : w.heap.size < V.heap.size := by rw [hh]; simp
          clear hh hV
          go_wp2_with fail
          refine (takers_calls V).mono ?_
          rintro e X ⟨rfl, hown, hbX⟩
          have kX : TKeep [] (w.alloc (.cells #[.int .i64 0] 30)) X := kV.trans (TKeep.below hbX)
          have HX := Lib.hid hown
          have BX := Lib.hid ((HB.out.trans bV).trans (hbX.mono (by omega)))
          have KX := Lib.hid (HK.out.trans kX.mono)
          have DX := Lib.hid ((kX _ _ 30 HD.out (by simp)).trans HD.out)
          have IX : Hid (Inv base r X st) := Lib.hid (by obtain ⟨xs, ys, sc, sf, I⟩ := HI.out; exact ⟨xs, ys, sc, sf, I.keep kX⟩)
          have LX := Lib.hid (HL2.out.below hbX)
          clear hown hbX kV kX bV
          have hhas := (tak_at [102, 117, 110, 99]).2
          go_wp2_with (at_lookup; refine wpList_lookup_own_ok (H := Value) _ rfl _ _ 142 rfl 9 140 (string_keyed Tryz.underlying9) Tryz.underlying142 anyElem (hzr _) (.held .nilFunc) [] rfl V.heap.size 3 takD rfl HX.out (.string ⟨(([102, 117, 110, 99] : Str)).toArray⟩) (.string [102, 117, 110, 99]) rfl hkey ?_; intro v ps hv; rw [(tak_at [102, 117, 110, 99]).1] at hv; obtain rfl : v = takF [102, 117, 110, 99] := by (unfold anyElem at hv; injection hv with hv; injection hv with hv _; injection hv))
          refine (need_ok _ _).mono ?_
          rintro e w' ⟨rfl, rfl⟩
          go_wp2_with fail
          refine (funcLine_calls base r st rest _ IX.out LX.out HR.out hB).mono ?_
          rintro e W ⟨hb, hk, hcame⟩
          have dW : W.heap[w.heap.size]? = some (.cells #[.int .i64 0] 30 (0, 0)) := (hk _ _ 30 DX.out (by simp [T5])).trans DX.out
          have BW := Lib.hid (BX.out.trans hb)
          have KW := Lib.hid (KX.out.trans hk)
          cases ho : funcS st rest with
          | error c =>
            rw [ho] at hcame
            have hcame : e = .panicked (stopC c) := hcame
            subst hcame
            have HO := Lib.hid ho
            clear ho hb hk
            go_wp2_with fail
            exact PAN.out _ _ _ _ rfl dW hbw BW.out KW.out rfl (HS.out.trans HO.out)
          | ok st' =>
            rw [ho] at hcame
            obtain ⟨rfl, hI⟩ := hcame
            have HO := Lib.hid ho
            have HI := Lib.hid hI
            clear ho hb hk hI
            have d0 : W.cell? ⟨w.heap.size, 0, none⟩ = some (.int .i64 0) := cellB dW 0 rfl
            have d1 := frozenB dW 0
            go_wp2_with fail
            exact RET.out _ _ _ _ rfl dW hbw BW.out KW.out rfl (HS.out.trans HO.out) HI.out
        have HS : Hid (lineS st s true = .error 12) := Lib.hid (by unfold lineS; rw [if_neg (by simp), if_neg (by rw [HIN.out]; simp), HC.out]; simp [hclassS, hmethodS, hfuncS])
        have htb : takB first = false := by simp [takB, hclassS, hmethodS, hfuncS]
        clear hclassS hmethodS hfuncS
        go_enter_defers Tryz.func49, Tryz.ntmps49
        go_wp2_with fail
        refine (need_ok _ _).mono ?_
        rintro e w' ⟨rfl, rfl⟩
        go_wp2_with fail
        refine (cut_calls s [32] _ HL.out hs).mono ?_
        rw [HC.out]
        rintro e w' ⟨rfl, n, rfl⟩
        have hh : ((w.alloc (.cells #[.int .i64 0] 30)).drewN n).heap = (w.alloc (.cells #[.int .i64 0] 30)).heap := rfl
        have bV : Below base (w.alloc (.cells #[.int .i64 0] 30)) ((w.alloc (.cells #[.int .i64 0] 30)).drewN n) := ⟨rfl, rfl, rfl, Nat.le_refl _, fun _ _ => rfl⟩
        have HL2 := Lib.hid (HL.out.drewN n)
        generalize hV : (w.alloc (.cells #[.int .i64 0] 30)).drewN n = V at hh bV HL2 ⊢
        have kV : TKeep [] (w.alloc (.cells #[.int .i64 0] 30)) V := fun g cs t hg _ => by rw [hh]
        have zV : w.heap.size < V.heap.size := by rw [hh]; simp
        clear hh hV
        go_wp2_with fail
        refine (takers_calls V).mono ?_
        rintro e X ⟨rfl, hown, hbX⟩
        have kX : TKeep [] (w.alloc (.cells #[.int .i64 0] 30)) X := kV.trans (TKeep.below hbX)
        have HX := Lib.hid hown
        have BX := Lib.hid ((HB.out.trans bV).trans (hbX.mono (by omega)))
        have KX := Lib.hid (HK.out.trans kX.mono)
        have DX := Lib.hid ((kX _ _ 30 HD.out (by simp)).trans HD.out)
        have IX : Hid (Inv base r X st) := Lib.hid (by obtain ⟨xs, ys, sc, sf, I⟩ := HI.out; exact ⟨xs, ys, sc, sf, I.keep kX⟩)
        have LX := Lib.hid (HL2.out.below hbX)
        clear hown hbX kV kX bV
        have hhas := (tak_at first).2
        go_wp2_with (at_lookup; refine wpList_lookup_own_ok (H := Value) _ rfl _ _ 142 rfl 9 140 (string_keyed Tryz.underlying9) Tryz.underlying142 anyElem (hzr _) (.held .nilFunc) [] rfl V.heap.size 3 takD rfl HX.out (.string ⟨first.toArray⟩) (.string first) rfl hkey ?_; intro v ps hv; rw [(tak_at first).1] at hv; obtain rfl : v = takF first := by (unfold anyElem at hv; injection hv with hv; injection hv with hv _; injection hv))
        refine (need_no _ _).mono ?_
        rintro e w' ⟨rfl, rfl⟩
        go_wp2_with fail
        exact PAN.out _ _ _ _ rfl DX.out hbw BX.out KX.out rfl HS.out
end Go.Proofs.YtdkcdodkhghfhaaGreatDoor
