/- The walk of lang.Parse. -/
import Derived.Test.YtdkcdodkhghfhaaGreatDoorPS
namespace Go.Proofs.YtdkcdodkhghfhaaGreatDoor
open Go.RowKit Go.Proofs.YtdkcdodkhghfhaaGreatDoorW.PrintLast Go.Proofs.YtdkcdodkhghfhaaGreatDoorW.PrintWords

/-- What stands at the head of a round. -/
def PRel (s : Str) (w : World) (r : Nat) (R : Except (Nat × Int) St) (k : Nat) (wr : World) : Prop :=
  ∃ st : St, linesS (s.length + 1 - k) st k (s.drop k) = R ∧ Inv w.heap.size r wr st ∧ wr.heap[w.heap.size]? = some (.cells #[.slice none 0 0, .slice none 0 0] 27 (0, 0)) ∧ Below w.heap.size w wr

def outS (s : Str) : Except (Nat × Int) St → Prg × Int × Int
  | .error (a, c) => (⟨[], []⟩, a, c)
  | .ok st => if st.inside = true then (⟨[], []⟩, s.length, 12) else (st.p, 0, 0)
def nextS (s : Str) (k : Nat) (ln : Str) : Except Int St → Except (Nat × Int) St
  | .error c => .error (k, c)
  | .ok st' => linesS (s.length - k) st' (k + ln.length + 1) ((s.drop k).drop (ln.length + 1))
theorem parseS_out (s : Str) (h8 : ¬ 8000 < s.length) : parseS s = outS s (linesS (s.length + 1) ⟨⟨[], []⟩, false, false⟩ 0 s) := by
  unfold parseS outS
  rw [if_neg h8]
  rfl
theorem PrgIn.keep27 {w w' : World} {vc vf : Value} {p : Prg} (h : PrgIn w vc vf p) (k : TKeep [27] w w') : PrgIn w' vc vf p := by
  obtain ⟨xs, ys, sc, sf, h1, h2, h3, h4, h5, h6, h7, h8⟩ := h
  exact ⟨xs, ys, sc, sf, h1, h2, h3, h4, k.rd (by simp) h5, k.rd (by simp) h6, fun x hx => (h7 x hx).keep (fun _ _ => k.rd (by simp)) (k.rd (by simp)), fun y hy => (h8 y hy).keep (fun _ _ => k.rd (by simp)) (fun _ => k.rd (by simp))⟩
theorem PrgAt.keep27 {B : Nat} {w w' : World} {vc vf : Value} {p : Prg} (h : PrgAt B w vc vf p) (k : TKeep [27] w w') : PrgAt B w' vc vf p := by
  obtain ⟨xs, ys, sc, sf, h1, h2, h3, h4, h5, hf, h6, hg, h7, h8⟩ := h
  exact ⟨xs, ys, sc, sf, h1, h2, h3, h4, k.rd (by simp) h5, hf, k.rd (by simp) h6, hg, fun x hx => (h7 x hx).keep (fun _ _ => k.rd (by simp)) (k.rd (by simp)), fun y hy => (h8 y hy).keep (fun _ _ => k.rd (by simp)) (fun _ => k.rd (by simp))⟩
theorem results_prg {fn : Func} {tmps : Array Value} {W : World} {g : Nat} {v0 v1 a b : Value} (hres : fn.results = #[.cell 2 27, .tmp 3, .tmp 4]) (h2 : tmps.getD 2 undef = .pointer (some ⟨g, 0, none⟩)) (h3 : tmps.getD 3 undef = a) (h4 : tmps.getD 4 undef = b)
    (hb : W.heap[g]? = some (.cells #[v0, v1] 27 (0, 0))) (_h0 : v0.oneCell' = true) (_h1 : v1.oneCell' = true) :
    (results fn tmps).run Tryz.prog W = .ok (.tuple #[.agg #[v0, v1], a, b]) W := by
  have c0 := cellB hb 0 rfl
  have c1 := cellB hb 1 rfl
  simp at c0 c1 h2 h3 h4
  simp [results, hres, h2, h3, h4, go_sem, c0, c1]
set_option maxHeartbeats 4000000 in
set_option maxRecDepth 100000 in
theorem Parse_far (s : Str) (w : World) (L : LW w) (hs : s.length < 40000000) :
    Calls Tryz.prog 16 #[.string ⟨s.toArray⟩] w fun e w' => Below w.heap.size w w' ∧ ∃ vc vf, e = .returned (.tuple #[.agg #[vc, vf], .int .i64 (parseS s).2.1, .int .i64 (parseS s).2.2]) ∧ PrgAt w.heap.size w' vc vf (parseS s).1 := by
  have HL := Lib.hid L
  have hB : 8 ≤ w.heap.size := L.big
  clear L
  by_cases h8 : 8000 < s.length
  · have HS : Hid (parseS s = (⟨[], []⟩, 8000, 2)) := Lib.hid (by unfold parseS; rw [if_pos h8])
    have h8' : (8000 : Int) < (s.length : Int) := by omega
    clear h8
    go_enter Tryz.func16, Tryz.ntmps16
    go_wp2_with fail
    refine bodyPost_ret (v := .tuple #[.agg #[.slice none 0 0, .slice none 0 0], .int .i64 8000, .int .i64 2]) (results_prg rfl rfl rfl rfl (heap_new _ _) rfl rfl) rfl ⟨(Below.refl _ _).alloc (Nat.le_refl _) _, .slice none 0 0, .slice none 0 0, ?_, ?_⟩
    · rw [HS.out]
    · rw [HS.out]
      exact PrgAt.nil _ _
  · have h8' : (s.length : Int) ≤ 8000 := by omega
    generalize hR : linesS (s.length + 1) ⟨⟨[], []⟩, false, false⟩ 0 s = R
    have HRR := Lib.hid hR
    have HP : Hid (parseS s = outS s R) := Lib.hid (by rw [parseS_out s h8, hR])
    clear hR h8
    go_enter Tryz.func16, Tryz.ntmps16
    go_wp2_with fail
    have i0 : Inv w.heap.size (w.heap.size + 1) ((w.alloc (.cells #[.slice none 0 0, .slice none 0 0] 27)).alloc (.cells #[.slice none 0 0, .slice none 0 0, .bool false, .bool false] 97)) ⟨⟨[], []⟩, false, false⟩ :=
      ⟨[], [], ⟨none, 0⟩, ⟨none, 0⟩, by omega, heap_new' _ _ _ (by simp), rfl, rfl, own_nil _ _ _ _, own_nil _ _ _ _, by simp, by simp, by simp, by simp⟩
    have d0 : ((w.alloc (.cells #[.slice none 0 0, .slice none 0 0] 27)).alloc (.cells #[.slice none 0 0, .slice none 0 0, .bool false, .bool false] 97)).heap[w.heap.size]? = some (.cells #[.slice none 0 0, .slice none 0 0] 27 (0, 0)) := (heap_alloc_old _ _ (by simp)).trans (heap_new _ _)
    have b0 : Below w.heap.size w ((w.alloc (.cells #[.slice none 0 0, .slice none 0 0] 27)).alloc (.cells #[.slice none 0 0, .slice none 0 0, .bool false, .bool false] 97)) := ((Below.refl _ _).alloc (Nat.le_refl _) _).alloc (by simp) _
    have HI0 := Lib.hid i0
    have HD0 := Lib.hid d0
    have HB0 := Lib.hid b0
    clear i0 d0 b0
    go_loopw [6] (fun i wr => ∃ k : Nat, k ≤ s.length ∧ i = .int .i64 k ∧ PRel s w (w.heap.size + 1) R k wr) (fun i _ => s.length - (intOf i).toNat)
    case atStart => exact ⟨0, Nat.zero_le _, rfl, _, HRR.out, HI0.out, HD0.out, HB0.out⟩
    case round =>
      obtain ⟨k, hk, rfl, st, hrest, hI, hd, hb⟩ := hrel
      have HRE := Lib.hid hrest
      have HI := Lib.hid hI
      have HD := Lib.hid hd
      have HB := Lib.hid hb
      have LR := Lib.hid (HL.out.belowB hB hb)
      clear hrest hI hd hb
      by_cases hlt : k < s.length
      · generalize hcut : Lib.cut (s.drop k) [10] = C
        obtain ⟨ln, rst, en⟩ := C
        have HC := Lib.hid hcut
        have hln : ln.length ≤ s.length := by have := cut_length (s.drop k) [10]; rw [hcut] at this; simp at this; omega
        have hstep : Hid (∀ o, lineS st ln en = o → nextS s k ln o = R) := by
          refine Lib.hid ?_
          intro o ho
          have h := HRE.out
          rw [show s.length + 1 - k = (s.length - k) + 1 from by omega, linesS, if_neg (by intro e; have := congrArg List.length e; simp at this; omega), hcut] at h
          simp only [ho] at h
          exact h
        have hroom : Hid (en = true → k + ln.length + 1 ≤ s.length) := Lib.hid (fun he => by have := cut_room (s.drop k) (by rw [hcut]; exact he); rw [hcut] at this; simp at this; omega)
        clear hcut HRE
        have hx : ((⟨s.toArray⟩ : ByteArray).extract k s.length) = ⟨(s.drop k).toArray⟩ := by rw [ext_list]; simp
        go_wp2_with fail
        clear hx
        refine (cut_calls (s.drop k) [10] wr LR.out (by simp; omega)).mono ?_
        rw [HC.out]
        rintro e w' ⟨rfl, n, rfl⟩
        have hh : (wr.drewN n).heap = wr.heap := rfl
        have bV : Below w.heap.size wr (wr.drewN n) := ⟨rfl, rfl, rfl, Nat.le_refl _, fun _ _ => rfl⟩
        have LV := Lib.hid (LR.out.drewN n)
        generalize wr.drewN n = V at hh bV LV ⊢
        have HI : Hid (Inv w.heap.size (w.heap.size + 1) V st) := Lib.hid (by obtain ⟨xs, ys, sc, sf, I⟩ := HI.out; exact ⟨xs, ys, sc, sf, I.keep (fun g cs t hg _ => by rw [hh])⟩)
        have HD : Hid (V.heap[w.heap.size]? = some (.cells #[.slice none 0 0, .slice none 0 0] 27 (0, 0))) := Lib.hid (by rw [hh]; exact HD.out)
        have HB := Lib.hid (HB.out.trans bV)
        clear hh bV
        go_wp2_with fail
        refine (line_calls w.heap.size (w.heap.size + 1) st ln en _ HI.out LV.out (by omega) hB).mono ?_
        rintro e W ⟨hb, hk2, hcame⟩
        have hd : W.heap[w.heap.size]? = some (.cells #[.slice none 0 0, .slice none 0 0] 27 (0, 0)) := (hk2 _ _ 27 HD.out (by simp [T5])).trans HD.out
        have HB := Lib.hid (HB.out.trans hb)
        cases ho : lineS st ln en with
        | error c =>
          rw [ho] at hcame
          have hcame : e = .returned (.int .i64 c) := hcame
          subst hcame
          have hc0 : ¬ c = 0 := by rcases lineS_err st ln en c ho with h | h <;> omega
          have HE := Lib.hid (hstep.out _ ho)
          have q0 : W.cell? ⟨w.heap.size, 0, none⟩ = some (.slice none 0 0) := cellB hd 0 rfl
          have q1 : W.cell? ⟨w.heap.size, 1, none⟩ = some (.slice none 0 0) := cellB hd 1 rfl
          have q2 := frozenB hd 0
          have q3 := frozenB hd 1
          have HDD := Lib.hid hd
          clear ho hb hk2 hd
          go_wp2_with fail
          refine bodyPost_ret (v := .tuple #[.agg #[.slice none 0 0, .slice none 0 0], .int .i64 k, .int .i64 c]) (results_prg rfl rfl rfl rfl (blk_set (blk_set HDD.out 0 _) 1 _) rfl rfl) rfl ⟨(HB.out.setCell (Nat.le_refl _) _).setCell (Nat.le_refl _) _, .slice none 0 0, .slice none 0 0, ?_, ?_⟩
          · rw [HP.out, ← HE.out]
            rfl
          · rw [HP.out, ← HE.out]
            exact PrgAt.nil _ _
        | ok st' =>
          rw [ho] at hcame
          obtain ⟨rfl, hI⟩ := hcame
          have he := lineS_ended ho
          have hroom2 := hroom.out he
          have HE := Lib.hid (hstep.out _ ho)
          have HI := Lib.hid hI
          have HDD := Lib.hid hd
          have hw1 : IntKind.i64.wrap ((ln.length : Int) + 1) = (ln.length : Int) + 1 := IntWalk.i64_in _ (by omega)
          have hw2 : IntKind.i64.wrap ((k : Int) + ((ln.length : Int) + 1)) = (k : Int) + ((ln.length : Int) + 1) := IntWalk.i64_in _ (by omega)
          clear ho hb hk2 hd hI
          go_wp2_with fail
          refine ⟨⟨k + ln.length + 1, hroom2, congrArg _ (by omega), st', ?_, HI.out, HDD.out, HB.out⟩, by simp [intOf]; omega⟩
          have h := HE.out
          unfold nextS at h
          rw [List.drop_drop, ← Nat.add_assoc] at h
          rw [← h]
          exact linesS_enough _ _ _ _ _ (by rw [List.length_drop]; omega) (by rw [List.length_drop]; omega)
      · have hk' : k = s.length := by omega
        subst hk'
        have hRo : R = .ok st := by
          rw [← HRE.out, show s.length + 1 - s.length = 0 + 1 from by omega, linesS, if_pos (by simp)]
        subst hRo
        clear HRE
        obtain ⟨xs, ys, sc, sf, I⟩ := HI.out
        have rd := I.rd
        have PI := Lib.hid I.prg
        have c0 : wr.cell? ⟨w.heap.size + 1, 0, none⟩ = some (.slice sc.A xs.length sc.cap) := cellB rd 0 rfl
        have c1 : wr.cell? ⟨w.heap.size + 1, 1, none⟩ = some (.slice sf.A ys.length sf.cap) := cellB rd 1 rfl
        have q0 : wr.cell? ⟨w.heap.size, 0, none⟩ = some (.slice none 0 0) := cellB HD.out 0 rfl
        have q1 : wr.cell? ⟨w.heap.size, 1, none⟩ = some (.slice none 0 0) := cellB HD.out 1 rfl
        have q2 := frozenB HD.out 0
        have q3 := frozenB HD.out 1
        clear I
        cases hin : st.inside with
        | true =>
          rw [hin] at rd
          have c2 : wr.cell? ⟨w.heap.size + 1, 2, none⟩ = some (.bool true) := cellB rd 2 rfl
          have HIN := Lib.hid hin
          clear rd hin
          go_wp2_with fail
          refine bodyPost_ret (v := .tuple #[.agg #[.slice none 0 0, .slice none 0 0], .int .i64 s.length, .int .i64 12]) (results_prg rfl rfl rfl rfl (blk_set (blk_set HD.out 0 _) 1 _) rfl rfl) rfl ⟨(HB.out.setCell (Nat.le_refl _) _).setCell (Nat.le_refl _) _, .slice none 0 0, .slice none 0 0, ?_, ?_⟩
          · rw [HP.out, outS, if_pos HIN.out]
          · rw [HP.out, outS, if_pos HIN.out]
            exact PrgAt.nil _ _
        | false =>
          rw [hin] at rd
          have c2 : wr.cell? ⟨w.heap.size + 1, 2, none⟩ = some (.bool false) := cellB rd 2 rfl
          have HIN := Lib.hid hin
          clear rd hin
          go_wp2_with fail
          refine bodyPost_ret (v := .tuple #[.agg #[sc.v xs.length, sf.v ys.length], .int .i64 0, .int .i64 0]) (results_prg rfl rfl rfl rfl (blk_set (blk_set HD.out 0 (sc.v xs.length)) 1 (sf.v ys.length)) rfl rfl) rfl ⟨(HB.out.setCell (Nat.le_refl _) _).setCell (Nat.le_refl _) _, sc.v xs.length, sf.v ys.length, ?_, ?_⟩
          · rw [HP.out, outS, if_neg (by rw [HIN.out]; simp)]
          · rw [HP.out, outS, if_neg (by rw [HIN.out]; simp)]
            exact PI.out.keep27 ((TKeep.set HD.out (by simp)).trans (TKeep.set (blk_set HD.out 0 _) (by simp)))
theorem Parse_calls (s : Str) (w : World) (L : LW w) (hs : s.length < 40000000) :
    Calls Tryz.prog 16 #[.string ⟨s.toArray⟩] w fun e w' => Below w.heap.size w w' ∧ ∃ vc vf, e = .returned (.tuple #[.agg #[vc, vf], .int .i64 (parseS s).2.1, .int .i64 (parseS s).2.2]) ∧ PrgIn w' vc vf (parseS s).1 :=
  (Parse_far s w L hs).mono fun _ _ ⟨hb, vc, vf, he, hp⟩ => ⟨hb, vc, vf, he, hp.to⟩
end Go.Proofs.YtdkcdodkhghfhaaGreatDoor
