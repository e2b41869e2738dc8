/- The walk of the closure of lang.Print. -/
import Derived.Test.YtdkcdodkhghfhaaGreatDoorPR0
namespace Go.Proofs.YtdkcdodkhghfhaaGreatDoor
open Go.RowKit Go.Proofs.YtdkcdodkhghfhaaGreatDoorW.PrintLast Go.Proofs.YtdkcdodkhghfhaaGreatDoorW.PrintWords

theorem join_calls (x : Str) (r : List Str) (A : Option Addr) (cp : Nat) (w : World) (hA : RdB w 9 A (strs (x :: r))) (hl : (spc (x :: r)).length ≤ 10000000000) (hcp : r.length + 1 ≤ cp) :
    Calls Tryz.prog 38 #[.slice A (r.length + 1) cp, .string ⟨#[32]⟩] w fun e w' => e = .returned (.string ⟨(Lib.join (x :: r) [32]).toArray⟩) ∧ Below w.heap.size w w' := by
  rcases hA with h | ⟨g, off, cs, rfl, hg, hcs⟩
  · simp [strs] at h
  have hlen : ((x :: r).map (fun s : Str => (⟨s.toArray⟩ : ByteArray))).length = r.length + 1 := by simp
  have hm : ((x :: r).map (fun s : Str => (⟨s.toArray⟩ : ByteArray))).map (·.data.toList) = x :: r := by
    rw [List.map_map]
    have : ((fun b : ByteArray => b.data.toList) ∘ fun s : Str => (⟨s.toArray⟩ : ByteArray)) = id := rfl
    rw [this, List.map_id]
  have hsl := spc_len (x :: r)
  have hj := congrArg List.length (join_spc x r)
  simp only [List.length_cons] at hsl hj
  have := Tryz.strings_Join g off cp ((x :: r).map (fun s : Str => (⟨s.toArray⟩ : ByteArray))) ⟨#[32]⟩ w ?_ (sizeB hg) (by rw [hlen]; omega) (by rw [hlen]; omega) ?_
  · rw [hlen, hm] at this
    exact this
  · intro j b hb
    rw [List.getElem?_map] at hb
    cases hx : (x :: r)[j]? with
    | none => rw [hx] at hb; cases hb
    | some y =>
      rw [hx] at hb
      injection hb with hb
      subst hb
      exact cellB hg _ (hcs j _ (by rw [strs, List.getElem?_map, hx]; rfl))
  · rw [hm]
    show (Lib.join (x :: r) [32]).length ≤ _
    omega

/-- A line of words is written: what is known of the world behind it. -/
def LineOut (B bo b : Nat) (ok : Bool) (acc : Str) (w : World) (w' : World) : Prop :=
  w'.heap[bo]? = some (.cells #[.bool ok] 4 (0, 0)) ∧ Bld B b acc w' ∧ Below B w w' ∧ TKeep [4, 5, 86] w w'
theorem lnText_eq (word x : Str) (r : List Str) : ((⟨word.toArray⟩ : ByteArray) ++ ⟨#[32]⟩ ++ ⟨(Lib.join (x :: r) [32]).toArray⟩ ++ ⟨#[10]⟩) = ⟨(lnText word (x :: r)).toArray⟩ := by
  have h := join_spc x r
  apply ByteArray.ext
  apply Array.toList_inj.1
  simp only [lnText, ← h]
  simp
set_option maxHeartbeats 1000000 in
theorem pline_calls (B bo b : Nat) (ok : Bool) (acc word : Str) (x : Str) (r : List Str) (A : Option Addr) (cp : Nat) (w : World) (ho : w.heap[bo]? = some (.cells #[.bool ok] 4 (0, 0))) (hbo : B ≤ bo) (hb : Bld B b acc w) (hA : RdB w 9 A (strs (x :: r)))
    (hl : (spc (x :: r)).length ≤ 10000000000) (hw : word.length ≤ 1000) (hacc : acc.length ≤ 100000000000) (hcp : r.length + 1 ≤ cp) (hBw : B ≤ w.heap.size) :
    Calls Tryz.prog 42 #[.string ⟨word.toArray⟩, .slice A (r.length + 1) cp, .pointer (some ⟨bo, 0, none⟩), .pointer (some ⟨b, 0, none⟩)] w fun e w' =>
      e = .returned (.tuple #[]) ∧ LineOut B bo b (ok && (x :: r).all nameS) (acc ++ lnText word (x :: r)) w w' := by
  have c0 : w.cell? ⟨bo, 0, none⟩ = some (.bool ok) := cellB ho 0 rfl
  have f0 := frozenB ho 0
  have HA := Lib.hid hA
  have HB := Lib.hid hb
  have HO := Lib.hid ho
  have hjl := congrArg List.length (join_spc x r)
  have hln := lnText_len word (x :: r)
  simp only [List.length_cons] at hjl
  have hjl2 : (Lib.join (x :: r) [32]).length ≤ 10000000000 := by omega
  have hln2 : (lnText word (x :: r)).length ≤ 20000000000 := by omega
  have HE := Lib.hid (lnText_eq word x r)
  clear hA hb ho hjl hln
  generalize hj : Lib.join (x :: r) [32] = jn at *
  generalize hlx : lnText word (x :: r) = lx at *
  have fin : ∀ (W : World) (ok' : Bool), ok' = (ok && (x :: r).all nameS) → W = w.setCell ⟨bo, 0, none⟩ (.bool ok') →
      W.heap[bo]? = some (.cells #[.bool ok'] 4 (0, 0)) ∧ Bld B b acc W ∧ Below B w W ∧ TKeep [4, 5, 86] w W ∧ RdB W 9 A (strs (x :: r)) := by
    rintro W ok' h rfl
    exact ⟨blk_set HO.out 0 _, HB.out.set HO.out (by decide) (by decide), (Below.refl _ _).setCell hbo _, TKeep.set HO.out (by simp), HA.out.set HO.out (by decide)⟩
  have tail : ∀ (W : World), W.heap[bo]? = some (.cells #[.bool (ok && (x :: r).all nameS)] 4 (0, 0)) → Bld B b acc W → Below B w W → TKeep [4, 5, 86] w W →
      ∀ V : World, Below W.heap.size W V → V.heap[bo]? = some (.cells #[.bool (ok && (x :: r).all nameS)] 4 (0, 0)) ∧ Bld B b acc V ∧ Below B w V ∧ TKeep [4, 5, 86] w V := by
    intro W h1 h2 h3 h4 V h5
    exact ⟨(h5.block _ (sizeB h1)).trans h1, h2.below h5, h3.trans (h5.mono (Nat.le_trans hBw h3.size)), h4.trans (TKeep.below h5)⟩
  have FIN := Lib.hid fin
  have TAIL := Lib.hid tail
  have HJ := Lib.hid hj
  clear fin tail hj hlx
  have fin2 : ∀ (V : World) (v : Bool), v = (ok && (x :: r).all nameS) → V.heap[bo]? = some (.cells #[.bool v] 4 (0, 0)) → Below B w V → TKeep [4, 5, 86] w V →
      ∀ V' : World, Bld B b (acc ++ lx) V' → Below B V V' → TKeep [5, 86] V V' → LineOut B bo b v (acc ++ lx) w V' := by
    intro V v _ h1 h2 h3 V' h4 h5 h6
    exact ⟨(h6 _ _ 4 h1 (by simp)).trans h1, h4, h2.trans h5, h3.trans (h6.wide (by simp))⟩
  have FIN2 := Lib.hid fin2
  clear fin2
  cases ok with
  | false =>
    go_enter Tryz.func42, Tryz.ntmps42
    go_wp2_with fail
    obtain ⟨q1, q2, q3, q4, q5⟩ := FIN.out _ (false) (by simp) rfl
    have Q1 := Lib.hid q1
    have Q2 := Lib.hid q2
    have Q3 := Lib.hid q3
    have Q4 := Lib.hid q4
    refine (join_calls x r A cp _ q5 hl hcp).mono ?_
    rw [HJ.out]
    clear q1 q2 q3 q4 q5
    rintro e V ⟨rfl, hV⟩
    obtain ⟨q1, q2, q3, q4⟩ := TAIL.out _ (by simpa using Q1.out) Q2.out Q3.out Q4.out V hV
    have D1 := Lib.hid q1
    have D2 := Lib.hid q2
    have D3 := Lib.hid q3
    have D4 := Lib.hid q4
    clear c0 f0 Q1 Q2 Q3 Q4 hV q1 q2 q3 q4
    go_wp2_with fail
    rw [HE.out]
    refine (wr_str B b acc lx V D2.out (by omega) (Nat.le_trans hBw D3.out.size)).mono ?_
    rintro e V' ⟨rfl, h4, h5, h6⟩
    have R := Lib.hid (FIN2.out V _ rfl D1.out D3.out D4.out V' h4 h5 h6)
    clear h4 h5 h6
    go_wp2_with fail
    go_end0
    exact ⟨rfl, R.out⟩
  | true =>
    go_enter Tryz.func42, Tryz.ntmps42
    go_wp2_with fail
    refine (containsNo_calls (x :: r) A cp _ HA.out hl).mono ?_
    rintro e w' ⟨rfl, rfl⟩
    go_wp2_with fail
    obtain ⟨q1, q2, q3, q4, q5⟩ := FIN.out _ ((x :: r).all nameS) (by simp) rfl
    have Q1 := Lib.hid q1
    have Q2 := Lib.hid q2
    have Q3 := Lib.hid q3
    have Q4 := Lib.hid q4
    refine (join_calls x r A cp _ q5 hl hcp).mono ?_
    rw [HJ.out]
    clear q1 q2 q3 q4 q5
    rintro e V ⟨rfl, hV⟩
    obtain ⟨q1, q2, q3, q4⟩ := TAIL.out _ (by simpa using Q1.out) Q2.out Q3.out Q4.out V hV
    have D1 := Lib.hid q1
    have D2 := Lib.hid q2
    have D3 := Lib.hid q3
    have D4 := Lib.hid q4
    clear c0 f0 Q1 Q2 Q3 Q4 hV q1 q2 q3 q4
    go_wp2_with fail
    rw [HE.out]
    refine (wr_str B b acc lx V D2.out (by omega) (Nat.le_trans hBw D3.out.size)).mono ?_
    rintro e V' ⟨rfl, h4, h5, h6⟩
    have R := Lib.hid (FIN2.out V _ rfl D1.out D3.out D4.out V' h4 h5 h6)
    clear h4 h5 h6
    go_wp2_with fail
    go_end0
    exact ⟨rfl, R.out⟩
end Go.Proofs.YtdkcdodkhghfhaaGreatDoor
