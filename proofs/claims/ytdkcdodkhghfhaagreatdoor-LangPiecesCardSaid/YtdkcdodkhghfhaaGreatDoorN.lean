/- Walks of lang.need and lang.names. -/
import Derived.Test.YtdkcdodkhghfhaaGreatDoorRL2
import Derived.Test.YtdkcdodkhghfhaaGreatDoorP2
namespace Go.Proofs.YtdkcdodkhghfhaaGreatDoor
open Go.RowKit Go.Proofs.YtdkcdodkhghfhaaGreatDoorW.PrintLast Go.Proofs.YtdkcdodkhghfhaaGreatDoorW.PrintWords

/-- The panic by which a reader tells an error. -/
def stopC (e : Int) : List PanicEntry := [{ v := .iface 137 (.agg #[.int .i64 e]), recovered := false }]
set_option maxHeartbeats 400000 in
theorem need_ok (e : Int) (w : World) : Calls Tryz.prog 87 #[.bool true, .int .i64 e] w fun r w' => r = .returned (.tuple #[]) ∧ w = w' := by
  go_enter Tryz.func87, Tryz.ntmps87
  go_wp2
  go_end0
  exact ⟨rfl, rfl⟩
set_option maxHeartbeats 400000 in
theorem need_no (e : Int) (w : World) : Calls Tryz.prog 87 #[.bool false, .int .i64 e] w fun r w' => r = .panicked (stopC e) ∧ w = w' := by
  go_enter Tryz.func87, Tryz.ntmps87
  go_wp2
  exact ⟨rfl, rfl, rfl⟩

theorem split_calls (c : UInt8) (s : Str) (w : World) (L : LW w) (hs : s.length < 40000000) :
    Calls Tryz.prog 17 #[.string ⟨s.toArray⟩, .string ⟨#[c]⟩] w fun e w' =>
      e = .returned (.slice (some ⟨w.heap.size, 0, none⟩) (splitS c s).length (splitS c s).length) ∧ w' = w.alloc (.cells (strs (splitS c s)).toArray 9) := by
  obtain ⟨m, hm⟩ := L.m
  have := Tryz.strings_Split ⟨s.toArray⟩ ⟨#[c]⟩ m w (by show s.length < _; omega) hm (Nat.le_refl 1)
  rw [countB1, split1] at this
  exact this

theorem splitS_mem_length (c : UInt8) : ∀ (s : Str) (x : Str), x ∈ splitS c s → x.length ≤ s.length
  | [], x, h => by simp [splitS] at h; subst h; simp
  | y :: t, x, h => by
    simp only [splitS] at h
    split at h
    · rcases List.mem_cons.1 h with rfl | h
      · simp
      · have := splitS_mem_length c t x h; simp; omega
    · have ih := splitS_mem_length c t
      split at h
      · rename_i hd r e
        rcases List.mem_cons.1 h with rfl | h
        · have := ih hd (by rw [e]; simp); simp; omega
        · have := ih x (by rw [e]; simp [h]); simp; omega
      · simp at h; subst h; simp

theorem strs_at (l : List Str) (k : Nat) (h : k < l.length) : (strs l).toArray[k]? = some (.string ⟨(l[k]).toArray⟩) := by
  simp [strs, sv, h]

set_option maxHeartbeats 2000000 in
set_option maxRecDepth 100000 in
theorem names_ok (s : Str) (w : World) (L : LW w) (hs : s.length < 40000000) (hn : (splitS 32 s).all nameS = true) :
    Calls Tryz.prog 133 #[.string ⟨s.toArray⟩] w fun e w' =>
      e = .returned (.slice (some ⟨w.heap.size, 0, none⟩) (splitS 32 s).length (splitS 32 s).length) ∧ w' = w.alloc (.cells (strs (splitS 32 s)).toArray 9) := by
  have HL := Lib.hid L
  clear L
  have hlen : (splitS 32 s).length ≤ 40000000 := by rw [splitS_length]; have := List.count_le_length (a := (32 : UInt8)) (l := s); omega
  have hml := splitS_mem_length 32 s
  have HML := Lib.hid hml
  have HN := Lib.hid hn
  clear hml hn
  generalize hl : splitS 32 s = l at *
  have HLL := Lib.hid hl
  clear hl
  go_enter Tryz.func133, Tryz.ntmps133
  go_wp2_with fail
  refine (split_calls 32 s _ HL.out hs).mono ?_
  rw [HLL.out]
  rintro e w1 ⟨rfl, rfl⟩
  go_wp2_with fail
  go_loop [10] (fun i => ∃ k : Nat, k ≤ l.length ∧ i = .int .i64 k) (fun i => l.length - (intOf i).toNat)
  case atStart => exact ⟨0, Nat.zero_le _, rfl⟩
  case round =>
    obtain ⟨k, hk, rfl⟩ := hrel
    by_cases hlt : k < l.length
    · have hc : (w.alloc (.cells (strs l).toArray 9)).cell? ⟨w.heap.size, k, none⟩ = some (.string ⟨(l[k]).toArray⟩) := cellB (heap_new _ _) k (strs_at l k hlt)
      have hx : nameS l[k] = true := List.all_eq_true.1 HN.out _ (List.getElem_mem hlt)
      have hxl : (l[k]).length ≤ 140737488351232 := by have := HML.out l[k] (List.getElem_mem hlt); omega
      go_wp2_with (first | (go_at_call 29; refine (name_calls _ _ hxl).mono ?_; rw [hx]; rintro e w' ⟨rfl, rfl⟩) | (go_at_call 87; refine (need_ok _ _).mono ?_; rintro e w' ⟨rfl, rfl⟩))
      go_round
      case rel => exact ⟨k + 1, by omega, by go_num⟩
      case measure => simp [intOf]; omega
    · go_wp2_with fail
      go_ret
      exact ⟨rfl, rfl⟩
set_option maxHeartbeats 2000000 in
set_option maxRecDepth 100000 in
theorem names_no (s : Str) (w : World) (L : LW w) (hs : s.length < 40000000) (hn : (splitS 32 s).all nameS = false) :
    Calls Tryz.prog 133 #[.string ⟨s.toArray⟩] w fun e w' =>
      e = .panicked (stopC 12) ∧ w' = w.alloc (.cells (strs (splitS 32 s)).toArray 9) := by
  have HL := Lib.hid L
  clear L
  have hlen : (splitS 32 s).length ≤ 40000000 := by rw [splitS_length]; have := List.count_le_length (a := (32 : UInt8)) (l := s); omega
  have hml := splitS_mem_length 32 s
  have HML := Lib.hid hml
  have HN := Lib.hid hn
  clear hml hn
  generalize hl : splitS 32 s = l at *
  have HLL := Lib.hid hl
  clear hl
  go_enter Tryz.func133, Tryz.ntmps133
  go_wp2_with fail
  refine (split_calls 32 s _ HL.out hs).mono ?_
  rw [HLL.out]
  rintro e w1 ⟨rfl, rfl⟩
  go_wp2_with fail
  go_loop [10] (fun i => ∃ k : Nat, k ≤ l.length ∧ i = .int .i64 k ∧ (l.take k).all nameS = true) (fun i => l.length - (intOf i).toNat)
  case atStart => exact ⟨0, Nat.zero_le _, rfl, rfl⟩
  case round =>
    obtain ⟨k, hk, rfl, hall⟩ := hrel
    have HALL := Lib.hid hall
    clear hall
    by_cases hlt : k < l.length
    · have hc : (w.alloc (.cells (strs l).toArray 9)).cell? ⟨w.heap.size, k, none⟩ = some (.string ⟨(l[k]).toArray⟩) := cellB (heap_new _ _) k (strs_at l k hlt)
      have hxl : (l[k]).length ≤ 140737488351232 := by have := HML.out l[k] (List.getElem_mem hlt); omega
      cases hx : nameS l[k]
      · have HX := Lib.hid hx
        clear hx
        go_wp2_with (first | (go_at_call 29; refine (name_calls _ _ hxl).mono ?_; rw [HX.out]; rintro e w' ⟨rfl, rfl⟩) | (go_at_call 87; refine (need_no _ _).mono ?_; rintro e w' ⟨rfl, rfl⟩))
        exact ⟨rfl, rfl, rfl⟩
      · have HX := Lib.hid hx
        clear hx
        go_wp2_with (first | (go_at_call 29; refine (name_calls _ _ hxl).mono ?_; rw [HX.out]; rintro e w' ⟨rfl, rfl⟩) | (go_at_call 87; refine (need_ok _ _).mono ?_; rintro e w' ⟨rfl, rfl⟩))
        refine ⟨⟨k + 1, by omega, rfl, ?_⟩, by simp [intOf]; omega⟩
        rw [List.take_succ_eq_append_getElem hlt, List.all_append, HALL.out]
        simp [HX.out]
    · exfalso
      have h1 := HALL.out
      rw [List.take_of_length_le (by omega), HN.out] at h1
      cases h1
end Go.Proofs.YtdkcdodkhghfhaaGreatDoor
