/- LangNames over the row's own arguments. -/
import Derived.Test.YtdkcdodkhghfhaaGreatDoorNM
import Derived.Test.YtdkcdodkhghfhaaGreatDoorLW2
namespace Go.Proofs.YtdkcdodkhghfhaaGreatDoor
open Go.RowKit

theorem bytes_eta (a : ByteArray) : (⟨a.data.toList.toArray⟩ : ByteArray) = a := by cases a; simp
theorem wf_u8 {n : Int} (h : (Lit.int .u8 n).wf = true) : 0 ≤ n ∧ n < 256 := by
  have := bounds_u8 h
  omega
theorem row_cell {w : World} {x : Addr} {n : Nat} {v : Value} (h : w.cell? (x.add n) = some v) : x.block < w.heap.size := by
  obtain ⟨ab, ao, spot⟩ := x
  have hs := World.cell?_spot h
  rcases Nat.lt_or_ge ab w.heap.size with h' | h'
  · exact h'
  · exfalso
    have hb : ((⟨ab, ao, spot⟩ : Addr).add n).block = ab := add_block _ _
    unfold World.cell? at h
    rw [hb, Array.getElem?_eq_none h'] at h
    simp at h
theorem LangNames_row (a0 : ByteArray) (a1 : Option Addr) (len1 cap1 : Nat) (z1 : List Int) (W : World) (L : LW W) (w0 : a0.size ≤ 140737488351232) (w1 : IsRow .u8 W a1 len1 cap1 z1) (y1 : len1 * 1 ≤ 140737488351232) :
    Calls Tryz.prog 7 #[.string a0, .slice a1 len1 cap1] W fun e W' => e = .returned (.bool true) ∧ Below W.heap.size W W' := by
  rw [← bytes_eta a0]
  rcases w1 with ⟨rfl, rfl, rfl, rfl⟩ | ⟨x, rfl, h1, h2, h3, h4, h5⟩
  · exact LangNames_calls a0.data.toList none [] 0 W L (by simpa using w0) (by simp) (by simp) (by simp)
  · have hlen : (z1.take len1).length = len1 := by rw [List.length_take]; omega
    have := LangNames_calls a0.data.toList (some x) (z1.take len1) cap1 W L (by simpa using w0) (fun z hz => wf_u8 (h5 z (List.mem_of_mem_take hz))) (by rw [hlen]; omega) (fun j z hj => by
      have hjl : j < z1.length := by
        have := (List.getElem?_eq_some_iff.1 hj).1
        rw [hlen] at this; omega
      have hz : z1.getD j 0 = z := by
        have hj' : j < len1 := by
          have := (List.getElem?_eq_some_iff.1 hj).1
          rwa [hlen] at this
        rw [List.getElem?_take_of_lt hj'] at hj
        simp [List.getD, hj]
      have hc := h4 j hjl
      rw [hz] at hc
      exact ⟨x, rfl, row_cell hc, hc⟩)
    rw [hlen] at this
    exact this
end Go.Proofs.YtdkcdodkhghfhaaGreatDoor
