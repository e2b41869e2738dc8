/- From a row's condition to what the calls of Go's library ask of the world; the rows' common parts. -/
import Derived.Test.YtdkcdodkhghfhaaGreatDoorRows
import Derived.Test.YtdkcdodkhghfhaaGreatDoorW
import Derived.HandedShaped
import Derived.OpenShut
import Derived.LaidMore
import Derived.Lay
import Derived.SevenTiedAt
import Derived.Stop.Joined
import Derived.Stop.LaidErr
import Derived.Lib.LaidTab
import Derived.Shelf.Vars
import Derived.ProofKit
import Derived.ShutString
import Derived.ChangeOld
import Derived.ChangeSame
import Derived.Below
import Derived.SizedLaws
import Derived.Carry
namespace Go.Proofs.YtdkcdodkhghfhaaGreatDoor
open Go.ChangeShapes Go.WideShapes Go.ChangeAt Go.RowKit

theorem own : ownKnob Tryz.prog.godebug = none := by kernel_rfl
theorem laidOut : laidOutB Tryz.prog = true := by kernel_rfl
def LAID : List (String × DataW Unit) := Rows.langNamesRow.laid
theorem gPow : Tryz.prog.globalNamed "internal/strconv.uint64pow10" = some 3 := by kernel_rfl
theorem gPowT : (Tryz.prog.globals[3]?).map (·.type) = some 200 := by kernel_rfl
theorem gSyn : Tryz.prog.globalNamed "strconv.ErrSyntax" = some 4 := by kernel_rfl
theorem gSynT : (Tryz.prog.globals[4]?).map (·.type) = some 89 := by kernel_rfl
theorem gRng : Tryz.prog.globalNamed "strconv.ErrRange" = some 5 := by kernel_rfl
theorem gRngT : (Tryz.prog.globals[5]?).map (·.type) = some 89 := by kernel_rfl
theorem star : "*" ++ "errors.errorString" = "*errors.errorString" := by decide
theorem rowErr (u : TypeId) (h : Tryz.prog.typeName? 3 u = some "*errors.errorString") : u = 210 :=
  typeName_ptr_named (nm := "errors.errorString") (by rw [star]; kernel_rfl) (by kernel_rfl) (by decide) u (by rw [star]; exact h)
theorem cellsErr : Tryz.prog.cellsOf 212 = 1 := by kernel_rfl
theorem cells9 : Tryz.prog.cellsOf 9 = 1 := by kernel_rfl
theorem beginSize : decide (9 ≤ (begin Tryz.prog (fun _ _ => 0) default).world.heap.size) = true := by kernel_rfl
theorem LW_of {W : World} (hsh : W.ShapedOpen Tryz.prog) (h : laidMet Tryz.prog LAID W) : LW W := by
  have h3 : laidMet Tryz.prog (("internal/strconv.uint64pow10", Lib.tabData .u64 Lib.pow10Tab) :: LAID.drop 3) W := h.tail.tail
  have h5 : laidMet Tryz.prog (("strconv.ErrRange", .iface "*errors.errorString" (.ptr (.agg [.lit (.string [118, 97, 108, 117, 101, 32, 111, 117, 116, 32, 111, 102, 32, 114, 97, 110, 103, 101])]))) :: LAID.drop 5) W := h.tail.tail.tail.tail
  have h6 : laidMet Tryz.prog (("strconv.ErrSyntax", .iface "*errors.errorString" (.ptr (.agg [.lit (.string [105, 110, 118, 97, 108, 105, 100, 32, 115, 121, 110, 116, 97, 120])]))) :: LAID.drop 6) W := h.tail.tail.tail.tail.tail
  have hbig : 8 ≤ W.heap.size := by
    have h16 := of_decide_eq_true beginSize
    obtain ⟨o, o0, ho, _⟩ := hsh.2 8 (of_decide_eq_true (by kernel_rfl)) (by omega)
    have := (Array.getElem?_eq_some_iff.1 ho).1
    omega
  refine ⟨?_, ?_, ?_, ?_, hbig⟩
  · exact cell_of_shapedOpen_int (g := 0) (t := 3) (zero := #[.int .i64 0]) hsh (of_decide_eq_true (by kernel_rfl)) (by kernel_rfl) rfl (by kernel_rfl) (by kernel_rfl) Tryz.underlying3
  · exact Lib.tabIs_of_head gPow gPowT Tryz.underlying200 (e := 160) (n := 20) Tryz.underlying160 (by kernel_rfl) (by kernel_rfl) h3
  · obtain ⟨a, s, hv, _⟩ := laid_sentinel h6 gSyn gSynT Tryz.underlying89 rowErr Tryz.underlying210 Tryz.underlying212 rfl rfl Tryz.underlying9 cellsErr cells9
    exact ⟨_, _, hv⟩
  · obtain ⟨a, s, hv, _⟩ := laid_sentinel h5 gRng gRngT Tryz.underlying89 rowErr Tryz.underlying210 Tryz.underlying212 rfl rfl Tryz.underlying9 cellsErr cells9
    exact ⟨_, _, hv⟩
end Go.Proofs.YtdkcdodkhghfhaaGreatDoor
