/- What the sanity check reads and prints. -/
import Derived.Test.YtdkcdodkhghfhaaGreatDoorPR2
namespace Go.Proofs.YtdkcdodkhghfhaaGreatDoor
open Go.RowKit

/-- What ReadLine returns. -/
def rd8 (s : Str) : Option Ln := (rlS s).bind fun l => if l.args.length ≤ 8 then some l else none
theorem sa : rd8 [120, 32, 61, 32, 39, 105, 116, 39, 39, 115, 39] = some ⟨1, [120], [], [], [], [], ⟨4, 0, [105, 116, 39, 115]⟩⟩ := by decide +kernel
theorem sb : rd8 [120, 32, 61, 32, 121, 46, 122] = some ⟨16, [120], [121], [], [122], [], ⟨0, 0, []⟩⟩ := by decide +kernel
theorem sc : rd8 [120, 32, 61, 32, 121, 32, 46, 32, 122] = some ⟨14, [120], [121], [122], [], [], ⟨0, 0, []⟩⟩ := by decide +kernel
theorem sd : rd8 [120, 91, 105, 93, 32, 61, 32, 121] = some ⟨20, [120], [105], [121], [], [], ⟨0, 0, []⟩⟩ := by decide +kernel
theorem se : rd8 [120, 32, 61, 32, 45, 48] = none := by decide +kernel
theorem sf : rd8 [120, 32, 61, 32, 105, 102] = none := by decide +kernel
def txt1 : Str := [102, 117, 110, 99, 32, 109, 97, 105, 110, 10, 120, 32, 61, 32, 49, 10, 112, 114, 105, 110, 116, 32, 120, 10, 101, 110, 100, 102, 117, 110, 99, 10]
def prg1 : Prg := ⟨[], [⟨[109, 97, 105, 110], [], [⟨1, [120], [], [], [], [], ⟨3, 1, []⟩⟩, ⟨29, [120], [], [], [], [], ⟨0, 0, []⟩⟩]⟩]⟩
theorem sp1 : parseS txt1 = (prg1, 0, 0) := by decide +kernel
theorem sp2 : parseS [102, 117, 110, 99, 32, 109, 97, 105, 110, 10, 120, 32, 61, 32, 49, 10] = (⟨[], []⟩, 16, 12) := by decide +kernel
theorem sp3 : parseS [102, 117, 110, 99, 32, 109, 97, 105, 110, 10, 120, 32, 58, 61, 32, 49, 10] = (⟨[], []⟩, 10, 12) := by decide +kernel
theorem spr : printS prg1 = txt1 := by decide +kernel
end Go.Proofs.YtdkcdodkhghfhaaGreatDoor
