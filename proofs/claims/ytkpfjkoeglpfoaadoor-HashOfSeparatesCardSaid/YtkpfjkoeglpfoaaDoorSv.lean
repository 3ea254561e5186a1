/- A text of a proof over this seat: walks over the program's functions and the plain laws that they need. -/
import Derived.Test.YtkpfjkoeglpfoaaDoorWi2
set_option linter.all false
namespace Go.Fw
namespace Sha
def hexD' : List UInt8 := [48, 49, 50, 51, 52, 53, 54, 55, 56, 57, 97, 98, 99, 100, 101, 102]
def hexS' (s : List UInt8) : List UInt8 := s.flatMap fun c => [hexD'.getD (c / 16).toNat 0, hexD'.getD (c % 16).toNat 0]
theorem san_sum : sum [97, 98, 99] = [186, 120, 22, 191, 143, 1, 207, 234, 65, 65, 64, 222, 93, 174, 34, 35, 176, 3, 97, 163, 150, 23, 122, 156, 180, 16, 255, 97, 242, 0, 21, 173] := by decide +kernel
theorem san_mac : mac [74, 101, 102, 101] [119, 104, 97, 116, 32, 100, 111, 32, 121, 97, 32, 119, 97, 110, 116, 32, 102, 111, 114, 32, 110, 111, 116, 104, 105, 110, 103, 63] = [91, 220, 193, 70, 191, 96, 117, 78, 106, 4, 36, 38, 8, 149, 117, 199, 90, 0, 63, 8, 157, 39, 57, 131, 157, 236, 88, 185, 100, 236, 56, 67] := by decide +kernel
theorem san_of : ofD 8 [[97], []] = [54, 205, 80, 133, 3, 41, 248, 132, 6, 227, 27, 184, 167, 216, 251, 98] := by decide +kernel
end Sha
end Go.Fw
