/- A text of a proof over this seat: walks over the program's functions and the plain laws that they need. -/
import Derived.Test.YtbgbfmdnpjpdgaaDd5
import Derived.Test.YtbgbfmdnpjpdgaaDkA
import Derived.Test.YtbgbfmdnpjpdgaaFwB
set_option linter.all false
namespace Go.Proofs.Ytbgbfmdnpjpdgaa
open Go.Fw
theorem ty54 : Tf Try.prog 54 (.struct #[⟨ "Text", 9, 0, false, "", "", 0⟩, ⟨ "Next", 9, 1, false, "", "", 16⟩, ⟨ "Dirty", 4, 2, false, "", "", 32⟩, ⟨ "Worn", 4, 3, false, "", "", 33⟩]) 4 40 (.agg ([Value.string ⟨(List.nil : List UInt8).toArray⟩, Value.string ⟨(List.nil : List UInt8).toArray⟩] ++ [Value.bool false, Value.bool false]).toArray) := ⟨Try.underlying54, by kernel_rfl⟩
theorem ty55 : Tf Try.prog 55 (.slice 54) 1 24 (Value.slice none 0 0) := ⟨Try.underlying55, by kernel_rfl⟩
theorem ty57 : Tf Try.prog 57 (.struct #[⟨ "S", 55, 0, false, "", "", 0⟩, ⟨ "Off", 4, 1, false, "", "", 24⟩, ⟨ "Left", 3, 2, false, "", "", 32⟩]) 3 40 (.agg ([Value.slice none 0 0] ++ [Value.bool false] ++ [Value.int .i64 0]).toArray) := ⟨Try.underlying57, by kernel_rfl⟩
abbrev RRB := Dk.RB 57
abbrev RRW := Dk.RW 54
abbrev RRD := Dk.RDR 57 54
abbrev RRDi := Dk.RDRw 57 54 3
abbrev RRDs := Dk.RDRw 57 54 9

end Go.Proofs.Ytbgbfmdnpjpdgaa
