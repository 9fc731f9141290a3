import Derived.Test.YtalpfcaakpgkmaaGreatDoorR26
namespace Go.Proofs.YtalpfcaakpgkmaaGreatDoor
open Go.RowKit
variable {G:GA}{gen:Nat}
theorem zOA(s:ByteArray)(w:World)(b:Bool)(h:jO s=b) : Calls Tryz.prog 38 #[.string s] w λe w'=>e=.returned (.bool b)/\w=w':=by
 have:=zPF s w;rw[h] at this;exact this
end Go.Proofs.YtalpfcaakpgkmaaGreatDoor
