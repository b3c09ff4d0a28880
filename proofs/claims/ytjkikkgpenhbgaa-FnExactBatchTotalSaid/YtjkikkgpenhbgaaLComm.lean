import Derived.StillTail
import Derived.Conc.LoneCalls
import Derived.Orders
import Derived.Tactics
namespace Go.Proofs.Ytjkikkgpenhbgaa.Comm
open Go Go.Conc Go.RowKit
section
variable {P:Program} {ops:Array Oper} {Q:Exit→Act→World→Prop} {a:Act} {w:World} {id:Nat}
end
section
variable {P:Program} {ops pop:Array Oper} {Q:Exit→Act→World→Prop} {K:Act→World→Prop}
end
end Go.Proofs.Ytjkikkgpenhbgaa.Comm
