import Derived.Test.YtjkikkgpenhbgaaLWApart
import Derived.Test.YtjkikkgpenhbgaaLWArr
namespace Go.Proofs.YtjkikkgpenhbgaaW.PrintWords
open Go.RowKit
namespace Kd
section
variable {α:Type} {d:Kd α} {e base g n c:Nat} {ok:Nat→Prop} {w w0 W:World} {A:Option Addr} {xs:List α}
end
end Kd
end Go.Proofs.YtjkikkgpenhbgaaW.PrintWords
