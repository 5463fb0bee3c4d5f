/- Plain laws of the loops that a law's own small functions run over lists: copying, holding against, marking, asking for the marks. Said of any function that obeys the loop's equation; no program in sight. -/
import Derived.Test.YtioifcanipijhaaWMoreT
namespace Go.Proofs.Ytioifcanipijhaa.Lst
open Go.RowKit Go.Proofs.YtioifcanipijhaaW.PrintWords Go.Proofs.YtioifcanipijhaaW.PrintLast

theorem wr {n : Int} (h0 : -9223372036854775808 ≤ n) (h1 : n ≤ 9223372036854775807) : wrap64 n = n := by unfold wrap64; omega

/-- n marks from m on. -/
def marks {β : Type} (h : Int → β) (m : Int) (n : Nat) : List β := (List.range n).map fun (j : Nat) => h (m + (j : Int))
end Go.Proofs.Ytioifcanipijhaa.Lst
