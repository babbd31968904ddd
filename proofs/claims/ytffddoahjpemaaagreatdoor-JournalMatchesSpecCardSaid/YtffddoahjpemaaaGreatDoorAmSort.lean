/- Part of a proof. -/
import Derived.Test.YtffddoahjpemaaaGreatDoorAmWf
import Derived.Shelf.SortM.Plain
import Derived.Shelf.SortM.SortNone
set_option linter.unusedVariables false
set_option linter.unusedSimpArgs false
namespace Go.Am
open Go Go.Proofs Go.RowKit Go.Maps Go.Sort Go.Shelf
variable {P : Program} {w : World}
def P1(l:List Int):List Int:=l.mergeSort fun x y=>decide (x≤y)
theorem Sim.below{U:Oth}{G:Nat→Option AV}{w0:World}{W0:Nat→Prop}{ρ:Rho}{s:St}{a:Act}{w':World}(h:Sim U G w0 W0 ρ s a w)(hb:Below w.heap.size w w'):Sim U G w0 W0 ρ s a w':=
 h.step (fun b hlt _=>hb.block b hlt) (fun b hb=>.inl hb) (fun _ _ h=>h) hb.size ⟨hb.os,hb.output,hb.tape⟩
  (fun id n r b hl=>(h.bl id n r b hl).keep (fun b hlt _=>hb.block b hlt) (fun b hb=>.inl hb) (fun _ _ h=>h) hb.size (fun L _ hlt=>hb.block _ hlt)) h.sep h.dom h.su
end Go.Am
