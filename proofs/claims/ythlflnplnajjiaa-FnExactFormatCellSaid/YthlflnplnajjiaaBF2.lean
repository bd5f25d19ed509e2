/-
  A cell's text: the machine's contracts, as the law's walk asks for them.
-/
import Derived.Test.YthlflnplnajjiaaC0
import Derived.Test.YthlflnplnajjiaaF2
namespace Go.Proofs.Ythlflnplnajjiaa.C
open Go.RowKit L D
theorem spec_FormatCell (w : World) (u : Value) (x : List UInt8) (fp : List Nat) (h : Sl 1 EU8 w u x fp) (hs : x.length ≤ 1048576) :
    Calls Try.prog 17 #[u] w (Gives w (.string (G.cellText x))) :=
  G.gives_of (G.c_spec_FormatCell x hs) ⟨⟨fp, h⟩, ⟨⟩⟩
theorem impl_FormatCell (w : World) (u : Value) (x : List UInt8) (fp : List Nat) (h : Sl 1 EU8 w u x fp) (hs : x.length ≤ 1048576) :
    Calls Try.prog 19 #[u] w (Gives w (.string (G.cellText x))) :=
  G.gives_of (G.c_impl_FormatCell x hs) ⟨⟨fp, h⟩, ⟨⟩⟩
end Go.Proofs.Ythlflnplnajjiaa.C
