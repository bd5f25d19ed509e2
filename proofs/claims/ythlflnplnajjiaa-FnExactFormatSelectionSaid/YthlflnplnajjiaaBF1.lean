/-
  A selection's text: the machine's contracts, as the law's walk asks for them.
-/
import Derived.Test.YthlflnplnajjiaaC0
import Derived.Test.YthlflnplnajjiaaF1
namespace Go.Proofs.Ythlflnplnajjiaa.C
open Go.RowKit L D
theorem spec_FormatSelection (w : World) (u : Value) (x : List Int) (fp : List Nat) (h : Sl 1 EInt w u x fp) (hs : x.length ≤ 1048576) :
    Calls Try.prog 13 #[u] w (Gives w (.string (G.str8 (x.map G.sel)))) :=
  G.gives_of (G.c_spec_FormatSelection x hs) ⟨⟨fp, h⟩, ⟨⟩⟩
theorem impl_FormatSelection (w : World) (u : Value) (x : List Int) (fp : List Nat) (h : Sl 1 EInt w u x fp) (hs : x.length ≤ 1048576) :
    Calls Try.prog 15 #[u] w (Gives w (.string (G.str8 (x.map G.sel)))) :=
  G.gives_of (G.c_impl_FormatSelection x hs) ⟨⟨fp, h⟩, ⟨⟩⟩
end Go.Proofs.Ythlflnplnajjiaa.C
