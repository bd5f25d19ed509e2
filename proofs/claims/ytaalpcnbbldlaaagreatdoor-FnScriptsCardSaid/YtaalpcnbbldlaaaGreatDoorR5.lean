/- Steps. -/
import Derived.MapFrom
namespace Go.Proofs.YtaalpcnbbldlaaaGreatDoor.G
set_option linter.all false
open Go Go.MapKept
section
def prs:List Int→List (Int×Int)
 |k::v::r=>(k,v)::prs r
 |_=> []
def iv(p:Int×Int):Value×Value:=(.int .i64 p.1, .int .i64 p.2)
def aF4(es:List MapEntry)(l:List Int):Prop:=es.map (fun e=>(e.key,e.val))=(prs l).map iv
def aCy(w:World)(r:Nat)(l:List Int):Prop:= ∃es clock,w.heap[r]? =some (.map es clock)∧aF4 es.toList l
section
variable{P:Program}{w:World}{t k e:TypeId}{r:Nat}{l:List Int}{x y:Int}
end
end
end Go.Proofs.YtaalpcnbbldlaaaGreatDoor.G
