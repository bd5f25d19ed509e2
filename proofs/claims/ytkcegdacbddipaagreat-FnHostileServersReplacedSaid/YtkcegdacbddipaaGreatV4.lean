/-
  Maps from integers to integers, run by the model: what a look-up gives, what an update leaves.
-/
import Derived.MapFrom
namespace Go.Proofs.YtkcegdacbddipaaGreat.G
set_option linter.all false
open Go Go.MapKept
section
def Pj:List Int→List (Int×Int)
 |k::v::r=>(k,v)::Pj r
 |_=> []
def nE:List Int→Int→Int
 |k::v::r,x=>if x=k then v else nE r x
 |_,_=>0
def Ci:List Int→Int→Int→List Int
 |k::v::r,x,y=>if x=k then k::y::r else k::v::Ci r x y
 |_,x,y=> [x,y]
def iv(p:Int×Int):Value×Value:=(.int .i64 p.1, .int .i64 p.2)
def F6(es:List MapEntry)(l:List Int):Prop:=es.map (fun e=>(e.key,e.val))=(Pj l).map iv
def PW(w:World)(r:Nat)(l:List Int):Prop:= ∃es clock,w.heap[r]? =some (.map es clock)∧F6 es.toList l
theorem Cj{q:IntKind}{x:Int}: ∀(es:List MapEntry) (l:List Int) (i:Nat),F6 es l→
  (Instr.findNow (.int q) (.int .i64 x) es i=some none∧nE l x=0∧ ∀y,Ci l x y=(Pj l).flatMap (fun p=> [p.1,p.2])++ [x,y])∨
  ∃j e,Instr.findNow (.int q) (.int .i64 x) es i=some (some (i+j,e.val))∧es[j]? =some e∧e.key= .int .i64 x∧e.val= .int .i64 (nE l x)∧
   ∀(y:Int) (b:MapEntry→Nat),F6 (es.modify j fun e=>{e with key:= .int .i64 x,val:= .int .i64 y,born:=b e}) (Ci l x y)
 | [],l,i,h=>by
   left
   cases l with
   |nil=>exact⟨rfl,rfl,fun y=>rfl⟩
   |cons k l=>cases l with
    |nil=>exact⟨rfl,rfl,fun y=>rfl⟩
    |cons v r=>simp[F6,Pj]at h
 |e::es,l,i,h=>by
  unfold F6 at h
  cases l with
  |nil=>simp[Pj]at h
  |cons k l=>cases l with
   |nil=>simp[Pj]at h
   |cons v r=>
    simp only[Pj,List.map_cons,List.cons.injEq,Prod.mk.injEq,iv]at h
    obtain⟨⟨h1,h2⟩,h3⟩:=h
    by_cases hx:x=k
    ·subst hx
     right
     refine⟨0,e,?_,rfl,h1,?_,fun y b=> ?_⟩
     ·simp[Instr.findNow,Instr.sameNow,h1]
     ·rw[h2,nE,if_pos rfl]
     ·rw[Ci,if_pos rfl]
      show(_::es).map _=_
      simp only[List.map_cons,Pj,iv]
      rw[h3]
    ·have hn:Instr.findNow (.int q) (.int .i64 x) (e::es) i=Instr.findNow (.int q) (.int .i64 x) es (i+1):=by
      have hb:(x==k)=false:=by simpa using hx
      simp[Instr.findNow,Instr.sameNow,h1,hb]
     rw[hn,nE,if_neg hx]
     rcases Cj es r (i+1) h3 with⟨g1,g2,g3⟩| ⟨j,e2,g1,g2,g3,g4,g5⟩
     ·left
      refine⟨g1,g2,fun y=> ?_⟩
      rw[Ci,if_neg hx,g3 y];rfl
     ·right
      refine⟨j+1,e2,by rw[g1];congr 2;simp;omega,g2,g3,g4,fun y b=> ?_⟩
      have:=g5 y b
      rw[Ci,if_neg hx]
      simp only[F6,List.modify_succ_cons,List.map_cons,Pj,iv,h1,h2]at this ⊢
      rw[this]
theorem HX(x y:Int): ∀l:List (Int×Int),Pj ((l.flatMap fun p=> [p.1,p.2])++ [x,y])=l++ [(x,y)]
 | []=>rfl
 |p::l=>by
  show Pj (p.1::p.2::((l.flatMap fun p=> [p.1,p.2])++ [x,y]))=_
  rw[Pj,HX x y l];rfl
section
variable{P:Program}{w:World}{t k e:TypeId}{r:Nat}{l:List Int}{x y:Int}
theorem Ck(ht:P.underlying t=some (.map k e))(hk:P.underlying k=some (.int .i64))(hz:(zeroValue e).run P w= .ok (.int .i64 0) w)(h:PW w r l):
  (Instr.lookup t (.map (some r)) (.int .i64 x) false).run P w= .ok (.int .i64 (nE l x)) w:=by
 obtain⟨es,clock,hb,he⟩:=h
 have hkey:IsKey (.int .i64) (.int .i64 x):=rfl
 rcases Cj (q:= .i64) (x:=x) es.toList l 0 he with⟨g1,g2,_⟩| ⟨j,e2,g1,_,_,g4,_⟩
 ·simp[Instr.lookup,run_underlying ht,run_getObj_map hb,run_checkKey hk hkey,run_findKey hk g1,hz,Result.andThen,g2]
 ·simp[Instr.lookup,run_underlying ht,run_getObj_map hb,run_checkKey hk hkey,run_findKey hk g1,Result.andThen,g4]
theorem wu(ht:P.underlying t=some (.map k e))(hk:P.underlying k=some (.int .i64))(h:PW w r l):
  ∃es clock,(Instr.mapUpdate t (.map (some r)) (.int .i64 x) (.int .i64 y)).run P w= .ok () {w with heap:=w.heap.setIfInBounds r (.map es clock)}∧F6 es.toList (Ci l x y)∧ ∃es0 c0,w.heap[r]? =some (.map es0 c0):=by
 obtain⟨es,clock,hb,he⟩:=h
 have hkey:IsKey (.int .i64) (.int .i64 x):=rfl
 rcases Cj (q:= .i64) (x:=x) es.toList l 0 he with⟨g1,_,g3⟩| ⟨j,e2,g1,g2,g3,_,g5⟩
 ·refine⟨es.push ⟨.int .i64 x, .int .i64 y,clock⟩,clock+1,?_,?_,es,clock,hb⟩
  ·simp[Instr.mapUpdate,run_underlying ht,run_getObj_map hb,run_checkKey hk hkey,run_findKey hk g1,run_setObj_map _ hb,Result.andThen]
  ·rw[g3 y]
   unfold F6 at he ⊢
   rw[HX,Array.toList_push,List.map_append,List.map_append,he]
   rfl
 ·have hj:es[j]? =some e2:=by simpa using g2
  refine⟨es.modify j fun e=>{e with key:= .int .i64 x,val:= .int .i64 y},clock,?_,?_,es,clock,hb⟩
  ·simp[Instr.mapUpdate,run_underlying ht,run_getObj_map hb,run_checkKey hk hkey,run_findKey hk g1,hj,g3,run_keyThatStays hkey,run_setObj_map _ hb,Result.andThen]
  ·rw[Array.toList_modify]
   exact g5 y (fun e=>e.born)
end
end
end Go.Proofs.YtkcegdacbddipaaGreat.G
