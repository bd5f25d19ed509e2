/-
  Maps from integers to integers, run by the model: what a look-up gives, what an update leaves.
-/
import Derived.MapFrom
namespace Go.Proofs.YtkkfjbfkjbljiaaGreatDoor.G
set_option linter.all false
open Go Go.MapKept
section
def MI:List Int→List (Int×Int)
 |k::v::r=>(k,v)::MI r
 |_=> []
def Fj:List Int→Int→Int
 |k::v::r,x=>if x=k then v else Fj r x
 |_,_=>0
def Fk:List Int→Int→Int→List Int
 |k::v::r,x,y=>if x=k then k::y::r else k::v::Fk r x y
 |_,x,y=> [x,y]
def iv(p:Int×Int):Value×Value:=(.int .i64 p.1, .int .i64 p.2)
def DP(es:List MapEntry)(l:List Int):Prop:=es.map (fun e=>(e.key,e.val))=(MI l).map iv
def Nj(w:World)(r:Nat)(l:List Int):Prop:= ∃es clock,w.heap[r]? =some (.map es clock)∧DP es.toList l
theorem zZ{q:IntKind}{x:Int}: ∀(es:List MapEntry) (l:List Int) (i:Nat),DP es l→
  (Instr.findNow (.int q) (.int .i64 x) es i=some none∧Fj l x=0∧ ∀y,Fk l x y=(MI l).flatMap (fun p=> [p.1,p.2])++ [x,y])∨
  ∃j e,Instr.findNow (.int q) (.int .i64 x) es i=some (some (i+j,e.val))∧es[j]? =some e∧e.key= .int .i64 x∧e.val= .int .i64 (Fj l x)∧
   ∀(y:Int) (b:MapEntry→Nat),DP (es.modify j fun e=>{e with key:= .int .i64 x,val:= .int .i64 y,born:=b e}) (Fk l x y)
 | [],l,i,h=>by
   left
   cases l with
   |nil=>exact⟨rfl,rfl,fun y=>rfl⟩
   |cons k l=>cases l with
    |nil=>exact⟨rfl,rfl,fun y=>rfl⟩
    |cons v r=>simp[DP,MI]at h
 |e::es,l,i,h=>by
  unfold DP at h
  cases l with
  |nil=>simp[MI]at h
  |cons k l=>cases l with
   |nil=>simp[MI]at h
   |cons v r=>
    simp only[MI,List.map_cons,List.cons.injEq,Prod.mk.injEq,iv]at h
    obtain⟨⟨h1,h2⟩,h3⟩:=h
    by_cases hx:x=k
    ·subst hx
     right
     refine⟨0,e,?_,rfl,h1,?_,fun y b=> ?_⟩
     ·simp[Instr.findNow,Instr.sameNow,h1]
     ·rw[h2,Fj,if_pos rfl]
     ·rw[Fk,if_pos rfl]
      show(_::es).map _=_
      simp only[List.map_cons,MI,iv]
      rw[h3]
    ·have hn:Instr.findNow (.int q) (.int .i64 x) (e::es) i=Instr.findNow (.int q) (.int .i64 x) es (i+1):=by
      have hb:(x==k)=false:=by simpa using hx
      simp[Instr.findNow,Instr.sameNow,h1,hb]
     rw[hn,Fj,if_neg hx]
     rcases zZ es r (i+1) h3 with⟨g1,g2,g3⟩| ⟨j,e2,g1,g2,g3,g4,g5⟩
     ·left
      refine⟨g1,g2,fun y=> ?_⟩
      rw[Fk,if_neg hx,g3 y];rfl
     ·right
      refine⟨j+1,e2,by rw[g1];congr 2;simp;omega,g2,g3,g4,fun y b=> ?_⟩
      have:=g5 y b
      rw[Fk,if_neg hx]
      simp only[DP,List.modify_succ_cons,List.map_cons,MI,iv,h1,h2]at this ⊢
      rw[this]
theorem Fl(x y:Int): ∀l:List (Int×Int),MI ((l.flatMap fun p=> [p.1,p.2])++ [x,y])=l++ [(x,y)]
 | []=>rfl
 |p::l=>by
  show MI (p.1::p.2::((l.flatMap fun p=> [p.1,p.2])++ [x,y]))=_
  rw[MI,Fl x y l];rfl
section
variable{P:Program}{w:World}{t k e:TypeId}{r:Nat}{l:List Int}{x y:Int}
theorem Aa(ht:P.underlying t=some (.map k e))(hk:P.underlying k=some (.int .i64))(hz:(zeroValue e).run P w= .ok (.int .i64 0) w)(h:Nj w r l):
  (Instr.lookup t (.map (some r)) (.int .i64 x) false).run P w= .ok (.int .i64 (Fj l x)) w:=by
 obtain⟨es,clock,hb,he⟩:=h
 have hkey:IsKey (.int .i64) (.int .i64 x):=rfl
 rcases zZ (q:= .i64) (x:=x) es.toList l 0 he with⟨g1,g2,_⟩| ⟨j,e2,g1,_,_,g4,_⟩
 ·simp[Instr.lookup,run_underlying ht,run_getObj_map hb,run_checkKey hk hkey,run_findKey hk g1,hz,Result.andThen,g2]
 ·simp[Instr.lookup,run_underlying ht,run_getObj_map hb,run_checkKey hk hkey,run_findKey hk g1,Result.andThen,g4]
theorem uI(ht:P.underlying t=some (.map k e))(hk:P.underlying k=some (.int .i64))(h:Nj w r l):
  ∃es clock,(Instr.mapUpdate t (.map (some r)) (.int .i64 x) (.int .i64 y)).run P w= .ok () {w with heap:=w.heap.setIfInBounds r (.map es clock)}∧DP es.toList (Fk l x y)∧ ∃es0 c0,w.heap[r]? =some (.map es0 c0):=by
 obtain⟨es,clock,hb,he⟩:=h
 have hkey:IsKey (.int .i64) (.int .i64 x):=rfl
 rcases zZ (q:= .i64) (x:=x) es.toList l 0 he with⟨g1,_,g3⟩| ⟨j,e2,g1,g2,g3,_,g5⟩
 ·refine⟨es.push ⟨.int .i64 x, .int .i64 y,clock⟩,clock+1,?_,?_,es,clock,hb⟩
  ·simp[Instr.mapUpdate,run_underlying ht,run_getObj_map hb,run_checkKey hk hkey,run_findKey hk g1,run_setObj_map _ hb,Result.andThen]
  ·rw[g3 y]
   unfold DP at he ⊢
   rw[Fl,Array.toList_push,List.map_append,List.map_append,he]
   rfl
 ·have hj:es[j]? =some e2:=by simpa using g2
  refine⟨es.modify j fun e=>{e with key:= .int .i64 x,val:= .int .i64 y},clock,?_,?_,es,clock,hb⟩
  ·simp[Instr.mapUpdate,run_underlying ht,run_getObj_map hb,run_checkKey hk hkey,run_findKey hk g1,hj,g3,run_keyThatStays hkey,run_setObj_map _ hb,Result.andThen]
  ·rw[Array.toList_modify]
   exact g5 y (fun e=>e.born)
end
end
end Go.Proofs.YtkkfjbfkjbljiaaGreatDoor.G
