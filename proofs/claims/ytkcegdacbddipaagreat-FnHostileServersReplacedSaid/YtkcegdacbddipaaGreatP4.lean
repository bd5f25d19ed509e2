/-
  Maps from integers to integers, run by the model: what a look-up gives, what an update leaves.
-/
import Derived.MapFrom
open Go.Instr renaming findNow→nP,lookup→E6,mapUpdate→xM,sameNow→Lt
open Go.Result renaming andThen→uq
open List renaming map_append→eu,map_cons→cA
namespace Go.Proofs.YtkcegdacbddipaaGreat.G
set_option linter.all false
open Go Go.MapKept
section
def Wm:List Int→List (Int×Int)
 |k::v::r=>(k,v)::Wm r
 |_=> []
def Ns:List Int→Int→Int
 |k::v::r,x=>if x=k then v else Ns r x
 |_,_=>0
def Nt:List Int→Int→Int→List Int
 |k::v::r,x,y=>if x=k then k::y::r else k::v::Nt r x y
 |_,x,y=> [x,y]
def iv(p:Int×Int):Value×Value:=(.int .i64 p.1, .int .i64 p.2)
def Ls(es:List MapEntry)(l:List Int):Prop:=es.map (fun e=>(e.key,e.val))=(Wm l).map iv
def Xh(w:World)(r:Nat)(l:List Int):Prop:= ∃es clock,w.heap[r]? =some (.map es clock)∧Ls es.toList l
theorem G9{q:IntKind}{x:Int}: ∀(es:List MapEntry) (l:List Int) (i:Nat),Ls es l→
  (nP (.int q) (.int .i64 x) es i=some none∧Ns l x=0∧ ∀y,Nt l x y=(Wm l).flatMap (fun p=> [p.1,p.2])++ [x,y])∨
  ∃j e,nP (.int q) (.int .i64 x) es i=some (some (i+j,e.val))∧es[j]? =some e∧e.key= .int .i64 x∧e.val= .int .i64 (Ns l x)∧
   ∀(y:Int) (b:MapEntry→Nat),Ls (es.modify j fun e=>{e with key:= .int .i64 x,val:= .int .i64 y,born:=b e}) (Nt l x y)
 | [],l,i,h=>by
   left
   cases l with
   |nil=>exact⟨rfl,rfl,fun y=>rfl⟩
   |cons k l=>cases l with
    |nil=>exact⟨rfl,rfl,fun y=>rfl⟩
    |cons v r=>simp[Ls,Wm]at h
 |e::es,l,i,h=>by
  unfold Ls at h
  cases l with
  |nil=>simp[Wm]at h
  |cons k l=>cases l with
   |nil=>simp[Wm]at h
   |cons v r=>
    simp only[Wm,cA,List.cons.injEq,Prod.mk.injEq,iv]at h
    obtain⟨⟨h1,h2⟩,h3⟩:=h
    by_cases hx:x=k
    ·subst hx
     right
     refine⟨0,e,?_,rfl,h1,?_,fun y b=> ?_⟩
     ·simp[nP,Lt,h1]
     ·rw[h2,Ns,if_pos rfl]
     ·rw[Nt,if_pos rfl]
      show(_::es).map _=_
      simp only[cA,Wm,iv]
      rw[h3]
    ·have hn:nP (.int q) (.int .i64 x) (e::es) i=nP (.int q) (.int .i64 x) es (i+1):=by
      have hb:(x==k)=false:=by simpa using hx
      simp[nP,Lt,h1,hb]
     rw[hn,Ns,if_neg hx]
     rcases G9 es r (i+1) h3 with⟨g1,g2,g3⟩| ⟨j,e2,g1,g2,g3,g4,g5⟩
     ·left
      refine⟨g1,g2,fun y=> ?_⟩
      rw[Nt,if_neg hx,g3 y];rfl
     ·right
      refine⟨j+1,e2,by rw[g1];congr 2;simp;omega,g2,g3,g4,fun y b=> ?_⟩
      have:=g5 y b
      rw[Nt,if_neg hx]
      simp only[Ls,List.modify_succ_cons,cA,Wm,iv,h1,h2]at this ⊢
      rw[this]
theorem Nv(x y:Int): ∀l:List (Int×Int),Wm ((l.flatMap fun p=> [p.1,p.2])++ [x,y])=l++ [(x,y)]
 | []=>rfl
 |p::l=>by
  show Wm (p.1::p.2::((l.flatMap fun p=> [p.1,p.2])++ [x,y]))=_
  rw[Wm,Nv x y l];rfl
section
variable{P:Program}{w:World}{t k e:TypeId}{r:Nat}{l:List Int}{x y:Int}
theorem He(ht:P.underlying t=some (.map k e))(hk:P.underlying k=some (.int .i64))(hz:(zeroValue e).run P w= .ok (.int .i64 0) w)(h:Xh w r l):
  (E6 t (.map (some r)) (.int .i64 x) false).run P w= .ok (.int .i64 (Ns l x)) w:=by
 obtain⟨es,clock,hb,he⟩:=h
 have hkey:IsKey (.int .i64) (.int .i64 x):=rfl
 rcases G9 (q:= .i64) (x:=x) es.toList l 0 he with⟨g1,g2,_⟩| ⟨j,e2,g1,_,_,g4,_⟩
 ·simp[E6,run_underlying ht,run_getObj_map hb,run_checkKey hk hkey,run_findKey hk g1,hz,uq,g2]
 ·simp[E6,run_underlying ht,run_getObj_map hb,run_checkKey hk hkey,run_findKey hk g1,uq,g4]
theorem BI(ht:P.underlying t=some (.map k e))(hk:P.underlying k=some (.int .i64))(h:Xh w r l):
  ∃es clock,(xM t (.map (some r)) (.int .i64 x) (.int .i64 y)).run P w= .ok () {w with heap:=w.heap.setIfInBounds r (.map es clock)}∧Ls es.toList (Nt l x y)∧ ∃es0 c0,w.heap[r]? =some (.map es0 c0):=by
 obtain⟨es,clock,hb,he⟩:=h
 have hkey:IsKey (.int .i64) (.int .i64 x):=rfl
 rcases G9 (q:= .i64) (x:=x) es.toList l 0 he with⟨g1,_,g3⟩| ⟨j,e2,g1,g2,g3,_,g5⟩
 ·refine⟨es.push ⟨.int .i64 x, .int .i64 y,clock⟩,clock+1,?_,?_,es,clock,hb⟩
  ·simp[xM,run_underlying ht,run_getObj_map hb,run_checkKey hk hkey,run_findKey hk g1,run_setObj_map _ hb,uq]
  ·rw[g3 y]
   unfold Ls at he ⊢
   rw[Nv,Array.toList_push,eu,eu,he]
   rfl
 ·have hj:es[j]? =some e2:=by simpa using g2
  refine⟨es.modify j fun e=>{e with key:= .int .i64 x,val:= .int .i64 y},clock,?_,?_,es,clock,hb⟩
  ·simp[xM,run_underlying ht,run_getObj_map hb,run_checkKey hk hkey,run_findKey hk g1,hj,g3,run_keyThatStays hkey,run_setObj_map _ hb,uq]
  ·rw[Array.toList_modify]
   exact g5 y (fun e=>e.born)
end
end
end Go.Proofs.YtkcegdacbddipaaGreat.G
