/-
  What the shares of a server are explained by. No program in sight.
-/
import Derived.Test.YteodajeiagmekaaGreatM33
import Derived.Test.YteodajeiagmekaaGreatM72
namespace Go.Proofs.YteodajeiagmekaaGreat.G
set_option linter.all false
open Go.RowKit L D
section
def tw(rows i:Int)(l:List (List Int)):Bool:=cX rows i&&l.all fun v=>bN v rows
def QG(rows i:Int)(l:List (List Int)):List Int:=l.foldl eA (gD rows i)
def Yl(rows i:Int)(l:List (List Int)):List Int:=if tw rows i l then QG rows i l else []
theorem K0(rows i:Int)(l:List (List Int))(k:Nat)(h:k<l.length):QG rows i (l.take (k+1))=eA (QG rows i (l.take k)) (l.getD k (au (.sl .int))):=jK _ _ _ _ _ h
theorem O1(rows i:Int)(l:List (List Int)):(QG rows i l).length≤64:=by
 have: ∀(l:List (List Int)) (a:List Int),a.length≤64→(l.foldl eA a).length≤64:=by
  intro l
  induction l with
  |nil=>intro a h;exact h
  |cons v l ih=>intro a _;exact ih _ (xh _ _)
 exact this l _ (lF rows i)
theorem Ym{rows i:Int}(h:(gD rows i).length=0):cX rows i=false:=by
 cases hu:cX rows i with
 |false=>rfl
 |true=>
  obtain⟨h1,h2,h3,h4⟩:=mj hu
  rw[iS hu,List.length_set,List.length_replicate]at h
  omega
theorem UI{rows i:Int}(h: ¬(gD rows i).length=0):cX rows i=true:=by
 cases hu:cX rows i with
 |true=>rfl
 |false=>rw[vF hu]at h;exact absurd rfl h
theorem IF{rows i:Int}{l:List (List Int)}(h:tw rows i l=false):Yl rows i l= []:=by rw[Yl,h];rfl
theorem C7{rows i:Int}{l:List (List Int)}(h:tw rows i l=true):Yl rows i l=QG rows i l:=by rw[Yl,if_pos h]
theorem UJ{rows i:Int}{l:List (List Int)}(h:cX rows i=false):tw rows i l=false:=by rw[tw,h];rfl
theorem UK{rows i:Int}{l:List (List Int)}{k:Nat}(h:k<l.length)(hv:bN (l.getD k (au (.sl .int))) rows=false):tw rows i l=false:=by
 rw[tw,Ef _ _ (au (.sl .int)) k h hv,Bool.and_false]
theorem UL{rows i:Int}{l:List (List Int)}(hu:cX rows i=true)(h:(l.all fun v=>bN v rows)=true):tw rows i l=true:=by rw[tw,hu,h];rfl
def jZ(x:aJ)(sv row o:Int):Bool:=mT x sv row&&inr o 0 (IntKind.i64.wrap (x.rows-1))
def Xm(x:aJ)(sv r row s o:Int):List (List Int):=(query x r row s).set (dV sv).toNat (QG x.rows o (yf (query x r row s) (dV sv).toNat))
def vP(x:aJ)(sv r row s o:Int):List (List Int):=if jZ x sv row o then Xm x sv r row s o else []
theorem Yn{rows o:Int}(h:1≤rows∧rows≤64):cX rows o=inr o 0 (IntKind.i64.wrap (rows-1)):=by
 have:inr rows 1 64=true:=by rw[an];exact h
 rw[cX,this,Bool.true_and]
theorem UM{x:aJ}{sv r row s o:Int}(h:mT x sv row=true):tw x.rows o (yf (query x r row s) (dV sv).toNat)=inr o 0 (IntKind.i64.wrap (x.rows-1)):=by
 have q:=Yk.of (r:=r) (s:=s) h
 have ha:((yf (query x r row s) (dV sv).toNat).all fun v=>bN v x.rows)=true:=List.all_eq_true.2 fun v hv=>q.MV v (zV hv)
 rw[tw,ha,Bool.and_true,Yn q.KX]
theorem O2{x:aJ}{sv r row s o:Int}(h:jZ x sv row o=false):vP x sv r row s o= []:=by rw[vP,h];rfl
theorem MW{x:aJ}{sv r row s o:Int}(h:jZ x sv row o=true):vP x sv r row s o=Xm x sv r row s o:=by rw[vP,if_pos h]
theorem K1{v:List Int}{r:Int}(h:bN v r=true):v.length≤64:=by have:=dZ h;omega
end
section
theorem aaC{x:aJ}{sv r row s o:Int}(h:jZ x sv row o=true):mT x sv row=true∧tw x.rows o (yf (query x r row s) (dV sv).toNat)=true:=by
 have hk:mT x sv row=true:=by simp only[jZ,Bool.and_eq_true]at h;exact h.1
 refine⟨hk,?_⟩
 rw[UM hk]
 simp only[jZ,Bool.and_eq_true]at h
 exact h.2
end
end Go.Proofs.YteodajeiagmekaaGreat.G
