/-
  What the laws on phases, reads, rounds and events ask. No program in sight.
-/
import Derived.Test.YteodajeiagmekaaGreatM59
import Derived.Test.YteodajeiagmekaaGreatM61
namespace Go.Proofs.YteodajeiagmekaaGreat.G
set_option linter.all false
open Go.RowKit L D
section
theorem Xh{x:aJ}(h:okW x=true){i:Nat}(hi:i<x.ak.rounds.length){row s:Int}(hr:0≤row∧row<x.rows):
  pz (testW x) (x.ak.rounds.getD i (au .ay)).round row s=true∧xC (testW x) (x.ak.rounds.getD i (au .ay)).round row s=(dn x.ak.rounds (x.ak.rounds.getD i (au .ay)).round).rows.getD row.toNat (au (.sl .u8)):=by
 obtain⟨_,_,f3,f4,_,_⟩:=vO x
 have hh:gw (testW x).ak.rounds (x.ak.rounds.getD i (au .ay)).round=true:=by
  rw[f4]
  exact List.any_eq_true.2 ⟨_,getD_in (au .ay) hi,by unfold MA;simp⟩
 have:=Xe (s:=s) (uV h) (KR h (by omega)) hh (row:=row) (by rw[f3];exact hr)
 rw[f4]at this
 exact this
theorem aap{x:aJ}(h:okW x=true){i:Nat}(hi:i<x.ak.rounds.length):((dn x.ak.rounds (x.ak.rounds.getD i (au .ay)).round).rows.length:Int)=x.rows:=
 (zO h (List.any_eq_true.2 ⟨_,getD_in (au .ay) hi,by unfold MA;simp⟩)).2
theorem aaq{x:aJ}(h:okW x=true):(wN (testW x)).af.length=x.af.length:=by
 obtain⟨_,_,_,_,f5,_⟩:=vO x
 obtain⟨_,_,_,_,_,_,a7,_⟩:=Ya (testW x)
 rw[a7,f5]
theorem Xi{x:aJ}(h:okW x=true){i:Nat}(hi:i<x.af.length):bR x.ak<((wN (testW x)).af.getD i (au .aL)).live.next:=by
 have hok:=uV h
 obtain⟨_,_,_,f4,f5,_⟩:=vO x
 have hi2:i<(testW x).af.length:=by rw[f5];exact hi
 have:=Xg hok hi2
 rw[f4]at this
 rw[wN,if_pos hok]
 show bR x.ak<(((testW x).af.map (mz (testW x))).getD i (au .aL)).live.next
 rw[getD_map _ _ (au .aL) hi2]
 exact this
theorem aar{x:aJ}(h:okW x=true)(h0:x.ak.rounds.length=0):testW x=x:=by
 have e:x.ak.rounds= []:=List.eq_nil_of_length_eq_zero h0
 refine EX ?_
 rw[uO,h,e];rfl
theorem sy.test{x:aJ}{n:Nat}(h:sy x n):sy (testW x) (n+1):=by
 obtain⟨f1,f2,f3,f4,f5,f6⟩:=vO x
 have h1:=h.round;have h2:=h.oA;have h3:=h.KO;have h4:=cN h.ok
 refine⟨uV h.ok,by omega,by omega,?_⟩
 unfold testW
 split
 ·have:=(KK h.ok x.ah.length (Nat.le_refl _)).2.2
  show(fW x x.ah.length).2.length≤_
  omega
 ·omega
theorem Xj{x:aJ}(h:okW x=true){i:Nat}(hi:i<x.ak.rounds.length){j:Nat}(hj:(j:Int)<x.rows):((dn x.ak.rounds (x.ak.rounds.getD i (au .ay)).round).rows.getD j (au (.sl .u8))).length≤1048576:=by
 obtain⟨h1,h2⟩:=zO h (r:=(x.ak.rounds.getD i (au .ay)).round) (List.any_eq_true.2 ⟨_,getD_in (au .ay) hi,by unfold MA;simp⟩)
 rw[lV h1 j (by omega)]
 decide
end
end Go.Proofs.YteodajeiagmekaaGreat.G
