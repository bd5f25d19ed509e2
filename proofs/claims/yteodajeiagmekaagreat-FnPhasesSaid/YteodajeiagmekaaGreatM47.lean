/-
  What the laws on phases, reads, rounds and events ask. No program in sight.
-/
import Derived.Test.YteodajeiagmekaaGreatM16
import Derived.Test.YteodajeiagmekaaGreatM41
namespace Go.Proofs.YteodajeiagmekaaGreat.G
set_option linter.all false
open Go.RowKit L D
section
theorem S8{s:aO}{c:Int}(h:below s c):jv s.received c=false:=by
 unfold jv
 rw[List.any_eq_false]
 intro r hr
 have:=h r hr
 simp only[QE,beq_iff_eq];omega
end
section
theorem Ty(a b:Int):p7 a b≤a∧p7 a b≤b∧(p7 a b=a∨p7 a b=b):=by unfold p7;split<;>omega
theorem Tz(l:List aA):l.drop (p7 1 (l.length:Int)).toNat=l.drop 1:=by
 have:=Ty 1 (l.length:Int)
 cases l with
 |nil=>simp
 |cons x r=>
  have h1:p7 1 (((x::r).length:Nat):Int)=1:=by rw[List.length_cons]at this ⊢;omega
  rw[h1];rfl
theorem TA(s:aO): ∀r,r∈rcvd s→r∈s.received:=by
 intro r hr
 unfold rcvd at hr
 split at hr
 ·exact List.mem_of_mem_drop hr
 ·exact hr
end
section
theorem W3(x:aJ)(i n:Nat){a:Nat}(ha:a<n):jv (rcs x i n) (a:Int)=true∧pV (rcs x i n) (a:Int)=Ql x i a:=by
 have hg:=C2 x i n ha
 have:=Mx (l:=rcs x i n) (c:=(a:Int)) (k:=a) (by rw[OG];exact ha) (by
  rw[List.any_eq_false]
  intro r hr
  obtain⟨j,hj⟩:=List.mem_iff_getElem?.1 hr
  have hj2:j<a:=by
   have:=(List.getElem?_eq_some_iff.1 hj).1
   rw[List.length_take]at this;omega
  rw[List.getElem?_take,if_pos hj2]at hj
  have e:r=⟨(j:Int),Ql x i j⟩:=by
   rw[←C2 x i n (show j<n by omega),List.getD_eq_getElem?_getD,hj];rfl
  rw[e];simp only[QE,beq_iff_eq];omega) (by rw[hg];simp[QE])
 rw[hg]at this;exact this
theorem W4{x:aJ}(h:okW x=true){i a:Nat}(hi:i<x.ah.length)(ha:a<x.af.length):jv ((aN x).getD i (au .aO)).received (a:Int)=true∧pV ((aN x).getD i (au .aO)).received (a:Int)=(bk x (a:Int)).getD i (au .DB):=by
 rw[OI h hi];exact W3 x i _ ha
theorem aad{x:aJ}{n:Nat}{r:dP}(h:r∈Cg x n): ∃s c d,r=ZN (fU x.az s) s c x.round d:=by
 unfold Cg EC at h
 obtain⟨c,_,h1⟩:=List.mem_flatMap.1 h
 obtain⟨i,_,h2⟩:=List.mem_flatMap.1 h1
 exact⟨_,_,_,List.mem_singleton.1 h2⟩
theorem Ue{x:aJ}{r:dP}(h:r∈dO x):Kp (fU x.az r.server) r=true∧r.round=x.round:=by
 unfold dO at h
 split at h
 ·obtain⟨s,c,d,rfl⟩:=aad h
  exact⟨by unfold Kp;exact beq_self_eq_true _,rfl⟩
 ·cases h
theorem W5{x:aJ}{d:DB}(h:okW x=true)(hr:x.round<99999)(hc:x.cancelled<9223372036854775807)(hd:bV d=true)(hn:(d.rows.length:Int)=x.rows):
  (aQ x [] d).round=x.round+1∧okW (aQ x [] d)=true∧bR (aQ x [] d).ak=x.round∧(aQ x [] d).cancelled=x.cancelled:=by
 have w:=yd.of h
 have w3:=w.round
 have hp:=su h hr
 refine⟨?_,Bh h hr hc (fun _=>⟨hd,hn⟩),?_,?_⟩
 ·rw[aQ,if_pos hp];exact bl (by omega)
 ·rw[aQ,if_pos hp]
  show bR ⟨x.ak.rows,EM x.ak x.round d⟩=x.round
  exact(MN w.QF w3 w.last hd (by rw[w.BQ];exact hn)).2.1
 ·rw[aQ,if_pos hp];rfl
theorem W6{x:aJ}{d:DB}(h:okW x=true)(hr:x.round<99999)(hc:x.cancelled<9223372036854775807):
  okW (aQ x [0] d)=true∧(aQ x [0] d).cancelled=x.cancelled+1∧(aQ x [0] d).replaced.length=x.replaced.length+1∧((aQ x [0] d).ah.getD 0 (au .aO)).behavior=0∧0<(aQ x [0] d).ah.length:=by
 have w:=yd.of h
 have w1:=w.KL;have w2:=w.rows;have w3:=w.round;have w4:=w.oA
 have hp:=su h hr
 have ho:s8 x.ah 0=true:=by
  rw[s8,an,bl (by omega)];omega
 have e:sq x [0]=(x.ah.set 0 ⟨0,x.rows,x.round,[],0⟩,x.replaced++ [0]):=by
  show s9 x.rows x.round (x.ah,x.replaced) 0=_
  rw[s9,if_pos ho];rfl
 have hs:WY x.rows x.round 0 ⟨0,x.rows,x.round,[],0⟩:=⟨rfl,rfl,rfl,rfl,by show(0:Int)≤0;decide,by show(0:Int)≤3;decide⟩
 have hl:0<(x.ah.set 0 (⟨0,x.rows,x.round,[],0⟩:aO)).length:=by rw[List.length_set];omega
 refine⟨Bh h hr hc (fun q=>by cases q),?_,?_,?_,?_⟩
 ·rw[aQ,if_pos hp]
  show IntKind.i64.wrap (x.cancelled+1)=_
  exact bl (by omega)
 ·rw[aQ,if_pos hp,e]
  show(x.replaced++ [0]).length=_
  rw[List.length_append];rfl
 ·rw[aQ,if_pos hp,e]
  show(((x.ah.set 0 (⟨0,x.rows,x.round,[],0⟩:aO)).map iI).getD 0 (au .aO)).behavior=0
  rw[getD_map iI _ (au .aO) hl,lR _ _ (by omega),if_pos rfl]
  have hk:=ML hs w2 w3 (by decide)
  have hb:A7 ⟨0,x.rows,x.round,[],0⟩=true:=by
   simp only[A7,hk,Bool.true_and,Bool.not_eq_true',beq_eq_false_iff_ne];omega
  rw[iI,if_pos hb]
 ·rw[aQ,if_pos hp,e]
  show 0<((x.ah.set 0 (⟨0,x.rows,x.round,[],0⟩:aO)).map iI).length
  rw[List.length_map];exact hl
end
section
theorem aas{x:aJ}(h:okW x=true):(aN x).length=x.ah.length∧((dO x).length:Int)=IntKind.i64.wrap ((x.ah.length:Int)*(x.af.length:Int)):=by
 have hs:=cN h
 have hn:=Ua h
 refine⟨mA h,?_⟩
 have hm:x.af.length*x.ah.length≤8*4:=Nat.mul_le_mul hn.2 hs.1
 have e:(x.ah.length:Int)*(x.af.length:Int)=((x.af.length*x.ah.length:Nat):Int):=by rw[Int.natCast_mul,Int.mul_comm]
 rw[dO,if_pos h,uA,e,bl (by omega)]
theorem acF{x:aJ}(h:okW x=true):(dO x).length≤32:=by
 have hs:=cN h
 have hn:=Ua h
 have hm:x.af.length*x.ah.length≤8*4:=Nat.mul_le_mul hn.2 hs.1
 rw[dO,if_pos h,uA]
 exact hm
theorem Xk{x:aJ}(h:okW x=true){i a:Nat}(hi:i<x.ah.length)(ha:a<x.af.length):jv ((aN x).getD i (au .aO)).received (a:Int)=true∧(pV ((aN x).getD i (au .aO)).received (a:Int)).rows=((cO x (a:Int)).getD i (au .DB)).rows:=by
 obtain⟨h1,h2⟩:=W4 h hi ha
 rw[iG h (by omega),h2]
 exact⟨h1,rfl⟩
theorem acG{x:aJ}(h:okW x=true){a:Nat}(ha:a<x.af.length):(cO x (a:Int)).length=x.ah.length:=by
 rw[iG h (by omega)];exact eV h (by omega)
theorem acH{x:aJ}{k:Nat}(hk:k<(dO x).length):Kp (fU x.az ((dO x).getD k (au .dP)).server) ((dO x).getD k (au .dP))=true∧((dO x).getD k (au .dP)).round=x.round:=Ue (getD_in _ hk)
end
end Go.Proofs.YteodajeiagmekaaGreat.G
