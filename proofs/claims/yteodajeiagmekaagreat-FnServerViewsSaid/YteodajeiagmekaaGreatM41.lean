/-
  In a valid world every client's write has a share for every server. No program in sight.
-/
import Derived.Test.YteodajeiagmekaaGreatM15
namespace Go.Proofs.YteodajeiagmekaaGreat.G
set_option linter.all false
open Go.RowKit L D
section
theorem JT{a b:DB}(h:gq a b=true)(k:Nat)(hk:k<b.rows.length):(fQ a b).take (k+1)++a.rows.drop (k+1)=((fQ a b).take k++a.rows.drop k).set k (cJ (((fQ a b).take k++a.rows.drop k).getD k (au (.sl .u8))) (b.rows.getD k (au (.sl .u8)))):=by
 have hb:=ux h
 have hl:=jO h
 rw[ud _ _ k (au (.sl .u8)) _ (by omega) (by omega)]
 rw[kq _ _ _ _ (by omega),xj h k (by omega)]
theorem Wp{a b:DB}(h:gq a b=true)(k:Nat)(hk:k<b.rows.length):((fQ a b).take k++a.rows.drop k).getD k (au (.sl .u8))=a.rows.getD k (au (.sl .u8)):=by
 have hb:=ux h
 have hl:=jO h
 rw[kq _ _ _ _ (by omega)]
end
section
theorem J4{x:aJ}{c:Int}(h:nu (AV x c) x.round x.rows=false):bk x c= []:=by
 have hc:fE (AV x c) x.round x.rows= []:=by rw[fE,if_neg (by rw[h];decide)]
 unfold bk mY
 rw[hc]
 rw[if_neg]
 simp[sW,fT,jt]
def J5(x:aJ)(c:Int):Bool:=okW x&&qy x c
def cO(x:aJ)(c:Int):List DB:=if J5 x c then bk x c else []
theorem ZJ{x:aJ}{c:Int}(h:J5 x c=true):0≤c∧c<x.af.length:=by
 simp only[J5,qy,an,Bool.and_eq_true]at h
 omega
end
section
theorem iG{x:aJ}{c:Int}(h:okW x=true)(hc:0≤c∧c<x.af.length):cO x c=bk x c:=by
 rw[cO,if_pos]
 simp only[J5,h,qy,Bool.true_and,an]
 omega
end
end Go.Proofs.YteodajeiagmekaaGreat.G
