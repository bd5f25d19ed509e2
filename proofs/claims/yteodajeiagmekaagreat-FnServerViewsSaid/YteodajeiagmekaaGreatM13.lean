/-
  Shares of a client's write, as one server sees them. No program in sight.
-/
import Derived.Test.YteodajeiagmekaaGreatM11
namespace Go.Proofs.YteodajeiagmekaaGreat.G
set_option linter.all false
open Go.RowKit L D
section
theorem HL(n:Int):IntKind.u8.wrap n=n % 256:=by
 unfold IntKind.wrap
 simp only[IntKind.signed,IntKind.bits]
 simp
theorem yT(n:Int):((b8 n).toNat:Int)=n % 256:=by unfold b8;rw[Gi,HL]
theorem HM{x y:UInt8}(h:(x.toNat:Int)=y.toNat):x=y:=SH h
theorem ofNat_toNat(n:Int)(h0:0≤n)(h1:n<256):((UInt8.ofNat n.toNat).toNat:Int)=n:=by
 simp;omega
theorem ofNat_eq{n:Int}{x:UInt8}(h0:0≤n)(h1:n<256)(h:n=x.toNat):UInt8.ofNat n.toNat=x:=by
 apply HM;rw[ofNat_toNat n h0 h1,h]
theorem yU{a b:Int}(h:a % 256=b % 256):b8 a=b8 b:=by
 apply HM;rw[yT,yT,h]
theorem ue{a b:Int}(h:0≤a):a.tdiv b=a/b:=Int.tdiv_eq_ediv_of_nonneg h
theorem CL{n:Int}(h:0≤n):(if n>1 then n else 1)=CK n:=by
 unfold CK;split<;>split<;>omega
theorem uf(s k:Int):0≤cs s k∧cs s k<2147483647:=⟨Int.emod_nonneg _ (by decide),Int.emod_lt_of_pos _ (by decide)⟩
theorem cs_eq{h:Int}(h0:0≤h)(h1:h<2147483647):(IntKind.i64.wrap (IntKind.i64.wrap (h*h)+5)).tmod 2147483647=(h*h+5)% 2147483647:=by
 have:=abK h0 h1
 rw[bl (a:=h*h) (by omega),bl (by omega),dj (by omega)]
theorem ey(a:List UInt8):cJ a []=a:=by cases a<;>rfl
theorem eU(a:List UInt8):cJ [] a=a:=by cases a<;>rfl
theorem SJ(x y:UInt8):UInt8.ofNat (IntKind.u8.wrap ((BitVec.ofInt IntKind.u8.bits (x.toNat:Int)^^^BitVec.ofInt IntKind.u8.bits (y.toNat:Int)).toNat:Int)).toNat=x^^^y:=by
 have h:(BitVec.ofInt IntKind.u8.bits (x.toNat:Int)^^^BitVec.ofInt IntKind.u8.bits (y.toNat:Int)).toNat=(x^^^y).toNat:=by
  rw[BitVec.ofInt_natCast,BitVec.ofInt_natCast,BitVec.toNat_xor,BitVec.toNat_ofNat,BitVec.toNat_ofNat,UInt8.toNat_xor]
  have hx:=x.toNat_lt
  have hy:=y.toNat_lt
  show x.toNat % 2^8^^^y.toNat % 2^8=_
  rw[Nat.mod_eq_of_lt (by omega),Nat.mod_eq_of_lt (by omega)]
 rw[h,HL]
 apply ofNat_eq<;>have:=(x^^^y).toNat_lt<;>omega
theorem ql: ∀(a b:List UInt8) (k:Nat),k<max a.length b.length→(cJ a b).take (k+1)=(cJ a b).take k++ [wH a k^^^wH b k]
 | [],b,k,h=>by
   rw[eU,aV b k 0 (by simpa using h)]
   simp[wH]
 |x::a,[],k,h=>by
  rw[ey,aV (x::a) k 0 (by simpa using h)]
  simp[wH]
 |x::a,y::b,0,h=>by simp[cJ,wH]
 |x::a,y::b,k+1,h=>by
  rw[cJ,List.take_succ_cons,List.take_succ_cons,ql a b k (by simp at h;omega)]
  simp[wH]
theorem rV{β:Type}(f:Nat→β)(k:Nat):(List.range (k+1)).map f=(List.range k).map f++ [f k]:=by
 rw[List.range_succ,List.map_append];rfl
theorem Mh{α:Type}(l:List α)(k:Nat)(d:α)(h:k<l.length):l[k]? =some (l.getD k d):=by
 rw[List.getD_eq_getElem?_getD,List.getElem?_eq_getElem h];rfl
theorem BD(s:Int)(k:Nat)(h:k≤1000):stream s (k+1)=stream s k++ [UInt8.ofNat (IntKind.u8.wrap (IntKind.i64.wrap ((cs s (IntKind.i64.wrap (100+(k:Int)))).tdiv 256))).toNat]:=by
 have h1:=uf s (100+(k:Int))
 rw[bl (a:=100+(k:Int)) (by omega),ue h1.1,bl (by omega)]
 exact rV (fun i:Nat=>b8 (cs s (100+(i:Int))/256)) k
end
section
theorem BF{α:Type}(f:List α)(k:Nat)(d y:α)(h:k<f.length)(hy:f.getD k d=y):f.take (k+1)=f.take k++ [y]:=by rw[aV f k d h,hy]
theorem JI(s:Int)(l:List UInt8)(k:Nat)(h:k<l.length):(lz s l).getD k (au .u8)=b8 ((l.getD k (au .u8)).toNat+kh s [(k:Int)]% 256):=eg _ _ k _ h
theorem PN(s:Int)(l:List UInt8)(k:Nat)(h:k<l.length):(lz s l).take (k+1)=(lz s l).take k++ [UInt8.ofNat (IntKind.u8.wrap ((IntKind.i64.wrap (IntKind.i64.wrap ((l.getD k (au .u8)).toNat:Int)+(kh s [(k:Int)]).tmod 256)).tmod 256)).toNat]:=by
 refine BF _ k (au .u8) _ (by rw[jq];exact h) ?_
 rw[JI s l k h]
 refine yU ?_
 have:=dy s [(k:Int)]
 have hx:=(l.getD k (au .u8)).toNat_lt
 rw[dj this.1,bl (a:=((l.getD k (au .u8)).toNat:Int)) (by omega),bl (by omega),dj (by omega)]
 omega
theorem Zu(a b:List UInt8)(k:Nat)(ha:k<a.length)(hb:k<b.length):(cJ a b).take (k+1)=(cJ a b).take k++ [UInt8.ofNat (IntKind.u8.wrap ((BitVec.ofInt IntKind.u8.bits ((a.getD k (au .u8)).toNat:Int)^^^BitVec.ofInt IntKind.u8.bits ((b.getD k (au .u8)).toNat:Int)).toNat:Int)).toNat]:=by
 rw[ql a b k (by omega),SJ];rfl
theorem JJ{α:Type}(l:List α)(k:Nat)(d:α)(h:l.length≤k):l.getD k d=d:=by
 rw[List.getD_eq_getElem?_getD,List.getElem?_eq_none h];rfl
theorem abM(a b:List UInt8)(k:Nat)(ha:k<a.length)(hb:b.length≤k):(cJ a b).take (k+1)=(cJ a b).take k++ [UInt8.ofNat (((a.getD k (au .u8)).toNat:Int)).toNat]:=by
 rw[ql a b k (by omega),NT]
 have:wH b k=0:=JJ b k 0 hb
 rw[this];simp;rfl
theorem abN(a b:List UInt8)(k:Nat)(ha:a.length≤k)(hb:k<b.length):(cJ a b).take (k+1)=(cJ a b).take k++ [UInt8.ofNat (IntKind.u8.wrap ((BitVec.ofInt IntKind.u8.bits (0:Int)^^^BitVec.ofInt IntKind.u8.bits ((b.getD k (au .u8)).toNat:Int)).toNat:Int)).toNat]:=by
 rw[ql a b k (by omega)]
 have:wH a k=0:=JJ a k 0 ha
 rw[this]
 have:=SJ 0 (b.getD k (au .u8))
 rw[show((0:UInt8).toNat:Int)=0 from rfl]at this
 rw[this];rfl
theorem SN{l:List (List UInt8)}(h:bX List.length l≤1048576)(k:Nat)(hk:k<l.length):(l.getD k (au (.sl .u8))).length≤1048576:=gF h (Mh l k _ hk)
theorem NY(l:List UInt8)(counter:Int)(k:Nat)(h:k<l.length): [71,counter]++(l.take (k+1)).map (fun c=>(c.toNat:Int))=([71,counter]++(l.take k).map (fun c=>(c.toNat:Int)))++ [IntKind.i64.wrap ((l.getD k (au .u8)).toNat:Int)]:=by
 have:=(l.getD k (au .u8)).toNat_lt
 rw[bl (by omega),l9 (fun c:UInt8=>(c.toNat:Int)) l k (au .u8) h,List.append_assoc]
theorem NZ(n:Int): [UInt8.ofNat (IntKind.u8.wrap n).toNat,UInt8.ofNat (IntKind.u8.wrap (n.fdiv (2^(min (Int.toNat 8) IntKind.i64.bits)))).toNat,UInt8.ofNat (IntKind.u8.wrap (n.fdiv (2^(min (Int.toNat 16) IntKind.i64.bits)))).toNat,UInt8.ofNat (IntKind.u8.wrap (n.fdiv (2^(min (Int.toNat 24) IntKind.i64.bits)))).toNat]=four n:=by
 have e1:(2:Int)^(min (Int.toNat 8) IntKind.i64.bits)=256:=by decide
 have e2:(2:Int)^(min (Int.toNat 16) IntKind.i64.bits)=65536:=by decide
 have e3:(2:Int)^(min (Int.toNat 24) IntKind.i64.bits)=16777216:=by decide
 rw[e1,e2,e3,Int.fdiv_eq_ediv_of_nonneg _ (by decide),Int.fdiv_eq_ediv_of_nonneg _ (by decide),Int.fdiv_eq_ediv_of_nonneg _ (by decide)]
 rfl
end
section
theorem SY{α:Type}(n k:Nat)(x:α)(h:k<n):(List.replicate n x).take (k+1)=(List.replicate n x).take k++ [x]:=by
 rw[List.take_replicate,List.take_replicate,Nat.min_eq_left (by omega),Nat.min_eq_left (by omega),List.replicate_succ']
theorem Et(rows:Int)(k:Nat)(h0:(k:Int)<rows)(h1:rows≤64):(cw rows).rows.take (k+1)=(cw rows).rows.take k++ [Mo]:=by
 rw[iT (by omega)];exact SY _ _ _ (by omega)
theorem SZ(rows:Int)(k:Nat)(h0:(k:Int)<rows)(h1:rows≤64):k<(cw rows).rows.length:=by
 rw[iT (by omega)];simp;omega
theorem Gm(rows:Int)(k:Nat)(h:rows≤64→rows≤k):(cw rows).rows.take k=(cw rows).rows:=by
 refine List.take_of_length_le ?_
 unfold cw;dsimp only;split
 ·simp;omega
 ·simp
theorem Gn{d:DB}{i:Int}{c:List UInt8}(h:jt d i c=false):qE d i c=d:=by rw[qE,if_neg (by rw[h];decide)]
theorem JS{a b:DB}(h:gq a b=true)(k:Nat)(hk:k<a.rows.length):(fQ a b).take (k+1)=(fQ a b).take k++ [cJ (a.rows.getD k (au (.sl .u8))) (b.rows.getD k (au (.sl .u8)))]:=by
 rw[aV _ k (au (.sl .u8)) (by rw[jO h];exact hk),xj h k hk]
theorem BI(x:aJ)(c:Int)(k:Nat)(h:k<x.ah.length-1):(gr x c).take (k+1)=(gr x c).take k++ [kh x.seed [223,x.round,c,(k:Int)]]:=by
 rw[aV _ k (au .int) (by rw[iE];exact h),gr,eg _ _ _ _ h]
theorem vG(rows:Int):bX List.length (cw rows).rows≤1048576:=by
 have h:=qD rows
 have h2:((cw rows).rows.map List.length).sum≤24*(cw rows).rows.length:=by
  unfold cw;dsimp only;split
  ·simp[oX];omega
  ·simp
 unfold bX;omega
end
section
theorem zk(s rows:Int)(k:Nat)(h:k<rows.toNat):(gK s rows).take (k+1)=(gK s rows).take k++ [stream (IntKind.i64.wrap (s+IntKind.i64.wrap (1000*(k:Int)))) (24:Int).toNat]:=by
 rw[aV _ k (au (.sl .u8)) (by rw[mq];exact h),gK,eg _ _ _ _ h]
theorem EA(rows i:Int)(c:List UInt8)(sd:List Int)(k:Nat)(h:k<sd.length):o8 rows i c (sd.take (k+1))=dD (o8 rows i c (sd.take k)) (J2 (sd.getD k (au .int)) rows):=jK _ _ sd k _ h
theorem J3{rows i:Int}{c:List UInt8}{sd:List Int}(h:sW rows i c sd=true)(hl:sd.length≤1048576):fT rows i c=true∧sd.length≤3:=by
 simp only[sW,cq,Bool.and_eq_true,an]at h
 rw[bl (by omega)]at h
 exact⟨h.1,by omega⟩
theorem Ws{rows i:Int}{c:List UInt8}{sd:List Int}(h:sW rows i c sd=true):qE (cw rows) i c=Ah rows i c:=by
 simp only[sW,fT,Bool.and_eq_true]at h
 rw[Ah,if_pos h.1.1]
end
section
theorem PW(k c:Int)(p:Plain):(qo k c p).length≤100:=by
 unfold qo
 split
 ·rename_i h
  have hb:=oT h
  have hp:(fD k c p).length≤40:=by
   unfold fD
   simp only[List.length_append,List.length_drop,List.length_cons,List.length_nil,eI];omega
  rw[List.length_append,jq]
  simp only[four,List.length_cons,List.length_nil];omega
 ·exact Nat.zero_le _
theorem EB(c:ep)(r n:Int):(fE c r n).length≤1048576:=by
 unfold fE
 split
 ·split
  ·exact Nat.le_trans (PW _ _ _) (by decide)
  ·unfold cover;rw[eI];decide
 ·exact Nat.zero_le _
end
end Go.Proofs.YteodajeiagmekaaGreat.G
