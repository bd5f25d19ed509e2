/- Steps. -/
import Derived.Test.YtaalpcnbbldlaaaGreatDoorR10
import Derived.Test.YtaalpcnbbldlaaaGreatDoorR15
open Go.IntKind renaming i64→af,u8→cJ
open Go.Lib renaming join→qT,join_cons→BF
open Go.Lib.Hx renaming digit→mC,encode→fW
open List renaming getD_eq_getElem?_getD→aq,getElem?_eq_getElem→az,length→aN,length_append→aQ,length_map→bt,length_singleton→gz,map→Wt,map_map→jM
namespace Go.Proofs.YtaalpcnbbldlaaaGreatDoor.G
set_option linter.all false
open Go.RowKit L D Tryz
section
variable(l:List (List UInt8))
theorem aiP(sep y:List UInt8)(h:l≠ []):qT (l++ [y]) sep=qT l sep++sep++y:=by
 cases l with
 |nil=>exact absurd rfl h
 |cons x r=>
  rw[List.cons_append,BF,BF];simp[Lib.joinTail,List.append_assoc]
theorem join_le(c:UInt8):(qT l [c]).length≤gb aN l:=by
 cases l with
 |nil=>simp[Lib.join_nil]
 |cons x r=>
  rw[BF,aQ,Lib.joinTail_length];simp only[gb,List.length_cons,List.map_cons,List.sum_cons,Lib.lens,List.length_nil];have:(Wt (fun x=>aN x) r).sum=(Wt aN r).sum:=rfl;omega
theorem anL(k:Nat):gb aN (l.take k)≤gb aN l:=by
 have h1:=nj l aN k;unfold gb;have:(l.take k).length≤l.length:=List.length_take_le' _ _;omega
theorem En(c:UInt8)(h:gb aN l≤1099511627776):So 148 [.a (.sl .str l), .a (.lit (.string (bG [c])))] [.a (.lit (.string (bG (qT l [c]))))]:=by
 refine⟨call148,?_⟩;rintro w us _ ha;match us,ha with
 | [u,v],⟨h1,h2,_⟩=>
   obtain⟨fp,h1⟩:=h1;obtain⟨_,rfl,_,_⟩:=h2;obtain⟨oa,cap,rfl,hc,hm,h3⟩:=(show Sl 1 aka w u l fp from h1);have hlen:l.length≤1099511627776:=by unfold gb at h;omega
   rcases h3 with⟨rfl,_⟩| ⟨b,off,eS,rfl,hb,rfl,hE⟩
   ·refine(Tryz.strings_Join_none oa cap (bG [c]) w).mono ?_;rintro e w' ⟨rfl,rfl⟩;exact⟨_,[],rfl,Below.refl _ _,Own.nil _ _,⟨[],[],⟨rfl,rfl,rfl⟩,rfl,rfl⟩⟩
   ·have:=Tryz.strings_Join b off cap (l.map bG) (bG [c]) w (fun j x hx=>by
      rw[List.getElem?_map]at hx;cases hy:l[j]? with
      |none=>rw[hy]at hx;cases hx
      |some y=>
       rw[hy]at hx;simp only[Option.map_some,oI]at hx;subst hx;obtain⟨f,hf⟩:=mQ hE.1 hy;obtain⟨cs,q1,rfl,_⟩:=hE.2 j y f hy hf;have:=q1 0 _ rfl;rw[Nat.add_zero,Nat.mul_one]at this;exact this) hb.lt Uy (by rw[bt];exact hc) (by
      rw[jM];rw[Yz];have:=join_le l c;rw[KU];omega)
    rw[bt,jM]at this;rw[Yz]at this;refine this.mono ?_;rintro e w' ⟨rfl,hb'⟩;exact⟨_,[],rfl,hb',Own.nil _ _,⟨[],[],⟨rfl,rfl,rfl⟩,rfl,rfl⟩⟩
end
end Go.Proofs.YtaalpcnbbldlaaaGreatDoor.G
namespace Go.Proofs.YtaalpcnbbldlaaaGreatDoor.G
set_option linter.all false
open Go.RowKit L D
section
variable(x:dF){c:Int}(d:bR)
def Gy(c:Int):List (List UInt8):=(x.ah.getD c.toNat (aO .bR)).live.inbox
def Xx(c:Int):Bool:=n8 x c&& !(((Gy x c).length:Int)==0)
def Hw(c:Int):ByteArray:=if Xx x c=true then bG (qT (Gy x c) [124])else⟨#[45]⟩
theorem Fq{x:dF}(hd:x.ah.length≤1048576):n8 x c=true↔0≤c∧c<x.ah.length:=by
 unfold n8;rw[dK];omega
theorem azn{x:dF}(hd:x.ah.length≤1048576)(h:(!n8 x c)=false):0≤c∧c<x.ah.length:=(Fq hd).1 Fy
theorem anS{x:dF}(hd:x.ah.length≤1048576)(h:Xx x c=true):0≤c∧c<x.ah.length:=by
 simp only[Xx,Bool.and_eq_true]at h;exact(Fq hd).1 h.1
def adC(c:kf):kf:=⟨c.id,c.gJ,c.key,c.seed,c.aT,c.sent,c.inbox++ [[250,251,252]],c.next⟩
def adD:bR:=⟨adC d.live,d.saved⟩
def adW:dF:=⟨x.rows,x.aC,x.ah.set 0 (adD (x.ah.getD 0 (aO .bR))),x.aH,x.bW,x.seed,x.round,x.replaced,x.cancelled⟩
def stD:bR:=⟨⟨d.live.id,d.live.gJ,d.live.key,d.live.seed,d.live.aT,(d.live.aT.length:Int),d.live.inbox,d.live.next⟩,d.saved⟩
def stW:dF:=⟨x.rows,x.aC,x.ah.set 1 (stD (x.ah.getD 1 (aO .bR))),x.aH,x.bW,x.seed,x.round,x.replaced,x.cancelled⟩
theorem anT{α:Type}{f:α→Nat}{C n i:Nat}{l:List α}{y:α}(h: ∀d,d∈l→f d≤C)(hy:f y≤C)(hl:l.length≤n):gb f (l.set i y)≤(C+1)*n:=by
 refine G9 f C n _ (fun d hd=> ?_) (by rw[List.length_set];exact hl);rcases List.mem_or_eq_of_mem_set hd with h2|rfl
 ·exact h d h2
 ·exact hy
theorem anU:cE (adD d)=cE d+4:=by
 unfold cE adD adC eO gb;simp;omega
theorem anV:cE (stD d)=cE d:=rfl
theorem wU{l:List (List UInt8)}(h:gb aN l≤1048576){k:Nat}(hk:k<l.length):(l.getD k (aO (.sl .u8))).length≤1048576:=
 pO (f:=aN) h (i:=k) (by rw[aq,az hk];rfl)
structure aEr(x:dF):Prop where
 inb:(x.ah.getD 0 (aO .bR)).live.inbox.length≤1000
 nd:2≤x.ah.length∧x.ah.length≤8
 ad:jA (adW x)≤1048576
 st:jA (stW x)≤1048576
theorem aEr.of{x:dF}(h:okW x=true)(hr:x.replaced.length≤1000):aEr x:=by
 have w:=RP.of h;have nd:=w.ndv;have hs:=G9 jm 15000 4 x.aC (afU h) w.nsv.2;have hB: ∀d,d∈x.ah→cE d≤960:=fun d hd=>uy (TT h d hd);have hm: ∀i,i<x.ah.length→cE (x.ah.getD i (aO .bR))≤960:=fun i hi=>by
  rw[aq,az hi];exact hB _ (List.getElem_mem hi)
 have ha:iS x.aH≤1601*8:=by
  have ha:=rY.1 w.arc;refine G9 jo 1600 8 _ (fun y hy=> ?_) ha.1.2;obtain⟨i,hi,rfl⟩:=List.mem_iff_getElem.1 hy;have h2:=qH.1 (ha.2 i hi);have e:x.aH.rounds.getD i (aO .bn)=x.aH.rounds[i]:=by rw[aq,az hi];rfl
  rw[e]at h2;exact QF h2.2.2.1
 have h0:=hm 0 aJ;have h1:=hm 1 aJ;have d0:=anT (f:=cE) (C:=1000) (i:=0) (y:=adD (x.ah.getD 0 (aO .bR))) (fun d hd=>Nat.le_trans (hB d hd) cO) (by rw[anU];omega) nd.2;have d1:=anT (f:=cE) (C:=1000) (i:=1) (y:=stD (x.ah.getD 1 (aO .bR))) (fun d hd=>Nat.le_trans (hB d hd) cO) (by rw[anV];omega) nd.2;refine⟨?_,nd,?_,?_⟩
 ·have h2:gb aN (x.ah.getD 0 (aO .bR)).live.inbox≤960:=by unfold cE eO at h0;omega
  unfold gb at h2;omega
 ·unfold jA adW;dsimp only;omega
 ·unfold jA stW;dsimp only;omega
end
end Go.Proofs.YtaalpcnbbldlaaaGreatDoor.G
namespace Go.Proofs.YtaalpcnbbldlaaaGreatDoor.G
set_option linter.all false
open Go.RowKit L D Tryz
variable(n:Int)(l:List UInt8)
def digits:ByteArray:=⟨#[48,49,50,51,52,53,54,55,56,57,97,98,99,100,101,102]⟩
def lo1:Int:=n.fdiv (2^(min (4:Int).toNat cJ.bits))
def up1:Int:=cJ.wrap (lo1 n+1)
def lo2:Int:=cJ.wrap (BitVec.ofInt cJ.bits n&&&BitVec.ofInt cJ.bits 15).toNat
def up2:Int:=cJ.wrap (lo2 n+1)
theorem aop: ∀n:_root_.Fin 256,(0≤lo1 (n:Nat)∧lo1 (n:Nat)≤up1 (n:Nat)∧up1 (n:Nat)≤(digits.size:Int))∧(0≤lo2 (n:Nat)∧lo2 (n:Nat)≤up2 (n:Nat)∧up2 (n:Nat)≤(digits.size:Int))∧
  (digits.extract (lo1 (n:Nat)).toNat (up1 (n:Nat)).toNat).data.toList= [mC ((n:Nat)/16)]∧(digits.extract (lo2 (n:Nat)).toNat (up2 (n:Nat)).toNat).data.toList= [mC ((n:Nat)% 16)]:=by
 decide+kernel
theorem agd{s:ByteArray}{l:List UInt8}(h:s.data.toList=l):s=bG l:=by
 subst h;rfl
theorem aHh(x:UInt8):(0≤lo1 x.toNat∧lo1 x.toNat≤up1 x.toNat∧up1 x.toNat≤(digits.size:Int))∧(0≤lo2 x.toNat∧lo2 x.toNat≤up2 x.toNat∧up2 x.toNat≤(digits.size:Int))∧
  digits.extract (lo1 x.toNat).toNat (up1 x.toNat).toNat=bG [mC (x.toNat/16)]∧digits.extract (lo2 x.toNat).toNat (up2 x.toNat).toNat=bG [mC (x.toNat % 16)]:=by
 obtain⟨h1,h2,h3,h4⟩:=aop ⟨x.toNat,x.toNat_lt⟩;exact⟨h1,h2,agd h3,agd h4⟩
theorem aas(x:UInt8):fW (l++ [x])=fW l++ [mC (x.toNat/16),mC (x.toNat % 16)]:=by
 simp[fW,List.flatMap_append]
def vF:ByteArray:=if((l.length:Int)==0)=true then⟨#[45]⟩else bG (fW l)
theorem aEL(hl:l.length≤1048576)(hne:l≠ []):So 147 [.a (.sl .u8 l)] [.a (.lit (.string (bG (fW l))))]:=by
 refine⟨call147,?_⟩;rintro w us _ ha;match us,ha with
 | [u],⟨h1,_⟩=>
   obtain⟨fp,h1⟩:=h1;obtain⟨oa,cap,rfl,hc,hm,h3⟩:=(show Sl 1 EU8 w u l fp from h1);rcases h3 with⟨rfl,_⟩| ⟨b,off,eS,rfl,hb,rfl,hE⟩
   ·exact absurd rfl hne
   ·refine(Tryz.hex_EncodeToString_bytes b off cap l w (fun i hi=> ?_) hb.lt aJ).mono ?_
    ·have hx:l[i]? =some l[i]:=az hi;obtain⟨f,hf⟩:=mQ hE.1 hx;obtain⟨cs,q1,rfl,_⟩:=hE.2 i _ f hx hf;have:=q1 0 _ rfl;rw[Nat.add_zero,Nat.mul_one]at this;exact this
    ·rintro e w' ⟨rfl,hb'⟩;exact⟨_,[],rfl,hb',Own.nil _ _,⟨[],[],⟨rfl,rfl,rfl⟩,rfl,rfl⟩⟩
set_option maxRecDepth 100000
theorem J1(hl:l.length≤1048576):So 75 [.a (.sl .u8 l)] [.a (.lit (.string (vF l)))]:=by
 refine aZ call75 func75 ntmps75 ?_;intro w0;refine aA (bY [] [0] J ⟨⟩ ?_);refine aA (aA (bY [] [5,0] J ⟨⟩ ?_));refine aM J (fun hb=> ?_) (fun hb=>av ?_)
 ·refine aA (bY [] [2] J ⟨⟩ ?_);refine au ?_;exact aj J ⟨by rw[vF,if_pos (show((l.length:Int)==0)=true from hb)],⟨⟩⟩
 have hb0:((l.length:Int)==0)=false:=hb;have hne:l≠ []:=by rintro rfl;simp at hb0
 refine aA (bY [(7,⟨false,[.a (.lit (.string (bG (fW l))))]⟩)] [2] J ⟨aEL l hl hne,⟨⟩⟩ ?_);refine au ?_;exact aj J ⟨by rw[vF,if_neg abw],⟨⟩⟩
theorem J2(hl:l.length≤1048576):So 54 [.a (.sl .u8 l)] [.a (.lit (.string (vF l)))]:=by
 refine aZ call54 func54 ntmps54 ?_;intro w0;refine aA (bY [] [0] J ⟨⟩ ?_);refine aA (bY [] [3,0] J ⟨⟩ ?_);refine aA (bY [] [4,3,0] J ⟨⟩ ?_);refine aA (aA (bY [] [5,4,3,0] J ⟨⟩ ?_));refine aK ?_;refine aen (fun k=>k≤l.length) (fun k:Nat=>⟨45,[(5, .one (.a (.lit (.int .i64 k)))),(4, .one (.a (.lit (.string (bG (fW (l.take k))))))),(3, .one (.a (.lit (.string digits)))),(0, .one (.a (.sl .u8 l)))],[]⟩) (fun k=>l.length-k) 0 (Nat.zero_le _) (Inv.of_eq rfl) ?_;intro k hk;refine aA (aA (bY [] [9,5,4,3,0] J ⟨⟩ ?_));refine aM J (fun hb=>av ?_) (fun hb=>bf ?_)
 ·have hk2:k<l.length:=by simpa using hb
  obtain⟨d1,d2,d3,d4⟩:=aHh (l.getD k 0);have hsn:fW (l.take (k+1))=fW (l.take k)++ [mC ((l.getD k 0).toNat/16),mC ((l.getD k 0).toNat % 16)]:=by rw[cD l k 0 hk2,aas]
  have ht:(fW (l.take k)).length≤2097152:=by rw[Lib.Hx.encode_length,List.length_take];omega
  have e1:bG (fW (l.take k))++digits.extract (lo1 ((l.getD k 0).toNat:Int)).toNat (up1 ((l.getD k 0).toNat:Int)).toNat=bG (fW (l.take k)++ [mC ((l.getD k 0).toNat/16)]):=by rw[d3];exact jf _ _
  have e2:(bG (fW (l.take k))++digits.extract (lo1 ((l.getD k 0).toNat:Int)).toNat (up1 ((l.getD k 0).toNat:Int)).toNat)++digits.extract (lo2 ((l.getD k 0).toNat:Int)).toNat (up2 ((l.getD k 0).toNat:Int)).toNat=bG (fW (l.take (k+1))):=by
   rw[e1,d4,hsn];exact(jf _ _).trans (congrArg bG fI)
  have s1:(((bG (fW (l.take k))).size+(digits.extract (lo1 ((l.getD k 0).toNat:Int)).toNat (up1 ((l.getD k 0).toNat:Int)).toNat).size:Nat):Int)≤af.max:=by
   rw[d3,cZ,cZ,BR,gz];omega
  have s2:(((bG (fW (l.take k))++digits.extract (lo1 ((l.getD k 0).toNat:Int)).toNat (up1 ((l.getD k 0).toNat:Int)).toNat).size+(digits.extract (lo2 ((l.getD k 0).toNat:Int)).toNat (up2 ((l.getD k 0).toNat:Int)).toNat).size:Nat):Int)≤af.max:=by
   rw[e1,d4,cZ,cZ,BR,aQ,gz,gz];omega
  refine aA (aK (cT X [] [5,4,3,0] 1073741823 rfl ⟨s2,d2,aJ,aJ,s1,d1,by decide,aJ,by decide,aJ,⟨⟩⟩ ?_));refine iB X [5,4,3,0] J ⟨⟩ ?_;refine⟨k+1,hk2,aJ,Inv.of_eq ?_⟩;rw[gT _ k rfl aJ, ←e2];try rfl
 ·have hk2:l.take k=l:=List.take_of_length_le Uz;refine aA (aA (bY [] [43,4] J ⟨⟩ ?_));refine aM J (fun fu=> ?_) (fun fu=>av ?_)
  ·refine aA (bY [] [2] J ⟨⟩ ?_);refine au ?_;exact aj J ⟨by rw[vF,if_pos (show((l.length:Int)==0)=true from fu)],⟨⟩⟩
  ·refine aA (bY [] [2] J ⟨⟩ ?_);refine au ?_;exact aj J ⟨by rw[hk2,vF,if_neg (by rw[show((l.length:Int)==0)=false from fu];decide)],⟨⟩⟩
end Go.Proofs.YtaalpcnbbldlaaaGreatDoor.G
