/-
  Contracts by the symbolic machine: a cell's text.
-/
import Derived.Test.YtaalpcnbbldlaaaGreatDoorR11
import Derived.Test.YtaalpcnbbldlaaaGreatDoorR14
namespace Go.Proofs.YtaalpcnbbldlaaaGreatDoor.G
set_option linter.all false
open Go.RowKit L D Tryz
section
theorem QH(l:List (List UInt8))(sep y:List UInt8)(h:l≠ []):Lib.join (l++ [y]) sep=Lib.join l sep++sep++y:=by
 cases l with
 |nil=>exact absurd rfl h
 |cons x r=>
  rw[List.cons_append,Lib.join_cons,Lib.join_cons];simp[Lib.joinTail,List.append_assoc]
theorem join_le(l:List (List UInt8))(c:UInt8):(Lib.join l [c]).length≤cE List.length l:=by
 cases l with
 |nil=>simp[Lib.join_nil]
 |cons x r=>
  rw[Lib.join_cons,List.length_append,Lib.joinTail_length];simp only[cE,List.length_cons,List.map_cons,List.sum_cons,Lib.lens,List.length_nil];have:(List.map (fun x=>List.length x) r).sum=(List.map List.length r).sum:=rfl;omega
theorem UF(l:List (List UInt8))(k:Nat):cE List.length (l.take k)≤cE List.length l:=by
 have h1:=fX l List.length k;unfold cE;have:(l.take k).length≤l.length:=List.length_take_le' _ _;omega
theorem uI(l:List (List UInt8))(c:UInt8)(h:cE List.length l≤1099511627776):So 148 [.a (.sl .str l), .a (.lit (.string (aX [c])))] [.a (.lit (.string (aX (Lib.join l [c]))))]:=by
 refine⟨call148,?_⟩;rintro w us _ ha;match us,ha with
 | [u,v],⟨h1,h2,_⟩=>
   obtain⟨fp,h1⟩:=h1;obtain⟨_,rfl,_,_⟩:=h2;obtain⟨oa,cap,rfl,hc,hm,h3⟩:=(show Sl 1 Q1 w u l fp from h1);have hlen:l.length≤1099511627776:=by unfold cE at h;omega
   rcases h3 with⟨rfl,_⟩| ⟨b,off,bX,rfl,hb,rfl,hE⟩
   ·refine(Tryz.strings_Join_none oa cap (aX [c]) w).mono ?_;rintro e w' ⟨rfl,rfl⟩;exact⟨_,[],rfl,Below.refl _ _,Own.nil _ _,⟨[],[],⟨rfl,rfl,rfl⟩,rfl,rfl⟩⟩
   ·have:=Tryz.strings_Join b off cap (l.map aX) (aX [c]) w (fun j x hx=>by
      rw[List.getElem?_map]at hx;cases hy:l[j]? with
      |none=>rw[hy]at hx;cases hx
      |some y=>
       rw[hy]at hx;simp only[Option.map_some,oI]at hx;subst hx;obtain⟨f,hf⟩:=fG hE.1 hy;obtain⟨cs,q1,rfl,_⟩:=hE.2 j y f hy hf;have:=q1 0 _ rfl;rw[Nat.add_zero,Nat.mul_one]at this;exact this) hb.lt (by rw[List.length_map];omega) (by rw[List.length_map];exact hc) (by
      rw[List.map_map];rw[J3];have:=join_le l c;rw[AQ];omega)
    rw[List.length_map,List.map_map]at this;rw[J3]at this;refine this.mono ?_;rintro e w' ⟨rfl,hb'⟩;exact⟨_,[],rfl,hb',Own.nil _ _,⟨[],[],⟨rfl,rfl,rfl⟩,rfl,rfl⟩⟩
end
end Go.Proofs.YtaalpcnbbldlaaaGreatDoor.G
namespace Go.Proofs.YtaalpcnbbldlaaaGreatDoor.G
set_option linter.all false
open Go.RowKit L D
section
def wq(x:aW)(c:Int):List (List UInt8):=(x.af.getD c.toNat (aG .aZ)).live.inbox
def Fi(x:aW)(c:Int):Bool:=fT x c&& !(((wq x c).length:Int)==0)
def BG(x:aW)(c:Int):ByteArray:=if Fi x c=true then aX (Lib.join (wq x c) [124])else⟨#[45]⟩
theorem vM{x:aW}{c:Int}(hd:x.af.length≤1048576):fT x c=true↔0≤c∧c<x.af.length:=by
 unfold fT;rw[b7];omega
theorem aaf{x:aW}{c:Int}(hd:x.af.length≤1048576)(h:(!fT x c)=false):0≤c∧c<x.af.length:=(vM hd).1 (by simpa using h)
theorem UG{x:aW}{c:Int}(hd:x.af.length≤1048576)(h:Fi x c=true):0≤c∧c<x.af.length:=by
 simp only[Fi,Bool.and_eq_true]at h;exact(vM hd).1 h.1
def adC(c:dF):dF:=⟨c.id,c.cU,c.key,c.seed,c.aM,c.sent,c.inbox++ [[250,251,252]],c.next⟩
def adD(d:aZ):aZ:=⟨adC d.live,d.saved⟩
def adW(x:aW):aW:=⟨x.rows,x.az,x.af.set 0 (adD (x.af.getD 0 (aG .aZ))),x.aB,x.bn,x.seed,x.round,x.replaced,x.cancelled⟩
def stD(d:aZ):aZ:=⟨⟨d.live.id,d.live.cU,d.live.key,d.live.seed,d.live.aM,(d.live.aM.length:Int),d.live.inbox,d.live.next⟩,d.saved⟩
def stW(x:aW):aW:=⟨x.rows,x.az,x.af.set 1 (stD (x.af.getD 1 (aG .aZ))),x.aB,x.bn,x.seed,x.round,x.replaced,x.cancelled⟩
theorem UH{α:Type}{f:α→Nat}{C n i:Nat}{l:List α}{y:α}(h: ∀d,d∈l→f d≤C)(hy:f y≤C)(hl:l.length≤n):cE f (l.set i y)≤(C+1)*n:=by
 refine xH f C n _ (fun d hd=> ?_) (by rw[List.length_set];exact hl);rcases List.mem_or_eq_of_mem_set hd with h2|rfl
 ·exact h d h2
 ·exact hy
theorem UI(d:aZ):bt (adD d)=bt d+4:=by
 unfold bt adD adC bY cE;simp;omega
theorem UJ(d:aZ):bt (stD d)=bt d:=rfl
theorem mD{l:List (List UInt8)}(h:cE List.length l≤1048576){k:Nat}(hk:k<l.length):(l.getD k (aG (.sl .u8))).length≤1048576:=
 ig (f:=List.length) h (i:=k) (by rw[List.getD_eq_getElem?_getD,List.getElem?_eq_getElem hk];rfl)
structure acP(x:aW):Prop where
 inb:(x.af.getD 0 (aG .aZ)).live.inbox.length≤1000
 nd:2≤x.af.length∧x.af.length≤8
 ad:dP (adW x)≤1048576
 st:dP (stW x)≤1048576
theorem acP.of{x:aW}(h:okW x=true)(hr:x.replaced.length≤1000):acP x:=by
 have w:=GZ.of h;have nd:=w.W9;have hs:=xH dL 15000 4 x.az (O9 h) w.Vr.2;have hB: ∀d,d∈x.af→bt d≤960:=fun d hd=>k8 (GU h d hd);have hm: ∀i,i<x.af.length→bt (x.af.getD i (aG .aZ))≤960:=fun i hi=>by
  rw[List.getD_eq_getElem?_getD,List.getElem?_eq_getElem hi];exact hB _ (List.getElem_mem hi)
 have ha:dA x.aB≤1601*8:=by
  have ha:=jM.1 w.Up;refine xH dM 1600 8 _ (fun y hy=> ?_) ha.1.2;obtain⟨i,hi,rfl⟩:=List.mem_iff_getElem.1 hy;have h2:=iU.1 (ha.2 i hi);have e:x.aB.rounds.getD i (aG .aJ)=x.aB.rounds[i]:=by rw[List.getD_eq_getElem?_getD,List.getElem?_eq_getElem hi];rfl
  rw[e]at h2;exact E4 h2.2.2.1
 have h0:=hm 0 (by omega);have h1:=hm 1 (by omega);have d0:=UH (f:=bt) (C:=1000) (i:=0) (y:=adD (x.af.getD 0 (aG .aZ))) (fun d hd=>Nat.le_trans (hB d hd) (by decide)) (by rw[UI];omega) nd.2;have d1:=UH (f:=bt) (C:=1000) (i:=1) (y:=stD (x.af.getD 1 (aG .aZ))) (fun d hd=>Nat.le_trans (hB d hd) (by decide)) (by rw[UJ];omega) nd.2;refine⟨?_,nd,?_,?_⟩
 ·have h2:cE List.length (x.af.getD 0 (aG .aZ)).live.inbox≤960:=by unfold bt bY at h0;omega
  unfold cE at h2;omega
 ·unfold dP adW;dsimp only;omega
 ·unfold dP stW;dsimp only;omega
end
end Go.Proofs.YtaalpcnbbldlaaaGreatDoor.G
namespace Go.Proofs.YtaalpcnbbldlaaaGreatDoor.G
set_option linter.all false
open Go.RowKit L D Tryz
section
def digits:ByteArray:=⟨#[48,49,50,51,52,53,54,55,56,57,97,98,99,100,101,102]⟩
def U7(n:Int):Int:=n.fdiv (2^(min (4:Int).toNat IntKind.u8.bits))
def Vw(n:Int):Int:=IntKind.u8.wrap (U7 n+1)
def XH(n:Int):Int:=IntKind.u8.wrap (BitVec.ofInt IntKind.u8.bits n&&&BitVec.ofInt IntKind.u8.bits 15).toNat
def YI(n:Int):Int:=IntKind.u8.wrap (XH n+1)
theorem U8: ∀n:_root_.Fin 256,(0≤U7 (n:Nat)∧U7 (n:Nat)≤Vw (n:Nat)∧Vw (n:Nat)≤(digits.size:Int))∧(0≤XH (n:Nat)∧XH (n:Nat)≤YI (n:Nat)∧YI (n:Nat)≤(digits.size:Int))∧
  (digits.extract (U7 (n:Nat)).toNat (Vw (n:Nat)).toNat).data.toList= [Lib.Hx.digit ((n:Nat)/16)]∧(digits.extract (XH (n:Nat)).toNat (YI (n:Nat)).toNat).data.toList= [Lib.Hx.digit ((n:Nat)% 16)]:=by
 decide+kernel
theorem Pw{s:ByteArray}{l:List UInt8}(h:s.data.toList=l):s=aX l:=by
 subst h;rfl
theorem aeW(x:UInt8):(0≤U7 x.toNat∧U7 x.toNat≤Vw x.toNat∧Vw x.toNat≤(digits.size:Int))∧(0≤XH x.toNat∧XH x.toNat≤YI x.toNat∧YI x.toNat≤(digits.size:Int))∧
  digits.extract (U7 x.toNat).toNat (Vw x.toNat).toNat=aX [Lib.Hx.digit (x.toNat/16)]∧digits.extract (XH x.toNat).toNat (YI x.toNat).toNat=aX [Lib.Hx.digit (x.toNat % 16)]:=by
 obtain⟨h1,h2,h3,h4⟩:=U8 ⟨x.toNat,x.toNat_lt⟩;exact⟨h1,h2,Pw h3,Pw h4⟩
theorem LD(l:List UInt8)(x:UInt8):Lib.Hx.encode (l++ [x])=Lib.Hx.encode l++ [Lib.Hx.digit (x.toNat/16),Lib.Hx.digit (x.toNat % 16)]:=by
 simp[Lib.Hx.encode,List.flatMap_append]
def lT(l:List UInt8):ByteArray:=if((l.length:Int)==0)=true then⟨#[45]⟩else aX (Lib.Hx.encode l)
theorem ac8(l:List UInt8)(hl:l.length≤1048576)(hne:l≠ []):So 147 [.a (.sl .u8 l)] [.a (.lit (.string (aX (Lib.Hx.encode l))))]:=by
 refine⟨call147,?_⟩;rintro w us _ ha;match us,ha with
 | [u],⟨h1,_⟩=>
   obtain⟨fp,h1⟩:=h1;obtain⟨oa,cap,rfl,hc,hm,h3⟩:=(show Sl 1 NB w u l fp from h1);rcases h3 with⟨rfl,_⟩| ⟨b,off,bX,rfl,hb,rfl,hE⟩
   ·exact absurd rfl hne
   ·refine(Tryz.hex_EncodeToString_bytes b off cap l w (fun i hi=> ?_) hb.lt (by omega)).mono ?_
    ·have hx:l[i]? =some l[i]:=List.getElem?_eq_getElem hi;obtain⟨f,hf⟩:=fG hE.1 hx;obtain⟨cs,q1,rfl,_⟩:=hE.2 i _ f hx hf;have:=q1 0 _ rfl;rw[Nat.add_zero,Nat.mul_one]at this;exact this
    ·rintro e w' ⟨rfl,hb'⟩;exact⟨_,[],rfl,hb',Own.nil _ _,⟨[],[],⟨rfl,rfl,rfl⟩,rfl,rfl⟩⟩
set_option maxRecDepth 100000
theorem Ao(l:List UInt8)(hl:l.length≤1048576):So 75 [.a (.sl .u8 l)] [.a (.lit (.string (lT l)))]:=by
 refine av X call75 func75 ntmps75 rfl rfl ?_;intro w0;refine aa (aL X [] [] [0] [] rfl ⟨⟩ ?_);refine aa (aa (aL X [] [] [5,0] [] rfl ⟨⟩ ?_));refine aj rfl (fun hb=> ?_) (fun hb=>an ?_)
 ·refine aa (aL X [] [] [2] [] rfl ⟨⟩ ?_);refine ak ?_;exact ah rfl ⟨by rw[lT,if_pos (show((l.length:Int)==0)=true from hb)],⟨⟩⟩
 have hb0:((l.length:Int)==0)=false:=hb;have hne:l≠ []:=by rintro rfl;simp at hb0
 refine aa (aL X [] [(7,⟨false,[.a (.lit (.string (aX (Lib.Hx.encode l))))]⟩)] [2] [] rfl ⟨ac8 l hl hne,⟨⟩⟩ ?_);refine ak ?_;exact ah rfl ⟨by rw[lT,if_neg (by rw[hb0];decide)],⟨⟩⟩
theorem Ap(l:List UInt8)(hl:l.length≤1048576):So 54 [.a (.sl .u8 l)] [.a (.lit (.string (lT l)))]:=by
 refine av X call54 func54 ntmps54 rfl rfl ?_;intro w0;refine aa (aL X [] [] [0] [] rfl ⟨⟩ ?_);refine aa (aL X [] [] [3,0] [] rfl ⟨⟩ ?_);refine aa (aL X [] [] [4,3,0] [] rfl ⟨⟩ ?_);refine aa (aa (aL X [] [] [5,4,3,0] [] rfl ⟨⟩ ?_));refine au ?_;refine N2 (fun k=>k≤l.length) (fun k:Nat=>⟨45,[(5, .one (.a (.lit (.int .i64 k)))),(4, .one (.a (.lit (.string (aX (Lib.Hx.encode (l.take k))))))),(3, .one (.a (.lit (.string digits)))),(0, .one (.a (.sl .u8 l)))],[]⟩) (fun k=>l.length-k) 0 (Nat.zero_le _) (Inv.of_eq rfl) ?_;intro k hk;refine aa (aa (aL X [] [] [9,5,4,3,0] [] rfl ⟨⟩ ?_));refine aj rfl (fun hb=>an ?_) (fun hb=>aI ?_)
 ·have hk2:k<l.length:=by simpa using hb
  obtain⟨d1,d2,d3,d4⟩:=aeW (l.getD k 0);have Z2:Lib.Hx.encode (l.take (k+1))=Lib.Hx.encode (l.take k)++ [Lib.Hx.digit ((l.getD k 0).toNat/16),Lib.Hx.digit ((l.getD k 0).toNat % 16)]:=by rw[bu l k 0 hk2,LD]
  have ht:(Lib.Hx.encode (l.take k)).length≤2097152:=by rw[Lib.Hx.encode_length,List.length_take];omega
  have e1:aX (Lib.Hx.encode (l.take k))++digits.extract (U7 ((l.getD k 0).toNat:Int)).toNat (Vw ((l.getD k 0).toNat:Int)).toNat=aX (Lib.Hx.encode (l.take k)++ [Lib.Hx.digit ((l.getD k 0).toNat/16)]):=by rw[d3];exact lG _ _
  have e2:(aX (Lib.Hx.encode (l.take k))++digits.extract (U7 ((l.getD k 0).toNat:Int)).toNat (Vw ((l.getD k 0).toNat:Int)).toNat)++digits.extract (XH ((l.getD k 0).toNat:Int)).toNat (YI ((l.getD k 0).toNat:Int)).toNat=aX (Lib.Hx.encode (l.take (k+1))):=by
   rw[e1,d4,Z2];exact(lG _ _).trans (congrArg aX (by simp))
  have s1:(((aX (Lib.Hx.encode (l.take k))).size+(digits.extract (U7 ((l.getD k 0).toNat:Int)).toNat (Vw ((l.getD k 0).toNat:Int)).toNat).size:Nat):Int)≤IntKind.i64.max:=by
   rw[d3,bZ,bZ,fE,List.length_singleton];omega
  have s2:(((aX (Lib.Hx.encode (l.take k))++digits.extract (U7 ((l.getD k 0).toNat:Int)).toNat (Vw ((l.getD k 0).toNat:Int)).toNat).size+(digits.extract (XH ((l.getD k 0).toNat:Int)).toNat (YI ((l.getD k 0).toNat:Int)).toNat).size:Nat):Int)≤IntKind.i64.max:=by
   rw[e1,d4,bZ,bZ,fE,List.length_append,List.length_singleton,List.length_singleton];omega
  refine aa (au (aF X [] [] [5,4,3,0] [] 1073741823 0 MO (by kernel_rfl) rfl (by kernel_rfl) ⟨s2,d2,by omega,by omega,s1,d1,by decide,by omega,by decide,by omega,⟨⟩⟩ ?_));refine dy X [5,4,3,0] rfl ⟨⟩ ?_;refine⟨k+1,hk2,by omega,Inv.of_eq ?_⟩;rw[bh _ k rfl (by omega), ←e2];try rfl
 ·have hk2:l.take k=l:=List.take_of_length_le (by simpa using hb);refine aa (aa (aL X [] [] [43,4] [] rfl ⟨⟩ ?_));refine aj rfl (fun bI=> ?_) (fun bI=>an ?_)
  ·refine aa (aL X [] [] [2] [] rfl ⟨⟩ ?_);refine ak ?_;exact ah rfl ⟨by rw[lT,if_pos (show((l.length:Int)==0)=true from bI)],⟨⟩⟩
  ·refine aa (aL X [] [] [2] [] rfl ⟨⟩ ?_);refine ak ?_;exact ah rfl ⟨by rw[hk2,lT,if_neg (by rw[show((l.length:Int)==0)=false from bI];decide)],⟨⟩⟩
end
end Go.Proofs.YtaalpcnbbldlaaaGreatDoor.G
