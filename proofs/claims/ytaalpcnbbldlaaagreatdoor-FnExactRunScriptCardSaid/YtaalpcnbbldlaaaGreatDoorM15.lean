/-
  Contracts by the symbolic machine: a cell's text.
-/
import Derived.Test.YtaalpcnbbldlaaaGreatDoorM11
import Derived.Test.YtaalpcnbbldlaaaGreatDoorM14
open Go.IntKind renaming i64→af,u8→cC
open Go.Lib renaming join→pX,join_cons→FN
open Go.Lib.Hx renaming digit→kJ,encode→eS
open List renaming getD_eq_getElem?_getD→aA,getElem?_eq_getElem→aC,length→aL,length_append→bf,length_map→bt,length_singleton→fY,map_map→uM
namespace Go.Proofs.YtaalpcnbbldlaaaGreatDoor.G
set_option linter.all false
open Go.RowKit L D Tryz
section
theorem aaz(l:List (List UInt8))(sep y:List UInt8)(h:l≠ []):pX (l++ [y]) sep=pX l sep++sep++y:=by
 cases l with
 |nil=>exact absurd rfl h
 |cons x r=>
  rw[List.cons_append,FN,FN]
  simp[Lib.joinTail,List.append_assoc]
theorem join_le(l:List (List UInt8))(c:UInt8):(pX l [c]).length≤eN aL l:=by
 cases l with
 |nil=>simp[Lib.join_nil]
 |cons x r=>
  rw[FN,bf,Lib.joinTail_length]
  simp only[eN,List.length_cons,List.map_cons,List.sum_cons,Lib.lens,List.length_nil]
  have:(List.map (fun x=>aL x) r).sum=(List.map aL r).sum:=rfl
  omega
theorem aeP(l:List (List UInt8))(k:Nat):eN aL (l.take k)≤eN aL l:=by
 have h1:=kE l aL k
 unfold eN
 have:(l.take k).length≤l.length:=List.length_take_le' _ _
 omega
theorem Bg(l:List (List UInt8))(c:UInt8)(h:eN aL l≤1099511627776):So 148 [.a (.sl .str l), .a (.lit (.string (bP [c])))] [.a (.lit (.string (bP (pX l [c]))))]:=by
 refine⟨call148,?_⟩
 rintro w us _ ha
 match us,ha with
 | [u,v],⟨h1,h2,_⟩=>
   obtain⟨fp,h1⟩:=h1
   obtain⟨_,rfl,_,_⟩:=h2
   obtain⟨oa,cap,rfl,hc,hm,h3⟩:=(show Sl 1 aa5 w u l fp from h1)
   have hlen:l.length≤1099511627776:=by unfold eN at h;omega
   rcases h3 with⟨rfl,_⟩| ⟨b,off,dN,rfl,hb,rfl,hE⟩
   ·refine(Tryz.strings_Join_none oa cap (bP [c]) w).mono ?_
    rintro e w' ⟨rfl,rfl⟩
    exact⟨_,[],rfl,Below.refl _ _,Own.nil _ _,⟨[],[],⟨rfl,rfl,rfl⟩,rfl,rfl⟩⟩
   ·have:=Tryz.strings_Join b off cap (l.map bP) (bP [c]) w (fun j x hx=>by
      rw[List.getElem?_map]at hx
      cases hy:l[j]? with
      |none=>rw[hy]at hx;cases hx
      |some y=>
       rw[hy]at hx
       simp only[Option.map_some,oI]at hx
       subst hx
       obtain⟨f,hf⟩:=jZ hE.1 hy
       obtain⟨cs,q1,rfl,_⟩:=hE.2 j y f hy hf
       have:=q1 0 _ rfl
       rw[Nat.add_zero,Nat.mul_one]at this
       exact this) hb.lt (by rw[bt];omega) (by rw[bt];exact hc) (by
      rw[uM]
      rw[RM]
      have:=join_le l c
      rw[GA]
      omega)
    rw[bt,uM]at this
    rw[RM]at this
    refine this.mono ?_
    rintro e w' ⟨rfl,hb'⟩
    exact⟨_,[],rfl,hb',Own.nil _ _,⟨[],[],⟨rfl,rfl,rfl⟩,rfl,rfl⟩⟩
end
end Go.Proofs.YtaalpcnbbldlaaaGreatDoor.G
namespace Go.Proofs.YtaalpcnbbldlaaaGreatDoor.G
set_option linter.all false
open Go.RowKit L D
section
def Cv(x:bN)(c:Int):List (List UInt8):=(x.ah.getD c.toNat (aR .bR)).live.inbox
def LZ(x:bN)(c:Int):Bool:=kA x c&& !(((Cv x c).length:Int)==0)
def HH(x:bN)(c:Int):ByteArray:=if LZ x c=true then bP (pX (Cv x c) [124])else⟨#[45]⟩
theorem B4{x:bN}{c:Int}(hd:x.ah.length≤1048576):kA x c=true↔0≤c∧c<x.ah.length:=by
 unfold kA
 rw[dS];omega
theorem amI{x:bN}{c:Int}(hd:x.ah.length≤1048576)(h:(!kA x c)=false):0≤c∧c<x.ah.length:=(B4 hd).1 (by simpa using h)
theorem aeQ{x:bN}{c:Int}(hd:x.ah.length≤1048576)(h:LZ x c=true):0≤c∧c<x.ah.length:=by
 simp only[LZ,Bool.and_eq_true]at h
 exact(B4 hd).1 h.1
def adC(c:gI):gI:=⟨c.id,c.fJ,c.key,c.seed,c.bp,c.sent,c.inbox++ [[250,251,252]],c.next⟩
def adD(d:bR):bR:=⟨adC d.live,d.saved⟩
def adW(x:bN):bN:=⟨x.rows,x.aG,x.ah.set 0 (adD (x.ah.getD 0 (aR .bR))),x.aK,x.ck,x.seed,x.round,x.replaced,x.cancelled⟩
def stD(d:bR):bR:=⟨⟨d.live.id,d.live.fJ,d.live.key,d.live.seed,d.live.bp,(d.live.bp.length:Int),d.live.inbox,d.live.next⟩,d.saved⟩
def stW(x:bN):bN:=⟨x.rows,x.aG,x.ah.set 1 (stD (x.ah.getD 1 (aR .bR))),x.aK,x.ck,x.seed,x.round,x.replaced,x.cancelled⟩
theorem aeR{α:Type}{f:α→Nat}{C n i:Nat}{l:List α}{y:α}(h: ∀d,d∈l→f d≤C)(hy:f y≤C)(hl:l.length≤n):eN f (l.set i y)≤(C+1)*n:=by
 refine Dw f C n _ (fun d hd=> ?_) (by rw[List.length_set];exact hl)
 rcases List.mem_or_eq_of_mem_set hd with h2|rfl
 ·exact h d h2
 ·exact hy
theorem aeS(d:bR):cz (adD d)=cz d+4:=by
 unfold cz adD adC dQ eN
 simp
 omega
theorem aeT(d:bR):cz (stD d)=cz d:=rfl
theorem sV{l:List (List UInt8)}(h:eN aL l≤1048576){k:Nat}(hk:k<l.length):(l.getD k (aR (.sl .u8))).length≤1048576:=
 mG (f:=aL) h (i:=k) (by rw[aA,aC hk];rfl)
structure apm(x:bN):Prop where
 inb:(x.ah.getD 0 (aR .bR)).live.inbox.length≤1000
 nd:2≤x.ah.length∧x.ah.length≤8
 ad:gW (adW x)≤1048576
 st:gW (stW x)≤1048576
theorem apm.of{x:bN}(h:okW x=true)(hr:x.replaced.length≤1000):apm x:=by
 have w:=N5.of h
 have nd:=w.ndv
 have hs:=Dw gP 15000 4 x.aG (Yy h) w.nsv.2
 have hB: ∀d,d∈x.ah→cz d≤960:=fun d hd=>qK (N0 h d hd)
 have hm: ∀i,i<x.ah.length→cz (x.ah.getD i (aR .bR))≤960:=fun i hi=>by
  rw[aA,aC hi]
  exact hB _ (List.getElem_mem hi)
 have ha:gC x.aK≤1601*8:=by
  have ha:=oP.1 w.arc
  refine Dw gQ 1600 8 _ (fun y hy=> ?_) ha.1.2
  obtain⟨i,hi,rfl⟩:=List.mem_iff_getElem.1 hy
  have h2:=nH.1 (ha.2 i hi)
  have e:x.aK.rounds.getD i (aR .aX)=x.aK.rounds[i]:=by rw[aA,aC hi];rfl
  rw[e]at h2
  exact LI h2.2.2.1
 have h0:=hm 0 (by omega)
 have h1:=hm 1 (by omega)
 have d0:=aeR (f:=cz) (C:=1000) (i:=0) (y:=adD (x.ah.getD 0 (aR .bR))) (fun d hd=>Nat.le_trans (hB d hd) (by decide)) (by rw[aeS];omega) nd.2
 have d1:=aeR (f:=cz) (C:=1000) (i:=1) (y:=stD (x.ah.getD 1 (aR .bR))) (fun d hd=>Nat.le_trans (hB d hd) (by decide)) (by rw[aeT];omega) nd.2
 refine⟨?_,nd,?_,?_⟩
 ·have h2:eN aL (x.ah.getD 0 (aR .bR)).live.inbox≤960:=by unfold cz dQ at h0;omega
  unfold eN at h2;omega
 ·unfold gW adW
  dsimp only
  omega
 ·unfold gW stW
  dsimp only
  omega
end
end Go.Proofs.YtaalpcnbbldlaaaGreatDoor.G
namespace Go.Proofs.YtaalpcnbbldlaaaGreatDoor.G
set_option linter.all false
open Go.RowKit L D Tryz
section
def digits:ByteArray:=⟨#[48,49,50,51,52,53,54,55,56,57,97,98,99,100,101,102]⟩
def lo1(n:Int):Int:=n.fdiv (2^(min (4:Int).toNat cC.bits))
def up1(n:Int):Int:=cC.wrap (lo1 n+1)
def lo2(n:Int):Int:=cC.wrap (BitVec.ofInt cC.bits n&&&BitVec.ofInt cC.bits 15).toNat
def up2(n:Int):Int:=cC.wrap (lo2 n+1)
theorem afk: ∀n:_root_.Fin 256,(0≤lo1 (n:Nat)∧lo1 (n:Nat)≤up1 (n:Nat)∧up1 (n:Nat)≤(digits.size:Int))∧(0≤lo2 (n:Nat)∧lo2 (n:Nat)≤up2 (n:Nat)∧up2 (n:Nat)≤(digits.size:Int))∧
  (digits.extract (lo1 (n:Nat)).toNat (up1 (n:Nat)).toNat).data.toList= [kJ ((n:Nat)/16)]∧(digits.extract (lo2 (n:Nat)).toNat (up2 (n:Nat)).toNat).data.toList= [kJ ((n:Nat)% 16)]:=by
 decide+kernel
theorem YT{s:ByteArray}{l:List UInt8}(h:s.data.toList=l):s=bP l:=by
 subst h;rfl
theorem arx(x:UInt8):(0≤lo1 x.toNat∧lo1 x.toNat≤up1 x.toNat∧up1 x.toNat≤(digits.size:Int))∧(0≤lo2 x.toNat∧lo2 x.toNat≤up2 x.toNat∧up2 x.toNat≤(digits.size:Int))∧
  digits.extract (lo1 x.toNat).toNat (up1 x.toNat).toNat=bP [kJ (x.toNat/16)]∧digits.extract (lo2 x.toNat).toNat (up2 x.toNat).toNat=bP [kJ (x.toNat % 16)]:=by
 obtain⟨h1,h2,h3,h4⟩:=afk ⟨x.toNat,x.toNat_lt⟩
 exact⟨h1,h2,YT h3,YT h4⟩
theorem TX(l:List UInt8)(x:UInt8):eS (l++ [x])=eS l++ [kJ (x.toNat/16),kJ (x.toNat % 16)]:=by
 simp[eS,List.flatMap_append]
def rS(l:List UInt8):ByteArray:=if((l.length:Int)==0)=true then⟨#[45]⟩else bP (eS l)
theorem apJ(l:List UInt8)(hl:l.length≤1048576)(hne:l≠ []):So 147 [.a (.sl .u8 l)] [.a (.lit (.string (bP (eS l))))]:=by
 refine⟨call147,?_⟩
 rintro w us _ ha
 match us,ha with
 | [u],⟨h1,_⟩=>
   obtain⟨fp,h1⟩:=h1
   obtain⟨oa,cap,rfl,hc,hm,h3⟩:=(show Sl 1 Wq w u l fp from h1)
   rcases h3 with⟨rfl,_⟩| ⟨b,off,dN,rfl,hb,rfl,hE⟩
   ·exact absurd rfl hne
   ·refine(Tryz.hex_EncodeToString_bytes b off cap l w (fun i hi=> ?_) hb.lt (by omega)).mono ?_
    ·have hx:l[i]? =some l[i]:=aC hi
     obtain⟨f,hf⟩:=jZ hE.1 hx
     obtain⟨cs,q1,rfl,_⟩:=hE.2 i _ f hx hf
     have:=q1 0 _ rfl
     rw[Nat.add_zero,Nat.mul_one]at this
     exact this
    ·rintro e w' ⟨rfl,hb'⟩
     exact⟨_,[],rfl,hb',Own.nil _ _,⟨[],[],⟨rfl,rfl,rfl⟩,rfl,rfl⟩⟩
set_option maxRecDepth 100000
theorem F0(l:List UInt8)(hl:l.length≤1048576):So 75 [.a (.sl .u8 l)] [.a (.lit (.string (rS l)))]:=by
 refine aF X call75 func75 ntmps75 rfl rfl ?_
 intro w0
 refine aa (bn X [] [] [0] [] rfl ⟨⟩ ?_)
 refine aa (aa (bn X [] [] [5,0] [] rfl ⟨⟩ ?_))
 refine an rfl (fun hb=> ?_) (fun hb=>au ?_)
 ·refine aa (bn X [] [] [2] [] rfl ⟨⟩ ?_)
  refine aq ?_
  exact aj rfl ⟨by rw[rS,if_pos (show((l.length:Int)==0)=true from hb)],⟨⟩⟩
 have hb0:((l.length:Int)==0)=false:=hb
 have hne:l≠ []:=by rintro rfl;simp at hb0
 refine aa (bn X [] [(7,⟨false,[.a (.lit (.string (bP (eS l))))]⟩)] [2] [] rfl ⟨apJ l hl hne,⟨⟩⟩ ?_)
 refine aq ?_
 exact aj rfl ⟨by rw[rS,if_neg (by rw[hb0];decide)],⟨⟩⟩
theorem F1(l:List UInt8)(hl:l.length≤1048576):So 54 [.a (.sl .u8 l)] [.a (.lit (.string (rS l)))]:=by
 refine aF X call54 func54 ntmps54 rfl rfl ?_
 intro w0
 refine aa (bn X [] [] [0] [] rfl ⟨⟩ ?_)
 refine aa (bn X [] [] [3,0] [] rfl ⟨⟩ ?_)
 refine aa (bn X [] [] [4,3,0] [] rfl ⟨⟩ ?_)
 refine aa (aa (bn X [] [] [5,4,3,0] [] rfl ⟨⟩ ?_))
 refine aB ?_
 refine WX (fun k=>k≤l.length) (fun k:Nat=>⟨45,[(5, .one (.a (.lit (.int .i64 k)))),(4, .one (.a (.lit (.string (bP (eS (l.take k))))))),(3, .one (.a (.lit (.string digits)))),(0, .one (.a (.sl .u8 l)))],[]⟩) (fun k=>l.length-k) 0 (Nat.zero_le _) (Inv.of_eq rfl) ?_
 intro k hk
 refine aa (aa (bn X [] [] [9,5,4,3,0] [] rfl ⟨⟩ ?_))
 refine an rfl (fun hb=>au ?_) (fun hb=>aW ?_)
 ·have hk2:k<l.length:=by simpa using hb
  obtain⟨d1,d2,d3,d4⟩:=arx (l.getD k 0)
  have hsn:eS (l.take (k+1))=eS (l.take k)++ [kJ ((l.getD k 0).toNat/16),kJ ((l.getD k 0).toNat % 16)]:=by rw[cB l k 0 hk2,TX]
  have ht:(eS (l.take k)).length≤2097152:=by rw[Lib.Hx.encode_length,List.length_take];omega
  have e1:bP (eS (l.take k))++digits.extract (lo1 ((l.getD k 0).toNat:Int)).toNat (up1 ((l.getD k 0).toNat:Int)).toNat=bP (eS (l.take k)++ [kJ ((l.getD k 0).toNat/16)]):=by rw[d3];exact rB _ _
  have e2:(bP (eS (l.take k))++digits.extract (lo1 ((l.getD k 0).toNat:Int)).toNat (up1 ((l.getD k 0).toNat:Int)).toNat)++digits.extract (lo2 ((l.getD k 0).toNat:Int)).toNat (up2 ((l.getD k 0).toNat:Int)).toNat=bP (eS (l.take (k+1))):=by
   rw[e1,d4,hsn];exact(rB _ _).trans (congrArg bP (by simp))
  have s1:(((bP (eS (l.take k))).size+(digits.extract (lo1 ((l.getD k 0).toNat:Int)).toNat (up1 ((l.getD k 0).toNat:Int)).toNat).size:Nat):Int)≤af.max:=by
   rw[d3,dR,dR,jV,fY];omega
  have s2:(((bP (eS (l.take k))++digits.extract (lo1 ((l.getD k 0).toNat:Int)).toNat (up1 ((l.getD k 0).toNat:Int)).toNat).size+(digits.extract (lo2 ((l.getD k 0).toNat:Int)).toNat (up2 ((l.getD k 0).toNat:Int)).toNat).size:Nat):Int)≤af.max:=by
   rw[e1,d4,dR,dR,jV,bf,fY,fY];omega
  refine aa (aB (aQ X [] [] [5,4,3,0] [] 1073741823 0 MO (by kernel_rfl) rfl (by kernel_rfl) ⟨s2,d2,by omega,by omega,s1,d1,by decide,by omega,by decide,by omega,⟨⟩⟩ ?_))
  refine gA X [5,4,3,0] rfl ⟨⟩ ?_
  refine⟨k+1,hk2,by omega,Inv.of_eq ?_⟩
  rw[bZ _ k rfl (by omega), ←e2]
  try rfl
 ·have hk2:l.take k=l:=List.take_of_length_le (by simpa using hb)
  refine aa (aa (bn X [] [] [43,4] [] rfl ⟨⟩ ?_))
  refine an rfl (fun cS=> ?_) (fun cS=>au ?_)
  ·refine aa (bn X [] [] [2] [] rfl ⟨⟩ ?_)
   refine aq ?_
   exact aj rfl ⟨by rw[rS,if_pos (show((l.length:Int)==0)=true from cS)],⟨⟩⟩
  ·refine aa (bn X [] [] [2] [] rfl ⟨⟩ ?_)
   refine aq ?_
   exact aj rfl ⟨by rw[hk2,rS,if_neg (by rw[show((l.length:Int)==0)=false from cS];decide)],⟨⟩⟩
end
end Go.Proofs.YtaalpcnbbldlaaaGreatDoor.G
