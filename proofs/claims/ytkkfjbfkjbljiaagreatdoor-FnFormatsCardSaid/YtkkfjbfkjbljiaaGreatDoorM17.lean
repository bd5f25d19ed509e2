/-
  Contracts by the symbolic machine: a cell's text.
-/
import Derived.Test.YtkkfjbfkjbljiaaGreatDoorM11
import Derived.Test.YtkkfjbfkjbljiaaGreatDoorM14
namespace Go.Proofs.YtkkfjbfkjbljiaaGreatDoor.G
set_option linter.all false
open Go.RowKit L D Tryz
section
def digits:ByteArray:=⟨#[48,49,50,51,52,53,54,55,56,57,97,98,99,100,101,102]⟩
def RE(n:Int):Int:=n.fdiv (2^(min (4:Int).toNat IntKind.u8.bits))
def Sa(n:Int):Int:=IntKind.u8.wrap (RE n+1)
def U0(n:Int):Int:=IntKind.u8.wrap (BitVec.ofInt IntKind.u8.bits n&&&BitVec.ofInt IntKind.u8.bits 15).toNat
def V3(n:Int):Int:=IntKind.u8.wrap (U0 n+1)
theorem RG: ∀n:_root_.Fin 256,(0≤RE (n:Nat)∧RE (n:Nat)≤Sa (n:Nat)∧Sa (n:Nat)≤(digits.size:Int))∧(0≤U0 (n:Nat)∧U0 (n:Nat)≤V3 (n:Nat)∧V3 (n:Nat)≤(digits.size:Int))∧
  (digits.extract (RE (n:Nat)).toNat (Sa (n:Nat)).toNat).data.toList= [Lib.Hx.digit ((n:Nat)/16)]∧(digits.extract (U0 (n:Nat)).toNat (V3 (n:Nat)).toNat).data.toList= [Lib.Hx.digit ((n:Nat)% 16)]:=by
 decide+kernel
theorem KY{s:ByteArray}{l:List UInt8}(h:s.data.toList=l):s=bI l:=by
 subst h;rfl
theorem adI(x:UInt8):(0≤RE x.toNat∧RE x.toNat≤Sa x.toNat∧Sa x.toNat≤(digits.size:Int))∧(0≤U0 x.toNat∧U0 x.toNat≤V3 x.toNat∧V3 x.toNat≤(digits.size:Int))∧
  digits.extract (RE x.toNat).toNat (Sa x.toNat).toNat=bI [Lib.Hx.digit (x.toNat/16)]∧digits.extract (U0 x.toNat).toNat (V3 x.toNat).toNat=bI [Lib.Hx.digit (x.toNat % 16)]:=by
 obtain⟨h1,h2,h3,h4⟩:=RG ⟨x.toNat,x.toNat_lt⟩
 exact⟨h1,h2,KY h3,KY h4⟩
theorem Ho(l:List UInt8)(x:UInt8):Lib.Hx.encode (l++ [x])=Lib.Hx.encode l++ [Lib.Hx.digit (x.toNat/16),Lib.Hx.digit (x.toNat % 16)]:=by
 simp[Lib.Hx.encode,List.flatMap_append]
def kP(l:List UInt8):ByteArray:=if((l.length:Int)==0)=true then⟨#[45]⟩else bI (Lib.Hx.encode l)
theorem abw(l:List UInt8)(hl:l.length≤1048576)(hne:l≠ []):So 36 [.a (.sl .u8 l)] [.a (.lit (.string (bI (Lib.Hx.encode l))))]:=by
 refine⟨call36,?_⟩
 rintro w us _ ha
 match us,ha with
 | [u],⟨h1,_⟩=>
   obtain⟨fp,h1⟩:=h1
   obtain⟨oa,cap,rfl,hc,hm,h3⟩:=(show Sl 1 Hz w u l fp from h1)
   rcases h3 with⟨rfl,_⟩| ⟨b,off,bn,rfl,hb,rfl,hE⟩
   ·exact absurd rfl hne
   ·refine(Tryz.hex_EncodeToString_bytes b off cap l w (fun i hi=> ?_) hb.lt (by omega)).mono ?_
    ·have hx:l[i]? =some l[i]:=List.getElem?_eq_getElem hi
     obtain⟨f,hf⟩:=fP hE.1 hx
     obtain⟨cs,q1,rfl,_⟩:=hE.2 i _ f hx hf
     have:=q1 0 _ rfl
     rw[Nat.add_zero,Nat.mul_one]at this
     exact this
    ·rintro e w' ⟨rfl,hb'⟩
     exact⟨_,[],rfl,hb',Own.nil _ _,⟨[],[],⟨rfl,rfl,rfl⟩,rfl,rfl⟩⟩
set_option maxRecDepth 100000
theorem wz(l:List UInt8)(hl:l.length≤1048576):So 13 [.a (.sl .u8 l)] [.a (.lit (.string (kP l)))]:=by
 refine aD X call13 func13 ntmps13 rfl rfl ?_
 intro w0
 refine aa (aH X [] [] [0] [] rfl ⟨⟩ ?_)
 refine aa (aa (aH X [] [] [5,0] [] rfl ⟨⟩ ?_))
 refine ak rfl (fun hb=> ?_) (fun hb=>ay ?_)
 ·refine aa (aH X [] [] [2] [] rfl ⟨⟩ ?_)
  refine aj ?_
  exact ah rfl ⟨by rw[kP,if_pos (show((l.length:Int)==0)=true from hb)],⟨⟩⟩
 have hb0:((l.length:Int)==0)=false:=hb
 have hne:l≠ []:=by rintro rfl;simp at hb0
 refine aa (aH X [] [(7,⟨false,[.a (.lit (.string (bI (Lib.Hx.encode l))))]⟩)] [2] [] rfl ⟨abw l hl hne,⟨⟩⟩ ?_)
 refine aj ?_
 exact ah rfl ⟨by rw[kP,if_neg (by rw[hb0];decide)],⟨⟩⟩
theorem wA(l:List UInt8)(hl:l.length≤1048576):So 24 [.a (.sl .u8 l)] [.a (.lit (.string (kP l)))]:=by
 refine aD X call24 func24 ntmps24 rfl rfl ?_
 intro w0
 refine aa (aH X [] [] [0] [] rfl ⟨⟩ ?_)
 refine aa (aH X [] [] [3,0] [] rfl ⟨⟩ ?_)
 refine aa (aH X [] [] [4,3,0] [] rfl ⟨⟩ ?_)
 refine aa (aa (aH X [] [] [5,4,3,0] [] rfl ⟨⟩ ?_))
 refine aq ?_
 refine Ed (fun k=>k≤l.length) (fun k:Nat=>⟨45,[(5, .one (.a (.lit (.int .i64 k)))),(4, .one (.a (.lit (.string (bI (Lib.Hx.encode (l.take k))))))),(3, .one (.a (.lit (.string digits)))),(0, .one (.a (.sl .u8 l)))],[]⟩) (fun k=>l.length-k) 0 (Nat.zero_le _) (Inv.of_eq rfl) ?_
 intro k hk
 refine aa (aa (aH X [] [] [9,5,4,3,0] [] rfl ⟨⟩ ?_))
 refine ak rfl (fun hb=>ay ?_) (fun hb=>aV ?_)
 ·have hk2:k<l.length:=by simpa using hb
  obtain⟨d1,d2,d3,d4⟩:=adI (l.getD k 0)
  have hsn:Lib.Hx.encode (l.take (k+1))=Lib.Hx.encode (l.take k)++ [Lib.Hx.digit ((l.getD k 0).toNat/16),Lib.Hx.digit ((l.getD k 0).toNat % 16)]:=by rw[bE l k 0 hk2,Ho]
  have ht:(Lib.Hx.encode (l.take k)).length≤2097152:=by rw[Lib.Hx.encode_length,List.length_take];omega
  have e1:bI (Lib.Hx.encode (l.take k))++digits.extract (RE ((l.getD k 0).toNat:Int)).toNat (Sa ((l.getD k 0).toNat:Int)).toNat=bI (Lib.Hx.encode (l.take k)++ [Lib.Hx.digit ((l.getD k 0).toNat/16)]):=by rw[d3];exact jJ _ _
  have e2:(bI (Lib.Hx.encode (l.take k))++digits.extract (RE ((l.getD k 0).toNat:Int)).toNat (Sa ((l.getD k 0).toNat:Int)).toNat)++digits.extract (U0 ((l.getD k 0).toNat:Int)).toNat (V3 ((l.getD k 0).toNat:Int)).toNat=bI (Lib.Hx.encode (l.take (k+1))):=by
   rw[e1,d4,hsn];exact(jJ _ _).trans (congrArg bI (by simp))
  have s1:(((bI (Lib.Hx.encode (l.take k))).size+(digits.extract (RE ((l.getD k 0).toNat:Int)).toNat (Sa ((l.getD k 0).toNat:Int)).toNat).size:Nat):Int)≤IntKind.i64.max:=by
   rw[d3,dA,dA,cM,List.length_singleton];omega
  have s2:(((bI (Lib.Hx.encode (l.take k))++digits.extract (RE ((l.getD k 0).toNat:Int)).toNat (Sa ((l.getD k 0).toNat:Int)).toNat).size+(digits.extract (U0 ((l.getD k 0).toNat:Int)).toNat (V3 ((l.getD k 0).toNat:Int)).toNat).size:Nat):Int)≤IntKind.i64.max:=by
   rw[e1,d4,dA,dA,cM,List.length_append,List.length_singleton,List.length_singleton];omega
  refine aa (aq (ct X [] [] [5,4,3,0] [] 30 MO (by kernel_rfl) rfl ⟨s2,d2,by omega,by omega,s1,d1,by decide,by omega,by decide,by omega,⟨⟩⟩ ?_))
  refine fK X [5,4,3,0] rfl ⟨⟩ ?_
  refine⟨k+1,hk2,by omega,Inv.of_eq ?_⟩
  rw[cw _ k rfl (by omega), ←e2]
  try rfl
 ·have hk2:l.take k=l:=List.take_of_length_le (by simpa using hb)
  refine aa (aa (aH X [] [] [43,4] [] rfl ⟨⟩ ?_))
  refine ak rfl (fun bY=> ?_) (fun bY=>ay ?_)
  ·refine aa (aH X [] [] [2] [] rfl ⟨⟩ ?_)
   refine aj ?_
   exact ah rfl ⟨by rw[kP,if_pos (show((l.length:Int)==0)=true from bY)],⟨⟩⟩
  ·refine aa (aH X [] [] [2] [] rfl ⟨⟩ ?_)
   refine aj ?_
   exact ah rfl ⟨by rw[hk2,kP,if_neg (by rw[show((l.length:Int)==0)=false from bY];decide)],⟨⟩⟩
end
end Go.Proofs.YtkkfjbfkjbljiaaGreatDoor.G
