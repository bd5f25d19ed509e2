/-
  What a device reads. No program in sight.
-/
import Derived.Test.YtjcojocjlglglaaGreatZReadPhaseM8
namespace Go.Proofs.YtjcojocjlglglaaGreat.G
set_option linter.all false
open Go.RowKit L D
theorem E7(x:UInt8):IntKind.i64.wrap (x.toNat:Int)=x.toNat:=bZ (by have:=x.toNat_lt;omega)
def Ih(key c:Int)(cell:List UInt8):Int:=((wN key c cell).getD 0 (au .u8)).toNat
def wP(key c:Int)(cell:List UInt8):Nat:=((wN key c cell).getD 1 (au .u8)).toNat
def Kk(key c:Int)(cell:List UInt8):List UInt8:=((wN key c cell).take (2+wP key c cell)).drop 2
theorem LQ(key c:Int)(cell:List UInt8):wP key c cell<256:=((wN key c cell).getD 1 (au .u8)).toNat_lt
theorem HS(key c:Int)(cell:List UInt8):decr (gG key c) ((cell.take (20:Int).toNat).drop (0:Int).toNat)=wN key c cell:=by unfold wN;simp
theorem CP(key c:Int)(cell:List UInt8):((wN key c cell).take (IntKind.i64.wrap (2+IntKind.i64.wrap (((wN key c cell).getD (Int.toNat 1) (au .u8)).toNat:Int))).toNat).drop (Int.toNat 2)=Kk key c cell:=by
 have h:=LQ key c cell
 rw[E7,bZ (by show _∧2+(wP key c cell:Int)≤_;show _≤2+(wP key c cell:Int)∧_;omega)]
 show((wN key c cell).take (2+(wP key c cell:Int)).toNat).drop 2=_
 rw[show(2+(wP key c cell:Int)).toNat=2+wP key c cell by omega];rfl
theorem Kl{key c:Int}{cell:List UInt8}(h:14<wP key c cell):hJ key c cell=false:=by
 have:Ki key c cell=false:=by
  simp only[Ki,Bool.and_eq_false_iff,decide_eq_false_iff_not]
  right
  show¬((wP key c cell:Int)≤14)
  omega
 rw[hJ,this,Bool.and_false]
theorem CQ{key c:Int}{cell:List UInt8}(h:BJ key c cell=false):hJ key c cell=false:=by rw[hJ,h];rfl
theorem zP{key c:Int}{cell:List UInt8}(hA:BJ key c cell=true)(h:wP key c cell≤14):(Kk key c cell).length=wP key c cell:=by
 have:=(zO hA).1
 unfold Kk
 rw[List.length_drop,List.length_take];omega
theorem Nw{key c:Int}{cell:List UInt8}(hA:BJ key c cell=true)(h:wP key c cell≤14):gk ⟨Ih key c cell,Kk key c cell⟩=hJ key c cell:=by
 have hl:=zP hA h
 rw[hJ,hA,Bool.true_and,gk,Ki]
 show(inr (Ih key c cell) 0 3&&decide (((Kk key c cell).length:Int)≤14))=(inr (Ih key c cell) 0 3&&decide ((wP key c cell:Int)≤14))
 rw[hl]
theorem ue{key c:Int}{cell:List UInt8}(h:hJ key c cell=true):BK key c cell=⟨Ih key c cell,Kk key c cell⟩:=by rw[BK,if_pos h];rfl
theorem Nx{key c:Int}{cell:List UInt8}(hA:BJ key c cell=true)(h:wP key c cell≤14)(hk:Ih key c cell≤3):hJ key c cell=true:=by
 rw[hJ,hA,Bool.true_and,Ki]
 simp only[Bool.and_eq_true,an,decide_eq_true_eq]
 exact⟨⟨by omega,hk⟩,by show(wP key c cell:Int)≤14;omega⟩
theorem LR{key c:Int}{cell:List UInt8}(h:3<Ih key c cell):hJ key c cell=false:=by
 have:Ki key c cell=false:=by
  simp only[Ki,Bool.and_eq_false_iff]
  left
  rw[av]
  show¬(0≤Ih key c cell∧Ih key c cell≤3)
  omega
 rw[hJ,this,Bool.and_false]
theorem LS(a b k:Nat)(h:a<2^k):a||| (b*2^k)=a+b*2^k:=by
 have:=Nat.two_pow_add_eq_or_of_lt h b
 rw[Nat.mul_comm b,Nat.or_comm, ←this,Nat.add_comm]
theorem LU{a:Nat}{b k:Nat}(ha:a<2^k)(hb:b<256)(hk:k=8∨k=16∨k=24):IntKind.i64.wrap (BitVec.ofInt IntKind.i64.bits (a:Int)|||BitVec.ofInt IntKind.i64.bits (IntKind.i64.wrap ((b:Int)*2^k))).toNat=((a+b*2^k:Nat):Int):=by
 have hp:b*2^k<2^32:=by
  rcases hk with rfl|rfl|rfl<;>omega
 have RM:a<2^24:=by
  rcases hk with rfl|rfl|rfl<;>omega
 have e:((b:Int)*2^k)=((b*2^k:Nat):Int):=by push_cast;rfl
 rw[e,bZ (a:=((b*2^k:Nat):Int)) (by omega),BitVec.ofInt_natCast,BitVec.ofInt_natCast,BitVec.toNat_or,BitVec.toNat_ofNat,BitVec.toNat_ofNat]
 show IntKind.i64.wrap (((a % 2^64|||b*2^k % 2^64:Nat)):Int)=_
 rw[Nat.mod_eq_of_lt (by omega),Nat.mod_eq_of_lt (by omega),LS a b k ha,bZ (by omega)]
def LV(cell:List UInt8):Int:=((cell.getD 20 (au .u8)).toNat:Int)+256*(cell.getD 21 (au .u8)).toNat+65536*(cell.getD 22 (au .u8)).toNat+16777216*(cell.getD 23 (au .u8)).toNat
theorem JK(cell:List UInt8):IntKind.i64.wrap (BitVec.ofInt IntKind.i64.bits (IntKind.i64.wrap (BitVec.ofInt IntKind.i64.bits (IntKind.i64.wrap (BitVec.ofInt IntKind.i64.bits (IntKind.i64.wrap ((cell.getD (Int.toNat 20) (au .u8)).toNat:Int))|||BitVec.ofInt IntKind.i64.bits (IntKind.i64.wrap (IntKind.i64.wrap ((cell.getD (Int.toNat 21) (au .u8)).toNat:Int)*2^(min (Int.toNat 8) IntKind.i64.bits)))).toNat)|||BitVec.ofInt IntKind.i64.bits (IntKind.i64.wrap (IntKind.i64.wrap ((cell.getD (Int.toNat 22) (au .u8)).toNat:Int)*2^(min (Int.toNat 16) IntKind.i64.bits)))).toNat)|||BitVec.ofInt IntKind.i64.bits (IntKind.i64.wrap (IntKind.i64.wrap ((cell.getD (Int.toNat 23) (au .u8)).toNat:Int)*2^(min (Int.toNat 24) IntKind.i64.bits)))).toNat=LV cell:=by
 have h0:=(cell.getD 20 (au .u8)).toNat_lt
 have h1:=(cell.getD 21 (au .u8)).toNat_lt
 have h2:=(cell.getD 22 (au .u8)).toNat_lt
 have h3:=(cell.getD 23 (au .u8)).toNat_lt
 rw[E7,E7,E7,E7]
 show IntKind.i64.wrap (BitVec.ofInt IntKind.i64.bits (IntKind.i64.wrap (BitVec.ofInt IntKind.i64.bits (IntKind.i64.wrap (BitVec.ofInt IntKind.i64.bits (((cell.getD 20 (au .u8)).toNat:Nat):Int)|||BitVec.ofInt IntKind.i64.bits (IntKind.i64.wrap ((((cell.getD 21 (au .u8)).toNat:Nat):Int)*2^8))).toNat)|||BitVec.ofInt IntKind.i64.bits (IntKind.i64.wrap ((((cell.getD 22 (au .u8)).toNat:Nat):Int)*2^16))).toNat)|||BitVec.ofInt IntKind.i64.bits (IntKind.i64.wrap ((((cell.getD 23 (au .u8)).toNat:Nat):Int)*2^24))).toNat=_
 rw[LU (k:=8) h0 h1 (by omega),LU (k:=16) (by omega) h2 (by omega),LU (k:=24) (by omega) h3 (by omega)]
 unfold LV
 omega
theorem LW{cell:List UInt8}(h:cell.length=24):cell.drop 20= [cell.getD 20 (au .u8),cell.getD 21 (au .u8),cell.getD 22 (au .u8),cell.getD 23 (au .u8)]:=by
 rw[iP cell 20 (au .u8) (by omega),iP cell 21 (au .u8) (by omega),iP cell 22 (au .u8) (by omega),iP cell 23 (au .u8) (by omega),List.drop_of_length_le (by omega)]
theorem JL{key c:Int}{cell:List UInt8}(h1:gm key=true)(h2:inr c 0 1000000000000=true)(h3:cell.length=24):BJ key c cell=decide (LV cell=eV key c (cell.take 20)):=by
 have hr:=dm key (71::c::(cell.take 20).map (fun x=>(x.toNat:Int)))
 have Fe:0≤eV key c (cell.take 20)∧eV key c (cell.take 20)<2147483647:=hr
 rw[BJ,h1,h2,show decide ((cell.length:Int)=24)=true by rw[decide_eq_true_eq];omega,Bool.true_and,Bool.true_and,Bool.true_and,LW h3,HL _ _ _ _ _ Fe.1 (by omega)]
 rfl
def Km(key c:Int)(cell:List UInt8):Bool:=gm key&&inr c 0 1000000000000&&decide ((cell.length:Int)=24)
theorem LX{key c:Int}{cell:List UInt8}(h:Km key c cell=false):hJ key c cell=false:=by
 apply CQ
 unfold Km at h
 rw[BJ,h];rfl
theorem Ny{key c:Int}{cell:List UInt8}(h:Km key c cell=true):gm key=true∧inr c 0 1000000000000=true∧cell.length=24:=by
 simp only[Km,Bool.and_eq_true,decide_eq_true_eq]at h
 exact⟨h.1.1,h.1.2,by omega⟩
theorem HT(l:List UInt8):l.set (Int.toNat 0) (UInt8.ofNat (IntKind.u8.wrap ((BitVec.ofInt IntKind.u8.bits (((l.getD (Int.toNat 0) (au .u8)).toNat:Nat):Int)^^^BitVec.ofInt IntKind.u8.bits 128).toNat:Int)).toNat)=wF l:=by
 have:=Jw (l.getD (Int.toNat 0) (au .u8)) 128
 rw[show(((128:UInt8).toNat:Nat):Int)=128 from rfl]at this
 rw[this];rfl
theorem DX{d:DB}{v:List Int}(h:(dY d v).length=0):ga d v=false:=by rw[ga,h];rfl
theorem Bt{d:DB}{v:List Int}(h: ¬(dY d v).length=0):ga d v=true:=by
 rw[ga,Bool.not_eq_true']
 exact beq_eq_false_iff_ne.2 h
theorem HU{key sv r:Int}{d:DB}{v:List Int}(h:ga d v=false):dA key sv r d v=O5:=by rw[dA,h];rfl
theorem uf{key sv r:Int}{d:DB}{v:List Int}(h:ga d v=true):dA key sv r d v=Nv key sv r v (dY d v):=by rw[dA,if_pos h]
theorem ug{d:DB}{v:List Int}(h:ga d v=true):(dY d v).length=24:=by
 rcases qD d v with h1|h1
 ·exact h1
 ·rw[ga,h1]at h;cases h
theorem HV{s:bO}{key r:Int}{d:DB}{v:List Int}(h:(ga d v&&(s.behavior==3))=false):E3 s key r d v=dA key s.id r d v:=by
 unfold E3 dA
 cases hk:ga d v with
 |false=>rfl
 |true=>
  rw[hk,Bool.true_and,beq_eq_false_iff_ne]at h
  rw[if_pos rfl,if_pos rfl,if_neg h]
theorem DY{s:bO}{key r:Int}{d:DB}{v:List Int}(h:(ga d v&&(s.behavior==3))=true):ga d v=true∧E3 s key r d v=Nv key s.id r v (wF (dY d v)):=by
 rw[Bool.and_eq_true,beq_iff_eq]at h
 exact⟨h.1,by rw[E3,if_pos h.1,if_pos h.2]⟩
theorem DZ(b:List UInt8):(wF b).length=b.length:=by unfold wF;rw[List.length_set]
theorem D0{l:List (List UInt8)}(h:dJ l=true):DR l=nP l:=by rw[DR,if_pos h]
theorem uh{l:List (List UInt8)}(h:dJ l=false):DR l= []:=by rw[DR,h];rfl
theorem Bu{l:List (List UInt8)}(h:dJ l=true): ∀a,a∈l→a.length≤1048576:=by
 intro a ha
 simp only[dJ,Bool.and_eq_true,List.all_eq_true,decide_eq_true_eq]at h
 have:=h.2 a ha
 omega
theorem JM{l:List (List UInt8)}{k:Nat}(hk:k<l.length)(h: ¬(l.getD k (au (.sl .u8))).length=24):dJ l=false:=by
 have h2:(l.all fun a=>decide ((a.length:Int)=24))=false:=CD _ _ (au (.sl .u8)) k hk (by rw[decide_eq_false_iff_not];omega)
 rw[dJ,h2,Bool.and_false]
theorem HW(rows i:Int)(sd:List Int): ∀v,v∈jg rows i sd→v.length≤64:=by
 intro v hv
 unfold jg at hv
 split at hv
 ·rcases List.mem_append.1 hv with h|h
  ·obtain⟨s,_,rfl⟩:=List.mem_map.1 h
   exact gZ _ _
  ·rw[List.mem_singleton.1 h]
   exact rM rows i sd
 ·cases hv
theorem HX(rows i:Int)(sd:List Int):(jg rows i sd).length≤sd.length+1:=by
 unfold jg
 split
 ·rw[List.length_append,List.length_map];simp
 ·exact Nat.zero_le _
theorem D1{x:b7}(r row s:Int)(h:okW x=true):(query' x r row s).length≤x.aq.length:=by
 have h1:=HX x.rows row (dI x.aq.length r row s)
 have h2:=jh x.aq.length r row s
 have h3:=(zH h).2
 unfold query'
 omega
theorem HY(x:b7)(r row s:Int)(k:Nat):((query' x r row s).getD k (au (.sl .int))).length≤64:=by
 rw[List.getD_eq_getElem?_getD]
 cases hq:(query' x r row s)[k]? with
 |none=>exact Nat.zero_le _
 |some v=>exact HW _ _ _ v (List.mem_of_getElem? hq)
theorem zQ{x:b7}{r row s:Int}(h:hU x.aA.rounds r=false):uc x r row s= []∧n8 x r row s=false:=⟨by rw[uc,h];rfl,by rw[n8,h];rfl⟩
theorem D2{x:b7}{r row s:Int}(h:hU x.aA.rounds r=true):uc x r row s=DR (s7 x r row s)∧n8 x r row s=dJ (s7 x r row s):=⟨by rw[uc,if_pos h],by rw[n8,h,Bool.true_and]⟩
theorem zR{x:b7}(h:okW x=true):x.aA.rounds.length≤8∧ ∀y,y∈x.aA.rounds→bY List.length y.db.rows≤1048576:=by
 have ha:=vY h
 simp only[Hy,Bool.and_eq_true]at ha
 have ha:kq x.aA=true:=ha.1.1.1.1.1.2
 simp only[kq,DI,Bool.and_eq_true,List.all_eq_true,List.mem_range,decide_eq_true_eq]at ha
 refine⟨by omega,fun y hy=> ?_⟩
 obtain⟨i,hi,rfl⟩:=List.mem_iff_getElem.1 hy
 have h2:=ha.2 i hi
 have e:x.aA.rounds.getD i (au .az)=x.aA.rounds[i]:=by rw[List.getD_eq_getElem?_getD,List.getElem?_eq_getElem hi];rfl
 simp only[qo,e,Bool.and_eq_true]at h2
 exact HE h2.1.2
end Go.Proofs.YtjcojocjlglglaaGreat.G
namespace Go.Proofs.YtjcojocjlglglaaGreat.G
set_option linter.all false
open Go.RowKit L D
theorem qH(c:dL):gn c.key (IntKind.i64.wrap (1-bu c))=wH c:=by
 unfold wH
 rw[bZ (by unfold bu;split<;>omega)]
theorem Bw{c:dL}{r:Int}{own other:List UInt8}(h:mY c r=false):hY c r own other=c:=by rw[hY,h];rfl
theorem HZ{c:dL}{r:Int}(h:mY c r=true):eT c=true∧c.next≤r∧r≤99999∧0≤c.next:=by
 simp only[mY,Bool.and_eq_true,an]at h
 have:=(nG h.1).2.2.2.2.2.2.1
 exact⟨h.1,h.2.1,h.2.2,this⟩
theorem D4{d:aO}{r:Int}{own other:List UInt8}(h:lP d r=false):rdev d r own other=d:=by rw[rdev,h];rfl
theorem D5{d:aO}{r:Int}{own other:List UInt8}(h:lP d r=true)(hn:n9 (ia d r own other)=true):rdev d r own other=D3 (ia d r own other):=by
 have hk:dX (ia d r own other)=true:=by
  simp only[n9,Bool.and_eq_true]at hn;exact hn.1
 rw[rdev,if_pos h,if_pos hn,D3,if_pos hk];rfl
theorem D6{d:aO}{r:Int}{own other:List UInt8}(h:lP d r=true)(hn:n9 (ia d r own other)=false):rdev d r own other=ia d r own other:=by
 rw[rdev,if_pos h,hn];rfl
theorem Bx{d:aO}{r:Int}{own other:List UInt8}(h:lP d r=true):aN (ia d r own other)≤1048576:=by
 simp only[lP,Bool.and_eq_true]at h
 have hd:=h.2
 simp only[dX,Bool.and_eq_true]at hd
 have hb:Bv (ia d r own other):=⟨uk (uj hd.1.1.1.1.1) _ _ _,uj hd.1.1.1.1.2⟩
 have:=so hb
 omega
theorem L1{x:b7}(h:okW x=true){k:Nat}(hk:k<x.ah.length)(l:List Int):aN (Br x (x.ah.getD k (au .aO)) l)≤1048576:=by
 have:=so (CS x (x.ah.getD k (au .aO)) l _ (Kn h _ (getD_in (au .aO) hk)))
 unfold Br;omega
theorem H6{x:b7}(h:okW x=true){k:Nat}(hk:k<x.ah.length)(i:Nat):aN ((eZ x k i).getD k (au .aO))≤1048576:=by
 rw[ud x k i hk];exact L1 h hk _
theorem H7(x:b7)(k i:Nat)(hk:k<x.ah.length):yw ((eZ x k i).getD k (au .aO)).live (x.ah.getD k (au .aO)).live:=by
 rw[ud x k i hk]
 exact yx x _ _ _ ⟨rfl,rfl,rfl,rfl⟩
theorem H8(x:b7)(k i:Nat)(h:k<x.ah.length)(hi:i<(ey x (x.ah.getD k (au .aO))).length):
  (eZ x k i).set k (rdev ((eZ x k i).getD k (au .aO)) ((ey x (x.ah.getD k (au .aO))).getD i (au .int))
   (uc x ((ey x (x.ah.getD k (au .aO))).getD i (au .int)) (cW ((eZ x k i).getD k (au .aO)).live.key ((ey x (x.ah.getD k (au .aO))).getD i (au .int)) (bu ((eZ x k i).getD k (au .aO)).live) x.rows) ((eZ x k i).getD k (au .aO)).live.seed)
   (uc x ((ey x (x.ah.getD k (au .aO))).getD i (au .int)) (cW ((eZ x k i).getD k (au .aO)).live.key ((ey x (x.ah.getD k (au .aO))).getD i (au .int)) (1-bu ((eZ x k i).getD k (au .aO)).live) x.rows) ((eZ x k i).getD k (au .aO)).live.seed))=eZ x k (i+1):=by
 have hs:=H7 x k i h
 rw[CN hs,hs.2.2.1,hs.2.2.2]
 exact Bs x k i h hi
theorem H9{x:b7}(h:okW x=false):wO x=x:=by rw[wO,h];rfl
theorem D7{x:b7}(h:okW x=true):wO x=⟨x.rows,x.aq,x.ah.map (oc x),x.aA,x.cU,x.seed,x.round,x.replaced,x.cancelled⟩:=by rw[wO,if_pos h]
theorem Ia(c:dL):IntKind.i64.wrap (1-bu c)=1-bu c:=bZ (by unfold bu;split<;>omega)
end Go.Proofs.YtjcojocjlglglaaGreat.G
