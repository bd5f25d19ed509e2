/- Steps. -/
import Derived.Sort.Grow
import Derived.Test.YtaalpcnbbldlaaaGreatDoorR16
open ByteArray renaming size_append→eK
open Go.IntKind renaming i64→af,u8→cJ
open Go.Lib renaming TabIs→QY,decDigits→gH,itoa→bN,join→qT,join_nil→Em
open Int renaming natAbs_tdiv→Eo,natAbs_tmod→Q3
open List renaming append_assoc→bU,getD_eq_getElem?_getD→aq,getElem?_eq_getElem→az,length→aN,length_append→aQ,length_cons→bp,length_map→bt,length_nil→dh,nil_append→eM,take_zero→jv
open Nat renaming le_refl→aS,mod_lt→iN
open UInt8 renaming ofNat→cN
namespace Go.Proofs.YtaalpcnbbldlaaaGreatDoor.G
set_option linter.all false
open Go.RowKit L D Tryz
section
variable{x n:Int}
theorem atH{w:World}(h:Nc w):QY Tryz.prog w "internal/strconv.uint64pow10" .u64 Lib.pow10Tab:=by
 obtain⟨e,k,h⟩:=h.tab;unfold QY World.var?;rw[show Tryz.prog.globalNamed "internal/strconv.uint64pow10" =some 5 by kernel_rfl];simp only[Option.bind_some,h]
theorem aaa(w:World)(k:Nat)(os:Array Go.Obj):Below w.heap.size w (Sort.grow (w.drewN k) os):=by
 refine⟨rfl,rfl,rfl,?_,fun j hj=> ?_⟩
 ·show w.heap.size≤(w.heap++os).size
  rw[Array.size_append];omega
 ·show(w.heap++os)[j]? =w.heap[j]?
  rw[Array.getElem?_append_left hj]
theorem Q2(n:Int)(h: -9223372036854775808≤n∧n≤9223372036854775807):So 115 [.a (.lit (.int .i64 n))] [.a (.lit (.string (bG (bN n))))]:=by
 refine⟨call115,?_⟩;intro w us hA ha;match us,ha with
 | [u],⟨h1,_⟩=>
   obtain⟨_,rfl,_,_⟩:=h1;refine(Tryz.strconv_Itoa n h.1 h.2 w (atH hA)).mono ?_;rintro e w' ⟨rfl,k,os,rfl⟩;exact⟨_,[],rfl,aaa w k os,Own.nil _ _,⟨[],[],⟨rfl,rfl,rfl⟩,rfl,rfl⟩⟩
def dd(x:Int):List UInt8:=if x=0 then []else gH x.natAbs
theorem Wv(hx:x≠0):dd x=dd (x.tdiv 10)++ [cN (48+x.natAbs % 10)]:=by
 have e:(x.tdiv 10).natAbs=x.natAbs/10:=by rw[Eo];rfl
 have h0:x.tdiv 10=0↔x.natAbs<10:=by
  rw[←Int.natAbs_eq_zero,e];omega
 unfold dd;rw[if_neg hx];by_cases hs:x.natAbs<10
 ·rw[if_pos (h0.2 hs),gH,dif_pos hs,eM,Nat.mod_eq_of_lt hs]
 ·rw[if_neg (fun h=>hs (h0.1 h)),e,gH,dif_neg hs]
theorem ac1: ∀(n:Nat) (x:Int),x.natAbs≤n→x.natAbs<10^20→(dd x).length≤20:=by
 intro n x _ hx;have key: ∀(k u:Nat),u<10^(k+1)→(gH u).length≤k+1:=by
  intro k;induction k with
  |zero=>intro u hu;rw[gH,dif_pos aJ];simp
  |succ k ih=>
   intro u hu;rw[gH];split
   ·simp
   ·rw[aQ];have:=ih (u/10) (by rw[Nat.pow_succ]at hu;omega);simp only[bp,dh];omega
 unfold dd;split
 ·simp
 ·exact key 19 _ hx
theorem Oq(h:n≠0):bN n=(if n<0 then [45]else [])++dd n:=by
 unfold bN dd;rw[if_neg h];split
 ·rfl
 ·rw[eM];congr 1;omega
theorem LW:bN 0= [48]:=by
 unfold bN;rw[if_neg cO,gH,dif_pos cO];rfl
theorem anZ(h: -9223372036854775808≤n∧n≤9223372036854775807):(bN n).length≤21:=by
 by_cases h0:n=0
 ·subst h0;rw[LW];decide
 ·rw[Oq h0,aQ];have:=ac1 n.natAbs n (aS _) aJ;split<;>simp<;>omega
theorem aiS(h: -9223372036854775808≤x∧x≤9223372036854775807)(hd: ¬x.tmod 10<0):cN (cJ.wrap (af.wrap (48+x.tmod 10))).toNat=cN (48+x.natAbs % 10):=by
 have h1:(x.tmod 10).natAbs=x.natAbs % 10:=by rw[Q3];rfl
 have hb:x.tmod 10=((x.natAbs % 10:Nat):Int):=by omega
 have hlt:x.natAbs % 10<10:=iN _ cO;rw[hb,cY aJ];rw[KW];congr 1;omega
theorem aiT(h: -9223372036854775808≤x∧x≤9223372036854775807)(hd:x.tmod 10<0):cN (cJ.wrap (af.wrap (48+af.wrap (0-x.tmod 10)))).toNat=cN (48+x.natAbs % 10):=by
 have h1:(x.tmod 10).natAbs=x.natAbs % 10:=by rw[Q3];rfl
 have hb:0-x.tmod 10=((x.natAbs % 10:Nat):Int):=by omega
 have hlt:x.natAbs % 10<10:=iN _ cO;rw[hb,cY (a:=((x.natAbs % 10:Nat):Int)) aJ,cY aJ];rw[KW];congr 1;omega
theorem aj6(a b:List UInt8)(h:a.length+b.length≤1099511627776):(((bG a).size+(bG b).size:Nat):Int)≤af.max:=by
 rw[cZ,cZ,BR];omega
theorem adN(c:UInt8):(⟨#[c]⟩:ByteArray).size=1:=rfl
theorem dO(h: -9223372036854775808≤n∧n≤9223372036854775807):(bG (bN n)).size≤21:=anZ h
def Q4(x:kf):ByteArray:=bG (bN x.id)++bG [62]++bG (bN x.gJ)++bG [32]++bG (bN x.sent)++bG [47]++bG (bN x.aT.length)++bG [32]++bG (bN x.inbox.length)++bG [64]++bG (bN x.next)
def names:List (List UInt8):= [[104,111,110,101,115,116],[100,114,111,112,115],[97,108,116,101,114,115],[108,105,101,115]]
theorem Ww(k:Nat):(bG (names.getD k [])).size≤6:=by
 rw[cZ];match k with
 |0=>decide
 |1=>decide
 |2=>decide
 |3=>decide
 |n+4=>exact Nat.zero_le _
def LX(b:Int):ByteArray:=if inr b 0 3=true then bG (names.getD b.toNat [])else bG [63]
def Hy(x:cH):ByteArray:=bG (bN x.id)++bG [32]++bG (bN x.round)++bG [32]++LX x.behavior
end
section
set_option maxRecDepth 100000
theorem cK(n:Int)(h: -9223372036854775808≤n∧n≤9223372036854775807):So 62 [aI n] [.a (.lit (.string (bG (bN n))))]:=by
 refine aZ call62 func62 ntmps62 ?_;intro zb;exact O [0] J (bq [(4,⟨false,[.a (.lit (.string (bG (bN n))))]⟩)] [2] J (eY (Q2 n h)) (au (aj J ⟨J,⟨⟩⟩)))
theorem bF(n:Int)(h: -9223372036854775808≤n∧n≤9223372036854775807):So 33 [aI n] [.a (.lit (.string (bG (bN n))))]:=by
 refine aZ call33 func33 ntmps33 ?_;intro zb;refine O [0] J (aR [0,7] J ?_);refine bD J ?_ ?_<;>intro hb0
 ·exact O [2] J (au (aj J ⟨by rw[show n=0 by omega,LW];rfl,⟨⟩⟩))
 ·refine av (O [0,3] J (aR [0,3,4] J ?_));refine aK (ef (fun k=>dd k.1++k.2=dd n∧k.1.natAbs≤n.natAbs∧ -9223372036854775808≤k.1∧k.1≤9223372036854775807) (fun k:(Int×List UInt8)=> [(3, .one (.a (.lit (.string (bG k.2))))),(4, .one ((aI k.1)))]) (fun k=> []) (fun k=>k.1.natAbs) (n,[]) (fun k=>rfl) ⟨by simp,aS _,h.1,h.2⟩ rfl ?_);rintro k ⟨hdd,hle,hl1,uI⟩;refine aR [0,3,4,10] J ?_;refine bD J ?_ ?_<;>intro cQ
  ·have hdl:=ac1 n.natAbs n (aS _) aJ;have IL:k.2.length≤20:=by have:=congrArg aN hdd;rw[aQ]at this;omega
   refine av (aA (aK (aL [0,3,4,5] J je (aR [0,3,4,5,16] J ?_))));refine bD J ?_ ?_<;>intro fu
   ·refine bI [0,3,4,5] J (iB X [0,3,4] J aB6 ?_);refine iB X [0,3,4] J je ?_;have hdg:=aiT ⟨hl1,uI⟩ aJ;have hst:=Wv cQ;have hqa:(k.1.tdiv 10).natAbs=k.1.natAbs/10:=by rw[Eo];rfl
    have hk0:0<k.1.natAbs:=by omega
    refine⟨(k.1.tdiv 10,[cN (48+k.1.natAbs % 10)]++k.2),⟨by rw[←bU, ←hst];exact hdd,aJ,aJ,aJ⟩,by show(k.1.tdiv 10).natAbs<k.1.natAbs;omega,?_⟩;rw[jf,hdg,cY (a:=k.1.tdiv 10) aJ]
   ·refine av (iB X [0,3,4] J aB6 ?_);refine iB X [0,3,4] J je ?_;have hdg:=aiS ⟨hl1,uI⟩ aJ;have hst:=Wv cQ;have hqa:(k.1.tdiv 10).natAbs=k.1.natAbs/10:=by rw[Eo];rfl
    have hk0:0<k.1.natAbs:=by omega
    refine⟨(k.1.tdiv 10,[cN (48+k.1.natAbs % 10)]++k.2),⟨by rw[←bU, ←hst];exact hdd,aJ,aJ,aJ⟩,by show(k.1.tdiv 10).natAbs<k.1.natAbs;omega,?_⟩;rw[jf,hdg,cY (a:=k.1.tdiv 10) aJ]
  ·have hdl:=ac1 n.natAbs n (aS _) aJ;have IL:k.2.length≤20:=by have:=congrArg aN hdd;rw[aQ]at this;omega
   refine bf (aR [3,27] J ?_);refine bD J ?_ ?_<;>intro n9
   ·exact aL [2] J (by(with_reducible and_intros)<;>first|exact⟨⟩|exact aj6 _ _ aBi) (au (aj J ⟨by rw[Oq hb0,if_pos n9, ←hdd,show k.1=0 by omega];exact congrArg Value.string (jf [45] k.2),⟨⟩⟩))
   ·exact av (O [2] J (au (aj J ⟨by rw[Oq hb0,if_neg aJ, ←hdd,show k.1=0 by omega];rfl,⟨⟩⟩)))
end
end Go.Proofs.YtaalpcnbbldlaaaGreatDoor.G
namespace Go.Proofs.YtaalpcnbbldlaaaGreatDoor.G
set_option linter.all false
open Go.RowKit L D
section
variable{k:Nat}(l:List (List UInt8))
theorem BH{α:Type}(f:α→List UInt8)(C:Nat): ∀(l:List α),(∀y,y∈l→(f y).length≤C)→gb aN (l.map f)≤(C+1)*l.length
 | [],_=>by simp[gb]
 |x::r,h=>by
  have h1:=BH f C r (fun y hy=>h y (List.mem_cons_of_mem _ hy));have h2:=h x (List.mem_cons_self ..);unfold gb at h1 ⊢;simp only[List.map_cons,bp,List.sum_cons,Nat.mul_add]at h1 ⊢;omega
theorem at_mem{α:Type}{P:α→Prop}{l:List α}(h: ∀y,y∈l→P y)(hk:k<l.length)(d:α):P (l.getD k d):=by
 rw[aq,az hk];exact h _ (List.getElem_mem hk)
theorem Q5{α β:Type}(f:α→β){l:List α}(hk:k<l.length)(d:α)(e:β):(l.map f).getD k e=f (l.getD k d):=by
 rw[aq,aq,List.getElem?_map,az hk];rfl
def Xk(c:UInt8):ByteArray:=if l.length=0 then bG [45]else bG (qT l [c])
def jn(c:UInt8)(k:Nat):ByteArray:=bG (qT (l.take k) [c])
theorem an0(c:UInt8)(k:Nat):(jn l c k).size≤gb aN l:=by
 have h1:=join_le (l.take k) c;have h2:=anL l k;show(bG (qT (l.take k) [c])).size≤_
 rw[cZ];omega
theorem Ot(c:UInt8)(h:k<l.length)(h0:0<k):jn l c (k+1)=jn l c k++bG [c]++bG (l.getD k []):=by
 unfold jn;rw[cD l k [] h,aiP,jf,jf];intro hn;have:=congrArg aN hn;rw[List.length_take,dh]at this;omega
theorem JQ(c:UInt8)(h:k<l.length)(h0: ¬0<k):jn l c (k+1)=jn l c k++bG (l.getD k []):=by
 obtain rfl:k=0:=by omega
 unfold jn;rw[cD l 0 [] h,jv,eM,Lib.join_one,Em,jf,eM]
theorem an1(c:UInt8)(h:l.length≤k)(h0:l.length≠0):jn l c k=Xk l c:=by
 unfold jn Xk;rw[List.take_of_length_le h,if_neg h0]
theorem Q6(b:ByteArray):bG b.data.toList=b:=rfl
def bz(b:List UInt8):Bool:=b.any fun c=>(c.toNat:Int) !=0
def so:List (List UInt8)→Nat
 | []=>0
 |b::l=>(if bz b then 1 else 0)+so l
theorem Ft: ∀l:List (List UInt8),so l≤l.length
 | []=>aS _
 |b::l=>by have:=Ft l;unfold so;rw[bp];split<;>omega
theorem aab: ∀(a b:List (List UInt8)),so (a++b)=so a+so b
 | [],b=>by simp[so]
 |x::a,b=>by rw[List.cons_append,so,so,aab a b];omega
theorem Ub(k:Nat)(d:List UInt8)(h:k<l.length):so (l.take (k+1))=so (l.take k)+if bz (l.getD k d)then 1 else 0:=by
 rw[cD l k d h,aab];rfl
theorem aac(k:Nat)(d:List UInt8)(h:k<l.length)(hb:bz (l.getD k d)=true):so (l.take (k+1))=so (l.take k)+1:=by
 rw[Ub l k d h,if_pos hb]
theorem Uc(k:Nat)(d:List UInt8)(h:k<l.length)(hb:bz (l.getD k d)=false):so (l.take (k+1))=so (l.take k):=by
 rw[Ub l k d h,hb];rfl
def wAR(r:bn):ByteArray:=bG (bN r.round)++bG [58]++bG (bN (so r.db.rows))
def Ko(r:bn):List UInt8:=(wAR r).data.toList
def mJ(n:Int):List UInt8:=bN n
end
variable(l:List Int){k:Nat}
theorem Wx{l:List Int}(h: ∀y,y∈l→vO y): ∀y,y∈l→(mJ y).length≤21:=fun y hy=>dO (h y hy)
theorem ac2{l:List bn}(h: ∀y,y∈l→SU y)(hz: ∀y,y∈l→y.db.rows.length≤1048576): ∀y,y∈l→(Ko y).length≤43:=by
 intro y hy;obtain⟨q1,_⟩:=h y hy;have z1:=dO q1;have h2:=Ft y.db.rows;have h3:=hz y hy;have z2:=dO (n:=(so y.db.rows:Int)) aJ;show(wAR y).size≤43
 unfold wAR;simp only[eK,cZ,bp,dh]at*;omega
def LY(a:tE):ByteArray:=Xk (a.rounds.map Ko) 32
theorem atI(n:Int):0<(bG (bN n)).size:=by
 rw[cZ];by_cases h:n=0
 ·subst h;rw[LW];decide
 ·rw[Oq h,aQ];have:0<(dd n).length:=by
   rw[Wv h,aQ];simp
  omega
theorem aEv(c:UInt8)(h:0<k)(hk:k≤l.length):0<(jn (l.map mJ) c k).size:=by
 obtain⟨j,rfl⟩: ∃j,k=j+1:=⟨k-1,aJ⟩;have hl:(l.map mJ).length=l.length:=bt ..;have h1:(l.map mJ).getD j []=mJ (l.getD j 0):=Q5 mJ aJ _ _;have h2:=atI (l.getD j 0);by_cases h0:0<j
 ·rw[Ot _ _ aJ h0,h1,eK];unfold mJ;omega
 ·rw[JQ _ _ aJ h0,h1,eK];unfold mJ;omega
theorem azq(c:UInt8)(h:l.length≤k)(hk:k≤l.length)(hn:jn (l.map mJ) c k≠bG []):jn (l.map mJ) c k=Xk (l.map mJ) c:=by
 rw[an1 _ _ Uy];intro h0;rw[bt]at h0;obtain rfl:k=0:=by omega
 exact hn (by unfold jn;rw[jv,Em])
theorem azr(c:UInt8)(h:l.length≤k)(hk:k≤l.length)(he:jn (l.map mJ) c k=bG []):Xk (l.map mJ) c=bG [45]:=by
 unfold Xk;rw[bt,if_pos];by_cases h0:l.length=0
 ·exact h0
 ·have h1:=aEv l c (k:=k) aJ hk;have:=congrArg ByteArray.size he;rw[cZ,dh]at this;omega
theorem aEw{b:ByteArray}(h:(b.toList==(⟨#[]⟩:ByteArray).toList)=true):b=bG []:=by
 have:=eq_of_beq h;rw[ByteArray.toList_eq,ByteArray.toList_eq]at this;exact congrArg (fun l=>bG l) this
theorem aEx{b:ByteArray}(h:(b.toList==(⟨#[]⟩:ByteArray).toList)=false):b≠bG []:=by
 intro e;subst e;rw[show(bG [])=(⟨#[]⟩:ByteArray)from rfl,beq_self_eq_true]at h;cases h
def yz(x:dF):ByteArray:=bG (bN x.round)++bG [32]++bG (bN x.cancelled)++bG [32]++Xk (x.replaced.map mJ) 44++bG [32]++bG (bN (qt x.ah x.ah.length))++bG [43]++bG (bN (CC x.ah x.ah.length))
theorem Wy(l:List (List UInt8))(c:UInt8):(Xk l c).size≤gb aN l+1:=by
 unfold Xk;split
 ·rw[cZ];simp
 ·rw[cZ];have:=join_le l c;omega
end Go.Proofs.YtaalpcnbbldlaaaGreatDoor.G
