/-
  Messages that wait, messages not read yet; words of an archive and of a world.
-/
import Derived.Sort.Grow
import Derived.Test.YtaalpcnbbldlaaaGreatDoorR15
namespace Go.Proofs.YtaalpcnbbldlaaaGreatDoor.G
set_option linter.all false
open Go.RowKit L D Tryz
section
theorem Xm{w:World}(h:Cq w):Lib.TabIs Tryz.prog w "internal/strconv.uint64pow10" .u64 Lib.pow10Tab:=by
 obtain⟨e,k,h⟩:=h.tab;unfold Lib.TabIs World.var?;rw[show Tryz.prog.globalNamed "internal/strconv.uint64pow10" =some 5 by kernel_rfl];simp only[Option.bind_some,h]
theorem Lr(w:World)(k:Nat)(os:Array Go.Obj):Below w.heap.size w (Sort.grow (w.drewN k) os):=by
 refine⟨rfl,rfl,rfl,?_,fun j hj=> ?_⟩
 ·show w.heap.size≤(w.heap++os).size
  rw[Array.size_append];omega
 ·show(w.heap++os)[j]? =w.heap[j]?
  rw[Array.getElem?_append_left hj]
theorem Fk(n:Int)(h: -9223372036854775808≤n∧n≤9223372036854775807):So 115 [.a (.lit (.int .i64 n))] [.a (.lit (.string (aX (Lib.itoa n))))]:=by
 refine⟨call115,?_⟩;intro w us hA ha;match us,ha with
 | [u],⟨h1,_⟩=>
   obtain⟨_,rfl,_,_⟩:=h1;refine(Tryz.strconv_Itoa n h.1 h.2 w (Xm hA)).mono ?_;rintro e w' ⟨rfl,k,os,rfl⟩;exact⟨_,[],rfl,Lr w k os,Own.nil _ _,⟨[],[],⟨rfl,rfl,rfl⟩,rfl,rfl⟩⟩
def dd(x:Int):List UInt8:=if x=0 then []else Lib.decDigits x.natAbs
theorem IU{x:Int}(hx:x≠0):dd x=dd (x.tdiv 10)++ [UInt8.ofNat (48+x.natAbs % 10)]:=by
 have e:(x.tdiv 10).natAbs=x.natAbs/10:=by rw[Int.natAbs_tdiv];rfl
 have h0:x.tdiv 10=0↔x.natAbs<10:=by
  rw[←Int.natAbs_eq_zero,e];omega
 unfold dd;rw[if_neg hx];by_cases hs:x.natAbs<10
 ·rw[if_pos (h0.2 hs),Lib.decDigits,dif_pos hs,List.nil_append,Nat.mod_eq_of_lt hs]
 ·rw[if_neg (fun h=>hs (h0.1 h)),e,Lib.decDigits,dif_neg hs]
theorem Nb: ∀(n:Nat) (x:Int),x.natAbs≤n→x.natAbs<10^20→(dd x).length≤20:=by
 intro n x _ hx;have key: ∀(k u:Nat),u<10^(k+1)→(Lib.decDigits u).length≤k+1:=by
  intro k;induction k with
  |zero=>intro u hu;rw[Lib.decDigits,dif_pos (by omega)];simp
  |succ k ih=>
   intro u hu;rw[Lib.decDigits];split
   ·simp
   ·rw[List.length_append];have:=ih (u/10) (by rw[Nat.pow_succ]at hu;omega);simp only[List.length_cons,List.length_nil];omega
 unfold dd;split
 ·simp
 ·exact key 19 _ hx
theorem Di{n:Int}(h:n≠0):Lib.itoa n=(if n<0 then [45]else [])++dd n:=by
 unfold Lib.itoa dd;rw[if_neg h];split
 ·rfl
 ·rw[List.nil_append];congr 1;omega
theorem BH:Lib.itoa 0= [48]:=by
 unfold Lib.itoa;rw[if_neg (by decide),Lib.decDigits,dif_pos (by decide)];rfl
theorem UM{n:Int}(h: -9223372036854775808≤n∧n≤9223372036854775807):(Lib.itoa n).length≤21:=by
 by_cases h0:n=0
 ·subst h0;rw[BH];decide
 ·rw[Di h0,List.length_append];have:=Nb n.natAbs n (Nat.le_refl _) (by omega);split<;>simp<;>omega
theorem QI{x:Int}(h: -9223372036854775808≤x∧x≤9223372036854775807)(hd: ¬x.tmod 10<0):UInt8.ofNat (IntKind.u8.wrap (IntKind.i64.wrap (48+x.tmod 10))).toNat=UInt8.ofNat (48+x.natAbs % 10):=by
 have h1:(x.tmod 10).natAbs=x.natAbs % 10:=by rw[Int.natAbs_tmod];rfl
 have hb:x.tmod 10=((x.natAbs % 10:Nat):Int):=by omega
 have hlt:x.natAbs % 10<10:=Nat.mod_lt _ (by decide);rw[hb,bO (by omega)];rw[AR];congr 1;omega
theorem QJ{x:Int}(h: -9223372036854775808≤x∧x≤9223372036854775807)(hd:x.tmod 10<0):UInt8.ofNat (IntKind.u8.wrap (IntKind.i64.wrap (48+IntKind.i64.wrap (0-x.tmod 10)))).toNat=UInt8.ofNat (48+x.natAbs % 10):=by
 have h1:(x.tmod 10).natAbs=x.natAbs % 10:=by rw[Int.natAbs_tmod];rfl
 have hb:0-x.tmod 10=((x.natAbs % 10:Nat):Int):=by omega
 have hlt:x.natAbs % 10<10:=Nat.mod_lt _ (by decide);rw[hb,bO (a:=((x.natAbs % 10:Nat):Int)) (by omega),bO (by omega)];rw[AR];congr 1;omega
theorem Nc(a b:List UInt8)(h:a.length+b.length≤1099511627776):(((aX a).size+(aX b).size:Nat):Int)≤IntKind.i64.max:=by
 rw[bZ,bZ,fE];omega
theorem fM(c:UInt8):(⟨#[c]⟩:ByteArray).size=1:=rfl
theorem bW{n:Int}(h: -9223372036854775808≤n∧n≤9223372036854775807):(aX (Lib.itoa n)).size≤21:=UM h
def IV(x:dF):ByteArray:=aX (Lib.itoa x.id)++aX [62]++aX (Lib.itoa x.cU)++aX [32]++aX (Lib.itoa x.sent)++aX [47]++aX (Lib.itoa x.aM.length)++aX [32]++aX (Lib.itoa x.inbox.length)++aX [64]++aX (Lib.itoa x.next)
def names:List (List UInt8):= [[104,111,110,101,115,116],[100,114,111,112,115],[97,108,116,101,114,115],[108,105,101,115]]
theorem IW(k:Nat):(aX (names.getD k [])).size≤6:=by
 rw[bZ];match k with
 |0=>decide
 |1=>decide
 |2=>decide
 |3=>decide
 |n+4=>exact Nat.zero_le _
def Fl(b:Int):ByteArray:=if inr b 0 3=true then aX (names.getD b.toNat [])else aX [63]
def BI(x:bp):ByteArray:=aX (Lib.itoa x.id)++aX [32]++aX (Lib.itoa x.round)++aX [32]++Fl x.behavior
end
section
set_option maxRecDepth 100000
theorem bw(n:Int)(h: -9223372036854775808≤n∧n≤9223372036854775807):So 62 [aA n] [.a (.lit (.string (aX (Lib.itoa n))))]:=by
 refine av X call62 func62 ntmps62 rfl rfl ?_;intro zb;exact aq X [0] rfl (aC X [] [(4,⟨false,[.a (.lit (.string (aX (Lib.itoa n))))]⟩)] [2] [] rfl (by(with_reducible and_intros)<;>first|exact⟨⟩|exact(Fk n h)) (ak (ah rfl ⟨rfl,⟨⟩⟩)))
theorem aU(n:Int)(h: -9223372036854775808≤n∧n≤9223372036854775807):So 33 [aA n] [.a (.lit (.string (aX (Lib.itoa n))))]:=by
 refine av X call33 func33 ntmps33 rfl rfl ?_;intro zb;refine aq X [0] rfl (aa (aq X [0,7] rfl ?_));refine aj rfl ?_ ?_<;>intro hb0
 ·try simp only[aQ]at hb0
  exact aq X [2] rfl (ak (ah rfl ⟨by rw[show n=0 by omega,BH];rfl,⟨⟩⟩))
 ·try simp only[aQ]at hb0
  refine an (aq X [0,3] rfl (aa (aq X [0,3,4] rfl ?_)));refine au (aE (fun k=>dd k.1++k.2=dd n∧k.1.natAbs≤n.natAbs∧ -9223372036854775808≤k.1∧k.1≤9223372036854775807) (fun k:(Int×List UInt8)=> [(3, .one (.a (.lit (.string (aX k.2))))),(4, .one ((aA k.1)))]) (fun k=> []) (fun k=>k.1.natAbs) (n,[]) (fun k=>rfl) ⟨by simp,Nat.le_refl _,h.1,h.2⟩ rfl ?_);rintro k ⟨QU,hle,hl1,lg⟩;refine aa (aq X [0,3,4,10] rfl ?_);refine aj rfl ?_ ?_<;>intro aV
  ·try simp only[aQ]at aV
   have hdl:=Nb n.natAbs n (Nat.le_refl _) (by omega);have yX:k.2.length≤20:=by have:=congrArg List.length QU;rw[List.length_append]at this;omega
   refine an (aa (au (aD X [0,3,4,5] rfl (by and_intros<;>first|exact⟨⟩| (intros;omega)) (aa (aq X [0,3,4,5,16] rfl ?_)))));refine aj rfl ?_ ?_<;>intro bI
   ·try simp only[aQ]at bI
    refine bg X [0,3,4,5] rfl (dy X [0,3,4] rfl (by(repeat' with_reducible first|exact aR|refine bf ?_ ?_|apply And.intro)<;>first|exact Nc _ _ (by simp only[List.length_cons,List.length_nil,List.length_append];omega)|exact⟨rfl,bA _ (by decide)⟩|exact(oZ _).1|exact(oZ _).2) ?_);refine dy X [0,3,4] rfl (by and_intros<;>first|exact⟨⟩| (intros;omega)) ?_;have hdg:=QJ ⟨hl1,lg⟩ (by omega);have hst:=IU aV;have hqa:(k.1.tdiv 10).natAbs=k.1.natAbs/10:=by rw[Int.natAbs_tdiv];rfl
    have hk0:0<k.1.natAbs:=by omega
    refine⟨(k.1.tdiv 10,[UInt8.ofNat (48+k.1.natAbs % 10)]++k.2),⟨by rw[←List.append_assoc, ←hst];exact QU,by omega,by omega,by omega⟩,by show(k.1.tdiv 10).natAbs<k.1.natAbs;omega,?_⟩;rw[lG,hdg,bO (a:=k.1.tdiv 10) (by omega)]
   ·try simp only[aQ]at bI
    refine an (dy X [0,3,4] rfl (by(repeat' with_reducible first|exact aR|refine bf ?_ ?_|apply And.intro)<;>first|exact Nc _ _ (by simp only[List.length_cons,List.length_nil,List.length_append];omega)|exact⟨rfl,bA _ (by decide)⟩|exact(oZ _).1|exact(oZ _).2) ?_);refine dy X [0,3,4] rfl (by and_intros<;>first|exact⟨⟩| (intros;omega)) ?_;have hdg:=QI ⟨hl1,lg⟩ (by omega);have hst:=IU aV;have hqa:(k.1.tdiv 10).natAbs=k.1.natAbs/10:=by rw[Int.natAbs_tdiv];rfl
    have hk0:0<k.1.natAbs:=by omega
    refine⟨(k.1.tdiv 10,[UInt8.ofNat (48+k.1.natAbs % 10)]++k.2),⟨by rw[←List.append_assoc, ←hst];exact QU,by omega,by omega,by omega⟩,by show(k.1.tdiv 10).natAbs<k.1.natAbs;omega,?_⟩;rw[lG,hdg,bO (a:=k.1.tdiv 10) (by omega)]
  ·try simp only[aQ]at aV
   have hdl:=Nb n.natAbs n (Nat.le_refl _) (by omega);have yX:k.2.length≤20:=by have:=congrArg List.length QU;rw[List.length_append]at this;omega
   refine aI (aa (aq X [3,27] rfl ?_));refine aj rfl ?_ ?_<;>intro eE
   ·try simp only[aQ]at eE
    exact aD X [2] rfl (by(with_reducible and_intros)<;>first|exact⟨⟩|exact Nc _ _ (by simp only[List.length_cons,List.length_nil,List.length_append];omega)) (ak (ah rfl ⟨by rw[Di hb0,if_pos eE, ←QU,show k.1=0 by omega];exact congrArg Value.string (lG [45] k.2),⟨⟩⟩))
   ·try simp only[aQ]at eE
    exact an (aq X [2] rfl (ak (ah rfl ⟨by rw[Di hb0,if_neg (by omega), ←QU,show k.1=0 by omega];rfl,⟨⟩⟩)))
end
end Go.Proofs.YtaalpcnbbldlaaaGreatDoor.G
namespace Go.Proofs.YtaalpcnbbldlaaaGreatDoor.G
set_option linter.all false
open Go.RowKit L D
section
theorem rj{α:Type}(f:α→List UInt8)(C:Nat): ∀(l:List α),(∀y,y∈l→(f y).length≤C)→cE List.length (l.map f)≤(C+1)*l.length
 | [],_=>by simp[cE]
 |x::r,h=>by
  have h1:=rj f C r (fun y hy=>h y (List.mem_cons_of_mem _ hy));have h2:=h x (List.mem_cons_self ..);unfold cE at h1 ⊢;simp only[List.map_cons,List.length_cons,List.sum_cons,Nat.mul_add]at h1 ⊢;omega
theorem at_mem{α:Type}{P:α→Prop}{l:List α}(h: ∀y,y∈l→P y){k:Nat}(hk:k<l.length)(d:α):P (l.getD k d):=by
 rw[List.getD_eq_getElem?_getD,List.getElem?_eq_getElem hk];exact h _ (List.getElem_mem hk)
theorem Fm{α β:Type}(f:α→β){l:List α}{k:Nat}(hk:k<l.length)(d:α)(e:β):(l.map f).getD k e=f (l.getD k d):=by
 rw[List.getD_eq_getElem?_getD,List.getD_eq_getElem?_getD,List.getElem?_map,List.getElem?_eq_getElem hk];rfl
def LU(l:List (List UInt8))(c:UInt8):ByteArray:=if l.length=0 then aX [45]else aX (Lib.join l [c])
def jn(l:List (List UInt8))(c:UInt8)(k:Nat):ByteArray:=aX (Lib.join (l.take k) [c])
theorem UN(l:List (List UInt8))(c:UInt8)(k:Nat):(jn l c k).size≤cE List.length l:=by
 have h1:=join_le (l.take k) c;have h2:=UF l k;show(aX (Lib.join (l.take k) [c])).size≤_
 rw[bZ];omega
theorem Dj(l:List (List UInt8))(c:UInt8){k:Nat}(h:k<l.length)(h0:0<k):jn l c (k+1)=jn l c k++aX [c]++aX (l.getD k []):=by
 unfold jn;rw[bu l k [] h,QH,lG,lG];intro hn;have:=congrArg List.length hn;rw[List.length_take,List.length_nil]at this;omega
theorem Ae(l:List (List UInt8))(c:UInt8){k:Nat}(h:k<l.length)(h0: ¬0<k):jn l c (k+1)=jn l c k++aX (l.getD k []):=by
 obtain rfl:k=0:=by omega
 unfold jn;rw[bu l 0 [] h,List.take_zero,List.nil_append,Lib.join_one,Lib.join_nil,lG,List.nil_append]
theorem UO(l:List (List UInt8))(c:UInt8){k:Nat}(h:l.length≤k)(h0:l.length≠0):jn l c k=LU l c:=by
 unfold jn LU;rw[List.take_of_length_le h,if_neg h0]
def bz(b:List UInt8):Bool:=b.any fun c=>(c.toNat:Int) !=0
def jC:List (List UInt8)→Nat
 | []=>0
 |b::l=>(if bz b then 1 else 0)+jC l
theorem vN: ∀l:List (List UInt8),jC l≤l.length
 | []=>Nat.le_refl _
 |b::l=>by have:=vN l;unfold jC;rw[List.length_cons];split<;>omega
theorem Ls: ∀(a b:List (List UInt8)),jC (a++b)=jC a+jC b
 | [],b=>by simp[jC]
 |x::a,b=>by rw[List.cons_append,jC,jC,Ls a b];omega
theorem G4(l:List (List UInt8))(k:Nat)(d:List UInt8)(h:k<l.length):jC (l.take (k+1))=jC (l.take k)+if bz (l.getD k d)then 1 else 0:=by
 rw[bu l k d h,Ls];rfl
theorem Lt(l:List (List UInt8))(k:Nat)(d:List UInt8)(h:k<l.length)(hb:bz (l.getD k d)=true):jC (l.take (k+1))=jC (l.take k)+1:=by
 rw[G4 l k d h,if_pos hb]
theorem G5(l:List (List UInt8))(k:Nat)(d:List UInt8)(h:k<l.length)(hb:bz (l.getD k d)=false):jC (l.take (k+1))=jC (l.take k):=by
 rw[G4 l k d h,hb];rfl
def wAR(r:aJ):ByteArray:=aX (Lib.itoa r.round)++aX [58]++aX (Lib.itoa (jC r.db.rows))
def At(r:aJ):List UInt8:=(wAR r).data.toList
def fF(n:Int):List UInt8:=Lib.itoa n
end
section
theorem IX{l:List Int}(h: ∀y,y∈l→lV y): ∀y,y∈l→(fF y).length≤21:=fun y hy=>bW (h y hy)
theorem Nd{l:List aJ}(h: ∀y,y∈l→FW y)(hz: ∀y,y∈l→y.db.rows.length≤1048576): ∀y,y∈l→(At y).length≤43:=by
 intro y hy;obtain⟨q1,_⟩:=h y hy;have z1:=bW q1;have h2:=vN y.db.rows;have h3:=hz y hy;have z2:=bW (n:=(jC y.db.rows:Int)) (by omega);show(wAR y).size≤43
 unfold wAR;simp only[ByteArray.size_append,bZ,List.length_cons,List.length_nil]at*;omega
def Fo(a:gZ):ByteArray:=LU (a.rounds.map At) 32
theorem Xn(n:Int):0<(aX (Lib.itoa n)).size:=by
 rw[bZ];by_cases h:n=0
 ·subst h;rw[BH];decide
 ·rw[Di h,List.length_append];have:0<(dd n).length:=by
   rw[IU h,List.length_append];simp
  omega
theorem acS(l:List Int)(c:UInt8){k:Nat}(h:0<k)(hk:k≤l.length):0<(jn (l.map fF) c k).size:=by
 obtain⟨j,rfl⟩: ∃j,k=j+1:=⟨k-1,by omega⟩;have hl:(l.map fF).length=l.length:=List.length_map ..;have h1:(l.map fF).getD j []=fF (l.getD j 0):=Fm fF (by omega) _ _;have h2:=Xn (l.getD j 0);by_cases h0:0<j
 ·rw[Dj _ _ (by omega) h0,h1,ByteArray.size_append];unfold fF;omega
 ·rw[Ae _ _ (by omega) h0,h1,ByteArray.size_append];unfold fF;omega
theorem aai(l:List Int)(c:UInt8){k:Nat}(h:l.length≤k)(hk:k≤l.length)(hn:jn (l.map fF) c k≠aX []):jn (l.map fF) c k=LU (l.map fF) c:=by
 rw[UO _ _ (by rw[List.length_map];omega)];intro h0;rw[List.length_map]at h0;obtain rfl:k=0:=by omega
 exact hn (by unfold jn;rw[List.take_zero,Lib.join_nil])
theorem aaj(l:List Int)(c:UInt8){k:Nat}(h:l.length≤k)(hk:k≤l.length)(he:jn (l.map fF) c k=aX []):LU (l.map fF) c=aX [45]:=by
 unfold LU;rw[List.length_map,if_pos];by_cases h0:l.length=0
 ·exact h0
 ·have h1:=acS l c (k:=k) (by omega) hk;have:=congrArg ByteArray.size he;rw[bZ,List.length_nil]at this;omega
theorem acT{b:ByteArray}(h:(b.toList==(⟨#[]⟩:ByteArray).toList)=true):b=aX []:=by
 have:=eq_of_beq h;rw[ByteArray.toList_eq,ByteArray.toList_eq]at this;exact congrArg (fun l=>aX l) this
theorem acU{b:ByteArray}(h:(b.toList==(⟨#[]⟩:ByteArray).toList)=false):b≠aX []:=by
 intro e;subst e;rw[show(aX [])=(⟨#[]⟩:ByteArray)from rfl,beq_self_eq_true]at h;cases h
def p7(x:aW):ByteArray:=aX (Lib.itoa x.round)++aX [32]++aX (Lib.itoa x.cancelled)++aX [32]++LU (x.replaced.map fF) 44++aX [32]++aX (Lib.itoa (lR x.af x.af.length))++aX [43]++aX (Lib.itoa (wW x.af x.af.length))
theorem IY(l:List (List UInt8))(c:UInt8):(LU l c).size≤cE List.length l+1:=by
 unfold LU;split
 ·rw[bZ];simp
 ·rw[bZ];have:=join_le l c;omega
end
end Go.Proofs.YtaalpcnbbldlaaaGreatDoor.G
