/-
  Messages that wait, messages not read yet; words of an archive and of a world.
-/
import Derived.Sort.Grow
import Derived.Test.YtaalpcnbbldlaaaGreatDoorM15
open ByteArray renaming size_append→bA
open Go.IntKind renaming i64→af,u8→cC
open Go.Lib renaming TabIs→LY,decDigits→gm,itoa→cg,join→pX,join_nil→IC
open Int renaming natAbs_tdiv→Bh,natAbs_tmod→L2
open List renaming append_assoc→bO,getD_eq_getElem?_getD→aA,getElem?_eq_getElem→aC,length→aL,length_append→bf,length_cons→bF,length_map→bt,length_nil→c8,nil_append→eU,take_zero→lu
open Nat renaming le_refl→bq,mod_lt→vR
open UInt8 renaming ofNat→cT
namespace Go.Proofs.YtaalpcnbbldlaaaGreatDoor.G
set_option linter.all false
open Go.RowKit L D Tryz
section
theorem aix{w:World}(h:IK w):LY Tryz.prog w "internal/strconv.uint64pow10" .u64 Lib.pow10Tab:=by
 obtain⟨e,k,h⟩:=h.tab
 unfold LY World.var?
 rw[show Tryz.prog.globalNamed "internal/strconv.uint64pow10" =some 5 by kernel_rfl]
 simp only[Option.bind_some,h]
theorem TH(w:World)(k:Nat)(os:Array Go.Obj):Below w.heap.size w (Sort.grow (w.drewN k) os):=by
 refine⟨rfl,rfl,rfl,?_,fun j hj=> ?_⟩
 ·show w.heap.size≤(w.heap++os).size
  rw[Array.size_append];omega
 ·show(w.heap++os)[j]? =w.heap[j]?
  rw[Array.getElem?_append_left hj]
theorem L1(n:Int)(h: -9223372036854775808≤n∧n≤9223372036854775807):So 115 [.a (.lit (.int .i64 n))] [.a (.lit (.string (bP (cg n))))]:=by
 refine⟨call115,?_⟩
 intro w us hA ha
 match us,ha with
 | [u],⟨h1,_⟩=>
   obtain⟨_,rfl,_,_⟩:=h1
   refine(Tryz.strconv_Itoa n h.1 h.2 w (aix hA)).mono ?_
   rintro e w' ⟨rfl,k,os,rfl⟩
   exact⟨_,[],rfl,TH w k os,Own.nil _ _,⟨[],[],⟨rfl,rfl,rfl⟩,rfl,rfl⟩⟩
def dd(x:Int):List UInt8:=if x=0 then []else gm x.natAbs
theorem Qi{x:Int}(hx:x≠0):dd x=dd (x.tdiv 10)++ [cT (48+x.natAbs % 10)]:=by
 have e:(x.tdiv 10).natAbs=x.natAbs/10:=by rw[Bh];rfl
 have h0:x.tdiv 10=0↔x.natAbs<10:=by
  rw[←Int.natAbs_eq_zero,e];omega
 unfold dd
 rw[if_neg hx]
 by_cases hs:x.natAbs<10
 ·rw[if_pos (h0.2 hs),gm,dif_pos hs,eU,Nat.mod_eq_of_lt hs]
 ·rw[if_neg (fun h=>hs (h0.1 h)),e,gm,dif_neg hs]
theorem VY: ∀(n:Nat) (x:Int),x.natAbs≤n→x.natAbs<10^20→(dd x).length≤20:=by
 intro n x _ hx
 have key: ∀(k u:Nat),u<10^(k+1)→(gm u).length≤k+1:=by
  intro k
  induction k with
  |zero=>intro u hu;rw[gm,dif_pos (by omega)];simp
  |succ k ih=>
   intro u hu
   rw[gm]
   split
   ·simp
   ·rw[bf]
    have:=ih (u/10) (by rw[Nat.pow_succ]at hu;omega)
    simp only[bF,c8];omega
 unfold dd
 split
 ·simp
 ·exact key 19 _ hx
theorem JN{n:Int}(h:n≠0):cg n=(if n<0 then [45]else [])++dd n:=by
 unfold cg dd
 rw[if_neg h]
 split
 ·rfl
 ·rw[eU];congr 1;omega
theorem HI:cg 0= [48]:=by
 unfold cg;rw[if_neg (by decide),gm,dif_pos (by decide)];rfl
theorem aeX{n:Int}(h: -9223372036854775808≤n∧n≤9223372036854775807):(cg n).length≤21:=by
 by_cases h0:n=0
 ·subst h0;rw[HI];decide
 ·rw[JN h0,bf]
  have:=VY n.natAbs n (bq _) (by omega)
  split<;>simp<;>omega
theorem aaB{x:Int}(h: -9223372036854775808≤x∧x≤9223372036854775807)(hd: ¬x.tmod 10<0):cT (cC.wrap (af.wrap (48+x.tmod 10))).toNat=cT (48+x.natAbs % 10):=by
 have h1:(x.tmod 10).natAbs=x.natAbs % 10:=by rw[L2];rfl
 have hb:x.tmod 10=((x.natAbs % 10:Nat):Int):=by omega
 have hlt:x.natAbs % 10<10:=vR _ (by decide)
 rw[hb,dm (by omega)]
 rw[GB]
 congr 1;omega
theorem aaC{x:Int}(h: -9223372036854775808≤x∧x≤9223372036854775807)(hd:x.tmod 10<0):cT (cC.wrap (af.wrap (48+af.wrap (0-x.tmod 10)))).toNat=cT (48+x.natAbs % 10):=by
 have h1:(x.tmod 10).natAbs=x.natAbs % 10:=by rw[L2];rfl
 have hb:0-x.tmod 10=((x.natAbs % 10:Nat):Int):=by omega
 have hlt:x.natAbs % 10<10:=vR _ (by decide)
 rw[hb,dm (a:=((x.natAbs % 10:Nat):Int)) (by omega),dm (by omega)]
 rw[GB]
 congr 1;omega
theorem VZ(a b:List UInt8)(h:a.length+b.length≤1099511627776):(((bP a).size+(bP b).size:Nat):Int)≤af.max:=by
 rw[dR,dR,jV];omega
theorem ko(c:UInt8):(⟨#[c]⟩:ByteArray).size=1:=rfl
theorem dM{n:Int}(h: -9223372036854775808≤n∧n≤9223372036854775807):(bP (cg n)).size≤21:=aeX h
def Qj(x:gI):ByteArray:=bP (cg x.id)++bP [62]++bP (cg x.fJ)++bP [32]++bP (cg x.sent)++bP [47]++bP (cg x.bp.length)++bP [32]++bP (cg x.inbox.length)++bP [64]++bP (cg x.next)
def names:List (List UInt8):= [[104,111,110,101,115,116],[100,114,111,112,115],[97,108,116,101,114,115],[108,105,101,115]]
theorem Qk(k:Nat):(bP (names.getD k [])).size≤6:=by
 rw[dR]
 match k with
 |0=>decide
 |1=>decide
 |2=>decide
 |3=>decide
 |n+4=>exact Nat.zero_le _
def L3(b:Int):ByteArray:=if inr b 0 3=true then bP (names.getD b.toNat [])else bP [63]
def HJ(x:cu):ByteArray:=bP (cg x.id)++bP [32]++bP (cg x.round)++bP [32]++L3 x.behavior
end
section
set_option maxRecDepth 100000
theorem cD(n:Int)(h: -9223372036854775808≤n∧n≤9223372036854775807):So 62 [aI n] [.a (.lit (.string (bP (cg n))))]:=by
 refine aF X call62 func62 ntmps62 rfl rfl ?_
 intro zb
 exact av X [0] rfl (aM X [] [(4,⟨false,[.a (.lit (.string (bP (cg n))))]⟩)] [2] [] rfl (by(with_reducible and_intros)<;>first|exact⟨⟩|exact(L1 n h)) (aq (aj rfl ⟨rfl,⟨⟩⟩)))
theorem bL(n:Int)(h: -9223372036854775808≤n∧n≤9223372036854775807):So 33 [aI n] [.a (.lit (.string (bP (cg n))))]:=by
 refine aF X call33 func33 ntmps33 rfl rfl ?_
 intro zb
 refine av X [0] rfl (aa (av X [0,7] rfl ?_))
 refine an rfl ?_ ?_<;>intro hb0
 ·try simp only[bG]at hb0
  exact av X [2] rfl (aq (aj rfl ⟨by rw[show n=0 by omega,HI];rfl,⟨⟩⟩))
 ·try simp only[bG]at hb0
  refine au (av X [0,3] rfl (aa (av X [0,3,4] rfl ?_)))
  refine aB (aP (fun k=>dd k.1++k.2=dd n∧k.1.natAbs≤n.natAbs∧ -9223372036854775808≤k.1∧k.1≤9223372036854775807) (fun k:(Int×List UInt8)=> [(3, .one (.a (.lit (.string (bP k.2))))),(4, .one ((aI k.1)))]) (fun k=> []) (fun k=>k.1.natAbs) (n,[]) (fun k=>rfl) ⟨by simp,bq _,h.1,h.2⟩ rfl ?_)
  rintro k ⟨hdd,hle,hl1,qS⟩
  refine aa (av X [0,3,4,10] rfl ?_)
  refine an rfl ?_ ?_<;>intro bM
  ·try simp only[bG]at bM
   have hdl:=VY n.natAbs n (bq _) (by omega)
   have EF:k.2.length≤20:=by have:=congrArg aL hdd;rw[bf]at this;omega
   refine au (aa (aB (aO X [0,3,4,5] rfl (by and_intros<;>first|exact⟨⟩| (intros;omega)) (aa (av X [0,3,4,5,16] rfl ?_)))))
   refine an rfl ?_ ?_<;>intro cS
   ·try simp only[bG]at cS
    refine bU X [0,3,4,5] rfl (gA X [0,3,4] rfl (by(repeat' with_reducible first|exact bH|refine bS ?_ ?_|apply And.intro)<;>first|exact VZ _ _ (by simp only[bF,c8,bf];omega)|exact⟨rfl,cE _ (by decide)⟩|exact(we _).1|exact(we _).2) ?_)
    refine gA X [0,3,4] rfl (by and_intros<;>first|exact⟨⟩| (intros;omega)) ?_
    have hdg:=aaC ⟨hl1,qS⟩ (by omega)
    have hst:=Qi bM
    have hqa:(k.1.tdiv 10).natAbs=k.1.natAbs/10:=by rw[Bh];rfl
    have hk0:0<k.1.natAbs:=by omega
    refine⟨(k.1.tdiv 10,[cT (48+k.1.natAbs % 10)]++k.2),⟨by rw[←bO, ←hst];exact hdd,by omega,by omega,by omega⟩,by show(k.1.tdiv 10).natAbs<k.1.natAbs;omega,?_⟩
    rw[rB,hdg,dm (a:=k.1.tdiv 10) (by omega)]
   ·try simp only[bG]at cS
    refine au (gA X [0,3,4] rfl (by(repeat' with_reducible first|exact bH|refine bS ?_ ?_|apply And.intro)<;>first|exact VZ _ _ (by simp only[bF,c8,bf];omega)|exact⟨rfl,cE _ (by decide)⟩|exact(we _).1|exact(we _).2) ?_)
    refine gA X [0,3,4] rfl (by and_intros<;>first|exact⟨⟩| (intros;omega)) ?_
    have hdg:=aaB ⟨hl1,qS⟩ (by omega)
    have hst:=Qi bM
    have hqa:(k.1.tdiv 10).natAbs=k.1.natAbs/10:=by rw[Bh];rfl
    have hk0:0<k.1.natAbs:=by omega
    refine⟨(k.1.tdiv 10,[cT (48+k.1.natAbs % 10)]++k.2),⟨by rw[←bO, ←hst];exact hdd,by omega,by omega,by omega⟩,by show(k.1.tdiv 10).natAbs<k.1.natAbs;omega,?_⟩
    rw[rB,hdg,dm (a:=k.1.tdiv 10) (by omega)]
  ·try simp only[bG]at bM
   have hdl:=VY n.natAbs n (bq _) (by omega)
   have EF:k.2.length≤20:=by have:=congrArg aL hdd;rw[bf]at this;omega
   refine aW (aa (av X [3,27] rfl ?_))
   refine an rfl ?_ ?_<;>intro iZ
   ·try simp only[bG]at iZ
    exact aO X [2] rfl (by(with_reducible and_intros)<;>first|exact⟨⟩|exact VZ _ _ (by simp only[bF,c8,bf];omega)) (aq (aj rfl ⟨by rw[JN hb0,if_pos iZ, ←hdd,show k.1=0 by omega];exact congrArg Value.string (rB [45] k.2),⟨⟩⟩))
   ·try simp only[bG]at iZ
    exact au (av X [2] rfl (aq (aj rfl ⟨by rw[JN hb0,if_neg (by omega), ←hdd,show k.1=0 by omega];rfl,⟨⟩⟩)))
end
end Go.Proofs.YtaalpcnbbldlaaaGreatDoor.G
namespace Go.Proofs.YtaalpcnbbldlaaaGreatDoor.G
set_option linter.all false
open Go.RowKit L D
section
theorem yw{α:Type}(f:α→List UInt8)(C:Nat): ∀(l:List α),(∀y,y∈l→(f y).length≤C)→eN aL (l.map f)≤(C+1)*l.length
 | [],_=>by simp[eN]
 |x::r,h=>by
  have h1:=yw f C r (fun y hy=>h y (List.mem_cons_of_mem _ hy))
  have h2:=h x (List.mem_cons_self ..)
  unfold eN at h1 ⊢
  simp only[List.map_cons,bF,List.sum_cons,Nat.mul_add]at h1 ⊢
  omega
theorem at_mem{α:Type}{P:α→Prop}{l:List α}(h: ∀y,y∈l→P y){k:Nat}(hk:k<l.length)(d:α):P (l.getD k d):=by
 rw[aA,aC hk]
 exact h _ (List.getElem_mem hk)
theorem L4{α β:Type}(f:α→β){l:List α}{k:Nat}(hk:k<l.length)(d:α)(e:β):(l.map f).getD k e=f (l.getD k d):=by
 rw[aA,aA,List.getElem?_map,aC hk];rfl
def Um(l:List (List UInt8))(c:UInt8):ByteArray:=if l.length=0 then bP [45]else bP (pX l [c])
def jn(l:List (List UInt8))(c:UInt8)(k:Nat):ByteArray:=bP (pX (l.take k) [c])
theorem aeY(l:List (List UInt8))(c:UInt8)(k:Nat):(jn l c k).size≤eN aL l:=by
 have h1:=join_le (l.take k) c
 have h2:=aeP l k
 show(bP (pX (l.take k) [c])).size≤_
 rw[dR];omega
theorem JO(l:List (List UInt8))(c:UInt8){k:Nat}(h:k<l.length)(h0:0<k):jn l c (k+1)=jn l c k++bP [c]++bP (l.getD k []):=by
 unfold jn
 rw[cB l k [] h,aaz,rB,rB]
 intro hn
 have:=congrArg aL hn
 rw[List.length_take,c8]at this
 omega
theorem FP(l:List (List UInt8))(c:UInt8){k:Nat}(h:k<l.length)(h0: ¬0<k):jn l c (k+1)=jn l c k++bP (l.getD k []):=by
 obtain rfl:k=0:=by omega
 unfold jn
 rw[cB l 0 [] h,lu,eU,Lib.join_one,IC,rB,eU]
theorem aeZ(l:List (List UInt8))(c:UInt8){k:Nat}(h:l.length≤k)(h0:l.length≠0):jn l c k=Um l c:=by
 unfold jn Um
 rw[List.take_of_length_le h,if_neg h0]
def bz(b:List UInt8):Bool:=b.any fun c=>(c.toNat:Int) !=0
def oD:List (List UInt8)→Nat
 | []=>0
 |b::l=>(if bz b then 1 else 0)+oD l
theorem B5: ∀l:List (List UInt8),oD l≤l.length
 | []=>bq _
 |b::l=>by have:=B5 l;unfold oD;rw[bF];split<;>omega
theorem TJ: ∀(a b:List (List UInt8)),oD (a++b)=oD a+oD b
 | [],b=>by simp[oD]
 |x::a,b=>by rw[List.cons_append,oD,oD,TJ a b];omega
theorem Oc(l:List (List UInt8))(k:Nat)(d:List UInt8)(h:k<l.length):oD (l.take (k+1))=oD (l.take k)+if bz (l.getD k d)then 1 else 0:=by
 rw[cB l k d h,TJ];rfl
theorem TL(l:List (List UInt8))(k:Nat)(d:List UInt8)(h:k<l.length)(hb:bz (l.getD k d)=true):oD (l.take (k+1))=oD (l.take k)+1:=by
 rw[Oc l k d h,if_pos hb]
theorem Od(l:List (List UInt8))(k:Nat)(d:List UInt8)(h:k<l.length)(hb:bz (l.getD k d)=false):oD (l.take (k+1))=oD (l.take k):=by
 rw[Oc l k d h,hb];rfl
def wAR(r:aX):ByteArray:=bP (cg r.round)++bP [58]++bP (cg (oD r.db.rows))
def F7(r:aX):List UInt8:=(wAR r).data.toList
def jW(n:Int):List UInt8:=cg n
end
section
theorem Ql{l:List Int}(h: ∀y,y∈l→rY y): ∀y,y∈l→(jW y).length≤21:=fun y hy=>dM (h y hy)
theorem V0{l:List aX}(h: ∀y,y∈l→MZ y)(hz: ∀y,y∈l→y.db.rows.length≤1048576): ∀y,y∈l→(F7 y).length≤43:=by
 intro y hy
 obtain⟨q1,_⟩:=h y hy
 have z1:=dM q1
 have h2:=B5 y.db.rows
 have h3:=hz y hy
 have z2:=dM (n:=(oD y.db.rows:Int)) (by omega)
 show(wAR y).size≤43
 unfold wAR
 simp only[bA,dR,bF,c8]at*
 omega
def L5(a:mD):ByteArray:=Um (a.rounds.map F7) 32
theorem aiy(n:Int):0<(bP (cg n)).size:=by
 rw[dR]
 by_cases h:n=0
 ·subst h;rw[HI];decide
 ·rw[JN h,bf]
  have:0<(dd n).length:=by
   rw[Qi h,bf];simp
  omega
theorem apr(l:List Int)(c:UInt8){k:Nat}(h:0<k)(hk:k≤l.length):0<(jn (l.map jW) c k).size:=by
 obtain⟨j,rfl⟩: ∃j,k=j+1:=⟨k-1,by omega⟩
 have hl:(l.map jW).length=l.length:=bt ..
 have h1:(l.map jW).getD j []=jW (l.getD j 0):=L4 jW (by omega) _ _
 have h2:=aiy (l.getD j 0)
 by_cases h0:0<j
 ·rw[JO _ _ (by omega) h0,h1,bA]
  unfold jW;omega
 ·rw[FP _ _ (by omega) h0,h1,bA]
  unfold jW;omega
theorem amL(l:List Int)(c:UInt8){k:Nat}(h:l.length≤k)(hk:k≤l.length)(hn:jn (l.map jW) c k≠bP []):jn (l.map jW) c k=Um (l.map jW) c:=by
 rw[aeZ _ _ (by rw[bt];omega)]
 intro h0
 rw[bt]at h0
 obtain rfl:k=0:=by omega
 exact hn (by unfold jn;rw[lu,IC])
theorem amM(l:List Int)(c:UInt8){k:Nat}(h:l.length≤k)(hk:k≤l.length)(he:jn (l.map jW) c k=bP []):Um (l.map jW) c=bP [45]:=by
 unfold Um
 rw[bt,if_pos]
 by_cases h0:l.length=0
 ·exact h0
 ·have h1:=apr l c (k:=k) (by omega) hk
  have:=congrArg ByteArray.size he
  rw[dR,c8]at this
  omega
theorem aps{b:ByteArray}(h:(b.toList==(⟨#[]⟩:ByteArray).toList)=true):b=bP []:=by
 have:=eq_of_beq h
 rw[ByteArray.toList_eq,ByteArray.toList_eq]at this
 exact congrArg (fun l=>bP l) this
theorem apt{b:ByteArray}(h:(b.toList==(⟨#[]⟩:ByteArray).toList)=false):b≠bP []:=by
 intro e
 subst e
 rw[show(bP [])=(⟨#[]⟩:ByteArray)from rfl,beq_self_eq_true]at h
 cases h
def wZ(x:bN):ByteArray:=bP (cg x.round)++bP [32]++bP (cg x.cancelled)++bP [32]++Um (x.replaced.map jW) 44++bP [32]++bP (cg (rM x.ah x.ah.length))++bP [43]++bP (cg (CU x.ah x.ah.length))
theorem Qm(l:List (List UInt8))(c:UInt8):(Um l c).size≤eN aL l+1:=by
 unfold Um
 split
 ·rw[dR];simp
 ·rw[dR];have:=join_le l c;omega
end
end Go.Proofs.YtaalpcnbbldlaaaGreatDoor.G
