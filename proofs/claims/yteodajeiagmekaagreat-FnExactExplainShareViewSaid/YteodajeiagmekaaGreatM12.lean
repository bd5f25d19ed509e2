/-
  Contracts of the laws' own functions by the symbolic machine: mark.. of every type.
-/
import Derived.Test.YteodajeiagmekaaGreatM5
import Derived.Test.YteodajeiagmekaaGreatM11
namespace Go.Proofs.YteodajeiagmekaaGreat.G
set_option linter.all false
open Go.RowKit L D
section
theorem NS{w:World}{l:List V}{cs:List Value}{fp:List Nat}(h:bW w l cs fp):Dw w (.agg l) (.agg cs.toArray):=⟨cs,fp,rfl,h⟩
theorem oP{w:World}{v:Value}(h:v.oneCell'=true):Dw w (.a (.lit v)) v:=⟨[],rfl,h,rfl⟩
end
section
def szr(left:Int)(n:Nat):Int:=if(n:Int)≤left then left-n else-1
theorem eD{l:Int}{n:Nat}(h:0≤szr l n):szr l n=l-n∧(n:Int)≤l:=by
 unfold szr at*
 split at h
 ·rename_i h1;exact⟨by rw[if_pos h1],h1⟩
 ·omega
theorem fm{l:Int}{n:Nat}(h0:0≤l)(h:szr l n<0):l<n:=by
 unfold szr at h
 split at h<;>omega
theorem jJ{l:Int}{n:Nat}(h:(n:Int)≤l):szr l n=l-n:=by unfold szr;rw[if_pos h]
theorem eH{l:Int}{n:Nat}(h:l<(n:Int)):szr l n= -1:=by unfold szr;rw[if_neg (by omega)]
theorem nR{α:Type}(l:List α)(d:α)(k:Nat)(h:k<l.length):(l.take k++List.replicate (l.length-k) d).set k (l.getD k d)=l.take (k+1)++List.replicate (l.length-(k+1)) d:=by
 have hk:(l.take k).length=k:=by rw[List.length_take];omega
 rw[List.set_append_right _ _ (by omega),hk,Nat.sub_self,show l.length-k=(l.length-(k+1))+1 by omega,List.replicate_succ,List.set_cons_zero,aV l k d h,List.append_assoc]
 rfl
theorem rS{α:Type}(l:List α)(d:α)(k:Nat)(h:k≤l.length):(l.take k++List.replicate (l.length-k) d).length=l.length:=by
 simp;omega
def dm{α:Type}(mk:Int→α→α)(mn:α→Nat):Int→List α→List α
 |_,[]=> []
 |k,x::r=>mk k x::dm mk mn (k+mn x) r
def aD{α:Type}(mn:α→Nat)(l:List α):Nat:=(l.map mn).sum
section
variable{α:Type}{mk:Int→α→α}{mn:α→Nat}
theorem dg: ∀{l:List α} {k:Int},(dm mk mn k l).length=l.length
 | [],_=>rfl
 |_::r,k=>by rw[dm,List.length_cons,List.length_cons,dg]
theorem JB(x:α)(r:List α):aD mn (x::r)=mn x+aD mn r:=by simp[aD]
theorem fG(l:List α)(d:α)(j:Nat)(h:j<l.length):aD mn (l.take (j+1))=aD mn (l.take j)+mn (l.getD j d):=nQ mn l d j h
theorem kj(l:List α)(j:Nat):aD mn (l.take j)≤aD mn l:=dx l mn j
theorem HK: ∀{l m:List α} {k:Int},dm mk mn k (l++m)=dm mk mn k l++dm mk mn (k+aD mn l) m
 | [],m,k=>by simp[dm,aD]
 |x::r,m,k=>by
  rw[List.cons_append,dm,dm,HK,List.cons_append,JB]
  congr 3
  omega
theorem uc{l:List α}{k:Int}{d:α}{j:Nat}(h:j<l.length):(dm mk mn k l).getD j d=mk (k+aD mn (l.take j)) (l.getD j d):=by
 have e:l=l.take j++l.getD j d::l.drop (j+1):=by
  have:l.drop j=l.getD j d::l.drop (j+1):=by
   rw[List.drop_eq_getElem_cons h,List.getD_eq_getElem?_getD,List.getElem?_eq_getElem h];rfl
  rw[←this,List.take_append_drop]
 have hj:(l.take j).length=j:=by rw[List.length_take];omega
 generalize l.getD j d=x at e ⊢
 rw[show dm mk mn k l=dm mk mn k (l.take j++x::l.drop (j+1))by rw[←e],HK,dm]
 rw[List.getD_eq_getElem?_getD,List.getElem?_append_right (by rw[dg,hj];exact Nat.le_refl _),dg,hj,Nat.sub_self]
 rfl
theorem rT(l:List α)(k:Int)(d:α)(j:Nat)(h:j<l.length):(dm mk mn k (l.take j)++l.drop j).getD j d=l.getD j d:=by
 have hj:(dm mk mn k (l.take j)).length=j:=by rw[dg,List.length_take];omega
 rw[List.getD_eq_getElem?_getD,List.getElem?_append_right (by omega),hj,Nat.sub_self,List.getElem?_drop,List.getD_eq_getElem?_getD,Nat.add_zero]
theorem dY(l:List α)(k:Int)(j:Nat)(h:j≤l.length):(dm mk mn k (l.take j)++l.drop j).length=l.length:=by
 rw[List.length_append,dg,List.length_take,List.length_drop];omega
theorem nq(l:List α)(k:Int)(d:α)(j:Nat)(h:j<l.length):(dm mk mn k (l.take j)++l.drop j).set j (mk (k+aD mn (l.take j)) (l.getD j d))=dm mk mn k (l.take (j+1))++l.drop (j+1):=by
 have hj:(dm mk mn k (l.take j)).length=j:=by rw[dg,List.length_take];omega
 rw[List.set_append_right _ _ (by omega),hj,Nat.sub_self,List.drop_eq_getElem_cons h,List.set_cons_zero,aV l j d h,HK,dm,dm,List.append_assoc]
 rfl
theorem ko(L:List α)(d y:α)(j:Nat)(h:j<L.length):(L.set j y).getD j d=y:=by
 rw[List.getD_eq_getElem?_getD,List.getElem?_set_self h];rfl
end
theorem W.rU{P:Program}{ty:Tag→Nat}{zb:bY}{c:Code}{Q:Post}{st:St}(n:Nat){t:Tag}{l:List (T t)}(h:look st.hp n=some (.arr t l))(k:l.length≤9223372036854775807→W P ty zb c Q st):W P ty zb c Q st:=by
 intro a w iv
 obtain⟨env,g⟩:=iv.good
 obtain⟨oa,cap,_,h1,h2,_⟩:=RO.sl (g.obj n _ h)
 have e:maxLen=9223372036854775807:=by decide
 exact k (by omega) a w iv
end
section
set_option maxRecDepth 100000
def gJ(k:Int)(_:UInt8):UInt8:=UInt8.ofNat (IntKind.u8.wrap k).toNat
def cx(x:DB):Nat:=(aD (aD (fun _=>1))) x.rows
def bF(x:aA):Nat:=1+(aD (aD (fun _=>1))) x.share.rows
def iC(k:Int)(x:aA):aA:=⟨k,⟨(dm (dm gJ (fun _=>1)) (aD (fun _=>1))) (k+1) x.share.rows⟩⟩
def bL(x:aO):Nat:=1+1+1+(aD bF) x.received+1
def oU(k:Int)(x:aO):aO:=⟨k,k+1,k+1+1,(dm iC bF) (k+1+1+1) x.received,k+1+1+1+((aD bF) x.received:Nat)⟩
def bM(x:ay):Nat:=1+(aD (aD (fun _=>1))) x.db.rows
def iD(k:Int)(x:ay):ay:=⟨k,⟨(dm (dm gJ (fun _=>1)) (aD (fun _=>1))) (k+1) x.db.rows⟩⟩
def kK(x:gW):Nat:=(aD bM) x.rounds
def HP(k:Int)(x:gW):gW:=⟨x.rows,(dm iD bM) (k) x.rounds⟩
def Wo(x:ep):Nat:=1+1+1+1+(aD (aD (fun _=>1))) x.av+1+(aD (aD (fun _=>1))) x.inbox+1
def aX(x:aL):Nat:=1+1+1+1+(aD (aD (fun _=>1))) x.live.av+1+(aD (aD (fun _=>1))) x.live.inbox+1+1+1+1+1+(aD (aD (fun _=>1))) x.saved.av+1+(aD (aD (fun _=>1))) x.saved.inbox+1
def oV(k:Int)(x:aL):aL:=⟨⟨k,k+1,k+1+1,k+1+1+1,(dm (dm gJ (fun _=>1)) (aD (fun _=>1))) (k+1+1+1+1) x.live.av,k+1+1+1+1+((aD (aD (fun _=>1))) x.live.av:Nat),(dm (dm gJ (fun _=>1)) (aD (fun _=>1))) (k+1+1+1+1+((aD (aD (fun _=>1))) x.live.av:Nat)+1) x.live.inbox,k+1+1+1+1+((aD (aD (fun _=>1))) x.live.av:Nat)+1+((aD (aD (fun _=>1))) x.live.inbox:Nat)⟩,⟨k+1+1+1+1+((aD (aD (fun _=>1))) x.live.av:Nat)+1+((aD (aD (fun _=>1))) x.live.inbox:Nat)+1,k+1+1+1+1+((aD (aD (fun _=>1))) x.live.av:Nat)+1+((aD (aD (fun _=>1))) x.live.inbox:Nat)+1+1,k+1+1+1+1+((aD (aD (fun _=>1))) x.live.av:Nat)+1+((aD (aD (fun _=>1))) x.live.inbox:Nat)+1+1+1,k+1+1+1+1+((aD (aD (fun _=>1))) x.live.av:Nat)+1+((aD (aD (fun _=>1))) x.live.inbox:Nat)+1+1+1+1,(dm (dm gJ (fun _=>1)) (aD (fun _=>1))) (k+1+1+1+1+((aD (aD (fun _=>1))) x.live.av:Nat)+1+((aD (aD (fun _=>1))) x.live.inbox:Nat)+1+1+1+1+1) x.saved.av,k+1+1+1+1+((aD (aD (fun _=>1))) x.live.av:Nat)+1+((aD (aD (fun _=>1))) x.live.inbox:Nat)+1+1+1+1+1+((aD (aD (fun _=>1))) x.saved.av:Nat),(dm (dm gJ (fun _=>1)) (aD (fun _=>1))) (k+1+1+1+1+((aD (aD (fun _=>1))) x.live.av:Nat)+1+((aD (aD (fun _=>1))) x.live.inbox:Nat)+1+1+1+1+1+((aD (aD (fun _=>1))) x.saved.av:Nat)+1) x.saved.inbox,k+1+1+1+1+((aD (aD (fun _=>1))) x.live.av:Nat)+1+((aD (aD (fun _=>1))) x.live.inbox:Nat)+1+1+1+1+1+((aD (aD (fun _=>1))) x.saved.av:Nat)+1+((aD (aD (fun _=>1))) x.saved.inbox:Nat)⟩⟩
def dB(x:aJ):Nat:=(bX bp) x.ah+(bX aP) x.af+cB x.ak+List.length x.replaced
def kL(x:aJ):Nat:=(aD bL) x.ah+(aD aX) x.af+kK x.ak+(aD (fun _=>1)) x.replaced
def HQ(k:Int)(x:aJ):aJ:=⟨x.rows,(dm oU bL) (k) x.ah,(dm oV aX) (k+((aD bL) x.ah:Nat)) x.af,HP (k+((aD bL) x.ah:Nat)+((aD aX) x.af:Nat)) x.ak,x.az,x.seed,x.round,(dm (fun k _=>k) (fun _=>1)) (k+((aD bL) x.ah:Nat)+((aD aX) x.af:Nat)+(kK x.ak:Nat)) x.replaced,x.cancelled⟩
theorem HR{α:Type}(l:List α):aD (fun _=>1) l=l.length:=by
 induction l with
 |nil=>rfl
 |cons x r ih=>rw[JB,ih,List.length_cons];omega
theorem jD{α:Type}{mn sz:α→Nat}{C:Nat}(h: ∀e,mn e≤C*(1+sz e))(l:List α):aD mn l≤C*bX sz l:=by
 unfold bX aD
 induction l with
 |nil=>simp
 |cons x r ih=>
  simp only[List.map_cons,List.sum_cons,List.length_cons]
  have:=h x
  have e:C*(r.length+1+(sz x+(r.map sz).sum))=C*(1+sz x)+C*(r.length+(r.map sz).sum):=by rw[←Nat.mul_add];congr 1;omega
  omega
theorem oW{α:Type}(l:List α):aD (fun _=>1) l≤32*List.length l:=by rw[HR];omega
theorem Fz(x:aA):bF x≤32*(1+bI x):=by
 have h0:(aD (aD (fun _=>1))) x.share.rows≤32*(bX List.length) x.share.rows:=jD (C:=32) (sz:=List.length) (fun e=>by have:(aD (fun _=>1)) e≤32*List.length e:=oW e;omega) x.share.rows
 simp only[bF,bI,eF]
 omega
theorem Mm(x:aO):bL x≤32*(1+bp x):=by
 have h0:(aD bF) x.received≤32*(bX bI) x.received:=jD (C:=32) (sz:=bI) Fz x.received
 simp only[bL,bp]
 omega
theorem FA(x:ay):bM x≤32*(1+aZ x):=by
 have h0:(aD (aD (fun _=>1))) x.db.rows≤32*(bX List.length) x.db.rows:=jD (C:=32) (sz:=List.length) (fun e=>by have:(aD (fun _=>1)) e≤32*List.length e:=oW e;omega) x.db.rows
 simp only[bM,aZ,eF]
 omega
theorem Mn(x:aL):aX x≤32*(1+aP x):=by
 have h0:(aD (aD (fun _=>1))) x.live.av≤32*(bX List.length) x.live.av:=jD (C:=32) (sz:=List.length) (fun e=>by have:(aD (fun _=>1)) e≤32*List.length e:=oW e;omega) x.live.av
 have h1:(aD (aD (fun _=>1))) x.live.inbox≤32*(bX List.length) x.live.inbox:=jD (C:=32) (sz:=List.length) (fun e=>by have:(aD (fun _=>1)) e≤32*List.length e:=oW e;omega) x.live.inbox
 have h2:(aD (aD (fun _=>1))) x.saved.av≤32*(bX List.length) x.saved.av:=jD (C:=32) (sz:=List.length) (fun e=>by have:(aD (fun _=>1)) e≤32*List.length e:=oW e;omega) x.saved.av
 have h3:(aD (aD (fun _=>1))) x.saved.inbox≤32*(bX List.length) x.saved.inbox:=jD (C:=32) (sz:=List.length) (fun e=>by have:(aD (fun _=>1)) e≤32*List.length e:=oW e;omega) x.saved.inbox
 simp only[aX,aP,bD]
 omega
theorem Es(x:aJ):kL x≤32*dB x:=by
 have h0:(aD bL) x.ah≤32*(bX bp) x.ah:=jD (C:=32) (sz:=bp) Mm x.ah
 have h1:(aD aX) x.af≤32*(bX aP) x.af:=jD (C:=32) (sz:=aP) Mn x.af
 have h2:(aD bM) x.ak.rounds≤32*(bX aZ) x.ak.rounds:=jD (C:=32) (sz:=aZ) FA x.ak.rounds
 have h3:(aD (fun _=>1)) x.replaced≤32*List.length x.replaced:=oW x.replaced
 simp only[kL,kK,dB,cB]
 omega
end
section
theorem SW{x:aJ}(h:dB x≤1048576):x.af.length≤1048576:=by
 have h2:bX aP x.af≤1048576:=by unfold dB at h;omega
 exact cI h2
theorem SX{x:aJ}(h:dB x≤1048576):x.ah.length≤1048576:=by
 have h2:bX bp x.ah≤1048576:=by unfold dB at h;omega
 exact cI h2
end
section
set_option maxRecDepth 100000
theorem Qz(l:(List UInt8))(left:Int)(h0:0≤left)(h1:left≤1048576):Sound ty Tryz.prog 429 [.a (.sl .u8 l), .a (.lit (.int .i64 left))] [.a (.lit (.int .i64 (szr left (List.length l))))]:=by
 refine Sound.o X Tryz.call429 Tryz.func429 Tryz.ntmps429 rfl rfl ?_
 intro zb
 refine W.bound 0 rfl fun hl=> ?_
 refine W.s0 X [0,1] rfl ⟨⟩ ?_
 refine W.s0 X [1] rfl ⟨⟩ ?_
 rw[IntWalk.i64_in (left-(l.length:Nat)) (by omega)]
 refine W.seq ?_
 refine W.s0 X [1,10] rfl ⟨⟩ ?_
 refine W.cond rfl (fun hb0=> ?_) (fun hb0=> ?_)
 ·try simp only[nb]at hb0
  refine W.s0 X [4] rfl ⟨⟩ ?_
  refine W.ret ?_
  exact Fin.ret rfl ⟨by rw[eH (by omega)],⟨⟩⟩
 ·try simp only[nb]at hb0
  refine W.skip ?_
  refine W.s0 X [4] rfl ⟨⟩ ?_
  refine W.ret ?_
  exact Fin.ret rfl ⟨by rw[jJ (by omega)],⟨⟩⟩
theorem xS(l:(List (List UInt8)))(left:Int)(h0:0≤left)(h1:left≤1048576):Sound ty Tryz.prog 409 [.a (.sl (.sl .u8) l), .a (.lit (.int .i64 left))] [.a (.lit (.int .i64 (szr left ((bX List.length) l))))]:=by
 refine Sound.o X Tryz.call409 Tryz.func409 Tryz.ntmps409 rfl rfl ?_
 intro zb
 refine W.bound 0 rfl fun hl=> ?_
 refine W.s0 X [0,1] rfl ⟨⟩ ?_
 refine W.s0 X [0,1] rfl ⟨⟩ ?_
 rw[IntWalk.i64_in (left-(l.length:Nat)) (by omega)]
 refine W.seq ?_
 refine W.s0 X [0,1,11] rfl ⟨⟩ ?_
 refine W.cond rfl (fun hb0=> ?_) (fun hb0=> ?_)
 ·try simp only[nb]at hb0
  refine W.s0 X [4] rfl ⟨⟩ ?_
  refine W.ret ?_
  exact Fin.ret rfl ⟨by rw[eH (by unfold bX;omega)],⟨⟩⟩
 ·try simp only[nb]at hb0
  refine W.skip ?_
  refine W.seq ?_
  refine W.s0 X [0,1,5] rfl ⟨⟩ ?_
  refine W.block ?_
  refine W.aE (fun k=>k≤l.length∧(l.length:Int)+(((l.take k).map List.length).sum:Nat)≤left) (fun k:Nat=> [(1, .one (.a (.lit (.int .i64 (left-(l.length:Nat)-(((l.take k).map List.length).sum:Nat)))))),(5, .one (.a (.lit (.int .i64 k))))]) (fun k=> []) (fun k=>l.length-k) 0 (fun k=>rfl) ⟨Nat.zero_le _,by simp;omega⟩ (by simp) ?_
  rintro k ⟨hk,hs⟩
  refine W.seq ?_
  refine W.s0 X [0,1,5,15] rfl ⟨⟩ ?_
  refine W.cond rfl (fun aB=> ?_) (fun aB=> ?_)
  ·try simp only[nb]at aB
   have XA:=nQ List.length l (au (.sl .u8)) k aB
   have hle:=dx l List.length (k+1)
   refine W.skip ?_
   refine W.seq ?_
   refine W.block ?_
   refine W.sr X [] [(23,⟨false,[.a (.lit (.int .i64 (szr (left-(l.length:Nat)-(((l.take k).map List.length).sum:Nat)) (List.length (l.getD k (au (.sl .u8)))))))]⟩)] [0,1,5] [] rfl ⟨Qz (l.getD k (au (.sl .u8))) _ (by omega) (by omega),by omega,⟨⟩⟩ ?_
   refine W.s0 X [0,1,5,25] rfl ⟨⟩ ?_
   refine W.cond rfl (fun aM=> ?_) (fun aM=> ?_)
   ·try simp only[nb]at aM
    have hn:=fm (by omega) aM
    refine W.s0 X [4] rfl ⟨⟩ ?_
    refine W.ret ?_
    exact Fin.ret rfl ⟨by rw[eH (by unfold bX;omega)],⟨⟩⟩
   ·try simp only[nb]at aM
    obtain⟨e2,e3⟩:=eD aM
    rw[e2]
    refine W.skip ?_
    refine W.r0 X [0,1,5] rfl ⟨⟩ ?_
    refine⟨k+1,⟨by omega,by omega⟩,by omega,?_⟩
    rw[aR _ k rfl (by omega),show left-(l.length:Nat)-(((l.take k).map List.length).sum:Nat)-(List.length (l.getD k (au (.sl .u8))):Nat)=left-(l.length:Nat)-(((l.take (k+1)).map List.length).sum:Nat)by omega]
  ·try simp only[nb]at aB
   refine W.exit ?_
   refine W.s0 X [4] rfl ⟨⟩ ?_
   refine W.ret ?_
   have hf:l.take k=l:=List.take_of_length_le (by omega)
   rw[hf]at hs
   exact Fin.ret rfl ⟨by rw[hf,jJ (by unfold bX;omega)];congr 1;unfold bX;omega,⟨⟩⟩
theorem zX(x:DB)(left:Int)(h0:0≤left)(h1:left≤1048576):Sound ty Tryz.prog 410 [.agg (aF x), .a (.lit (.int .i64 left))] [.a (.lit (.int .i64 (szr left (eF x))))]:=by
 refine Sound.o X Tryz.call410 Tryz.func410 Tryz.ntmps410 rfl rfl ?_
 intro zb
 refine W.s0 X [1,2] rfl ⟨⟩ ?_
 refine W.sr X [] [(8,⟨false,[.a (.lit (.int .i64 (szr (left) ((bX List.length) x.rows))))]⟩)] [1] [] rfl ⟨xS x.rows (left) (by omega) (by omega),⟨⟩⟩ ?_
 refine W.seq ?_
 refine W.s0 X [1,10] rfl ⟨⟩ ?_
 refine W.cond rfl (fun hb0=> ?_) (fun hb0=> ?_)
 ·try simp only[nb]at hb0
  refine W.s0 X [4] rfl ⟨⟩ ?_
  refine W.ret ?_
  exact Fin.ret rfl ⟨by rw[eH (by have:=fm (by omega) hb0;unfold eF;omega)],⟨⟩⟩
 ·try simp only[nb]at hb0
  obtain⟨e0,Yu⟩:=eD hb0
  rw[e0]
  refine W.skip ?_
  refine W.s0 X [4] rfl ⟨⟩ ?_
  refine W.ret ?_
  exact Fin.ret rfl ⟨by rw[jJ (by unfold eF;omega)];first|done| (congr 1;done)| (congr 1;unfold eF;omega),⟨⟩⟩
theorem zY(x:ay)(left:Int)(h0:0≤left)(h1:left≤1048576):Sound ty Tryz.prog 369 [.agg (dW x), .a (.lit (.int .i64 left))] [.a (.lit (.int .i64 (szr left (aZ x))))]:=by
 refine Sound.o X Tryz.call369 Tryz.func369 Tryz.ntmps369 rfl rfl ?_
 intro zb
 refine W.s0 X [1,2] rfl ⟨⟩ ?_
 refine W.sr X [] [(8,⟨false,[.a (.lit (.int .i64 (szr (left) (eF x.db))))]⟩)] [1] [] rfl ⟨zX x.db (left) (by omega) (by omega),⟨⟩⟩ ?_
 refine W.seq ?_
 refine W.s0 X [1,10] rfl ⟨⟩ ?_
 refine W.cond rfl (fun hb0=> ?_) (fun hb0=> ?_)
 ·try simp only[nb]at hb0
  refine W.s0 X [4] rfl ⟨⟩ ?_
  refine W.ret ?_
  exact Fin.ret rfl ⟨by rw[eH (by have:=fm (by omega) hb0;unfold aZ;omega)],⟨⟩⟩
 ·try simp only[nb]at hb0
  obtain⟨e0,Yu⟩:=eD hb0
  rw[e0]
  refine W.skip ?_
  refine W.s0 X [4] rfl ⟨⟩ ?_
  refine W.ret ?_
  exact Fin.ret rfl ⟨by rw[jJ (by unfold aZ;omega)];first|done| (congr 1;done)| (congr 1;unfold aZ;omega),⟨⟩⟩
theorem xT(l:(List ay))(left:Int)(h0:0≤left)(h1:left≤1048576):Sound ty Tryz.prog 300 [.a (.sl .ay l), .a (.lit (.int .i64 left))] [.a (.lit (.int .i64 (szr left ((bX aZ) l))))]:=by
 refine Sound.o X Tryz.call300 Tryz.func300 Tryz.ntmps300 rfl rfl ?_
 intro zb
 refine W.bound 0 rfl fun hl=> ?_
 refine W.s0 X [0,1] rfl ⟨⟩ ?_
 refine W.s0 X [0,1] rfl ⟨⟩ ?_
 rw[IntWalk.i64_in (left-(l.length:Nat)) (by omega)]
 refine W.seq ?_
 refine W.s0 X [0,1,11] rfl ⟨⟩ ?_
 refine W.cond rfl (fun hb0=> ?_) (fun hb0=> ?_)
 ·try simp only[nb]at hb0
  refine W.s0 X [4] rfl ⟨⟩ ?_
  refine W.ret ?_
  exact Fin.ret rfl ⟨by rw[eH (by unfold bX;omega)],⟨⟩⟩
 ·try simp only[nb]at hb0
  refine W.skip ?_
  refine W.seq ?_
  refine W.s0 X [0,1,5] rfl ⟨⟩ ?_
  refine W.block ?_
  refine W.aE (fun k=>k≤l.length∧(l.length:Int)+(((l.take k).map aZ).sum:Nat)≤left) (fun k:Nat=> [(1, .one (.a (.lit (.int .i64 (left-(l.length:Nat)-(((l.take k).map aZ).sum:Nat)))))),(5, .one (.a (.lit (.int .i64 k))))]) (fun k=> []) (fun k=>l.length-k) 0 (fun k=>rfl) ⟨Nat.zero_le _,by simp;omega⟩ (by simp) ?_
  rintro k ⟨hk,hs⟩
  refine W.seq ?_
  refine W.s0 X [0,1,5,15] rfl ⟨⟩ ?_
  refine W.cond rfl (fun aB=> ?_) (fun aB=> ?_)
  ·try simp only[nb]at aB
   have XA:=nQ aZ l (au .ay) k aB
   have hle:=dx l aZ (k+1)
   refine W.skip ?_
   refine W.seq ?_
   refine W.block ?_
   refine W.sr X [] [(23,⟨false,[.a (.lit (.int .i64 (szr (left-(l.length:Nat)-(((l.take k).map aZ).sum:Nat)) (aZ (l.getD k (au .ay))))))]⟩)] [0,1,5] [] rfl ⟨zY (l.getD k (au .ay)) _ (by omega) (by omega),by omega,⟨⟩⟩ ?_
   refine W.s0 X [0,1,5,25] rfl ⟨⟩ ?_
   refine W.cond rfl (fun aM=> ?_) (fun aM=> ?_)
   ·try simp only[nb]at aM
    have hn:=fm (by omega) aM
    refine W.s0 X [4] rfl ⟨⟩ ?_
    refine W.ret ?_
    exact Fin.ret rfl ⟨by rw[eH (by unfold bX;omega)],⟨⟩⟩
   ·try simp only[nb]at aM
    obtain⟨e2,e3⟩:=eD aM
    rw[e2]
    refine W.skip ?_
    refine W.r0 X [0,1,5] rfl ⟨⟩ ?_
    refine⟨k+1,⟨by omega,by omega⟩,by omega,?_⟩
    rw[aR _ k rfl (by omega),show left-(l.length:Nat)-(((l.take k).map aZ).sum:Nat)-(aZ (l.getD k (au .ay)):Nat)=left-(l.length:Nat)-(((l.take (k+1)).map aZ).sum:Nat)by omega]
  ·try simp only[nb]at aB
   refine W.exit ?_
   refine W.s0 X [4] rfl ⟨⟩ ?_
   refine W.ret ?_
   have hf:l.take k=l:=List.take_of_length_le (by omega)
   rw[hf]at hs
   exact Fin.ret rfl ⟨by rw[hf,jJ (by unfold bX;omega)];congr 1;unfold bX;omega,⟨⟩⟩
theorem K8(x:gW)(left:Int)(h0:0≤left)(h1:left≤1048576):Sound ty Tryz.prog 193 [.agg (ck x), .a (.lit (.int .i64 left))] [.a (.lit (.int .i64 (szr left (cB x))))]:=by
 refine Sound.o X Tryz.call193 Tryz.func193 Tryz.ntmps193 rfl rfl ?_
 intro zb
 refine W.s0 X [1,2] rfl ⟨⟩ ?_
 refine W.sr X [] [(8,⟨false,[.a (.lit (.int .i64 (szr (left) ((bX aZ) x.rounds))))]⟩)] [1] [] rfl ⟨xT x.rounds (left) (by omega) (by omega),⟨⟩⟩ ?_
 refine W.seq ?_
 refine W.s0 X [1,10] rfl ⟨⟩ ?_
 refine W.cond rfl (fun hb0=> ?_) (fun hb0=> ?_)
 ·try simp only[nb]at hb0
  refine W.s0 X [4] rfl ⟨⟩ ?_
  refine W.ret ?_
  exact Fin.ret rfl ⟨by rw[eH (by have:=fm (by omega) hb0;unfold cB;omega)],⟨⟩⟩
 ·try simp only[nb]at hb0
  obtain⟨e0,Yu⟩:=eD hb0
  rw[e0]
  refine W.skip ?_
  refine W.s0 X [4] rfl ⟨⟩ ?_
  refine W.ret ?_
  exact Fin.ret rfl ⟨by rw[jJ (by unfold cB;omega)];first|done| (congr 1;done)| (congr 1;unfold cB;omega),⟨⟩⟩
theorem Fg(x:ep)(left:Int)(h0:0≤left)(h1:left≤1048576):Sound ty Tryz.prog 368 [.agg (bn x), .a (.lit (.int .i64 left))] [.a (.lit (.int .i64 (szr left (bD x))))]:=by
 refine Sound.o X Tryz.call368 Tryz.func368 Tryz.ntmps368 rfl rfl ?_
 intro zb
 refine W.s0 X [1,2] rfl ⟨⟩ ?_
 refine W.sr X [] [(8,⟨false,[.a (.lit (.int .i64 (szr (left) ((bX List.length) x.av))))]⟩)] [1,2] [] rfl ⟨xS x.av (left) (by omega) (by omega),⟨⟩⟩ ?_
 refine W.seq ?_
 refine W.s0 X [1,2,10] rfl ⟨⟩ ?_
 refine W.cond rfl (fun hb0=> ?_) (fun hb0=> ?_)
 ·try simp only[nb]at hb0
  refine W.s0 X [4] rfl ⟨⟩ ?_
  refine W.ret ?_
  exact Fin.ret rfl ⟨by rw[eH (by have:=fm (by omega) hb0;unfold bD;omega)],⟨⟩⟩
 ·try simp only[nb]at hb0
  obtain⟨e0,Yu⟩:=eD hb0
  rw[e0]
  refine W.skip ?_
  refine W.sr X [] [(14,⟨false,[.a (.lit (.int .i64 (szr (left-(((bX List.length) x.av):Nat)) ((bX List.length) x.inbox))))]⟩)] [1] [] rfl ⟨xS x.inbox (left-(((bX List.length) x.av):Nat)) (by omega) (by omega),⟨⟩⟩ ?_
  refine W.seq ?_
  refine W.s0 X [1,16] rfl ⟨⟩ ?_
  refine W.cond rfl (fun aB=> ?_) (fun aB=> ?_)
  ·try simp only[nb]at aB
   refine W.s0 X [4] rfl ⟨⟩ ?_
   refine W.ret ?_
   exact Fin.ret rfl ⟨by rw[eH (by have:=fm (by omega) aB;unfold bD;omega)],⟨⟩⟩
  ·try simp only[nb]at aB
   obtain⟨e1,e1'⟩:=eD aB
   rw[e1]
   refine W.skip ?_
   refine W.s0 X [4] rfl ⟨⟩ ?_
   refine W.ret ?_
   exact Fin.ret rfl ⟨by rw[jJ (by unfold bD;omega)];first|done| (congr 1;done)| (congr 1;unfold bD;omega),⟨⟩⟩
theorem M3(x:aL)(left:Int)(h0:0≤left)(h1:left≤1048576):Sound ty Tryz.prog 299 [.agg (bz x), .a (.lit (.int .i64 left))] [.a (.lit (.int .i64 (szr left (aP x))))]:=by
 refine Sound.o X Tryz.call299 Tryz.func299 Tryz.ntmps299 rfl rfl ?_
 intro zb
 refine W.s0 X [1,2] rfl ⟨⟩ ?_
 refine W.sr X [] [(8,⟨false,[.a (.lit (.int .i64 (szr (left) (bD x.live))))]⟩)] [1,2] [] rfl ⟨Fg x.live (left) (by omega) (by omega),⟨⟩⟩ ?_
 refine W.seq ?_
 refine W.s0 X [1,2,10] rfl ⟨⟩ ?_
 refine W.cond rfl (fun hb0=> ?_) (fun hb0=> ?_)
 ·try simp only[nb]at hb0
  refine W.s0 X [4] rfl ⟨⟩ ?_
  refine W.ret ?_
  exact Fin.ret rfl ⟨by rw[eH (by have:=fm (by omega) hb0;unfold aP;omega)],⟨⟩⟩
 ·try simp only[nb]at hb0
  obtain⟨e0,Yu⟩:=eD hb0
  rw[e0]
  refine W.skip ?_
  refine W.sr X [] [(14,⟨false,[.a (.lit (.int .i64 (szr (left-((bD x.live):Nat)) (bD x.saved))))]⟩)] [1] [] rfl ⟨Fg x.saved (left-((bD x.live):Nat)) (by omega) (by omega),⟨⟩⟩ ?_
  refine W.seq ?_
  refine W.s0 X [1,16] rfl ⟨⟩ ?_
  refine W.cond rfl (fun aB=> ?_) (fun aB=> ?_)
  ·try simp only[nb]at aB
   refine W.s0 X [4] rfl ⟨⟩ ?_
   refine W.ret ?_
   exact Fin.ret rfl ⟨by rw[eH (by have:=fm (by omega) aB;unfold aP;omega)],⟨⟩⟩
  ·try simp only[nb]at aB
   obtain⟨e1,e1'⟩:=eD aB
   rw[e1]
   refine W.skip ?_
   refine W.s0 X [4] rfl ⟨⟩ ?_
   refine W.ret ?_
   exact Fin.ret rfl ⟨by rw[jJ (by unfold aP;omega)];first|done| (congr 1;done)| (congr 1;unfold aP;omega),⟨⟩⟩
theorem K9(l:(List aL))(left:Int)(h0:0≤left)(h1:left≤1048576):Sound ty Tryz.prog 192 [.a (.sl .aL l), .a (.lit (.int .i64 left))] [.a (.lit (.int .i64 (szr left ((bX aP) l))))]:=by
 refine Sound.o X Tryz.call192 Tryz.func192 Tryz.ntmps192 rfl rfl ?_
 intro zb
 refine W.bound 0 rfl fun hl=> ?_
 refine W.s0 X [0,1] rfl ⟨⟩ ?_
 refine W.s0 X [0,1] rfl ⟨⟩ ?_
 rw[IntWalk.i64_in (left-(l.length:Nat)) (by omega)]
 refine W.seq ?_
 refine W.s0 X [0,1,11] rfl ⟨⟩ ?_
 refine W.cond rfl (fun hb0=> ?_) (fun hb0=> ?_)
 ·try simp only[nb]at hb0
  refine W.s0 X [4] rfl ⟨⟩ ?_
  refine W.ret ?_
  exact Fin.ret rfl ⟨by rw[eH (by unfold bX;omega)],⟨⟩⟩
 ·try simp only[nb]at hb0
  refine W.skip ?_
  refine W.seq ?_
  refine W.s0 X [0,1,5] rfl ⟨⟩ ?_
  refine W.block ?_
  refine W.aE (fun k=>k≤l.length∧(l.length:Int)+(((l.take k).map aP).sum:Nat)≤left) (fun k:Nat=> [(1, .one (.a (.lit (.int .i64 (left-(l.length:Nat)-(((l.take k).map aP).sum:Nat)))))),(5, .one (.a (.lit (.int .i64 k))))]) (fun k=> []) (fun k=>l.length-k) 0 (fun k=>rfl) ⟨Nat.zero_le _,by simp;omega⟩ (by simp) ?_
  rintro k ⟨hk,hs⟩
  refine W.seq ?_
  refine W.s0 X [0,1,5,15] rfl ⟨⟩ ?_
  refine W.cond rfl (fun aB=> ?_) (fun aB=> ?_)
  ·try simp only[nb]at aB
   have XA:=nQ aP l (au .aL) k aB
   have hle:=dx l aP (k+1)
   refine W.skip ?_
   refine W.seq ?_
   refine W.block ?_
   refine W.sr X [] [(23,⟨false,[.a (.lit (.int .i64 (szr (left-(l.length:Nat)-(((l.take k).map aP).sum:Nat)) (aP (l.getD k (au .aL))))))]⟩)] [0,1,5] [] rfl ⟨M3 (l.getD k (au .aL)) _ (by omega) (by omega),by omega,⟨⟩⟩ ?_
   refine W.s0 X [0,1,5,25] rfl ⟨⟩ ?_
   refine W.cond rfl (fun aM=> ?_) (fun aM=> ?_)
   ·try simp only[nb]at aM
    have hn:=fm (by omega) aM
    refine W.s0 X [4] rfl ⟨⟩ ?_
    refine W.ret ?_
    exact Fin.ret rfl ⟨by rw[eH (by unfold bX;omega)],⟨⟩⟩
   ·try simp only[nb]at aM
    obtain⟨e2,e3⟩:=eD aM
    rw[e2]
    refine W.skip ?_
    refine W.r0 X [0,1,5] rfl ⟨⟩ ?_
    refine⟨k+1,⟨by omega,by omega⟩,by omega,?_⟩
    rw[aR _ k rfl (by omega),show left-(l.length:Nat)-(((l.take k).map aP).sum:Nat)-(aP (l.getD k (au .aL)):Nat)=left-(l.length:Nat)-(((l.take (k+1)).map aP).sum:Nat)by omega]
  ·try simp only[nb]at aB
   refine W.exit ?_
   refine W.s0 X [4] rfl ⟨⟩ ?_
   refine W.ret ?_
   have hf:l.take k=l:=List.take_of_length_le (by omega)
   rw[hf]at hs
   exact Fin.ret rfl ⟨by rw[hf,jJ (by unfold bX;omega)];congr 1;unfold bX;omega,⟨⟩⟩
theorem UY(l:(List Int))(left:Int)(h0:0≤left)(h1:left≤1048576):Sound ty Tryz.prog 194 [.a (.sl .int l), .a (.lit (.int .i64 left))] [.a (.lit (.int .i64 (szr left (List.length l))))]:=by
 refine Sound.o X Tryz.call194 Tryz.func194 Tryz.ntmps194 rfl rfl ?_
 intro zb
 refine W.bound 0 rfl fun hl=> ?_
 refine W.s0 X [0,1] rfl ⟨⟩ ?_
 refine W.s0 X [1] rfl ⟨⟩ ?_
 rw[IntWalk.i64_in (left-(l.length:Nat)) (by omega)]
 refine W.seq ?_
 refine W.s0 X [1,10] rfl ⟨⟩ ?_
 refine W.cond rfl (fun hb0=> ?_) (fun hb0=> ?_)
 ·try simp only[nb]at hb0
  refine W.s0 X [4] rfl ⟨⟩ ?_
  refine W.ret ?_
  exact Fin.ret rfl ⟨by rw[eH (by omega)],⟨⟩⟩
 ·try simp only[nb]at hb0
  refine W.skip ?_
  refine W.s0 X [4] rfl ⟨⟩ ?_
  refine W.ret ?_
  exact Fin.ret rfl ⟨by rw[jJ (by omega)],⟨⟩⟩
theorem zZ(x:aA)(left:Int)(h0:0≤left)(h1:left≤1048576):Sound ty Tryz.prog 408 [.agg (dI x), .a (.lit (.int .i64 left))] [.a (.lit (.int .i64 (szr left (bI x))))]:=by
 refine Sound.o X Tryz.call408 Tryz.func408 Tryz.ntmps408 rfl rfl ?_
 intro zb
 refine W.s0 X [1,2] rfl ⟨⟩ ?_
 refine W.sr X [] [(8,⟨false,[.a (.lit (.int .i64 (szr (left) (eF x.share))))]⟩)] [1] [] rfl ⟨zX x.share (left) (by omega) (by omega),⟨⟩⟩ ?_
 refine W.seq ?_
 refine W.s0 X [1,10] rfl ⟨⟩ ?_
 refine W.cond rfl (fun hb0=> ?_) (fun hb0=> ?_)
 ·try simp only[nb]at hb0
  refine W.s0 X [4] rfl ⟨⟩ ?_
  refine W.ret ?_
  exact Fin.ret rfl ⟨by rw[eH (by have:=fm (by omega) hb0;unfold bI;omega)],⟨⟩⟩
 ·try simp only[nb]at hb0
  obtain⟨e0,Yu⟩:=eD hb0
  rw[e0]
  refine W.skip ?_
  refine W.s0 X [4] rfl ⟨⟩ ?_
  refine W.ret ?_
  exact Fin.ret rfl ⟨by rw[jJ (by unfold bI;omega)];first|done| (congr 1;done)| (congr 1;unfold bI;omega),⟨⟩⟩
theorem xU(l:(List aA))(left:Int)(h0:0≤left)(h1:left≤1048576):Sound ty Tryz.prog 367 [.a (.sl .aA l), .a (.lit (.int .i64 left))] [.a (.lit (.int .i64 (szr left ((bX bI) l))))]:=by
 refine Sound.o X Tryz.call367 Tryz.func367 Tryz.ntmps367 rfl rfl ?_
 intro zb
 refine W.bound 0 rfl fun hl=> ?_
 refine W.s0 X [0,1] rfl ⟨⟩ ?_
 refine W.s0 X [0,1] rfl ⟨⟩ ?_
 rw[IntWalk.i64_in (left-(l.length:Nat)) (by omega)]
 refine W.seq ?_
 refine W.s0 X [0,1,11] rfl ⟨⟩ ?_
 refine W.cond rfl (fun hb0=> ?_) (fun hb0=> ?_)
 ·try simp only[nb]at hb0
  refine W.s0 X [4] rfl ⟨⟩ ?_
  refine W.ret ?_
  exact Fin.ret rfl ⟨by rw[eH (by unfold bX;omega)],⟨⟩⟩
 ·try simp only[nb]at hb0
  refine W.skip ?_
  refine W.seq ?_
  refine W.s0 X [0,1,5] rfl ⟨⟩ ?_
  refine W.block ?_
  refine W.aE (fun k=>k≤l.length∧(l.length:Int)+(((l.take k).map bI).sum:Nat)≤left) (fun k:Nat=> [(1, .one (.a (.lit (.int .i64 (left-(l.length:Nat)-(((l.take k).map bI).sum:Nat)))))),(5, .one (.a (.lit (.int .i64 k))))]) (fun k=> []) (fun k=>l.length-k) 0 (fun k=>rfl) ⟨Nat.zero_le _,by simp;omega⟩ (by simp) ?_
  rintro k ⟨hk,hs⟩
  refine W.seq ?_
  refine W.s0 X [0,1,5,15] rfl ⟨⟩ ?_
  refine W.cond rfl (fun aB=> ?_) (fun aB=> ?_)
  ·try simp only[nb]at aB
   have XA:=nQ bI l (au .aA) k aB
   have hle:=dx l bI (k+1)
   refine W.skip ?_
   refine W.seq ?_
   refine W.block ?_
   refine W.sr X [] [(23,⟨false,[.a (.lit (.int .i64 (szr (left-(l.length:Nat)-(((l.take k).map bI).sum:Nat)) (bI (l.getD k (au .aA))))))]⟩)] [0,1,5] [] rfl ⟨zZ (l.getD k (au .aA)) _ (by omega) (by omega),by omega,⟨⟩⟩ ?_
   refine W.s0 X [0,1,5,25] rfl ⟨⟩ ?_
   refine W.cond rfl (fun aM=> ?_) (fun aM=> ?_)
   ·try simp only[nb]at aM
    have hn:=fm (by omega) aM
    refine W.s0 X [4] rfl ⟨⟩ ?_
    refine W.ret ?_
    exact Fin.ret rfl ⟨by rw[eH (by unfold bX;omega)],⟨⟩⟩
   ·try simp only[nb]at aM
    obtain⟨e2,e3⟩:=eD aM
    rw[e2]
    refine W.skip ?_
    refine W.r0 X [0,1,5] rfl ⟨⟩ ?_
    refine⟨k+1,⟨by omega,by omega⟩,by omega,?_⟩
    rw[aR _ k rfl (by omega),show left-(l.length:Nat)-(((l.take k).map bI).sum:Nat)-(bI (l.getD k (au .aA)):Nat)=left-(l.length:Nat)-(((l.take (k+1)).map bI).sum:Nat)by omega]
  ·try simp only[nb]at aB
   refine W.exit ?_
   refine W.s0 X [4] rfl ⟨⟩ ?_
   refine W.ret ?_
   have hf:l.take k=l:=List.take_of_length_le (by omega)
   rw[hf]at hs
   exact Fin.ret rfl ⟨by rw[hf,jJ (by unfold bX;omega)];congr 1;unfold bX;omega,⟨⟩⟩
theorem M4(x:aO)(left:Int)(h0:0≤left)(h1:left≤1048576):Sound ty Tryz.prog 298 [.agg (bq x), .a (.lit (.int .i64 left))] [.a (.lit (.int .i64 (szr left (bp x))))]:=by
 refine Sound.o X Tryz.call298 Tryz.func298 Tryz.ntmps298 rfl rfl ?_
 intro zb
 refine W.s0 X [1,2] rfl ⟨⟩ ?_
 refine W.sr X [] [(8,⟨false,[.a (.lit (.int .i64 (szr (left) ((bX bI) x.received))))]⟩)] [1] [] rfl ⟨xU x.received (left) (by omega) (by omega),⟨⟩⟩ ?_
 refine W.seq ?_
 refine W.s0 X [1,10] rfl ⟨⟩ ?_
 refine W.cond rfl (fun hb0=> ?_) (fun hb0=> ?_)
 ·try simp only[nb]at hb0
  refine W.s0 X [4] rfl ⟨⟩ ?_
  refine W.ret ?_
  exact Fin.ret rfl ⟨by rw[eH (by have:=fm (by omega) hb0;unfold bp;omega)],⟨⟩⟩
 ·try simp only[nb]at hb0
  obtain⟨e0,Yu⟩:=eD hb0
  rw[e0]
  refine W.skip ?_
  refine W.s0 X [4] rfl ⟨⟩ ?_
  refine W.ret ?_
  exact Fin.ret rfl ⟨by rw[jJ (by unfold bp;omega)];first|done| (congr 1;done)| (congr 1;unfold bp;omega),⟨⟩⟩
theorem La(l:(List aO))(left:Int)(h0:0≤left)(h1:left≤1048576):Sound ty Tryz.prog 191 [.a (.sl .aO l), .a (.lit (.int .i64 left))] [.a (.lit (.int .i64 (szr left ((bX bp) l))))]:=by
 refine Sound.o X Tryz.call191 Tryz.func191 Tryz.ntmps191 rfl rfl ?_
 intro zb
 refine W.bound 0 rfl fun hl=> ?_
 refine W.s0 X [0,1] rfl ⟨⟩ ?_
 refine W.s0 X [0,1] rfl ⟨⟩ ?_
 rw[IntWalk.i64_in (left-(l.length:Nat)) (by omega)]
 refine W.seq ?_
 refine W.s0 X [0,1,11] rfl ⟨⟩ ?_
 refine W.cond rfl (fun hb0=> ?_) (fun hb0=> ?_)
 ·try simp only[nb]at hb0
  refine W.s0 X [4] rfl ⟨⟩ ?_
  refine W.ret ?_
  exact Fin.ret rfl ⟨by rw[eH (by unfold bX;omega)],⟨⟩⟩
 ·try simp only[nb]at hb0
  refine W.skip ?_
  refine W.seq ?_
  refine W.s0 X [0,1,5] rfl ⟨⟩ ?_
  refine W.block ?_
  refine W.aE (fun k=>k≤l.length∧(l.length:Int)+(((l.take k).map bp).sum:Nat)≤left) (fun k:Nat=> [(1, .one (.a (.lit (.int .i64 (left-(l.length:Nat)-(((l.take k).map bp).sum:Nat)))))),(5, .one (.a (.lit (.int .i64 k))))]) (fun k=> []) (fun k=>l.length-k) 0 (fun k=>rfl) ⟨Nat.zero_le _,by simp;omega⟩ (by simp) ?_
  rintro k ⟨hk,hs⟩
  refine W.seq ?_
  refine W.s0 X [0,1,5,15] rfl ⟨⟩ ?_
  refine W.cond rfl (fun aB=> ?_) (fun aB=> ?_)
  ·try simp only[nb]at aB
   have XA:=nQ bp l (au .aO) k aB
   have hle:=dx l bp (k+1)
   refine W.skip ?_
   refine W.seq ?_
   refine W.block ?_
   refine W.sr X [] [(23,⟨false,[.a (.lit (.int .i64 (szr (left-(l.length:Nat)-(((l.take k).map bp).sum:Nat)) (bp (l.getD k (au .aO))))))]⟩)] [0,1,5] [] rfl ⟨M4 (l.getD k (au .aO)) _ (by omega) (by omega),by omega,⟨⟩⟩ ?_
   refine W.s0 X [0,1,5,25] rfl ⟨⟩ ?_
   refine W.cond rfl (fun aM=> ?_) (fun aM=> ?_)
   ·try simp only[nb]at aM
    have hn:=fm (by omega) aM
    refine W.s0 X [4] rfl ⟨⟩ ?_
    refine W.ret ?_
    exact Fin.ret rfl ⟨by rw[eH (by unfold bX;omega)],⟨⟩⟩
   ·try simp only[nb]at aM
    obtain⟨e2,e3⟩:=eD aM
    rw[e2]
    refine W.skip ?_
    refine W.r0 X [0,1,5] rfl ⟨⟩ ?_
    refine⟨k+1,⟨by omega,by omega⟩,by omega,?_⟩
    rw[aR _ k rfl (by omega),show left-(l.length:Nat)-(((l.take k).map bp).sum:Nat)-(bp (l.getD k (au .aO)):Nat)=left-(l.length:Nat)-(((l.take (k+1)).map bp).sum:Nat)by omega]
  ·try simp only[nb]at aB
   refine W.exit ?_
   refine W.s0 X [4] rfl ⟨⟩ ?_
   refine W.ret ?_
   have hf:l.take k=l:=List.take_of_length_le (by omega)
   rw[hf]at hs
   exact Fin.ret rfl ⟨by rw[hf,jJ (by unfold bX;omega)];congr 1;unfold bX;omega,⟨⟩⟩
theorem GV(x:aJ)(left:Int)(h0:0≤left)(h1:left≤1048576):Sound ty Tryz.prog 74 [.agg (aG x), .a (.lit (.int .i64 left))] [.a (.lit (.int .i64 (szr left (dB x))))]:=by
 refine Sound.o X Tryz.call74 Tryz.func74 Tryz.ntmps74 rfl rfl ?_
 intro zb
 refine W.s0 X [1,2] rfl ⟨⟩ ?_
 refine W.sr X [] [(8,⟨false,[.a (.lit (.int .i64 (szr (left) ((bX bp) x.ah))))]⟩)] [1,2] [] rfl ⟨La x.ah (left) (by omega) (by omega),⟨⟩⟩ ?_
 refine W.seq ?_
 refine W.s0 X [1,2,10] rfl ⟨⟩ ?_
 refine W.cond rfl (fun hb0=> ?_) (fun hb0=> ?_)
 ·try simp only[nb]at hb0
  refine W.s0 X [4] rfl ⟨⟩ ?_
  refine W.ret ?_
  exact Fin.ret rfl ⟨by rw[eH (by have:=fm (by omega) hb0;unfold dB;omega)],⟨⟩⟩
 ·try simp only[nb]at hb0
  obtain⟨e0,Yu⟩:=eD hb0
  rw[e0]
  refine W.skip ?_
  refine W.sr X [] [(14,⟨false,[.a (.lit (.int .i64 (szr (left-(((bX bp) x.ah):Nat)) ((bX aP) x.af))))]⟩)] [1,2] [] rfl ⟨K9 x.af (left-(((bX bp) x.ah):Nat)) (by omega) (by omega),⟨⟩⟩ ?_
  refine W.seq ?_
  refine W.s0 X [1,2,16] rfl ⟨⟩ ?_
  refine W.cond rfl (fun aB=> ?_) (fun aB=> ?_)
  ·try simp only[nb]at aB
   refine W.s0 X [4] rfl ⟨⟩ ?_
   refine W.ret ?_
   exact Fin.ret rfl ⟨by rw[eH (by have:=fm (by omega) aB;unfold dB;omega)],⟨⟩⟩
  ·try simp only[nb]at aB
   obtain⟨e1,e1'⟩:=eD aB
   rw[e1]
   refine W.skip ?_
   refine W.sr X [] [(20,⟨false,[.a (.lit (.int .i64 (szr (left-(((bX bp) x.ah):Nat)-(((bX aP) x.af):Nat)) (cB x.ak))))]⟩)] [1,2] [] rfl ⟨K8 x.ak (left-(((bX bp) x.ah):Nat)-(((bX aP) x.af):Nat)) (by omega) (by omega),⟨⟩⟩ ?_
   refine W.seq ?_
   refine W.s0 X [1,2,22] rfl ⟨⟩ ?_
   refine W.cond rfl (fun aM=> ?_) (fun aM=> ?_)
   ·try simp only[nb]at aM
    refine W.s0 X [4] rfl ⟨⟩ ?_
    refine W.ret ?_
    exact Fin.ret rfl ⟨by rw[eH (by have:=fm (by omega) aM;unfold dB;omega)],⟨⟩⟩
   ·try simp only[nb]at aM
    obtain⟨e2,e2'⟩:=eD aM
    rw[e2]
    refine W.skip ?_
    refine W.sr X [] [(26,⟨false,[.a (.lit (.int .i64 (szr (left-(((bX bp) x.ah):Nat)-(((bX aP) x.af):Nat)-((cB x.ak):Nat)) (List.length x.replaced))))]⟩)] [1] [] rfl ⟨UY x.replaced (left-(((bX bp) x.ah):Nat)-(((bX aP) x.af):Nat)-((cB x.ak):Nat)) (by omega) (by omega),⟨⟩⟩ ?_
    refine W.seq ?_
    refine W.s0 X [1,28] rfl ⟨⟩ ?_
    refine W.cond rfl (fun gB=> ?_) (fun gB=> ?_)
    ·try simp only[nb]at gB
     refine W.s0 X [4] rfl ⟨⟩ ?_
     refine W.ret ?_
     exact Fin.ret rfl ⟨by rw[eH (by have:=fm (by omega) gB;unfold dB;omega)],⟨⟩⟩
    ·try simp only[nb]at gB
     obtain⟨e3,e3'⟩:=eD gB
     rw[e3]
     refine W.skip ?_
     refine W.s0 X [4] rfl ⟨⟩ ?_
     refine W.ret ?_
     exact Fin.ret rfl ⟨by rw[jJ (by unfold dB;omega)];first|done| (congr 1;done)| (congr 1;unfold dB;omega),⟨⟩⟩
end
section
set_option maxRecDepth 100000
theorem ry(l:(List UInt8))(hx:(List.length l)≤1048576):Sound ty Tryz.prog 83 [.a (.sl .u8 l)] [.a (.sl .u8 l)]:=by
 refine Sound.o X Tryz.call83 Tryz.func83 Tryz.ntmps83 rfl rfl ?_
 intro zb
 have hl:l.length≤1048576:=hx
 refine W.s0 X [0] rfl ⟨⟩ ?_
 refine W.s0 X [0,3] rfl (by and_intros<;>first|exact⟨⟩| (intros;omega)|exact rfl| (simp only[cT,maxLen,lens];omega)) ?_
 refine W.seq ?_
 refine W.s0 X [0,3,4] rfl ⟨⟩ ?_
 refine W.block ?_
 refine W.aE (fun k=>k≤l.length) (fun k:Nat=> [(4, .one (.a (.lit (.int .i64 k))))]) (fun k=> [(7, .arr .u8 (l.take k++List.replicate (l.length-k) (au .u8)))]) (fun k=>l.length-k) 0 (fun k=>rfl) (Nat.zero_le _) rfl ?_
 intro k hk
 refine W.seq ?_
 refine W.s0 X [0,3,4,11] rfl ⟨⟩ ?_
 refine W.cond rfl (fun hb0=> ?_) (fun hb0=> ?_)
 ·try simp only[nb]at hb0
  have rN:=rS l (au .u8) k (by omega)
  refine W.skip ?_
  refine W.seq ?_
  refine W.block ?_
  refine W.r0 X [0,3,4] rfl (by and_intros<;>first|exact⟨⟩| (intros;omega)|exact(u8n _).2) ?_
  have e1:=nR l (au .u8) k hb0
  refine W.r0 X [0,3,4] rfl ⟨⟩ ?_
  refine⟨k+1,by omega,by omega,?_⟩
  rw[NT]
  rw[aR _ k rfl (by omega), ←e1]
  try rfl
 ·try simp only[nb]at hb0
  refine W.exit ?_
  refine W.s0 X [2] rfl ⟨⟩ ?_
  refine W.ret ?_
  exact Fin.ret rfl ⟨by rw[List.take_of_length_le (by omega),show l.length-k=0 by omega,List.replicate_zero,List.append_nil],⟨⟩⟩
theorem xV(l:(List (List UInt8)))(hx:((bX List.length) l)≤1048576):Sound ty Tryz.prog 412 [.a (.sl (.sl .u8) l)] [.a (.sl (.sl .u8) l)]:=by
 refine Sound.o X Tryz.call412 Tryz.func412 Tryz.ntmps412 rfl rfl ?_
 intro zb
 have hl:l.length≤1048576:=cI hx
 refine W.s0 X [0] rfl ⟨⟩ ?_
 refine W.s0 X [0,3] rfl (by and_intros<;>first|exact⟨⟩| (intros;omega)|exact rfl| (simp only[cT,maxLen,lens];omega)) ?_
 refine W.seq ?_
 refine W.s0 X [0,3,4] rfl ⟨⟩ ?_
 refine W.block ?_
 refine W.aE (fun k=>k≤l.length) (fun k:Nat=> [(4, .one (.a (.lit (.int .i64 k))))]) (fun k=> [(7, .arr (.sl .u8) (l.take k++List.replicate (l.length-k) (au (.sl .u8))))]) (fun k=>l.length-k) 0 (fun k=>rfl) (Nat.zero_le _) rfl ?_
 intro k hk
 refine W.seq ?_
 refine W.s0 X [0,3,4,11] rfl ⟨⟩ ?_
 refine W.cond rfl (fun hb0=> ?_) (fun hb0=> ?_)
 ·try simp only[nb]at hb0
  have rN:=rS l (au (.sl .u8)) k (by omega)
  refine W.skip ?_
  refine W.seq ?_
  refine W.block ?_
  refine W.cD X [(20,300)] [(20,⟨true,[.a (.sl .u8 (l.getD k (au (.sl .u8))))]⟩)] [0,3,4] [] rfl (by(repeat' with_reducible first|exact aj.nil|refine aj.mk ?_ ?_|apply And.intro)<;>first|exact ry (l.getD k (au (.sl .u8))) (gF hx (getD_some l _ k hb0))| (intros;omega)) ?_
  have e1:=nR l (au (.sl .u8)) k hb0
  refine W.r0 X [0,3,4] rfl ⟨⟩ ?_
  refine⟨k+1,by omega,by omega,?_⟩
  rw[aR _ k rfl (by omega), ←e1]
  try rfl
 ·try simp only[nb]at hb0
  refine W.exit ?_
  refine W.s0 X [2] rfl ⟨⟩ ?_
  refine W.ret ?_
  exact Fin.ret rfl ⟨by rw[List.take_of_length_le (by omega),show l.length-k=0 by omega,List.replicate_zero,List.append_nil],⟨⟩⟩
theorem Aa(x:DB)(hx:eF x≤1048576):Sound ty Tryz.prog 413 [.agg (aF x)] [.agg (aF x)]:=by
 refine Sound.o X Tryz.call413 Tryz.func413 Tryz.ntmps413 rfl rfl ?_
 intro zb
 have vU:=hx
 unfold eF at vU
 refine W.s0 X [1,2] rfl ⟨⟩ ?_
 refine W.s0 X [1,2,3] rfl ⟨⟩ ?_
 refine W.sr X [(6,230)] [(6,⟨true,[.a (.sl (.sl .u8) x.rows)]⟩)] [2,3] [] rfl ⟨xV x.rows (by omega),⟨⟩⟩ ?_
 refine W.s0 X [2] rfl (by and_intros<;>exact⟨⟩) ?_
 refine W.ret ?_
 exact Fin.ret rfl (by(repeat' (first|exact True.intro|apply And.intro))<;>rfl)
theorem Ab(x:ay)(hx:aZ x≤1048576):Sound ty Tryz.prog 373 [.agg (dW x)] [.agg (dW x)]:=by
 refine Sound.o X Tryz.call373 Tryz.func373 Tryz.ntmps373 rfl rfl ?_
 intro zb
 have vU:=hx
 unfold aZ at vU
 refine W.s0 X [1,2] rfl ⟨⟩ ?_
 refine W.s0 X [1,2,3] rfl ⟨⟩ ?_
 refine W.s0 X [1,2,3] rfl ⟨⟩ ?_
 refine W.sr X [(9,230)] [(9,⟨true,[.agg (aF x.db)]⟩)] [2,3] [] rfl ⟨Aa x.db (by omega),⟨⟩⟩ ?_
 refine W.s0 X [2] rfl (by and_intros<;>exact⟨⟩) ?_
 refine W.ret ?_
 exact Fin.ret rfl (by(repeat' (first|exact True.intro|apply And.intro))<;>rfl)
theorem xW(l:(List ay))(hx:((bX aZ) l)≤1048576):Sound ty Tryz.prog 304 [.a (.sl .ay l)] [.a (.sl .ay l)]:=by
 refine Sound.o X Tryz.call304 Tryz.func304 Tryz.ntmps304 rfl rfl ?_
 intro zb
 have hl:l.length≤1048576:=cI hx
 refine W.s0 X [0] rfl ⟨⟩ ?_
 refine W.s0 X [0,3] rfl (by and_intros<;>first|exact⟨⟩| (intros;omega)|exact rfl| (simp only[cT,maxLen,lens];omega)) ?_
 refine W.seq ?_
 refine W.s0 X [0,3,4] rfl ⟨⟩ ?_
 refine W.block ?_
 refine W.aE (fun k=>k≤l.length) (fun k:Nat=> [(4, .one (.a (.lit (.int .i64 k))))]) (fun k=> [(7, .arr .ay (l.take k++List.replicate (l.length-k) (au .ay)))]) (fun k=>l.length-k) 0 (fun k=>rfl) (Nat.zero_le _) rfl ?_
 intro k hk
 refine W.seq ?_
 refine W.s0 X [0,3,4,11] rfl ⟨⟩ ?_
 refine W.cond rfl (fun hb0=> ?_) (fun hb0=> ?_)
 ·try simp only[nb]at hb0
  have rN:=rS l (au .ay) k (by omega)
  refine W.skip ?_
  refine W.seq ?_
  refine W.block ?_
  refine W.cD X [(20,300)] [(20,⟨true,[.agg (dW (l.getD k (au .ay)))]⟩)] [0,3,4] [] rfl (by(repeat' with_reducible first|exact aj.nil|refine aj.mk ?_ ?_|apply And.intro)<;>first|exact Ab (l.getD k (au .ay)) (gF hx (getD_some l _ k hb0))| (intros;omega)) ?_
  have e1:=nR l (au .ay) k hb0
  refine W.r0 X [0,3,4] rfl ⟨⟩ ?_
  refine⟨k+1,by omega,by omega,?_⟩
  rw[aR _ k rfl (by omega), ←e1]
  try rfl
 ·try simp only[nb]at hb0
  refine W.exit ?_
  refine W.s0 X [2] rfl ⟨⟩ ?_
  refine W.ret ?_
  exact Fin.ret rfl ⟨by rw[List.take_of_length_le (by omega),show l.length-k=0 by omega,List.replicate_zero,List.append_nil],⟨⟩⟩
theorem Lb(x:gW)(hx:cB x≤1048576):Sound ty Tryz.prog 201 [.agg (ck x)] [.agg (ck x)]:=by
 refine Sound.o X Tryz.call201 Tryz.func201 Tryz.ntmps201 rfl rfl ?_
 intro zb
 have vU:=hx
 unfold cB at vU
 refine W.s0 X [1,2] rfl ⟨⟩ ?_
 refine W.s0 X [1,2,3] rfl ⟨⟩ ?_
 refine W.s0 X [1,2,3] rfl ⟨⟩ ?_
 refine W.sr X [(9,230)] [(9,⟨true,[.a (.sl .ay x.rounds)]⟩)] [2,3] [] rfl ⟨xW x.rounds (by omega),⟨⟩⟩ ?_
 refine W.s0 X [2] rfl (by and_intros<;>exact⟨⟩) ?_
 refine W.ret ?_
 exact Fin.ret rfl (by(repeat' (first|exact True.intro|apply And.intro))<;>rfl)
theorem Fh(x:ep)(hx:bD x≤1048576):Sound ty Tryz.prog 372 [.agg (bn x)] [.agg (bn x)]:=by
 refine Sound.o X Tryz.call372 Tryz.func372 Tryz.ntmps372 rfl rfl ?_
 intro zb
 have vU:=hx
 unfold bD at vU
 refine W.s0 X [1,2] rfl ⟨⟩ ?_
 refine W.s0 X [1,2,3] rfl ⟨⟩ ?_
 refine W.s0 X [1,2,3] rfl ⟨⟩ ?_
 refine W.s0 X [1,2,3] rfl ⟨⟩ ?_
 refine W.s0 X [1,2,3] rfl ⟨⟩ ?_
 refine W.s0 X [1,2,3] rfl ⟨⟩ ?_
 refine W.sr X [(18,230)] [(18,⟨true,[.a (.sl (.sl .u8) x.av)]⟩)] [1,2,3] [] rfl ⟨xV x.av (by omega),⟨⟩⟩ ?_
 refine W.s0 X [1,2,3] rfl ⟨⟩ ?_
 refine W.sr X [(25,260)] [(25,⟨true,[.a (.sl (.sl .u8) x.inbox)]⟩)] [1,2,3] [] rfl ⟨xV x.inbox (by omega),⟨⟩⟩ ?_
 refine W.s0 X [2,3] rfl ⟨⟩ ?_
 refine W.s0 X [2] rfl (by and_intros<;>exact⟨⟩) ?_
 refine W.ret ?_
 exact Fin.ret rfl (by(repeat' (first|exact True.intro|apply And.intro))<;>rfl)
theorem M5(x:aL)(hx:aP x≤1048576):Sound ty Tryz.prog 303 [.agg (bz x)] [.agg (bz x)]:=by
 refine Sound.o X Tryz.call303 Tryz.func303 Tryz.ntmps303 rfl rfl ?_
 intro zb
 have vU:=hx
 unfold aP at vU
 refine W.s0 X [1,2] rfl ⟨⟩ ?_
 refine W.s0 X [1,2,3] rfl ⟨⟩ ?_
 refine W.sr X [(6,230)] [(6,⟨true,[.agg (bn x.live)]⟩)] [1,2,3] [] rfl ⟨Fh x.live (by omega),⟨⟩⟩ ?_
 refine W.sr X [(10,260)] [(10,⟨true,[.agg (bn x.saved)]⟩)] [2,3] [] rfl ⟨Fh x.saved (by omega),⟨⟩⟩ ?_
 refine W.s0 X [2] rfl (by and_intros<;>exact⟨⟩) ?_
 refine W.ret ?_
 exact Fin.ret rfl (by(repeat' (first|exact True.intro|apply And.intro))<;>rfl)
theorem Lc(l:(List aL))(hx:((bX aP) l)≤1048576):Sound ty Tryz.prog 200 [.a (.sl .aL l)] [.a (.sl .aL l)]:=by
 refine Sound.o X Tryz.call200 Tryz.func200 Tryz.ntmps200 rfl rfl ?_
 intro zb
 have hl:l.length≤1048576:=cI hx
 refine W.s0 X [0] rfl ⟨⟩ ?_
 refine W.s0 X [0,3] rfl (by and_intros<;>first|exact⟨⟩| (intros;omega)|exact rfl| (simp only[cT,maxLen,lens];omega)) ?_
 refine W.seq ?_
 refine W.s0 X [0,3,4] rfl ⟨⟩ ?_
 refine W.block ?_
 refine W.aE (fun k=>k≤l.length) (fun k:Nat=> [(4, .one (.a (.lit (.int .i64 k))))]) (fun k=> [(7, .arr .aL (l.take k++List.replicate (l.length-k) (au .aL)))]) (fun k=>l.length-k) 0 (fun k=>rfl) (Nat.zero_le _) rfl ?_
 intro k hk
 refine W.seq ?_
 refine W.s0 X [0,3,4,11] rfl ⟨⟩ ?_
 refine W.cond rfl (fun hb0=> ?_) (fun hb0=> ?_)
 ·try simp only[nb]at hb0
  have rN:=rS l (au .aL) k (by omega)
  refine W.skip ?_
  refine W.seq ?_
  refine W.block ?_
  refine W.cD X [(20,300)] [(20,⟨true,[.agg (bz (l.getD k (au .aL)))]⟩)] [0,3,4] [] rfl (by(repeat' with_reducible first|exact aj.nil|refine aj.mk ?_ ?_|apply And.intro)<;>first|exact M5 (l.getD k (au .aL)) (gF hx (getD_some l _ k hb0))| (intros;omega)) ?_
  have e1:=nR l (au .aL) k hb0
  refine W.r0 X [0,3,4] rfl ⟨⟩ ?_
  refine⟨k+1,by omega,by omega,?_⟩
  rw[aR _ k rfl (by omega), ←e1]
  try rfl
 ·try simp only[nb]at hb0
  refine W.exit ?_
  refine W.s0 X [2] rfl ⟨⟩ ?_
  refine W.ret ?_
  exact Fin.ret rfl ⟨by rw[List.take_of_length_le (by omega),show l.length-k=0 by omega,List.replicate_zero,List.append_nil],⟨⟩⟩
theorem UZ(l:(List Int))(hx:(List.length l)≤1048576):Sound ty Tryz.prog 202 [.a (.sl .int l)] [.a (.sl .int l)]:=by
 refine Sound.o X Tryz.call202 Tryz.func202 Tryz.ntmps202 rfl rfl ?_
 intro zb
 have hl:l.length≤1048576:=hx
 refine W.s0 X [0] rfl ⟨⟩ ?_
 refine W.s0 X [0,3] rfl (by and_intros<;>first|exact⟨⟩| (intros;omega)|exact rfl| (simp only[cT,maxLen,lens];omega)) ?_
 refine W.seq ?_
 refine W.s0 X [0,3,4] rfl ⟨⟩ ?_
 refine W.block ?_
 refine W.aE (fun k=>k≤l.length) (fun k:Nat=> [(4, .one (.a (.lit (.int .i64 k))))]) (fun k=> [(7, .arr .int (l.take k++List.replicate (l.length-k) (au .int)))]) (fun k=>l.length-k) 0 (fun k=>rfl) (Nat.zero_le _) rfl ?_
 intro k hk
 refine W.seq ?_
 refine W.s0 X [0,3,4,11] rfl ⟨⟩ ?_
 refine W.cond rfl (fun hb0=> ?_) (fun hb0=> ?_)
 ·try simp only[nb]at hb0
  have rN:=rS l (au .int) k (by omega)
  refine W.skip ?_
  refine W.seq ?_
  refine W.block ?_
  refine W.r0 X [0,3,4] rfl (by and_intros<;>first|exact⟨⟩| (intros;omega)) ?_
  have e1:=nR l (au .int) k hb0
  refine W.r0 X [0,3,4] rfl ⟨⟩ ?_
  refine⟨k+1,by omega,by omega,?_⟩
  rw[aR _ k rfl (by omega), ←e1]
  try rfl
 ·try simp only[nb]at hb0
  refine W.exit ?_
  refine W.s0 X [2] rfl ⟨⟩ ?_
  refine W.ret ?_
  exact Fin.ret rfl ⟨by rw[List.take_of_length_le (by omega),show l.length-k=0 by omega,List.replicate_zero,List.append_nil],⟨⟩⟩
theorem Ac(x:aA)(hx:bI x≤1048576):Sound ty Tryz.prog 411 [.agg (dI x)] [.agg (dI x)]:=by
 refine Sound.o X Tryz.call411 Tryz.func411 Tryz.ntmps411 rfl rfl ?_
 intro zb
 have vU:=hx
 unfold bI at vU
 refine W.s0 X [1,2] rfl ⟨⟩ ?_
 refine W.s0 X [1,2,3] rfl ⟨⟩ ?_
 refine W.s0 X [1,2,3] rfl ⟨⟩ ?_
 refine W.sr X [(9,230)] [(9,⟨true,[.agg (aF x.share)]⟩)] [2,3] [] rfl ⟨Aa x.share (by omega),⟨⟩⟩ ?_
 refine W.s0 X [2] rfl (by and_intros<;>exact⟨⟩) ?_
 refine W.ret ?_
 exact Fin.ret rfl (by(repeat' (first|exact True.intro|apply And.intro))<;>rfl)
theorem xX(l:(List aA))(hx:((bX bI) l)≤1048576):Sound ty Tryz.prog 371 [.a (.sl .aA l)] [.a (.sl .aA l)]:=by
 refine Sound.o X Tryz.call371 Tryz.func371 Tryz.ntmps371 rfl rfl ?_
 intro zb
 have hl:l.length≤1048576:=cI hx
 refine W.s0 X [0] rfl ⟨⟩ ?_
 refine W.s0 X [0,3] rfl (by and_intros<;>first|exact⟨⟩| (intros;omega)|exact rfl| (simp only[cT,maxLen,lens];omega)) ?_
 refine W.seq ?_
 refine W.s0 X [0,3,4] rfl ⟨⟩ ?_
 refine W.block ?_
 refine W.aE (fun k=>k≤l.length) (fun k:Nat=> [(4, .one (.a (.lit (.int .i64 k))))]) (fun k=> [(7, .arr .aA (l.take k++List.replicate (l.length-k) (au .aA)))]) (fun k=>l.length-k) 0 (fun k=>rfl) (Nat.zero_le _) rfl ?_
 intro k hk
 refine W.seq ?_
 refine W.s0 X [0,3,4,11] rfl ⟨⟩ ?_
 refine W.cond rfl (fun hb0=> ?_) (fun hb0=> ?_)
 ·try simp only[nb]at hb0
  have rN:=rS l (au .aA) k (by omega)
  refine W.skip ?_
  refine W.seq ?_
  refine W.block ?_
  refine W.cD X [(20,300)] [(20,⟨true,[.agg (dI (l.getD k (au .aA)))]⟩)] [0,3,4] [] rfl (by(repeat' with_reducible first|exact aj.nil|refine aj.mk ?_ ?_|apply And.intro)<;>first|exact Ac (l.getD k (au .aA)) (gF hx (getD_some l _ k hb0))| (intros;omega)) ?_
  have e1:=nR l (au .aA) k hb0
  refine W.r0 X [0,3,4] rfl ⟨⟩ ?_
  refine⟨k+1,by omega,by omega,?_⟩
  rw[aR _ k rfl (by omega), ←e1]
  try rfl
 ·try simp only[nb]at hb0
  refine W.exit ?_
  refine W.s0 X [2] rfl ⟨⟩ ?_
  refine W.ret ?_
  exact Fin.ret rfl ⟨by rw[List.take_of_length_le (by omega),show l.length-k=0 by omega,List.replicate_zero,List.append_nil],⟨⟩⟩
theorem M6(x:aO)(hx:bp x≤1048576):Sound ty Tryz.prog 302 [.agg (bq x)] [.agg (bq x)]:=by
 refine Sound.o X Tryz.call302 Tryz.func302 Tryz.ntmps302 rfl rfl ?_
 intro zb
 have vU:=hx
 unfold bp at vU
 refine W.s0 X [1,2] rfl ⟨⟩ ?_
 refine W.s0 X [1,2,3] rfl ⟨⟩ ?_
 refine W.s0 X [1,2,3] rfl ⟨⟩ ?_
 refine W.s0 X [1,2,3] rfl ⟨⟩ ?_
 refine W.s0 X [1,2,3] rfl ⟨⟩ ?_
 refine W.sr X [(15,230)] [(15,⟨true,[.a (.sl .aA x.received)]⟩)] [1,2,3] [] rfl ⟨xX x.received (by omega),⟨⟩⟩ ?_
 refine W.s0 X [2,3] rfl ⟨⟩ ?_
 refine W.s0 X [2] rfl (by and_intros<;>exact⟨⟩) ?_
 refine W.ret ?_
 exact Fin.ret rfl (by(repeat' (first|exact True.intro|apply And.intro))<;>rfl)
theorem Ld(l:(List aO))(hx:((bX bp) l)≤1048576):Sound ty Tryz.prog 199 [.a (.sl .aO l)] [.a (.sl .aO l)]:=by
 refine Sound.o X Tryz.call199 Tryz.func199 Tryz.ntmps199 rfl rfl ?_
 intro zb
 have hl:l.length≤1048576:=cI hx
 refine W.s0 X [0] rfl ⟨⟩ ?_
 refine W.s0 X [0,3] rfl (by and_intros<;>first|exact⟨⟩| (intros;omega)|exact rfl| (simp only[cT,maxLen,lens];omega)) ?_
 refine W.seq ?_
 refine W.s0 X [0,3,4] rfl ⟨⟩ ?_
 refine W.block ?_
 refine W.aE (fun k=>k≤l.length) (fun k:Nat=> [(4, .one (.a (.lit (.int .i64 k))))]) (fun k=> [(7, .arr .aO (l.take k++List.replicate (l.length-k) (au .aO)))]) (fun k=>l.length-k) 0 (fun k=>rfl) (Nat.zero_le _) rfl ?_
 intro k hk
 refine W.seq ?_
 refine W.s0 X [0,3,4,11] rfl ⟨⟩ ?_
 refine W.cond rfl (fun hb0=> ?_) (fun hb0=> ?_)
 ·try simp only[nb]at hb0
  have rN:=rS l (au .aO) k (by omega)
  refine W.skip ?_
  refine W.seq ?_
  refine W.block ?_
  refine W.cD X [(20,300)] [(20,⟨true,[.agg (bq (l.getD k (au .aO)))]⟩)] [0,3,4] [] rfl (by(repeat' with_reducible first|exact aj.nil|refine aj.mk ?_ ?_|apply And.intro)<;>first|exact M6 (l.getD k (au .aO)) (gF hx (getD_some l _ k hb0))| (intros;omega)) ?_
  have e1:=nR l (au .aO) k hb0
  refine W.r0 X [0,3,4] rfl ⟨⟩ ?_
  refine⟨k+1,by omega,by omega,?_⟩
  rw[aR _ k rfl (by omega), ←e1]
  try rfl
 ·try simp only[nb]at hb0
  refine W.exit ?_
  refine W.s0 X [2] rfl ⟨⟩ ?_
  refine W.ret ?_
  exact Fin.ret rfl ⟨by rw[List.take_of_length_le (by omega),show l.length-k=0 by omega,List.replicate_zero,List.append_nil],⟨⟩⟩
theorem jY(x:aJ)(hx:dB x≤1048576):Sound ty Tryz.prog 76 [.agg (aG x)] [.agg (aG x)]:=by
 refine Sound.o X Tryz.call76 Tryz.func76 Tryz.ntmps76 rfl rfl ?_
 intro zb
 have vU:=hx
 unfold dB at vU
 refine W.s0 X [1,2] rfl ⟨⟩ ?_
 refine W.s0 X [1,2,3] rfl ⟨⟩ ?_
 refine W.s0 X [1,2,3] rfl ⟨⟩ ?_
 refine W.sr X [(9,230)] [(9,⟨true,[.a (.sl .aO x.ah)]⟩)] [1,2,3] [] rfl ⟨Ld x.ah (by omega),⟨⟩⟩ ?_
 refine W.sr X [(13,260)] [(13,⟨true,[.a (.sl .aL x.af)]⟩)] [1,2,3] [] rfl ⟨Lc x.af (by omega),⟨⟩⟩ ?_
 refine W.sr X [(17,290)] [(17,⟨true,[.agg (ck x.ak)]⟩)] [1,2,3] [] rfl ⟨Lb x.ak (by omega),⟨⟩⟩ ?_
 refine W.s0 X [1,2,3] rfl ⟨⟩ ?_
 refine W.s0 X [1,2,3] rfl ⟨⟩ ?_
 refine W.s0 X [1,2,3] rfl ⟨⟩ ?_
 refine W.sr X [(30,320)] [(30,⟨true,[.a (.sl .int x.replaced)]⟩)] [1,2,3] [] rfl ⟨UZ x.replaced (by omega),⟨⟩⟩ ?_
 refine W.s0 X [2,3] rfl ⟨⟩ ?_
 refine W.s0 X [2] rfl (by and_intros<;>exact⟨⟩) ?_
 refine W.ret ?_
 exact Fin.ret rfl (by(repeat' (first|exact True.intro|apply And.intro))<;>rfl)
end
section
set_option maxRecDepth 100000
theorem GW(l:(List UInt8)):Sound ty Tryz.prog 85 [.a (.sl .u8 l), .a (.sl .u8 l)] [.a (.lit (.bool true))]:=by
 refine Sound.o X Tryz.call85 Tryz.func85 Tryz.ntmps85 rfl rfl ?_
 intro zb
 refine W.bound 0 rfl fun hl=> ?_
 refine W.s0 X [0,1] rfl ⟨⟩ ?_
 refine W.seq ?_
 refine W.s0 X [0,1,10] rfl ⟨⟩ ?_
 refine W.cond rfl (fun hb0=> ?_) (fun hb0=> ?_)
 ·exact absurd hb0 (by simp)
 ·clear hb0
  refine W.skip ?_
  refine W.seq ?_
  refine W.s0 X [0,1,5] rfl ⟨⟩ ?_
  refine W.block ?_
  refine W.aE (fun k=>k≤l.length) (fun k:Nat=> [(5, .one (.a (.lit (.int .i64 k))))]) (fun k=> []) (fun k=>l.length-k) 0 (fun k=>rfl) (Nat.zero_le _) rfl ?_
  intro k hk
  refine W.seq ?_
  refine W.s0 X [0,1,5,14] rfl ⟨⟩ ?_
  refine W.cond rfl (fun aB=> ?_) (fun aB=> ?_)
  ·try simp only[nb]at aB
   refine W.skip ?_
   refine W.seq ?_
   refine W.block ?_
   refine W.sd X [] [] [0,1,5,25] [] 9 MO (by kernel_rfl) rfl (by and_intros<;>first|exact⟨⟩| (intros;omega)) ?_
   refine W.cond rfl (fun aM=> ?_) (fun aM=> ?_)
   ·exact absurd aM (by simp)
   ·clear aM
    refine W.skip ?_
    refine W.r0 X [0,1,5] rfl ⟨⟩ ?_
    refine⟨k+1,by omega,by omega,?_⟩
    rw[aR _ k rfl (by omega)]
    try rfl
  ·try simp only[nb]at aB
   refine W.exit ?_
   refine W.s0 X [4] rfl ⟨⟩ ?_
   refine W.ret ?_
   exact Fin.ret rfl ⟨rfl,⟨⟩⟩
theorem xY(l:(List (List UInt8))):Sound ty Tryz.prog 315 [.a (.sl (.sl .u8) l), .a (.sl (.sl .u8) l)] [.a (.lit (.bool true))]:=by
 refine Sound.o X Tryz.call315 Tryz.func315 Tryz.ntmps315 rfl rfl ?_
 intro zb
 refine W.bound 0 rfl fun hl=> ?_
 refine W.s0 X [0,1] rfl ⟨⟩ ?_
 refine W.seq ?_
 refine W.s0 X [0,1,10] rfl ⟨⟩ ?_
 refine W.cond rfl (fun hb0=> ?_) (fun hb0=> ?_)
 ·exact absurd hb0 (by simp)
 ·clear hb0
  refine W.skip ?_
  refine W.seq ?_
  refine W.s0 X [0,1,5] rfl ⟨⟩ ?_
  refine W.block ?_
  refine W.aE (fun k=>k≤l.length) (fun k:Nat=> [(5, .one (.a (.lit (.int .i64 k))))]) (fun k=> []) (fun k=>l.length-k) 0 (fun k=>rfl) (Nat.zero_le _) rfl ?_
  intro k hk
  refine W.seq ?_
  refine W.s0 X [0,1,5,14] rfl ⟨⟩ ?_
  refine W.cond rfl (fun aB=> ?_) (fun aB=> ?_)
  ·try simp only[nb]at aB
   refine W.skip ?_
   refine W.seq ?_
   refine W.block ?_
   refine W.sd X [] [(25,⟨false,[.a (.lit (.bool true))]⟩)] [0,1,5,26] [] 10 MO (by kernel_rfl) rfl ⟨GW (l.getD k (au (.sl .u8))),by omega,by omega,⟨⟩⟩ ?_
   refine W.cond rfl (fun aM=> ?_) (fun aM=> ?_)
   ·exact absurd aM (by simp)
   ·clear aM
    refine W.skip ?_
    refine W.r0 X [0,1,5] rfl ⟨⟩ ?_
    refine⟨k+1,by omega,by omega,?_⟩
    rw[aR _ k rfl (by omega)]
    try rfl
  ·try simp only[nb]at aB
   refine W.exit ?_
   refine W.s0 X [4] rfl ⟨⟩ ?_
   refine W.ret ?_
   exact Fin.ret rfl ⟨rfl,⟨⟩⟩
theorem sC(x:DB):Sound ty Tryz.prog 214 [.agg (aF x), .agg (aF x)] [.a (.lit (.bool true))]:=by
 refine Sound.o X Tryz.call214 Tryz.func214 Tryz.ntmps214 rfl rfl ?_
 intro zb
 refine W.s0 X [2,3] rfl ⟨⟩ ?_
 refine W.seq ?_
 refine W.sr X [] [(9,⟨false,[.a (.lit (.bool true))]⟩)] [10] [] rfl ⟨xY x.rows,⟨⟩⟩ ?_
 refine W.cond rfl (fun hb0=> ?_) (fun hb0=> ?_)
 ·exact absurd hb0 (by simp)
 ·clear hb0
  refine W.skip ?_
  refine W.s0 X [4] rfl ⟨⟩ ?_
  refine W.ret ?_
  exact Fin.ret rfl ⟨rfl,⟨⟩⟩
theorem Ad(x:ay):Sound ty Tryz.prog 376 [.agg (dW x), .agg (dW x)] [.a (.lit (.bool true))]:=by
 refine Sound.o X Tryz.call376 Tryz.func376 Tryz.ntmps376 rfl rfl ?_
 intro zb
 refine W.s0 X [2,3] rfl ⟨⟩ ?_
 refine W.seq ?_
 refine W.s0 X [2,3,9] rfl ⟨⟩ ?_
 refine W.cond rfl (fun hb0=> ?_) (fun hb0=> ?_)
 ·exact absurd hb0 (by simp)
 ·clear hb0
  refine W.skip ?_
  refine W.seq ?_
  refine W.sr X [] [(14,⟨false,[.a (.lit (.bool true))]⟩)] [15] [] rfl ⟨sC x.db,⟨⟩⟩ ?_
  refine W.cond rfl (fun aB=> ?_) (fun aB=> ?_)
  ·exact absurd aB (by simp)
  ·clear aB
   refine W.skip ?_
   refine W.s0 X [4] rfl ⟨⟩ ?_
   refine W.ret ?_
   exact Fin.ret rfl ⟨rfl,⟨⟩⟩
theorem xZ(l:(List ay)):Sound ty Tryz.prog 307 [.a (.sl .ay l), .a (.sl .ay l)] [.a (.lit (.bool true))]:=by
 refine Sound.o X Tryz.call307 Tryz.func307 Tryz.ntmps307 rfl rfl ?_
 intro zb
 refine W.bound 0 rfl fun hl=> ?_
 refine W.s0 X [0,1] rfl ⟨⟩ ?_
 refine W.seq ?_
 refine W.s0 X [0,1,10] rfl ⟨⟩ ?_
 refine W.cond rfl (fun hb0=> ?_) (fun hb0=> ?_)
 ·exact absurd hb0 (by simp)
 ·clear hb0
  refine W.skip ?_
  refine W.seq ?_
  refine W.s0 X [0,1,5] rfl ⟨⟩ ?_
  refine W.block ?_
  refine W.aE (fun k=>k≤l.length) (fun k:Nat=> [(5, .one (.a (.lit (.int .i64 k))))]) (fun k=> []) (fun k=>l.length-k) 0 (fun k=>rfl) (Nat.zero_le _) rfl ?_
  intro k hk
  refine W.seq ?_
  refine W.s0 X [0,1,5,14] rfl ⟨⟩ ?_
  refine W.cond rfl (fun aB=> ?_) (fun aB=> ?_)
  ·try simp only[nb]at aB
   refine W.skip ?_
   refine W.seq ?_
   refine W.block ?_
   refine W.sd X [] [(25,⟨false,[.a (.lit (.bool true))]⟩)] [0,1,5,26] [] 10 MO (by kernel_rfl) rfl ⟨Ad (l.getD k (au .ay)),by omega,by omega,⟨⟩⟩ ?_
   refine W.cond rfl (fun aM=> ?_) (fun aM=> ?_)
   ·exact absurd aM (by simp)
   ·clear aM
    refine W.skip ?_
    refine W.r0 X [0,1,5] rfl ⟨⟩ ?_
    refine⟨k+1,by omega,by omega,?_⟩
    rw[aR _ k rfl (by omega)]
    try rfl
  ·try simp only[nb]at aB
   refine W.exit ?_
   refine W.s0 X [4] rfl ⟨⟩ ?_
   refine W.ret ?_
   exact Fin.ret rfl ⟨rfl,⟨⟩⟩
theorem Le(x:gW):Sound ty Tryz.prog 206 [.agg (ck x), .agg (ck x)] [.a (.lit (.bool true))]:=by
 refine Sound.o X Tryz.call206 Tryz.func206 Tryz.ntmps206 rfl rfl ?_
 intro zb
 refine W.s0 X [2,3] rfl ⟨⟩ ?_
 refine W.seq ?_
 refine W.s0 X [2,3,9] rfl ⟨⟩ ?_
 refine W.cond rfl (fun hb0=> ?_) (fun hb0=> ?_)
 ·exact absurd hb0 (by simp)
 ·clear hb0
  refine W.skip ?_
  refine W.seq ?_
  refine W.sr X [] [(14,⟨false,[.a (.lit (.bool true))]⟩)] [15] [] rfl ⟨xZ x.rounds,⟨⟩⟩ ?_
  refine W.cond rfl (fun aB=> ?_) (fun aB=> ?_)
  ·exact absurd aB (by simp)
  ·clear aB
   refine W.skip ?_
   refine W.s0 X [4] rfl ⟨⟩ ?_
   refine W.ret ?_
   exact Fin.ret rfl ⟨rfl,⟨⟩⟩
theorem Fi(x:ep):Sound ty Tryz.prog 375 [.agg (bn x), .agg (bn x)] [.a (.lit (.bool true))]:=by
 refine Sound.o X Tryz.call375 Tryz.func375 Tryz.ntmps375 rfl rfl ?_
 intro zb
 refine W.s0 X [2,3] rfl ⟨⟩ ?_
 refine W.seq ?_
 refine W.s0 X [2,3,9] rfl ⟨⟩ ?_
 refine W.cond rfl (fun hb0=> ?_) (fun hb0=> ?_)
 ·exact absurd hb0 (by simp)
 ·clear hb0
  refine W.skip ?_
  refine W.seq ?_
  refine W.s0 X [2,3,14] rfl ⟨⟩ ?_
  refine W.cond rfl (fun aB=> ?_) (fun aB=> ?_)
  ·exact absurd aB (by simp)
  ·clear aB
   refine W.skip ?_
   refine W.seq ?_
   refine W.s0 X [2,3,19] rfl ⟨⟩ ?_
   refine W.cond rfl (fun aM=> ?_) (fun aM=> ?_)
   ·exact absurd aM (by simp)
   ·clear aM
    refine W.skip ?_
    refine W.seq ?_
    refine W.s0 X [2,3,24] rfl ⟨⟩ ?_
    refine W.cond rfl (fun gB=> ?_) (fun gB=> ?_)
    ·exact absurd gB (by simp)
    ·clear gB
     refine W.skip ?_
     refine W.seq ?_
     refine W.sr X [] [(29,⟨false,[.a (.lit (.bool true))]⟩)] [2,3,30] [] rfl ⟨xY x.av,⟨⟩⟩ ?_
     refine W.cond rfl (fun rz=> ?_) (fun rz=> ?_)
     ·exact absurd rz (by simp)
     ·clear rz
      refine W.skip ?_
      refine W.seq ?_
      refine W.s0 X [2,3,35] rfl ⟨⟩ ?_
      refine W.cond rfl (fun E7=> ?_) (fun E7=> ?_)
      ·exact absurd E7 (by simp)
      ·clear E7
       refine W.skip ?_
       refine W.seq ?_
       refine W.sr X [] [(40,⟨false,[.a (.lit (.bool true))]⟩)] [2,3,41] [] rfl ⟨xY x.inbox,⟨⟩⟩ ?_
       refine W.cond rfl (fun C5=> ?_) (fun C5=> ?_)
       ·exact absurd C5 (by simp)
       ·clear C5
        refine W.skip ?_
        refine W.seq ?_
        refine W.s0 X [46] rfl ⟨⟩ ?_
        refine W.cond rfl (fun IC=> ?_) (fun IC=> ?_)
        ·exact absurd IC (by simp)
        ·clear IC
         refine W.skip ?_
         refine W.s0 X [4] rfl ⟨⟩ ?_
         refine W.ret ?_
         exact Fin.ret rfl ⟨rfl,⟨⟩⟩
theorem M7(x:aL):Sound ty Tryz.prog 306 [.agg (bz x), .agg (bz x)] [.a (.lit (.bool true))]:=by
 refine Sound.o X Tryz.call306 Tryz.func306 Tryz.ntmps306 rfl rfl ?_
 intro zb
 refine W.s0 X [2,3] rfl ⟨⟩ ?_
 refine W.seq ?_
 refine W.sr X [] [(9,⟨false,[.a (.lit (.bool true))]⟩)] [2,3,10] [] rfl ⟨Fi x.live,⟨⟩⟩ ?_
 refine W.cond rfl (fun hb0=> ?_) (fun hb0=> ?_)
 ·exact absurd hb0 (by simp)
 ·clear hb0
  refine W.skip ?_
  refine W.seq ?_
  refine W.sr X [] [(15,⟨false,[.a (.lit (.bool true))]⟩)] [16] [] rfl ⟨Fi x.saved,⟨⟩⟩ ?_
  refine W.cond rfl (fun aB=> ?_) (fun aB=> ?_)
  ·exact absurd aB (by simp)
  ·clear aB
   refine W.skip ?_
   refine W.s0 X [4] rfl ⟨⟩ ?_
   refine W.ret ?_
   exact Fin.ret rfl ⟨rfl,⟨⟩⟩
theorem Lf(l:(List aL)):Sound ty Tryz.prog 205 [.a (.sl .aL l), .a (.sl .aL l)] [.a (.lit (.bool true))]:=by
 refine Sound.o X Tryz.call205 Tryz.func205 Tryz.ntmps205 rfl rfl ?_
 intro zb
 refine W.bound 0 rfl fun hl=> ?_
 refine W.s0 X [0,1] rfl ⟨⟩ ?_
 refine W.seq ?_
 refine W.s0 X [0,1,10] rfl ⟨⟩ ?_
 refine W.cond rfl (fun hb0=> ?_) (fun hb0=> ?_)
 ·exact absurd hb0 (by simp)
 ·clear hb0
  refine W.skip ?_
  refine W.seq ?_
  refine W.s0 X [0,1,5] rfl ⟨⟩ ?_
  refine W.block ?_
  refine W.aE (fun k=>k≤l.length) (fun k:Nat=> [(5, .one (.a (.lit (.int .i64 k))))]) (fun k=> []) (fun k=>l.length-k) 0 (fun k=>rfl) (Nat.zero_le _) rfl ?_
  intro k hk
  refine W.seq ?_
  refine W.s0 X [0,1,5,14] rfl ⟨⟩ ?_
  refine W.cond rfl (fun aB=> ?_) (fun aB=> ?_)
  ·try simp only[nb]at aB
   refine W.skip ?_
   refine W.seq ?_
   refine W.block ?_
   refine W.sd X [] [(25,⟨false,[.a (.lit (.bool true))]⟩)] [0,1,5,26] [] 10 MO (by kernel_rfl) rfl ⟨M7 (l.getD k (au .aL)),by omega,by omega,⟨⟩⟩ ?_
   refine W.cond rfl (fun aM=> ?_) (fun aM=> ?_)
   ·exact absurd aM (by simp)
   ·clear aM
    refine W.skip ?_
    refine W.r0 X [0,1,5] rfl ⟨⟩ ?_
    refine⟨k+1,by omega,by omega,?_⟩
    rw[aR _ k rfl (by omega)]
    try rfl
  ·try simp only[nb]at aB
   refine W.exit ?_
   refine W.s0 X [4] rfl ⟨⟩ ?_
   refine W.ret ?_
   exact Fin.ret rfl ⟨rfl,⟨⟩⟩
theorem Lg(l:(List Int)):Sound ty Tryz.prog 203 [.a (.sl .int l), .a (.sl .int l)] [.a (.lit (.bool true))]:=by
 refine Sound.o X Tryz.call203 Tryz.func203 Tryz.ntmps203 rfl rfl ?_
 intro zb
 refine W.bound 0 rfl fun hl=> ?_
 refine W.s0 X [0,1] rfl ⟨⟩ ?_
 refine W.seq ?_
 refine W.s0 X [0,1,10] rfl ⟨⟩ ?_
 refine W.cond rfl (fun hb0=> ?_) (fun hb0=> ?_)
 ·exact absurd hb0 (by simp)
 ·clear hb0
  refine W.skip ?_
  refine W.seq ?_
  refine W.s0 X [0,1,5] rfl ⟨⟩ ?_
  refine W.block ?_
  refine W.aE (fun k=>k≤l.length) (fun k:Nat=> [(5, .one (.a (.lit (.int .i64 k))))]) (fun k=> []) (fun k=>l.length-k) 0 (fun k=>rfl) (Nat.zero_le _) rfl ?_
  intro k hk
  refine W.seq ?_
  refine W.s0 X [0,1,5,14] rfl ⟨⟩ ?_
  refine W.cond rfl (fun aB=> ?_) (fun aB=> ?_)
  ·try simp only[nb]at aB
   refine W.skip ?_
   refine W.seq ?_
   refine W.block ?_
   refine W.sd X [] [] [0,1,5,25] [] 9 MO (by kernel_rfl) rfl (by and_intros<;>first|exact⟨⟩| (intros;omega)) ?_
   refine W.cond rfl (fun aM=> ?_) (fun aM=> ?_)
   ·exact absurd aM (by simp)
   ·clear aM
    refine W.skip ?_
    refine W.r0 X [0,1,5] rfl ⟨⟩ ?_
    refine⟨k+1,by omega,by omega,?_⟩
    rw[aR _ k rfl (by omega)]
    try rfl
  ·try simp only[nb]at aB
   refine W.exit ?_
   refine W.s0 X [4] rfl ⟨⟩ ?_
   refine W.ret ?_
   exact Fin.ret rfl ⟨rfl,⟨⟩⟩
theorem Ae(x:aA):Sound ty Tryz.prog 414 [.agg (dI x), .agg (dI x)] [.a (.lit (.bool true))]:=by
 refine Sound.o X Tryz.call414 Tryz.func414 Tryz.ntmps414 rfl rfl ?_
 intro zb
 refine W.s0 X [2,3] rfl ⟨⟩ ?_
 refine W.seq ?_
 refine W.s0 X [2,3,9] rfl ⟨⟩ ?_
 refine W.cond rfl (fun hb0=> ?_) (fun hb0=> ?_)
 ·exact absurd hb0 (by simp)
 ·clear hb0
  refine W.skip ?_
  refine W.seq ?_
  refine W.sr X [] [(14,⟨false,[.a (.lit (.bool true))]⟩)] [15] [] rfl ⟨sC x.share,⟨⟩⟩ ?_
  refine W.cond rfl (fun aB=> ?_) (fun aB=> ?_)
  ·exact absurd aB (by simp)
  ·clear aB
   refine W.skip ?_
   refine W.s0 X [4] rfl ⟨⟩ ?_
   refine W.ret ?_
   exact Fin.ret rfl ⟨rfl,⟨⟩⟩
theorem ya(l:(List aA)):Sound ty Tryz.prog 374 [.a (.sl .aA l), .a (.sl .aA l)] [.a (.lit (.bool true))]:=by
 refine Sound.o X Tryz.call374 Tryz.func374 Tryz.ntmps374 rfl rfl ?_
 intro zb
 refine W.bound 0 rfl fun hl=> ?_
 refine W.s0 X [0,1] rfl ⟨⟩ ?_
 refine W.seq ?_
 refine W.s0 X [0,1,10] rfl ⟨⟩ ?_
 refine W.cond rfl (fun hb0=> ?_) (fun hb0=> ?_)
 ·exact absurd hb0 (by simp)
 ·clear hb0
  refine W.skip ?_
  refine W.seq ?_
  refine W.s0 X [0,1,5] rfl ⟨⟩ ?_
  refine W.block ?_
  refine W.aE (fun k=>k≤l.length) (fun k:Nat=> [(5, .one (.a (.lit (.int .i64 k))))]) (fun k=> []) (fun k=>l.length-k) 0 (fun k=>rfl) (Nat.zero_le _) rfl ?_
  intro k hk
  refine W.seq ?_
  refine W.s0 X [0,1,5,14] rfl ⟨⟩ ?_
  refine W.cond rfl (fun aB=> ?_) (fun aB=> ?_)
  ·try simp only[nb]at aB
   refine W.skip ?_
   refine W.seq ?_
   refine W.block ?_
   refine W.sd X [] [(25,⟨false,[.a (.lit (.bool true))]⟩)] [0,1,5,26] [] 10 MO (by kernel_rfl) rfl ⟨Ae (l.getD k (au .aA)),by omega,by omega,⟨⟩⟩ ?_
   refine W.cond rfl (fun aM=> ?_) (fun aM=> ?_)
   ·exact absurd aM (by simp)
   ·clear aM
    refine W.skip ?_
    refine W.r0 X [0,1,5] rfl ⟨⟩ ?_
    refine⟨k+1,by omega,by omega,?_⟩
    rw[aR _ k rfl (by omega)]
    try rfl
  ·try simp only[nb]at aB
   refine W.exit ?_
   refine W.s0 X [4] rfl ⟨⟩ ?_
   refine W.ret ?_
   exact Fin.ret rfl ⟨rfl,⟨⟩⟩
theorem M8(x:aO):Sound ty Tryz.prog 305 [.agg (bq x), .agg (bq x)] [.a (.lit (.bool true))]:=by
 refine Sound.o X Tryz.call305 Tryz.func305 Tryz.ntmps305 rfl rfl ?_
 intro zb
 refine W.s0 X [2,3] rfl ⟨⟩ ?_
 refine W.seq ?_
 refine W.s0 X [2,3,9] rfl ⟨⟩ ?_
 refine W.cond rfl (fun hb0=> ?_) (fun hb0=> ?_)
 ·exact absurd hb0 (by simp)
 ·clear hb0
  refine W.skip ?_
  refine W.seq ?_
  refine W.s0 X [2,3,14] rfl ⟨⟩ ?_
  refine W.cond rfl (fun aB=> ?_) (fun aB=> ?_)
  ·exact absurd aB (by simp)
  ·clear aB
   refine W.skip ?_
   refine W.seq ?_
   refine W.s0 X [2,3,19] rfl ⟨⟩ ?_
   refine W.cond rfl (fun aM=> ?_) (fun aM=> ?_)
   ·exact absurd aM (by simp)
   ·clear aM
    refine W.skip ?_
    refine W.seq ?_
    refine W.sr X [] [(24,⟨false,[.a (.lit (.bool true))]⟩)] [2,3,25] [] rfl ⟨ya x.received,⟨⟩⟩ ?_
    refine W.cond rfl (fun gB=> ?_) (fun gB=> ?_)
    ·exact absurd gB (by simp)
    ·clear gB
     refine W.skip ?_
     refine W.seq ?_
     refine W.s0 X [30] rfl ⟨⟩ ?_
     refine W.cond rfl (fun rz=> ?_) (fun rz=> ?_)
     ·exact absurd rz (by simp)
     ·clear rz
      refine W.skip ?_
      refine W.s0 X [4] rfl ⟨⟩ ?_
      refine W.ret ?_
      exact Fin.ret rfl ⟨rfl,⟨⟩⟩
theorem Lh(l:(List aO)):Sound ty Tryz.prog 204 [.a (.sl .aO l), .a (.sl .aO l)] [.a (.lit (.bool true))]:=by
 refine Sound.o X Tryz.call204 Tryz.func204 Tryz.ntmps204 rfl rfl ?_
 intro zb
 refine W.bound 0 rfl fun hl=> ?_
 refine W.s0 X [0,1] rfl ⟨⟩ ?_
 refine W.seq ?_
 refine W.s0 X [0,1,10] rfl ⟨⟩ ?_
 refine W.cond rfl (fun hb0=> ?_) (fun hb0=> ?_)
 ·exact absurd hb0 (by simp)
 ·clear hb0
  refine W.skip ?_
  refine W.seq ?_
  refine W.s0 X [0,1,5] rfl ⟨⟩ ?_
  refine W.block ?_
  refine W.aE (fun k=>k≤l.length) (fun k:Nat=> [(5, .one (.a (.lit (.int .i64 k))))]) (fun k=> []) (fun k=>l.length-k) 0 (fun k=>rfl) (Nat.zero_le _) rfl ?_
  intro k hk
  refine W.seq ?_
  refine W.s0 X [0,1,5,14] rfl ⟨⟩ ?_
  refine W.cond rfl (fun aB=> ?_) (fun aB=> ?_)
  ·try simp only[nb]at aB
   refine W.skip ?_
   refine W.seq ?_
   refine W.block ?_
   refine W.sd X [] [(25,⟨false,[.a (.lit (.bool true))]⟩)] [0,1,5,26] [] 10 MO (by kernel_rfl) rfl ⟨M8 (l.getD k (au .aO)),by omega,by omega,⟨⟩⟩ ?_
   refine W.cond rfl (fun aM=> ?_) (fun aM=> ?_)
   ·exact absurd aM (by simp)
   ·clear aM
    refine W.skip ?_
    refine W.r0 X [0,1,5] rfl ⟨⟩ ?_
    refine⟨k+1,by omega,by omega,?_⟩
    rw[aR _ k rfl (by omega)]
    try rfl
  ·try simp only[nb]at aB
   refine W.exit ?_
   refine W.s0 X [4] rfl ⟨⟩ ?_
   refine W.ret ?_
   exact Fin.ret rfl ⟨rfl,⟨⟩⟩
theorem GX(x:aJ):Sound ty Tryz.prog 78 [.agg (aG x), .agg (aG x)] [.a (.lit (.bool true))]:=by
 refine Sound.o X Tryz.call78 Tryz.func78 Tryz.ntmps78 rfl rfl ?_
 intro zb
 refine W.s0 X [2,3] rfl ⟨⟩ ?_
 refine W.seq ?_
 refine W.s0 X [2,3,9] rfl ⟨⟩ ?_
 refine W.cond rfl (fun hb0=> ?_) (fun hb0=> ?_)
 ·exact absurd hb0 (by simp)
 ·clear hb0
  refine W.skip ?_
  refine W.seq ?_
  refine W.sr X [] [(14,⟨false,[.a (.lit (.bool true))]⟩)] [2,3,15] [] rfl ⟨Lh x.ah,⟨⟩⟩ ?_
  refine W.cond rfl (fun aB=> ?_) (fun aB=> ?_)
  ·exact absurd aB (by simp)
  ·clear aB
   refine W.skip ?_
   refine W.seq ?_
   refine W.sr X [] [(20,⟨false,[.a (.lit (.bool true))]⟩)] [2,3,21] [] rfl ⟨Lf x.af,⟨⟩⟩ ?_
   refine W.cond rfl (fun aM=> ?_) (fun aM=> ?_)
   ·exact absurd aM (by simp)
   ·clear aM
    refine W.skip ?_
    refine W.seq ?_
    refine W.sr X [] [(26,⟨false,[.a (.lit (.bool true))]⟩)] [2,3,27] [] rfl ⟨Le x.ak,⟨⟩⟩ ?_
    refine W.cond rfl (fun gB=> ?_) (fun gB=> ?_)
    ·exact absurd gB (by simp)
    ·clear gB
     refine W.skip ?_
     refine W.seq ?_
     refine W.s0 X [2,3,32] rfl ⟨⟩ ?_
     refine W.cond rfl (fun rz=> ?_) (fun rz=> ?_)
     ·exact absurd rz (by simp)
     ·clear rz
      refine W.skip ?_
      refine W.seq ?_
      refine W.s0 X [2,3,37] rfl ⟨⟩ ?_
      refine W.cond rfl (fun E7=> ?_) (fun E7=> ?_)
      ·exact absurd E7 (by simp)
      ·clear E7
       refine W.skip ?_
       refine W.seq ?_
       refine W.s0 X [2,3,42] rfl ⟨⟩ ?_
       refine W.cond rfl (fun C5=> ?_) (fun C5=> ?_)
       ·exact absurd C5 (by simp)
       ·clear C5
        refine W.skip ?_
        refine W.seq ?_
        refine W.sr X [] [(47,⟨false,[.a (.lit (.bool true))]⟩)] [2,3,48] [] rfl ⟨Lg x.replaced,⟨⟩⟩ ?_
        refine W.cond rfl (fun IC=> ?_) (fun IC=> ?_)
        ·exact absurd IC (by simp)
        ·clear IC
         refine W.skip ?_
         refine W.seq ?_
         refine W.s0 X [53] rfl ⟨⟩ ?_
         refine W.cond rfl (fun U0=> ?_) (fun U0=> ?_)
         ·exact absurd U0 (by simp)
         ·clear U0
          refine W.skip ?_
          refine W.s0 X [4] rfl ⟨⟩ ?_
          refine W.ret ?_
          exact Fin.ret rfl ⟨rfl,⟨⟩⟩
end
section
set_option maxRecDepth 100000
theorem vf(l:(List UInt8))(k0:Int)(h0:0≤k0)(h1:k0+((aD (fun _=>1)) l:Nat)≤1099511627776):dQ Tryz.prog 86 [.a (.sl .u8 l), .a (.lit (.int .i64 k0))] [.a (.sl .u8 ((dm gJ (fun _=>1)) k0 l)), .a (.lit (.int .i64 k0))] (.int .i64 (k0+((aD (fun _=>1)) l:Nat))):=by
 refine dQ.of X Tryz.call86 Tryz.func86 rfl rfl Tryz.ntmps86 (by simp) ?_
 intro zb
 refine W.rU 1000 rfl fun hl=> ?_
 refine W.s0 X [0,1] rfl ⟨⟩ ?_
 refine W.seq ?_
 refine W.s0 X [0,1,5] rfl ⟨⟩ ?_
 refine W.block ?_
 refine W.aE (fun k=>k≤l.length) (fun k:Nat=> [(1, .one (.a (.lit (.int .i64 (k0+(aD (fun _=>1) (l.take k):Nat)))))),(5, .one (.a (.lit (.int .i64 k))))]) (fun k=> [(1000, .arr .u8 (dm gJ (fun _=>1) k0 (l.take k)++l.drop k))]) (fun k=>l.length-k) 0 (fun k=>rfl) (Nat.zero_le _) (by simp[dm,aD]) ?_
 intro k hk
 refine W.seq ?_
 refine W.s0 X [0,1,5,9] rfl ⟨⟩ ?_
 refine W.cond rfl (fun hb0=> ?_) (fun hb0=> ?_)
 ·rw[dY l k0 k hk]at hb0
  try simp only[nb]at hb0
  have hc:=rT (mk:=gJ) (mn:=(fun _=>1)) l k0 (au .u8) k hb0
  have hlen:=dY (mk:=gJ) (mn:=(fun _=>1)) l k0 k (by omega)
  have hst:=nq (mk:=gJ) (mn:=(fun _=>1)) l k0 (au .u8) k hb0
  have wv:=fG (mn:=(fun _=>1)) l (au .u8) k hb0
  have hml:=kj (mn:=(fun _=>1)) l (k+1)
  generalize dm gJ (fun _=>1) k0 (l.take k)++l.drop k=L at hc hlen hst ⊢
  generalize l.getD k (au .u8)=e at hc hst wv
  have hL:k<L.length:=by omega
  have gs: ∀y:UInt8,(L.set k y).getD k (au .u8)=y:=fun y=>ko L _ y k hL
  have gl: ∀y:UInt8,(L.set k y).length=L.length:=fun y=>List.length_set
  refine W.skip ?_
  refine W.seq ?_
  refine W.block ?_
  refine W.s0 X [0,1,5] rfl (by and_intros<;>first|exact⟨⟩| (intros;omega)|exact(pR _).1|exact(pR _).2) ?_
  simp only[Int.toNat_natCast,gs,hc,List.set_set]
  refine W.r0 X [0,1,5] rfl ⟨⟩ ?_
  rw[IntWalk.i64_in ((k0+(aD (fun _=>1) (l.take k):Nat))+1) (by omega)]
  refine W.r0 X [0,1,5] rfl ⟨⟩ ?_
  refine⟨k+1,by omega,by omega,?_⟩
  rw[aR _ k rfl (by omega),show(k0+(aD (fun _=>1) (l.take k):Nat))+1=k0+(aD (fun _=>1) (l.take (k+1)):Nat)by omega, ←hst]
  try rfl
 ·rw[dY l k0 k hk]at hb0
  try simp only[nb]at hb0
  refine W.exit ?_
  refine W.s0 X [4] rfl ⟨⟩ ?_
  refine W.ret ?_
  have hf:l.take k=l:=List.take_of_length_le (by omega)
  have hd:l.drop k= []:=List.drop_eq_nil_of_le (by omega)
  exact yK.ret rfl ⟨by rw[hf],by rw[hf,hd,List.append_nil],rfl,⟨⟩⟩
theorem cM(l:(List (List UInt8)))(k0:Int)(h0:0≤k0)(h1:k0+((aD (aD (fun _=>1))) l:Nat)≤1099511627776):dQ Tryz.prog 215 [.a (.sl (.sl .u8) l), .a (.lit (.int .i64 k0))] [.a (.sl (.sl .u8) ((dm (dm gJ (fun _=>1)) (aD (fun _=>1))) k0 l)), .a (.lit (.int .i64 k0))] (.int .i64 (k0+((aD (aD (fun _=>1))) l:Nat))):=by
 refine dQ.of X Tryz.call215 Tryz.func215 rfl rfl Tryz.ntmps215 (by simp) ?_
 intro zb
 refine W.rU 1000 rfl fun hl=> ?_
 refine W.s0 X [0,1] rfl ⟨⟩ ?_
 refine W.seq ?_
 refine W.s0 X [0,1,5] rfl ⟨⟩ ?_
 refine W.block ?_
 refine W.aE (fun k=>k≤l.length) (fun k:Nat=> [(1, .one (.a (.lit (.int .i64 (k0+(aD (aD (fun _=>1)) (l.take k):Nat)))))),(5, .one (.a (.lit (.int .i64 k))))]) (fun k=> [(1000, .arr (.sl .u8) (dm (dm gJ (fun _=>1)) (aD (fun _=>1)) k0 (l.take k)++l.drop k))]) (fun k=>l.length-k) 0 (fun k=>rfl) (Nat.zero_le _) (by simp[dm,aD]) ?_
 intro k hk
 refine W.seq ?_
 refine W.s0 X [0,1,5,9] rfl ⟨⟩ ?_
 refine W.cond rfl (fun hb0=> ?_) (fun hb0=> ?_)
 ·rw[dY l k0 k hk]at hb0
  try simp only[nb]at hb0
  have hc:=rT (mk:=(dm gJ (fun _=>1))) (mn:=(aD (fun _=>1))) l k0 (au (.sl .u8)) k hb0
  have hlen:=dY (mk:=(dm gJ (fun _=>1))) (mn:=(aD (fun _=>1))) l k0 k (by omega)
  have hst:=nq (mk:=(dm gJ (fun _=>1))) (mn:=(aD (fun _=>1))) l k0 (au (.sl .u8)) k hb0
  have wv:=fG (mn:=(aD (fun _=>1))) l (au (.sl .u8)) k hb0
  have hml:=kj (mn:=(aD (fun _=>1))) l (k+1)
  generalize dm (dm gJ (fun _=>1)) (aD (fun _=>1)) k0 (l.take k)++l.drop k=L at hc hlen hst ⊢
  generalize l.getD k (au (.sl .u8))=e at hc hst wv
  have hL:k<L.length:=by omega
  have gs: ∀y:(List UInt8),(L.set k y).getD k (au (.sl .u8))=y:=fun y=>ko L _ y k hL
  have gl: ∀y:(List UInt8),(L.set k y).length=L.length:=fun y=>List.length_set
  refine W.skip ?_
  refine W.seq ?_
  refine W.block ?_
  refine W.cD X [] [(200017,⟨false,[.a (.lit (.int .i64 ((k0+(aD (aD (fun _=>1)) (l.take k):Nat))+((aD (fun _=>1)) e:Nat)))), .a (.sl .u8 ((dm gJ (fun _=>1)) ((k0+(aD (aD (fun _=>1)) (l.take k):Nat))) e)), .a (.lit (.int .i64 ((k0+(aD (aD (fun _=>1)) (l.take k):Nat)))))]⟩)] [0,1,5] [] rfl (by(repeat' (first|exact True.intro|exact vf e ((k0+(aD (aD (fun _=>1)) (l.take k):Nat))) (by omega) (by omega)| (simp only[Int.toNat_natCast,gs,hc];exact vf e ((k0+(aD (aD (fun _=>1)) (l.take k):Nat))) (by omega) (by omega))|apply And.intro))<;>first| (intros;omega)) ?_
  simp only[Int.toNat_natCast,gs,hc,List.set_set]
  refine W.r0 X [0,1,5] rfl ⟨⟩ ?_
  refine⟨k+1,by omega,by omega,?_⟩
  rw[aR _ k rfl (by omega),show(k0+(aD (aD (fun _=>1)) (l.take k):Nat))+((aD (fun _=>1)) e:Nat)=k0+(aD (aD (fun _=>1)) (l.take (k+1)):Nat)by omega, ←hst]
  try rfl
 ·rw[dY l k0 k hk]at hb0
  try simp only[nb]at hb0
  refine W.exit ?_
  refine W.s0 X [4] rfl ⟨⟩ ?_
  refine W.ret ?_
  have hf:l.take k=l:=List.take_of_length_le (by omega)
  have hd:l.drop k= []:=List.drop_eq_nil_of_le (by omega)
  exact yK.ret rfl ⟨by rw[hf],by rw[hf,hd,List.append_nil],rfl,⟨⟩⟩
theorem vg(l:(List ay))(k0:Int)(h0:0≤k0)(h1:k0+((aD bM) l:Nat)≤1099511627776):dQ Tryz.prog 309 [.a (.sl .ay l), .a (.lit (.int .i64 k0))] [.a (.sl .ay ((dm iD bM) k0 l)), .a (.lit (.int .i64 k0))] (.int .i64 (k0+((aD bM) l:Nat))):=by
 refine dQ.of X Tryz.call309 Tryz.func309 rfl rfl Tryz.ntmps309 (by simp) ?_
 intro zb
 refine W.rU 1000 rfl fun hl=> ?_
 refine W.s0 X [0,1] rfl ⟨⟩ ?_
 refine W.seq ?_
 refine W.s0 X [0,1,5] rfl ⟨⟩ ?_
 refine W.block ?_
 refine W.aE (fun k=>k≤l.length) (fun k:Nat=> [(1, .one (.a (.lit (.int .i64 (k0+(aD bM (l.take k):Nat)))))),(5, .one (.a (.lit (.int .i64 k))))]) (fun k=> [(1000, .arr .ay (dm iD bM k0 (l.take k)++l.drop k))]) (fun k=>l.length-k) 0 (fun k=>rfl) (Nat.zero_le _) (by simp[dm,aD]) ?_
 intro k hk
 refine W.seq ?_
 refine W.s0 X [0,1,5,9] rfl ⟨⟩ ?_
 refine W.cond rfl (fun hb0=> ?_) (fun hb0=> ?_)
 ·rw[dY l k0 k hk]at hb0
  try simp only[nb]at hb0
  have hc:=rT (mk:=iD) (mn:=bM) l k0 (au .ay) k hb0
  have hlen:=dY (mk:=iD) (mn:=bM) l k0 k (by omega)
  have hst:=nq (mk:=iD) (mn:=bM) l k0 (au .ay) k hb0
  have wv:=fG (mn:=bM) l (au .ay) k hb0
  have hml:=kj (mn:=bM) l (k+1)
  generalize dm iD bM k0 (l.take k)++l.drop k=L at hc hlen hst ⊢
  generalize l.getD k (au .ay)=e at hc hst wv
  have hL:k<L.length:=by omega
  have gs: ∀y:ay,(L.set k y).getD k (au .ay)=y:=fun y=>ko L _ y k hL
  have gl: ∀y:ay,(L.set k y).length=L.length:=fun y=>List.length_set
  simp only[bM,cx]at wv
  refine W.skip ?_
  refine W.seq ?_
  refine W.block ?_
  refine W.s0 X [0,1,5] rfl (by and_intros<;>first|exact⟨⟩| (intros;omega)) ?_
  simp only[Int.toNat_natCast,gs,hc,List.set_set]
  refine W.s0 X [0,1,5] rfl ⟨⟩ ?_
  rw[IntWalk.i64_in ((k0+(aD bM (l.take k):Nat))+1) (by omega)]
  refine W.cD X [] [(200026,⟨false,[.a (.lit (.int .i64 ((k0+(aD bM (l.take k):Nat))+1+((aD (aD (fun _=>1))) e.db.rows:Nat)))), .a (.sl (.sl .u8) ((dm (dm gJ (fun _=>1)) (aD (fun _=>1))) ((k0+(aD bM (l.take k):Nat))+1) e.db.rows)), .a (.lit (.int .i64 ((k0+(aD bM (l.take k):Nat))+1)))]⟩)] [0,1,5] [] rfl (by(repeat' (first|exact True.intro|exact cM e.db.rows ((k0+(aD bM (l.take k):Nat))+1) (by omega) (by omega)| (simp only[Int.toNat_natCast,gs,hc];exact cM e.db.rows ((k0+(aD bM (l.take k):Nat))+1) (by omega) (by omega))|apply And.intro))<;>first| (intros;omega)| (simp only[cT,maxLen,lens];omega)) ?_
  simp only[Int.toNat_natCast,gs,hc,List.set_set]
  refine W.r0 X [0,1,5] rfl ⟨⟩ ?_
  refine⟨k+1,by omega,by omega,?_⟩
  rw[aR _ k rfl (by omega),show(k0+(aD bM (l.take k):Nat))+1+((aD (aD (fun _=>1))) e.db.rows:Nat)=k0+(aD bM (l.take (k+1)):Nat)by omega, ←hst]
  try rfl
 ·rw[dY l k0 k hk]at hb0
  try simp only[nb]at hb0
  refine W.exit ?_
  refine W.s0 X [4] rfl ⟨⟩ ?_
  refine W.ret ?_
  have hf:l.take k=l:=List.take_of_length_le (by omega)
  have hd:l.drop k= []:=List.drop_eq_nil_of_le (by omega)
  exact yK.ret rfl ⟨by rw[hf],by rw[hf,hd,List.append_nil],rfl,⟨⟩⟩
theorem FJ(x:gW)(k0:Int)(h0:0≤k0)(h1:k0+(kK x:Nat)≤1099511627776):dQ Tryz.prog 209 [.agg (ck x), .a (.lit (.int .i64 k0))] [.agg (ck (HP k0 x)), .a (.lit (.int .i64 k0))] (.int .i64 (k0+(kK x:Nat))):=by
 refine dQ.of X Tryz.call209 Tryz.func209 rfl rfl Tryz.ntmps209 (by simp) ?_
 intro zb
 unfold kK at h1 ⊢
 refine W.s0 X [1,2] rfl ⟨⟩ ?_
 refine W.sr X [] [(100008,⟨false,[.a (.lit (.int .i64 (k0+((aD bM) x.rounds:Nat)))), .a (.sl .ay ((dm iD bM) (k0) x.rounds)), .a (.lit (.int .i64 (k0)))]⟩)] [1] [] rfl ⟨vg x.rounds (k0) (by omega) (by omega),⟨⟩⟩ ?_
 refine W.s0 X [4] rfl ⟨⟩ ?_
 refine W.ret ?_
 exact yK.ret rfl (by and_intros<;>first|exact⟨⟩|rfl| (congr 1;omega))
theorem FK(l:(List aL))(k0:Int)(h0:0≤k0)(h1:k0+((aD aX) l:Nat)≤1099511627776):dQ Tryz.prog 208 [.a (.sl .aL l), .a (.lit (.int .i64 k0))] [.a (.sl .aL ((dm oV aX) k0 l)), .a (.lit (.int .i64 k0))] (.int .i64 (k0+((aD aX) l:Nat))):=by
 refine dQ.of X Tryz.call208 Tryz.func208 rfl rfl Tryz.ntmps208 (by simp) ?_
 intro zb
 refine W.rU 1000 rfl fun hl=> ?_
 refine W.s0 X [0,1] rfl ⟨⟩ ?_
 refine W.seq ?_
 refine W.s0 X [0,1,5] rfl ⟨⟩ ?_
 refine W.block ?_
 refine W.aE (fun k=>k≤l.length) (fun k:Nat=> [(1, .one (.a (.lit (.int .i64 (k0+(aD aX (l.take k):Nat)))))),(5, .one (.a (.lit (.int .i64 k))))]) (fun k=> [(1000, .arr .aL (dm oV aX k0 (l.take k)++l.drop k))]) (fun k=>l.length-k) 0 (fun k=>rfl) (Nat.zero_le _) (by simp[dm,aD]) ?_
 intro k hk
 refine W.seq ?_
 refine W.s0 X [0,1,5,9] rfl ⟨⟩ ?_
 refine W.cond rfl (fun hb0=> ?_) (fun hb0=> ?_)
 ·rw[dY l k0 k hk]at hb0
  try simp only[nb]at hb0
  have hc:=rT (mk:=oV) (mn:=aX) l k0 (au .aL) k hb0
  have hlen:=dY (mk:=oV) (mn:=aX) l k0 k (by omega)
  have hst:=nq (mk:=oV) (mn:=aX) l k0 (au .aL) k hb0
  have wv:=fG (mn:=aX) l (au .aL) k hb0
  have hml:=kj (mn:=aX) l (k+1)
  generalize dm oV aX k0 (l.take k)++l.drop k=L at hc hlen hst ⊢
  generalize l.getD k (au .aL)=e at hc hst wv
  have hL:k<L.length:=by omega
  have gs: ∀y:aL,(L.set k y).getD k (au .aL)=y:=fun y=>ko L _ y k hL
  have gl: ∀y:aL,(L.set k y).length=L.length:=fun y=>List.length_set
  simp only[aX,Wo]at wv
  refine W.skip ?_
  refine W.seq ?_
  refine W.block ?_
  refine W.s0 X [0,1,5] rfl (by and_intros<;>first|exact⟨⟩| (intros;omega)) ?_
  simp only[Int.toNat_natCast,gs,hc,List.set_set]
  refine W.s0 X [0,1,5] rfl ⟨⟩ ?_
  rw[IntWalk.i64_in ((k0+(aD aX (l.take k):Nat))+1) (by omega)]
  refine W.s0 X [0,1,5] rfl (by and_intros<;>first|exact⟨⟩| (intros;omega)| (simp only[cT,maxLen,lens];omega)) ?_
  simp only[Int.toNat_natCast,gs,hc,List.set_set]
  refine W.s0 X [0,1,5] rfl ⟨⟩ ?_
  rw[IntWalk.i64_in ((k0+(aD aX (l.take k):Nat))+1+1) (by omega)]
  refine W.s0 X [0,1,5] rfl (by and_intros<;>first|exact⟨⟩| (intros;omega)| (simp only[cT,maxLen,lens];omega)) ?_
  simp only[Int.toNat_natCast,gs,hc,List.set_set]
  refine W.s0 X [0,1,5] rfl ⟨⟩ ?_
  rw[IntWalk.i64_in ((k0+(aD aX (l.take k):Nat))+1+1+1) (by omega)]
  refine W.s0 X [0,1,5] rfl (by and_intros<;>first|exact⟨⟩| (intros;omega)| (simp only[cT,maxLen,lens];omega)) ?_
  simp only[Int.toNat_natCast,gs,hc,List.set_set]
  refine W.s0 X [0,1,5] rfl ⟨⟩ ?_
  rw[IntWalk.i64_in ((k0+(aD aX (l.take k):Nat))+1+1+1+1) (by omega)]
  refine W.sr X [] [(200051,⟨false,[.a (.lit (.int .i64 ((k0+(aD aX (l.take k):Nat))+1+1+1+1+((aD (aD (fun _=>1))) e.live.av:Nat)))), .a (.sl (.sl .u8) ((dm (dm gJ (fun _=>1)) (aD (fun _=>1))) ((k0+(aD aX (l.take k):Nat))+1+1+1+1) e.live.av)), .a (.lit (.int .i64 ((k0+(aD aX (l.take k):Nat))+1+1+1+1)))]⟩)] [0,1,5] [] rfl (by(repeat' (first|exact True.intro|exact cM e.live.av ((k0+(aD aX (l.take k):Nat))+1+1+1+1) (by omega) (by omega)| (simp only[Int.toNat_natCast,gs,hc];exact cM e.live.av ((k0+(aD aX (l.take k):Nat))+1+1+1+1) (by omega) (by omega))|apply And.intro))<;>first| (intros;omega)| (simp only[cT,maxLen,lens];omega)) ?_
  simp only[Int.toNat_natCast,gs,hc,List.set_set]
  refine W.s0 X [0,1,5] rfl (by and_intros<;>first|exact⟨⟩| (intros;omega)| (simp only[cT,maxLen,lens];omega)) ?_
  simp only[Int.toNat_natCast,gs,hc,List.set_set]
  refine W.s0 X [0,1,5] rfl ⟨⟩ ?_
  rw[IntWalk.i64_in ((k0+(aD aX (l.take k):Nat))+1+1+1+1+((aD (aD (fun _=>1))) e.live.av:Nat)+1) (by omega)]
  refine W.sr X [] [(200067,⟨false,[.a (.lit (.int .i64 ((k0+(aD aX (l.take k):Nat))+1+1+1+1+((aD (aD (fun _=>1))) e.live.av:Nat)+1+((aD (aD (fun _=>1))) e.live.inbox:Nat)))), .a (.sl (.sl .u8) ((dm (dm gJ (fun _=>1)) (aD (fun _=>1))) ((k0+(aD aX (l.take k):Nat))+1+1+1+1+((aD (aD (fun _=>1))) e.live.av:Nat)+1) e.live.inbox)), .a (.lit (.int .i64 ((k0+(aD aX (l.take k):Nat))+1+1+1+1+((aD (aD (fun _=>1))) e.live.av:Nat)+1)))]⟩)] [0,1,5] [] rfl (by(repeat' (first|exact True.intro|exact cM e.live.inbox ((k0+(aD aX (l.take k):Nat))+1+1+1+1+((aD (aD (fun _=>1))) e.live.av:Nat)+1) (by omega) (by omega)| (simp only[Int.toNat_natCast,gs,hc];exact cM e.live.inbox ((k0+(aD aX (l.take k):Nat))+1+1+1+1+((aD (aD (fun _=>1))) e.live.av:Nat)+1) (by omega) (by omega))|apply And.intro))<;>first| (intros;omega)| (simp only[cT,maxLen,lens];omega)) ?_
  simp only[Int.toNat_natCast,gs,hc,List.set_set]
  refine W.s0 X [0,1,5] rfl (by and_intros<;>first|exact⟨⟩| (intros;omega)| (simp only[cT,maxLen,lens];omega)) ?_
  simp only[Int.toNat_natCast,gs,hc,List.set_set]
  refine W.s0 X [0,1,5] rfl ⟨⟩ ?_
  rw[IntWalk.i64_in ((k0+(aD aX (l.take k):Nat))+1+1+1+1+((aD (aD (fun _=>1))) e.live.av:Nat)+1+((aD (aD (fun _=>1))) e.live.inbox:Nat)+1) (by omega)]
  refine W.s0 X [0,1,5] rfl (by and_intros<;>first|exact⟨⟩| (intros;omega)| (simp only[cT,maxLen,lens];omega)) ?_
  simp only[Int.toNat_natCast,gs,hc,List.set_set]
  refine W.s0 X [0,1,5] rfl ⟨⟩ ?_
  rw[IntWalk.i64_in ((k0+(aD aX (l.take k):Nat))+1+1+1+1+((aD (aD (fun _=>1))) e.live.av:Nat)+1+((aD (aD (fun _=>1))) e.live.inbox:Nat)+1+1) (by omega)]
  refine W.s0 X [0,1,5] rfl (by and_intros<;>first|exact⟨⟩| (intros;omega)| (simp only[cT,maxLen,lens];omega)) ?_
  simp only[Int.toNat_natCast,gs,hc,List.set_set]
  refine W.s0 X [0,1,5] rfl ⟨⟩ ?_
  rw[IntWalk.i64_in ((k0+(aD aX (l.take k):Nat))+1+1+1+1+((aD (aD (fun _=>1))) e.live.av:Nat)+1+((aD (aD (fun _=>1))) e.live.inbox:Nat)+1+1+1) (by omega)]
  refine W.s0 X [0,1,5] rfl (by and_intros<;>first|exact⟨⟩| (intros;omega)| (simp only[cT,maxLen,lens];omega)) ?_
  simp only[Int.toNat_natCast,gs,hc,List.set_set]
  refine W.s0 X [0,1,5] rfl ⟨⟩ ?_
  rw[IntWalk.i64_in ((k0+(aD aX (l.take k):Nat))+1+1+1+1+((aD (aD (fun _=>1))) e.live.av:Nat)+1+((aD (aD (fun _=>1))) e.live.inbox:Nat)+1+1+1+1) (by omega)]
  refine W.s0 X [0,1,5] rfl (by and_intros<;>first|exact⟨⟩| (intros;omega)| (simp only[cT,maxLen,lens];omega)) ?_
  simp only[Int.toNat_natCast,gs,hc,List.set_set]
  refine W.s0 X [0,1,5] rfl ⟨⟩ ?_
  rw[IntWalk.i64_in ((k0+(aD aX (l.take k):Nat))+1+1+1+1+((aD (aD (fun _=>1))) e.live.av:Nat)+1+((aD (aD (fun _=>1))) e.live.inbox:Nat)+1+1+1+1+1) (by omega)]
  refine W.sr X [] [(200115,⟨false,[.a (.lit (.int .i64 ((k0+(aD aX (l.take k):Nat))+1+1+1+1+((aD (aD (fun _=>1))) e.live.av:Nat)+1+((aD (aD (fun _=>1))) e.live.inbox:Nat)+1+1+1+1+1+((aD (aD (fun _=>1))) e.saved.av:Nat)))), .a (.sl (.sl .u8) ((dm (dm gJ (fun _=>1)) (aD (fun _=>1))) ((k0+(aD aX (l.take k):Nat))+1+1+1+1+((aD (aD (fun _=>1))) e.live.av:Nat)+1+((aD (aD (fun _=>1))) e.live.inbox:Nat)+1+1+1+1+1) e.saved.av)), .a (.lit (.int .i64 ((k0+(aD aX (l.take k):Nat))+1+1+1+1+((aD (aD (fun _=>1))) e.live.av:Nat)+1+((aD (aD (fun _=>1))) e.live.inbox:Nat)+1+1+1+1+1)))]⟩)] [0,1,5] [] rfl (by(repeat' (first|exact True.intro|exact cM e.saved.av ((k0+(aD aX (l.take k):Nat))+1+1+1+1+((aD (aD (fun _=>1))) e.live.av:Nat)+1+((aD (aD (fun _=>1))) e.live.inbox:Nat)+1+1+1+1+1) (by omega) (by omega)| (simp only[Int.toNat_natCast,gs,hc];exact cM e.saved.av ((k0+(aD aX (l.take k):Nat))+1+1+1+1+((aD (aD (fun _=>1))) e.live.av:Nat)+1+((aD (aD (fun _=>1))) e.live.inbox:Nat)+1+1+1+1+1) (by omega) (by omega))|apply And.intro))<;>first| (intros;omega)| (simp only[cT,maxLen,lens];omega)) ?_
  simp only[Int.toNat_natCast,gs,hc,List.set_set]
  refine W.s0 X [0,1,5] rfl (by and_intros<;>first|exact⟨⟩| (intros;omega)| (simp only[cT,maxLen,lens];omega)) ?_
  simp only[Int.toNat_natCast,gs,hc,List.set_set]
  refine W.s0 X [0,1,5] rfl ⟨⟩ ?_
  rw[IntWalk.i64_in ((k0+(aD aX (l.take k):Nat))+1+1+1+1+((aD (aD (fun _=>1))) e.live.av:Nat)+1+((aD (aD (fun _=>1))) e.live.inbox:Nat)+1+1+1+1+1+((aD (aD (fun _=>1))) e.saved.av:Nat)+1) (by omega)]
  refine W.sr X [] [(200131,⟨false,[.a (.lit (.int .i64 ((k0+(aD aX (l.take k):Nat))+1+1+1+1+((aD (aD (fun _=>1))) e.live.av:Nat)+1+((aD (aD (fun _=>1))) e.live.inbox:Nat)+1+1+1+1+1+((aD (aD (fun _=>1))) e.saved.av:Nat)+1+((aD (aD (fun _=>1))) e.saved.inbox:Nat)))), .a (.sl (.sl .u8) ((dm (dm gJ (fun _=>1)) (aD (fun _=>1))) ((k0+(aD aX (l.take k):Nat))+1+1+1+1+((aD (aD (fun _=>1))) e.live.av:Nat)+1+((aD (aD (fun _=>1))) e.live.inbox:Nat)+1+1+1+1+1+((aD (aD (fun _=>1))) e.saved.av:Nat)+1) e.saved.inbox)), .a (.lit (.int .i64 ((k0+(aD aX (l.take k):Nat))+1+1+1+1+((aD (aD (fun _=>1))) e.live.av:Nat)+1+((aD (aD (fun _=>1))) e.live.inbox:Nat)+1+1+1+1+1+((aD (aD (fun _=>1))) e.saved.av:Nat)+1)))]⟩)] [0,1,5] [] rfl (by(repeat' (first|exact True.intro|exact cM e.saved.inbox ((k0+(aD aX (l.take k):Nat))+1+1+1+1+((aD (aD (fun _=>1))) e.live.av:Nat)+1+((aD (aD (fun _=>1))) e.live.inbox:Nat)+1+1+1+1+1+((aD (aD (fun _=>1))) e.saved.av:Nat)+1) (by omega) (by omega)| (simp only[Int.toNat_natCast,gs,hc];exact cM e.saved.inbox ((k0+(aD aX (l.take k):Nat))+1+1+1+1+((aD (aD (fun _=>1))) e.live.av:Nat)+1+((aD (aD (fun _=>1))) e.live.inbox:Nat)+1+1+1+1+1+((aD (aD (fun _=>1))) e.saved.av:Nat)+1) (by omega) (by omega))|apply And.intro))<;>first| (intros;omega)| (simp only[cT,maxLen,lens];omega)) ?_
  simp only[Int.toNat_natCast,gs,hc,List.set_set]
  refine W.s0 X [0,1,5] rfl (by and_intros<;>first|exact⟨⟩| (intros;omega)| (simp only[cT,maxLen,lens];omega)) ?_
  simp only[Int.toNat_natCast,gs,hc,List.set_set]
  refine W.r0 X [0,1,5] rfl ⟨⟩ ?_
  rw[IntWalk.i64_in ((k0+(aD aX (l.take k):Nat))+1+1+1+1+((aD (aD (fun _=>1))) e.live.av:Nat)+1+((aD (aD (fun _=>1))) e.live.inbox:Nat)+1+1+1+1+1+((aD (aD (fun _=>1))) e.saved.av:Nat)+1+((aD (aD (fun _=>1))) e.saved.inbox:Nat)+1) (by omega)]
  refine W.r0 X [0,1,5] rfl ⟨⟩ ?_
  refine⟨k+1,by omega,by omega,?_⟩
  rw[aR _ k rfl (by omega),show(k0+(aD aX (l.take k):Nat))+1+1+1+1+((aD (aD (fun _=>1))) e.live.av:Nat)+1+((aD (aD (fun _=>1))) e.live.inbox:Nat)+1+1+1+1+1+((aD (aD (fun _=>1))) e.saved.av:Nat)+1+((aD (aD (fun _=>1))) e.saved.inbox:Nat)+1=k0+(aD aX (l.take (k+1)):Nat)by omega, ←hst]
  try rfl
 ·rw[dY l k0 k hk]at hb0
  try simp only[nb]at hb0
  refine W.exit ?_
  refine W.s0 X [4] rfl ⟨⟩ ?_
  refine W.ret ?_
  have hf:l.take k=l:=List.take_of_length_le (by omega)
  have hd:l.drop k= []:=List.drop_eq_nil_of_le (by omega)
  exact yK.ret rfl ⟨by rw[hf],by rw[hf,hd,List.append_nil],rfl,⟨⟩⟩
theorem yc(l:(List Int))(k0:Int)(h0:0≤k0)(h1:k0+((aD (fun _=>1)) l:Nat)≤1099511627776):dQ Tryz.prog 210 [.a (.sl .int l), .a (.lit (.int .i64 k0))] [.a (.sl .int ((dm (fun k _=>k) (fun _=>1)) k0 l)), .a (.lit (.int .i64 k0))] (.int .i64 (k0+((aD (fun _=>1)) l:Nat))):=by
 refine dQ.of X Tryz.call210 Tryz.func210 rfl rfl Tryz.ntmps210 (by simp) ?_
 intro zb
 refine W.rU 1000 rfl fun hl=> ?_
 refine W.s0 X [0,1] rfl ⟨⟩ ?_
 refine W.seq ?_
 refine W.s0 X [0,1,5] rfl ⟨⟩ ?_
 refine W.block ?_
 refine W.aE (fun k=>k≤l.length) (fun k:Nat=> [(1, .one (.a (.lit (.int .i64 (k0+(aD (fun _=>1) (l.take k):Nat)))))),(5, .one (.a (.lit (.int .i64 k))))]) (fun k=> [(1000, .arr .int (dm (fun k _=>k) (fun _=>1) k0 (l.take k)++l.drop k))]) (fun k=>l.length-k) 0 (fun k=>rfl) (Nat.zero_le _) (by simp[dm,aD]) ?_
 intro k hk
 refine W.seq ?_
 refine W.s0 X [0,1,5,9] rfl ⟨⟩ ?_
 refine W.cond rfl (fun hb0=> ?_) (fun hb0=> ?_)
 ·rw[dY l k0 k hk]at hb0
  try simp only[nb]at hb0
  have hc:=rT (mk:=(fun k _=>k)) (mn:=(fun _=>1)) l k0 (au .int) k hb0
  have hlen:=dY (mk:=(fun k _=>k)) (mn:=(fun _=>1)) l k0 k (by omega)
  have hst:=nq (mk:=(fun k _=>k)) (mn:=(fun _=>1)) l k0 (au .int) k hb0
  have wv:=fG (mn:=(fun _=>1)) l (au .int) k hb0
  have hml:=kj (mn:=(fun _=>1)) l (k+1)
  generalize dm (fun k _=>k) (fun _=>1) k0 (l.take k)++l.drop k=L at hc hlen hst ⊢
  generalize l.getD k (au .int)=e at hc hst wv
  have hL:k<L.length:=by omega
  have gs: ∀y:Int,(L.set k y).getD k (au .int)=y:=fun y=>ko L _ y k hL
  have gl: ∀y:Int,(L.set k y).length=L.length:=fun y=>List.length_set
  refine W.skip ?_
  refine W.seq ?_
  refine W.block ?_
  refine W.s0 X [0,1,5] rfl (by and_intros<;>first|exact⟨⟩| (intros;omega)) ?_
  simp only[Int.toNat_natCast,gs,hc,List.set_set]
  refine W.r0 X [0,1,5] rfl ⟨⟩ ?_
  rw[IntWalk.i64_in ((k0+(aD (fun _=>1) (l.take k):Nat))+1) (by omega)]
  refine W.r0 X [0,1,5] rfl ⟨⟩ ?_
  refine⟨k+1,by omega,by omega,?_⟩
  rw[aR _ k rfl (by omega),show(k0+(aD (fun _=>1) (l.take k):Nat))+1=k0+(aD (fun _=>1) (l.take (k+1)):Nat)by omega, ←hst]
  try rfl
 ·rw[dY l k0 k hk]at hb0
  try simp only[nb]at hb0
  refine W.exit ?_
  refine W.s0 X [4] rfl ⟨⟩ ?_
  refine W.ret ?_
  have hf:l.take k=l:=List.take_of_length_le (by omega)
  have hd:l.drop k= []:=List.drop_eq_nil_of_le (by omega)
  exact yK.ret rfl ⟨by rw[hf],by rw[hf,hd,List.append_nil],rfl,⟨⟩⟩
theorem mH(l:(List aA))(k0:Int)(h0:0≤k0)(h1:k0+((aD bF) l:Nat)≤1099511627776):dQ Tryz.prog 308 [.a (.sl .aA l), .a (.lit (.int .i64 k0))] [.a (.sl .aA ((dm iC bF) k0 l)), .a (.lit (.int .i64 k0))] (.int .i64 (k0+((aD bF) l:Nat))):=by
 refine dQ.of X Tryz.call308 Tryz.func308 rfl rfl Tryz.ntmps308 (by simp) ?_
 intro zb
 refine W.rU 1000 rfl fun hl=> ?_
 refine W.s0 X [0,1] rfl ⟨⟩ ?_
 refine W.seq ?_
 refine W.s0 X [0,1,5] rfl ⟨⟩ ?_
 refine W.block ?_
 refine W.aE (fun k=>k≤l.length) (fun k:Nat=> [(1, .one (.a (.lit (.int .i64 (k0+(aD bF (l.take k):Nat)))))),(5, .one (.a (.lit (.int .i64 k))))]) (fun k=> [(1000, .arr .aA (dm iC bF k0 (l.take k)++l.drop k))]) (fun k=>l.length-k) 0 (fun k=>rfl) (Nat.zero_le _) (by simp[dm,aD]) ?_
 intro k hk
 refine W.seq ?_
 refine W.s0 X [0,1,5,9] rfl ⟨⟩ ?_
 refine W.cond rfl (fun hb0=> ?_) (fun hb0=> ?_)
 ·rw[dY l k0 k hk]at hb0
  try simp only[nb]at hb0
  have hc:=rT (mk:=iC) (mn:=bF) l k0 (au .aA) k hb0
  have hlen:=dY (mk:=iC) (mn:=bF) l k0 k (by omega)
  have hst:=nq (mk:=iC) (mn:=bF) l k0 (au .aA) k hb0
  have wv:=fG (mn:=bF) l (au .aA) k hb0
  have hml:=kj (mn:=bF) l (k+1)
  generalize dm iC bF k0 (l.take k)++l.drop k=L at hc hlen hst ⊢
  generalize l.getD k (au .aA)=e at hc hst wv
  have hL:k<L.length:=by omega
  have gs: ∀y:aA,(L.set k y).getD k (au .aA)=y:=fun y=>ko L _ y k hL
  have gl: ∀y:aA,(L.set k y).length=L.length:=fun y=>List.length_set
  simp only[bF,cx]at wv
  refine W.skip ?_
  refine W.seq ?_
  refine W.block ?_
  refine W.s0 X [0,1,5] rfl (by and_intros<;>first|exact⟨⟩| (intros;omega)) ?_
  simp only[Int.toNat_natCast,gs,hc,List.set_set]
  refine W.s0 X [0,1,5] rfl ⟨⟩ ?_
  rw[IntWalk.i64_in ((k0+(aD bF (l.take k):Nat))+1) (by omega)]
  refine W.cD X [] [(200026,⟨false,[.a (.lit (.int .i64 ((k0+(aD bF (l.take k):Nat))+1+((aD (aD (fun _=>1))) e.share.rows:Nat)))), .a (.sl (.sl .u8) ((dm (dm gJ (fun _=>1)) (aD (fun _=>1))) ((k0+(aD bF (l.take k):Nat))+1) e.share.rows)), .a (.lit (.int .i64 ((k0+(aD bF (l.take k):Nat))+1)))]⟩)] [0,1,5] [] rfl (by(repeat' (first|exact True.intro|exact cM e.share.rows ((k0+(aD bF (l.take k):Nat))+1) (by omega) (by omega)| (simp only[Int.toNat_natCast,gs,hc];exact cM e.share.rows ((k0+(aD bF (l.take k):Nat))+1) (by omega) (by omega))|apply And.intro))<;>first| (intros;omega)| (simp only[cT,maxLen,lens];omega)) ?_
  simp only[Int.toNat_natCast,gs,hc,List.set_set]
  refine W.r0 X [0,1,5] rfl ⟨⟩ ?_
  refine⟨k+1,by omega,by omega,?_⟩
  rw[aR _ k rfl (by omega),show(k0+(aD bF (l.take k):Nat))+1+((aD (aD (fun _=>1))) e.share.rows:Nat)=k0+(aD bF (l.take (k+1)):Nat)by omega, ←hst]
  try rfl
 ·rw[dY l k0 k hk]at hb0
  try simp only[nb]at hb0
  refine W.exit ?_
  refine W.s0 X [4] rfl ⟨⟩ ?_
  refine W.ret ?_
  have hf:l.take k=l:=List.take_of_length_le (by omega)
  have hd:l.drop k= []:=List.drop_eq_nil_of_le (by omega)
  exact yK.ret rfl ⟨by rw[hf],by rw[hf,hd,List.append_nil],rfl,⟨⟩⟩
theorem FL(l:(List aO))(k0:Int)(h0:0≤k0)(h1:k0+((aD bL) l:Nat)≤1099511627776):dQ Tryz.prog 207 [.a (.sl .aO l), .a (.lit (.int .i64 k0))] [.a (.sl .aO ((dm oU bL) k0 l)), .a (.lit (.int .i64 k0))] (.int .i64 (k0+((aD bL) l:Nat))):=by
 refine dQ.of X Tryz.call207 Tryz.func207 rfl rfl Tryz.ntmps207 (by simp) ?_
 intro zb
 refine W.rU 1000 rfl fun hl=> ?_
 refine W.s0 X [0,1] rfl ⟨⟩ ?_
 refine W.seq ?_
 refine W.s0 X [0,1,5] rfl ⟨⟩ ?_
 refine W.block ?_
 refine W.aE (fun k=>k≤l.length) (fun k:Nat=> [(1, .one (.a (.lit (.int .i64 (k0+(aD bL (l.take k):Nat)))))),(5, .one (.a (.lit (.int .i64 k))))]) (fun k=> [(1000, .arr .aO (dm oU bL k0 (l.take k)++l.drop k))]) (fun k=>l.length-k) 0 (fun k=>rfl) (Nat.zero_le _) (by simp[dm,aD]) ?_
 intro k hk
 refine W.seq ?_
 refine W.s0 X [0,1,5,9] rfl ⟨⟩ ?_
 refine W.cond rfl (fun hb0=> ?_) (fun hb0=> ?_)
 ·rw[dY l k0 k hk]at hb0
  try simp only[nb]at hb0
  have hc:=rT (mk:=oU) (mn:=bL) l k0 (au .aO) k hb0
  have hlen:=dY (mk:=oU) (mn:=bL) l k0 k (by omega)
  have hst:=nq (mk:=oU) (mn:=bL) l k0 (au .aO) k hb0
  have wv:=fG (mn:=bL) l (au .aO) k hb0
  have hml:=kj (mn:=bL) l (k+1)
  generalize dm oU bL k0 (l.take k)++l.drop k=L at hc hlen hst ⊢
  generalize l.getD k (au .aO)=e at hc hst wv
  have hL:k<L.length:=by omega
  have gs: ∀y:aO,(L.set k y).getD k (au .aO)=y:=fun y=>ko L _ y k hL
  have gl: ∀y:aO,(L.set k y).length=L.length:=fun y=>List.length_set
  simp only[bL]at wv
  refine W.skip ?_
  refine W.seq ?_
  refine W.block ?_
  refine W.s0 X [0,1,5] rfl (by and_intros<;>first|exact⟨⟩| (intros;omega)) ?_
  simp only[Int.toNat_natCast,gs,hc,List.set_set]
  refine W.s0 X [0,1,5] rfl ⟨⟩ ?_
  rw[IntWalk.i64_in ((k0+(aD bL (l.take k):Nat))+1) (by omega)]
  refine W.s0 X [0,1,5] rfl (by and_intros<;>first|exact⟨⟩| (intros;omega)| (simp only[cT,maxLen,lens];omega)) ?_
  simp only[Int.toNat_natCast,gs,hc,List.set_set]
  refine W.s0 X [0,1,5] rfl ⟨⟩ ?_
  rw[IntWalk.i64_in ((k0+(aD bL (l.take k):Nat))+1+1) (by omega)]
  refine W.s0 X [0,1,5] rfl (by and_intros<;>first|exact⟨⟩| (intros;omega)| (simp only[cT,maxLen,lens];omega)) ?_
  simp only[Int.toNat_natCast,gs,hc,List.set_set]
  refine W.s0 X [0,1,5] rfl ⟨⟩ ?_
  rw[IntWalk.i64_in ((k0+(aD bL (l.take k):Nat))+1+1+1) (by omega)]
  refine W.sr X [] [(200039,⟨false,[.a (.lit (.int .i64 ((k0+(aD bL (l.take k):Nat))+1+1+1+((aD bF) e.received:Nat)))), .a (.sl .aA ((dm iC bF) ((k0+(aD bL (l.take k):Nat))+1+1+1) e.received)), .a (.lit (.int .i64 ((k0+(aD bL (l.take k):Nat))+1+1+1)))]⟩)] [0,1,5] [] rfl (by(repeat' (first|exact True.intro|exact mH e.received ((k0+(aD bL (l.take k):Nat))+1+1+1) (by omega) (by omega)| (simp only[Int.toNat_natCast,gs,hc];exact mH e.received ((k0+(aD bL (l.take k):Nat))+1+1+1) (by omega) (by omega))|apply And.intro))<;>first| (intros;omega)| (simp only[cT,maxLen,lens];omega)) ?_
  simp only[Int.toNat_natCast,gs,hc,List.set_set]
  refine W.s0 X [0,1,5] rfl (by and_intros<;>first|exact⟨⟩| (intros;omega)| (simp only[cT,maxLen,lens];omega)) ?_
  simp only[Int.toNat_natCast,gs,hc,List.set_set]
  refine W.r0 X [0,1,5] rfl ⟨⟩ ?_
  rw[IntWalk.i64_in ((k0+(aD bL (l.take k):Nat))+1+1+1+((aD bF) e.received:Nat)+1) (by omega)]
  refine W.r0 X [0,1,5] rfl ⟨⟩ ?_
  refine⟨k+1,by omega,by omega,?_⟩
  rw[aR _ k rfl (by omega),show(k0+(aD bL (l.take k):Nat))+1+1+1+((aD bF) e.received:Nat)+1=k0+(aD bL (l.take (k+1)):Nat)by omega, ←hst]
  try rfl
 ·rw[dY l k0 k hk]at hb0
  try simp only[nb]at hb0
  refine W.exit ?_
  refine W.s0 X [4] rfl ⟨⟩ ?_
  refine W.ret ?_
  have hf:l.take k=l:=List.take_of_length_le (by omega)
  have hd:l.drop k= []:=List.drop_eq_nil_of_le (by omega)
  exact yK.ret rfl ⟨by rw[hf],by rw[hf,hd,List.append_nil],rfl,⟨⟩⟩
theorem BV(x:aJ)(k0:Int)(h0:0≤k0)(h1:k0+(kL x:Nat)≤1099511627776):dQ Tryz.prog 79 [.agg (aG x), .a (.lit (.int .i64 k0))] [.agg (aG (HQ k0 x)), .a (.lit (.int .i64 k0))] (.int .i64 (k0+(kL x:Nat))):=by
 refine dQ.of X Tryz.call79 Tryz.func79 rfl rfl Tryz.ntmps79 (by simp) ?_
 intro zb
 unfold kL at h1 ⊢
 refine W.s0 X [1,2] rfl ⟨⟩ ?_
 refine W.sr X [] [(100008,⟨false,[.a (.lit (.int .i64 (k0+((aD bL) x.ah:Nat)))), .a (.sl .aO ((dm oU bL) (k0) x.ah)), .a (.lit (.int .i64 (k0)))]⟩)] [1,2] [] rfl ⟨FL x.ah (k0) (by omega) (by omega),⟨⟩⟩ ?_
 refine W.sr X [] [(100012,⟨false,[.a (.lit (.int .i64 (k0+((aD bL) x.ah:Nat)+((aD aX) x.af:Nat)))), .a (.sl .aL ((dm oV aX) (k0+((aD bL) x.ah:Nat)) x.af)), .a (.lit (.int .i64 (k0+((aD bL) x.ah:Nat))))]⟩)] [1,2] [] rfl ⟨FK x.af (k0+((aD bL) x.ah:Nat)) (by omega) (by omega),⟨⟩⟩ ?_
 refine W.sr X [] [(100016,⟨false,[.a (.lit (.int .i64 (k0+((aD bL) x.ah:Nat)+((aD aX) x.af:Nat)+(kK x.ak:Nat)))), .agg (ck (HP (k0+((aD bL) x.ah:Nat)+((aD aX) x.af:Nat)) x.ak)), .a (.lit (.int .i64 (k0+((aD bL) x.ah:Nat)+((aD aX) x.af:Nat))))]⟩)] [1,2] [] rfl ⟨FJ x.ak (k0+((aD bL) x.ah:Nat)+((aD aX) x.af:Nat)) (by omega) (by omega),⟨⟩⟩ ?_
 refine W.sr X [] [(100020,⟨false,[.a (.lit (.int .i64 (k0+((aD bL) x.ah:Nat)+((aD aX) x.af:Nat)+(kK x.ak:Nat)+((aD (fun _=>1)) x.replaced:Nat)))), .a (.sl .int ((dm (fun k _=>k) (fun _=>1)) (k0+((aD bL) x.ah:Nat)+((aD aX) x.af:Nat)+(kK x.ak:Nat)) x.replaced)), .a (.lit (.int .i64 (k0+((aD bL) x.ah:Nat)+((aD aX) x.af:Nat)+(kK x.ak:Nat))))]⟩)] [1] [] rfl ⟨yc x.replaced (k0+((aD bL) x.ah:Nat)+((aD aX) x.af:Nat)+(kK x.ak:Nat)) (by omega) (by omega),⟨⟩⟩ ?_
 refine W.s0 X [4] rfl ⟨⟩ ?_
 refine W.ret ?_
 exact yK.ret rfl (by and_intros<;>first|exact⟨⟩|rfl| (congr 1;omega))
end
end Go.Proofs.YteodajeiagmekaaGreat.G
