/-
  Worlds stay small. No program in sight.
-/
import Derived.Test.YtmcgjpdljafkeaaGreatM9
namespace Go.Proofs.YtmcgjpdljafkeaaGreat.G
set_option linter.all false
open Go.RowKit L D
section
def dc{α:Type}(mk:Int→α→α)(mn:α→Nat):Int→List α→List α
 |_,[]=> []
 |k,x::r=>mk k x::dc mk mn (k+mn x) r
section
variable{α:Type}{mk:Int→α→α}{mn:α→Nat}
theorem bX: ∀{l:List α} {k:Int},(dc mk mn k l).length=l.length
 | [],_=>rfl
 |_::r,k=>by rw[dc,List.length_cons,List.length_cons,bX]
theorem eH(l:List α)(d:α)(j:Nat)(h:j<l.length):aC mn (l.take (j+1))=aC mn (l.take j)+mn (l.getD j d):=lz mn l d j h
theorem jc(l:List α)(j:Nat):aC mn (l.take j)≤aC mn l:=dn l mn j
theorem FX: ∀{l m:List α} {k:Int},dc mk mn k (l++m)=dc mk mn k l++dc mk mn (k+aC mn l) m
 | [],m,k=>by simp[dc,aC]
 |x::r,m,k=>by
  rw[List.cons_append,dc,dc,FX,List.cons_append,HD]
  congr 3
  omega
theorem mN{l:List α}{k:Int}{d:α}{j:Nat}(h:j<l.length):(dc mk mn k l).getD j d=mk (k+aC mn (l.take j)) (l.getD j d):=by
 have e:l=l.take j++l.getD j d::l.drop (j+1):=by
  have:l.drop j=l.getD j d::l.drop (j+1):=by
   rw[List.drop_eq_getElem_cons h,List.getD_eq_getElem?_getD,List.getElem?_eq_getElem h];rfl
  rw[←this,List.take_append_drop]
 have hj:(l.take j).length=j:=by rw[List.length_take];omega
 generalize l.getD j d=x at e ⊢
 rw[show dc mk mn k l=dc mk mn k (l.take j++x::l.drop (j+1))by rw[←e],FX,dc]
 rw[List.getD_eq_getElem?_getD,List.getElem?_append_right (by rw[bX,hj];exact Nat.le_refl _),bX,hj,Nat.sub_self]
 rfl
theorem rU(l:List α)(k:Int)(d:α)(j:Nat)(h:j<l.length):(dc mk mn k (l.take j)++l.drop j).getD j d=l.getD j d:=by
 have hj:(dc mk mn k (l.take j)).length=j:=by rw[bX,List.length_take];omega
 rw[List.getD_eq_getElem?_getD,List.getElem?_append_right (by omega),hj,Nat.sub_self,List.getElem?_drop,List.getD_eq_getElem?_getD,Nat.add_zero]
theorem ep(l:List α)(k:Int)(j:Nat)(h:j≤l.length):(dc mk mn k (l.take j)++l.drop j).length=l.length:=by
 rw[List.length_append,bX,List.length_take,List.length_drop];omega
theorem nH(l:List α)(k:Int)(d:α)(j:Nat)(h:j<l.length):(dc mk mn k (l.take j)++l.drop j).set j (mk (k+aC mn (l.take j)) (l.getD j d))=dc mk mn k (l.take (j+1))++l.drop (j+1):=by
 have hj:(dc mk mn k (l.take j)).length=j:=by rw[bX,List.length_take];omega
 rw[List.set_append_right _ _ (by omega),hj,Nat.sub_self,List.drop_eq_getElem_cons h,List.set_cons_zero,bf l j d h,FX,dc,dc,List.append_assoc]
 rfl
theorem lC(L:List α)(d y:α)(j:Nat)(h:j<L.length):(L.set j y).getD j d=y:=by
 rw[List.getD_eq_getElem?_getD,List.getElem?_set_self h];rfl
end
theorem W.rV{P:Program}{ty:Tag→Nat}{zb:cA}{c:Code}{Q:Post}{st:St}(n:Nat){t:Tag}{l:List (T t)}(h:look st.hp n=some (.arr t l))(k:l.length≤9223372036854775807→W P ty zb c Q st):W P ty zb c Q st:=by
 intro a w iv
 obtain⟨env,g⟩:=iv.good
 obtain⟨oa,cap,_,h1,h2,_⟩:=RO.sl (g.obj n _ h)
 have e:maxLen=9223372036854775807:=by decide
 exact k (by omega) a w iv
end
section
set_option maxRecDepth 100000
def cH(k:Int)(_:UInt8):UInt8:=UInt8.ofNat (IntKind.u8.wrap k).toNat
def FY(x:DB):Nat:=(aC (aC (fun _=>1))) x.rows
def PJ(k:Int)(x:DB):DB:=⟨(dc (dc cH (fun _=>1)) (aC (fun _=>1))) (k) x.rows⟩
def dQ(k:Int)(x:aB):aB:=⟨k,⟨(dc (dc cH (fun _=>1)) (aC (fun _=>1))) (k+1) x.share.rows⟩⟩
def iK(k:Int)(x:aU):aU:=⟨k,k+1,k+1+1,(dc dQ aO) (k+1+1+1) x.received,k+1+1+1+((aC aO) x.received:Nat)⟩
def dR(k:Int)(x:aA):aA:=⟨k,⟨(dc (dc cH (fun _=>1)) (aC (fun _=>1))) (k+1) x.db.rows⟩⟩
def Bd(k:Int)(x:iS):iS:=⟨x.rows,(dc dR aT) (k) x.rounds⟩
def Ln(x:dV):Nat:=1+1+1+1+(aC (aC (fun _=>1))) x.aq+1+(aC (aC (fun _=>1))) x.inbox+1
def SF(k:Int)(x:dV):dV:=⟨k,k+1,k+1+1,k+1+1+1,(dc (dc cH (fun _=>1)) (aC (fun _=>1))) (k+1+1+1+1) x.aq,k+1+1+1+1+((aC (aC (fun _=>1))) x.aq:Nat),(dc (dc cH (fun _=>1)) (aC (fun _=>1))) (k+1+1+1+1+((aC (aC (fun _=>1))) x.aq:Nat)+1) x.inbox,k+1+1+1+1+((aC (aC (fun _=>1))) x.aq:Nat)+1+((aC (aC (fun _=>1))) x.inbox:Nat)⟩
def iL(k:Int)(x:aL):aL:=⟨⟨k,k+1,k+1+1,k+1+1+1,(dc (dc cH (fun _=>1)) (aC (fun _=>1))) (k+1+1+1+1) x.live.aq,k+1+1+1+1+((aC (aC (fun _=>1))) x.live.aq:Nat),(dc (dc cH (fun _=>1)) (aC (fun _=>1))) (k+1+1+1+1+((aC (aC (fun _=>1))) x.live.aq:Nat)+1) x.live.inbox,k+1+1+1+1+((aC (aC (fun _=>1))) x.live.aq:Nat)+1+((aC (aC (fun _=>1))) x.live.inbox:Nat)⟩,⟨k+1+1+1+1+((aC (aC (fun _=>1))) x.live.aq:Nat)+1+((aC (aC (fun _=>1))) x.live.inbox:Nat)+1,k+1+1+1+1+((aC (aC (fun _=>1))) x.live.aq:Nat)+1+((aC (aC (fun _=>1))) x.live.inbox:Nat)+1+1,k+1+1+1+1+((aC (aC (fun _=>1))) x.live.aq:Nat)+1+((aC (aC (fun _=>1))) x.live.inbox:Nat)+1+1+1,k+1+1+1+1+((aC (aC (fun _=>1))) x.live.aq:Nat)+1+((aC (aC (fun _=>1))) x.live.inbox:Nat)+1+1+1+1,(dc (dc cH (fun _=>1)) (aC (fun _=>1))) (k+1+1+1+1+((aC (aC (fun _=>1))) x.live.aq:Nat)+1+((aC (aC (fun _=>1))) x.live.inbox:Nat)+1+1+1+1+1) x.saved.aq,k+1+1+1+1+((aC (aC (fun _=>1))) x.live.aq:Nat)+1+((aC (aC (fun _=>1))) x.live.inbox:Nat)+1+1+1+1+1+((aC (aC (fun _=>1))) x.saved.aq:Nat),(dc (dc cH (fun _=>1)) (aC (fun _=>1))) (k+1+1+1+1+((aC (aC (fun _=>1))) x.live.aq:Nat)+1+((aC (aC (fun _=>1))) x.live.inbox:Nat)+1+1+1+1+1+((aC (aC (fun _=>1))) x.saved.aq:Nat)+1) x.saved.inbox,k+1+1+1+1+((aC (aC (fun _=>1))) x.live.aq:Nat)+1+((aC (aC (fun _=>1))) x.live.inbox:Nat)+1+1+1+1+1+((aC (aC (fun _=>1))) x.saved.aq:Nat)+1+((aC (aC (fun _=>1))) x.saved.inbox:Nat)⟩⟩
def iM(k:Int)(x:aN):aN:=⟨x.rows,(dc iK aS) (k) x.aj,(dc iL aG) (k+((aC aS) x.aj:Nat)) x.aa,Bd (k+((aC aS) x.aj:Nat)+((aC aG) x.aa:Nat)) x.ak,x.az,x.seed,x.round,(dc (fun k _=>k) (fun _=>1)) (k+((aC aS) x.aj:Nat)+((aC aG) x.aa:Nat)+(eW x.ak:Nat)) x.replaced,x.cancelled⟩
end
section
set_option maxRecDepth 100000
theorem lD(l:(List UInt8))(k0:Int)(h0:0≤k0)(h1:k0+((aC (fun _=>1)) l:Nat)≤1099511627776):dr Tryz.prog 89 [.a (.sl .u8 l), .a (.lit (.int .i64 k0))] [.a (.sl .u8 ((dc cH (fun _=>1)) k0 l)), .a (.lit (.int .i64 k0))] (.int .i64 (k0+((aC (fun _=>1)) l:Nat))):=by
 refine dr.of X Tryz.call89 Tryz.func89 rfl rfl Tryz.ntmps89 (by simp) ?_
 intro zb
 refine W.rV 1000 rfl fun hl=> ?_
 refine W.s0 X [0,1] rfl ⟨⟩ ?_
 refine W.seq ?_
 refine W.s0 X [0,1,5] rfl ⟨⟩ ?_
 refine W.block ?_
 refine W.aI (fun k=>k≤l.length) (fun k:Nat=> [(1, .one (.a (.lit (.int .i64 (k0+(aC (fun _=>1) (l.take k):Nat)))))),(5, .one (.a (.lit (.int .i64 k))))]) (fun k=> [(1000, .arr .u8 (dc cH (fun _=>1) k0 (l.take k)++l.drop k))]) (fun k=>l.length-k) 0 (fun k=>rfl) (Nat.zero_le _) (by simp[dc,aC]) ?_
 intro k hk
 refine W.seq ?_
 refine W.s0 X [0,1,5,9] rfl ⟨⟩ ?_
 refine W.cond rfl (fun hb0=> ?_) (fun hb0=> ?_)
 ·rw[ep l k0 k hk]at hb0
  try simp only[nb]at hb0
  have hc:=rU (mk:=cH) (mn:=(fun _=>1)) l k0 (av .u8) k hb0
  have hlen:=ep (mk:=cH) (mn:=(fun _=>1)) l k0 k (by omega)
  have hst:=nH (mk:=cH) (mn:=(fun _=>1)) l k0 (av .u8) k hb0
  have qz:=eH (mn:=(fun _=>1)) l (av .u8) k hb0
  have hml:=jc (mn:=(fun _=>1)) l (k+1)
  generalize dc cH (fun _=>1) k0 (l.take k)++l.drop k=L at hc hlen hst ⊢
  generalize l.getD k (av .u8)=e at hc hst qz
  have hL:k<L.length:=by omega
  have gs: ∀y:UInt8,(L.set k y).getD k (av .u8)=y:=fun y=>lC L _ y k hL
  have gl: ∀y:UInt8,(L.set k y).length=L.length:=fun y=>List.length_set
  refine W.skip ?_
  refine W.seq ?_
  refine W.block ?_
  refine W.s0 X [0,1,5] rfl (by and_intros<;>first|exact⟨⟩| (intros;omega)|exact(qc _).1|exact(qc _).2) ?_
  simp only[Int.toNat_natCast,gs,hc,List.set_set]
  refine W.r0 X [0,1,5] rfl ⟨⟩ ?_
  rw[IntWalk.i64_in ((k0+(aC (fun _=>1) (l.take k):Nat))+1) (by omega)]
  refine W.r0 X [0,1,5] rfl ⟨⟩ ?_
  refine⟨k+1,by omega,by omega,?_⟩
  rw[aV _ k rfl (by omega),show(k0+(aC (fun _=>1) (l.take k):Nat))+1=k0+(aC (fun _=>1) (l.take (k+1)):Nat)by omega, ←hst]
  try rfl
 ·rw[ep l k0 k hk]at hb0
  try simp only[nb]at hb0
  refine W.exit ?_
  refine W.s0 X [4] rfl ⟨⟩ ?_
  refine W.ret ?_
  have hf:l.take k=l:=List.take_of_length_le (by omega)
  have hd:l.drop k= []:=List.drop_eq_nil_of_le (by omega)
  exact wP.ret rfl ⟨by rw[hf],by rw[hf,hd,List.append_nil],rfl,⟨⟩⟩
theorem cQ(l:(List (List UInt8)))(k0:Int)(h0:0≤k0)(h1:k0+((aC (aC (fun _=>1))) l:Nat)≤1099511627776):dr Tryz.prog 144 [.a (.sl (.sl .u8) l), .a (.lit (.int .i64 k0))] [.a (.sl (.sl .u8) ((dc (dc cH (fun _=>1)) (aC (fun _=>1))) k0 l)), .a (.lit (.int .i64 k0))] (.int .i64 (k0+((aC (aC (fun _=>1))) l:Nat))):=by
 refine dr.of X Tryz.call144 Tryz.func144 rfl rfl Tryz.ntmps144 (by simp) ?_
 intro zb
 refine W.rV 1000 rfl fun hl=> ?_
 refine W.s0 X [0,1] rfl ⟨⟩ ?_
 refine W.seq ?_
 refine W.s0 X [0,1,5] rfl ⟨⟩ ?_
 refine W.block ?_
 refine W.aI (fun k=>k≤l.length) (fun k:Nat=> [(1, .one (.a (.lit (.int .i64 (k0+(aC (aC (fun _=>1)) (l.take k):Nat)))))),(5, .one (.a (.lit (.int .i64 k))))]) (fun k=> [(1000, .arr (.sl .u8) (dc (dc cH (fun _=>1)) (aC (fun _=>1)) k0 (l.take k)++l.drop k))]) (fun k=>l.length-k) 0 (fun k=>rfl) (Nat.zero_le _) (by simp[dc,aC]) ?_
 intro k hk
 refine W.seq ?_
 refine W.s0 X [0,1,5,9] rfl ⟨⟩ ?_
 refine W.cond rfl (fun hb0=> ?_) (fun hb0=> ?_)
 ·rw[ep l k0 k hk]at hb0
  try simp only[nb]at hb0
  have hc:=rU (mk:=(dc cH (fun _=>1))) (mn:=(aC (fun _=>1))) l k0 (av (.sl .u8)) k hb0
  have hlen:=ep (mk:=(dc cH (fun _=>1))) (mn:=(aC (fun _=>1))) l k0 k (by omega)
  have hst:=nH (mk:=(dc cH (fun _=>1))) (mn:=(aC (fun _=>1))) l k0 (av (.sl .u8)) k hb0
  have qz:=eH (mn:=(aC (fun _=>1))) l (av (.sl .u8)) k hb0
  have hml:=jc (mn:=(aC (fun _=>1))) l (k+1)
  generalize dc (dc cH (fun _=>1)) (aC (fun _=>1)) k0 (l.take k)++l.drop k=L at hc hlen hst ⊢
  generalize l.getD k (av (.sl .u8))=e at hc hst qz
  have hL:k<L.length:=by omega
  have gs: ∀y:(List UInt8),(L.set k y).getD k (av (.sl .u8))=y:=fun y=>lC L _ y k hL
  have gl: ∀y:(List UInt8),(L.set k y).length=L.length:=fun y=>List.length_set
  refine W.skip ?_
  refine W.seq ?_
  refine W.block ?_
  refine W.fH X [] [(200017,⟨false,[.a (.lit (.int .i64 ((k0+(aC (aC (fun _=>1)) (l.take k):Nat))+((aC (fun _=>1)) e:Nat)))), .a (.sl .u8 ((dc cH (fun _=>1)) ((k0+(aC (aC (fun _=>1)) (l.take k):Nat))) e)), .a (.lit (.int .i64 ((k0+(aC (aC (fun _=>1)) (l.take k):Nat)))))]⟩)] [0,1,5] [] rfl (by(repeat' (first|exact True.intro|exact lD e ((k0+(aC (aC (fun _=>1)) (l.take k):Nat))) (by omega) (by omega)| (simp only[Int.toNat_natCast,gs,hc];exact lD e ((k0+(aC (aC (fun _=>1)) (l.take k):Nat))) (by omega) (by omega))|apply And.intro))<;>first| (intros;omega)) ?_
  simp only[Int.toNat_natCast,gs,hc,List.set_set]
  refine W.r0 X [0,1,5] rfl ⟨⟩ ?_
  refine⟨k+1,by omega,by omega,?_⟩
  rw[aV _ k rfl (by omega),show(k0+(aC (aC (fun _=>1)) (l.take k):Nat))+((aC (fun _=>1)) e:Nat)=k0+(aC (aC (fun _=>1)) (l.take (k+1)):Nat)by omega, ←hst]
  try rfl
 ·rw[ep l k0 k hk]at hb0
  try simp only[nb]at hb0
  refine W.exit ?_
  refine W.s0 X [4] rfl ⟨⟩ ?_
  refine W.ret ?_
  have hf:l.take k=l:=List.take_of_length_le (by omega)
  have hd:l.drop k= []:=List.drop_eq_nil_of_le (by omega)
  exact wP.ret rfl ⟨by rw[hf],by rw[hf,hd,List.append_nil],rfl,⟨⟩⟩
theorem rW(l:(List aA))(k0:Int)(h0:0≤k0)(h1:k0+((aC aT) l:Nat)≤1099511627776):dr Tryz.prog 145 [.a (.sl .aA l), .a (.lit (.int .i64 k0))] [.a (.sl .aA ((dc dR aT) k0 l)), .a (.lit (.int .i64 k0))] (.int .i64 (k0+((aC aT) l:Nat))):=by
 refine dr.of X Tryz.call145 Tryz.func145 rfl rfl Tryz.ntmps145 (by simp) ?_
 intro zb
 refine W.rV 1000 rfl fun hl=> ?_
 refine W.s0 X [0,1] rfl ⟨⟩ ?_
 refine W.seq ?_
 refine W.s0 X [0,1,5] rfl ⟨⟩ ?_
 refine W.block ?_
 refine W.aI (fun k=>k≤l.length) (fun k:Nat=> [(1, .one (.a (.lit (.int .i64 (k0+(aC aT (l.take k):Nat)))))),(5, .one (.a (.lit (.int .i64 k))))]) (fun k=> [(1000, .arr .aA (dc dR aT k0 (l.take k)++l.drop k))]) (fun k=>l.length-k) 0 (fun k=>rfl) (Nat.zero_le _) (by simp[dc,aC]) ?_
 intro k hk
 refine W.seq ?_
 refine W.s0 X [0,1,5,9] rfl ⟨⟩ ?_
 refine W.cond rfl (fun hb0=> ?_) (fun hb0=> ?_)
 ·rw[ep l k0 k hk]at hb0
  try simp only[nb]at hb0
  have hc:=rU (mk:=dR) (mn:=aT) l k0 (av .aA) k hb0
  have hlen:=ep (mk:=dR) (mn:=aT) l k0 k (by omega)
  have hst:=nH (mk:=dR) (mn:=aT) l k0 (av .aA) k hb0
  have qz:=eH (mn:=aT) l (av .aA) k hb0
  have hml:=jc (mn:=aT) l (k+1)
  generalize dc dR aT k0 (l.take k)++l.drop k=L at hc hlen hst ⊢
  generalize l.getD k (av .aA)=e at hc hst qz
  have hL:k<L.length:=by omega
  have gs: ∀y:aA,(L.set k y).getD k (av .aA)=y:=fun y=>lC L _ y k hL
  have gl: ∀y:aA,(L.set k y).length=L.length:=fun y=>List.length_set
  simp only[aT,FY]at qz
  refine W.skip ?_
  refine W.seq ?_
  refine W.block ?_
  refine W.s0 X [0,1,5] rfl (by and_intros<;>first|exact⟨⟩| (intros;omega)) ?_
  simp only[Int.toNat_natCast,gs,hc,List.set_set]
  refine W.s0 X [0,1,5] rfl ⟨⟩ ?_
  rw[IntWalk.i64_in ((k0+(aC aT (l.take k):Nat))+1) (by omega)]
  refine W.fH X [] [(200026,⟨false,[.a (.lit (.int .i64 ((k0+(aC aT (l.take k):Nat))+1+((aC (aC (fun _=>1))) e.db.rows:Nat)))), .a (.sl (.sl .u8) ((dc (dc cH (fun _=>1)) (aC (fun _=>1))) ((k0+(aC aT (l.take k):Nat))+1) e.db.rows)), .a (.lit (.int .i64 ((k0+(aC aT (l.take k):Nat))+1)))]⟩)] [0,1,5] [] rfl (by(repeat' (first|exact True.intro|exact cQ e.db.rows ((k0+(aC aT (l.take k):Nat))+1) (by omega) (by omega)| (simp only[Int.toNat_natCast,gs,hc];exact cQ e.db.rows ((k0+(aC aT (l.take k):Nat))+1) (by omega) (by omega))|apply And.intro))<;>first| (intros;omega)| (simp only[cN,maxLen,lens];omega)) ?_
  simp only[Int.toNat_natCast,gs,hc,List.set_set]
  refine W.r0 X [0,1,5] rfl ⟨⟩ ?_
  refine⟨k+1,by omega,by omega,?_⟩
  rw[aV _ k rfl (by omega),show(k0+(aC aT (l.take k):Nat))+1+((aC (aC (fun _=>1))) e.db.rows:Nat)=k0+(aC aT (l.take (k+1)):Nat)by omega, ←hst]
  try rfl
 ·rw[ep l k0 k hk]at hb0
  try simp only[nb]at hb0
  refine W.exit ?_
  refine W.s0 X [4] rfl ⟨⟩ ?_
  refine W.ret ?_
  have hf:l.take k=l:=List.take_of_length_le (by omega)
  have hd:l.drop k= []:=List.drop_eq_nil_of_le (by omega)
  exact wP.ret rfl ⟨by rw[hf],by rw[hf,hd,List.append_nil],rfl,⟨⟩⟩
theorem DH(x:iS)(k0:Int)(h0:0≤k0)(h1:k0+(eW x:Nat)≤1099511627776):dr Tryz.prog 63 [.agg (cj x), .a (.lit (.int .i64 k0))] [.agg (cj (Bd k0 x)), .a (.lit (.int .i64 k0))] (.int .i64 (k0+(eW x:Nat))):=by
 refine dr.of X Tryz.call63 Tryz.func63 rfl rfl Tryz.ntmps63 (by simp) ?_
 intro zb
 unfold eW at h1 ⊢
 refine W.s0 X [1,2] rfl ⟨⟩ ?_
 refine W.sr X [] [(100008,⟨false,[.a (.lit (.int .i64 (k0+((aC aT) x.rounds:Nat)))), .a (.sl .aA ((dc dR aT) (k0) x.rounds)), .a (.lit (.int .i64 (k0)))]⟩)] [1] [] rfl ⟨rW x.rounds (k0) (by omega) (by omega),⟨⟩⟩ ?_
 refine W.s0 X [4] rfl ⟨⟩ ?_
 refine W.ret ?_
 exact wP.ret rfl (by and_intros<;>first|exact⟨⟩|rfl| (congr 1;omega))
theorem DI(l:(List aL))(k0:Int)(h0:0≤k0)(h1:k0+((aC aG) l:Nat)≤1099511627776):dr Tryz.prog 62 [.a (.sl .aL l), .a (.lit (.int .i64 k0))] [.a (.sl .aL ((dc iL aG) k0 l)), .a (.lit (.int .i64 k0))] (.int .i64 (k0+((aC aG) l:Nat))):=by
 refine dr.of X Tryz.call62 Tryz.func62 rfl rfl Tryz.ntmps62 (by simp) ?_
 intro zb
 refine W.rV 1000 rfl fun hl=> ?_
 refine W.s0 X [0,1] rfl ⟨⟩ ?_
 refine W.seq ?_
 refine W.s0 X [0,1,5] rfl ⟨⟩ ?_
 refine W.block ?_
 refine W.aI (fun k=>k≤l.length) (fun k:Nat=> [(1, .one (.a (.lit (.int .i64 (k0+(aC aG (l.take k):Nat)))))),(5, .one (.a (.lit (.int .i64 k))))]) (fun k=> [(1000, .arr .aL (dc iL aG k0 (l.take k)++l.drop k))]) (fun k=>l.length-k) 0 (fun k=>rfl) (Nat.zero_le _) (by simp[dc,aC]) ?_
 intro k hk
 refine W.seq ?_
 refine W.s0 X [0,1,5,9] rfl ⟨⟩ ?_
 refine W.cond rfl (fun hb0=> ?_) (fun hb0=> ?_)
 ·rw[ep l k0 k hk]at hb0
  try simp only[nb]at hb0
  have hc:=rU (mk:=iL) (mn:=aG) l k0 (av .aL) k hb0
  have hlen:=ep (mk:=iL) (mn:=aG) l k0 k (by omega)
  have hst:=nH (mk:=iL) (mn:=aG) l k0 (av .aL) k hb0
  have qz:=eH (mn:=aG) l (av .aL) k hb0
  have hml:=jc (mn:=aG) l (k+1)
  generalize dc iL aG k0 (l.take k)++l.drop k=L at hc hlen hst ⊢
  generalize l.getD k (av .aL)=e at hc hst qz
  have hL:k<L.length:=by omega
  have gs: ∀y:aL,(L.set k y).getD k (av .aL)=y:=fun y=>lC L _ y k hL
  have gl: ∀y:aL,(L.set k y).length=L.length:=fun y=>List.length_set
  simp only[aG,Ln]at qz
  refine W.skip ?_
  refine W.seq ?_
  refine W.block ?_
  refine W.s0 X [0,1,5] rfl (by and_intros<;>first|exact⟨⟩| (intros;omega)) ?_
  simp only[Int.toNat_natCast,gs,hc,List.set_set]
  refine W.s0 X [0,1,5] rfl ⟨⟩ ?_
  rw[IntWalk.i64_in ((k0+(aC aG (l.take k):Nat))+1) (by omega)]
  refine W.s0 X [0,1,5] rfl (by and_intros<;>first|exact⟨⟩| (intros;omega)| (simp only[cN,maxLen,lens];omega)) ?_
  simp only[Int.toNat_natCast,gs,hc,List.set_set]
  refine W.s0 X [0,1,5] rfl ⟨⟩ ?_
  rw[IntWalk.i64_in ((k0+(aC aG (l.take k):Nat))+1+1) (by omega)]
  refine W.s0 X [0,1,5] rfl (by and_intros<;>first|exact⟨⟩| (intros;omega)| (simp only[cN,maxLen,lens];omega)) ?_
  simp only[Int.toNat_natCast,gs,hc,List.set_set]
  refine W.s0 X [0,1,5] rfl ⟨⟩ ?_
  rw[IntWalk.i64_in ((k0+(aC aG (l.take k):Nat))+1+1+1) (by omega)]
  refine W.s0 X [0,1,5] rfl (by and_intros<;>first|exact⟨⟩| (intros;omega)| (simp only[cN,maxLen,lens];omega)) ?_
  simp only[Int.toNat_natCast,gs,hc,List.set_set]
  refine W.s0 X [0,1,5] rfl ⟨⟩ ?_
  rw[IntWalk.i64_in ((k0+(aC aG (l.take k):Nat))+1+1+1+1) (by omega)]
  refine W.sr X [] [(200051,⟨false,[.a (.lit (.int .i64 ((k0+(aC aG (l.take k):Nat))+1+1+1+1+((aC (aC (fun _=>1))) e.live.aq:Nat)))), .a (.sl (.sl .u8) ((dc (dc cH (fun _=>1)) (aC (fun _=>1))) ((k0+(aC aG (l.take k):Nat))+1+1+1+1) e.live.aq)), .a (.lit (.int .i64 ((k0+(aC aG (l.take k):Nat))+1+1+1+1)))]⟩)] [0,1,5] [] rfl (by(repeat' (first|exact True.intro|exact cQ e.live.aq ((k0+(aC aG (l.take k):Nat))+1+1+1+1) (by omega) (by omega)| (simp only[Int.toNat_natCast,gs,hc];exact cQ e.live.aq ((k0+(aC aG (l.take k):Nat))+1+1+1+1) (by omega) (by omega))|apply And.intro))<;>first| (intros;omega)| (simp only[cN,maxLen,lens];omega)) ?_
  simp only[Int.toNat_natCast,gs,hc,List.set_set]
  refine W.s0 X [0,1,5] rfl (by and_intros<;>first|exact⟨⟩| (intros;omega)| (simp only[cN,maxLen,lens];omega)) ?_
  simp only[Int.toNat_natCast,gs,hc,List.set_set]
  refine W.s0 X [0,1,5] rfl ⟨⟩ ?_
  rw[IntWalk.i64_in ((k0+(aC aG (l.take k):Nat))+1+1+1+1+((aC (aC (fun _=>1))) e.live.aq:Nat)+1) (by omega)]
  refine W.sr X [] [(200067,⟨false,[.a (.lit (.int .i64 ((k0+(aC aG (l.take k):Nat))+1+1+1+1+((aC (aC (fun _=>1))) e.live.aq:Nat)+1+((aC (aC (fun _=>1))) e.live.inbox:Nat)))), .a (.sl (.sl .u8) ((dc (dc cH (fun _=>1)) (aC (fun _=>1))) ((k0+(aC aG (l.take k):Nat))+1+1+1+1+((aC (aC (fun _=>1))) e.live.aq:Nat)+1) e.live.inbox)), .a (.lit (.int .i64 ((k0+(aC aG (l.take k):Nat))+1+1+1+1+((aC (aC (fun _=>1))) e.live.aq:Nat)+1)))]⟩)] [0,1,5] [] rfl (by(repeat' (first|exact True.intro|exact cQ e.live.inbox ((k0+(aC aG (l.take k):Nat))+1+1+1+1+((aC (aC (fun _=>1))) e.live.aq:Nat)+1) (by omega) (by omega)| (simp only[Int.toNat_natCast,gs,hc];exact cQ e.live.inbox ((k0+(aC aG (l.take k):Nat))+1+1+1+1+((aC (aC (fun _=>1))) e.live.aq:Nat)+1) (by omega) (by omega))|apply And.intro))<;>first| (intros;omega)| (simp only[cN,maxLen,lens];omega)) ?_
  simp only[Int.toNat_natCast,gs,hc,List.set_set]
  refine W.s0 X [0,1,5] rfl (by and_intros<;>first|exact⟨⟩| (intros;omega)| (simp only[cN,maxLen,lens];omega)) ?_
  simp only[Int.toNat_natCast,gs,hc,List.set_set]
  refine W.s0 X [0,1,5] rfl ⟨⟩ ?_
  rw[IntWalk.i64_in ((k0+(aC aG (l.take k):Nat))+1+1+1+1+((aC (aC (fun _=>1))) e.live.aq:Nat)+1+((aC (aC (fun _=>1))) e.live.inbox:Nat)+1) (by omega)]
  refine W.s0 X [0,1,5] rfl (by and_intros<;>first|exact⟨⟩| (intros;omega)| (simp only[cN,maxLen,lens];omega)) ?_
  simp only[Int.toNat_natCast,gs,hc,List.set_set]
  refine W.s0 X [0,1,5] rfl ⟨⟩ ?_
  rw[IntWalk.i64_in ((k0+(aC aG (l.take k):Nat))+1+1+1+1+((aC (aC (fun _=>1))) e.live.aq:Nat)+1+((aC (aC (fun _=>1))) e.live.inbox:Nat)+1+1) (by omega)]
  refine W.s0 X [0,1,5] rfl (by and_intros<;>first|exact⟨⟩| (intros;omega)| (simp only[cN,maxLen,lens];omega)) ?_
  simp only[Int.toNat_natCast,gs,hc,List.set_set]
  refine W.s0 X [0,1,5] rfl ⟨⟩ ?_
  rw[IntWalk.i64_in ((k0+(aC aG (l.take k):Nat))+1+1+1+1+((aC (aC (fun _=>1))) e.live.aq:Nat)+1+((aC (aC (fun _=>1))) e.live.inbox:Nat)+1+1+1) (by omega)]
  refine W.s0 X [0,1,5] rfl (by and_intros<;>first|exact⟨⟩| (intros;omega)| (simp only[cN,maxLen,lens];omega)) ?_
  simp only[Int.toNat_natCast,gs,hc,List.set_set]
  refine W.s0 X [0,1,5] rfl ⟨⟩ ?_
  rw[IntWalk.i64_in ((k0+(aC aG (l.take k):Nat))+1+1+1+1+((aC (aC (fun _=>1))) e.live.aq:Nat)+1+((aC (aC (fun _=>1))) e.live.inbox:Nat)+1+1+1+1) (by omega)]
  refine W.s0 X [0,1,5] rfl (by and_intros<;>first|exact⟨⟩| (intros;omega)| (simp only[cN,maxLen,lens];omega)) ?_
  simp only[Int.toNat_natCast,gs,hc,List.set_set]
  refine W.s0 X [0,1,5] rfl ⟨⟩ ?_
  rw[IntWalk.i64_in ((k0+(aC aG (l.take k):Nat))+1+1+1+1+((aC (aC (fun _=>1))) e.live.aq:Nat)+1+((aC (aC (fun _=>1))) e.live.inbox:Nat)+1+1+1+1+1) (by omega)]
  refine W.sr X [] [(200115,⟨false,[.a (.lit (.int .i64 ((k0+(aC aG (l.take k):Nat))+1+1+1+1+((aC (aC (fun _=>1))) e.live.aq:Nat)+1+((aC (aC (fun _=>1))) e.live.inbox:Nat)+1+1+1+1+1+((aC (aC (fun _=>1))) e.saved.aq:Nat)))), .a (.sl (.sl .u8) ((dc (dc cH (fun _=>1)) (aC (fun _=>1))) ((k0+(aC aG (l.take k):Nat))+1+1+1+1+((aC (aC (fun _=>1))) e.live.aq:Nat)+1+((aC (aC (fun _=>1))) e.live.inbox:Nat)+1+1+1+1+1) e.saved.aq)), .a (.lit (.int .i64 ((k0+(aC aG (l.take k):Nat))+1+1+1+1+((aC (aC (fun _=>1))) e.live.aq:Nat)+1+((aC (aC (fun _=>1))) e.live.inbox:Nat)+1+1+1+1+1)))]⟩)] [0,1,5] [] rfl (by(repeat' (first|exact True.intro|exact cQ e.saved.aq ((k0+(aC aG (l.take k):Nat))+1+1+1+1+((aC (aC (fun _=>1))) e.live.aq:Nat)+1+((aC (aC (fun _=>1))) e.live.inbox:Nat)+1+1+1+1+1) (by omega) (by omega)| (simp only[Int.toNat_natCast,gs,hc];exact cQ e.saved.aq ((k0+(aC aG (l.take k):Nat))+1+1+1+1+((aC (aC (fun _=>1))) e.live.aq:Nat)+1+((aC (aC (fun _=>1))) e.live.inbox:Nat)+1+1+1+1+1) (by omega) (by omega))|apply And.intro))<;>first| (intros;omega)| (simp only[cN,maxLen,lens];omega)) ?_
  simp only[Int.toNat_natCast,gs,hc,List.set_set]
  refine W.s0 X [0,1,5] rfl (by and_intros<;>first|exact⟨⟩| (intros;omega)| (simp only[cN,maxLen,lens];omega)) ?_
  simp only[Int.toNat_natCast,gs,hc,List.set_set]
  refine W.s0 X [0,1,5] rfl ⟨⟩ ?_
  rw[IntWalk.i64_in ((k0+(aC aG (l.take k):Nat))+1+1+1+1+((aC (aC (fun _=>1))) e.live.aq:Nat)+1+((aC (aC (fun _=>1))) e.live.inbox:Nat)+1+1+1+1+1+((aC (aC (fun _=>1))) e.saved.aq:Nat)+1) (by omega)]
  refine W.sr X [] [(200131,⟨false,[.a (.lit (.int .i64 ((k0+(aC aG (l.take k):Nat))+1+1+1+1+((aC (aC (fun _=>1))) e.live.aq:Nat)+1+((aC (aC (fun _=>1))) e.live.inbox:Nat)+1+1+1+1+1+((aC (aC (fun _=>1))) e.saved.aq:Nat)+1+((aC (aC (fun _=>1))) e.saved.inbox:Nat)))), .a (.sl (.sl .u8) ((dc (dc cH (fun _=>1)) (aC (fun _=>1))) ((k0+(aC aG (l.take k):Nat))+1+1+1+1+((aC (aC (fun _=>1))) e.live.aq:Nat)+1+((aC (aC (fun _=>1))) e.live.inbox:Nat)+1+1+1+1+1+((aC (aC (fun _=>1))) e.saved.aq:Nat)+1) e.saved.inbox)), .a (.lit (.int .i64 ((k0+(aC aG (l.take k):Nat))+1+1+1+1+((aC (aC (fun _=>1))) e.live.aq:Nat)+1+((aC (aC (fun _=>1))) e.live.inbox:Nat)+1+1+1+1+1+((aC (aC (fun _=>1))) e.saved.aq:Nat)+1)))]⟩)] [0,1,5] [] rfl (by(repeat' (first|exact True.intro|exact cQ e.saved.inbox ((k0+(aC aG (l.take k):Nat))+1+1+1+1+((aC (aC (fun _=>1))) e.live.aq:Nat)+1+((aC (aC (fun _=>1))) e.live.inbox:Nat)+1+1+1+1+1+((aC (aC (fun _=>1))) e.saved.aq:Nat)+1) (by omega) (by omega)| (simp only[Int.toNat_natCast,gs,hc];exact cQ e.saved.inbox ((k0+(aC aG (l.take k):Nat))+1+1+1+1+((aC (aC (fun _=>1))) e.live.aq:Nat)+1+((aC (aC (fun _=>1))) e.live.inbox:Nat)+1+1+1+1+1+((aC (aC (fun _=>1))) e.saved.aq:Nat)+1) (by omega) (by omega))|apply And.intro))<;>first| (intros;omega)| (simp only[cN,maxLen,lens];omega)) ?_
  simp only[Int.toNat_natCast,gs,hc,List.set_set]
  refine W.s0 X [0,1,5] rfl (by and_intros<;>first|exact⟨⟩| (intros;omega)| (simp only[cN,maxLen,lens];omega)) ?_
  simp only[Int.toNat_natCast,gs,hc,List.set_set]
  refine W.r0 X [0,1,5] rfl ⟨⟩ ?_
  rw[IntWalk.i64_in ((k0+(aC aG (l.take k):Nat))+1+1+1+1+((aC (aC (fun _=>1))) e.live.aq:Nat)+1+((aC (aC (fun _=>1))) e.live.inbox:Nat)+1+1+1+1+1+((aC (aC (fun _=>1))) e.saved.aq:Nat)+1+((aC (aC (fun _=>1))) e.saved.inbox:Nat)+1) (by omega)]
  refine W.r0 X [0,1,5] rfl ⟨⟩ ?_
  refine⟨k+1,by omega,by omega,?_⟩
  rw[aV _ k rfl (by omega),show(k0+(aC aG (l.take k):Nat))+1+1+1+1+((aC (aC (fun _=>1))) e.live.aq:Nat)+1+((aC (aC (fun _=>1))) e.live.inbox:Nat)+1+1+1+1+1+((aC (aC (fun _=>1))) e.saved.aq:Nat)+1+((aC (aC (fun _=>1))) e.saved.inbox:Nat)+1=k0+(aC aG (l.take (k+1)):Nat)by omega, ←hst]
  try rfl
 ·rw[ep l k0 k hk]at hb0
  try simp only[nb]at hb0
  refine W.exit ?_
  refine W.s0 X [4] rfl ⟨⟩ ?_
  refine W.ret ?_
  have hf:l.take k=l:=List.take_of_length_le (by omega)
  have hd:l.drop k= []:=List.drop_eq_nil_of_le (by omega)
  exact wP.ret rfl ⟨by rw[hf],by rw[hf,hd,List.append_nil],rfl,⟨⟩⟩
theorem J5(l:(List Int))(k0:Int)(h0:0≤k0)(h1:k0+((aC (fun _=>1)) l:Nat)≤1099511627776):dr Tryz.prog 64 [.a (.sl .int l), .a (.lit (.int .i64 k0))] [.a (.sl .int ((dc (fun k _=>k) (fun _=>1)) k0 l)), .a (.lit (.int .i64 k0))] (.int .i64 (k0+((aC (fun _=>1)) l:Nat))):=by
 refine dr.of X Tryz.call64 Tryz.func64 rfl rfl Tryz.ntmps64 (by simp) ?_
 intro zb
 refine W.rV 1000 rfl fun hl=> ?_
 refine W.s0 X [0,1] rfl ⟨⟩ ?_
 refine W.seq ?_
 refine W.s0 X [0,1,5] rfl ⟨⟩ ?_
 refine W.block ?_
 refine W.aI (fun k=>k≤l.length) (fun k:Nat=> [(1, .one (.a (.lit (.int .i64 (k0+(aC (fun _=>1) (l.take k):Nat)))))),(5, .one (.a (.lit (.int .i64 k))))]) (fun k=> [(1000, .arr .int (dc (fun k _=>k) (fun _=>1) k0 (l.take k)++l.drop k))]) (fun k=>l.length-k) 0 (fun k=>rfl) (Nat.zero_le _) (by simp[dc,aC]) ?_
 intro k hk
 refine W.seq ?_
 refine W.s0 X [0,1,5,9] rfl ⟨⟩ ?_
 refine W.cond rfl (fun hb0=> ?_) (fun hb0=> ?_)
 ·rw[ep l k0 k hk]at hb0
  try simp only[nb]at hb0
  have hc:=rU (mk:=(fun k _=>k)) (mn:=(fun _=>1)) l k0 (av .int) k hb0
  have hlen:=ep (mk:=(fun k _=>k)) (mn:=(fun _=>1)) l k0 k (by omega)
  have hst:=nH (mk:=(fun k _=>k)) (mn:=(fun _=>1)) l k0 (av .int) k hb0
  have qz:=eH (mn:=(fun _=>1)) l (av .int) k hb0
  have hml:=jc (mn:=(fun _=>1)) l (k+1)
  generalize dc (fun k _=>k) (fun _=>1) k0 (l.take k)++l.drop k=L at hc hlen hst ⊢
  generalize l.getD k (av .int)=e at hc hst qz
  have hL:k<L.length:=by omega
  have gs: ∀y:Int,(L.set k y).getD k (av .int)=y:=fun y=>lC L _ y k hL
  have gl: ∀y:Int,(L.set k y).length=L.length:=fun y=>List.length_set
  refine W.skip ?_
  refine W.seq ?_
  refine W.block ?_
  refine W.s0 X [0,1,5] rfl (by and_intros<;>first|exact⟨⟩| (intros;omega)) ?_
  simp only[Int.toNat_natCast,gs,hc,List.set_set]
  refine W.r0 X [0,1,5] rfl ⟨⟩ ?_
  rw[IntWalk.i64_in ((k0+(aC (fun _=>1) (l.take k):Nat))+1) (by omega)]
  refine W.r0 X [0,1,5] rfl ⟨⟩ ?_
  refine⟨k+1,by omega,by omega,?_⟩
  rw[aV _ k rfl (by omega),show(k0+(aC (fun _=>1) (l.take k):Nat))+1=k0+(aC (fun _=>1) (l.take (k+1)):Nat)by omega, ←hst]
  try rfl
 ·rw[ep l k0 k hk]at hb0
  try simp only[nb]at hb0
  refine W.exit ?_
  refine W.s0 X [4] rfl ⟨⟩ ?_
  refine W.ret ?_
  have hf:l.take k=l:=List.take_of_length_le (by omega)
  have hd:l.drop k= []:=List.drop_eq_nil_of_le (by omega)
  exact wP.ret rfl ⟨by rw[hf],by rw[hf,hd,List.append_nil],rfl,⟨⟩⟩
theorem lE(l:(List aB))(k0:Int)(h0:0≤k0)(h1:k0+((aC aO) l:Nat)≤1099511627776):dr Tryz.prog 143 [.a (.sl .aB l), .a (.lit (.int .i64 k0))] [.a (.sl .aB ((dc dQ aO) k0 l)), .a (.lit (.int .i64 k0))] (.int .i64 (k0+((aC aO) l:Nat))):=by
 refine dr.of X Tryz.call143 Tryz.func143 rfl rfl Tryz.ntmps143 (by simp) ?_
 intro zb
 refine W.rV 1000 rfl fun hl=> ?_
 refine W.s0 X [0,1] rfl ⟨⟩ ?_
 refine W.seq ?_
 refine W.s0 X [0,1,5] rfl ⟨⟩ ?_
 refine W.block ?_
 refine W.aI (fun k=>k≤l.length) (fun k:Nat=> [(1, .one (.a (.lit (.int .i64 (k0+(aC aO (l.take k):Nat)))))),(5, .one (.a (.lit (.int .i64 k))))]) (fun k=> [(1000, .arr .aB (dc dQ aO k0 (l.take k)++l.drop k))]) (fun k=>l.length-k) 0 (fun k=>rfl) (Nat.zero_le _) (by simp[dc,aC]) ?_
 intro k hk
 refine W.seq ?_
 refine W.s0 X [0,1,5,9] rfl ⟨⟩ ?_
 refine W.cond rfl (fun hb0=> ?_) (fun hb0=> ?_)
 ·rw[ep l k0 k hk]at hb0
  try simp only[nb]at hb0
  have hc:=rU (mk:=dQ) (mn:=aO) l k0 (av .aB) k hb0
  have hlen:=ep (mk:=dQ) (mn:=aO) l k0 k (by omega)
  have hst:=nH (mk:=dQ) (mn:=aO) l k0 (av .aB) k hb0
  have qz:=eH (mn:=aO) l (av .aB) k hb0
  have hml:=jc (mn:=aO) l (k+1)
  generalize dc dQ aO k0 (l.take k)++l.drop k=L at hc hlen hst ⊢
  generalize l.getD k (av .aB)=e at hc hst qz
  have hL:k<L.length:=by omega
  have gs: ∀y:aB,(L.set k y).getD k (av .aB)=y:=fun y=>lC L _ y k hL
  have gl: ∀y:aB,(L.set k y).length=L.length:=fun y=>List.length_set
  simp only[aO,FY]at qz
  refine W.skip ?_
  refine W.seq ?_
  refine W.block ?_
  refine W.s0 X [0,1,5] rfl (by and_intros<;>first|exact⟨⟩| (intros;omega)) ?_
  simp only[Int.toNat_natCast,gs,hc,List.set_set]
  refine W.s0 X [0,1,5] rfl ⟨⟩ ?_
  rw[IntWalk.i64_in ((k0+(aC aO (l.take k):Nat))+1) (by omega)]
  refine W.fH X [] [(200026,⟨false,[.a (.lit (.int .i64 ((k0+(aC aO (l.take k):Nat))+1+((aC (aC (fun _=>1))) e.share.rows:Nat)))), .a (.sl (.sl .u8) ((dc (dc cH (fun _=>1)) (aC (fun _=>1))) ((k0+(aC aO (l.take k):Nat))+1) e.share.rows)), .a (.lit (.int .i64 ((k0+(aC aO (l.take k):Nat))+1)))]⟩)] [0,1,5] [] rfl (by(repeat' (first|exact True.intro|exact cQ e.share.rows ((k0+(aC aO (l.take k):Nat))+1) (by omega) (by omega)| (simp only[Int.toNat_natCast,gs,hc];exact cQ e.share.rows ((k0+(aC aO (l.take k):Nat))+1) (by omega) (by omega))|apply And.intro))<;>first| (intros;omega)| (simp only[cN,maxLen,lens];omega)) ?_
  simp only[Int.toNat_natCast,gs,hc,List.set_set]
  refine W.r0 X [0,1,5] rfl ⟨⟩ ?_
  refine⟨k+1,by omega,by omega,?_⟩
  rw[aV _ k rfl (by omega),show(k0+(aC aO (l.take k):Nat))+1+((aC (aC (fun _=>1))) e.share.rows:Nat)=k0+(aC aO (l.take (k+1)):Nat)by omega, ←hst]
  try rfl
 ·rw[ep l k0 k hk]at hb0
  try simp only[nb]at hb0
  refine W.exit ?_
  refine W.s0 X [4] rfl ⟨⟩ ?_
  refine W.ret ?_
  have hf:l.take k=l:=List.take_of_length_le (by omega)
  have hd:l.drop k= []:=List.drop_eq_nil_of_le (by omega)
  exact wP.ret rfl ⟨by rw[hf],by rw[hf,hd,List.append_nil],rfl,⟨⟩⟩
theorem DJ(l:(List aU))(k0:Int)(h0:0≤k0)(h1:k0+((aC aS) l:Nat)≤1099511627776):dr Tryz.prog 61 [.a (.sl .aU l), .a (.lit (.int .i64 k0))] [.a (.sl .aU ((dc iK aS) k0 l)), .a (.lit (.int .i64 k0))] (.int .i64 (k0+((aC aS) l:Nat))):=by
 refine dr.of X Tryz.call61 Tryz.func61 rfl rfl Tryz.ntmps61 (by simp) ?_
 intro zb
 refine W.rV 1000 rfl fun hl=> ?_
 refine W.s0 X [0,1] rfl ⟨⟩ ?_
 refine W.seq ?_
 refine W.s0 X [0,1,5] rfl ⟨⟩ ?_
 refine W.block ?_
 refine W.aI (fun k=>k≤l.length) (fun k:Nat=> [(1, .one (.a (.lit (.int .i64 (k0+(aC aS (l.take k):Nat)))))),(5, .one (.a (.lit (.int .i64 k))))]) (fun k=> [(1000, .arr .aU (dc iK aS k0 (l.take k)++l.drop k))]) (fun k=>l.length-k) 0 (fun k=>rfl) (Nat.zero_le _) (by simp[dc,aC]) ?_
 intro k hk
 refine W.seq ?_
 refine W.s0 X [0,1,5,9] rfl ⟨⟩ ?_
 refine W.cond rfl (fun hb0=> ?_) (fun hb0=> ?_)
 ·rw[ep l k0 k hk]at hb0
  try simp only[nb]at hb0
  have hc:=rU (mk:=iK) (mn:=aS) l k0 (av .aU) k hb0
  have hlen:=ep (mk:=iK) (mn:=aS) l k0 k (by omega)
  have hst:=nH (mk:=iK) (mn:=aS) l k0 (av .aU) k hb0
  have qz:=eH (mn:=aS) l (av .aU) k hb0
  have hml:=jc (mn:=aS) l (k+1)
  generalize dc iK aS k0 (l.take k)++l.drop k=L at hc hlen hst ⊢
  generalize l.getD k (av .aU)=e at hc hst qz
  have hL:k<L.length:=by omega
  have gs: ∀y:aU,(L.set k y).getD k (av .aU)=y:=fun y=>lC L _ y k hL
  have gl: ∀y:aU,(L.set k y).length=L.length:=fun y=>List.length_set
  simp only[aS]at qz
  refine W.skip ?_
  refine W.seq ?_
  refine W.block ?_
  refine W.s0 X [0,1,5] rfl (by and_intros<;>first|exact⟨⟩| (intros;omega)) ?_
  simp only[Int.toNat_natCast,gs,hc,List.set_set]
  refine W.s0 X [0,1,5] rfl ⟨⟩ ?_
  rw[IntWalk.i64_in ((k0+(aC aS (l.take k):Nat))+1) (by omega)]
  refine W.s0 X [0,1,5] rfl (by and_intros<;>first|exact⟨⟩| (intros;omega)| (simp only[cN,maxLen,lens];omega)) ?_
  simp only[Int.toNat_natCast,gs,hc,List.set_set]
  refine W.s0 X [0,1,5] rfl ⟨⟩ ?_
  rw[IntWalk.i64_in ((k0+(aC aS (l.take k):Nat))+1+1) (by omega)]
  refine W.s0 X [0,1,5] rfl (by and_intros<;>first|exact⟨⟩| (intros;omega)| (simp only[cN,maxLen,lens];omega)) ?_
  simp only[Int.toNat_natCast,gs,hc,List.set_set]
  refine W.s0 X [0,1,5] rfl ⟨⟩ ?_
  rw[IntWalk.i64_in ((k0+(aC aS (l.take k):Nat))+1+1+1) (by omega)]
  refine W.sr X [] [(200039,⟨false,[.a (.lit (.int .i64 ((k0+(aC aS (l.take k):Nat))+1+1+1+((aC aO) e.received:Nat)))), .a (.sl .aB ((dc dQ aO) ((k0+(aC aS (l.take k):Nat))+1+1+1) e.received)), .a (.lit (.int .i64 ((k0+(aC aS (l.take k):Nat))+1+1+1)))]⟩)] [0,1,5] [] rfl (by(repeat' (first|exact True.intro|exact lE e.received ((k0+(aC aS (l.take k):Nat))+1+1+1) (by omega) (by omega)| (simp only[Int.toNat_natCast,gs,hc];exact lE e.received ((k0+(aC aS (l.take k):Nat))+1+1+1) (by omega) (by omega))|apply And.intro))<;>first| (intros;omega)| (simp only[cN,maxLen,lens];omega)) ?_
  simp only[Int.toNat_natCast,gs,hc,List.set_set]
  refine W.s0 X [0,1,5] rfl (by and_intros<;>first|exact⟨⟩| (intros;omega)| (simp only[cN,maxLen,lens];omega)) ?_
  simp only[Int.toNat_natCast,gs,hc,List.set_set]
  refine W.r0 X [0,1,5] rfl ⟨⟩ ?_
  rw[IntWalk.i64_in ((k0+(aC aS (l.take k):Nat))+1+1+1+((aC aO) e.received:Nat)+1) (by omega)]
  refine W.r0 X [0,1,5] rfl ⟨⟩ ?_
  refine⟨k+1,by omega,by omega,?_⟩
  rw[aV _ k rfl (by omega),show(k0+(aC aS (l.take k):Nat))+1+1+1+((aC aO) e.received:Nat)+1=k0+(aC aS (l.take (k+1)):Nat)by omega, ←hst]
  try rfl
 ·rw[ep l k0 k hk]at hb0
  try simp only[nb]at hb0
  refine W.exit ?_
  refine W.s0 X [4] rfl ⟨⟩ ?_
  refine W.ret ?_
  have hf:l.take k=l:=List.take_of_length_le (by omega)
  have hd:l.drop k= []:=List.drop_eq_nil_of_le (by omega)
  exact wP.ret rfl ⟨by rw[hf],by rw[hf,hd,List.append_nil],rfl,⟨⟩⟩
theorem ez(x:aN)(k0:Int)(h0:0≤k0)(h1:k0+(bV x:Nat)≤1099511627776):dr Tryz.prog 15 [.agg (ay x), .a (.lit (.int .i64 k0))] [.agg (ay (iM k0 x)), .a (.lit (.int .i64 k0))] (.int .i64 (k0+(bV x:Nat))):=by
 refine dr.of X Tryz.call15 Tryz.func15 rfl rfl Tryz.ntmps15 (by simp) ?_
 intro zb
 unfold bV at h1 ⊢
 refine W.s0 X [1,2] rfl ⟨⟩ ?_
 refine W.sr X [] [(100008,⟨false,[.a (.lit (.int .i64 (k0+((aC aS) x.aj:Nat)))), .a (.sl .aU ((dc iK aS) (k0) x.aj)), .a (.lit (.int .i64 (k0)))]⟩)] [1,2] [] rfl ⟨DJ x.aj (k0) (by omega) (by omega),⟨⟩⟩ ?_
 refine W.sr X [] [(100012,⟨false,[.a (.lit (.int .i64 (k0+((aC aS) x.aj:Nat)+((aC aG) x.aa:Nat)))), .a (.sl .aL ((dc iL aG) (k0+((aC aS) x.aj:Nat)) x.aa)), .a (.lit (.int .i64 (k0+((aC aS) x.aj:Nat))))]⟩)] [1,2] [] rfl ⟨DI x.aa (k0+((aC aS) x.aj:Nat)) (by omega) (by omega),⟨⟩⟩ ?_
 refine W.sr X [] [(100016,⟨false,[.a (.lit (.int .i64 (k0+((aC aS) x.aj:Nat)+((aC aG) x.aa:Nat)+(eW x.ak:Nat)))), .agg (cj (Bd (k0+((aC aS) x.aj:Nat)+((aC aG) x.aa:Nat)) x.ak)), .a (.lit (.int .i64 (k0+((aC aS) x.aj:Nat)+((aC aG) x.aa:Nat))))]⟩)] [1,2] [] rfl ⟨DH x.ak (k0+((aC aS) x.aj:Nat)+((aC aG) x.aa:Nat)) (by omega) (by omega),⟨⟩⟩ ?_
 refine W.sr X [] [(100020,⟨false,[.a (.lit (.int .i64 (k0+((aC aS) x.aj:Nat)+((aC aG) x.aa:Nat)+(eW x.ak:Nat)+((aC (fun _=>1)) x.replaced:Nat)))), .a (.sl .int ((dc (fun k _=>k) (fun _=>1)) (k0+((aC aS) x.aj:Nat)+((aC aG) x.aa:Nat)+(eW x.ak:Nat)) x.replaced)), .a (.lit (.int .i64 (k0+((aC aS) x.aj:Nat)+((aC aG) x.aa:Nat)+(eW x.ak:Nat))))]⟩)] [1] [] rfl ⟨J5 x.replaced (k0+((aC aS) x.aj:Nat)+((aC aG) x.aa:Nat)+(eW x.ak:Nat)) (by omega) (by omega),⟨⟩⟩ ?_
 refine W.s0 X [4] rfl ⟨⟩ ?_
 refine W.ret ?_
 exact wP.ret rfl (by and_intros<;>first|exact⟨⟩|rfl| (congr 1;omega))
end
section
set_option maxRecDepth 100000
theorem Ag(l:(List UInt8))(k0:Int)(h0:0≤k0)(h1:k0+((aC (fun _=>1)) l:Nat)≤1099511627776):Sound ty Tryz.prog 231 [.a (.sl .u8 ((dc cH (fun _=>1)) k0 l)), .a (.lit (.int .i64 k0))] [.a (.lit (.int .i64 (k0+((aC (fun _=>1)) l:Nat))))]:=by
 refine Sound.o X Tryz.call231 Tryz.func231 Tryz.ntmps231 rfl rfl ?_
 intro zb
 refine W.bound 0 rfl fun hl=> ?_
 rw[bX]at hl
 refine W.s0 X [0,1] rfl ⟨⟩ ?_
 refine W.seq ?_
 refine W.s0 X [0,1,5] rfl ⟨⟩ ?_
 refine W.block ?_
 refine W.aI (fun k=>k≤l.length) (fun k:Nat=> [(1, .one (.a (.lit (.int .i64 (k0+(aC (fun _=>1) (l.take k):Nat)))))),(5, .one (.a (.lit (.int .i64 k))))]) (fun k=> []) (fun k=>l.length-k) 0 (fun k=>rfl) (Nat.zero_le _) (by simp[aC]) ?_
 intro k hk
 refine W.seq ?_
 refine W.s0 X [0,1,5,9] rfl ⟨⟩ ?_
 refine W.cond rfl (fun hb0=> ?_) (fun hb0=> ?_)
 ·rw[bX]at hb0
  try simp only[nb]at hb0
  have hg:=mN (mk:=cH) (mn:=(fun _=>1)) (k:=k0) (d:=av .u8) hb0
  have qz:=eH (mn:=(fun _=>1)) l (av .u8) k hb0
  have hml:=jc (mn:=(fun _=>1)) l (k+1)
  have hlen:(dc cH (fun _=>1) k0 l).length=l.length:=bX
  generalize l.getD k (av .u8)=e at hg qz
  refine W.skip ?_
  refine W.seq ?_
  refine W.block ?_
  refine W.seq ?_
  refine W.s0 X [0,1,5,18] rfl (by and_intros<;>first|exact⟨⟩| (intros;omega)) ?_
  refine W.cond rfl (fun aD=> ?_) (fun aD=> ?_)
  ·exact absurd aD (by first| (simp only[decide_eq_true_eq];omega)| (simp only[Int.toNat_natCast,hg];simp;done)| (simp only[Int.toNat_natCast,hg,cH,dN];simp))
  ·clear aD
   refine W.skip ?_
   refine W.r0 X [0,1,5] rfl ⟨⟩ ?_
   rw[IntWalk.i64_in ((k0+(aC (fun _=>1) (l.take k):Nat))+1) (by omega)]
   refine W.r0 X [0,1,5] rfl ⟨⟩ ?_
   refine⟨k+1,by omega,by omega,?_⟩
   rw[aV _ k rfl (by omega),show(k0+(aC (fun _=>1) (l.take k):Nat))+1=k0+(aC (fun _=>1) (l.take (k+1)):Nat)by omega]
   try rfl
 ·rw[bX]at hb0
  try simp only[nb]at hb0
  refine W.exit ?_
  refine W.s0 X [4] rfl ⟨⟩ ?_
  refine W.ret ?_
  exact Fin.ret rfl ⟨by rw[List.take_of_length_le (by omega)],⟨⟩⟩
theorem cR(l:(List (List UInt8)))(k0:Int)(h0:0≤k0)(h1:k0+((aC (aC (fun _=>1))) l:Nat)≤1099511627776):Sound ty Tryz.prog 147 [.a (.sl (.sl .u8) ((dc (dc cH (fun _=>1)) (aC (fun _=>1))) k0 l)), .a (.lit (.int .i64 k0))] [.a (.lit (.int .i64 (k0+((aC (aC (fun _=>1))) l:Nat))))]:=by
 refine Sound.o X Tryz.call147 Tryz.func147 Tryz.ntmps147 rfl rfl ?_
 intro zb
 refine W.bound 0 rfl fun hl=> ?_
 rw[bX]at hl
 refine W.s0 X [0,1] rfl ⟨⟩ ?_
 refine W.seq ?_
 refine W.s0 X [0,1,5] rfl ⟨⟩ ?_
 refine W.block ?_
 refine W.aI (fun k=>k≤l.length) (fun k:Nat=> [(1, .one (.a (.lit (.int .i64 (k0+(aC (aC (fun _=>1)) (l.take k):Nat)))))),(5, .one (.a (.lit (.int .i64 k))))]) (fun k=> []) (fun k=>l.length-k) 0 (fun k=>rfl) (Nat.zero_le _) (by simp[aC]) ?_
 intro k hk
 refine W.seq ?_
 refine W.s0 X [0,1,5,9] rfl ⟨⟩ ?_
 refine W.cond rfl (fun hb0=> ?_) (fun hb0=> ?_)
 ·rw[bX]at hb0
  try simp only[nb]at hb0
  have hg:=mN (mk:=(dc cH (fun _=>1))) (mn:=(aC (fun _=>1))) (k:=k0) (d:=av (.sl .u8)) hb0
  have qz:=eH (mn:=(aC (fun _=>1))) l (av (.sl .u8)) k hb0
  have hml:=jc (mn:=(aC (fun _=>1))) l (k+1)
  have hlen:(dc (dc cH (fun _=>1)) (aC (fun _=>1)) k0 l).length=l.length:=bX
  generalize l.getD k (av (.sl .u8))=e at hg qz
  refine W.skip ?_
  refine W.seq ?_
  refine W.block ?_
  refine W.sr X [] [(17,⟨false,[.a (.lit (.int .i64 ((k0+(aC (aC (fun _=>1)) (l.take k):Nat))+((aC (fun _=>1)) e:Nat))))]⟩)] [0,1,5] [] rfl (by(repeat' (first|exact True.intro|exact Ag e ((k0+(aC (aC (fun _=>1)) (l.take k):Nat))) (by omega) (by omega)| (simp only[Int.toNat_natCast,hg];exact Ag e ((k0+(aC (aC (fun _=>1)) (l.take k):Nat))) (by omega) (by omega))|apply And.intro))<;>first| (intros;omega)) ?_
  refine W.s0 X [0,1,5,19] rfl ⟨⟩ ?_
  refine W.cond rfl (fun aD=> ?_) (fun aD=> ?_)
  ·exact absurd aD (by first| (simp only[decide_eq_true_eq];omega)| (simp only[Int.toNat_natCast,hg];simp;done)| (simp only[Int.toNat_natCast,hg,cH,dN];simp))
  ·clear aD
   refine W.skip ?_
   refine W.r0 X [0,1,5] rfl ⟨⟩ ?_
   refine⟨k+1,by omega,by omega,?_⟩
   rw[aV _ k rfl (by omega),show(k0+(aC (aC (fun _=>1)) (l.take k):Nat))+((aC (fun _=>1)) e:Nat)=k0+(aC (aC (fun _=>1)) (l.take (k+1)):Nat)by omega]
   try rfl
 ·rw[bX]at hb0
  try simp only[nb]at hb0
  refine W.exit ?_
  refine W.s0 X [4] rfl ⟨⟩ ?_
  refine W.ret ?_
  exact Fin.ret rfl ⟨by rw[List.take_of_length_le (by omega)],⟨⟩⟩
theorem rX(l:(List aA))(k0:Int)(h0:0≤k0)(h1:k0+((aC aT) l:Nat)≤1099511627776):Sound ty Tryz.prog 148 [.a (.sl .aA ((dc dR aT) k0 l)), .a (.lit (.int .i64 k0))] [.a (.lit (.int .i64 (k0+((aC aT) l:Nat))))]:=by
 refine Sound.o X Tryz.call148 Tryz.func148 Tryz.ntmps148 rfl rfl ?_
 intro zb
 refine W.bound 0 rfl fun hl=> ?_
 rw[bX]at hl
 refine W.s0 X [0,1] rfl ⟨⟩ ?_
 refine W.seq ?_
 refine W.s0 X [0,1,5] rfl ⟨⟩ ?_
 refine W.block ?_
 refine W.aI (fun k=>k≤l.length) (fun k:Nat=> [(1, .one (.a (.lit (.int .i64 (k0+(aC aT (l.take k):Nat)))))),(5, .one (.a (.lit (.int .i64 k))))]) (fun k=> []) (fun k=>l.length-k) 0 (fun k=>rfl) (Nat.zero_le _) (by simp[aC]) ?_
 intro k hk
 refine W.seq ?_
 refine W.s0 X [0,1,5,9] rfl ⟨⟩ ?_
 refine W.cond rfl (fun hb0=> ?_) (fun hb0=> ?_)
 ·rw[bX]at hb0
  try simp only[nb]at hb0
  have hg:=mN (mk:=dR) (mn:=aT) (k:=k0) (d:=av .aA) hb0
  have qz:=eH (mn:=aT) l (av .aA) k hb0
  have hml:=jc (mn:=aT) l (k+1)
  have hlen:(dc dR aT k0 l).length=l.length:=bX
  generalize l.getD k (av .aA)=e at hg qz
  simp only[aT,FY]at qz
  simp only[dR,PJ]at hg
  refine W.skip ?_
  refine W.seq ?_
  refine W.block ?_
  refine W.seq ?_
  refine W.s0 X [0,1,5,18] rfl (by and_intros<;>first|exact⟨⟩| (intros;omega)) ?_
  refine W.cond rfl (fun aD=> ?_) (fun aD=> ?_)
  ·exact absurd aD (by first| (simp only[decide_eq_true_eq];omega)| (simp only[Int.toNat_natCast,hg];simp;done)| (simp only[Int.toNat_natCast,hg,cH,dN];simp))
  ·clear aD
   refine W.skip ?_
   refine W.s0 X [0,1,5] rfl ⟨⟩ ?_
   rw[IntWalk.i64_in ((k0+(aC aT (l.take k):Nat))+1) (by omega)]
   refine W.sr X [] [(28,⟨false,[.a (.lit (.int .i64 ((k0+(aC aT (l.take k):Nat))+1+((aC (aC (fun _=>1))) e.db.rows:Nat))))]⟩)] [0,1,5] [] rfl (by(repeat' (first|exact True.intro|exact cR e.db.rows ((k0+(aC aT (l.take k):Nat))+1) (by omega) (by omega)| (simp only[Int.toNat_natCast,hg];exact cR e.db.rows ((k0+(aC aT (l.take k):Nat))+1) (by omega) (by omega))|apply And.intro))<;>first| (intros;omega)) ?_
   refine W.s0 X [0,1,5,30] rfl ⟨⟩ ?_
   refine W.cond rfl (fun aR=> ?_) (fun aR=> ?_)
   ·exact absurd aR (by first| (simp only[decide_eq_true_eq];omega)| (simp only[Int.toNat_natCast,hg];simp;done)| (simp only[Int.toNat_natCast,hg,cH,dN];simp))
   ·clear aR
    refine W.skip ?_
    refine W.r0 X [0,1,5] rfl ⟨⟩ ?_
    refine⟨k+1,by omega,by omega,?_⟩
    rw[aV _ k rfl (by omega),show(k0+(aC aT (l.take k):Nat))+1+((aC (aC (fun _=>1))) e.db.rows:Nat)=k0+(aC aT (l.take (k+1)):Nat)by omega]
    try rfl
 ·rw[bX]at hb0
  try simp only[nb]at hb0
  refine W.exit ?_
  refine W.s0 X [4] rfl ⟨⟩ ?_
  refine W.ret ?_
  exact Fin.ret rfl ⟨by rw[List.take_of_length_le (by omega)],⟨⟩⟩
theorem DK(x:iS)(k0:Int)(h0:0≤k0)(h1:k0+(eW x:Nat)≤1099511627776):Sound ty Tryz.prog 67 [.agg (cj (Bd k0 x)), .a (.lit (.int .i64 k0))] [.a (.lit (.int .i64 (k0+(eW x:Nat))))]:=by
 refine Sound.o X Tryz.call67 Tryz.func67 Tryz.ntmps67 rfl rfl ?_
 intro zb
 unfold eW at h1 ⊢
 refine W.s0 X [1,2] rfl ⟨⟩ ?_
 refine W.sr X [] [(8,⟨false,[.a (.lit (.int .i64 (k0+((aC aT) x.rounds:Nat))))]⟩)] [1] [] rfl ⟨rX x.rounds (k0) (by omega) (by omega),⟨⟩⟩ ?_
 refine W.seq ?_
 refine W.s0 X [1,10] rfl ⟨⟩ ?_
 refine W.cond rfl (fun hb0=> ?_) (fun hb0=> ?_)
 ·exact absurd hb0 (by first| (simp only[decide_eq_true_eq];omega)| (simp only[Int.toNat_natCast,hg];simp;done)| (simp only[Int.toNat_natCast,hg,cH,dN];simp))
 ·clear hb0
  refine W.skip ?_
  refine W.s0 X [4] rfl ⟨⟩ ?_
  refine W.ret ?_
  exact Fin.ret rfl ⟨by first|rfl| (congr 1;omega),⟨⟩⟩
theorem DL(l:(List aL))(k0:Int)(h0:0≤k0)(h1:k0+((aC aG) l:Nat)≤1099511627776):Sound ty Tryz.prog 66 [.a (.sl .aL ((dc iL aG) k0 l)), .a (.lit (.int .i64 k0))] [.a (.lit (.int .i64 (k0+((aC aG) l:Nat))))]:=by
 refine Sound.o X Tryz.call66 Tryz.func66 Tryz.ntmps66 rfl rfl ?_
 intro zb
 refine W.bound 0 rfl fun hl=> ?_
 rw[bX]at hl
 refine W.s0 X [0,1] rfl ⟨⟩ ?_
 refine W.seq ?_
 refine W.s0 X [0,1,5] rfl ⟨⟩ ?_
 refine W.block ?_
 refine W.aI (fun k=>k≤l.length) (fun k:Nat=> [(1, .one (.a (.lit (.int .i64 (k0+(aC aG (l.take k):Nat)))))),(5, .one (.a (.lit (.int .i64 k))))]) (fun k=> []) (fun k=>l.length-k) 0 (fun k=>rfl) (Nat.zero_le _) (by simp[aC]) ?_
 intro k hk
 refine W.seq ?_
 refine W.s0 X [0,1,5,9] rfl ⟨⟩ ?_
 refine W.cond rfl (fun hb0=> ?_) (fun hb0=> ?_)
 ·rw[bX]at hb0
  try simp only[nb]at hb0
  have hg:=mN (mk:=iL) (mn:=aG) (k:=k0) (d:=av .aL) hb0
  have qz:=eH (mn:=aG) l (av .aL) k hb0
  have hml:=jc (mn:=aG) l (k+1)
  have hlen:(dc iL aG k0 l).length=l.length:=bX
  generalize l.getD k (av .aL)=e at hg qz
  simp only[aG,Ln]at qz
  simp only[iL,SF]at hg
  refine W.skip ?_
  refine W.seq ?_
  refine W.block ?_
  refine W.seq ?_
  refine W.s0 X [0,1,5,19] rfl (by and_intros<;>first|exact⟨⟩| (intros;omega)) ?_
  refine W.cond rfl (fun aD=> ?_) (fun aD=> ?_)
  ·exact absurd aD (by first| (simp only[decide_eq_true_eq];omega)| (simp only[Int.toNat_natCast,hg];simp;done)| (simp only[Int.toNat_natCast,hg,cH,dN];simp))
  ·clear aD
   refine W.skip ?_
   refine W.s0 X [0,1,5] rfl ⟨⟩ ?_
   rw[IntWalk.i64_in ((k0+(aC aG (l.take k):Nat))+1) (by omega)]
   refine W.seq ?_
   refine W.s0 X [0,1,5,29] rfl (by and_intros<;>first|exact⟨⟩| (intros;omega)) ?_
   refine W.cond rfl (fun aR=> ?_) (fun aR=> ?_)
   ·exact absurd aR (by first| (simp only[decide_eq_true_eq];omega)| (simp only[Int.toNat_natCast,hg];simp;done)| (simp only[Int.toNat_natCast,hg,cH,dN];simp))
   ·clear aR
    refine W.skip ?_
    refine W.s0 X [0,1,5] rfl ⟨⟩ ?_
    rw[IntWalk.i64_in ((k0+(aC aG (l.take k):Nat))+1+1) (by omega)]
    refine W.seq ?_
    refine W.s0 X [0,1,5,39] rfl (by and_intros<;>first|exact⟨⟩| (intros;omega)) ?_
    refine W.cond rfl (fun dS=> ?_) (fun dS=> ?_)
    ·exact absurd dS (by first| (simp only[decide_eq_true_eq];omega)| (simp only[Int.toNat_natCast,hg];simp;done)| (simp only[Int.toNat_natCast,hg,cH,dN];simp))
    ·clear dS
     refine W.skip ?_
     refine W.s0 X [0,1,5] rfl ⟨⟩ ?_
     rw[IntWalk.i64_in ((k0+(aC aG (l.take k):Nat))+1+1+1) (by omega)]
     refine W.seq ?_
     refine W.s0 X [0,1,5,49] rfl (by and_intros<;>first|exact⟨⟩| (intros;omega)) ?_
     refine W.cond rfl (fun hY=> ?_) (fun hY=> ?_)
     ·exact absurd hY (by first| (simp only[decide_eq_true_eq];omega)| (simp only[Int.toNat_natCast,hg];simp;done)| (simp only[Int.toNat_natCast,hg,cH,dN];simp))
     ·clear hY
      refine W.skip ?_
      refine W.s0 X [0,1,5] rfl ⟨⟩ ?_
      rw[IntWalk.i64_in ((k0+(aC aG (l.take k):Nat))+1+1+1+1) (by omega)]
      refine W.sr X [] [(59,⟨false,[.a (.lit (.int .i64 ((k0+(aC aG (l.take k):Nat))+1+1+1+1+((aC (aC (fun _=>1))) e.live.aq:Nat))))]⟩)] [0,1,5] [] rfl (by(repeat' (first|exact True.intro|exact cR e.live.aq ((k0+(aC aG (l.take k):Nat))+1+1+1+1) (by omega) (by omega)| (simp only[Int.toNat_natCast,hg];exact cR e.live.aq ((k0+(aC aG (l.take k):Nat))+1+1+1+1) (by omega) (by omega))|apply And.intro))<;>first| (intros;omega)) ?_
      refine W.seq ?_
      refine W.s0 X [0,1,5,61] rfl ⟨⟩ ?_
      refine W.cond rfl (fun mO=> ?_) (fun mO=> ?_)
      ·exact absurd mO (by first| (simp only[decide_eq_true_eq];omega)| (simp only[Int.toNat_natCast,hg];simp;done)| (simp only[Int.toNat_natCast,hg,cH,dN];simp))
      ·clear mO
       refine W.skip ?_
       refine W.seq ?_
       refine W.s0 X [0,1,5,69] rfl (by and_intros<;>first|exact⟨⟩| (intros;omega)) ?_
       refine W.cond rfl (fun oK=> ?_) (fun oK=> ?_)
       ·exact absurd oK (by first| (simp only[decide_eq_true_eq];omega)| (simp only[Int.toNat_natCast,hg];simp;done)| (simp only[Int.toNat_natCast,hg,cH,dN];simp))
       ·clear oK
        refine W.skip ?_
        refine W.s0 X [0,1,5] rfl ⟨⟩ ?_
        rw[IntWalk.i64_in ((k0+(aC aG (l.take k):Nat))+1+1+1+1+((aC (aC (fun _=>1))) e.live.aq:Nat)+1) (by omega)]
        refine W.sr X [] [(79,⟨false,[.a (.lit (.int .i64 ((k0+(aC aG (l.take k):Nat))+1+1+1+1+((aC (aC (fun _=>1))) e.live.aq:Nat)+1+((aC (aC (fun _=>1))) e.live.inbox:Nat))))]⟩)] [0,1,5] [] rfl (by(repeat' (first|exact True.intro|exact cR e.live.inbox ((k0+(aC aG (l.take k):Nat))+1+1+1+1+((aC (aC (fun _=>1))) e.live.aq:Nat)+1) (by omega) (by omega)| (simp only[Int.toNat_natCast,hg];exact cR e.live.inbox ((k0+(aC aG (l.take k):Nat))+1+1+1+1+((aC (aC (fun _=>1))) e.live.aq:Nat)+1) (by omega) (by omega))|apply And.intro))<;>first| (intros;omega)) ?_
        refine W.seq ?_
        refine W.s0 X [0,1,5,81] rfl ⟨⟩ ?_
        refine W.cond rfl (fun vp=> ?_) (fun vp=> ?_)
        ·exact absurd vp (by first| (simp only[decide_eq_true_eq];omega)| (simp only[Int.toNat_natCast,hg];simp;done)| (simp only[Int.toNat_natCast,hg,cH,dN];simp))
        ·clear vp
         refine W.skip ?_
         refine W.seq ?_
         refine W.s0 X [0,1,5,89] rfl (by and_intros<;>first|exact⟨⟩| (intros;omega)) ?_
         refine W.cond rfl (fun yP=> ?_) (fun yP=> ?_)
         ·exact absurd yP (by first| (simp only[decide_eq_true_eq];omega)| (simp only[Int.toNat_natCast,hg];simp;done)| (simp only[Int.toNat_natCast,hg,cH,dN];simp))
         ·clear yP
          refine W.skip ?_
          refine W.s0 X [0,1,5] rfl ⟨⟩ ?_
          rw[IntWalk.i64_in ((k0+(aC aG (l.take k):Nat))+1+1+1+1+((aC (aC (fun _=>1))) e.live.aq:Nat)+1+((aC (aC (fun _=>1))) e.live.inbox:Nat)+1) (by omega)]
          refine W.seq ?_
          refine W.s0 X [0,1,5,99] rfl (by and_intros<;>first|exact⟨⟩| (intros;omega)) ?_
          refine W.cond rfl (fun PR=> ?_) (fun PR=> ?_)
          ·exact absurd PR (by first| (simp only[decide_eq_true_eq];omega)| (simp only[Int.toNat_natCast,hg];simp;done)| (simp only[Int.toNat_natCast,hg,cH,dN];simp))
          ·clear PR
           refine W.skip ?_
           refine W.s0 X [0,1,5] rfl ⟨⟩ ?_
           rw[IntWalk.i64_in ((k0+(aC aG (l.take k):Nat))+1+1+1+1+((aC (aC (fun _=>1))) e.live.aq:Nat)+1+((aC (aC (fun _=>1))) e.live.inbox:Nat)+1+1) (by omega)]
           refine W.seq ?_
           refine W.s0 X [0,1,5,109] rfl (by and_intros<;>first|exact⟨⟩| (intros;omega)) ?_
           refine W.cond rfl (fun CB=> ?_) (fun CB=> ?_)
           ·exact absurd CB (by first| (simp only[decide_eq_true_eq];omega)| (simp only[Int.toNat_natCast,hg];simp;done)| (simp only[Int.toNat_natCast,hg,cH,dN];simp))
           ·clear CB
            refine W.skip ?_
            refine W.s0 X [0,1,5] rfl ⟨⟩ ?_
            rw[IntWalk.i64_in ((k0+(aC aG (l.take k):Nat))+1+1+1+1+((aC (aC (fun _=>1))) e.live.aq:Nat)+1+((aC (aC (fun _=>1))) e.live.inbox:Nat)+1+1+1) (by omega)]
            refine W.seq ?_
            refine W.s0 X [0,1,5,119] rfl (by and_intros<;>first|exact⟨⟩| (intros;omega)) ?_
            refine W.cond rfl (fun UR=> ?_) (fun UR=> ?_)
            ·exact absurd UR (by first| (simp only[decide_eq_true_eq];omega)| (simp only[Int.toNat_natCast,hg];simp;done)| (simp only[Int.toNat_natCast,hg,cH,dN];simp))
            ·clear UR
             refine W.skip ?_
             refine W.s0 X [0,1,5] rfl ⟨⟩ ?_
             rw[IntWalk.i64_in ((k0+(aC aG (l.take k):Nat))+1+1+1+1+((aC (aC (fun _=>1))) e.live.aq:Nat)+1+((aC (aC (fun _=>1))) e.live.inbox:Nat)+1+1+1+1) (by omega)]
             refine W.seq ?_
             refine W.s0 X [0,1,5,129] rfl (by and_intros<;>first|exact⟨⟩| (intros;omega)) ?_
             refine W.cond rfl (fun US=> ?_) (fun US=> ?_)
             ·exact absurd US (by first| (simp only[decide_eq_true_eq];omega)| (simp only[Int.toNat_natCast,hg];simp;done)| (simp only[Int.toNat_natCast,hg,cH,dN];simp))
             ·clear US
              refine W.skip ?_
              refine W.s0 X [0,1,5] rfl ⟨⟩ ?_
              rw[IntWalk.i64_in ((k0+(aC aG (l.take k):Nat))+1+1+1+1+((aC (aC (fun _=>1))) e.live.aq:Nat)+1+((aC (aC (fun _=>1))) e.live.inbox:Nat)+1+1+1+1+1) (by omega)]
              refine W.sr X [] [(139,⟨false,[.a (.lit (.int .i64 ((k0+(aC aG (l.take k):Nat))+1+1+1+1+((aC (aC (fun _=>1))) e.live.aq:Nat)+1+((aC (aC (fun _=>1))) e.live.inbox:Nat)+1+1+1+1+1+((aC (aC (fun _=>1))) e.saved.aq:Nat))))]⟩)] [0,1,5] [] rfl (by(repeat' (first|exact True.intro|exact cR e.saved.aq ((k0+(aC aG (l.take k):Nat))+1+1+1+1+((aC (aC (fun _=>1))) e.live.aq:Nat)+1+((aC (aC (fun _=>1))) e.live.inbox:Nat)+1+1+1+1+1) (by omega) (by omega)| (simp only[Int.toNat_natCast,hg];exact cR e.saved.aq ((k0+(aC aG (l.take k):Nat))+1+1+1+1+((aC (aC (fun _=>1))) e.live.aq:Nat)+1+((aC (aC (fun _=>1))) e.live.inbox:Nat)+1+1+1+1+1) (by omega) (by omega))|apply And.intro))<;>first| (intros;omega)) ?_
              refine W.seq ?_
              refine W.s0 X [0,1,5,141] rfl ⟨⟩ ?_
              refine W.cond rfl (fun UT=> ?_) (fun UT=> ?_)
              ·exact absurd UT (by first| (simp only[decide_eq_true_eq];omega)| (simp only[Int.toNat_natCast,hg];simp;done)| (simp only[Int.toNat_natCast,hg,cH,dN];simp))
              ·clear UT
               refine W.skip ?_
               refine W.seq ?_
               refine W.s0 X [0,1,5,149] rfl (by and_intros<;>first|exact⟨⟩| (intros;omega)) ?_
               refine W.cond rfl (fun UU=> ?_) (fun UU=> ?_)
               ·exact absurd UU (by first| (simp only[decide_eq_true_eq];omega)| (simp only[Int.toNat_natCast,hg];simp;done)| (simp only[Int.toNat_natCast,hg,cH,dN];simp))
               ·clear UU
                refine W.skip ?_
                refine W.s0 X [0,1,5] rfl ⟨⟩ ?_
                rw[IntWalk.i64_in ((k0+(aC aG (l.take k):Nat))+1+1+1+1+((aC (aC (fun _=>1))) e.live.aq:Nat)+1+((aC (aC (fun _=>1))) e.live.inbox:Nat)+1+1+1+1+1+((aC (aC (fun _=>1))) e.saved.aq:Nat)+1) (by omega)]
                refine W.sr X [] [(159,⟨false,[.a (.lit (.int .i64 ((k0+(aC aG (l.take k):Nat))+1+1+1+1+((aC (aC (fun _=>1))) e.live.aq:Nat)+1+((aC (aC (fun _=>1))) e.live.inbox:Nat)+1+1+1+1+1+((aC (aC (fun _=>1))) e.saved.aq:Nat)+1+((aC (aC (fun _=>1))) e.saved.inbox:Nat))))]⟩)] [0,1,5] [] rfl (by(repeat' (first|exact True.intro|exact cR e.saved.inbox ((k0+(aC aG (l.take k):Nat))+1+1+1+1+((aC (aC (fun _=>1))) e.live.aq:Nat)+1+((aC (aC (fun _=>1))) e.live.inbox:Nat)+1+1+1+1+1+((aC (aC (fun _=>1))) e.saved.aq:Nat)+1) (by omega) (by omega)| (simp only[Int.toNat_natCast,hg];exact cR e.saved.inbox ((k0+(aC aG (l.take k):Nat))+1+1+1+1+((aC (aC (fun _=>1))) e.live.aq:Nat)+1+((aC (aC (fun _=>1))) e.live.inbox:Nat)+1+1+1+1+1+((aC (aC (fun _=>1))) e.saved.aq:Nat)+1) (by omega) (by omega))|apply And.intro))<;>first| (intros;omega)) ?_
                refine W.seq ?_
                refine W.s0 X [0,1,5,161] rfl ⟨⟩ ?_
                refine W.cond rfl (fun UW=> ?_) (fun UW=> ?_)
                ·exact absurd UW (by first| (simp only[decide_eq_true_eq];omega)| (simp only[Int.toNat_natCast,hg];simp;done)| (simp only[Int.toNat_natCast,hg,cH,dN];simp))
                ·clear UW
                 refine W.skip ?_
                 refine W.seq ?_
                 refine W.s0 X [0,1,5,169] rfl (by and_intros<;>first|exact⟨⟩| (intros;omega)) ?_
                 refine W.cond rfl (fun UX=> ?_) (fun UX=> ?_)
                 ·exact absurd UX (by first| (simp only[decide_eq_true_eq];omega)| (simp only[Int.toNat_natCast,hg];simp;done)| (simp only[Int.toNat_natCast,hg,cH,dN];simp))
                 ·clear UX
                  refine W.skip ?_
                  refine W.r0 X [0,1,5] rfl ⟨⟩ ?_
                  rw[IntWalk.i64_in ((k0+(aC aG (l.take k):Nat))+1+1+1+1+((aC (aC (fun _=>1))) e.live.aq:Nat)+1+((aC (aC (fun _=>1))) e.live.inbox:Nat)+1+1+1+1+1+((aC (aC (fun _=>1))) e.saved.aq:Nat)+1+((aC (aC (fun _=>1))) e.saved.inbox:Nat)+1) (by omega)]
                  refine W.r0 X [0,1,5] rfl ⟨⟩ ?_
                  refine⟨k+1,by omega,by omega,?_⟩
                  rw[aV _ k rfl (by omega),show(k0+(aC aG (l.take k):Nat))+1+1+1+1+((aC (aC (fun _=>1))) e.live.aq:Nat)+1+((aC (aC (fun _=>1))) e.live.inbox:Nat)+1+1+1+1+1+((aC (aC (fun _=>1))) e.saved.aq:Nat)+1+((aC (aC (fun _=>1))) e.saved.inbox:Nat)+1=k0+(aC aG (l.take (k+1)):Nat)by omega]
                  try rfl
 ·rw[bX]at hb0
  try simp only[nb]at hb0
  refine W.exit ?_
  refine W.s0 X [4] rfl ⟨⟩ ?_
  refine W.ret ?_
  exact Fin.ret rfl ⟨by rw[List.take_of_length_le (by omega)],⟨⟩⟩
theorem J6(l:(List Int))(k0:Int)(h0:0≤k0)(h1:k0+((aC (fun _=>1)) l:Nat)≤1099511627776):Sound ty Tryz.prog 68 [.a (.sl .int ((dc (fun k _=>k) (fun _=>1)) k0 l)), .a (.lit (.int .i64 k0))] [.a (.lit (.int .i64 (k0+((aC (fun _=>1)) l:Nat))))]:=by
 refine Sound.o X Tryz.call68 Tryz.func68 Tryz.ntmps68 rfl rfl ?_
 intro zb
 refine W.bound 0 rfl fun hl=> ?_
 rw[bX]at hl
 refine W.s0 X [0,1] rfl ⟨⟩ ?_
 refine W.seq ?_
 refine W.s0 X [0,1,5] rfl ⟨⟩ ?_
 refine W.block ?_
 refine W.aI (fun k=>k≤l.length) (fun k:Nat=> [(1, .one (.a (.lit (.int .i64 (k0+(aC (fun _=>1) (l.take k):Nat)))))),(5, .one (.a (.lit (.int .i64 k))))]) (fun k=> []) (fun k=>l.length-k) 0 (fun k=>rfl) (Nat.zero_le _) (by simp[aC]) ?_
 intro k hk
 refine W.seq ?_
 refine W.s0 X [0,1,5,9] rfl ⟨⟩ ?_
 refine W.cond rfl (fun hb0=> ?_) (fun hb0=> ?_)
 ·rw[bX]at hb0
  try simp only[nb]at hb0
  have hg:=mN (mk:=(fun k _=>k)) (mn:=(fun _=>1)) (k:=k0) (d:=av .int) hb0
  have qz:=eH (mn:=(fun _=>1)) l (av .int) k hb0
  have hml:=jc (mn:=(fun _=>1)) l (k+1)
  have hlen:(dc (fun k _=>k) (fun _=>1) k0 l).length=l.length:=bX
  generalize l.getD k (av .int)=e at hg qz
  refine W.skip ?_
  refine W.seq ?_
  refine W.block ?_
  refine W.seq ?_
  refine W.s0 X [0,1,5,17] rfl (by and_intros<;>first|exact⟨⟩| (intros;omega)) ?_
  refine W.cond rfl (fun aD=> ?_) (fun aD=> ?_)
  ·exact absurd aD (by first| (simp only[decide_eq_true_eq];omega)| (simp only[Int.toNat_natCast,hg];simp;done)| (simp only[Int.toNat_natCast,hg,cH,dN];simp))
  ·clear aD
   refine W.skip ?_
   refine W.r0 X [0,1,5] rfl ⟨⟩ ?_
   rw[IntWalk.i64_in ((k0+(aC (fun _=>1) (l.take k):Nat))+1) (by omega)]
   refine W.r0 X [0,1,5] rfl ⟨⟩ ?_
   refine⟨k+1,by omega,by omega,?_⟩
   rw[aV _ k rfl (by omega),show(k0+(aC (fun _=>1) (l.take k):Nat))+1=k0+(aC (fun _=>1) (l.take (k+1)):Nat)by omega]
   try rfl
 ·rw[bX]at hb0
  try simp only[nb]at hb0
  refine W.exit ?_
  refine W.s0 X [4] rfl ⟨⟩ ?_
  refine W.ret ?_
  exact Fin.ret rfl ⟨by rw[List.take_of_length_le (by omega)],⟨⟩⟩
theorem lF(l:(List aB))(k0:Int)(h0:0≤k0)(h1:k0+((aC aO) l:Nat)≤1099511627776):Sound ty Tryz.prog 146 [.a (.sl .aB ((dc dQ aO) k0 l)), .a (.lit (.int .i64 k0))] [.a (.lit (.int .i64 (k0+((aC aO) l:Nat))))]:=by
 refine Sound.o X Tryz.call146 Tryz.func146 Tryz.ntmps146 rfl rfl ?_
 intro zb
 refine W.bound 0 rfl fun hl=> ?_
 rw[bX]at hl
 refine W.s0 X [0,1] rfl ⟨⟩ ?_
 refine W.seq ?_
 refine W.s0 X [0,1,5] rfl ⟨⟩ ?_
 refine W.block ?_
 refine W.aI (fun k=>k≤l.length) (fun k:Nat=> [(1, .one (.a (.lit (.int .i64 (k0+(aC aO (l.take k):Nat)))))),(5, .one (.a (.lit (.int .i64 k))))]) (fun k=> []) (fun k=>l.length-k) 0 (fun k=>rfl) (Nat.zero_le _) (by simp[aC]) ?_
 intro k hk
 refine W.seq ?_
 refine W.s0 X [0,1,5,9] rfl ⟨⟩ ?_
 refine W.cond rfl (fun hb0=> ?_) (fun hb0=> ?_)
 ·rw[bX]at hb0
  try simp only[nb]at hb0
  have hg:=mN (mk:=dQ) (mn:=aO) (k:=k0) (d:=av .aB) hb0
  have qz:=eH (mn:=aO) l (av .aB) k hb0
  have hml:=jc (mn:=aO) l (k+1)
  have hlen:(dc dQ aO k0 l).length=l.length:=bX
  generalize l.getD k (av .aB)=e at hg qz
  simp only[aO,FY]at qz
  simp only[dQ,PJ]at hg
  refine W.skip ?_
  refine W.seq ?_
  refine W.block ?_
  refine W.seq ?_
  refine W.s0 X [0,1,5,18] rfl (by and_intros<;>first|exact⟨⟩| (intros;omega)) ?_
  refine W.cond rfl (fun aD=> ?_) (fun aD=> ?_)
  ·exact absurd aD (by first| (simp only[decide_eq_true_eq];omega)| (simp only[Int.toNat_natCast,hg];simp;done)| (simp only[Int.toNat_natCast,hg,cH,dN];simp))
  ·clear aD
   refine W.skip ?_
   refine W.s0 X [0,1,5] rfl ⟨⟩ ?_
   rw[IntWalk.i64_in ((k0+(aC aO (l.take k):Nat))+1) (by omega)]
   refine W.sr X [] [(28,⟨false,[.a (.lit (.int .i64 ((k0+(aC aO (l.take k):Nat))+1+((aC (aC (fun _=>1))) e.share.rows:Nat))))]⟩)] [0,1,5] [] rfl (by(repeat' (first|exact True.intro|exact cR e.share.rows ((k0+(aC aO (l.take k):Nat))+1) (by omega) (by omega)| (simp only[Int.toNat_natCast,hg];exact cR e.share.rows ((k0+(aC aO (l.take k):Nat))+1) (by omega) (by omega))|apply And.intro))<;>first| (intros;omega)) ?_
   refine W.s0 X [0,1,5,30] rfl ⟨⟩ ?_
   refine W.cond rfl (fun aR=> ?_) (fun aR=> ?_)
   ·exact absurd aR (by first| (simp only[decide_eq_true_eq];omega)| (simp only[Int.toNat_natCast,hg];simp;done)| (simp only[Int.toNat_natCast,hg,cH,dN];simp))
   ·clear aR
    refine W.skip ?_
    refine W.r0 X [0,1,5] rfl ⟨⟩ ?_
    refine⟨k+1,by omega,by omega,?_⟩
    rw[aV _ k rfl (by omega),show(k0+(aC aO (l.take k):Nat))+1+((aC (aC (fun _=>1))) e.share.rows:Nat)=k0+(aC aO (l.take (k+1)):Nat)by omega]
    try rfl
 ·rw[bX]at hb0
  try simp only[nb]at hb0
  refine W.exit ?_
  refine W.s0 X [4] rfl ⟨⟩ ?_
  refine W.ret ?_
  exact Fin.ret rfl ⟨by rw[List.take_of_length_le (by omega)],⟨⟩⟩
theorem DM(l:(List aU))(k0:Int)(h0:0≤k0)(h1:k0+((aC aS) l:Nat)≤1099511627776):Sound ty Tryz.prog 65 [.a (.sl .aU ((dc iK aS) k0 l)), .a (.lit (.int .i64 k0))] [.a (.lit (.int .i64 (k0+((aC aS) l:Nat))))]:=by
 refine Sound.o X Tryz.call65 Tryz.func65 Tryz.ntmps65 rfl rfl ?_
 intro zb
 refine W.bound 0 rfl fun hl=> ?_
 rw[bX]at hl
 refine W.s0 X [0,1] rfl ⟨⟩ ?_
 refine W.seq ?_
 refine W.s0 X [0,1,5] rfl ⟨⟩ ?_
 refine W.block ?_
 refine W.aI (fun k=>k≤l.length) (fun k:Nat=> [(1, .one (.a (.lit (.int .i64 (k0+(aC aS (l.take k):Nat)))))),(5, .one (.a (.lit (.int .i64 k))))]) (fun k=> []) (fun k=>l.length-k) 0 (fun k=>rfl) (Nat.zero_le _) (by simp[aC]) ?_
 intro k hk
 refine W.seq ?_
 refine W.s0 X [0,1,5,9] rfl ⟨⟩ ?_
 refine W.cond rfl (fun hb0=> ?_) (fun hb0=> ?_)
 ·rw[bX]at hb0
  try simp only[nb]at hb0
  have hg:=mN (mk:=iK) (mn:=aS) (k:=k0) (d:=av .aU) hb0
  have qz:=eH (mn:=aS) l (av .aU) k hb0
  have hml:=jc (mn:=aS) l (k+1)
  have hlen:(dc iK aS k0 l).length=l.length:=bX
  generalize l.getD k (av .aU)=e at hg qz
  simp only[aS]at qz
  simp only[iK]at hg
  refine W.skip ?_
  refine W.seq ?_
  refine W.block ?_
  refine W.seq ?_
  refine W.s0 X [0,1,5,18] rfl (by and_intros<;>first|exact⟨⟩| (intros;omega)) ?_
  refine W.cond rfl (fun aD=> ?_) (fun aD=> ?_)
  ·exact absurd aD (by first| (simp only[decide_eq_true_eq];omega)| (simp only[Int.toNat_natCast,hg];simp;done)| (simp only[Int.toNat_natCast,hg,cH,dN];simp))
  ·clear aD
   refine W.skip ?_
   refine W.s0 X [0,1,5] rfl ⟨⟩ ?_
   rw[IntWalk.i64_in ((k0+(aC aS (l.take k):Nat))+1) (by omega)]
   refine W.seq ?_
   refine W.s0 X [0,1,5,27] rfl (by and_intros<;>first|exact⟨⟩| (intros;omega)) ?_
   refine W.cond rfl (fun aR=> ?_) (fun aR=> ?_)
   ·exact absurd aR (by first| (simp only[decide_eq_true_eq];omega)| (simp only[Int.toNat_natCast,hg];simp;done)| (simp only[Int.toNat_natCast,hg,cH,dN];simp))
   ·clear aR
    refine W.skip ?_
    refine W.s0 X [0,1,5] rfl ⟨⟩ ?_
    rw[IntWalk.i64_in ((k0+(aC aS (l.take k):Nat))+1+1) (by omega)]
    refine W.seq ?_
    refine W.s0 X [0,1,5,36] rfl (by and_intros<;>first|exact⟨⟩| (intros;omega)) ?_
    refine W.cond rfl (fun dS=> ?_) (fun dS=> ?_)
    ·exact absurd dS (by first| (simp only[decide_eq_true_eq];omega)| (simp only[Int.toNat_natCast,hg];simp;done)| (simp only[Int.toNat_natCast,hg,cH,dN];simp))
    ·clear dS
     refine W.skip ?_
     refine W.s0 X [0,1,5] rfl ⟨⟩ ?_
     rw[IntWalk.i64_in ((k0+(aC aS (l.take k):Nat))+1+1+1) (by omega)]
     refine W.sr X [] [(45,⟨false,[.a (.lit (.int .i64 ((k0+(aC aS (l.take k):Nat))+1+1+1+((aC aO) e.received:Nat))))]⟩)] [0,1,5] [] rfl (by(repeat' (first|exact True.intro|exact lF e.received ((k0+(aC aS (l.take k):Nat))+1+1+1) (by omega) (by omega)| (simp only[Int.toNat_natCast,hg];exact lF e.received ((k0+(aC aS (l.take k):Nat))+1+1+1) (by omega) (by omega))|apply And.intro))<;>first| (intros;omega)) ?_
     refine W.seq ?_
     refine W.s0 X [0,1,5,47] rfl ⟨⟩ ?_
     refine W.cond rfl (fun hY=> ?_) (fun hY=> ?_)
     ·exact absurd hY (by first| (simp only[decide_eq_true_eq];omega)| (simp only[Int.toNat_natCast,hg];simp;done)| (simp only[Int.toNat_natCast,hg,cH,dN];simp))
     ·clear hY
      refine W.skip ?_
      refine W.seq ?_
      refine W.s0 X [0,1,5,54] rfl (by and_intros<;>first|exact⟨⟩| (intros;omega)) ?_
      refine W.cond rfl (fun mO=> ?_) (fun mO=> ?_)
      ·exact absurd mO (by first| (simp only[decide_eq_true_eq];omega)| (simp only[Int.toNat_natCast,hg];simp;done)| (simp only[Int.toNat_natCast,hg,cH,dN];simp))
      ·clear mO
       refine W.skip ?_
       refine W.r0 X [0,1,5] rfl ⟨⟩ ?_
       rw[IntWalk.i64_in ((k0+(aC aS (l.take k):Nat))+1+1+1+((aC aO) e.received:Nat)+1) (by omega)]
       refine W.r0 X [0,1,5] rfl ⟨⟩ ?_
       refine⟨k+1,by omega,by omega,?_⟩
       rw[aV _ k rfl (by omega),show(k0+(aC aS (l.take k):Nat))+1+1+1+((aC aO) e.received:Nat)+1=k0+(aC aS (l.take (k+1)):Nat)by omega]
       try rfl
 ·rw[bX]at hb0
  try simp only[nb]at hb0
  refine W.exit ?_
  refine W.s0 X [4] rfl ⟨⟩ ?_
  refine W.ret ?_
  exact Fin.ret rfl ⟨by rw[List.take_of_length_le (by omega)],⟨⟩⟩
theorem eA(x:aN)(k0:Int)(h0:0≤k0)(h1:k0+(bV x:Nat)≤1099511627776):Sound ty Tryz.prog 16 [.agg (ay (iM k0 x)), .a (.lit (.int .i64 k0))] [.a (.lit (.int .i64 (k0+(bV x:Nat))))]:=by
 refine Sound.o X Tryz.call16 Tryz.func16 Tryz.ntmps16 rfl rfl ?_
 intro zb
 unfold bV at h1 ⊢
 refine W.s0 X [1,2] rfl ⟨⟩ ?_
 refine W.sr X [] [(8,⟨false,[.a (.lit (.int .i64 (k0+((aC aS) x.aj:Nat))))]⟩)] [1,2] [] rfl ⟨DM x.aj (k0) (by omega) (by omega),⟨⟩⟩ ?_
 refine W.seq ?_
 refine W.s0 X [1,2,10] rfl ⟨⟩ ?_
 refine W.cond rfl (fun hb0=> ?_) (fun hb0=> ?_)
 ·exact absurd hb0 (by first| (simp only[decide_eq_true_eq];omega)| (simp only[Int.toNat_natCast,hg];simp;done)| (simp only[Int.toNat_natCast,hg,cH,dN];simp))
 ·clear hb0
  refine W.skip ?_
  refine W.sr X [] [(14,⟨false,[.a (.lit (.int .i64 (k0+((aC aS) x.aj:Nat)+((aC aG) x.aa:Nat))))]⟩)] [1,2] [] rfl ⟨DL x.aa (k0+((aC aS) x.aj:Nat)) (by omega) (by omega),⟨⟩⟩ ?_
  refine W.seq ?_
  refine W.s0 X [1,2,16] rfl ⟨⟩ ?_
  refine W.cond rfl (fun aD=> ?_) (fun aD=> ?_)
  ·exact absurd aD (by first| (simp only[decide_eq_true_eq];omega)| (simp only[Int.toNat_natCast,hg];simp;done)| (simp only[Int.toNat_natCast,hg,cH,dN];simp))
  ·clear aD
   refine W.skip ?_
   refine W.sr X [] [(20,⟨false,[.a (.lit (.int .i64 (k0+((aC aS) x.aj:Nat)+((aC aG) x.aa:Nat)+(eW x.ak:Nat))))]⟩)] [1,2] [] rfl ⟨DK x.ak (k0+((aC aS) x.aj:Nat)+((aC aG) x.aa:Nat)) (by omega) (by omega),⟨⟩⟩ ?_
   refine W.seq ?_
   refine W.s0 X [1,2,22] rfl ⟨⟩ ?_
   refine W.cond rfl (fun aR=> ?_) (fun aR=> ?_)
   ·exact absurd aR (by first| (simp only[decide_eq_true_eq];omega)| (simp only[Int.toNat_natCast,hg];simp;done)| (simp only[Int.toNat_natCast,hg,cH,dN];simp))
   ·clear aR
    refine W.skip ?_
    refine W.sr X [] [(26,⟨false,[.a (.lit (.int .i64 (k0+((aC aS) x.aj:Nat)+((aC aG) x.aa:Nat)+(eW x.ak:Nat)+((aC (fun _=>1)) x.replaced:Nat))))]⟩)] [1] [] rfl ⟨J6 x.replaced (k0+((aC aS) x.aj:Nat)+((aC aG) x.aa:Nat)+(eW x.ak:Nat)) (by omega) (by omega),⟨⟩⟩ ?_
    refine W.seq ?_
    refine W.s0 X [1,28] rfl ⟨⟩ ?_
    refine W.cond rfl (fun dS=> ?_) (fun dS=> ?_)
    ·exact absurd dS (by first| (simp only[decide_eq_true_eq];omega)| (simp only[Int.toNat_natCast,hg];simp;done)| (simp only[Int.toNat_natCast,hg,cH,dN];simp))
    ·clear dS
     refine W.skip ?_
     refine W.s0 X [4] rfl ⟨⟩ ?_
     refine W.ret ?_
     exact Fin.ret rfl ⟨by first|rfl| (congr 1;omega),⟨⟩⟩
end
section
theorem xS{x:aN}{n:Nat}(h:wC x n)(hn:n≤4194304):bB x≤7340032:=by obtain⟨h1,h2,h3,h4⟩:=h;unfold bB;omega
end
end Go.Proofs.YtmcgjpdljafkeaaGreat.G
