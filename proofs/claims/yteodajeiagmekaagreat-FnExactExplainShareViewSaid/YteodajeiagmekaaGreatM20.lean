/-
  Valid worlds; cells that clients write.
-/
import Derived.Test.YteodajeiagmekaaGreatM15
import Derived.Test.YteodajeiagmekaaGreatM19
namespace Go.Proofs.YteodajeiagmekaaGreat.G
set_option linter.all false
open Go.RowKit L D
section
set_option maxRecDepth 100000
theorem rW(n:Int):Sound ty Tryz.prog 230 [.a (.lit (.int .i64 n))] [.a (.lit (.int .i64 (CK n)))]:=by
 refine Sound.o X Tryz.call230 Tryz.func230 Tryz.ntmps230 rfl rfl ?_
 intro zb
 refine W.s0 X [0] rfl ⟨⟩ ?_
 refine W.seq ?_
 refine W.s0 X [0,4] rfl ⟨⟩ ?_
 refine W.cond rfl (fun hb0=> ?_) (fun hb0=> ?_)
 ·try simp only[nb,an,aq,aa]at hb0
  refine W.s0 X [2] rfl ⟨⟩ ?_
  refine W.ret ?_
  exact Fin.ret rfl ⟨by rw[CK,if_pos hb0],⟨⟩⟩
 ·try simp only[nb,an,aq,aa]at hb0
  refine W.skip ?_
  refine W.s0 X [2] rfl ⟨⟩ ?_
  refine W.ret ?_
  exact Fin.ret rfl ⟨by rw[CK,if_neg (by simpa using hb0)],⟨⟩⟩
theorem jM(s n:Int)(h0:0≤n)(h1:n≤400):Sound ty Tryz.prog 235 [.a (.lit (.int .i64 s)), .a (.lit (.int .i64 n))] [.a (.sl .u8 (stream s n.toNat))]:=by
 refine Sound.o X Tryz.call235 Tryz.func235 Tryz.ntmps235 rfl rfl ?_
 intro zb
 refine W.s0 X [0,1] rfl ⟨⟩ ?_
 refine W.seq ?_
 refine W.sr X [] [(8,⟨false,[.a (.lit (.bool _))]⟩)] [0,1,9] [] rfl (by(repeat' with_reducible first|exact aj.nil|refine aj.mk ?_ ?_|apply And.intro)<;>first|exact(aC _ _ _)) ?_
 refine W.cond rfl (fun hb0=> ?_) (fun hb0=> ?_)
 ·try simp only[nb,an,aq,aa]at hb0
  omega
 ·try simp only[nb,an,aq,aa]at hb0
  refine W.skip ?_
  refine W.s0 X [0,1,5] rfl (by and_intros<;>first|exact⟨⟩|exact rfl) ?_
  refine W.seq ?_
  refine W.s0 X [0,5,11,12] rfl ⟨⟩ ?_
  refine W.block ?_
  refine W.aE (fun k=>k≤n.toNat) (fun k:Nat=> [(12, .one (.a (.lit (.int .i64 k))))]) (fun k=> [(10, .arr .u8 (stream s k))]) (fun k=>n.toNat-k) 0 (fun k=>rfl) (Nat.zero_le _) rfl ?_
  intro k hk
  have hle:=eI s k
  refine W.s0 X [0,5,11,12,13] rfl ⟨⟩ ?_
  refine W.seq ?_
  refine W.cond rfl (fun aB=> ?_) (fun aB=> ?_)
  ·try simp only[nb,an,aq,aa]at aB
   have hs:=BD s k (by omega)
   refine W.skip ?_
   refine W.seq ?_
   refine W.block ?_
   refine W.s0 X [0,5,6,11,12] rfl ⟨⟩ ?_
   refine W.cD X [(23,10)] [(19,⟨false,[.a (.lit (.int .i64 _))]⟩)] [0,5,11,12] [] rfl (by(repeat' with_reducible first|exact aj.nil|refine aj.mk ?_ ?_|apply And.intro)<;>first|exact(lq _ _)| (intros;omega)|exact rfl|exact⟨rfl,bA _ (by decide)⟩|exact(pR _).1|exact(pR _).2| (simp only[cT,maxLen,lens];omega)) ?_
   refine W.r0 X [0,5,11,12] rfl ⟨⟩ ?_
   refine⟨k+1,by omega,by omega,?_⟩
   rw[aR _ k rfl (by omega),hs]
   try rfl
  ·try simp only[nb,an,aq,aa]at aB
   refine W.exit ?_
   refine W.s0 X [4] rfl ⟨⟩ ?_
   refine W.ret ?_
   exact Fin.ret rfl ⟨by rw[show k=n.toNat by omega],⟨⟩⟩
end
section
set_option maxRecDepth 100000
theorem cu(l:List UInt8)(hl:l.length≤1048576):Sound ty Tryz.prog 269 [.a (.sl .u8 l)] [.a (.sl .u8 l)]:=by
 refine Sound.o X Tryz.call269 Tryz.func269 Tryz.ntmps269 rfl rfl ?_
 intro zb
 refine W.s0 X [0] rfl ⟨⟩ ?_
 refine W.seq ?_
 refine W.seq ?_
 refine W.isNil X [] [] [0,4] rfl (by and_intros<;>exact⟨⟩) (fun hn1=> ?_) ?_
 ·skip
  refine W.cond rfl (fun _=> ?_) (fun hb=>absurd hb (by decide))
  refine W.s0 X [2] rfl ⟨⟩ ?_
  refine W.ret ?_
  exact Fin.ret rfl ⟨hn1,⟨⟩⟩
 ·skip
  refine W.cond rfl (fun hb=>absurd hb (by decide)) (fun _=> ?_)
  refine W.skip ?_
  refine W.sr X [(7,5)] [] [2] [] rfl (by and_intros<;>first|exact⟨⟩|exact rfl| (simp only[cT,maxLen,lens];omega)) ?_
  refine W.ret ?_
  exact Fin.ret rfl ⟨rfl,⟨⟩⟩
theorem jC(a b:List UInt8)(ha:a.length≤1048576)(hb:b.length≤1048576):Sound ty Tryz.prog 334 [.a (.sl .u8 a), .a (.sl .u8 b)] [.a (.sl .u8 (cJ a b))]:=by
 refine Sound.o X Tryz.call334 Tryz.func334 Tryz.ntmps334 rfl rfl ?_
 intro zb
 refine W.s0 X [0,1] rfl ⟨⟩ ?_
 refine W.seq ?_
 refine W.s0 X [0,1,12] rfl ⟨⟩ ?_
 refine W.cond rfl (fun hb0=> ?_) (fun hb0=> ?_)
 ·try simp only[nb,an,aq,aa]at hb0
  rw[AG a b]
  have SP:a.length≤b.length:=by omega
  obtain⟨p,hp⟩: ∃p,p=b:=⟨_,rfl⟩
  obtain⟨q,hq⟩: ∃q,q=a:=⟨_,rfl⟩
  subst hp;subst hq
  refine W.r0 X [0,1] rfl ⟨⟩ ?_
  refine W.sr X [] [(16,⟨true,[.a (.sl .u8 _)]⟩)] [1,5] [] rfl (by(repeat' with_reducible first|exact aj.nil|refine aj.mk ?_ ?_|apply And.intro)<;>first|exact(cu _ (by first|assumption|omega| (simp;done)| (simp;omega)))) ?_
  refine W.seq ?_
  refine W.s0 X [5,17,18,19] rfl ⟨⟩ ?_
  refine W.block ?_
  refine W.aE (fun k=>k≤q.length) (fun k:Nat=> [(19, .one (.a (.lit (.int .i64 k))))]) (fun k=> [(16, .arr .u8 ((cJ p q).take k++p.drop k))]) (fun k=>q.length-k) 0 (fun k=>rfl) (Nat.zero_le _) rfl ?_
  intro k hk
  have hle:=kr (cJ p q) p k (by rw[cP];omega) (by omega)
  refine W.s0 X [5,17,18,19,20] rfl ⟨⟩ ?_
  refine W.seq ?_
  refine W.cond rfl (fun aB=> ?_) (fun aB=> ?_)
  ·try simp only[nb,an,aq,aa]at aB
   have hs:=JK p q k aB SP
   refine W.skip ?_
   refine W.seq ?_
   refine W.block ?_
   refine W.s0 X [5,6,7,17,18,19] rfl (by and_intros<;>first|exact⟨⟩| (intros;omega)) ?_
   refine W.r0 X [5,17,18,19] rfl (by and_intros<;>first|exact⟨⟩| (intros;omega)|exact(pR _).1|exact(pR _).2) ?_
   refine W.r0 X [5,17,18,19] rfl ⟨⟩ ?_
   refine⟨k+1,by omega,by omega,?_⟩
   rw[aR _ k rfl (by omega),hs]
   try rfl
  ·try simp only[nb,an,aq,aa]at aB
   refine W.exit ?_
   refine W.s0 X [4] rfl ⟨⟩ ?_
   refine W.ret ?_
   exact Fin.ret rfl ⟨by rw[JL p q k aB SP hk],⟨⟩⟩
 ·try simp only[nb,an,aq,aa]at hb0
  have SP:b.length≤a.length:=by omega
  obtain⟨p,hp⟩: ∃p,p=a:=⟨_,rfl⟩
  obtain⟨q,hq⟩: ∃q,q=b:=⟨_,rfl⟩
  subst hp;subst hq
  refine W.skip ?_
  refine W.sr X [] [(16,⟨true,[.a (.sl .u8 _)]⟩)] [1,5] [] rfl (by(repeat' with_reducible first|exact aj.nil|refine aj.mk ?_ ?_|apply And.intro)<;>first|exact(cu _ (by first|assumption|omega| (simp;done)| (simp;omega)))) ?_
  refine W.seq ?_
  refine W.s0 X [5,17,18,19] rfl ⟨⟩ ?_
  refine W.block ?_
  refine W.aE (fun k=>k≤q.length) (fun k:Nat=> [(19, .one (.a (.lit (.int .i64 k))))]) (fun k=> [(16, .arr .u8 ((cJ p q).take k++p.drop k))]) (fun k=>q.length-k) 0 (fun k=>rfl) (Nat.zero_le _) rfl ?_
  intro k hk
  have hle:=kr (cJ p q) p k (by rw[cP];omega) (by omega)
  refine W.s0 X [5,17,18,19,20] rfl ⟨⟩ ?_
  refine W.seq ?_
  refine W.cond rfl (fun aB=> ?_) (fun aB=> ?_)
  ·try simp only[nb,an,aq,aa]at aB
   have hs:=JK p q k aB SP
   refine W.skip ?_
   refine W.seq ?_
   refine W.block ?_
   refine W.s0 X [5,6,7,17,18,19] rfl (by and_intros<;>first|exact⟨⟩| (intros;omega)) ?_
   refine W.r0 X [5,17,18,19] rfl (by and_intros<;>first|exact⟨⟩| (intros;omega)|exact(pR _).1|exact(pR _).2) ?_
   refine W.r0 X [5,17,18,19] rfl ⟨⟩ ?_
   refine⟨k+1,by omega,by omega,?_⟩
   rw[aR _ k rfl (by omega),hs]
   try rfl
  ·try simp only[nb,an,aq,aa]at aB
   refine W.exit ?_
   refine W.s0 X [4] rfl ⟨⟩ ?_
   refine W.ret ?_
   exact Fin.ret rfl ⟨by rw[JL p q k aB SP hk],⟨⟩⟩
theorem lC(l:List (List UInt8))(hs0:bX List.length l≤1048576):Sound ty Tryz.prog 328 [.a (.sl (.sl .u8) l)] [.a (.sl (.sl .u8) l)]:=by
 refine Sound.o X Tryz.call328 Tryz.func328 Tryz.ntmps328 rfl rfl ?_
 intro zb
 have kZ:l.length≤1048576:=cI hs0
 refine W.s0 X [0] rfl ⟨⟩ ?_
 refine W.s0 X [0,3] rfl (by and_intros<;>first|exact⟨⟩|exact rfl) ?_
 refine W.seq ?_
 refine W.s0 X [3,7,8,9] rfl ⟨⟩ ?_
 refine W.block ?_
 refine W.aE (fun k=>k≤l.length) (fun k:Nat=> [(9, .one (.a (.lit (.int .i64 k))))]) (fun k=> [(6, .arr (.sl .u8) (l.take k))]) (fun k=>l.length-k) 0 (fun k=>rfl) (Nat.zero_le _) rfl ?_
 intro k hk
 have hle:=aY l k
 refine W.s0 X [3,7,8,9,10] rfl ⟨⟩ ?_
 refine W.seq ?_
 refine W.cond rfl (fun hb0=> ?_) (fun hb0=> ?_)
 ·try simp only[nb,an,aq,aa]at hb0
  have hs:=aV l k (au (.sl .u8)) hb0
  have hel:=SN hs0 k hb0
  refine W.skip ?_
  refine W.seq ?_
  refine W.block ?_
  refine W.s0 X [3,5,7,8,9] rfl (by and_intros<;>first|exact⟨⟩| (intros;omega)) ?_
  refine W.cD X [(17,6)] [(15,⟨true,[.a (.sl .u8 _)]⟩)] [3,7,8,9] [] rfl (by(repeat' with_reducible first|exact aj.nil|refine aj.mk ?_ ?_|apply And.intro)<;>first|exact(cu _ (by first|assumption|omega| (simp;done)| (simp;omega)))|exact rfl| (simp only[cT,maxLen,lens];omega)) ?_
  refine W.r0 X [3,7,8,9] rfl ⟨⟩ ?_
  refine⟨k+1,by omega,by omega,?_⟩
  rw[aR _ k rfl (by omega),hs]
  try rfl
 ·try simp only[nb,an,aq,aa]at hb0
  refine W.exit ?_
  refine W.s0 X [2] rfl ⟨⟩ ?_
  refine W.ret ?_
  exact Fin.ret rfl ⟨by rw[List.take_of_length_le hb0],⟨⟩⟩
theorem Ei(s:Int)(l:List UInt8)(hl:l.length≤1048576):Sound ty Tryz.prog 347 [.a (.lit (.int .i64 s)), .a (.sl .u8 l)] [.a (.sl .u8 (lz s l))]:=by
 refine Sound.o X Tryz.call347 Tryz.func347 Tryz.ntmps347 rfl rfl ?_
 intro zb
 refine W.s0 X [0,1] rfl ⟨⟩ ?_
 refine W.sr X [] [(8,⟨true,[.a (.sl .u8 _)]⟩)] [0,5] [] rfl (by(repeat' with_reducible first|exact aj.nil|refine aj.mk ?_ ?_|apply And.intro)<;>first|exact(cu _ (by first|assumption|omega| (simp;done)| (simp;omega)))) ?_
 refine W.seq ?_
 refine W.s0 X [0,5,10,11] rfl ⟨⟩ ?_
 refine W.block ?_
 refine W.aE (fun k=>k≤l.length) (fun k:Nat=> [(11, .one (.a (.lit (.int .i64 k))))]) (fun k=> [(8, .arr .u8 ((lz s l).take k++l.drop k))]) (fun k=>l.length-k) 0 (fun k=>rfl) (Nat.zero_le _) rfl ?_
 intro k hk
 have hle:=kr (lz s l) l k (jq s l) hk
 refine W.s0 X [0,5,10,11,12] rfl ⟨⟩ ?_
 refine W.seq ?_
 refine W.cond rfl (fun hb0=> ?_) (fun hb0=> ?_)
 ·try simp only[nb,an,aq,aa]at hb0
  have hs:=PO s l k hb0
  refine W.skip ?_
  refine W.seq ?_
  refine W.block ?_
  refine W.s0 X [0,5,6,10,11] rfl ⟨⟩ ?_
  refine W.draw X [] [(21,⟨false,[.a (.lit (.int .i64 _))]⟩)] [0,5,10,11] [] 12 MO (by kernel_rfl) rfl (by(repeat' with_reducible first|exact aj.nil|refine aj.mk ?_ ?_|apply And.intro)<;>first|exact(bC _ _ (by first|assumption|omega| (simp;done)| (simp;omega)))| (intros;omega)|exact⟨rfl,bA _ (by decide)⟩|exact(pR _).1|exact(pR _).2) ?_
  refine W.r0 X [0,5,10,11] rfl ⟨⟩ ?_
  refine⟨k+1,by omega,by omega,?_⟩
  rw[aR _ k rfl (by omega),hs]
  try rfl
 ·try simp only[nb,an,aq,aa]at hb0
  refine W.exit ?_
  refine W.s0 X [4] rfl ⟨⟩ ?_
  refine W.ret ?_
  exact Fin.ret rfl ⟨by rw[nr _ _ _ (jq s l) hb0],⟨⟩⟩
theorem mX(p:Plain):Sound ty Tryz.prog 346 [.agg (eW p)] [.a (.lit (.bool (jA p)))]:=by
 refine Sound.o X Tryz.call346 Tryz.func346 Tryz.ntmps346 rfl rfl ?_
 intro zb
 refine W.s0 X [1] rfl ⟨⟩ ?_
 refine W.sr X [] [(5,⟨false,[.a (.lit (.bool _))]⟩)] [2] [] rfl (by(repeat' with_reducible first|exact aj.nil|refine aj.mk ?_ ?_|apply And.intro)<;>first|exact(aC _ _ _)) ?_
 refine W.ret ?_
 exact Fin.ret rfl ⟨by unfold jA;cases inr p.kind 0 3<;>rfl,⟨⟩⟩
theorem AI(key c:Int)(l:List UInt8)(hl:l.length≤65536):Sound ty Tryz.prog 398 [.a (.lit (.int .i64 key)), .a (.lit (.int .i64 c)), .a (.sl .u8 l)] [.a (.lit (.int .i64 (jd key c l)))]:=by
 refine Sound.o X Tryz.call398 Tryz.func398 Tryz.ntmps398 rfl rfl ?_
 intro zb
 refine W.s0 X [0,1,2] rfl ⟨⟩ ?_
 refine W.s0 X [0,2,7] rfl (by and_intros<;>first|exact⟨⟩|exact rfl) ?_
 refine W.seq ?_
 refine W.s0 X [0,7,12,13,14] rfl ⟨⟩ ?_
 refine W.block ?_
 refine W.aE (fun k=>k≤l.length) (fun k:Nat=> [(14, .one (.a (.lit (.int .i64 k))))]) (fun k=> [(11, .arr .int ([71,c]++(l.take k).map (fun x=>(x.toNat:Int))))]) (fun k=>l.length-k) 0 (fun k=>rfl) (Nat.zero_le _) rfl ?_
 intro k hk
 refine W.s0 X [0,7,12,13,14,15] rfl ⟨⟩ ?_
 refine W.seq ?_
 refine W.cond rfl (fun hb0=> ?_) (fun hb0=> ?_)
 ·try simp only[nb,an,aq,aa]at hb0
  have hs:=NY l c k hb0
  refine W.skip ?_
  refine W.seq ?_
  refine W.block ?_
  refine W.s0 X [0,7,9,12,13,14] rfl (by and_intros<;>first|exact⟨⟩| (intros;omega)) ?_
  refine W.cD X [(22,11)] [] [0,7,12,13,14] [] rfl (by and_intros<;>first|exact⟨⟩|exact rfl| (simp only[cT,maxLen,lens];omega)) ?_
  refine W.r0 X [0,7,12,13,14] rfl ⟨⟩ ?_
  refine⟨k+1,by omega,by omega,?_⟩
  rw[aR _ k rfl (by omega),hs]
  try rfl
 ·try simp only[nb,an,aq,aa]at hb0
  refine W.exit ?_
  refine W.sr X [] [(26,⟨false,[.a (.lit (.int .i64 _))]⟩)] [6] [] rfl (by(repeat' with_reducible first|exact aj.nil|refine aj.mk ?_ ?_|apply And.intro)<;>first|exact(bC _ _ (by first|assumption|omega| (simp;done)| (simp;omega)))) ?_
  refine W.ret ?_
  exact Fin.ret rfl ⟨by rw[List.take_of_length_le hb0];rfl,⟨⟩⟩
theorem uj(k c:Int):Sound ty Tryz.prog 348 [.a (.lit (.int .i64 k)), .a (.lit (.int .i64 c))] [.a (.lit (.int .i64 (lB k c)))]:=by
 refine Sound.o X Tryz.call348 Tryz.func348 Tryz.ntmps348 rfl rfl ?_
 intro zb
 refine W.s0 X [0,1] rfl ⟨⟩ ?_
 refine W.sr X [] [(8,⟨false,[.a (.lit (.int .i64 _))]⟩),(9,⟨false,[.a (.lit (.int .i64 _))]⟩)] [4] [] rfl (by(repeat' with_reducible first|exact aj.nil|refine aj.mk ?_ ?_|apply And.intro);(iterate 2 all_goals try first|exact(bC _ _ (by first|assumption|omega| (simp;done)| (simp;omega)))|exact(rW _));all_goals first|exact⟨rfl,bA _ (by decide)⟩) ?_
 refine W.ret ?_
 exact Fin.ret rfl ⟨rfl,⟨⟩⟩
theorem jf(k c:Int):Sound ty Tryz.prog 273 [.a (.lit (.int .i64 k)), .a (.lit (.int .i64 c))] [.a (.lit (.int .i64 (jN k c)))]:=by
 refine Sound.o X Tryz.call273 Tryz.func273 Tryz.ntmps273 rfl rfl ?_
 intro zb
 refine W.s0 X [0,1] rfl ⟨⟩ ?_
 refine W.sr X [] [(8,⟨false,[.a (.lit (.int .i64 _))]⟩),(9,⟨false,[.a (.lit (.int .i64 _))]⟩)] [4] [] rfl (by(repeat' with_reducible first|exact aj.nil|refine aj.mk ?_ ?_|apply And.intro);(iterate 2 all_goals try first|exact(bC _ _ (by first|assumption|omega| (simp;done)| (simp;omega)))|exact(rW _));all_goals first|exact⟨rfl,bA _ (by decide)⟩) ?_
 refine W.ret ?_
 exact Fin.ret rfl ⟨rfl,⟨⟩⟩
theorem oR(k c:Int)(l:List UInt8)(hl:l.length≤65536):Sound ty Tryz.prog 349 [.a (.lit (.int .i64 k)), .a (.lit (.int .i64 c)), .a (.sl .u8 l)] [.a (.sl .u8 (four (jd k c l)))]:=by
 refine Sound.o X Tryz.call349 Tryz.func349 Tryz.ntmps349 rfl rfl ?_
 intro zb
 refine W.s0 X [0,1,2] rfl ⟨⟩ ?_
 refine W.sr X [] [(11,⟨false,[.a (.lit (.int .i64 _))]⟩)] [7] [] rfl (by(repeat' with_reducible first|exact aj.nil|refine aj.mk ?_ ?_|apply And.intro)<;>first|exact(AI _ _ _ (by first|assumption|omega| (simp;done)| (simp;omega)))) ?_
 refine W.s0 X [6] rfl (by and_intros<;>first|exact⟨⟩| (intros;omega)|exact rfl|exact(pR _).1|exact(pR _).2) ?_
 refine W.ret ?_
 exact Fin.ret rfl ⟨NZ _,⟨⟩⟩
end
section
set_option maxRecDepth 100000
theorem Ce(key c:Int)(p:Plain):Sound ty Tryz.prog 272 [.a (.lit (.int .i64 key)), .a (.lit (.int .i64 c)), .agg (eW p)] [.a (.sl .u8 (qo key c p)), .a (.lit (.bool (iw key c p)))]:=by
 refine Sound.o X Tryz.call272 Tryz.func272 Tryz.ntmps272 rfl rfl ?_
 intro zb
 refine W.s0 X [0,1,5] rfl ⟨⟩ ?_
 refine W.seq ?_
 refine W.sr X [] [(11,⟨false,[.a (.lit (.bool (fA key)))]⟩),(15,⟨false,[.a (.lit (.bool (inr c 0 1000000000000)))]⟩),(20,⟨false,[.a (.lit (.bool (jA p)))]⟩)] [0,1,5,22] [] rfl (by(repeat' with_reducible first|exact aj.nil|refine aj.mk ?_ ?_|apply And.intro);(iterate 3 all_goals try first|exact(gX key)|exact fun _=>(aC c 0 1000000000000)|exact fun _=>(mX p))) ?_
 refine W.cond rfl (fun hb0=> ?_) (fun hb0=> ?_)
 ·have hk:iw key c p=false:=bK hb0 (by simp only[iw,aH]<;>first|rfl|ac_rfl)
  refine W.s0 X [6,7] rfl ⟨⟩ ?_
  refine W.ret ?_
  exact Fin.ret rfl ⟨by rw[qo,if_neg (by rw[hk];decide)],by rw[hk],⟨⟩⟩
 ·have hk:iw key c p=true:=bG hb0 (by simp only[iw,aH]<;>first|rfl|ac_rfl)
  have hp:=oT hk
  have hst:(stream (kh key [61,c]) (18:Int).toNat).length=18:=eI _ _
  have oD:(fD key c p).length≤100:=by unfold fD;simp only[List.length_append,List.length_drop,List.length_cons,List.length_nil,eI];omega
  have hf4:(four (jd key c (lz (lB key c) (fD key c p)))).length=4:=rfl
  have hel:(lz (lB key c) (fD key c p)).length≤100:=by rw[jq];exact oD
  refine W.skip ?_
  refine W.sr X [(33,30)] [] [0,1,5,8] [] rfl (by and_intros<;>first|exact⟨⟩|exact rfl|exact(pR _).1|exact(pR _).2| (simp only[cT,maxLen,lens];omega)) ?_
  refine W.sd X [(44,30)] [(38,⟨false,[.a (.lit (.int .i64 (kh key [61,c])))]⟩),(39,⟨true,[.a (.sl .u8 (stream (kh key [61,c]) (18:Int).toNat))]⟩)] [0,1,8] [] 10 MO (by kernel_rfl) rfl (by(repeat' with_reducible first|exact aj.nil|refine aj.mk ?_ ?_|apply And.intro);(iterate 2 all_goals try first|exact(bC key [61,c] (by first|assumption|omega| (simp;done)| (simp;omega)))|exact(jM (kh key [61,c]) 18 (by first|assumption|omega| (simp;done)| (simp;omega)) (by first|assumption|omega| (simp;done)| (simp;omega))));all_goals first| (intros;omega)|exact rfl|exact⟨rfl,bA _ (by decide)⟩| (simp only[cT,maxLen,lens];omega)) ?_
  refine W.sr X [] [(47,⟨false,[.a (.lit (.int .i64 (lB key c)))]⟩),(49,⟨true,[.a (.sl .u8 (lz (lB key c) (fD key c p)))]⟩)] [0,1,9] [] rfl (by(repeat' with_reducible first|exact aj.nil|refine aj.mk ?_ ?_|apply And.intro);(iterate 2 all_goals try first|exact(uj key c)|exact(Ei (lB key c) (fD key c p) (by first|assumption|omega| (simp;done)| (simp;omega))))) ?_
  refine W.sr X [(55,49)] [(54,⟨true,[.a (.sl .u8 (four (jd key c (lz (lB key c) (fD key c p)))))]⟩)] [6,7] [] rfl (by(repeat' with_reducible first|exact aj.nil|refine aj.mk ?_ ?_|apply And.intro)<;>first|exact(oR key c (lz (lB key c) (fD key c p)) (by first|assumption|omega| (simp;done)| (simp;omega)))|exact rfl| (simp only[cT,maxLen,lens];omega)) ?_
  refine W.ret ?_
  exact Fin.ret rfl ⟨by rw[qo,if_pos hk],by rw[hk],⟨⟩⟩
theorem gm(c:ep):Sound ty Tryz.prog 146 [.agg (bn c)] [.a (.lit (.int .i64 (bS c)))]:=by
 refine Sound.o X Tryz.call146 Tryz.func146 Tryz.ntmps146 rfl rfl ?_
 intro zb
 refine W.s0 X [1] rfl ⟨⟩ ?_
 refine W.seq ?_
 refine W.s0 X [7] rfl ⟨⟩ ?_
 refine W.cond rfl (fun hb0=> ?_) (fun hb0=> ?_)
 ·try simp only[nb,an,aq,aa]at hb0
  refine W.s0 X [2] rfl ⟨⟩ ?_
  refine W.ret ?_
  exact Fin.ret rfl ⟨by rw[bS,if_pos hb0],⟨⟩⟩
 ·try simp only[nb,an,aq,aa]at hb0
  refine W.skip ?_
  refine W.s0 X [2] rfl ⟨⟩ ?_
  refine W.ret ?_
  exact Fin.ret rfl ⟨by rw[bS,if_neg (by omega)],⟨⟩⟩
theorem nY(c:ep)(a:Int)(h0:0≤a)(h1:a<c.av.length):Sound ty Tryz.prog 148 [.agg (bn c), .a (.lit (.int .i64 a))] [.a (.sl .u8 (qz c a))]:=by
 refine Sound.o X Tryz.call148 Tryz.func148 Tryz.ntmps148 rfl rfl ?_
 intro zb
 refine W.s0 X [1,2] rfl ⟨⟩ ?_
 refine W.sd X [] [(11,⟨false,[.a (.lit (.int .i64 (bS c)))]⟩),(12,⟨false,[.a (.lit (.int .i64 (jN c.key (bS c))))]⟩),(20,⟨true,[.a (.sl .u8 (qo (jN c.key (bS c)) a (⟨1,(c.av.getD (a).toNat (au (.sl .u8)))⟩:Plain))), .a (.lit (.bool (iw (jN c.key (bS c)) a (⟨1,(c.av.getD (a).toNat (au (.sl .u8)))⟩:Plain))))]⟩)] [5] [] 18 MO (by kernel_rfl) rfl (by(repeat' with_reducible first|exact aj.nil|refine aj.mk ?_ ?_|apply And.intro);(iterate 3 all_goals try first|exact(gm c)|exact(jf c.key (bS c))|exact(Ce (jN c.key (bS c)) a (⟨1,(c.av.getD (a).toNat (au (.sl .u8)))⟩:Plain)));all_goals first| (intros;omega)) ?_
 refine W.s0 X [4] rfl ⟨⟩ ?_
 refine W.ret ?_
 exact Fin.ret rfl ⟨rfl,⟨⟩⟩
end
end Go.Proofs.YteodajeiagmekaaGreat.G
