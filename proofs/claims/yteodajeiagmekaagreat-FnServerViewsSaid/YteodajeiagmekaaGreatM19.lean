/-
  Valid worlds; cells that clients write.
-/
import Derived.Test.YteodajeiagmekaaGreatM13
import Derived.Test.YteodajeiagmekaaGreatM17
namespace Go.Proofs.YteodajeiagmekaaGreat.G
set_option linter.all false
open Go.RowKit L D
section
set_option maxRecDepth 100000
theorem nS(a b:Int):Sound ty Tryz.prog 105 [.a (.lit (.int .i64 a)), .a (.lit (.int .i64 b))] [.a (.lit (.int .i64 (if b>a then b else a)))]:=by
 refine Sound.o X Tryz.call105 Tryz.func105 Tryz.ntmps105 rfl rfl ?_
 intro zb
 refine W.s0 X [0,1] rfl ⟨⟩ ?_
 refine W.seq ?_
 refine W.s0 X [0,1,7] rfl ⟨⟩ ?_
 refine W.cond rfl (fun hb0=> ?_) (fun hb0=> ?_)
 ·try simp only[nb,an,aq,aa]at hb0
  refine W.s0 X [4] rfl ⟨⟩ ?_
  refine W.ret ?_
  exact Fin.ret rfl ⟨by rw[if_pos (by omega)],⟨⟩⟩
 ·try simp only[nb,an,aq,aa]at hb0
  refine W.skip ?_
  refine W.s0 X [4] rfl ⟨⟩ ?_
  refine W.ret ?_
  exact Fin.ret rfl ⟨by rw[if_neg (by omega)],⟨⟩⟩
theorem lq(s k:Int):Sound ty Tryz.prog 270 [.a (.lit (.int .i64 s)), .a (.lit (.int .i64 k))] [.a (.lit (.int .i64 (cs s k)))]:=by
 refine Sound.o X Tryz.call270 Tryz.func270 Tryz.ntmps270 rfl rfl ?_
 intro zb
 refine W.s0 X [0,1] rfl ⟨⟩ ?_
 refine W.sr X [] [(9,⟨false,[.a (.lit (.int .i64 _))]⟩)] [5] [] rfl (by(repeat' with_reducible first|exact aj.nil|refine aj.mk ?_ ?_|apply And.intro)<;>first|exact(bC _ _ (by first|assumption|omega| (simp;done)| (simp;omega)))|exact⟨rfl,bA _ (by decide)⟩) ?_
 refine W.s0 X [4] rfl (by and_intros<;>first|exact⟨⟩| (intros;omega)) ?_
 refine W.ret ?_
 exact Fin.ret rfl ⟨by rw[cs_eq (dy _ _).1 (dy _ _).2];rfl,⟨⟩⟩
theorem lu(s k:Int):Sound ty Tryz.prog 274 [.a (.lit (.int .i64 s)), .a (.lit (.int .i64 k))] [.a (.lit (.int .i64 (cs s k)))]:=by
 refine Sound.o X Tryz.call274 Tryz.func274 Tryz.ntmps274 rfl rfl ?_
 intro zb
 refine W.s0 X [0,1] rfl ⟨⟩ ?_
 refine W.sr X [] [(9,⟨false,[.a (.lit (.int .i64 _))]⟩)] [5] [] rfl (by(repeat' with_reducible first|exact aj.nil|refine aj.mk ?_ ?_|apply And.intro)<;>first|exact(aW _ _ (by first|assumption|omega| (simp;done)| (simp;omega)))|exact⟨rfl,bA _ (by decide)⟩) ?_
 refine W.s0 X [4] rfl (by and_intros<;>first|exact⟨⟩| (intros;omega)) ?_
 refine W.ret ?_
 exact Fin.ret rfl ⟨by rw[cs_eq (dy _ _).1 (dy _ _).2];rfl,⟨⟩⟩
theorem jL(s n:Int)(h0:0≤n)(h1:n≤400):Sound ty Tryz.prog 184 [.a (.lit (.int .i64 s)), .a (.lit (.int .i64 n))] [.a (.sl .u8 (stream s n.toNat))]:=by
 refine Sound.o X Tryz.call184 Tryz.func184 Tryz.ntmps184 rfl rfl ?_
 intro zb
 refine W.s0 X [0,1] rfl ⟨⟩ ?_
 refine W.s0 X [0,1,5] rfl (by and_intros<;>first|exact⟨⟩|exact rfl) ?_
 refine W.seq ?_
 refine W.s0 X [0,1,5,6] rfl ⟨⟩ ?_
 refine W.block ?_
 refine W.aE (fun k=>k≤n.toNat) (fun k:Nat=> [(6, .one (.a (.lit (.int .i64 k))))]) (fun k=> [(7, .arr .u8 (stream s k))]) (fun k=>n.toNat-k) 0 (fun k=>rfl) (Nat.zero_le _) rfl ?_
 intro k hk
 have hle:=eI s k
 refine W.seq ?_
 refine W.s0 X [0,1,5,6,14] rfl ⟨⟩ ?_
 refine W.cond rfl (fun hb0=> ?_) (fun hb0=> ?_)
 ·try simp only[nb,an,aq,aa]at hb0
  have hs:=BD s k (by omega)
  refine W.skip ?_
  refine W.seq ?_
  refine W.block ?_
  refine W.cD X [(25,7)] [(21,⟨false,[.a (.lit (.int .i64 _))]⟩)] [0,1,5,6] [] rfl (by(repeat' with_reducible first|exact aj.nil|refine aj.mk ?_ ?_|apply And.intro)<;>first|exact(lu _ _)| (intros;omega)|exact rfl|exact⟨rfl,bA _ (by decide)⟩|exact(pR _).1|exact(pR _).2| (simp only[cT,maxLen,lens];omega)) ?_
  refine W.r0 X [0,1,5,6] rfl ⟨⟩ ?_
  refine⟨k+1,by omega,by omega,?_⟩
  rw[aR _ k rfl (by omega),hs]
  try rfl
 ·try simp only[nb,an,aq,aa]at hb0
  refine W.exit ?_
  refine W.s0 X [4] rfl ⟨⟩ ?_
  refine W.ret ?_
  exact Fin.ret rfl ⟨by rw[show k=n.toNat by omega],⟨⟩⟩
end
section
set_option maxRecDepth 100000
theorem jB(a b:List UInt8)(ha:a.length≤1048576)(hb:b.length≤1048576):Sound ty Tryz.prog 296 [.a (.sl .u8 a), .a (.sl .u8 b)] [.a (.sl .u8 (cJ a b))]:=by
 refine Sound.o X Tryz.call296 Tryz.func296 Tryz.ntmps296 rfl rfl ?_
 intro zb
 refine W.s0 X [0,1] rfl ⟨⟩ ?_
 refine W.s0 X [0,1,5] rfl (by and_intros<;>first|exact⟨⟩|exact rfl) ?_
 refine W.seq ?_
 refine W.s0 X [0,1,5,6] rfl ⟨⟩ ?_
 refine W.block ?_
 refine W.aE (fun k=>k≤max a.length b.length) (fun k:Nat=> [(6, .one (.a (.lit (.int .i64 k))))]) (fun k=> [(8, .arr .u8 ((cJ a b).take k))]) (fun k=>max a.length b.length-k) 0 (fun k=>rfl) (Nat.zero_le _) rfl ?_
 intro k hk
 have hle:=aY (cJ a b) k
 refine W.seq ?_
 refine W.s0 X [0,1,5,6,18] rfl ⟨⟩ ?_
 refine W.cond rfl (fun hb0=> ?_) (fun hb0=> ?_)
 ·try simp only[nb,an,aq,aa]at hb0
  refine W.skip ?_
  refine W.seq ?_
  refine W.block ?_
  refine W.s0 X [0,1,5,6,7] rfl ⟨⟩ ?_
  refine W.seq ?_
  refine W.s0 X [0,1,5,6,7,24] rfl ⟨⟩ ?_
  refine W.cond rfl (fun aB=> ?_) (fun aB=> ?_)
  ·try simp only[nb,an,aq,aa]at aB
   refine W.r0 X [0,1,5,6,7] rfl (by and_intros<;>first|exact⟨⟩| (intros;omega)) ?_
   refine W.seq ?_
   refine W.s0 X [0,1,5,6,7,32] rfl ⟨⟩ ?_
   refine W.cond rfl (fun aM=> ?_) (fun aM=> ?_)
   ·try simp only[nb,an,aq,aa]at aM
    have hs:=Zu a b k aB aM
    refine W.r0 X [0,1,5,6,7] rfl (by and_intros<;>first|exact⟨⟩| (intros;omega)) ?_
    refine W.cD X [(42,8)] [] [0,1,5,6] [] rfl (by and_intros<;>first|exact⟨⟩|exact rfl|exact(pR _).1|exact(pR _).2| (simp only[cT,maxLen,lens];omega)) ?_
    refine W.r0 X [0,1,5,6] rfl ⟨⟩ ?_
    refine⟨k+1,by omega,by omega,?_⟩
    rw[aR _ k rfl (by omega),hs]
    try rfl
   ·try simp only[nb,an,aq,aa]at aM
    have hs:=abM a b k aB aM
    refine W.skip ?_
    refine W.cD X [(42,8)] [] [0,1,5,6] [] rfl (by and_intros<;>first|exact⟨⟩| (intros;omega)|exact rfl|exact(u8n _).2| (simp only[cT,maxLen,lens];omega)) ?_
    refine W.r0 X [0,1,5,6] rfl ⟨⟩ ?_
    refine⟨k+1,by omega,by omega,?_⟩
    rw[aR _ k rfl (by omega),hs]
    try rfl
  ·try simp only[nb,an,aq,aa]at aB
   refine W.skip ?_
   refine W.seq ?_
   refine W.s0 X [0,1,5,6,7,32] rfl ⟨⟩ ?_
   refine W.cond rfl (fun aM=> ?_) (fun aM=> ?_)
   ·try simp only[nb,an,aq,aa]at aM
    have hs:=abN a b k aB aM
    refine W.r0 X [0,1,5,6,7] rfl (by and_intros<;>first|exact⟨⟩| (intros;omega)) ?_
    refine W.cD X [(42,8)] [] [0,1,5,6] [] rfl (by and_intros<;>first|exact⟨⟩|exact rfl|exact(pR _).1|exact(pR _).2| (simp only[cT,maxLen,lens];omega)) ?_
    refine W.r0 X [0,1,5,6] rfl ⟨⟩ ?_
    refine⟨k+1,by omega,by omega,?_⟩
    rw[aR _ k rfl (by omega),hs]
    try rfl
   ·try simp only[nb,an,aq,aa]at aM
    omega
 ·try simp only[nb,an,aq,aa]at hb0
  refine W.exit ?_
  refine W.s0 X [4] rfl ⟨⟩ ?_
  refine W.ret ?_
  exact Fin.ret rfl ⟨by rw[List.take_of_length_le (by rw[cP];omega)],⟨⟩⟩
theorem pS(l:List (List UInt8))(hs0:bX List.length l≤1048576):Sound ty Tryz.prog 237 [.a (.sl (.sl .u8) l)] [.a (.sl (.sl .u8) l)]:=by
 refine Sound.o X Tryz.call237 Tryz.func237 Tryz.ntmps237 rfl rfl ?_
 intro zb
 have kZ:l.length≤1048576:=cI hs0
 refine W.s0 X [0] rfl ⟨⟩ ?_
 refine W.s0 X [0,3] rfl (by and_intros<;>first|exact⟨⟩|exact rfl) ?_
 refine W.seq ?_
 refine W.s0 X [0,3,4] rfl ⟨⟩ ?_
 refine W.block ?_
 refine W.aE (fun k=>k≤l.length) (fun k:Nat=> [(4, .one (.a (.lit (.int .i64 k))))]) (fun k=> [(5, .arr (.sl .u8) (l.take k))]) (fun k=>l.length-k) 0 (fun k=>rfl) (Nat.zero_le _) rfl ?_
 intro k hk
 have hle:=aY l k
 refine W.seq ?_
 refine W.s0 X [0,3,4,9] rfl ⟨⟩ ?_
 refine W.cond rfl (fun hb0=> ?_) (fun hb0=> ?_)
 ·try simp only[nb,an,aq,aa]at hb0
  have hs:=aV l k (au (.sl .u8)) hb0
  have hel:=SN hs0 k hb0
  refine W.skip ?_
  refine W.seq ?_
  refine W.block ?_
  refine W.cD X [(18,13),(20,5)] [] [0,3,4] [] rfl (by and_intros<;>first|exact⟨⟩| (intros;omega)|exact rfl| (simp only[cT,maxLen,lens];omega)) ?_
  refine W.r0 X [0,3,4] rfl ⟨⟩ ?_
  refine⟨k+1,by omega,by omega,?_⟩
  rw[aR _ k rfl (by omega),hs]
  try rfl
 ·try simp only[nb,an,aq,aa]at hb0
  refine W.exit ?_
  refine W.s0 X [2] rfl ⟨⟩ ?_
  refine W.ret ?_
  exact Fin.ret rfl ⟨by rw[List.take_of_length_le hb0],⟨⟩⟩
theorem fH(key r d n:Int):Sound ty Tryz.prog 145 [.a (.lit (.int .i64 key)), .a (.lit (.int .i64 r)), .a (.lit (.int .i64 d)), .a (.lit (.int .i64 n))] [.a (.lit (.int .i64 (dN key r d n)))]:=by
 refine Sound.o X Tryz.call145 Tryz.func145 Tryz.ntmps145 rfl rfl ?_
 intro zb
 refine W.s0 X [0,1,2,3] rfl ⟨⟩ ?_
 refine W.seq ?_
 refine W.sr X [] [(10,⟨false,[.a (.lit (.bool _))]⟩),(14,⟨false,[.a (.lit (.bool _))]⟩)] [0,1,2,3,16] [] rfl (by(repeat' with_reducible first|exact aj.nil|refine aj.mk ?_ ?_|apply And.intro)<;>first|exact(aC _ _ _)|exact fun _=>(aC _ _ _)) ?_
 refine W.cond rfl (fun hb0=> ?_) (fun hb0=> ?_)
 ·try simp only[nb,an,aq,aa]at hb0
  refine W.s0 X [8] rfl ⟨⟩ ?_
  refine W.ret ?_
  exact Fin.ret rfl ⟨by rw[dN,if_neg (by omega)],⟨⟩⟩
 ·try simp only[nb,an,aq,aa]at hb0
  have hcs:=uf (kh key [79,r,d]) 0
  refine W.skip ?_
  refine W.sr X [] [(21,⟨false,[.a (.lit (.int .i64 _))]⟩),(22,⟨false,[.a (.lit (.int .i64 _))]⟩)] [8] [] rfl (by(repeat' with_reducible first|exact aj.nil|refine aj.mk ?_ ?_|apply And.intro);(iterate 2 all_goals try first|exact(bC _ _ (by first|assumption|omega| (simp;done)| (simp;omega)))|exact(lq _ _));all_goals first| (intros;omega)|exact⟨rfl,bA _ (by decide)⟩) ?_
  refine W.ret ?_
  exact Fin.ret rfl ⟨by rw[dN,if_pos (by omega),dj hcs.1],⟨⟩⟩
theorem Eh(s:Int)(l:List UInt8)(hl:l.length≤1048576):Sound ty Tryz.prog 351 [.a (.lit (.int .i64 s)), .a (.sl .u8 l)] [.a (.sl .u8 (lz s l))]:=by
 refine Sound.o X Tryz.call351 Tryz.func351 Tryz.ntmps351 rfl rfl ?_
 intro zb
 refine W.s0 X [0,1] rfl ⟨⟩ ?_
 refine W.s0 X [0,1,5] rfl (by and_intros<;>first|exact⟨⟩|exact rfl) ?_
 refine W.seq ?_
 refine W.s0 X [0,1,5,6] rfl ⟨⟩ ?_
 refine W.block ?_
 refine W.aE (fun k=>k≤l.length) (fun k:Nat=> [(6, .one (.a (.lit (.int .i64 k))))]) (fun k=> [(7, .arr .u8 ((lz s l).take k))]) (fun k=>l.length-k) 0 (fun k=>rfl) (Nat.zero_le _) rfl ?_
 intro k hk
 have hle:=aY (lz s l) k
 refine W.seq ?_
 refine W.s0 X [0,1,5,6,11] rfl ⟨⟩ ?_
 refine W.cond rfl (fun hb0=> ?_) (fun hb0=> ?_)
 ·try simp only[nb,an,aq,aa]at hb0
  have hs:=PN s l k hb0
  refine W.skip ?_
  refine W.seq ?_
  refine W.block ?_
  refine W.draw X [(29,7)] [(23,⟨false,[.a (.lit (.int .i64 _))]⟩)] [0,1,5,6] [] 15 MO (by kernel_rfl) rfl (by(repeat' with_reducible first|exact aj.nil|refine aj.mk ?_ ?_|apply And.intro)<;>first|exact(aW _ _ (by first|assumption|omega| (simp;done)| (simp;omega)))| (intros;omega)|exact rfl|exact⟨rfl,bA _ (by decide)⟩|exact(pR _).1|exact(pR _).2| (simp only[cT,maxLen,lens];omega)) ?_
  refine W.r0 X [0,1,5,6] rfl ⟨⟩ ?_
  refine⟨k+1,by omega,by omega,?_⟩
  rw[aR _ k rfl (by omega),hs]
  try rfl
 ·try simp only[nb,an,aq,aa]at hb0
  refine W.exit ?_
  refine W.s0 X [4] rfl ⟨⟩ ?_
  refine W.ret ?_
  exact Fin.ret rfl ⟨by rw[List.take_of_length_le (by rw[jq];exact hb0)],⟨⟩⟩
theorem vV(p:Plain):Sound ty Tryz.prog 350 [.agg (eW p)] [.a (.lit (.bool (jA p)))]:=by
 refine Sound.o X Tryz.call350 Tryz.func350 Tryz.ntmps350 rfl rfl ?_
 intro zb
 refine W.s0 X [1] rfl ⟨⟩ ?_
 refine W.sr X [] [(5,⟨false,[.a (.lit (.bool _))]⟩)] [2] [] rfl (by(repeat' with_reducible first|exact aj.nil|refine aj.mk ?_ ?_|apply And.intro)<;>first|exact(aK _ _ _)) ?_
 refine W.ret ?_
 exact Fin.ret rfl ⟨by unfold jA;cases inr p.kind 0 3<;>rfl,⟨⟩⟩
theorem qp(key c:Int)(l:List UInt8)(hl:l.length≤65536):Sound ty Tryz.prog 353 [.a (.lit (.int .i64 key)), .a (.lit (.int .i64 c)), .a (.sl .u8 l)] [.a (.lit (.int .i64 (jd key c l)))]:=by
 refine Sound.o X Tryz.call353 Tryz.func353 Tryz.ntmps353 rfl rfl ?_
 intro zb
 refine W.s0 X [0,1,2] rfl ⟨⟩ ?_
 refine W.s0 X [0,2,7] rfl (by and_intros<;>first|exact⟨⟩|exact rfl) ?_
 refine W.seq ?_
 refine W.s0 X [0,2,7,8] rfl ⟨⟩ ?_
 refine W.block ?_
 refine W.aE (fun k=>k≤l.length) (fun k:Nat=> [(8, .one (.a (.lit (.int .i64 k))))]) (fun k=> [(10, .arr .int ([71,c]++(l.take k).map (fun x=>(x.toNat:Int))))]) (fun k=>l.length-k) 0 (fun k=>rfl) (Nat.zero_le _) rfl ?_
 intro k hk
 refine W.seq ?_
 refine W.s0 X [0,2,7,8,14] rfl ⟨⟩ ?_
 refine W.cond rfl (fun hb0=> ?_) (fun hb0=> ?_)
 ·try simp only[nb,an,aq,aa]at hb0
  have hs:=NY l c k hb0
  refine W.skip ?_
  refine W.seq ?_
  refine W.block ?_
  refine W.cD X [(24,10)] [] [0,2,7,8] [] rfl (by and_intros<;>first|exact⟨⟩| (intros;omega)|exact rfl| (simp only[cT,maxLen,lens];omega)) ?_
  refine W.r0 X [0,2,7,8] rfl ⟨⟩ ?_
  refine⟨k+1,by omega,by omega,?_⟩
  rw[aR _ k rfl (by omega),hs]
  try rfl
 ·try simp only[nb,an,aq,aa]at hb0
  refine W.exit ?_
  refine W.sr X [] [(27,⟨false,[.a (.lit (.int .i64 _))]⟩)] [6] [] rfl (by(repeat' with_reducible first|exact aj.nil|refine aj.mk ?_ ?_|apply And.intro)<;>first|exact(aW _ _ (by first|assumption|omega| (simp;done)| (simp;omega)))) ?_
  refine W.ret ?_
  exact Fin.ret rfl ⟨by rw[List.take_of_length_le hb0];rfl,⟨⟩⟩
theorem ku(key r d n:Int):Sound ty Tryz.prog 149 [.a (.lit (.int .i64 key)), .a (.lit (.int .i64 r)), .a (.lit (.int .i64 d)), .a (.lit (.int .i64 n))] [.a (.lit (.int .i64 (dN key r d n)))]:=by
 refine Sound.o X Tryz.call149 Tryz.func149 Tryz.ntmps149 rfl rfl ?_
 intro zb
 refine W.s0 X [0,1,2,3] rfl ⟨⟩ ?_
 refine W.seq ?_
 refine W.sr X [] [(10,⟨false,[.a (.lit (.bool _))]⟩),(14,⟨false,[.a (.lit (.bool _))]⟩)] [0,1,2,3,16] [] rfl (by(repeat' with_reducible first|exact aj.nil|refine aj.mk ?_ ?_|apply And.intro)<;>first|exact(aK _ _ _)|exact fun _=>(aK _ _ _)) ?_
 refine W.cond rfl (fun hb0=> ?_) (fun hb0=> ?_)
 ·try simp only[nb,an,aq,aa]at hb0
  refine W.s0 X [8] rfl ⟨⟩ ?_
  refine W.ret ?_
  exact Fin.ret rfl ⟨by rw[dN,if_neg (by omega)],⟨⟩⟩
 ·try simp only[nb,an,aq,aa]at hb0
  have hcs:=uf (kh key [79,r,d]) 0
  refine W.skip ?_
  refine W.sr X [] [(21,⟨false,[.a (.lit (.int .i64 _))]⟩),(22,⟨false,[.a (.lit (.int .i64 _))]⟩)] [8] [] rfl (by(repeat' with_reducible first|exact aj.nil|refine aj.mk ?_ ?_|apply And.intro);(iterate 2 all_goals try first|exact(aW _ _ (by first|assumption|omega| (simp;done)| (simp;omega)))|exact(lu _ _));all_goals first| (intros;omega)|exact⟨rfl,bA _ (by decide)⟩) ?_
  refine W.ret ?_
  exact Fin.ret rfl ⟨by rw[dN,if_pos (by omega),dj hcs.1],⟨⟩⟩
theorem Ca(s r n:Int):Sound ty Tryz.prog 318 [.a (.lit (.int .i64 s)), .a (.lit (.int .i64 r)), .a (.lit (.int .i64 n))] [.a (.lit (.int .i64 (B9 s r n)))]:=by
 refine Sound.o X Tryz.call318 Tryz.func318 Tryz.ntmps318 rfl rfl ?_
 intro zb
 refine W.s0 X [0,1,2] rfl ⟨⟩ ?_
 refine W.seq ?_
 refine W.sr X [] [(8,⟨false,[.a (.lit (.bool _))]⟩)] [0,1,2,9] [] rfl (by(repeat' with_reducible first|exact aj.nil|refine aj.mk ?_ ?_|apply And.intro)<;>first|exact(aK _ _ _)) ?_
 refine W.cond rfl (fun hb0=> ?_) (fun hb0=> ?_)
 ·try simp only[nb,an,aq,aa]at hb0
  refine W.s0 X [6] rfl ⟨⟩ ?_
  refine W.ret ?_
  exact Fin.ret rfl ⟨by rw[B9,if_neg (by omega)],⟨⟩⟩
 ·try simp only[nb,an,aq,aa]at hb0
  have hcs:=uf (kh s [157,r]) 0
  refine W.skip ?_
  refine W.sr X [] [(13,⟨false,[.a (.lit (.int .i64 _))]⟩),(14,⟨false,[.a (.lit (.int .i64 _))]⟩)] [6] [] rfl (by(repeat' with_reducible first|exact aj.nil|refine aj.mk ?_ ?_|apply And.intro);(iterate 2 all_goals try first|exact(aW _ _ (by first|assumption|omega| (simp;done)| (simp;omega)))|exact(lu _ _));all_goals first| (intros;omega)|exact⟨rfl,bA _ (by decide)⟩) ?_
  refine W.ret ?_
  exact Fin.ret rfl ⟨by rw[B9,if_pos (by omega),dj hcs.1],⟨⟩⟩
theorem qt(s:Int):Sound ty Tryz.prog 68 [.a (.lit (.int .i64 s))] [.a (.sl .u8 (cover s))]:=by
 refine Sound.o X Tryz.call68 Tryz.func68 Tryz.ntmps68 rfl rfl ?_
 intro zb
 refine W.s0 X [0] rfl ⟨⟩ ?_
 refine W.sr X [] [(5,⟨false,[.a (.lit (.int .i64 _))]⟩),(6,⟨true,[.a (.sl .u8 _)]⟩)] [2] [] rfl (by(repeat' with_reducible first|exact aj.nil|refine aj.mk ?_ ?_|apply And.intro);(iterate 2 all_goals try first|exact(aW _ _ (by first|assumption|omega| (simp;done)| (simp;omega)))|exact(jL _ _ (by first|assumption|omega| (simp;done)| (simp;omega)) (by first|assumption|omega| (simp;done)| (simp;omega))));all_goals first|exact⟨rfl,bA _ (by decide)⟩) ?_
 refine W.ret ?_
 exact Fin.ret rfl ⟨rfl,⟨⟩⟩
theorem qu(k c:Int):Sound ty Tryz.prog 352 [.a (.lit (.int .i64 k)), .a (.lit (.int .i64 c))] [.a (.lit (.int .i64 (lB k c)))]:=by
 refine Sound.o X Tryz.call352 Tryz.func352 Tryz.ntmps352 rfl rfl ?_
 intro zb
 refine W.s0 X [0,1] rfl ⟨⟩ ?_
 refine W.sr X [] [(8,⟨false,[.a (.lit (.int .i64 _))]⟩),(9,⟨false,[.a (.lit (.int .i64 _))]⟩)] [4] [] rfl (by(repeat' with_reducible first|exact aj.nil|refine aj.mk ?_ ?_|apply And.intro);(iterate 2 all_goals try first|exact(aW _ _ (by first|assumption|omega| (simp;done)| (simp;omega)))|exact(nS _ _));all_goals first|exact⟨rfl,bA _ (by decide)⟩) ?_
 refine W.ret ?_
 exact Fin.ret rfl ⟨by rw[CL (dy _ _).1];rfl,⟨⟩⟩
theorem je(k c:Int):Sound ty Tryz.prog 276 [.a (.lit (.int .i64 k)), .a (.lit (.int .i64 c))] [.a (.lit (.int .i64 (jN k c)))]:=by
 refine Sound.o X Tryz.call276 Tryz.func276 Tryz.ntmps276 rfl rfl ?_
 intro zb
 refine W.s0 X [0,1] rfl ⟨⟩ ?_
 refine W.sr X [] [(8,⟨false,[.a (.lit (.int .i64 _))]⟩),(9,⟨false,[.a (.lit (.int .i64 _))]⟩)] [4] [] rfl (by(repeat' with_reducible first|exact aj.nil|refine aj.mk ?_ ?_|apply And.intro);(iterate 2 all_goals try first|exact(aW _ _ (by first|assumption|omega| (simp;done)| (simp;omega)))|exact(nS _ _));all_goals first|exact⟨rfl,bA _ (by decide)⟩) ?_
 refine W.ret ?_
 exact Fin.ret rfl ⟨by rw[CL (dy _ _).1];rfl,⟨⟩⟩
end
section
set_option maxRecDepth 100000
theorem Cd(key c:Int)(p:Plain):Sound ty Tryz.prog 275 [.a (.lit (.int .i64 key)), .a (.lit (.int .i64 c)), .agg (eW p)] [.a (.sl .u8 (qo key c p)), .a (.lit (.bool (iw key c p)))]:=by
 refine Sound.o X Tryz.call275 Tryz.func275 Tryz.ntmps275 rfl rfl ?_
 intro zb
 refine W.s0 X [0,1,5] rfl ⟨⟩ ?_
 refine W.seq ?_
 refine W.sr X [] [(12,⟨false,[.a (.lit (.bool (fA key)))]⟩),(16,⟨false,[.a (.lit (.bool (inr c 0 1000000000000)))]⟩),(21,⟨false,[.a (.lit (.bool (jA p)))]⟩)] [0,1,5,23] [] rfl (by(repeat' with_reducible first|exact aj.nil|refine aj.mk ?_ ?_|apply And.intro);(iterate 3 all_goals try first|exact(gY key)|exact fun _=>(aK c 0 1000000000000)|exact fun _=>(vV p))) ?_
 refine W.cond rfl (fun hb0=> ?_) (fun hb0=> ?_)
 ·have hk:iw key c p=false:=bK hb0 (by simp only[iw,aH]<;>first|rfl|ac_rfl)
  refine W.s0 X [6,7] rfl (by and_intros<;>first|exact⟨⟩|exact rfl) ?_
  refine W.ret ?_
  exact Fin.ret rfl ⟨by rw[qo,if_neg (by rw[hk];decide)],by rw[hk],⟨⟩⟩
 ·have hk:iw key c p=true:=bG hb0 (by simp only[iw,aH]<;>first|rfl|ac_rfl)
  have hp:=oT hk
  have hst:(stream (kh key [61,c]) (18:Int).toNat).length=18:=eI _ _
  have oD:(fD key c p).length≤100:=by unfold fD;simp only[List.length_append,List.length_drop,List.length_cons,List.length_nil,eI];omega
  have hf4:(four (jd key c (lz (lB key c) (fD key c p)))).length=4:=rfl
  have hel:(lz (lB key c) (fD key c p)).length≤100:=by rw[jq];exact oD
  refine W.skip ?_
  refine W.sr X [(35,32)] [] [0,1,5,8] [] rfl (by and_intros<;>first|exact⟨⟩|exact rfl|exact(pR _).1|exact(pR _).2| (simp only[cT,maxLen,lens];omega)) ?_
  refine W.sd X [(46,32)] [(40,⟨false,[.a (.lit (.int .i64 (kh key [61,c])))]⟩),(41,⟨true,[.a (.sl .u8 (stream (kh key [61,c]) (18:Int).toNat))]⟩)] [0,1,8] [] 10 MO (by kernel_rfl) rfl (by(repeat' with_reducible first|exact aj.nil|refine aj.mk ?_ ?_|apply And.intro);(iterate 2 all_goals try first|exact(aW key [61,c] (by first|assumption|omega| (simp;done)| (simp;omega)))|exact(jL (kh key [61,c]) 18 (by first|assumption|omega| (simp;done)| (simp;omega)) (by first|assumption|omega| (simp;done)| (simp;omega))));all_goals first| (intros;omega)|exact rfl|exact⟨rfl,bA _ (by decide)⟩| (simp only[cT,maxLen,lens];omega)) ?_
  refine W.sr X [] [(49,⟨false,[.a (.lit (.int .i64 (lB key c)))]⟩),(51,⟨true,[.a (.sl .u8 (lz (lB key c) (fD key c p)))]⟩)] [0,1,9] [] rfl (by(repeat' with_reducible first|exact aj.nil|refine aj.mk ?_ ?_|apply And.intro);(iterate 2 all_goals try first|exact(qu key c)|exact(Eh (lB key c) (fD key c p) (by first|assumption|omega| (simp;done)| (simp;omega))))) ?_
  refine W.sr X [] [(55,⟨false,[.a (.lit (.int .i64 (jd key c (lz (lB key c) (fD key c p)))))]⟩)] [9,10] [] rfl (by(repeat' with_reducible first|exact aj.nil|refine aj.mk ?_ ?_|apply And.intro)<;>first|exact(qp key c (lz (lB key c) (fD key c p)) (by first|assumption|omega| (simp;done)| (simp;omega)))) ?_
  refine W.sr X [(69,51)] [] [6,7] [] rfl (by and_intros<;>first|exact⟨⟩| (intros;omega)|exact rfl|exact(pR _).1|exact(pR _).2| (simp only[cT,maxLen,lens];omega)) ?_
  refine W.ret ?_
  exact Fin.ret rfl ⟨(congrArg (fun z=>lz (lB key c) (fD key c p)++z) (NZ _)).trans (by rw[qo,if_pos hk]),by rw[hk],⟨⟩⟩
theorem eL(c:ep):Sound ty Tryz.prog 150 [.agg (bn c)] [.a (.lit (.int .i64 (bS c)))]:=by
 refine Sound.o X Tryz.call150 Tryz.func150 Tryz.ntmps150 rfl rfl ?_
 intro zb
 refine W.s0 X [1] rfl ⟨⟩ ?_
 refine W.seq ?_
 refine W.s0 X [7] rfl ⟨⟩ ?_
 refine W.cond rfl (fun hb0=> ?_) (fun hb0=> ?_)
 ·try simp only[nb,an,aq,aa]at hb0
  refine W.s0 X [2] rfl ⟨⟩ ?_
  refine W.ret ?_
  exact Fin.ret rfl ⟨by rw[bS,if_pos hb0],⟨⟩⟩
 ·try simp only[nb,an,aq,aa]at hb0
  refine W.skip ?_
  refine W.s0 X [2] rfl ⟨⟩ ?_
  refine W.ret ?_
  exact Fin.ret rfl ⟨by rw[bS,if_neg (by omega)],⟨⟩⟩
theorem uo(c:ep)(h0:0≤c.sent)(h1:c.sent<c.av.length):Sound ty Tryz.prog 153 [.agg (bn c)] [.a (.sl .u8 (qz c c.sent))]:=by
 refine Sound.o X Tryz.call153 Tryz.func153 Tryz.ntmps153 rfl rfl ?_
 intro zb
 refine W.s0 X [1] rfl ⟨⟩ ?_
 refine W.sd X [] [(9,⟨false,[.a (.lit (.int .i64 (bS c)))]⟩),(10,⟨false,[.a (.lit (.int .i64 (jN c.key (bS c))))]⟩),(20,⟨true,[.a (.sl .u8 (qo (jN c.key (bS c)) c.sent (⟨1,(c.av.getD (c.sent).toNat (au (.sl .u8)))⟩:Plain))), .a (.lit (.bool (iw (jN c.key (bS c)) c.sent (⟨1,(c.av.getD (c.sent).toNat (au (.sl .u8)))⟩:Plain))))]⟩)] [3] [] 20 MO (by kernel_rfl) rfl (by(repeat' with_reducible first|exact aj.nil|refine aj.mk ?_ ?_|apply And.intro);(iterate 3 all_goals try first|exact(eL c)|exact(je c.key (bS c))|exact(Cd (jN c.key (bS c)) c.sent (⟨1,(c.av.getD (c.sent).toNat (au (.sl .u8)))⟩:Plain)));all_goals first| (intros;omega)) ?_
 refine W.s0 X [2] rfl ⟨⟩ ?_
 refine W.ret ?_
 exact Fin.ret rfl ⟨rfl,⟨⟩⟩
theorem xe(c:ep)(r n:Int):Sound ty Tryz.prog 217 [.agg (bn c), .a (.lit (.int .i64 r)), .a (.lit (.int .i64 n))] [.a (.lit (.int .i64 (kE c r n))), .a (.sl .u8 (fE c r n)), .a (.lit (.bool (nu c r n)))]:=by
 refine Sound.o X Tryz.call217 Tryz.func217 Tryz.ntmps217 rfl rfl ?_
 intro zb
 refine W.b7 0 4 rfl rfl (fun kZ=> ?_)
 refine W.s0 X [1,2,3] rfl ⟨⟩ ?_
 refine W.seq ?_
 refine W.sr X [] [(10,⟨false,[.a (.lit (.bool (dh c)))]⟩),(14,⟨false,[.a (.lit (.bool (inr r 0 100000)))]⟩),(19,⟨false,[.a (.lit (.bool (inr n 1 64)))]⟩)] [1,2,3,21] [] rfl (by(repeat' with_reducible first|exact aj.nil|refine aj.mk ?_ ?_|apply And.intro);(iterate 3 all_goals try first|exact(dz c)|exact fun _=>(aK r 0 100000)|exact fun _=>(aK n 1 64))) ?_
 refine W.cond rfl (fun hb0=> ?_) (fun hb0=> ?_)
 ·have hk:nu c r n=false:=bK hb0 (by simp only[nu,aH]<;>first|rfl|ac_rfl)
  refine W.s0 X [6,7,8] rfl (by and_intros<;>first|exact⟨⟩|exact rfl) ?_
  refine W.ret ?_
  exact Fin.ret rfl ⟨by rw[kE,if_neg (by rw[hk];decide)],by rw[fE,if_neg (by rw[hk];decide)],by rw[hk],⟨⟩⟩
 ·have hk:nu c r n=true:=bG hb0 (by simp only[nu,aH]<;>first|rfl|ac_rfl)
  have hs:=AL hk
  refine W.skip ?_
  refine W.seq ?_
  refine W.s0 X [1,2,3,28] rfl ⟨⟩ ?_
  refine W.cond rfl (fun aB=> ?_) (fun aB=> ?_)
  ·try simp only[nb,an,aq,aa]at aB
   refine W.sd X [] [(33,⟨false,[.a (.lit (.int .i64 (bS c)))]⟩),(35,⟨false,[.a (.lit (.int .i64 (dN c.key r (bS c) n)))]⟩),(37,⟨true,[.a (.sl .u8 (qz c c.sent))]⟩)] [6,7,8] [] 12 MO (by kernel_rfl) rfl (by(repeat' with_reducible first|exact aj.nil|refine aj.mk ?_ ?_|apply And.intro);(iterate 3 all_goals try first|exact(eL c)|exact(ku c.key r (bS c) n)|exact(uo c (by first|assumption|omega| (simp;done)| (simp;omega)) (by first|assumption|omega| (simp;done)| (simp;omega))))) ?_
   refine W.ret ?_
   exact Fin.ret rfl ⟨by rw[kE,if_pos hk,if_pos aB],by rw[fE,if_pos hk,if_pos aB],by rw[hk],⟨⟩⟩
  ·try simp only[nb,an,aq,aa]at aB
   refine W.skip ?_
   refine W.sd X [] [(42,⟨false,[.a (.lit (.int .i64 (B9 c.seed r n)))]⟩),(47,⟨false,[.a (.lit (.int .i64 (kh c.seed [r])))]⟩),(48,⟨true,[.a (.sl .u8 (cover (kh c.seed [r])))]⟩)] [6,7,8] [] 14 MO (by kernel_rfl) rfl (by(repeat' with_reducible first|exact aj.nil|refine aj.mk ?_ ?_|apply And.intro);(iterate 3 all_goals try first|exact(Ca c.seed r n)|exact(aW c.seed [r] (by first|assumption|omega| (simp;done)| (simp;omega)))|exact(qt (kh c.seed [r])));all_goals first|exact⟨rfl,bA _ (by decide)⟩) ?_
   refine W.ret ?_
   exact Fin.ret rfl ⟨by rw[kE,if_pos hk,if_neg (by omega)],by rw[fE,if_pos hk,if_neg (by omega)],by rw[hk],⟨⟩⟩
end
end Go.Proofs.YteodajeiagmekaaGreat.G
