/-
  Transfers are equal to themselves.
-/
import Derived.Test.YtcnomgcfijjkmaaGreatM11
import Derived.Test.YtcnomgcfijjkmaaGreatM12
namespace Go.Proofs.YtcnomgcfijjkmaaGreat.G
set_option linter.all false
open Go.RowKit L D Tryz
section
set_option maxRecDepth 100000
theorem ED(x:bp)(c:Int)(hd:x.ak.length≤1048576):So 72 [.agg (aT x),az c] [aH (xB x c)]:=by
 refine ay X call72 func72 ntmps72 rfl rfl ?_
 intro zb
 refine aq X [1,2] rfl (aa ?_)
 have t1:=(ff x (IntKind.i64.wrap (BitVec.ofInt IntKind.i64.bits c^^^BitVec.ofInt IntKind.i64.bits 1).toNat))
 exact aE X [] [(7,⟨false,[aH (ku x c)]⟩),(12,⟨false,bJ t1⟩)] [4] [] rfl (by(with_reducible and_intros);(iterate 2 all_goals try first|exact⟨⟩|exact(ff x c)|exact fun _=>t1)) (aj (af rfl ⟨by rw[SP,PZ hd],⟨⟩⟩))
end
section
set_option maxRecDepth 100000
theorem mE(x:bp)(h0:wB x):So 11 [.agg (aT x)] [.a (.sl .int (oH x))]:=by
 refine ay X call11 func11 ntmps11 rfl rfl ?_
 intro zb
 have o7:=qJ h0
 refine aq X [1] rfl (aa (aD X [] [(6,⟨false,[aH (okW x)]⟩)] [1,7] [] rfl (by(with_reducible and_intros)<;>first|exact⟨⟩|exact(b7 x)) ?_))
 refine ah rfl ?_ ?_<;>intro hb0
 ·have hk:okW x=false:=by simpa using hb0
  exact aq X [2] rfl (aj (af rfl ⟨by rw[oH,if_neg (by rw[hk];decide)],⟨⟩⟩))
 ·have hk:okW x=true:=by simpa using hb0
  have yx:=lf hk
  have hcs:=xR hk
  exact an (aD X [] [(10,⟨true,[.a (.sl .bw (bM x)), .a (.sl .eD (gG x))]⟩)] [1,3,4] [] rfl (by(with_reducible and_intros)<;>first|exact⟨⟩|exact(mD x h0)) (cQ X [] [(17,⟨true,[.a (.sl .DB (cZ (bM x)))]⟩),(19,⟨true,[.a (.sl .int (jf x.aX (bM x) (cZ (bM x)) (gG x) (bM x).length))]⟩)] [2] [] 8 MO (by kernel_rfl) rfl (by(with_reducible and_intros);(iterate 2 all_goals try first|exact⟨⟩|exact(pS (bM x) (by omega))|exact(pR x.aX (bM x) (cZ (bM x)) (gG x) (by omega) hcs (Iw _)))) (aj (af rfl ⟨by rw[oH,if_pos hk],⟨⟩⟩))))
end
section
set_option maxRecDepth 100000
def fm{α:Type}(f:Nat→List α)(k:Nat):List α:=(List.range k).flatMap f
theorem nr{α:Type}(f:Nat→List α)(k:Nat):fm f (k+1)=fm f k++f k:=by
 unfold fm;rw[List.range_succ,List.flatMap_append];simp
theorem Dd{α:Type}(f:Nat→List α):fm f 0= []:=rfl
theorem yt{α:Type}{f:Nat→List α}{C K k:Nat}(h: ∀i,(f i).length≤C)(hk:k≤K):(fm f k).length≤K*C:=by
 have: ∀k,(fm f k).length≤k*C:=by
  intro k
  induction k with
  |zero=>simp[fm]
  |succ k ih=>rw[nr,List.length_append,Nat.add_mul];have:=h k;omega
 exact Nat.le_trans (this k) (Nat.mul_le_mul_right C hk)
def yu(c s r:Int):Bool:=inr c 0 8&&cM s&&inr r 1 64
theorem BI{c s r:Int}(h:yu c s r=true):(0≤c∧c≤8)∧(2≤s∧s≤4)∧1≤r∧r≤64:=by
 simp only[yu,cM,Bool.and_eq_true,cL]at h;omega
def sN(r:Int):Int:=if 1≤r∧r≤64 then r*24 else 0
def sO(r:Int):Int:=if 1≤r∧r≤64 then 1+(r+7)/8 else 0
def QI(r:Int)(a:Nat)(k:Nat):List gB:= [⟨(a:Int),100+(k:Int),sN r⟩]
def wT(c s r:Int):List gB:=if yu c s r then fm (fun a=>fm (QI r a) s.toNat) c.toNat else []
def LB(r:Int)(a:Nat)(b:Nat):List gB:=if a=b then []else [⟨100+(a:Int),100+(b:Int),sN r⟩]
def pT(s r:Int):List gB:=if yu 0 s r then fm (fun a=>fm (LB r a) s.toNat) s.toNat else []
def rEl(r:Int)(a:Nat)(k:Nat):List gB:= [⟨(a:Int),100+(k:Int),sO r⟩,⟨100+(k:Int),(a:Int),24⟩]
def ru(s r:Int)(a:Nat)(_:Nat):List gB:=fm (rEl r a) s.toNat
def Vy(c s r n:Int):Bool:=yu c s r&&inr n 0 8
def rT(c s r n:Int):List gB:=if Vy c s r n then fm (fun a=>fm (ru s r a) (2*n).toNat) c.toNat else []
theorem U9{r s:Int}(hs:s≤4)(a:Nat){k:Nat}(hk:k≤s.toNat):(fm (QI r a) k).length≤4:=yt (C:=1) (K:=4) (fun i=>by simp[QI]) (by omega)
theorem Va{r s:Int}(hs:s≤4){k:Nat}(hk:k≤8):(fm (fun a=>fm (QI r a) s.toNat) k).length≤32:=yt (C:=4) (K:=8) (fun i=>U9 hs i (Nat.le_refl _)) hk
theorem Vb{r s:Int}(hs:s≤4)(a:Nat){k:Nat}(hk:k≤s.toNat):(fm (LB r a) k).length≤4:=yt (C:=1) (K:=4) (fun i=>by unfold LB;split<;>simp) (by omega)
theorem Vc{r s:Int}(hs:s≤4){k:Nat}(hk:k≤s.toNat):(fm (fun a=>fm (LB r a) s.toNat) k).length≤16:=yt (C:=4) (K:=4) (fun i=>Vb hs i (Nat.le_refl _)) (by omega)
theorem Vd{r s:Int}(hs:s≤4)(a:Nat){k:Nat}(hk:k≤s.toNat):(fm (rEl r a) k).length≤8:=yt (C:=2) (K:=4) (fun i=>by simp[rEl]) (by omega)
theorem Ve{r s:Int}(hs:s≤4)(a:Nat){k:Nat}(hk:k≤16):(fm (ru s r a) k).length≤128:=yt (C:=8) (K:=16) (fun i=>Vd hs a (Nat.le_refl _)) hk
theorem Vf{r s n:Int}(hs:s≤4)(hn:n≤8){k:Nat}(hk:k≤8):(fm (fun a=>fm (ru s r a) (2*n).toNat) k).length≤1024:=yt (C:=128) (K:=8) (fun i=>Ve hs i (by omega)) hk
theorem aa4(c s r:Int):(wT c s r).length≤32:=by
 unfold wT;split
 ·rename_i h;have:=BI h;exact Va (by omega) (by omega)
 ·simp
theorem aa5(s r:Int):(pT s r).length≤16:=by
 unfold pT;split
 ·rename_i h;have:=BI h;exact Vc (by omega) (Nat.le_refl _)
 ·simp
theorem aa6(c s r n:Int):(rT c s r n).length≤1024:=by
 unfold rT;split
 ·rename_i h
  simp only[Vy,Bool.and_eq_true,cL]at h
  have:=BI h.1;exact Vf (by omega) (by omega) (by omega)
 ·simp
theorem adG{c s r n:Int}(h:Vy c s r n=true):yu c s r=true:=by simp only[Vy,Bool.and_eq_true]at h;exact h.1
theorem adH{c s r n:Int}(h:Vy c s r n=true):0≤n∧n≤8:=by simp only[Vy,Bool.and_eq_true,cL]at h;exact h.2
def YI(x:bp):List gB:=wT x.ak.length x.av.length x.rows++pT x.av.length x.rows++rT x.ak.length x.av.length x.rows 1
theorem XE{r:Int}(h:1≤r∧r≤64):IntKind.i64.wrap (1+IntKind.i64.wrap ((IntKind.i64.wrap (r+7)).tdiv 8))=sO r:=by
 unfold sO
 rw[if_pos h,bV (a:=r+7) (by omega),uA (by omega),bV (a:=(r+7)/8) (by omega),bV (by omega)]
theorem Vg(w:World)(n:Nat)(h1:n≤1099511627776):Calls Tryz.prog 142 #[DD, .int .i64 n] w (Ret ty w [.a (.sl .gB [])]):=by
 have rA:El Tryz.prog ty .gB:=bn _ (by decide)
 cases hq:Tryz.prog.info? (ty .gB)with
 |none=>simp[El,hq]at rA
 |some inf=>
  simp[El,hq]at rA
  obtain⟨z1,z2,z3⟩:=rA
  by_cases h0:n=0
  ·subst h0
   go_enter func142,ntmps142
   go_wp2
   go_ret
   exact NW
  ·have hsz:inf.size=3:=z2
   have hby:inf.bytes≤24:=by rw[z3];decide
   have hmul:n*inf.bytes≤26388279066624:=Nat.le_trans (Nat.mul_le_mul (show n≤1099511627776 from h1) hby) (by decide)
   have hrun:=Lib.run_append_nil_zeros (P:=Tryz.prog) w 38 3 38 (ty .gB) inf (eZ .gB) .i64 .i64 (X.kind 38).1 (X.kind 3) hq z1 n (by omega) (by omega) (by omega) (by omega)
   have hge:=grownCap_ge w n 0 (ty .gB)
   have LL:=grownCap_le_maxLen w n 0 (ty .gB) (by unfold maxLen;omega)
   generalize grownCap w n 0 (ty .gB)=g at hrun hge LL
   go_enter func142,ntmps142
   go_wp2_with (at_builtin;refine Lib.wpList_append_run _ rfl _ _ _ _ rfl _ _ rfl rfl _ _ hrun ?_)
   go_ret
   refine J3 (t:= .gB) rfl ((Below.refl _ _).drew.alloc (Nat.le_refl _) _) (nu rfl) ?_ LL
   rw[Array.size_append,size_zeroCells,size_zeroCells, ←Nat.add_mul,show n+(g-n)=g by omega]
   all_goals first
    |rfl
    | (rename_i heq;injection heq with heq;subst heq;rfl)
    | (rename_i heq;exact absurd rfl (heq _))
theorem gQ(n:Nat)(h1:n≤1099511627776):So 142 [.a (.lit DD), .a (.lit (.int .i64 n))] [.a (.sl .gB [])]:=by
 refine⟨fun args w=>call142 args w,fun w us _ ha=> ?_⟩
 match us,ha with
 | [u1,u2],⟨⟨_,e1⟩,⟨_,e2⟩,_⟩=>
   obtain⟨e1,_⟩:=e1
   obtain⟨e2,_⟩:=e2
   rw[e1,e2]
   exact Vg w n h1
end
section
set_option maxRecDepth 100000
theorem gx(l:List (List gB))(hl:l.length≤1048576)(hs0:(l.map List.length).sum≤1048576):So 66 [.a (.sl (.sl .gB) l)] [.a (.sl .gB l.flatten)]:=by
 refine ay X call66 func66 ntmps66 rfl rfl ?_
 intro zb
 refine aq X [0] rfl (aq X [0,3] rfl (aa (aq X [0,3,9,10,11] rfl ?_)))
 refine au (aG (fun k=>k≤l.length) (fun k:Nat=> [(3, .one ((az ((l.take k).map List.length).sum))),(11, .one ((az k)))]) (fun k=> []) (fun k=>l.length-k) 0 (fun k=>rfl) (Nat.zero_le _) rfl ?_)
 intro k hk
 have hle:=iy l List.length k
 refine aq X [0,3,9,10,11,12] rfl ?_
 refine aa (ah rfl ?_ ?_)<;>intro hb0
 ·try simp only[aP]at hb0
  have hs:=BU l (aI (.sl .gB)) k hb0
  have J7:=iy l List.length (k+1)
  rw[hs]at J7
  refine an (aa (au (aC X [0,3,5,9,10,11] rfl (by and_intros<;>first|exact⟨⟩| (intros;omega)) (aC X [0,3,9,10,11] rfl (by trivial) (aq X [0,3,9,10,11,20] rfl ?_)))))
  refine ah rfl ?_ ?_<;>intro aW
  ·try simp only[aP]at aW
   rw[bV (by omega)]at aW
   omega
  ·try simp only[aP]at aW
   refine an (bt X [0,3,9,10,11] rfl ?_)
   refine⟨k+1,by omega,by omega,?_⟩
   rw[bH _ k rfl (by omega),hs]
   rw[bV (by simp only[Int.toNat_natCast];omega)]
   try rfl
 ·try simp only[aP]at hb0
  rw[List.take_of_length_le hb0]
  refine aK (aD X [] [(24,⟨true,[.a (.sl .gB [])]⟩),(300024,⟨true,[]⟩)] [0,6] [] rfl (by(with_reducible and_intros)<;>first|exact⟨⟩|exact(gQ _ (by omega))) (aa (aq X [6,25,26,27] rfl ?_)))
  refine au (aG (fun k1=>k1≤l.length) (fun k1:Nat=> [(27, .one ((az k1)))]) (fun k1=> [(24, .arr .gB (l.take k1).flatten)]) (fun k1=>l.length-k1) 0 (fun k1=>rfl) (Nat.zero_le _) rfl ?_)
  intro k1 hk1
  have J8:=pz l k1
  refine aq X [6,25,26,27,28] rfl ?_
  refine aa (ah rfl ?_ ?_)<;>intro bz
  ·try simp only[aP]at bz
   have hs1:=zh l (aI (.sl .gB)) k1 bz
   have J7:=pz l (k1+1)
   rw[hs1,List.length_append]at J7
   refine an (aa (au (aC X [6,8,25,26,27] rfl (by and_intros<;>first|exact⟨⟩| (intros;omega)) (aE X [(33,24)] [] [6,25,26,27] [] rfl (by and_intros<;>first|exact⟨⟩|exact rfl| (simp only[dO,maxLen,lens];omega)) (bt X [6,25,26,27] rfl ?_)))))
   refine⟨k1+1,by omega,by omega,?_⟩
   rw[bH _ k1 rfl (by omega),hs1]
   try rfl
  ·try simp only[aP]at bz
   exact aK (aq X [2] rfl (aj (af rfl ⟨by rw[List.take_of_length_le bz],⟨⟩⟩)))
theorem mU(c s r:Int):So 143 [az c,az s,az r] [aH (yu c s r)]:=by
 refine ay X call143 func143 ntmps143 rfl rfl ?_
 intro zb
 exact aq X [0,1,2] rfl (aD X [] [(8,⟨false,[aH (inr c 0 8)]⟩),(11,⟨false,[aH (cM s)]⟩),(15,⟨false,[aH (inr r 1 64)]⟩)] [6] [] rfl (by(with_reducible and_intros);(iterate 3 all_goals try first|exact⟨⟩|exact(aM c 0 8)|exact fun _=>(dV s)|exact fun _=>(aM r 1 64))) (aj (af rfl ⟨(congrArg Value.bool (by simp only[yu,aU]<;>first|rfl|ac_rfl)),⟨⟩⟩)))
theorem ry(r:Int):So 144 [az r] [az (sN r)]:=by
 refine ay X call144 func144 ntmps144 rfl rfl ?_
 intro zb
 refine aq X [0] rfl (aa (aD X [] [(4,⟨false,[aH (inr r 1 64)]⟩)] [0,5] [] rfl (by(with_reducible and_intros)<;>first|exact⟨⟩|exact(aM r 1 64)) ?_))
 refine ah rfl ?_ ?_<;>intro hb0
 ·try simp only[aP]at hb0
  exact aq X [2] rfl (aj (af rfl ⟨by rw[sN,if_neg (by omega)],⟨⟩⟩))
 ·try simp only[aP]at hb0
  exact an (aq X [2] rfl (aj (af rfl ⟨by rw[sN,if_pos (by omega),bV (by omega)],⟨⟩⟩)))
theorem vu(r:Int):So 145 [az r] [az (sO r)]:=by
 refine ay X call145 func145 ntmps145 rfl rfl ?_
 intro zb
 refine aq X [0] rfl (aa (aD X [] [(4,⟨false,[aH (inr r 1 64)]⟩)] [0,5] [] rfl (by(with_reducible and_intros)<;>first|exact⟨⟩|exact(aM r 1 64)) ?_))
 refine ah rfl ?_ ?_<;>intro hb0
 ·try simp only[aP]at hb0
  exact aq X [2] rfl (aj (af rfl ⟨by rw[sO,if_neg (by omega)],⟨⟩⟩))
 ·try simp only[aP]at hb0
  exact an (aC X [2] rfl (by and_intros<;>first|exact⟨⟩| (intros;omega)) (aj (af rfl ⟨by rw[XE (by omega)],⟨⟩⟩)))
theorem tN(c s r:Int):So 67 [az c,az s,az r] [.a (.sl .gB (wT c s r))]:=by
 refine ay X call67 func67 ntmps67 rfl rfl ?_
 intro zb
 refine aq X [0,1,2] rfl (aa (aD X [] [(13,⟨false,[aH (yu c s r)]⟩)] [0,1,2,14] [] rfl (by(with_reducible and_intros)<;>first|exact⟨⟩|exact(mU c s r)) ?_))
 refine ah rfl ?_ ?_<;>intro hb0
 ·have fP:yu c s r=false:=by simpa using hb0
  exact aq X [6] rfl (aj (af rfl ⟨by rw[wT,fP];rfl,⟨⟩⟩))
 ·have fP:yu c s r=true:=by simpa using hb0
  have hok:=BI fP
  refine an (aC X [0,1,2,7] rfl (by and_intros<;>first|exact⟨⟩|exact rfl) (aa (aq X [1,2,7,16,17] rfl ?_)))
  refine au (aG (fun k=>k≤c.toNat) (fun k:Nat=> [(17, .one ((az k)))]) (fun k=> [(15, .arr .gB (fm (fun a=>fm (QI r a) s.toNat) k))]) (fun k=>c.toNat-k) 0 (fun k=>rfl) (Nat.zero_le _) rfl ?_)
  intro k hk
  have hle:=Va (r:=r) (s:=s) (k:=k) (by omega) (by omega)
  refine aq X [1,2,7,16,17,18] rfl ?_
  refine aa (ah rfl ?_ ?_)<;>intro aW
  ·try simp only[aP]at aW
   refine an (aa (au (aq X [1,2,7,8,16,17] rfl (aq X [1,2,7,8,16,17,20,21] rfl ?_))))
   refine au (aG (fun k1=>k1≤s.toNat) (fun k1:Nat=> [(21, .one ((az k1)))]) (fun k1=> [(15, .arr .gB (fm (fun a=>fm (QI r a) s.toNat) k++fm (QI r k) k1))]) (fun k1=>s.toNat-k1) 0 (fun k1=>rfl) (Nat.zero_le _) (by simp[Dd]) ?_)
   intro k1 hk1
   have J8:=U9 (r:=r) (s:=s) (by omega) k hk1
   refine aq X [1,2,7,8,16,17,20,21,22] rfl ?_
   refine aa (ah rfl ?_ ?_)<;>intro bz
   ·try simp only[aP]at bz
    have hw:IntKind.i64.wrap (100+(k1:Int))=100+(k1:Int):=bV (by omega)
    have hs1:fm (QI r k) (k1+1)=fm (QI r k) k1++ [⟨(k:Int),100+(k1:Int),sN r⟩]:=nr _ _
    refine an (aa (au (aq X [1,2,7,8,9,16,17,20,21] rfl (aE X [(32,15)] [(29,⟨false,[az (sN r)]⟩)] [1,2,7,8,16,17,20,21] [] rfl (by(repeat' with_reducible first|exact aL|refine aS ?_ ?_|apply And.intro)<;>first|exact(ry r)|exact rfl|exact⟨rfl,bn _ (by decide)⟩| (simp only[dO,maxLen,lens];omega)) ?_))))
    refine bt X [1,2,7,8,16,17,20,21] rfl ?_
    refine⟨k1+1,by omega,by omega,?_⟩
    rw[bH _ k1 rfl (by omega),hw,List.append_assoc, ←hs1]
    try rfl
   ·try simp only[aP]at bz
    have hs:fm (fun a=>fm (QI r a) s.toNat) (k+1)=fm (fun a=>fm (QI r a) s.toNat) k++fm (QI r k) s.toNat:=nr _ _
    rw[show k1=s.toNat by omega, ←hs]
    refine aK (bt X [1,2,7,16,17] rfl ?_)
    refine⟨k+1,by omega,by omega,?_⟩
    rw[bH _ k rfl (by omega)]
    try rfl
  ·try simp only[aP]at aW
   exact aK (aq X [6] rfl (aj (af rfl ⟨by rw[wT,if_pos fP,show c.toNat=k by omega],⟨⟩⟩)))
theorem rz(s r:Int):So 68 [az s,az r] [.a (.sl .gB (pT s r))]:=by
 refine ay X call68 func68 ntmps68 rfl rfl ?_
 intro zb
 refine aq X [0,1] rfl (aa (aD X [] [(10,⟨false,[aH (yu 0 s r)]⟩)] [0,1,11] [] rfl (by(with_reducible and_intros)<;>first|exact⟨⟩|exact(mU 0 s r)) ?_))
 refine ah rfl ?_ ?_<;>intro hb0
 ·have fP:yu 0 s r=false:=by simpa using hb0
  exact aq X [4] rfl (aj (af rfl ⟨by rw[pT,fP];rfl,⟨⟩⟩))
 ·have fP:yu 0 s r=true:=by simpa using hb0
  have hok:=BI fP
  refine an (aC X [0,1,5] rfl (by and_intros<;>first|exact⟨⟩|exact rfl) (aa (aq X [0,1,5,13,14] rfl ?_)))
  refine au (aG (fun k=>k≤s.toNat) (fun k:Nat=> [(14, .one ((az k)))]) (fun k=> [(12, .arr .gB (fm (fun a=>fm (LB r a) s.toNat) k))]) (fun k=>s.toNat-k) 0 (fun k=>rfl) (Nat.zero_le _) rfl ?_)
  intro k hk
  have hle:=Vc (r:=r) (s:=s) (k:=k) (by omega) hk
  refine aq X [0,1,5,13,14,15] rfl ?_
  refine aa (ah rfl ?_ ?_)<;>intro aW
  ·try simp only[aP]at aW
   refine an (aa (au (aq X [0,1,5,6,13,14] rfl (aq X [0,1,5,6,13,14,17,18] rfl ?_))))
   refine au (aG (fun k1=>k1≤s.toNat) (fun k1:Nat=> [(18, .one ((az k1)))]) (fun k1=> [(12, .arr .gB (fm (fun a=>fm (LB r a) s.toNat) k++fm (LB r k) k1))]) (fun k1=>s.toNat-k1) 0 (fun k1=>rfl) (Nat.zero_le _) (by simp[Dd]) ?_)
   intro k1 hk1
   have J8:=Vb (r:=r) (s:=s) (by omega) k hk1
   refine aq X [0,1,5,6,13,14,17,18,19] rfl ?_
   refine aa (ah rfl ?_ ?_)<;>intro bz
   ·try simp only[aP]at bz
    refine an (aa (au (aq X [0,1,5,6,7,13,14,17,18] rfl (aq X [0,1,5,6,7,13,14,17,18,23] rfl ?_))))
    refine ah rfl ?_ ?_<;>intro dD
    ·try simp only[aP]at dD
     have hw:IntKind.i64.wrap (100+(k1:Int))=100+(k1:Int):=bV (by omega)
     have hwk:IntKind.i64.wrap (100+(k:Int))=100+(k:Int):=bV (by omega)
     have hs1:fm (LB r k) (k1+1)=fm (LB r k) k1++ [⟨100+(k:Int),100+(k1:Int),sN r⟩]:=by rw[nr,LB,if_neg (by omega)]
     refine aE X [(33,12)] [(30,⟨false,[az (sN r)]⟩)] [0,1,5,6,13,14,17,18] [] rfl (by(repeat' with_reducible first|exact aL|refine aS ?_ ?_|apply And.intro)<;>first|exact(ry r)|exact rfl|exact⟨rfl,bn _ (by decide)⟩| (simp only[dO,maxLen,lens];omega)) ?_
     refine bt X [0,1,5,6,13,14,17,18] rfl ?_
     refine⟨k1+1,by omega,by omega,?_⟩
     rw[bH _ k1 rfl (by omega),hw,hwk,List.append_assoc, ←hs1]
     try rfl
    ·try simp only[aP]at dD
     have hs1:fm (LB r k) (k1+1)=fm (LB r k) k1:=by rw[nr,LB,if_pos (by omega),List.append_nil]
     refine an (bt X [0,1,5,6,13,14,17,18] rfl ?_)
     refine⟨k1+1,by omega,by omega,?_⟩
     rw[bH _ k1 rfl (by omega),hs1]
     try rfl
   ·try simp only[aP]at bz
    have hs:fm (fun a=>fm (LB r a) s.toNat) (k+1)=fm (fun a=>fm (LB r a) s.toNat) k++fm (LB r k) s.toNat:=nr _ _
    rw[show k1=s.toNat by omega, ←hs]
    refine aK (bt X [0,1,5,13,14] rfl ?_)
    refine⟨k+1,by omega,by omega,?_⟩
    rw[bH _ k rfl (by omega)]
    try rfl
  ·try simp only[aP]at aW
   exact aK (aq X [4] rfl (aj (af rfl ⟨by rw[pT,if_pos fP,show s.toNat=k by omega],⟨⟩⟩)))
theorem vv(c s r n:Int):So 69 [az c,az s,az r,az n] [.a (.sl .gB (rT c s r n))]:=by
 refine ay X call69 func69 ntmps69 rfl rfl ?_
 intro zb
 refine aq X [0,1,2,3] rfl (aa (aD X [] [(15,⟨false,[aH (yu c s r)]⟩),(19,⟨false,[aH (inr n 0 8)]⟩)] [0,1,2,3,21] [] rfl (by(with_reducible and_intros);(iterate 2 all_goals try first|exact⟨⟩|exact(mU c s r)|exact fun _=>(aM n 0 8))) ?_))
 refine ah rfl ?_ ?_<;>intro hb0
 ·have fP:Vy c s r n=false:=b9 hb0 (by simp only[Vy,aU]<;>first|rfl|ac_rfl)
  exact aq X [8] rfl (aj (af rfl ⟨by rw[rT,fP];rfl,⟨⟩⟩))
 ·have fP:Vy c s r n=true:=bX hb0 (by simp only[Vy,aU]<;>first|rfl|ac_rfl)
  have hok:=BI (adG fP)
  have hn8:=adH fP
  have hw2:IntKind.i64.wrap (2*n)=2*n:=bV (by omega)
  refine an (aC X [0,1,2,3,9] rfl (by and_intros<;>first|exact⟨⟩|exact rfl) (aa (aq X [1,2,3,9,23,24] rfl ?_)))
  refine au (aG (fun k=>k≤c.toNat) (fun k:Nat=> [(24, .one ((az k)))]) (fun k=> [(22, .arr .gB (fm (fun a=>fm (ru s r a) (2*n).toNat) k))]) (fun k=>c.toNat-k) 0 (fun k=>rfl) (Nat.zero_le _) rfl ?_)
  intro k hk
  have hle:=Vf (r:=r) (s:=s) (n:=n) (k:=k) (by omega) (by omega) (by omega)
  refine aq X [1,2,3,9,23,24,25] rfl ?_
  refine aa (ah rfl ?_ ?_)<;>intro aW
  ·try simp only[aP]at aW
   refine an (aa (au (aq X [1,2,3,9,10,23,24] rfl (aq X [1,2,3,9,10,23,24,28,29] rfl ?_))))
   refine au (aG (fun k1=>k1≤(2*n).toNat) (fun k1:Nat=> [(29, .one ((az k1)))]) (fun k1=> [(22, .arr .gB (fm (fun a=>fm (ru s r a) (2*n).toNat) k++fm (ru s r k) k1))]) (fun k1=>(2*n).toNat-k1) 0 (fun k1=>rfl) (Nat.zero_le _) (by simp[Dd]) ?_)
   intro k1 hk1
   have J8:=Ve (r:=r) (s:=s) (by omega) k (k:=k1) (by omega)
   refine aq X [1,2,3,9,10,23,24,28,29,30] rfl ?_
   refine aa (ah rfl ?_ ?_)<;>intro bz
   ·try simp only[aP]at bz
    rw[hw2]at bz
    refine an (aa (au (aq X [1,2,3,9,10,23,24,28,29,31,32] rfl ?_)))
    refine au (aG (fun k2=>k2≤s.toNat) (fun k2:Nat=> [(32, .one ((az k2)))]) (fun k2=> [(22, .arr .gB (fm (fun a=>fm (ru s r a) (2*n).toNat) k++fm (ru s r k) k1++fm (rEl r k) k2))]) (fun k2=>s.toNat-k2) 0 (fun k2=>rfl) (Nat.zero_le _) (by simp[Dd]) ?_)
    intro k2 hk2
    have J7:=Vd (r:=r) (s:=s) (by omega) k (k:=k2) hk2
    refine aq X [1,2,3,9,10,23,24,28,29,31,32,33] rfl ?_
    refine aa (ah rfl ?_ ?_)<;>intro dD
    ·try simp only[aP]at dD
     have hw:IntKind.i64.wrap (100+(k2:Int))=100+(k2:Int):=bV (by omega)
     have rB:fm (rEl r k) (k2+1)=fm (rEl r k) k2++ [⟨(k:Int),100+(k2:Int),sO r⟩,⟨100+(k2:Int),(k:Int),24⟩]:=nr _ _
     refine an (aa (au (aq X [1,2,3,9,10,11,23,24,28,29,31,32] rfl (aE X [(47,22)] [(40,⟨false,[az (sO r)]⟩)] [1,2,3,9,10,23,24,28,29,31,32] [] rfl (by(repeat' with_reducible first|exact aL|refine aS ?_ ?_|apply And.intro)<;>first|exact(vu r)|exact rfl|exact⟨rfl,bn _ (by decide)⟩| (simp only[dO,maxLen,lens];omega)) ?_))))
     refine bt X [1,2,3,9,10,23,24,28,29,31,32] rfl ?_
     refine⟨k2+1,by omega,by omega,?_⟩
     rw[bH _ k2 rfl (by omega),hw,List.append_assoc, ←rB]
     try rfl
    ·try simp only[aP]at dD
     have hs1:fm (ru s r k) (k1+1)=fm (ru s r k) k1++fm (rEl r k) s.toNat:=nr _ _
     rw[show k2=s.toNat by omega,List.append_assoc, ←hs1]
     refine aK (bt X [1,2,3,9,10,23,24,28,29] rfl ?_)
     refine⟨k1+1,by omega,by omega,?_⟩
     rw[bH _ k1 rfl (by omega)]
     try rfl
   ·try simp only[aP]at bz
    rw[hw2]at bz
    have hs:fm (fun a=>fm (ru s r a) (2*n).toNat) (k+1)=fm (fun a=>fm (ru s r a) (2*n).toNat) k++fm (ru s r k) (2*n).toNat:=nr _ _
    rw[show k1=(2*n).toNat by omega, ←hs]
    refine aK (bt X [1,2,3,9,23,24] rfl ?_)
    refine⟨k+1,by omega,by omega,?_⟩
    rw[bH _ k rfl (by omega)]
    try rfl
  ·try simp only[aP]at aW
   exact aK (aq X [8] rfl (aj (af rfl ⟨by rw[rT,if_pos fP,show c.toNat=k by omega],⟨⟩⟩)))
theorem lJ(x:bp):So 14 [.agg (aT x)] [.a (.sl .gB (YI x))]:=by
 refine ay X call14 func14 ntmps14 rfl rfl ?_
 intro zb
 have hwl:=aa4 (x.ak.length:Int) (x.av.length:Int) x.rows
 have nL:=aa5 (x.av.length:Int) x.rows
 have hrl:=aa6 (x.ak.length:Int) (x.av.length:Int) x.rows 1
 refine aq X [1] rfl (cQ X [] [] [1,3,4] [] 8 MO (by kernel_rfl) rfl ⟨⟩ (aa ?_))
 have t1:=(tN (x.ak.length:Int) (x.av.length:Int) x.rows)
 have t2:=(vv (x.ak.length:Int) (x.av.length:Int) x.rows 1)
 have t3:=(gx [wT (x.ak.length:Int) (x.av.length:Int) x.rows,pT (x.av.length:Int) x.rows,rT (x.ak.length:Int) (x.av.length:Int) x.rows 1] (by simp) (by simp;omega))
 exact bZ X [] [(15,⟨true,bJ t1⟩),(19,⟨true,[.a (.sl .gB (pT (x.av.length:Int) x.rows))]⟩),(24,⟨true,bJ t2⟩),(26,⟨true,bJ t3⟩)] [2] [] 14 MO (by kernel_rfl) rfl (by(with_reducible and_intros);(iterate 4 all_goals try first|exact⟨⟩|exact t1|exact(rz (x.av.length:Int) x.rows)|exact t2|exact t3);all_goals first|exact rfl) (aj (af rfl ⟨by simp[YI],⟨⟩⟩))
end
section
set_option maxRecDepth 100000
theorem YJ: ∀{l:List Int},l.length=3→ ∃a b c,l= [a,b,c]
 | [a,b,c],_=>⟨a,b,c,rfl⟩
theorem adI: ∀{l:List Field},l.map (fun f=>(f.name== "_",f.type,f.offset))= [(false,3,0),(false,3,1),(false,3,2)]→ ∃a b c,l= [a,b,c]∧(a.name≠ "_" ∧a.type=3∧a.offset=0)∧(b.name≠ "_" ∧b.type=3∧b.offset=1)∧(c.name≠ "_" ∧c.type=3∧c.offset=2)
 | [a,b,c],h=>by
   simp only[List.map_cons,List.map_nil,List.cons.injEq,pI,beq_eq_false_iff_ne,and_true]at h
   exact⟨a,b,c,rfl,h.1,h.2.1,h.2.2⟩
 | [],h=>by cases h
 | [_],h=>by simp at h
 | [_,_],h=>by simp at h
 |_::_::_::_::_,h=>by simp at h
theorem Qu:R6 Tryz.prog 95 3:=by
 intro xs ys X Y w hx hy
 obtain⟨a,b,c,rfl⟩:=YJ hx
 obtain⟨d,e,f,rfl⟩:=YJ hy
 have hS:Tryz.prog.underlying 95=some (.struct (Tryz.prog.fieldsOf 95)):=by kernel_rfl
 have hp:Tryz.prog.stoodInHeld 95=false:=by kernel_rfl
 have hg:Tryz.prog.eqGuardType Tryz.prog.depth 95=false:=by kernel_rfl
 have hi:Tryz.prog.underlying 3=some (.int .i64):=by kernel_rfl
 have hf:(Tryz.prog.fieldsOf 95).toList.map (fun f=>(f.name== "_",f.type,f.offset))= [(false,3,0),(false,3,1),(false,3,2)]:=by kernel_rfl
 obtain⟨f0,f1,f2,hq,⟨n0,t0,o0⟩,⟨n1,t1,o1⟩,⟨n2,t2,o2⟩⟩:=adI hf
 rw[Sem.run_bind,run_eqGuard_agg w .neq 95 X Y _ _ hg]
 simp only[Result.andThen_ok]
 rw[run_neq_struct,show(10000:Nat)=9998+1+1 from rfl,run_equalIn_agg w (9998+1) 95 _ _ hS hp,hq]
 have XR: ∀(vs:Array Value) (k:Nat) (v:Value) (w:World),vs[k]? =some v→(part 3 vs k).run Tryz.prog w= .ok v w:=fun vs k v w h=>by simp[part,Ed hi rfl,asAgg,h]
 have heq: ∀(x y:Int) (w:World),(Op.equalIn (9998+1) 3 (.int .i64 x) (.int .i64 y)).run Tryz.prog w= .ok (x==y) w:=fun x y w=>run_equalIn_int w 9998 3 .i64 .i64 x y hi
 simp only[Op.eqFields,if_pos n0,if_pos n1,if_pos n2,t0,t1,t2,o0,o1,o2,Sem.run_bind,XR ([a,b,c].map (Value.int .i64)).toArray 0 (.int .i64 a) w rfl,XR ([d,e,f].map (Value.int .i64)).toArray 0 (.int .i64 d) w rfl,XR ([a,b,c].map (Value.int .i64)).toArray 1 (.int .i64 b) w rfl,XR ([d,e,f].map (Value.int .i64)).toArray 1 (.int .i64 e) w rfl,XR ([a,b,c].map (Value.int .i64)).toArray 2 (.int .i64 c) w rfl,XR ([d,e,f].map (Value.int .i64)).toArray 2 (.int .i64 f) w rfl,Result.andThen_ok,heq,Sem.run_ite,Sem.run_pure]
 by_cases h1:a=d<;>by_cases h2:b=e<;>by_cases h3:c=f<;>simp[h1,h2,h3,Result.andThen_ok]
theorem gK(l:List gB):So 70 [.a (.sl .gB l), .a (.sl .gB l)] [aH true]:=by
 refine ay X call70 func70 ntmps70 rfl rfl ?_
 intro zb
 refine cx 0 rfl (fun hla=>(aq X [0,1] rfl (aa (aq X [0,1,10] rfl ?_))))
 refine ah rfl ?_ ?_<;>intro hb0
 ·try simp only[aP]at hb0
  first| (exfalso;simp at hb0;done)|omega
 ·try simp only[aP]at hb0
  skip
  refine an (aa (aq X [0,1,12,13] rfl ?_))
  refine au (aG (fun k=>k≤l.length) (fun k:Nat=> [(13, .one ((az k)))]) (fun k=> []) (fun k=>l.length-k) 0 (fun k=>rfl) (Nat.zero_le _) rfl ?_)
  intro k hk
  refine aq X [0,1,12,13,14] rfl ?_
  refine aa (ah rfl ?_ ?_)<;>intro aW
  ·try simp only[aP]at aW
   refine an (aa (au (aq X [0,1,5,12,13] rfl (aa (bu X [] [] [0,1,12,13,24] [] 255 0 MO (by kernel_rfl) rfl (by kernel_rfl) (by(with_reducible and_intros)<;>first|exact⟨⟩|exact Qu| (intros;omega)) ?_)))))
   refine ah rfl ?_ ?_<;>intro bz
   ·try simp only[aP]at bz
    all_goals simp at bz
   ·try simp only[aP]at bz
    skip
    refine an (bt X [0,1,12,13] rfl ?_)
    refine⟨k+1,by omega,by omega,?_⟩
    rw[bH _ k rfl (by omega)]
    try rfl
  ·try simp only[aP]at aW
   exact aK (aq X [4] rfl (aj (af rfl ⟨rfl,⟨⟩⟩)))
theorem tO(l:List gB):So 16 [.a (.sl .gB l), .a (.sl .gB l)] [aH true]:=by
 refine ay X call16 func16 ntmps16 rfl rfl ?_
 intro zb
 exact aq X [0,1] rfl (aD X [] [(7,⟨false,[aH true]⟩)] [4] [] rfl (by(with_reducible and_intros)<;>first|exact⟨⟩|exact(gK l)) (aj (af rfl ⟨rfl,⟨⟩⟩)))
end
end Go.Proofs.YtcnomgcfijjkmaaGreat.G
