/-
  Contracts of the laws' own functions by the symbolic machine: held.. of every type.
-/
import Derived.Test.YteodajeiagmekaaGreatM12
namespace Go.Proofs.YteodajeiagmekaaGreat.G
set_option linter.all false
open Go.RowKit L D
section
set_option maxRecDepth 100000
def nZ(k:Int)(x:DB):DB:=⟨(dm (dm gJ (fun _=>1)) (aD (fun _=>1))) (k) x.rows⟩
theorem PV(x:DB):cx x≤32*(1+eF x):=by
 have h0:(aD (aD (fun _=>1))) x.rows≤32*(bX List.length) x.rows:=jD (C:=32) (sz:=List.length) (fun e=>by have:(aD (fun _=>1)) e≤32*List.length e:=oW e;omega) x.rows
 simp only[cx,eF]
 omega
end
section
set_option maxRecDepth 100000
theorem pY(l:(List DB)):Sound ty Tryz.prog 84 [.a (.sl .DB l), .a (.sl .DB l)] [.a (.lit (.bool true))]:=by
 refine Sound.o X Tryz.call84 Tryz.func84 Tryz.ntmps84 rfl rfl ?_
 intro zb
 refine W.bound 0 rfl fun hl=> ?_
 refine W.s0 X [0,1] rfl ⟨⟩ ?_
 refine W.seq ?_
 refine W.s0 X [0,1,10] rfl ⟨⟩ ?_
 refine W.cond rfl (fun hb0=> ?_) (fun hb0=> ?_)
 ·exact absurd hb0 (by simp)
 ·clear hb0
  refine W.skip ?_
  refine W.seq ?_
  refine W.s0 X [0,1,5] rfl ⟨⟩ ?_
  refine W.block ?_
  refine W.aE (fun k=>k≤l.length) (fun k:Nat=> [(5, .one (.a (.lit (.int .i64 k))))]) (fun k=> []) (fun k=>l.length-k) 0 (fun k=>rfl) (Nat.zero_le _) rfl ?_
  intro k hk
  refine W.seq ?_
  refine W.s0 X [0,1,5,14] rfl ⟨⟩ ?_
  refine W.cond rfl (fun aB=> ?_) (fun aB=> ?_)
  ·try simp only[nb]at aB
   refine W.skip ?_
   refine W.seq ?_
   refine W.block ?_
   refine W.sd X [] [(25,⟨false,[.a (.lit (.bool true))]⟩)] [0,1,5,26] [] 10 MO (by kernel_rfl) rfl ⟨sC (l.getD k (au .DB)),by omega,by omega,⟨⟩⟩ ?_
   refine W.cond rfl (fun aM=> ?_) (fun aM=> ?_)
   ·exact absurd aM (by simp)
   ·clear aM
    refine W.skip ?_
    refine W.r0 X [0,1,5] rfl ⟨⟩ ?_
    refine⟨k+1,by omega,by omega,?_⟩
    rw[aR _ k rfl (by omega)]
    try rfl
  ·try simp only[nb]at aB
   refine W.exit ?_
   refine W.s0 X [4] rfl ⟨⟩ ?_
   refine W.ret ?_
   exact Fin.ret rfl ⟨rfl,⟨⟩⟩
end
section
set_option maxRecDepth 100000
theorem Cu(l:(List DB))(k0:Int)(h0:0≤k0)(h1:k0+((aD cx) l:Nat)≤1099511627776):dQ Tryz.prog 87 [.a (.sl .DB l), .a (.lit (.int .i64 k0))] [.a (.sl .DB ((dm nZ cx) k0 l)), .a (.lit (.int .i64 k0))] (.int .i64 (k0+((aD cx) l:Nat))):=by
 refine dQ.of X Tryz.call87 Tryz.func87 rfl rfl Tryz.ntmps87 (by simp) ?_
 intro zb
 refine W.rU 1000 rfl fun hl=> ?_
 refine W.s0 X [0,1] rfl ⟨⟩ ?_
 refine W.seq ?_
 refine W.s0 X [0,1,5] rfl ⟨⟩ ?_
 refine W.block ?_
 refine W.aE (fun k=>k≤l.length) (fun k:Nat=> [(1, .one (.a (.lit (.int .i64 (k0+(aD cx (l.take k):Nat)))))),(5, .one (.a (.lit (.int .i64 k))))]) (fun k=> [(1000, .arr .DB (dm nZ cx k0 (l.take k)++l.drop k))]) (fun k=>l.length-k) 0 (fun k=>rfl) (Nat.zero_le _) (by simp[dm,aD]) ?_
 intro k hk
 refine W.seq ?_
 refine W.s0 X [0,1,5,9] rfl ⟨⟩ ?_
 refine W.cond rfl (fun hb0=> ?_) (fun hb0=> ?_)
 ·rw[dY l k0 k hk]at hb0
  try simp only[nb]at hb0
  have hc:=rT (mk:=nZ) (mn:=cx) l k0 (au .DB) k hb0
  have hlen:=dY (mk:=nZ) (mn:=cx) l k0 k (by omega)
  have hst:=nq (mk:=nZ) (mn:=cx) l k0 (au .DB) k hb0
  have wv:=fG (mn:=cx) l (au .DB) k hb0
  have hml:=kj (mn:=cx) l (k+1)
  generalize dm nZ cx k0 (l.take k)++l.drop k=L at hc hlen hst ⊢
  generalize l.getD k (au .DB)=e at hc hst wv
  have hL:k<L.length:=by omega
  have gs: ∀y:DB,(L.set k y).getD k (au .DB)=y:=fun y=>ko L _ y k hL
  have gl: ∀y:DB,(L.set k y).length=L.length:=fun y=>List.length_set
  simp only[cx]at wv
  refine W.skip ?_
  refine W.seq ?_
  refine W.block ?_
  refine W.cD X [] [(200018,⟨false,[.a (.lit (.int .i64 ((k0+(aD cx (l.take k):Nat))+((aD (aD (fun _=>1))) e.rows:Nat)))), .a (.sl (.sl .u8) ((dm (dm gJ (fun _=>1)) (aD (fun _=>1))) ((k0+(aD cx (l.take k):Nat))) e.rows)), .a (.lit (.int .i64 ((k0+(aD cx (l.take k):Nat)))))]⟩)] [0,1,5] [] rfl (by(repeat' (first|exact True.intro|exact cM e.rows ((k0+(aD cx (l.take k):Nat))) (by omega) (by omega)| (simp only[Int.toNat_natCast,gs,hc];exact cM e.rows ((k0+(aD cx (l.take k):Nat))) (by omega) (by omega))|apply And.intro))<;>first| (intros;omega)) ?_
  simp only[Int.toNat_natCast,gs,hc,List.set_set]
  refine W.r0 X [0,1,5] rfl ⟨⟩ ?_
  refine⟨k+1,by omega,by omega,?_⟩
  rw[aR _ k rfl (by omega),show(k0+(aD cx (l.take k):Nat))+((aD (aD (fun _=>1))) e.rows:Nat)=k0+(aD cx (l.take (k+1)):Nat)by omega, ←hst]
  try rfl
 ·rw[dY l k0 k hk]at hb0
  try simp only[nb]at hb0
  refine W.exit ?_
  refine W.s0 X [4] rfl ⟨⟩ ?_
  refine W.ret ?_
  have hf:l.take k=l:=List.take_of_length_le (by omega)
  have hd:l.drop k= []:=List.drop_eq_nil_of_le (by omega)
  exact yK.ret rfl ⟨by rw[hf],by rw[hf,hd,List.append_nil],rfl,⟨⟩⟩
end
section
set_option maxRecDepth 100000
theorem BW(l:(List UInt8))(k0:Int)(h0:0≤k0)(h1:k0+((aD (fun _=>1)) l:Nat)≤1099511627776):Sound ty Tryz.prog 316 [.a (.sl .u8 ((dm gJ (fun _=>1)) k0 l)), .a (.lit (.int .i64 k0))] [.a (.lit (.int .i64 (k0+((aD (fun _=>1)) l:Nat))))]:=by
 refine Sound.o X Tryz.call316 Tryz.func316 Tryz.ntmps316 rfl rfl ?_
 intro zb
 refine W.bound 0 rfl fun hl=> ?_
 rw[dg]at hl
 refine W.s0 X [0,1] rfl ⟨⟩ ?_
 refine W.seq ?_
 refine W.s0 X [0,1,5] rfl ⟨⟩ ?_
 refine W.block ?_
 refine W.aE (fun k=>k≤l.length) (fun k:Nat=> [(1, .one (.a (.lit (.int .i64 (k0+(aD (fun _=>1) (l.take k):Nat)))))),(5, .one (.a (.lit (.int .i64 k))))]) (fun k=> []) (fun k=>l.length-k) 0 (fun k=>rfl) (Nat.zero_le _) (by simp[aD]) ?_
 intro k hk
 refine W.seq ?_
 refine W.s0 X [0,1,5,9] rfl ⟨⟩ ?_
 refine W.cond rfl (fun hb0=> ?_) (fun hb0=> ?_)
 ·rw[dg]at hb0
  try simp only[nb]at hb0
  have hg:=uc (mk:=gJ) (mn:=(fun _=>1)) (k:=k0) (d:=au .u8) hb0
  have wv:=fG (mn:=(fun _=>1)) l (au .u8) k hb0
  have hml:=kj (mn:=(fun _=>1)) l (k+1)
  have hlen:(dm gJ (fun _=>1) k0 l).length=l.length:=dg
  generalize l.getD k (au .u8)=e at hg wv
  refine W.skip ?_
  refine W.seq ?_
  refine W.block ?_
  refine W.seq ?_
  refine W.s0 X [0,1,5,18] rfl (by and_intros<;>first|exact⟨⟩| (intros;omega)) ?_
  refine W.cond rfl (fun aB=> ?_) (fun aB=> ?_)
  ·exact absurd aB (by first| (simp only[decide_eq_true_eq];omega)| (simp only[Int.toNat_natCast,hg];simp;done)| (simp only[Int.toNat_natCast,hg,gJ,Gi];simp))
  ·clear aB
   refine W.skip ?_
   refine W.r0 X [0,1,5] rfl ⟨⟩ ?_
   rw[IntWalk.i64_in ((k0+(aD (fun _=>1) (l.take k):Nat))+1) (by omega)]
   refine W.r0 X [0,1,5] rfl ⟨⟩ ?_
   refine⟨k+1,by omega,by omega,?_⟩
   rw[aR _ k rfl (by omega),show(k0+(aD (fun _=>1) (l.take k):Nat))+1=k0+(aD (fun _=>1) (l.take (k+1)):Nat)by omega]
   try rfl
 ·rw[dg]at hb0
  try simp only[nb]at hb0
  refine W.exit ?_
  refine W.s0 X [4] rfl ⟨⟩ ?_
  refine W.ret ?_
  exact Fin.ret rfl ⟨by rw[List.take_of_length_le (by omega)],⟨⟩⟩
theorem Af(l:(List (List UInt8)))(k0:Int)(h0:0≤k0)(h1:k0+((aD (aD (fun _=>1))) l:Nat)≤1099511627776):Sound ty Tryz.prog 216 [.a (.sl (.sl .u8) ((dm (dm gJ (fun _=>1)) (aD (fun _=>1))) k0 l)), .a (.lit (.int .i64 k0))] [.a (.lit (.int .i64 (k0+((aD (aD (fun _=>1))) l:Nat))))]:=by
 refine Sound.o X Tryz.call216 Tryz.func216 Tryz.ntmps216 rfl rfl ?_
 intro zb
 refine W.bound 0 rfl fun hl=> ?_
 rw[dg]at hl
 refine W.s0 X [0,1] rfl ⟨⟩ ?_
 refine W.seq ?_
 refine W.s0 X [0,1,5] rfl ⟨⟩ ?_
 refine W.block ?_
 refine W.aE (fun k=>k≤l.length) (fun k:Nat=> [(1, .one (.a (.lit (.int .i64 (k0+(aD (aD (fun _=>1)) (l.take k):Nat)))))),(5, .one (.a (.lit (.int .i64 k))))]) (fun k=> []) (fun k=>l.length-k) 0 (fun k=>rfl) (Nat.zero_le _) (by simp[aD]) ?_
 intro k hk
 refine W.seq ?_
 refine W.s0 X [0,1,5,9] rfl ⟨⟩ ?_
 refine W.cond rfl (fun hb0=> ?_) (fun hb0=> ?_)
 ·rw[dg]at hb0
  try simp only[nb]at hb0
  have hg:=uc (mk:=(dm gJ (fun _=>1))) (mn:=(aD (fun _=>1))) (k:=k0) (d:=au (.sl .u8)) hb0
  have wv:=fG (mn:=(aD (fun _=>1))) l (au (.sl .u8)) k hb0
  have hml:=kj (mn:=(aD (fun _=>1))) l (k+1)
  have hlen:(dm (dm gJ (fun _=>1)) (aD (fun _=>1)) k0 l).length=l.length:=dg
  generalize l.getD k (au (.sl .u8))=e at hg wv
  refine W.skip ?_
  refine W.seq ?_
  refine W.block ?_
  refine W.sr X [] [(17,⟨false,[.a (.lit (.int .i64 ((k0+(aD (aD (fun _=>1)) (l.take k):Nat))+((aD (fun _=>1)) e:Nat))))]⟩)] [0,1,5] [] rfl (by(repeat' (first|exact True.intro|exact BW e ((k0+(aD (aD (fun _=>1)) (l.take k):Nat))) (by omega) (by omega)| (simp only[Int.toNat_natCast,hg];exact BW e ((k0+(aD (aD (fun _=>1)) (l.take k):Nat))) (by omega) (by omega))|apply And.intro))<;>first| (intros;omega)) ?_
  refine W.s0 X [0,1,5,19] rfl ⟨⟩ ?_
  refine W.cond rfl (fun aB=> ?_) (fun aB=> ?_)
  ·exact absurd aB (by first| (simp only[decide_eq_true_eq];omega)| (simp only[Int.toNat_natCast,hg];simp;done)| (simp only[Int.toNat_natCast,hg,gJ,Gi];simp))
  ·clear aB
   refine W.skip ?_
   refine W.r0 X [0,1,5] rfl ⟨⟩ ?_
   refine⟨k+1,by omega,by omega,?_⟩
   rw[aR _ k rfl (by omega),show(k0+(aD (aD (fun _=>1)) (l.take k):Nat))+((aD (fun _=>1)) e:Nat)=k0+(aD (aD (fun _=>1)) (l.take (k+1)):Nat)by omega]
   try rfl
 ·rw[dg]at hb0
  try simp only[nb]at hb0
  refine W.exit ?_
  refine W.s0 X [4] rfl ⟨⟩ ?_
  refine W.ret ?_
  exact Fin.ret rfl ⟨by rw[List.take_of_length_le (by omega)],⟨⟩⟩
theorem sR(l:(List DB))(k0:Int)(h0:0≤k0)(h1:k0+((aD cx) l:Nat)≤1099511627776):Sound ty Tryz.prog 88 [.a (.sl .DB ((dm nZ cx) k0 l)), .a (.lit (.int .i64 k0))] [.a (.lit (.int .i64 (k0+((aD cx) l:Nat))))]:=by
 refine Sound.o X Tryz.call88 Tryz.func88 Tryz.ntmps88 rfl rfl ?_
 intro zb
 refine W.bound 0 rfl fun hl=> ?_
 rw[dg]at hl
 refine W.s0 X [0,1] rfl ⟨⟩ ?_
 refine W.seq ?_
 refine W.s0 X [0,1,5] rfl ⟨⟩ ?_
 refine W.block ?_
 refine W.aE (fun k=>k≤l.length) (fun k:Nat=> [(1, .one (.a (.lit (.int .i64 (k0+(aD cx (l.take k):Nat)))))),(5, .one (.a (.lit (.int .i64 k))))]) (fun k=> []) (fun k=>l.length-k) 0 (fun k=>rfl) (Nat.zero_le _) (by simp[aD]) ?_
 intro k hk
 refine W.seq ?_
 refine W.s0 X [0,1,5,9] rfl ⟨⟩ ?_
 refine W.cond rfl (fun hb0=> ?_) (fun hb0=> ?_)
 ·rw[dg]at hb0
  try simp only[nb]at hb0
  have hg:=uc (mk:=nZ) (mn:=cx) (k:=k0) (d:=au .DB) hb0
  have wv:=fG (mn:=cx) l (au .DB) k hb0
  have hml:=kj (mn:=cx) l (k+1)
  have hlen:(dm nZ cx k0 l).length=l.length:=dg
  generalize l.getD k (au .DB)=e at hg wv
  simp only[cx]at wv
  simp only[nZ]at hg
  refine W.skip ?_
  refine W.seq ?_
  refine W.block ?_
  refine W.sr X [] [(18,⟨false,[.a (.lit (.int .i64 ((k0+(aD cx (l.take k):Nat))+((aD (aD (fun _=>1))) e.rows:Nat))))]⟩)] [0,1,5] [] rfl (by(repeat' (first|exact True.intro|exact Af e.rows ((k0+(aD cx (l.take k):Nat))) (by omega) (by omega)| (simp only[Int.toNat_natCast,hg];exact Af e.rows ((k0+(aD cx (l.take k):Nat))) (by omega) (by omega))|apply And.intro))<;>first| (intros;omega)) ?_
  refine W.s0 X [0,1,5,20] rfl ⟨⟩ ?_
  refine W.cond rfl (fun aB=> ?_) (fun aB=> ?_)
  ·exact absurd aB (by first| (simp only[decide_eq_true_eq];omega)| (simp only[Int.toNat_natCast,hg];simp;done)| (simp only[Int.toNat_natCast,hg,gJ,Gi];simp))
  ·clear aB
   refine W.skip ?_
   refine W.r0 X [0,1,5] rfl ⟨⟩ ?_
   refine⟨k+1,by omega,by omega,?_⟩
   rw[aR _ k rfl (by omega),show(k0+(aD cx (l.take k):Nat))+((aD (aD (fun _=>1))) e.rows:Nat)=k0+(aD cx (l.take (k+1)):Nat)by omega]
   try rfl
 ·rw[dg]at hb0
  try simp only[nb]at hb0
  refine W.exit ?_
  refine W.s0 X [4] rfl ⟨⟩ ?_
  refine W.ret ?_
  exact Fin.ret rfl ⟨by rw[List.take_of_length_le (by omega)],⟨⟩⟩
end
end Go.Proofs.YteodajeiagmekaaGreat.G
