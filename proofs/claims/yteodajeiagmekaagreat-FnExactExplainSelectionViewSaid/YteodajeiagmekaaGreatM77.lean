/-
  Contracts of the laws' own functions by the symbolic machine: held.. of every type.
-/
import Derived.Test.YteodajeiagmekaaGreatM73
import Derived.Test.YteodajeiagmekaaGreatM74
namespace Go.Proofs.YteodajeiagmekaaGreat.G
set_option linter.all false
open Go.RowKit L D
section
theorem acN{x:aJ}{sv r row s o:Int}{b:Bool}(h:(if decide (((eE x sv r row s).length:Int)=0)=true then true else !(inr o 0 (IntKind.i64.wrap (x.rows-1))))=b):jZ x sv row o= !b:=by
 cases hk:mT x sv row with
 |false=>
  have e:eE x sv r row s= []:=by rw[eE,if_neg (by rw[hk];decide)]
  rw[e]at h
  rw[jZ,hk, ←h];rfl
 |true=>
  have q:=Yk.of (r:=r) (s:=s) hk
  have q1:=q.qsv;have q2:=q.Xl;have q3:=q.KX
  have hl:=dZ (q.MV _ (getD_in (au (.sl .int)) (show sv.toNat<(query x r row s).length by omega)))
  rw[eE,if_pos hk,if_neg (by rw[decide_eq_true_eq];omega)]at h
  rw[jZ,hk, ←h];simp
end
section
set_option maxRecDepth 100000
theorem Bp(l:(List (List Int))):Sound ty Tryz.prog 77 [.a (.sl (.sl .int) l), .a (.sl (.sl .int) l)] [.a (.lit (.bool true))]:=by
 refine Sound.o X Tryz.call77 Tryz.func77 Tryz.ntmps77 rfl rfl ?_
 intro zb
 refine W.bound 0 rfl fun hl=> ?_
 refine W.s0 X [0,1] rfl ⟨⟩ ?_
 refine W.seq ?_
 refine W.s0 X [0,1,10] rfl ⟨⟩ ?_
 refine W.cond rfl (fun hb0=> ?_) (fun hb0=> ?_)
 ·exact absurd hb0 (by simp)
 ·clear hb0
  refine W.skip ?_
  refine W.seq ?_
  refine W.s0 X [0,1,5] rfl ⟨⟩ ?_
  refine W.block ?_
  refine W.aE (fun k=>k≤l.length) (fun k:Nat=> [(5, .one (.a (.lit (.int .i64 k))))]) (fun k=> []) (fun k=>l.length-k) 0 (fun k=>rfl) (Nat.zero_le _) rfl ?_
  intro k hk
  refine W.seq ?_
  refine W.s0 X [0,1,5,14] rfl ⟨⟩ ?_
  refine W.cond rfl (fun aB=> ?_) (fun aB=> ?_)
  ·try simp only[nb]at aB
   refine W.skip ?_
   refine W.seq ?_
   refine W.block ?_
   refine W.sd X [] [(25,⟨false,[.a (.lit (.bool true))]⟩)] [0,1,5,26] [] 10 MO (by kernel_rfl) rfl ⟨Lg (l.getD k (au (.sl .int))),by omega,by omega,⟨⟩⟩ ?_
   refine W.cond rfl (fun aM=> ?_) (fun aM=> ?_)
   ·exact absurd aM (by simp)
   ·clear aM
    refine W.skip ?_
    refine W.r0 X [0,1,5] rfl ⟨⟩ ?_
    refine⟨k+1,by omega,by omega,?_⟩
    rw[aR _ k rfl (by omega)]
    try rfl
  ·try simp only[nb]at aB
   refine W.exit ?_
   refine W.s0 X [4] rfl ⟨⟩ ?_
   refine W.ret ?_
   exact Fin.ret rfl ⟨rfl,⟨⟩⟩
end
section
set_option maxRecDepth 100000
theorem Li(l:(List (List Int)))(k0:Int)(h0:0≤k0)(h1:k0+((aD (aD (fun _=>1))) l:Nat)≤1099511627776):dQ Tryz.prog 80 [.a (.sl (.sl .int) l), .a (.lit (.int .i64 k0))] [.a (.sl (.sl .int) ((dm (dm (fun k _=>k) (fun _=>1)) (aD (fun _=>1))) k0 l)), .a (.lit (.int .i64 k0))] (.int .i64 (k0+((aD (aD (fun _=>1))) l:Nat))):=by
 refine dQ.of X Tryz.call80 Tryz.func80 rfl rfl Tryz.ntmps80 (by simp) ?_
 intro zb
 refine W.rU 1000 rfl fun hl=> ?_
 refine W.s0 X [0,1] rfl ⟨⟩ ?_
 refine W.seq ?_
 refine W.s0 X [0,1,5] rfl ⟨⟩ ?_
 refine W.block ?_
 refine W.aE (fun k=>k≤l.length) (fun k:Nat=> [(1, .one (.a (.lit (.int .i64 (k0+(aD (aD (fun _=>1)) (l.take k):Nat)))))),(5, .one (.a (.lit (.int .i64 k))))]) (fun k=> [(1000, .arr (.sl .int) (dm (dm (fun k _=>k) (fun _=>1)) (aD (fun _=>1)) k0 (l.take k)++l.drop k))]) (fun k=>l.length-k) 0 (fun k=>rfl) (Nat.zero_le _) (by simp[dm,aD]) ?_
 intro k hk
 refine W.seq ?_
 refine W.s0 X [0,1,5,9] rfl ⟨⟩ ?_
 refine W.cond rfl (fun hb0=> ?_) (fun hb0=> ?_)
 ·rw[dY l k0 k hk]at hb0
  try simp only[nb]at hb0
  have hc:=rT (mk:=(dm (fun k _=>k) (fun _=>1))) (mn:=(aD (fun _=>1))) l k0 (au (.sl .int)) k hb0
  have hlen:=dY (mk:=(dm (fun k _=>k) (fun _=>1))) (mn:=(aD (fun _=>1))) l k0 k (by omega)
  have hst:=nq (mk:=(dm (fun k _=>k) (fun _=>1))) (mn:=(aD (fun _=>1))) l k0 (au (.sl .int)) k hb0
  have wv:=fG (mn:=(aD (fun _=>1))) l (au (.sl .int)) k hb0
  have hml:=kj (mn:=(aD (fun _=>1))) l (k+1)
  generalize dm (dm (fun k _=>k) (fun _=>1)) (aD (fun _=>1)) k0 (l.take k)++l.drop k=L at hc hlen hst ⊢
  generalize l.getD k (au (.sl .int))=e at hc hst wv
  have hL:k<L.length:=by omega
  have gs: ∀y:(List Int),(L.set k y).getD k (au (.sl .int))=y:=fun y=>ko L _ y k hL
  have gl: ∀y:(List Int),(L.set k y).length=L.length:=fun y=>List.length_set
  refine W.skip ?_
  refine W.seq ?_
  refine W.block ?_
  refine W.cD X [] [(200017,⟨false,[.a (.lit (.int .i64 ((k0+(aD (aD (fun _=>1)) (l.take k):Nat))+((aD (fun _=>1)) e:Nat)))), .a (.sl .int ((dm (fun k _=>k) (fun _=>1)) ((k0+(aD (aD (fun _=>1)) (l.take k):Nat))) e)), .a (.lit (.int .i64 ((k0+(aD (aD (fun _=>1)) (l.take k):Nat)))))]⟩)] [0,1,5] [] rfl (by(repeat' (first|exact True.intro|exact yc e ((k0+(aD (aD (fun _=>1)) (l.take k):Nat))) (by omega) (by omega)| (simp only[Int.toNat_natCast,gs,hc];exact yc e ((k0+(aD (aD (fun _=>1)) (l.take k):Nat))) (by omega) (by omega))|apply And.intro))<;>first| (intros;omega)) ?_
  simp only[Int.toNat_natCast,gs,hc,List.set_set]
  refine W.r0 X [0,1,5] rfl ⟨⟩ ?_
  refine⟨k+1,by omega,by omega,?_⟩
  rw[aR _ k rfl (by omega),show(k0+(aD (aD (fun _=>1)) (l.take k):Nat))+((aD (fun _=>1)) e:Nat)=k0+(aD (aD (fun _=>1)) (l.take (k+1)):Nat)by omega, ←hst]
  try rfl
 ·rw[dY l k0 k hk]at hb0
  try simp only[nb]at hb0
  refine W.exit ?_
  refine W.s0 X [4] rfl ⟨⟩ ?_
  refine W.ret ?_
  have hf:l.take k=l:=List.take_of_length_le (by omega)
  have hd:l.drop k= []:=List.drop_eq_nil_of_le (by omega)
  exact yK.ret rfl ⟨by rw[hf],by rw[hf,hd,List.append_nil],rfl,⟨⟩⟩
end
section
set_option maxRecDepth 100000
theorem Fj(l:(List Int))(k0:Int)(h0:0≤k0)(h1:k0+((aD (fun _=>1)) l:Nat)≤1099511627776):Sound ty Tryz.prog 211 [.a (.sl .int ((dm (fun k _=>k) (fun _=>1)) k0 l)), .a (.lit (.int .i64 k0))] [.a (.lit (.int .i64 (k0+((aD (fun _=>1)) l:Nat))))]:=by
 refine Sound.o X Tryz.call211 Tryz.func211 Tryz.ntmps211 rfl rfl ?_
 intro zb
 refine W.bound 0 rfl fun hl=> ?_
 rw[dg]at hl
 refine W.s0 X [0,1] rfl ⟨⟩ ?_
 refine W.seq ?_
 refine W.s0 X [0,1,5] rfl ⟨⟩ ?_
 refine W.block ?_
 refine W.aE (fun k=>k≤l.length) (fun k:Nat=> [(1, .one (.a (.lit (.int .i64 (k0+(aD (fun _=>1) (l.take k):Nat)))))),(5, .one (.a (.lit (.int .i64 k))))]) (fun k=> []) (fun k=>l.length-k) 0 (fun k=>rfl) (Nat.zero_le _) (by simp[aD]) ?_
 intro k hk
 refine W.seq ?_
 refine W.s0 X [0,1,5,9] rfl ⟨⟩ ?_
 refine W.cond rfl (fun hb0=> ?_) (fun hb0=> ?_)
 ·rw[dg]at hb0
  try simp only[nb]at hb0
  have hg:=uc (mk:=(fun k _=>k)) (mn:=(fun _=>1)) (k:=k0) (d:=au .int) hb0
  have wv:=fG (mn:=(fun _=>1)) l (au .int) k hb0
  have hml:=kj (mn:=(fun _=>1)) l (k+1)
  have hlen:(dm (fun k _=>k) (fun _=>1) k0 l).length=l.length:=dg
  generalize l.getD k (au .int)=e at hg wv
  refine W.skip ?_
  refine W.seq ?_
  refine W.block ?_
  refine W.seq ?_
  refine W.s0 X [0,1,5,17] rfl (by and_intros<;>first|exact⟨⟩| (intros;omega)) ?_
  refine W.cond rfl (fun aB=> ?_) (fun aB=> ?_)
  ·exact absurd aB (by first| (simp only[decide_eq_true_eq];omega)| (simp only[Int.toNat_natCast,hg];simp;done)| (simp only[Int.toNat_natCast,hg,gJ,Gi];simp))
  ·clear aB
   refine W.skip ?_
   refine W.r0 X [0,1,5] rfl ⟨⟩ ?_
   rw[IntWalk.i64_in ((k0+(aD (fun _=>1) (l.take k):Nat))+1) (by omega)]
   refine W.r0 X [0,1,5] rfl ⟨⟩ ?_
   refine⟨k+1,by omega,by omega,?_⟩
   rw[aR _ k rfl (by omega),show(k0+(aD (fun _=>1) (l.take k):Nat))+1=k0+(aD (fun _=>1) (l.take (k+1)):Nat)by omega]
   try rfl
 ·rw[dg]at hb0
  try simp only[nb]at hb0
  refine W.exit ?_
  refine W.s0 X [4] rfl ⟨⟩ ?_
  refine W.ret ?_
  exact Fin.ret rfl ⟨by rw[List.take_of_length_le (by omega)],⟨⟩⟩
theorem BX(l:(List (List Int)))(k0:Int)(h0:0≤k0)(h1:k0+((aD (aD (fun _=>1))) l:Nat)≤1099511627776):Sound ty Tryz.prog 81 [.a (.sl (.sl .int) ((dm (dm (fun k _=>k) (fun _=>1)) (aD (fun _=>1))) k0 l)), .a (.lit (.int .i64 k0))] [.a (.lit (.int .i64 (k0+((aD (aD (fun _=>1))) l:Nat))))]:=by
 refine Sound.o X Tryz.call81 Tryz.func81 Tryz.ntmps81 rfl rfl ?_
 intro zb
 refine W.bound 0 rfl fun hl=> ?_
 rw[dg]at hl
 refine W.s0 X [0,1] rfl ⟨⟩ ?_
 refine W.seq ?_
 refine W.s0 X [0,1,5] rfl ⟨⟩ ?_
 refine W.block ?_
 refine W.aE (fun k=>k≤l.length) (fun k:Nat=> [(1, .one (.a (.lit (.int .i64 (k0+(aD (aD (fun _=>1)) (l.take k):Nat)))))),(5, .one (.a (.lit (.int .i64 k))))]) (fun k=> []) (fun k=>l.length-k) 0 (fun k=>rfl) (Nat.zero_le _) (by simp[aD]) ?_
 intro k hk
 refine W.seq ?_
 refine W.s0 X [0,1,5,9] rfl ⟨⟩ ?_
 refine W.cond rfl (fun hb0=> ?_) (fun hb0=> ?_)
 ·rw[dg]at hb0
  try simp only[nb]at hb0
  have hg:=uc (mk:=(dm (fun k _=>k) (fun _=>1))) (mn:=(aD (fun _=>1))) (k:=k0) (d:=au (.sl .int)) hb0
  have wv:=fG (mn:=(aD (fun _=>1))) l (au (.sl .int)) k hb0
  have hml:=kj (mn:=(aD (fun _=>1))) l (k+1)
  have hlen:(dm (dm (fun k _=>k) (fun _=>1)) (aD (fun _=>1)) k0 l).length=l.length:=dg
  generalize l.getD k (au (.sl .int))=e at hg wv
  refine W.skip ?_
  refine W.seq ?_
  refine W.block ?_
  refine W.sr X [] [(17,⟨false,[.a (.lit (.int .i64 ((k0+(aD (aD (fun _=>1)) (l.take k):Nat))+((aD (fun _=>1)) e:Nat))))]⟩)] [0,1,5] [] rfl (by(repeat' (first|exact True.intro|exact Fj e ((k0+(aD (aD (fun _=>1)) (l.take k):Nat))) (by omega) (by omega)| (simp only[Int.toNat_natCast,hg];exact Fj e ((k0+(aD (aD (fun _=>1)) (l.take k):Nat))) (by omega) (by omega))|apply And.intro))<;>first| (intros;omega)) ?_
  refine W.s0 X [0,1,5,19] rfl ⟨⟩ ?_
  refine W.cond rfl (fun aB=> ?_) (fun aB=> ?_)
  ·exact absurd aB (by first| (simp only[decide_eq_true_eq];omega)| (simp only[Int.toNat_natCast,hg];simp;done)| (simp only[Int.toNat_natCast,hg,gJ,Gi];simp))
  ·clear aB
   refine W.skip ?_
   refine W.r0 X [0,1,5] rfl ⟨⟩ ?_
   refine⟨k+1,by omega,by omega,?_⟩
   rw[aR _ k rfl (by omega),show(k0+(aD (aD (fun _=>1)) (l.take k):Nat))+((aD (fun _=>1)) e:Nat)=k0+(aD (aD (fun _=>1)) (l.take (k+1)):Nat)by omega]
   try rfl
 ·rw[dg]at hb0
  try simp only[nb]at hb0
  refine W.exit ?_
  refine W.s0 X [4] rfl ⟨⟩ ?_
  refine W.ret ?_
  exact Fin.ret rfl ⟨by rw[List.take_of_length_le (by omega)],⟨⟩⟩
end
end Go.Proofs.YteodajeiagmekaaGreat.G
