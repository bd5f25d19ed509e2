/-
  Integers, hashes, streams of bytes.
-/
import Derived.Test.YteodajeiagmekaaGreatM18
import Derived.Test.YteodajeiagmekaaGreatM20
import Derived.Test.YteodajeiagmekaaGreatM21
namespace Go.Proofs.YteodajeiagmekaaGreat.G
set_option linter.all false
open Go.RowKit L D
section
set_option maxRecDepth 100000
theorem oE(l:List (List UInt8))(hl:l.length≤1048576)(hs0:(l.map List.length).sum≤1099511627776):Sound ty Tryz.prog 297 [.a (.sl (.sl .u8) l)] [.a (.sl .u8 l.flatten)]:=by
 refine Sound.o X Tryz.call297 Tryz.func297 Tryz.ntmps297 rfl rfl ?_
 intro zb
 refine W.s0 X [0] rfl ⟨⟩ ?_
 refine W.s0 X [0,3] rfl ⟨⟩ ?_
 refine W.seq ?_
 refine W.s0 X [0,3,9,10,11] rfl ⟨⟩ ?_
 refine W.block ?_
 refine W.aE (fun k=>k≤l.length) (fun k:Nat=> [(3, .one (.a (.lit (.int .i64 ((l.take k).map List.length).sum)))),(11, .one (.a (.lit (.int .i64 k))))]) (fun k=> []) (fun k=>l.length-k) 0 (fun k=>rfl) (Nat.zero_le _) rfl ?_
 intro k hk
 have hle:=dx l List.length k
 refine W.s0 X [0,3,9,10,11,12] rfl ⟨⟩ ?_
 refine W.seq ?_
 refine W.cond rfl (fun hb0=> ?_) (fun hb0=> ?_)
 ·try simp only[nb,an,aq,aa]at hb0
  have hs:=BC l (au (.sl .u8)) k hb0
  have JH:=dx l List.length (k+1)
  rw[hs]at JH
  refine W.skip ?_
  refine W.seq ?_
  refine W.block ?_
  refine W.s0 X [0,3,5,9,10,11] rfl (by and_intros<;>first|exact⟨⟩| (intros;omega)) ?_
  refine W.s0 X [0,3,9,10,11] rfl (by and_intros<;>exact⟨⟩) ?_
  refine W.s0 X [0,3,9,10,11,20] rfl ⟨⟩ ?_
  refine W.cond rfl (fun aB=> ?_) (fun aB=> ?_)
  ·try simp only[nb,an,aq,aa]at aB
   rw[bl (by omega)]at aB
   omega
  ·try simp only[nb,an,aq,aa]at aB
   refine W.skip ?_
   refine W.r0 X [0,3,9,10,11] rfl ⟨⟩ ?_
   refine⟨k+1,by omega,by omega,?_⟩
   rw[aR _ k rfl (by omega),hs]
   rw[bl (by simp only[Int.toNat_natCast];omega)]
   try rfl
 ·try simp only[nb,an,aq,aa]at hb0
  rw[List.take_of_length_le hb0]
  refine W.exit ?_
  refine W.sr X [] [(24,⟨true,[.a (.sl .u8 [])]⟩),(300024,⟨true,[]⟩)] [0,6] [] rfl (by(repeat' with_reducible first|exact aj.nil|refine aj.mk ?_ ?_|apply And.intro)<;>first|exact(qm _ hs0)) ?_
  refine W.seq ?_
  refine W.s0 X [6,25,26,27] rfl ⟨⟩ ?_
  refine W.block ?_
  refine W.aE (fun k1=>k1≤l.length) (fun k1:Nat=> [(27, .one (.a (.lit (.int .i64 k1))))]) (fun k1=> [(24, .arr .u8 (l.take k1).flatten)]) (fun k1=>l.length-k1) 0 (fun k1=>rfl) (Nat.zero_le _) rfl ?_
  intro k1 hk1
  have SM:=oQ l k1
  refine W.s0 X [6,25,26,27,28] rfl ⟨⟩ ?_
  refine W.seq ?_
  refine W.cond rfl (fun aM=> ?_) (fun aM=> ?_)
  ·try simp only[nb,an,aq,aa]at aM
   have hs1:=yS l (au (.sl .u8)) k1 aM
   have JH:=oQ l (k1+1)
   rw[hs1,List.length_append]at JH
   refine W.skip ?_
   refine W.seq ?_
   refine W.block ?_
   refine W.s0 X [6,8,25,26,27] rfl (by and_intros<;>first|exact⟨⟩| (intros;omega)) ?_
   refine W.cD X [(33,24)] [] [6,25,26,27] [] rfl (by and_intros<;>first|exact⟨⟩|exact rfl| (simp only[cT,maxLen,lens];omega)) ?_
   refine W.r0 X [6,25,26,27] rfl ⟨⟩ ?_
   refine⟨k1+1,by omega,by omega,?_⟩
   rw[aR _ k1 rfl (by omega),hs1]
   try rfl
  ·try simp only[nb,an,aq,aa]at aM
   refine W.exit ?_
   refine W.s0 X [2] rfl ⟨⟩ ?_
   refine W.ret ?_
   exact Fin.ret rfl ⟨by rw[List.take_of_length_le aM],⟨⟩⟩
end
end Go.Proofs.YteodajeiagmekaaGreat.G
