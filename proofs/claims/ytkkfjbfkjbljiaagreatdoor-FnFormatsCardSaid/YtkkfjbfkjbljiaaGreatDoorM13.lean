/-
  Transfers of a round.
-/
import Derived.Test.YtkkfjbfkjbljiaaGreatDoorM12
namespace Go.Proofs.YtkkfjbfkjbljiaaGreatDoor.G
set_option linter.all false
open Go.RowKit L D Tryz
section
set_option maxRecDepth 100000
set_option maxHeartbeats 4000000 in
theorem BW(v:Value)(c:bR)(x:bw)(b:List UInt8)(hcb:c.b=b)(hb:b.length≤1048576)(hx:qb x 100):dK ty Tryz.prog 77 [(1000, .box [.eF v .u8 b,aR (c.i:Int),aR c.h]),(61, .arr .bD x.an),(62, .arr .bP x.af),(64, .arr .aK x.aJ.rounds),(68, .arr .int x.replaced)] [.a (.ptr 1000 0), .agg [aR x.rows, .own 61, .own 62,aR x.aJ.rows, .own 64,aR x.bq,aR x.seed,aR x.round, .own 68,aR x.cancelled]] [(1000, .box [.eF v .u8 b,aR ((mu c).i:Int),aR (mu c).h]),(61, .arr .bD (iJ c x).an),(62, .arr .bP (iJ c x).af),(64, .arr .aK (iJ c x).aJ.rounds),(68, .arr .int (iJ c x).replaced)] [.agg [aR (iJ c x).rows, .own 61, .own 62,aR (iJ c x).aJ.rows, .own 64,aR (iJ c x).bq,aR (iJ c x).seed,aR (iJ c x).round, .own 68,aR (iJ c x).cancelled]]:=by
 refine cu X2 call77 func77 rfl rfl (by decide) ntmps77 (by simp) rfl ?_
 intro zb
 have hw:=Dr.of hx.ok
 obtain⟨hs1,hs2⟩:=hw.VL
 obtain⟨hd1,hd2⟩:=hw.XY
 clear hw
 refine av X2 [0,3,4] rfl (aa (aa ?_))
 have t1:=(aG v c 24 b hcb hb)
 refine aH X2 [] [(800006,⟨true,bA t1⟩),(700006,⟨true, .agg [.ptr 1000 1000]:: .agg []::bB t1⟩)] [0,3,4,6] [] rfl (by(with_reducible and_intros)<;>first|exact⟨⟩|exact t1|exact rfl) (aq (av X2 [0,3,4,6,7] rfl ?_))
 refine ak rfl ?_ ?_<;>intro hb0
 ·try simp only[aP]at hb0
  have hX:iJ c x=⟨([0,IntKind.i64.wrap (x.rows+1),65]:List Int).getD (aO (dI c) 3).toNat (aI .int),x.an,x.af,x.aJ,x.bq,x.seed,x.round,x.replaced,x.cancelled⟩:=(by unfold iJ;simp only[if_pos (show bN c=0 from hb0)])
  have hN:mu c=az (dI c) 3:=(by unfold mu;simp only[if_pos (show bN c=0 from hb0)])
  have t1:=(bU v (dI c) [0,IntKind.i64.wrap (x.rows+1),65] b (by rw[xR];exact hcb) hb (by simp))
  refine aH X2 [] [(800014,⟨true,bA t1⟩),(700014,⟨true, .agg [.ptr 1000 1000]:: .agg []::bB t1⟩)] [3,4] [] rfl (by(repeat' with_reducible first|exact aB|refine aE ?_ ?_|apply And.intro)<;>first|exact t1|exact rfl|exact⟨rfl,aA _ (by decide)⟩) ?_
  rw[show(([0,IntKind.i64.wrap (x.rows+1),65]:List Int).length:Int)=3 from rfl]
  exact aN X2 [4] rfl (by trivial) (aj (aW rfl (by and_intros<;>first|exact⟨⟩| (first| (simp only[hX,hN,dI];done)| (simp only[hX,hN,dI];with_reducible rfl)|with_reducible rfl;done))))
 ·try simp only[aP]at hb0
  refine av X2 [0,3,4,6,16] rfl ?_
  refine ak rfl ?_ ?_<;>intro bt
  ·try simp only[aP]at bt
   have hX:iJ c x=⟨x.rows,x.an.drop 1,x.af,x.aJ,x.bq,x.seed,x.round,x.replaced,x.cancelled⟩:=(by unfold iJ;simp only[if_neg (show¬bN c=0 from hb0),if_pos (show bN c=1 from bt)])
   have hN:mu c=dI c:=(by unfold mu;simp only[if_neg (show¬bN c=0 from hb0),if_pos (show bN c=1 from bt)])
   refine aH X2 [(20,61)] [(600020,⟨true,[]⟩)] [3,4] [] rfl (by and_intros<;>first|exact⟨⟩| (intros;omega)) ?_
   rw[show(Int.toNat 1)=1 from rfl]
   exact aN X2 [4] rfl (by trivial) (aj (aW rfl (by and_intros<;>first|exact⟨⟩| (first| (simp only[hX,hN,dI];done)| (simp only[hX,hN,dI];with_reducible rfl)|with_reducible rfl;done))))
  ·try simp only[aP]at bt
   refine av X2 [0,3,4,6,22] rfl ?_
   refine ak rfl ?_ ?_<;>intro bY
   ·try simp only[aP]at bY
    have hX:iJ c x=⟨x.rows,x.an,x.af.drop 1,x.aJ,x.bq,x.seed,x.round,x.replaced,x.cancelled⟩:=(by unfold iJ;simp only[if_neg (show¬bN c=0 from hb0),if_neg (show¬bN c=1 from bt),if_pos (show bN c=2 from bY)])
    have hN:mu c=dI c:=(by unfold mu;simp only[if_neg (show¬bN c=0 from hb0),if_neg (show¬bN c=1 from bt),if_pos (show bN c=2 from bY)])
    refine aH X2 [(26,62)] [(600026,⟨true,[]⟩)] [3,4] [] rfl (by and_intros<;>first|exact⟨⟩| (intros;omega)) ?_
    rw[show(Int.toNat 1)=1 from rfl]
    exact aN X2 [4] rfl (by trivial) (aj (aW rfl (by and_intros<;>first|exact⟨⟩| (first| (simp only[hX,hN,dI];done)| (simp only[hX,hN,dI];with_reducible rfl)|with_reducible rfl;done))))
   ·try simp only[aP]at bY
    refine av X2 [0,3,4,6,28] rfl ?_
    refine ak rfl ?_ ?_<;>intro fj
    ·try simp only[aP]at fj
     have hX:iJ c x=⟨x.rows,x.an,x.af,x.aJ,x.bq,x.seed,([-1,IntKind.i64.wrap (x.round+1),100001]:List Int).getD (aO (dI c) 3).toNat (aI .int),x.replaced,x.cancelled⟩:=(by unfold iJ;simp only[if_neg (show¬bN c=0 from hb0),if_neg (show¬bN c=1 from bt),if_neg (show¬bN c=2 from bY),if_pos (show bN c=3 from fj)])
     have hN:mu c=az (dI c) 3:=(by unfold mu;simp only[if_neg (show¬bN c=0 from hb0),if_neg (show¬bN c=1 from bt),if_neg (show¬bN c=2 from bY),if_pos (show bN c=3 from fj)])
     have t1:=(bU v (dI c) [-1,IntKind.i64.wrap (x.round+1),100001] b (by rw[xR];exact hcb) hb (by simp))
     refine aH X2 [] [(800035,⟨true,bA t1⟩),(700035,⟨true, .agg [.ptr 1000 1000]:: .agg []::bB t1⟩)] [3,4] [] rfl (by(repeat' with_reducible first|exact aB|refine aE ?_ ?_|apply And.intro)<;>first|exact t1|exact rfl|exact⟨rfl,aA _ (by decide)⟩) ?_
     rw[show(([-1,IntKind.i64.wrap (x.round+1),100001]:List Int).length:Int)=3 from rfl]
     exact aN X2 [4] rfl (by trivial) (aj (aW rfl (by and_intros<;>first|exact⟨⟩| (first| (simp only[hX,hN,dI];done)| (simp only[hX,hN,dI];with_reducible rfl)|with_reducible rfl;done))))
    ·try simp only[aP]at fj
     refine av X2 [0,3,4,6,37] rfl ?_
     refine ak rfl ?_ ?_<;>intro ql
     ·try simp only[aP]at ql
      have hX:iJ c x=⟨x.rows,x.an,x.af,ku (dI c),x.bq,x.seed,x.round,x.replaced,x.cancelled⟩:=(by unfold iJ;simp only[if_neg (show¬bN c=0 from hb0),if_neg (show¬bN c=1 from bt),if_neg (show¬bN c=2 from bY),if_neg (show¬bN c=3 from fj),if_pos (show bN c=4 from ql)])
      have hN:mu c=I9 (dI c):=(by unfold mu;simp only[if_neg (show¬bN c=0 from hb0),if_neg (show¬bN c=1 from bt),if_neg (show¬bN c=2 from bY),if_neg (show¬bN c=3 from fj),if_pos (show bN c=4 from ql)])
      have t1:=(tC v (dI c) b (by rw[xR];exact hcb) hb)
      exact aH X2 [] [(800040,⟨true,bA t1⟩),(700040,⟨true, .agg [.ptr 1000 1000]:: .agg [.ptr 61 164]::bB t1⟩)] [3,4] [] rfl (by(with_reducible and_intros)<;>first|exact⟨⟩|exact t1|exact rfl) (bp 164 64 rfl (aN X2 [4] rfl (by trivial) (aj (aW rfl (by and_intros<;>first|exact⟨⟩| (first| (simp only[hX,hN,dI];done)| (simp only[hX,hN,dI];with_reducible rfl)|with_reducible rfl;done))))))
     ·try simp only[aP]at ql
      refine av X2 [0,3,4,6,42] rfl ?_
      refine ak rfl ?_ ?_<;>intro E1
      ·try simp only[aP]at E1
       have hX:iJ c x=⟨x.rows,x.an,x.af,x.aJ,EU (dI c),x.seed,x.round,x.replaced,x.cancelled⟩:=(by unfold iJ;simp only[if_neg (show¬bN c=0 from hb0),if_neg (show¬bN c=1 from bt),if_neg (show¬bN c=2 from bY),if_neg (show¬bN c=3 from fj),if_neg (show¬bN c=4 from ql),if_pos (show bN c=5 from E1)])
       have hN:mu c=G8 (dI c):=(by unfold mu;simp only[if_neg (show¬bN c=0 from hb0),if_neg (show¬bN c=1 from bt),if_neg (show¬bN c=2 from bY),if_neg (show¬bN c=3 from fj),if_neg (show¬bN c=4 from ql),if_pos (show bN c=5 from E1)])
       have t1:=(tB v (dI c) b (by rw[xR];exact hcb) hb)
       exact aH X2 [] [(800045,⟨true,bA t1⟩),(700045,⟨true, .agg [.ptr 1000 1000]:: .agg []::bB t1⟩)] [3,4] [] rfl (by(with_reducible and_intros)<;>first|exact⟨⟩|exact t1|exact rfl) (aN X2 [4] rfl (by trivial) (aj (aW rfl (by and_intros<;>first|exact⟨⟩| (first| (simp only[hX,hN,dI];done)| (simp only[hX,hN,dI];with_reducible rfl)|with_reducible rfl;done)))))
      ·try simp only[aP]at E1
       refine av X2 [0,3,4,6,47] rfl ?_
       refine ak rfl ?_ ?_<;>intro Rj
       ·try simp only[aP]at Rj
        have hX:iJ c x=⟨x.rows,x.an,x.af,x.aJ,x.bq,x.seed,x.round,x.replaced, -1⟩:=(by unfold iJ;simp only[if_neg (show¬bN c=0 from hb0),if_neg (show¬bN c=1 from bt),if_neg (show¬bN c=2 from bY),if_neg (show¬bN c=3 from fj),if_neg (show¬bN c=4 from ql),if_neg (show¬bN c=5 from E1),if_pos (show bN c=6 from Rj)])
        have hN:mu c=dI c:=(by unfold mu;simp only[if_neg (show¬bN c=0 from hb0),if_neg (show¬bN c=1 from bt),if_neg (show¬bN c=2 from bY),if_neg (show¬bN c=3 from fj),if_neg (show¬bN c=4 from ql),if_neg (show¬bN c=5 from E1),if_pos (show bN c=6 from Rj)])
        exact bT X2 [3,4] rfl (aN X2 [4] rfl (by trivial) (aj (aW rfl (by and_intros<;>first|exact⟨⟩| (first| (simp only[hX,hN,dI];done)| (simp only[hX,hN,dI];with_reducible rfl)|with_reducible rfl;done)))))
       ·try simp only[aP]at Rj
        refine av X2 [0,3,4,6,50] rfl ?_
        refine ak rfl ?_ ?_<;>intro VW
        ·try simp only[aP]at VW
         have hX:iJ c x=⟨x.rows,x.an.set 0 (gR (dI c)),x.af,x.aJ,x.bq,x.seed,x.round,x.replaced,x.cancelled⟩:=(by unfold iJ;simp only[if_neg (show¬bN c=0 from hb0),if_neg (show¬bN c=1 from bt),if_neg (show¬bN c=2 from bY),if_neg (show¬bN c=3 from fj),if_neg (show¬bN c=4 from ql),if_neg (show¬bN c=5 from E1),if_neg (show¬bN c=6 from Rj),if_pos (show bN c=7 from VW)])
         have hN:mu c=s6 (dI c):=(by unfold mu;simp only[if_neg (show¬bN c=0 from hb0),if_neg (show¬bN c=1 from bt),if_neg (show¬bN c=2 from bY),if_neg (show¬bN c=3 from fj),if_neg (show¬bN c=4 from ql),if_neg (show¬bN c=5 from E1),if_neg (show¬bN c=6 from Rj),if_pos (show bN c=7 from VW)])
         have t1:=(tD v (dI c) b (by rw[xR];exact hcb) hb)
         refine bM X2 [] [(800055,⟨true,bA t1⟩),(700055,⟨true, .agg [.ptr 1000 1000]:: .agg [.ptr 23 123]::bB t1⟩)] [3,4] [] 23 2 MO (by kernel_rfl) rfl (by kernel_rfl) (by(with_reducible and_intros)<;>first|exact⟨⟩|exact t1| (intros;omega)|exact rfl) ?_
         rw[show(Int.toNat 0)=0 from rfl]
         exact aN X2 [4] rfl (by trivial) (aj (aW rfl (by and_intros<;>first|exact⟨⟩| (first| (simp only[hX,hN,dI];done)| (simp only[hX,hN,dI];with_reducible rfl)|with_reducible rfl;done))))
        ·try simp only[aP]at VW
         refine av X2 [0,3,4,57] rfl ?_
         refine ak rfl ?_ ?_<;>intro Zc
         ·try simp only[aP]at Zc
          have hX:iJ c x=⟨x.rows,x.an,x.af.set 0 (jd (dI c)),x.aJ,x.bq,x.seed,x.round,x.replaced,x.cancelled⟩:=(by unfold iJ;simp only[if_neg (show¬bN c=0 from hb0),if_neg (show¬bN c=1 from bt),if_neg (show¬bN c=2 from bY),if_neg (show¬bN c=3 from fj),if_neg (show¬bN c=4 from ql),if_neg (show¬bN c=5 from E1),if_neg (show¬bN c=6 from Rj),if_neg (show¬bN c=7 from VW),if_pos (show bN c=8 from Zc)])
          have hN:mu c=wk (dI c):=(by unfold mu;simp only[if_neg (show¬bN c=0 from hb0),if_neg (show¬bN c=1 from bt),if_neg (show¬bN c=2 from bY),if_neg (show¬bN c=3 from fj),if_neg (show¬bN c=4 from ql),if_neg (show¬bN c=5 from E1),if_neg (show¬bN c=6 from Rj),if_neg (show¬bN c=7 from VW),if_pos (show bN c=8 from Zc)])
          have t1:=(Co v (dI c) b (by rw[xR];exact hcb) hb)
          refine bM X2 [] [(800062,⟨true,bA t1⟩),(700062,⟨true, .agg [.ptr 1000 1000]:: .agg [.ptr 24 124, .ptr 26 126, .ptr 32 132, .ptr 34 134]::bB t1⟩)] [3,4] [] 23 2 MO (by kernel_rfl) rfl (by kernel_rfl) (by(with_reducible and_intros)<;>first|exact⟨⟩|exact t1| (intros;omega)|exact rfl) ?_
          rw[show(Int.toNat 0)=0 from rfl]
          exact aN X2 [4] rfl (by trivial) (aj (aW rfl (by and_intros<;>first|exact⟨⟩| (first| (simp only[hX,hN,dI];done)| (simp only[hX,hN,dI];with_reducible rfl)|with_reducible rfl;done))))
         ·try simp only[aP]at Zc
          have hX:iJ c x=x:=(by unfold iJ;simp only[if_neg (show¬bN c=0 from hb0),if_neg (show¬bN c=1 from bt),if_neg (show¬bN c=2 from bY),if_neg (show¬bN c=3 from fj),if_neg (show¬bN c=4 from ql),if_neg (show¬bN c=5 from E1),if_neg (show¬bN c=6 from Rj),if_neg (show¬bN c=7 from VW),if_neg (show¬bN c=8 from Zc)])
          have hN:mu c=dI c:=(by unfold mu;simp only[if_neg (show¬bN c=0 from hb0),if_neg (show¬bN c=1 from bt),if_neg (show¬bN c=2 from bY),if_neg (show¬bN c=3 from fj),if_neg (show¬bN c=4 from ql),if_neg (show¬bN c=5 from E1),if_neg (show¬bN c=6 from Rj),if_neg (show¬bN c=7 from VW),if_neg (show¬bN c=8 from Zc)])
          exact ay (aN X2 [4] rfl (by trivial) (aj (aW rfl (by and_intros<;>first|exact⟨⟩| (first| (simp only[hX,hN,dI];done)| (simp only[hX,hN,dI];with_reducible rfl)|with_reducible rfl;done)))))
theorem Cp(v:Value)(c:bR)(s:Int)(b:List UInt8)(hcb:c.b=b)(hb:b.length≤1048576)(hs0:1≤s∧s≤100):dK ty Tryz.prog 56 [(1000, .box [.eF v .u8 b,aR (c.i:Int),aR c.h])] [.a (.ptr 1000 0),aL s] [(1000, .box [.eF v .u8 b,aR ((rrC c s).i:Int),aR (rrC c s).h]),(61, .arr .bD (xS c s).an),(62, .arr .bP (xS c s).af),(64, .arr .aK (xS c s).aJ.rounds),(68, .arr .int (xS c s).replaced)] [.agg [aR (xS c s).rows, .own 61, .own 62,aR (xS c s).aJ.rows, .own 64,aR (xS c s).bq,aR (xS c s).seed,aR (xS c s).round, .own 68,aR (xS c s).cancelled]]:=by
 refine cu X2 call56 func56 rfl rfl (by decide) ntmps56 (by simp) rfl ?_
 intro zb
 refine av X2 [0,1,4] rfl (aa ?_)
 have t1:=(BO v c s b hcb hb ⟨by omega,by omega⟩)
 have t2:=(BW v ((BN c s).1) ((BN c s).2) b (by rw[aaW];exact hcb) hb (Rf c hs0))
 exact aH X2 [] [(800008,⟨true,bA t1⟩),(700008,⟨true, .agg [.ptr 1000 1000]:: .agg [.ptr 61 61, .ptr 62 62, .ptr 64 64, .ptr 68 68]::bB t1⟩),(800009,⟨true,bA t2⟩),(700009,⟨true, .agg [.ptr 1000 1000, .ptr 61 61, .ptr 62 62, .ptr 64 64, .ptr 68 68]:: .agg []::bB t2⟩)] [4] [] rfl (by(with_reducible and_intros);(iterate 2 all_goals try first|exact⟨⟩|exact t1|exact t2);all_goals first|exact rfl) (aj (aW rfl ⟨rfl,rfl,rfl,rfl,rfl,rfl,rfl,rfl,rfl,rfl,rfl,rfl,rfl,rfl,⟨⟩⟩))
end
section
set_option maxRecDepth 100000
theorem wu(c s r:Int):So 70 [aL c,aL s,aL r] [bh (ot c s r)]:=by
 refine aD X call70 func70 ntmps70 rfl rfl ?_
 intro zb
 exact av X [0,1,2] rfl (aS X [] [(8,⟨false,[bh (inr c 0 8)]⟩),(11,⟨false,[bh (cW s)]⟩),(15,⟨false,[bh (inr r 1 64)]⟩)] [6] [] rfl (by(with_reducible and_intros);(iterate 3 all_goals try first|exact⟨⟩|exact(aU c 0 8)|exact fun _=>(eR s)|exact fun _=>(aU r 1 64))) (aj (ah rfl ⟨(congrArg Value.bool (by simp only[ot,bK]<;>first|rfl|ac_rfl)),⟨⟩⟩)))
theorem ou(r:Int):So 71 [aL r] [aL (mA r)]:=by
 refine aD X call71 func71 ntmps71 rfl rfl ?_
 intro zb
 refine av X [0] rfl (aa (aS X [] [(4,⟨false,[bh (inr r 1 64)]⟩)] [0,5] [] rfl (by(with_reducible and_intros)<;>first|exact⟨⟩|exact(aU r 1 64)) ?_))
 refine ak rfl ?_ ?_<;>intro hb0
 ·try simp only[aP]at hb0
  exact av X [2] rfl (aj (ah rfl ⟨by rw[mA,if_neg (by omega)],⟨⟩⟩))
 ·try simp only[aP]at hb0
  exact ay (av X [2] rfl (aj (ah rfl ⟨by rw[mA,if_pos (by omega),aM (by omega)],⟨⟩⟩)))
theorem gL(c s r:Int):So 51 [aL c,aL s,aL r] [.a (.sl .iy (wT c s r))]:=by
 refine aD X call51 func51 ntmps51 rfl rfl ?_
 intro zb
 refine av X [0,1,2] rfl (aN X [0,1,2,7] rfl (by and_intros<;>first|exact⟨⟩|exact rfl) (aa (av X [0,1,2,7,8] rfl ?_)))
 refine aq (aQ (fun k=>k≤c.toNat∧(k=0∨ot c s r=true)) (fun k:Nat=> [(8, .one ((aL k)))]) (fun k=> [(10, .arr .iy (fm (fun a=>fm (KR r a) s.toNat) k))]) (fun k=>c.toNat-k) 0 (fun k=>rfl) ⟨Nat.zero_le _,Or.inl rfl⟩ rfl ?_)
 rintro k ⟨hk,hks⟩
 refine aa (aS X [] [(18,⟨false,[bh (ot c s r)]⟩)] [0,1,2,7,8,19] [] rfl (by(with_reducible and_intros)<;>first|exact⟨⟩|exact fun _=>(wu c s r)) ?_)
 refine ak rfl ?_ ?_<;>intro hb0
 ·have hq:(decide ((k:Int)<c)&&ot c s r)=true:=Hl hb0 (by simp only[bK]<;>first|rfl|ac_rfl)
  simp only[Bool.and_eq_true,decide_eq_true_eq]at hq
  have hk0:=hq.2
  have hok:=xX hk0
  have hle:=Rr (r:=r) (s:=s) (k:=k) (by omega) (by omega)
  refine ay (aa (aq (av X [0,1,2,7,8,9] rfl ?_)))
  refine aq (aQ (fun k1=>k1≤s.toNat) (fun k1:Nat=> [(9, .one ((aL k1)))]) (fun k1=> [(10, .arr .iy (fm (fun a=>fm (KR r a) s.toNat) k++fm (KR r k) k1))]) (fun k1=>s.toNat-k1) 0 (fun k1=>rfl) (Nat.zero_le _) (by simp[KQ]) ?_)
  intro k1 hk1
  have TH:=Rq (r:=r) (s:=s) (by omega) k hk1
  refine aa (av X [0,1,2,7,8,9,24] rfl ?_)
  refine ak rfl ?_ ?_<;>intro bt
  ·try simp only[aP]at bt
   have hw:IntKind.i64.wrap (100+(k1:Int))=100+(k1:Int):=aM (by omega)
   have hs1:fm (KR r k) (k1+1)=fm (KR r k) k1++ [⟨(k:Int),100+(k1:Int),mA r⟩]:=sL _ _
   refine ay (aa (aq (aH X [(35,10)] [(32,⟨false,[aL (mA r)]⟩)] [0,1,2,7,8,9] [] rfl (by(repeat' with_reducible first|exact aB|refine aE ?_ ?_|apply And.intro)<;>first|exact(ou r)|exact rfl|exact⟨rfl,aA _ (by decide)⟩| (simp only[b7,maxLen,lens];omega)) ?_)))
   refine bT X [0,1,2,7,8,9] rfl ?_
   refine⟨k1+1,by omega,by omega,?_⟩
   rw[cw _ k1 rfl (by omega),hw,List.append_assoc, ←hs1]
   try rfl
  ·try simp only[aP]at bt
   have hs:fm (fun a=>fm (KR r a) s.toNat) (k+1)=fm (fun a=>fm (KR r a) s.toNat) k++fm (KR r k) s.toNat:=sL _ _
   rw[show k1=s.toNat by omega, ←hs]
   refine aV (bT X [0,1,2,7,8] rfl ?_)
   refine⟨k+1,⟨by omega,Or.inr hk0⟩,by omega,?_⟩
   rw[cw _ k rfl (by omega)]
   try rfl
 ·have hq:(decide ((k:Int)<c)&&ot c s r)=false:=KS hb0 (by simp only[bK]<;>first|rfl|ac_rfl)
  exact aV (av X [6] rfl (aj (ah rfl ⟨US hk hks hq,⟨⟩⟩)))
theorem fX(s r:Int):So 50 [aL s,aL r] [.a (.sl .iy (pT s r))]:=by
 refine aD X call50 func50 ntmps50 rfl rfl ?_
 intro zb
 refine av X [0,1] rfl (aN X [0,1,5] rfl (by and_intros<;>first|exact⟨⟩|exact rfl) (aa (av X [0,1,5,6] rfl ?_)))
 refine aq (aQ (fun k=>k≤s.toNat∧(k=0∨ot 0 s r=true)) (fun k:Nat=> [(6, .one ((aL k)))]) (fun k=> [(8, .arr .iy (fm (fun a=>fm (Fb r a) s.toNat) k))]) (fun k=>s.toNat-k) 0 (fun k=>rfl) ⟨Nat.zero_le _,Or.inl rfl⟩ rfl ?_)
 rintro k ⟨hk,hks⟩
 refine aa (aS X [] [(15,⟨false,[bh (ot 0 s r)]⟩)] [0,1,5,6,16] [] rfl (by(with_reducible and_intros)<;>first|exact⟨⟩|exact fun _=>(wu 0 s r)) ?_)
 refine ak rfl ?_ ?_<;>intro hb0
 ·have hq:(decide ((k:Int)<s)&&ot 0 s r)=true:=Hl hb0 (by simp only[bK]<;>first|rfl|ac_rfl)
  simp only[Bool.and_eq_true,decide_eq_true_eq]at hq
  have hk0:=hq.2
  have hok:=xX hk0
  have hle:=Rt (r:=r) (s:=s) (k:=k) (by omega) hk
  refine ay (aa (aq (av X [0,1,5,6,7] rfl ?_)))
  refine aq (aQ (fun k1=>k1≤s.toNat) (fun k1:Nat=> [(7, .one ((aL k1)))]) (fun k1=> [(8, .arr .iy (fm (fun a=>fm (Fb r a) s.toNat) k++fm (Fb r k) k1))]) (fun k1=>s.toNat-k1) 0 (fun k1=>rfl) (Nat.zero_le _) (by simp[KQ]) ?_)
  intro k1 hk1
  have TH:=Rs (r:=r) (s:=s) (by omega) k hk1
  refine aa (av X [0,1,5,6,7,21] rfl ?_)
  refine ak rfl ?_ ?_<;>intro bt
  ·try simp only[aP]at bt
   refine ay (aa (aq (av X [0,1,5,6,7,26] rfl ?_)))
   refine ak rfl ?_ ?_<;>intro bY
   ·try simp only[aP]at bY
    have hw:IntKind.i64.wrap (100+(k1:Int))=100+(k1:Int):=aM (by omega)
    have hwk:IntKind.i64.wrap (100+(k:Int))=100+(k:Int):=aM (by omega)
    have hs1:fm (Fb r k) (k1+1)=fm (Fb r k) k1++ [⟨100+(k:Int),100+(k1:Int),mA r⟩]:=by rw[sL,Fb,if_neg (by omega)]
    refine aH X [(36,8)] [(33,⟨false,[aL (mA r)]⟩)] [0,1,5,6,7] [] rfl (by(repeat' with_reducible first|exact aB|refine aE ?_ ?_|apply And.intro)<;>first|exact(ou r)|exact rfl|exact⟨rfl,aA _ (by decide)⟩| (simp only[b7,maxLen,lens];omega)) ?_
    refine bT X [0,1,5,6,7] rfl ?_
    refine⟨k1+1,by omega,by omega,?_⟩
    rw[cw _ k1 rfl (by omega),hw,hwk,List.append_assoc, ←hs1]
    try rfl
   ·try simp only[aP]at bY
    have hs1:fm (Fb r k) (k1+1)=fm (Fb r k) k1:=by rw[sL,Fb,if_pos (by omega),List.append_nil]
    refine ay (bT X [0,1,5,6,7] rfl ?_)
    refine⟨k1+1,by omega,by omega,?_⟩
    rw[cw _ k1 rfl (by omega),hs1]
    try rfl
  ·try simp only[aP]at bt
   have hs:fm (fun a=>fm (Fb r a) s.toNat) (k+1)=fm (fun a=>fm (Fb r a) s.toNat) k++fm (Fb r k) s.toNat:=sL _ _
   rw[show k1=s.toNat by omega, ←hs]
   refine aV (bT X [0,1,5,6] rfl ?_)
   refine⟨k+1,⟨by omega,Or.inr hk0⟩,by omega,?_⟩
   rw[cw _ k rfl (by omega)]
   try rfl
 ·have hq:(decide ((k:Int)<s)&&ot 0 s r)=false:=KS hb0 (by simp only[bK]<;>first|rfl|ac_rfl)
  exact aV (av X [4] rfl (aj (ah rfl ⟨UT hk hks hq,⟨⟩⟩)))
end
end Go.Proofs.YtkkfjbfkjbljiaaGreatDoor.G
