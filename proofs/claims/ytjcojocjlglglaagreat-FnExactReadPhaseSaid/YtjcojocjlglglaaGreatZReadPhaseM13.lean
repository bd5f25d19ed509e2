/-
  The arguments of the laws, opened.
-/
import Derived.Test.YtjcojocjlglglaaGreatZReadPhaseM12
import Derived.Test.YtjcojocjlglglaaGreatZReadPhaseM3
namespace Go.Proofs.YtjcojocjlglglaaGreat.C
set_option linter.all false
open Go.RowKit L D
set_option maxRecDepth 100000 in
theorem By{H:Type}{enc:TypeId×Value→H}{w:World}{spare:Nat→Bool}{held:Bool}:lH enc Tryz.prog w spare held 215 Im Fl:=by
 intro fuel cs y h
 obtain⟨xs,n,_,_,hl,hlen,hf⟩:=DataW.trod_struct Tryz.underlying215 h
 have jq:cs.length=1:=hl.trans (by kernel_rfl)
 obtain⟨c0,rfl⟩: ∃c0,cs= [c0]:=by
  match cs,jq with
  | [c0],_=>exact⟨_,rfl⟩
 obtain⟨y0,hy0⟩: ∃y,xs[0]? =some y:=⟨_,List.getElem?_eq_getElem (by rw[hlen];decide)⟩
 have q0:DataW.trod enc Tryz.prog w 0 spare held n 87 (List.take (Tryz.prog.cellsOf 87) (List.drop 0 [c0]))=xs[0]? :=hf 0 _ rfl
 rw[hy0,show Tryz.prog.cellsOf 87=1 from by kernel_rfl]at q0
 have q0:DataW.trod enc Tryz.prog w 0 spare held n 87 [c0]=some y0:=q0
 obtain⟨x0,f0,e0,w0⟩:=(eA (k:=1) Tryz.underlying87 (by kernel_rfl) (by decide) (eA (k:=1) Tryz.underlying52 (by kernel_rfl) (by decide) (uC Tryz.underlying5))) _ _ _ q0
 have e0:(zV 1 (zV 1 Bz)) w [c0] x0 f0:=e0
 obtain⟨v0,z0,e0⟩:=e0
 simp only[List.cons.injEq,and_true]at z0
 subst z0
 exact⟨⟨x0⟩,_,⟨_,_,rfl,e0,rfl⟩,w0⟩
set_option maxRecDepth 100000 in
theorem zS{H:Type}{enc:TypeId×Value→H}{w:World}{spare:Nat→Bool}{held:Bool}:lH enc Tryz.prog w spare held 264 kK xm:=by
 intro fuel cs y h
 obtain⟨xs,n,_,_,hl,hlen,hf⟩:=DataW.trod_struct Tryz.underlying264 h
 have jq:cs.length=2:=hl.trans (by kernel_rfl)
 obtain⟨c0,c1,rfl⟩: ∃c0 c1,cs= [c0,c1]:=by
  match cs,jq with
  | [c0,c1],_=>exact⟨_,_,rfl⟩
 obtain⟨y0,hy0⟩: ∃y,xs[0]? =some y:=⟨_,List.getElem?_eq_getElem (by rw[hlen];decide)⟩
 have q0:DataW.trod enc Tryz.prog w 0 spare held n 3 (List.take (Tryz.prog.cellsOf 3) (List.drop 0 [c0,c1]))=xs[0]? :=hf 0 _ rfl
 rw[hy0,show Tryz.prog.cellsOf 3=1 from by kernel_rfl]at q0
 have q0:DataW.trod enc Tryz.prog w 0 spare held n 3 [c0]=some y0:=q0
 obtain⟨x0,f0,e0,w0⟩:=(bQ Tryz.underlying3) _ _ _ q0
 have e0:iq w [c0] x0 f0:=e0
 obtain⟨z0,_⟩:=e0
 simp only[List.cons.injEq,and_true]at z0
 obtain⟨y1,hy1⟩: ∃y,xs[1]? =some y:=⟨_,List.getElem?_eq_getElem (by rw[hlen];decide)⟩
 have q1:DataW.trod enc Tryz.prog w 0 spare held n 215 (List.take (Tryz.prog.cellsOf 215) (List.drop 1 [c0,c1]))=xs[1]? :=hf 1 _ rfl
 rw[hy1,show Tryz.prog.cellsOf 215=1 from by kernel_rfl]at q1
 have q1:DataW.trod enc Tryz.prog w 0 spare held n 215 [c1]=some y1:=q1
 obtain⟨x1,f1,e1,w1⟩:=By _ _ _ q1
 have e1:Im w [c1] x1 f1:=e1
 subst z0
 exact⟨⟨x0,x1⟩,_,⟨_,_,rfl,e1,rfl⟩,⟨w0,w1⟩⟩
set_option maxRecDepth 100000 in
theorem E9{H:Type}{enc:TypeId×Value→H}{w:World}{spare:Nat→Bool}{held:Bool}:lH enc Tryz.prog w spare held 144 BM Fp:=by
 intro fuel cs y h
 obtain⟨xs,n,_,_,hl,hlen,hf⟩:=DataW.trod_struct Tryz.underlying144 h
 have jq:cs.length=5:=hl.trans (by kernel_rfl)
 obtain⟨c0,c1,c2,c3,c4,rfl⟩: ∃c0 c1 c2 c3 c4,cs= [c0,c1,c2,c3,c4]:=by
  match cs,jq with
  | [c0,c1,c2,c3,c4],_=>exact⟨_,_,_,_,_,rfl⟩
 obtain⟨y0,hy0⟩: ∃y,xs[0]? =some y:=⟨_,List.getElem?_eq_getElem (by rw[hlen];decide)⟩
 have q0:DataW.trod enc Tryz.prog w 0 spare held n 3 (List.take (Tryz.prog.cellsOf 3) (List.drop 0 [c0,c1,c2,c3,c4]))=xs[0]? :=hf 0 _ rfl
 rw[hy0,show Tryz.prog.cellsOf 3=1 from by kernel_rfl]at q0
 have q0:DataW.trod enc Tryz.prog w 0 spare held n 3 [c0]=some y0:=q0
 obtain⟨x0,f0,e0,w0⟩:=(bQ Tryz.underlying3) _ _ _ q0
 have e0:iq w [c0] x0 f0:=e0
 obtain⟨z0,_⟩:=e0
 simp only[List.cons.injEq,and_true]at z0
 obtain⟨y1,hy1⟩: ∃y,xs[1]? =some y:=⟨_,List.getElem?_eq_getElem (by rw[hlen];decide)⟩
 have q1:DataW.trod enc Tryz.prog w 0 spare held n 3 (List.take (Tryz.prog.cellsOf 3) (List.drop 1 [c0,c1,c2,c3,c4]))=xs[1]? :=hf 1 _ rfl
 rw[hy1,show Tryz.prog.cellsOf 3=1 from by kernel_rfl]at q1
 have q1:DataW.trod enc Tryz.prog w 0 spare held n 3 [c1]=some y1:=q1
 obtain⟨x1,f1,e1,w1⟩:=(bQ Tryz.underlying3) _ _ _ q1
 have e1:iq w [c1] x1 f1:=e1
 obtain⟨z1,_⟩:=e1
 simp only[List.cons.injEq,and_true]at z1
 obtain⟨y2,J4⟩: ∃y,xs[2]? =some y:=⟨_,List.getElem?_eq_getElem (by rw[hlen];decide)⟩
 have q2:DataW.trod enc Tryz.prog w 0 spare held n 3 (List.take (Tryz.prog.cellsOf 3) (List.drop 2 [c0,c1,c2,c3,c4]))=xs[2]? :=hf 2 _ rfl
 rw[J4,show Tryz.prog.cellsOf 3=1 from by kernel_rfl]at q2
 have q2:DataW.trod enc Tryz.prog w 0 spare held n 3 [c2]=some y2:=q2
 obtain⟨x2,f2,e2,w2⟩:=(bQ Tryz.underlying3) _ _ _ q2
 have e2:iq w [c2] x2 f2:=e2
 obtain⟨z2,_⟩:=e2
 simp only[List.cons.injEq,and_true]at z2
 obtain⟨y3,NG⟩: ∃y,xs[3]? =some y:=⟨_,List.getElem?_eq_getElem (by rw[hlen];decide)⟩
 have q3:DataW.trod enc Tryz.prog w 0 spare held n 142 (List.take (Tryz.prog.cellsOf 142) (List.drop 3 [c0,c1,c2,c3,c4]))=xs[3]? :=hf 3 _ rfl
 rw[NG,show Tryz.prog.cellsOf 142=1 from by kernel_rfl]at q3
 have q3:DataW.trod enc Tryz.prog w 0 spare held n 142 [c3]=some y3:=q3
 obtain⟨x3,f3,e3,w3⟩:=(eA (k:=2) Tryz.underlying142 (by kernel_rfl) (by decide) zS) _ _ _ q3
 have e3:(zV 2 kK) w [c3] x3 f3:=e3
 obtain⟨v3,z3,e3⟩:=e3
 simp only[List.cons.injEq,and_true]at z3
 obtain⟨y4,NH⟩: ∃y,xs[4]? =some y:=⟨_,List.getElem?_eq_getElem (by rw[hlen];decide)⟩
 have q4:DataW.trod enc Tryz.prog w 0 spare held n 3 (List.take (Tryz.prog.cellsOf 3) (List.drop 4 [c0,c1,c2,c3,c4]))=xs[4]? :=hf 4 _ rfl
 rw[NH,show Tryz.prog.cellsOf 3=1 from by kernel_rfl]at q4
 have q4:DataW.trod enc Tryz.prog w 0 spare held n 3 [c4]=some y4:=q4
 obtain⟨x4,f4,e4,w4⟩:=(bQ Tryz.underlying3) _ _ _ q4
 have e4:iq w [c4] x4 f4:=e4
 obtain⟨z4,_⟩:=e4
 simp only[List.cons.injEq,and_true]at z4
 subst z0
 subst z1
 subst z2
 subst z3
 subst z4
 exact⟨⟨x0,x1,x2,x3,x4⟩,_,⟨_,_,rfl,e3,rfl⟩,⟨w0,w1,w2,w3,w4⟩⟩
set_option maxRecDepth 100000 in
theorem zT{H:Type}{enc:TypeId×Value→H}{w:World}{spare:Nat→Bool}{held:Bool}:lH enc Tryz.prog w spare held 217 kL xp:=by
 intro fuel cs y h
 obtain⟨xs,n,_,_,hl,hlen,hf⟩:=DataW.trod_struct Tryz.underlying217 h
 have jq:cs.length=2:=hl.trans (by kernel_rfl)
 obtain⟨c0,c1,rfl⟩: ∃c0 c1,cs= [c0,c1]:=by
  match cs,jq with
  | [c0,c1],_=>exact⟨_,_,rfl⟩
 obtain⟨y0,hy0⟩: ∃y,xs[0]? =some y:=⟨_,List.getElem?_eq_getElem (by rw[hlen];decide)⟩
 have q0:DataW.trod enc Tryz.prog w 0 spare held n 3 (List.take (Tryz.prog.cellsOf 3) (List.drop 0 [c0,c1]))=xs[0]? :=hf 0 _ rfl
 rw[hy0,show Tryz.prog.cellsOf 3=1 from by kernel_rfl]at q0
 have q0:DataW.trod enc Tryz.prog w 0 spare held n 3 [c0]=some y0:=q0
 obtain⟨x0,f0,e0,w0⟩:=(bQ Tryz.underlying3) _ _ _ q0
 have e0:iq w [c0] x0 f0:=e0
 obtain⟨z0,_⟩:=e0
 simp only[List.cons.injEq,and_true]at z0
 obtain⟨y1,hy1⟩: ∃y,xs[1]? =some y:=⟨_,List.getElem?_eq_getElem (by rw[hlen];decide)⟩
 have q1:DataW.trod enc Tryz.prog w 0 spare held n 215 (List.take (Tryz.prog.cellsOf 215) (List.drop 1 [c0,c1]))=xs[1]? :=hf 1 _ rfl
 rw[hy1,show Tryz.prog.cellsOf 215=1 from by kernel_rfl]at q1
 have q1:DataW.trod enc Tryz.prog w 0 spare held n 215 [c1]=some y1:=q1
 obtain⟨x1,f1,e1,w1⟩:=By _ _ _ q1
 have e1:Im w [c1] x1 f1:=e1
 subst z0
 exact⟨⟨x0,x1⟩,_,⟨_,_,rfl,e1,rfl⟩,⟨w0,w1⟩⟩
set_option maxRecDepth 100000 in
theorem Fa{H:Type}{enc:TypeId×Value→H}{w:World}{spare:Nat→Bool}{held:Bool}:lH enc Tryz.prog w spare held 26 BN Fq:=by
 intro fuel cs y h
 obtain⟨xs,n,_,_,hl,hlen,hf⟩:=DataW.trod_struct Tryz.underlying26 h
 have jq:cs.length=2:=hl.trans (by kernel_rfl)
 obtain⟨c0,c1,rfl⟩: ∃c0 c1,cs= [c0,c1]:=by
  match cs,jq with
  | [c0,c1],_=>exact⟨_,_,rfl⟩
 obtain⟨y0,hy0⟩: ∃y,xs[0]? =some y:=⟨_,List.getElem?_eq_getElem (by rw[hlen];decide)⟩
 have q0:DataW.trod enc Tryz.prog w 0 spare held n 3 (List.take (Tryz.prog.cellsOf 3) (List.drop 0 [c0,c1]))=xs[0]? :=hf 0 _ rfl
 rw[hy0,show Tryz.prog.cellsOf 3=1 from by kernel_rfl]at q0
 have q0:DataW.trod enc Tryz.prog w 0 spare held n 3 [c0]=some y0:=q0
 obtain⟨x0,f0,e0,w0⟩:=(bQ Tryz.underlying3) _ _ _ q0
 have e0:iq w [c0] x0 f0:=e0
 obtain⟨z0,_⟩:=e0
 simp only[List.cons.injEq,and_true]at z0
 obtain⟨y1,hy1⟩: ∃y,xs[1]? =some y:=⟨_,List.getElem?_eq_getElem (by rw[hlen];decide)⟩
 have q1:DataW.trod enc Tryz.prog w 0 spare held n 24 (List.take (Tryz.prog.cellsOf 24) (List.drop 1 [c0,c1]))=xs[1]? :=hf 1 _ rfl
 rw[hy1,show Tryz.prog.cellsOf 24=1 from by kernel_rfl]at q1
 have q1:DataW.trod enc Tryz.prog w 0 spare held n 24 [c1]=some y1:=q1
 obtain⟨x1,f1,e1,w1⟩:=(eA (k:=2) Tryz.underlying24 (by kernel_rfl) (by decide) zT) _ _ _ q1
 have e1:(zV 2 kL) w [c1] x1 f1:=e1
 obtain⟨v1,z1,e1⟩:=e1
 simp only[List.cons.injEq,and_true]at z1
 subst z0
 subst z1
 exact⟨⟨x0,x1⟩,_,⟨_,_,rfl,e1,rfl⟩,⟨w0,w1⟩⟩
set_option maxRecDepth 100000 in
theorem yz{H:Type}{enc:TypeId×Value→H}{w:World}{spare:Nat→Bool}{held:Bool}:lH enc Tryz.prog w spare held 146 yD BO:=by
 intro fuel cs y h
 obtain⟨xs,n,_,_,hl,hlen,hf⟩:=DataW.trod_struct Tryz.underlying146 h
 have jq:cs.length=8:=hl.trans (by kernel_rfl)
 obtain⟨c0,c1,c2,c3,c4,c5,c6,c7,rfl⟩: ∃c0 c1 c2 c3 c4 c5 c6 c7,cs= [c0,c1,c2,c3,c4,c5,c6,c7]:=by
  match cs,jq with
  | [c0,c1,c2,c3,c4,c5,c6,c7],_=>exact⟨_,_,_,_,_,_,_,_,rfl⟩
 obtain⟨y0,hy0⟩: ∃y,xs[0]? =some y:=⟨_,List.getElem?_eq_getElem (by rw[hlen];decide)⟩
 have q0:DataW.trod enc Tryz.prog w 0 spare held n 3 (List.take (Tryz.prog.cellsOf 3) (List.drop 0 [c0,c1,c2,c3,c4,c5,c6,c7]))=xs[0]? :=hf 0 _ rfl
 rw[hy0,show Tryz.prog.cellsOf 3=1 from by kernel_rfl]at q0
 have q0:DataW.trod enc Tryz.prog w 0 spare held n 3 [c0]=some y0:=q0
 obtain⟨x0,f0,e0,w0⟩:=(bQ Tryz.underlying3) _ _ _ q0
 have e0:iq w [c0] x0 f0:=e0
 obtain⟨z0,_⟩:=e0
 simp only[List.cons.injEq,and_true]at z0
 obtain⟨y1,hy1⟩: ∃y,xs[1]? =some y:=⟨_,List.getElem?_eq_getElem (by rw[hlen];decide)⟩
 have q1:DataW.trod enc Tryz.prog w 0 spare held n 3 (List.take (Tryz.prog.cellsOf 3) (List.drop 1 [c0,c1,c2,c3,c4,c5,c6,c7]))=xs[1]? :=hf 1 _ rfl
 rw[hy1,show Tryz.prog.cellsOf 3=1 from by kernel_rfl]at q1
 have q1:DataW.trod enc Tryz.prog w 0 spare held n 3 [c1]=some y1:=q1
 obtain⟨x1,f1,e1,w1⟩:=(bQ Tryz.underlying3) _ _ _ q1
 have e1:iq w [c1] x1 f1:=e1
 obtain⟨z1,_⟩:=e1
 simp only[List.cons.injEq,and_true]at z1
 obtain⟨y2,J4⟩: ∃y,xs[2]? =some y:=⟨_,List.getElem?_eq_getElem (by rw[hlen];decide)⟩
 have q2:DataW.trod enc Tryz.prog w 0 spare held n 3 (List.take (Tryz.prog.cellsOf 3) (List.drop 2 [c0,c1,c2,c3,c4,c5,c6,c7]))=xs[2]? :=hf 2 _ rfl
 rw[J4,show Tryz.prog.cellsOf 3=1 from by kernel_rfl]at q2
 have q2:DataW.trod enc Tryz.prog w 0 spare held n 3 [c2]=some y2:=q2
 obtain⟨x2,f2,e2,w2⟩:=(bQ Tryz.underlying3) _ _ _ q2
 have e2:iq w [c2] x2 f2:=e2
 obtain⟨z2,_⟩:=e2
 simp only[List.cons.injEq,and_true]at z2
 obtain⟨y3,NG⟩: ∃y,xs[3]? =some y:=⟨_,List.getElem?_eq_getElem (by rw[hlen];decide)⟩
 have q3:DataW.trod enc Tryz.prog w 0 spare held n 3 (List.take (Tryz.prog.cellsOf 3) (List.drop 3 [c0,c1,c2,c3,c4,c5,c6,c7]))=xs[3]? :=hf 3 _ rfl
 rw[NG,show Tryz.prog.cellsOf 3=1 from by kernel_rfl]at q3
 have q3:DataW.trod enc Tryz.prog w 0 spare held n 3 [c3]=some y3:=q3
 obtain⟨x3,f3,e3,w3⟩:=(bQ Tryz.underlying3) _ _ _ q3
 have e3:iq w [c3] x3 f3:=e3
 obtain⟨z3,_⟩:=e3
 simp only[List.cons.injEq,and_true]at z3
 obtain⟨y4,NH⟩: ∃y,xs[4]? =some y:=⟨_,List.getElem?_eq_getElem (by rw[hlen];decide)⟩
 have q4:DataW.trod enc Tryz.prog w 0 spare held n 87 (List.take (Tryz.prog.cellsOf 87) (List.drop 4 [c0,c1,c2,c3,c4,c5,c6,c7]))=xs[4]? :=hf 4 _ rfl
 rw[NH,show Tryz.prog.cellsOf 87=1 from by kernel_rfl]at q4
 have q4:DataW.trod enc Tryz.prog w 0 spare held n 87 [c4]=some y4:=q4
 obtain⟨x4,f4,e4,w4⟩:=(eA (k:=1) Tryz.underlying87 (by kernel_rfl) (by decide) (eA (k:=1) Tryz.underlying52 (by kernel_rfl) (by decide) (uC Tryz.underlying5))) _ _ _ q4
 have e4:(zV 1 (zV 1 Bz)) w [c4] x4 f4:=e4
 obtain⟨v4,z4,e4⟩:=e4
 simp only[List.cons.injEq,and_true]at z4
 obtain⟨y5,Pa⟩: ∃y,xs[5]? =some y:=⟨_,List.getElem?_eq_getElem (by rw[hlen];decide)⟩
 have q5:DataW.trod enc Tryz.prog w 0 spare held n 3 (List.take (Tryz.prog.cellsOf 3) (List.drop 5 [c0,c1,c2,c3,c4,c5,c6,c7]))=xs[5]? :=hf 5 _ rfl
 rw[Pa,show Tryz.prog.cellsOf 3=1 from by kernel_rfl]at q5
 have q5:DataW.trod enc Tryz.prog w 0 spare held n 3 [c5]=some y5:=q5
 obtain⟨x5,f5,e5,w5⟩:=(bQ Tryz.underlying3) _ _ _ q5
 have e5:iq w [c5] x5 f5:=e5
 obtain⟨z5,_⟩:=e5
 simp only[List.cons.injEq,and_true]at z5
 obtain⟨y6,Pc⟩: ∃y,xs[6]? =some y:=⟨_,List.getElem?_eq_getElem (by rw[hlen];decide)⟩
 have q6:DataW.trod enc Tryz.prog w 0 spare held n 87 (List.take (Tryz.prog.cellsOf 87) (List.drop 6 [c0,c1,c2,c3,c4,c5,c6,c7]))=xs[6]? :=hf 6 _ rfl
 rw[Pc,show Tryz.prog.cellsOf 87=1 from by kernel_rfl]at q6
 have q6:DataW.trod enc Tryz.prog w 0 spare held n 87 [c6]=some y6:=q6
 obtain⟨x6,f6,e6,w6⟩:=(eA (k:=1) Tryz.underlying87 (by kernel_rfl) (by decide) (eA (k:=1) Tryz.underlying52 (by kernel_rfl) (by decide) (uC Tryz.underlying5))) _ _ _ q6
 have e6:(zV 1 (zV 1 Bz)) w [c6] x6 f6:=e6
 obtain⟨v6,z6,e6⟩:=e6
 simp only[List.cons.injEq,and_true]at z6
 obtain⟨y7,Pd⟩: ∃y,xs[7]? =some y:=⟨_,List.getElem?_eq_getElem (by rw[hlen];decide)⟩
 have q7:DataW.trod enc Tryz.prog w 0 spare held n 3 (List.take (Tryz.prog.cellsOf 3) (List.drop 7 [c0,c1,c2,c3,c4,c5,c6,c7]))=xs[7]? :=hf 7 _ rfl
 rw[Pd,show Tryz.prog.cellsOf 3=1 from by kernel_rfl]at q7
 have q7:DataW.trod enc Tryz.prog w 0 spare held n 3 [c7]=some y7:=q7
 obtain⟨x7,f7,e7,w7⟩:=(bQ Tryz.underlying3) _ _ _ q7
 have e7:iq w [c7] x7 f7:=e7
 obtain⟨z7,_⟩:=e7
 simp only[List.cons.injEq,and_true]at z7
 subst z0
 subst z1
 subst z2
 subst z3
 subst z4
 subst z5
 subst z6
 subst z7
 exact⟨⟨x0,x1,x2,x3,x4,x5,x6,x7⟩,_,⟨_,_,_,_,rfl,e4,e6,rfl⟩,⟨w0,w1,w2,w3,w4,w5,w6,w7⟩⟩
set_option maxRecDepth 100000 in
theorem Fb{H:Type}{enc:TypeId×Value→H}{w:World}{spare:Nat→Bool}{held:Bool}:lH enc Tryz.prog w spare held 148 BP Ft:=by
 intro fuel cs y h
 obtain⟨xs,n,_,_,hl,hlen,hf⟩:=DataW.trod_struct Tryz.underlying148 h
 have jq:cs.length=16:=hl.trans (by kernel_rfl)
 obtain⟨c0,c1,c2,c3,c4,c5,c6,c7,c8,c9,L2,L3,L4,L5,L6,L7,rfl⟩: ∃c0 c1 c2 c3 c4 c5 c6 c7 c8 c9 L2 L3 L4 L5 L6 L7,cs= [c0,c1,c2,c3,c4,c5,c6,c7,c8,c9,L2,L3,L4,L5,L6,L7]:=by
  match cs,jq with
  | [c0,c1,c2,c3,c4,c5,c6,c7,c8,c9,L2,L3,L4,L5,L6,L7],_=>exact⟨_,_,_,_,_,_,_,_,_,_,_,_,_,_,_,_,rfl⟩
 obtain⟨y0,hy0⟩: ∃y,xs[0]? =some y:=⟨_,List.getElem?_eq_getElem (by rw[hlen];decide)⟩
 have q0:DataW.trod enc Tryz.prog w 0 spare held n 146 (List.take (Tryz.prog.cellsOf 146) (List.drop 0 [c0,c1,c2,c3,c4,c5,c6,c7,c8,c9,L2,L3,L4,L5,L6,L7]))=xs[0]? :=hf 0 _ rfl
 rw[hy0,show Tryz.prog.cellsOf 146=8 from by kernel_rfl]at q0
 have q0:DataW.trod enc Tryz.prog w 0 spare held n 146 [c0,c1,c2,c3,c4,c5,c6,c7]=some y0:=q0
 obtain⟨x0,f0,e0,w0⟩:=yz _ _ _ q0
 have e0:yD w [c0,c1,c2,c3,c4,c5,c6,c7] x0 f0:=e0
 obtain⟨y1,hy1⟩: ∃y,xs[1]? =some y:=⟨_,List.getElem?_eq_getElem (by rw[hlen];decide)⟩
 have q1:DataW.trod enc Tryz.prog w 0 spare held n 146 (List.take (Tryz.prog.cellsOf 146) (List.drop 8 [c0,c1,c2,c3,c4,c5,c6,c7,c8,c9,L2,L3,L4,L5,L6,L7]))=xs[1]? :=hf 1 _ rfl
 rw[hy1,show Tryz.prog.cellsOf 146=8 from by kernel_rfl]at q1
 have q1:DataW.trod enc Tryz.prog w 0 spare held n 146 [c8,c9,L2,L3,L4,L5,L6,L7]=some y1:=q1
 obtain⟨x1,f1,e1,w1⟩:=yz _ _ _ q1
 have e1:yD w [c8,c9,L2,L3,L4,L5,L6,L7] x1 f1:=e1
 exact⟨⟨x0,x1⟩,_,⟨_,_,_,_,rfl,e0,e1,rfl⟩,⟨w0,w1⟩⟩
set_option maxRecDepth 100000 in
theorem Fc{H:Type}{enc:TypeId×Value→H}{w:World}{spare:Nat→Bool}{held:Bool}:lH enc Tryz.prog w spare held 29 BR BQ:=by
 intro fuel cs y h
 obtain⟨xs,n,_,_,hl,hlen,hf⟩:=DataW.trod_struct Tryz.underlying29 h
 have jq:cs.length=10:=hl.trans (by kernel_rfl)
 obtain⟨c0,c1,c2,c3,c4,c5,c6,c7,c8,c9,rfl⟩: ∃c0 c1 c2 c3 c4 c5 c6 c7 c8 c9,cs= [c0,c1,c2,c3,c4,c5,c6,c7,c8,c9]:=by
  match cs,jq with
  | [c0,c1,c2,c3,c4,c5,c6,c7,c8,c9],_=>exact⟨_,_,_,_,_,_,_,_,_,_,rfl⟩
 obtain⟨y0,hy0⟩: ∃y,xs[0]? =some y:=⟨_,List.getElem?_eq_getElem (by rw[hlen];decide)⟩
 have q0:DataW.trod enc Tryz.prog w 0 spare held n 3 (List.take (Tryz.prog.cellsOf 3) (List.drop 0 [c0,c1,c2,c3,c4,c5,c6,c7,c8,c9]))=xs[0]? :=hf 0 _ rfl
 rw[hy0,show Tryz.prog.cellsOf 3=1 from by kernel_rfl]at q0
 have q0:DataW.trod enc Tryz.prog w 0 spare held n 3 [c0]=some y0:=q0
 obtain⟨x0,f0,e0,w0⟩:=(bQ Tryz.underlying3) _ _ _ q0
 have e0:iq w [c0] x0 f0:=e0
 obtain⟨z0,_⟩:=e0
 simp only[List.cons.injEq,and_true]at z0
 obtain⟨y1,hy1⟩: ∃y,xs[1]? =some y:=⟨_,List.getElem?_eq_getElem (by rw[hlen];decide)⟩
 have q1:DataW.trod enc Tryz.prog w 0 spare held n 22 (List.take (Tryz.prog.cellsOf 22) (List.drop 1 [c0,c1,c2,c3,c4,c5,c6,c7,c8,c9]))=xs[1]? :=hf 1 _ rfl
 rw[hy1,show Tryz.prog.cellsOf 22=1 from by kernel_rfl]at q1
 have q1:DataW.trod enc Tryz.prog w 0 spare held n 22 [c1]=some y1:=q1
 obtain⟨x1,f1,e1,w1⟩:=(eA (k:=5) Tryz.underlying22 (by kernel_rfl) (by decide) E9) _ _ _ q1
 have e1:(zV 5 BM) w [c1] x1 f1:=e1
 obtain⟨v1,z1,e1⟩:=e1
 simp only[List.cons.injEq,and_true]at z1
 obtain⟨y2,J4⟩: ∃y,xs[2]? =some y:=⟨_,List.getElem?_eq_getElem (by rw[hlen];decide)⟩
 have q2:DataW.trod enc Tryz.prog w 0 spare held n 23 (List.take (Tryz.prog.cellsOf 23) (List.drop 2 [c0,c1,c2,c3,c4,c5,c6,c7,c8,c9]))=xs[2]? :=hf 2 _ rfl
 rw[J4,show Tryz.prog.cellsOf 23=1 from by kernel_rfl]at q2
 have q2:DataW.trod enc Tryz.prog w 0 spare held n 23 [c2]=some y2:=q2
 obtain⟨x2,f2,e2,w2⟩:=(eA (k:=16) Tryz.underlying23 (by kernel_rfl) (by decide) Fb) _ _ _ q2
 have e2:(zV 16 BP) w [c2] x2 f2:=e2
 obtain⟨v2,z2,e2⟩:=e2
 simp only[List.cons.injEq,and_true]at z2
 obtain⟨y3,NG⟩: ∃y,xs[3]? =some y:=⟨_,List.getElem?_eq_getElem (by rw[hlen];decide)⟩
 have q3:DataW.trod enc Tryz.prog w 0 spare held n 26 (List.take (Tryz.prog.cellsOf 26) (List.drop 3 [c0,c1,c2,c3,c4,c5,c6,c7,c8,c9]))=xs[3]? :=hf 3 _ rfl
 rw[NG,show Tryz.prog.cellsOf 26=2 from by kernel_rfl]at q3
 have q3:DataW.trod enc Tryz.prog w 0 spare held n 26 [c3,c4]=some y3:=q3
 obtain⟨x3,f3,e3,w3⟩:=Fa _ _ _ q3
 have e3:BN w [c3,c4] x3 f3:=e3
 obtain⟨y4,NH⟩: ∃y,xs[4]? =some y:=⟨_,List.getElem?_eq_getElem (by rw[hlen];decide)⟩
 have q4:DataW.trod enc Tryz.prog w 0 spare held n 3 (List.take (Tryz.prog.cellsOf 3) (List.drop 5 [c0,c1,c2,c3,c4,c5,c6,c7,c8,c9]))=xs[4]? :=hf 4 _ rfl
 rw[NH,show Tryz.prog.cellsOf 3=1 from by kernel_rfl]at q4
 have q4:DataW.trod enc Tryz.prog w 0 spare held n 3 [c5]=some y4:=q4
 obtain⟨x4,f4,e4,w4⟩:=(bQ Tryz.underlying3) _ _ _ q4
 have e4:iq w [c5] x4 f4:=e4
 obtain⟨z4,_⟩:=e4
 simp only[List.cons.injEq,and_true]at z4
 obtain⟨y5,Pa⟩: ∃y,xs[5]? =some y:=⟨_,List.getElem?_eq_getElem (by rw[hlen];decide)⟩
 have q5:DataW.trod enc Tryz.prog w 0 spare held n 3 (List.take (Tryz.prog.cellsOf 3) (List.drop 6 [c0,c1,c2,c3,c4,c5,c6,c7,c8,c9]))=xs[5]? :=hf 5 _ rfl
 rw[Pa,show Tryz.prog.cellsOf 3=1 from by kernel_rfl]at q5
 have q5:DataW.trod enc Tryz.prog w 0 spare held n 3 [c6]=some y5:=q5
 obtain⟨x5,f5,e5,w5⟩:=(bQ Tryz.underlying3) _ _ _ q5
 have e5:iq w [c6] x5 f5:=e5
 obtain⟨z5,_⟩:=e5
 simp only[List.cons.injEq,and_true]at z5
 obtain⟨y6,Pc⟩: ∃y,xs[6]? =some y:=⟨_,List.getElem?_eq_getElem (by rw[hlen];decide)⟩
 have q6:DataW.trod enc Tryz.prog w 0 spare held n 3 (List.take (Tryz.prog.cellsOf 3) (List.drop 7 [c0,c1,c2,c3,c4,c5,c6,c7,c8,c9]))=xs[6]? :=hf 6 _ rfl
 rw[Pc,show Tryz.prog.cellsOf 3=1 from by kernel_rfl]at q6
 have q6:DataW.trod enc Tryz.prog w 0 spare held n 3 [c7]=some y6:=q6
 obtain⟨x6,f6,e6,w6⟩:=(bQ Tryz.underlying3) _ _ _ q6
 have e6:iq w [c7] x6 f6:=e6
 obtain⟨z6,_⟩:=e6
 simp only[List.cons.injEq,and_true]at z6
 obtain⟨y7,Pd⟩: ∃y,xs[7]? =some y:=⟨_,List.getElem?_eq_getElem (by rw[hlen];decide)⟩
 have q7:DataW.trod enc Tryz.prog w 0 spare held n 27 (List.take (Tryz.prog.cellsOf 27) (List.drop 8 [c0,c1,c2,c3,c4,c5,c6,c7,c8,c9]))=xs[7]? :=hf 7 _ rfl
 rw[Pd,show Tryz.prog.cellsOf 27=1 from by kernel_rfl]at q7
 have q7:DataW.trod enc Tryz.prog w 0 spare held n 27 [c8]=some y7:=q7
 obtain⟨x7,f7,e7,w7⟩:=(eA (k:=1) Tryz.underlying27 (by kernel_rfl) (by decide) (bQ Tryz.underlying3)) _ _ _ q7
 have e7:(zV 1 iq) w [c8] x7 f7:=e7
 obtain⟨v7,z7,e7⟩:=e7
 simp only[List.cons.injEq,and_true]at z7
 obtain⟨y8,Rj⟩: ∃y,xs[8]? =some y:=⟨_,List.getElem?_eq_getElem (by rw[hlen];decide)⟩
 have q8:DataW.trod enc Tryz.prog w 0 spare held n 3 (List.take (Tryz.prog.cellsOf 3) (List.drop 9 [c0,c1,c2,c3,c4,c5,c6,c7,c8,c9]))=xs[8]? :=hf 8 _ rfl
 rw[Rj,show Tryz.prog.cellsOf 3=1 from by kernel_rfl]at q8
 have q8:DataW.trod enc Tryz.prog w 0 spare held n 3 [c9]=some y8:=q8
 obtain⟨x8,f8,e8,w8⟩:=(bQ Tryz.underlying3) _ _ _ q8
 have e8:iq w [c9] x8 f8:=e8
 obtain⟨z8,_⟩:=e8
 simp only[List.cons.injEq,and_true]at z8
 subst z0
 subst z1
 subst z2
 subst z4
 subst z5
 subst z6
 subst z7
 subst z8
 exact⟨⟨x0,x1,x2,x3,x4,x5,x6,x7,x8⟩,_,⟨_,_,_,_,_,_,_,_,rfl,e1,e2,e3,e7,rfl⟩,⟨w0,w1,w2,w3,w4,w5,w6,w7,w8⟩⟩
end Go.Proofs.YtjcojocjlglglaaGreat.C
