/-
  The arguments of the laws, opened.
-/
import Derived.Test.YteodajeiagmekaaGreatM5
import Derived.Test.YteodajeiagmekaaGreatM67
namespace Go.Proofs.YteodajeiagmekaaGreat.C
set_option linter.all false
open Go.RowKit L D
section
set_option maxRecDepth 100000 in
theorem KT{H:Type}{enc:TypeId×Value→H}{w:World}{spare:Nat→Bool}{held:Bool}:sE enc Tryz.prog w spare held 308 Vc QY:=by
 intro fuel cs y h
 obtain⟨xs,n,_,_,hl,hlen,hf⟩:=DataW.trod_struct Tryz.underlying308 h
 have j0:cs.length=1:=hl.trans (by kernel_rfl)
 obtain⟨c0,rfl⟩: ∃c0,cs= [c0]:=by
  match cs,j0 with
  | [c0],_=>exact⟨_,rfl⟩
 obtain⟨y0,hy0⟩: ∃y,xs[0]? =some y:=⟨_,List.getElem?_eq_getElem (by rw[hlen];decide)⟩
 have q0:DataW.trod enc Tryz.prog w 0 spare held n 38 (List.take (Tryz.prog.cellsOf 38) (List.drop 0 [c0]))=xs[0]? :=hf 0 _ rfl
 rw[hy0,show Tryz.prog.cellsOf 38=1 from by kernel_rfl]at q0
 have q0:DataW.trod enc Tryz.prog w 0 spare held n 38 [c0]=some y0:=q0
 obtain⟨x0,f0,e0,w0⟩:=(eJ (k:=1) Tryz.underlying38 (by kernel_rfl) (by decide) (eJ (k:=1) Tryz.underlying22 (by kernel_rfl) (by decide) (lY Tryz.underlying5))) _ _ _ q0
 have e0:(IQ 1 (IQ 1 Fu)) w [c0] x0 f0:=e0
 obtain⟨v0,z0,e0⟩:=e0
 simp only[List.cons.injEq,and_true]at z0
 subst z0
 exact⟨⟨x0⟩,_,⟨_,_,rfl,e0,rfl⟩,w0⟩
set_option maxRecDepth 100000 in
theorem ID{H:Type}{enc:TypeId×Value→H}{w:World}{spare:Nat→Bool}{held:Bool}:sE enc Tryz.prog w spare held 328 rB FT:=by
 intro fuel cs y h
 obtain⟨xs,n,_,_,hl,hlen,hf⟩:=DataW.trod_struct Tryz.underlying328 h
 have j0:cs.length=2:=hl.trans (by kernel_rfl)
 obtain⟨c0,c1,rfl⟩: ∃c0 c1,cs= [c0,c1]:=by
  match cs,j0 with
  | [c0,c1],_=>exact⟨_,_,rfl⟩
 obtain⟨y0,hy0⟩: ∃y,xs[0]? =some y:=⟨_,List.getElem?_eq_getElem (by rw[hlen];decide)⟩
 have q0:DataW.trod enc Tryz.prog w 0 spare held n 3 (List.take (Tryz.prog.cellsOf 3) (List.drop 0 [c0,c1]))=xs[0]? :=hf 0 _ rfl
 rw[hy0,show Tryz.prog.cellsOf 3=1 from by kernel_rfl]at q0
 have q0:DataW.trod enc Tryz.prog w 0 spare held n 3 [c0]=some y0:=q0
 obtain⟨x0,f0,e0,w0⟩:=(cV Tryz.underlying3) _ _ _ q0
 have e0:mL w [c0] x0 f0:=e0
 obtain⟨z0,_⟩:=e0
 simp only[List.cons.injEq,and_true]at z0
 obtain⟨y1,hy1⟩: ∃y,xs[1]? =some y:=⟨_,List.getElem?_eq_getElem (by rw[hlen];decide)⟩
 have q1:DataW.trod enc Tryz.prog w 0 spare held n 308 (List.take (Tryz.prog.cellsOf 308) (List.drop 1 [c0,c1]))=xs[1]? :=hf 1 _ rfl
 rw[hy1,show Tryz.prog.cellsOf 308=1 from by kernel_rfl]at q1
 have q1:DataW.trod enc Tryz.prog w 0 spare held n 308 [c1]=some y1:=q1
 obtain⟨x1,f1,e1,w1⟩:=KT _ _ _ q1
 have e1:Vc w [c1] x1 f1:=e1
 subst z0
 exact⟨⟨x0,x1⟩,_,⟨_,_,rfl,e1,rfl⟩,⟨w0,w1⟩⟩
set_option maxRecDepth 100000 in
theorem Qs{H:Type}{enc:TypeId×Value→H}{w:World}{spare:Nat→Bool}{held:Bool}:sE enc Tryz.prog w spare held 269 LB QZ:=by
 intro fuel cs y h
 obtain⟨xs,n,_,_,hl,hlen,hf⟩:=DataW.trod_struct Tryz.underlying269 h
 have j0:cs.length=5:=hl.trans (by kernel_rfl)
 obtain⟨c0,c1,c2,c3,c4,rfl⟩: ∃c0 c1 c2 c3 c4,cs= [c0,c1,c2,c3,c4]:=by
  match cs,j0 with
  | [c0,c1,c2,c3,c4],_=>exact⟨_,_,_,_,_,rfl⟩
 obtain⟨y0,hy0⟩: ∃y,xs[0]? =some y:=⟨_,List.getElem?_eq_getElem (by rw[hlen];decide)⟩
 have q0:DataW.trod enc Tryz.prog w 0 spare held n 3 (List.take (Tryz.prog.cellsOf 3) (List.drop 0 [c0,c1,c2,c3,c4]))=xs[0]? :=hf 0 _ rfl
 rw[hy0,show Tryz.prog.cellsOf 3=1 from by kernel_rfl]at q0
 have q0:DataW.trod enc Tryz.prog w 0 spare held n 3 [c0]=some y0:=q0
 obtain⟨x0,f0,e0,w0⟩:=(cV Tryz.underlying3) _ _ _ q0
 have e0:mL w [c0] x0 f0:=e0
 obtain⟨z0,_⟩:=e0
 simp only[List.cons.injEq,and_true]at z0
 obtain⟨y1,hy1⟩: ∃y,xs[1]? =some y:=⟨_,List.getElem?_eq_getElem (by rw[hlen];decide)⟩
 have q1:DataW.trod enc Tryz.prog w 0 spare held n 3 (List.take (Tryz.prog.cellsOf 3) (List.drop 1 [c0,c1,c2,c3,c4]))=xs[1]? :=hf 1 _ rfl
 rw[hy1,show Tryz.prog.cellsOf 3=1 from by kernel_rfl]at q1
 have q1:DataW.trod enc Tryz.prog w 0 spare held n 3 [c1]=some y1:=q1
 obtain⟨x1,f1,e1,w1⟩:=(cV Tryz.underlying3) _ _ _ q1
 have e1:mL w [c1] x1 f1:=e1
 obtain⟨z1,_⟩:=e1
 simp only[List.cons.injEq,and_true]at z1
 obtain⟨y2,Sb⟩: ∃y,xs[2]? =some y:=⟨_,List.getElem?_eq_getElem (by rw[hlen];decide)⟩
 have q2:DataW.trod enc Tryz.prog w 0 spare held n 3 (List.take (Tryz.prog.cellsOf 3) (List.drop 2 [c0,c1,c2,c3,c4]))=xs[2]? :=hf 2 _ rfl
 rw[Sb,show Tryz.prog.cellsOf 3=1 from by kernel_rfl]at q2
 have q2:DataW.trod enc Tryz.prog w 0 spare held n 3 [c2]=some y2:=q2
 obtain⟨x2,f2,e2,w2⟩:=(cV Tryz.underlying3) _ _ _ q2
 have e2:mL w [c2] x2 f2:=e2
 obtain⟨z2,_⟩:=e2
 simp only[List.cons.injEq,and_true]at z2
 obtain⟨y3,hy3⟩: ∃y,xs[3]? =some y:=⟨_,List.getElem?_eq_getElem (by rw[hlen];decide)⟩
 have q3:DataW.trod enc Tryz.prog w 0 spare held n 267 (List.take (Tryz.prog.cellsOf 267) (List.drop 3 [c0,c1,c2,c3,c4]))=xs[3]? :=hf 3 _ rfl
 rw[hy3,show Tryz.prog.cellsOf 267=1 from by kernel_rfl]at q3
 have q3:DataW.trod enc Tryz.prog w 0 spare held n 267 [c3]=some y3:=q3
 obtain⟨x3,f3,e3,w3⟩:=(eJ (k:=2) Tryz.underlying267 (by kernel_rfl) (by decide) ID) _ _ _ q3
 have e3:(IQ 2 rB) w [c3] x3 f3:=e3
 obtain⟨v3,z3,e3⟩:=e3
 simp only[List.cons.injEq,and_true]at z3
 obtain⟨y4,hy4⟩: ∃y,xs[4]? =some y:=⟨_,List.getElem?_eq_getElem (by rw[hlen];decide)⟩
 have q4:DataW.trod enc Tryz.prog w 0 spare held n 3 (List.take (Tryz.prog.cellsOf 3) (List.drop 4 [c0,c1,c2,c3,c4]))=xs[4]? :=hf 4 _ rfl
 rw[hy4,show Tryz.prog.cellsOf 3=1 from by kernel_rfl]at q4
 have q4:DataW.trod enc Tryz.prog w 0 spare held n 3 [c4]=some y4:=q4
 obtain⟨x4,f4,e4,w4⟩:=(cV Tryz.underlying3) _ _ _ q4
 have e4:mL w [c4] x4 f4:=e4
 obtain⟨z4,_⟩:=e4
 simp only[List.cons.injEq,and_true]at z4
 subst z0
 subst z1
 subst z2
 subst z3
 subst z4
 exact⟨⟨x0,x1,x2,x3,x4⟩,_,⟨_,_,rfl,e3,rfl⟩,⟨w0,w1,w2,w3,w4⟩⟩
set_option maxRecDepth 100000 in
theorem IE{H:Type}{enc:TypeId×Value→H}{w:World}{spare:Nat→Bool}{held:Bool}:sE enc Tryz.prog w spare held 310 rC FU:=by
 intro fuel cs y h
 obtain⟨xs,n,_,_,hl,hlen,hf⟩:=DataW.trod_struct Tryz.underlying310 h
 have j0:cs.length=2:=hl.trans (by kernel_rfl)
 obtain⟨c0,c1,rfl⟩: ∃c0 c1,cs= [c0,c1]:=by
  match cs,j0 with
  | [c0,c1],_=>exact⟨_,_,rfl⟩
 obtain⟨y0,hy0⟩: ∃y,xs[0]? =some y:=⟨_,List.getElem?_eq_getElem (by rw[hlen];decide)⟩
 have q0:DataW.trod enc Tryz.prog w 0 spare held n 3 (List.take (Tryz.prog.cellsOf 3) (List.drop 0 [c0,c1]))=xs[0]? :=hf 0 _ rfl
 rw[hy0,show Tryz.prog.cellsOf 3=1 from by kernel_rfl]at q0
 have q0:DataW.trod enc Tryz.prog w 0 spare held n 3 [c0]=some y0:=q0
 obtain⟨x0,f0,e0,w0⟩:=(cV Tryz.underlying3) _ _ _ q0
 have e0:mL w [c0] x0 f0:=e0
 obtain⟨z0,_⟩:=e0
 simp only[List.cons.injEq,and_true]at z0
 obtain⟨y1,hy1⟩: ∃y,xs[1]? =some y:=⟨_,List.getElem?_eq_getElem (by rw[hlen];decide)⟩
 have q1:DataW.trod enc Tryz.prog w 0 spare held n 308 (List.take (Tryz.prog.cellsOf 308) (List.drop 1 [c0,c1]))=xs[1]? :=hf 1 _ rfl
 rw[hy1,show Tryz.prog.cellsOf 308=1 from by kernel_rfl]at q1
 have q1:DataW.trod enc Tryz.prog w 0 spare held n 308 [c1]=some y1:=q1
 obtain⟨x1,f1,e1,w1⟩:=KT _ _ _ q1
 have e1:Vc w [c1] x1 f1:=e1
 subst z0
 exact⟨⟨x0,x1⟩,_,⟨_,_,rfl,e1,rfl⟩,⟨w0,w1⟩⟩
set_option maxRecDepth 100000 in
theorem Qt{H:Type}{enc:TypeId×Value→H}{w:World}{spare:Nat→Bool}{held:Bool}:sE enc Tryz.prog w spare held 109 LC Q0:=by
 intro fuel cs y h
 obtain⟨xs,n,_,_,hl,hlen,hf⟩:=DataW.trod_struct Tryz.underlying109 h
 have j0:cs.length=2:=hl.trans (by kernel_rfl)
 obtain⟨c0,c1,rfl⟩: ∃c0 c1,cs= [c0,c1]:=by
  match cs,j0 with
  | [c0,c1],_=>exact⟨_,_,rfl⟩
 obtain⟨y0,hy0⟩: ∃y,xs[0]? =some y:=⟨_,List.getElem?_eq_getElem (by rw[hlen];decide)⟩
 have q0:DataW.trod enc Tryz.prog w 0 spare held n 3 (List.take (Tryz.prog.cellsOf 3) (List.drop 0 [c0,c1]))=xs[0]? :=hf 0 _ rfl
 rw[hy0,show Tryz.prog.cellsOf 3=1 from by kernel_rfl]at q0
 have q0:DataW.trod enc Tryz.prog w 0 spare held n 3 [c0]=some y0:=q0
 obtain⟨x0,f0,e0,w0⟩:=(cV Tryz.underlying3) _ _ _ q0
 have e0:mL w [c0] x0 f0:=e0
 obtain⟨z0,_⟩:=e0
 simp only[List.cons.injEq,and_true]at z0
 obtain⟨y1,hy1⟩: ∃y,xs[1]? =some y:=⟨_,List.getElem?_eq_getElem (by rw[hlen];decide)⟩
 have q1:DataW.trod enc Tryz.prog w 0 spare held n 107 (List.take (Tryz.prog.cellsOf 107) (List.drop 1 [c0,c1]))=xs[1]? :=hf 1 _ rfl
 rw[hy1,show Tryz.prog.cellsOf 107=1 from by kernel_rfl]at q1
 have q1:DataW.trod enc Tryz.prog w 0 spare held n 107 [c1]=some y1:=q1
 obtain⟨x1,f1,e1,w1⟩:=(eJ (k:=2) Tryz.underlying107 (by kernel_rfl) (by decide) IE) _ _ _ q1
 have e1:(IQ 2 rC) w [c1] x1 f1:=e1
 obtain⟨v1,z1,e1⟩:=e1
 simp only[List.cons.injEq,and_true]at z1
 subst z0
 subst z1
 exact⟨⟨x0,x1⟩,_,⟨_,_,rfl,e1,rfl⟩,⟨w0,w1⟩⟩
set_option maxRecDepth 100000 in
theorem GN{H:Type}{enc:TypeId×Value→H}{w:World}{spare:Nat→Bool}{held:Bool}:sE enc Tryz.prog w spare held 271 GZ LG:=by
 intro fuel cs y h
 obtain⟨xs,n,_,_,hl,hlen,hf⟩:=DataW.trod_struct Tryz.underlying271 h
 have j0:cs.length=8:=hl.trans (by kernel_rfl)
 obtain⟨c0,c1,c2,c3,c4,c5,c6,c7,rfl⟩: ∃c0 c1 c2 c3 c4 c5 c6 c7,cs= [c0,c1,c2,c3,c4,c5,c6,c7]:=by
  match cs,j0 with
  | [c0,c1,c2,c3,c4,c5,c6,c7],_=>exact⟨_,_,_,_,_,_,_,_,rfl⟩
 obtain⟨y0,hy0⟩: ∃y,xs[0]? =some y:=⟨_,List.getElem?_eq_getElem (by rw[hlen];decide)⟩
 have q0:DataW.trod enc Tryz.prog w 0 spare held n 3 (List.take (Tryz.prog.cellsOf 3) (List.drop 0 [c0,c1,c2,c3,c4,c5,c6,c7]))=xs[0]? :=hf 0 _ rfl
 rw[hy0,show Tryz.prog.cellsOf 3=1 from by kernel_rfl]at q0
 have q0:DataW.trod enc Tryz.prog w 0 spare held n 3 [c0]=some y0:=q0
 obtain⟨x0,f0,e0,w0⟩:=(cV Tryz.underlying3) _ _ _ q0
 have e0:mL w [c0] x0 f0:=e0
 obtain⟨z0,_⟩:=e0
 simp only[List.cons.injEq,and_true]at z0
 obtain⟨y1,hy1⟩: ∃y,xs[1]? =some y:=⟨_,List.getElem?_eq_getElem (by rw[hlen];decide)⟩
 have q1:DataW.trod enc Tryz.prog w 0 spare held n 3 (List.take (Tryz.prog.cellsOf 3) (List.drop 1 [c0,c1,c2,c3,c4,c5,c6,c7]))=xs[1]? :=hf 1 _ rfl
 rw[hy1,show Tryz.prog.cellsOf 3=1 from by kernel_rfl]at q1
 have q1:DataW.trod enc Tryz.prog w 0 spare held n 3 [c1]=some y1:=q1
 obtain⟨x1,f1,e1,w1⟩:=(cV Tryz.underlying3) _ _ _ q1
 have e1:mL w [c1] x1 f1:=e1
 obtain⟨z1,_⟩:=e1
 simp only[List.cons.injEq,and_true]at z1
 obtain⟨y2,Sb⟩: ∃y,xs[2]? =some y:=⟨_,List.getElem?_eq_getElem (by rw[hlen];decide)⟩
 have q2:DataW.trod enc Tryz.prog w 0 spare held n 3 (List.take (Tryz.prog.cellsOf 3) (List.drop 2 [c0,c1,c2,c3,c4,c5,c6,c7]))=xs[2]? :=hf 2 _ rfl
 rw[Sb,show Tryz.prog.cellsOf 3=1 from by kernel_rfl]at q2
 have q2:DataW.trod enc Tryz.prog w 0 spare held n 3 [c2]=some y2:=q2
 obtain⟨x2,f2,e2,w2⟩:=(cV Tryz.underlying3) _ _ _ q2
 have e2:mL w [c2] x2 f2:=e2
 obtain⟨z2,_⟩:=e2
 simp only[List.cons.injEq,and_true]at z2
 obtain⟨y3,hy3⟩: ∃y,xs[3]? =some y:=⟨_,List.getElem?_eq_getElem (by rw[hlen];decide)⟩
 have q3:DataW.trod enc Tryz.prog w 0 spare held n 3 (List.take (Tryz.prog.cellsOf 3) (List.drop 3 [c0,c1,c2,c3,c4,c5,c6,c7]))=xs[3]? :=hf 3 _ rfl
 rw[hy3,show Tryz.prog.cellsOf 3=1 from by kernel_rfl]at q3
 have q3:DataW.trod enc Tryz.prog w 0 spare held n 3 [c3]=some y3:=q3
 obtain⟨x3,f3,e3,w3⟩:=(cV Tryz.underlying3) _ _ _ q3
 have e3:mL w [c3] x3 f3:=e3
 obtain⟨z3,_⟩:=e3
 simp only[List.cons.injEq,and_true]at z3
 obtain⟨y4,hy4⟩: ∃y,xs[4]? =some y:=⟨_,List.getElem?_eq_getElem (by rw[hlen];decide)⟩
 have q4:DataW.trod enc Tryz.prog w 0 spare held n 38 (List.take (Tryz.prog.cellsOf 38) (List.drop 4 [c0,c1,c2,c3,c4,c5,c6,c7]))=xs[4]? :=hf 4 _ rfl
 rw[hy4,show Tryz.prog.cellsOf 38=1 from by kernel_rfl]at q4
 have q4:DataW.trod enc Tryz.prog w 0 spare held n 38 [c4]=some y4:=q4
 obtain⟨x4,f4,e4,w4⟩:=(eJ (k:=1) Tryz.underlying38 (by kernel_rfl) (by decide) (eJ (k:=1) Tryz.underlying22 (by kernel_rfl) (by decide) (lY Tryz.underlying5))) _ _ _ q4
 have e4:(IQ 1 (IQ 1 Fu)) w [c4] x4 f4:=e4
 obtain⟨v4,z4,e4⟩:=e4
 simp only[List.cons.injEq,and_true]at z4
 obtain⟨y5,hy5⟩: ∃y,xs[5]? =some y:=⟨_,List.getElem?_eq_getElem (by rw[hlen];decide)⟩
 have q5:DataW.trod enc Tryz.prog w 0 spare held n 3 (List.take (Tryz.prog.cellsOf 3) (List.drop 5 [c0,c1,c2,c3,c4,c5,c6,c7]))=xs[5]? :=hf 5 _ rfl
 rw[hy5,show Tryz.prog.cellsOf 3=1 from by kernel_rfl]at q5
 have q5:DataW.trod enc Tryz.prog w 0 spare held n 3 [c5]=some y5:=q5
 obtain⟨x5,f5,e5,w5⟩:=(cV Tryz.underlying3) _ _ _ q5
 have e5:mL w [c5] x5 f5:=e5
 obtain⟨z5,_⟩:=e5
 simp only[List.cons.injEq,and_true]at z5
 obtain⟨y6,hy6⟩: ∃y,xs[6]? =some y:=⟨_,List.getElem?_eq_getElem (by rw[hlen];decide)⟩
 have q6:DataW.trod enc Tryz.prog w 0 spare held n 38 (List.take (Tryz.prog.cellsOf 38) (List.drop 6 [c0,c1,c2,c3,c4,c5,c6,c7]))=xs[6]? :=hf 6 _ rfl
 rw[hy6,show Tryz.prog.cellsOf 38=1 from by kernel_rfl]at q6
 have q6:DataW.trod enc Tryz.prog w 0 spare held n 38 [c6]=some y6:=q6
 obtain⟨x6,f6,e6,w6⟩:=(eJ (k:=1) Tryz.underlying38 (by kernel_rfl) (by decide) (eJ (k:=1) Tryz.underlying22 (by kernel_rfl) (by decide) (lY Tryz.underlying5))) _ _ _ q6
 have e6:(IQ 1 (IQ 1 Fu)) w [c6] x6 f6:=e6
 obtain⟨v6,z6,e6⟩:=e6
 simp only[List.cons.injEq,and_true]at z6
 obtain⟨y7,hy7⟩: ∃y,xs[7]? =some y:=⟨_,List.getElem?_eq_getElem (by rw[hlen];decide)⟩
 have q7:DataW.trod enc Tryz.prog w 0 spare held n 3 (List.take (Tryz.prog.cellsOf 3) (List.drop 7 [c0,c1,c2,c3,c4,c5,c6,c7]))=xs[7]? :=hf 7 _ rfl
 rw[hy7,show Tryz.prog.cellsOf 3=1 from by kernel_rfl]at q7
 have q7:DataW.trod enc Tryz.prog w 0 spare held n 3 [c7]=some y7:=q7
 obtain⟨x7,f7,e7,w7⟩:=(cV Tryz.underlying3) _ _ _ q7
 have e7:mL w [c7] x7 f7:=e7
 obtain⟨z7,_⟩:=e7
 simp only[List.cons.injEq,and_true]at z7
 subst z0
 subst z1
 subst z2
 subst z3
 subst z4
 subst z5
 subst z6
 subst z7
 exact⟨⟨x0,x1,x2,x3,x4,x5,x6,x7⟩,_,⟨_,_,_,_,rfl,e4,e6,rfl⟩,⟨w0,w1,w2,w3,w4,w5,w6,w7⟩⟩
set_option maxRecDepth 100000 in
theorem Qu{H:Type}{enc:TypeId×Value→H}{w:World}{spare:Nat→Bool}{held:Bool}:sE enc Tryz.prog w spare held 273 LD Q1:=by
 intro fuel cs y h
 obtain⟨xs,n,_,_,hl,hlen,hf⟩:=DataW.trod_struct Tryz.underlying273 h
 have j0:cs.length=16:=hl.trans (by kernel_rfl)
 obtain⟨c0,c1,c2,c3,c4,c5,c6,c7,c8,c9,c10,c11,c12,c13,c14,c15,rfl⟩: ∃c0 c1 c2 c3 c4 c5 c6 c7 c8 c9 c10 c11 c12 c13 c14 c15,cs= [c0,c1,c2,c3,c4,c5,c6,c7,c8,c9,c10,c11,c12,c13,c14,c15]:=by
  match cs,j0 with
  | [c0,c1,c2,c3,c4,c5,c6,c7,c8,c9,c10,c11,c12,c13,c14,c15],_=>exact⟨_,_,_,_,_,_,_,_,_,_,_,_,_,_,_,_,rfl⟩
 obtain⟨y0,hy0⟩: ∃y,xs[0]? =some y:=⟨_,List.getElem?_eq_getElem (by rw[hlen];decide)⟩
 have q0:DataW.trod enc Tryz.prog w 0 spare held n 271 (List.take (Tryz.prog.cellsOf 271) (List.drop 0 [c0,c1,c2,c3,c4,c5,c6,c7,c8,c9,c10,c11,c12,c13,c14,c15]))=xs[0]? :=hf 0 _ rfl
 rw[hy0,show Tryz.prog.cellsOf 271=8 from by kernel_rfl]at q0
 have q0:DataW.trod enc Tryz.prog w 0 spare held n 271 [c0,c1,c2,c3,c4,c5,c6,c7]=some y0:=q0
 obtain⟨x0,f0,e0,w0⟩:=GN _ _ _ q0
 have e0:GZ w [c0,c1,c2,c3,c4,c5,c6,c7] x0 f0:=e0
 obtain⟨y1,hy1⟩: ∃y,xs[1]? =some y:=⟨_,List.getElem?_eq_getElem (by rw[hlen];decide)⟩
 have q1:DataW.trod enc Tryz.prog w 0 spare held n 271 (List.take (Tryz.prog.cellsOf 271) (List.drop 8 [c0,c1,c2,c3,c4,c5,c6,c7,c8,c9,c10,c11,c12,c13,c14,c15]))=xs[1]? :=hf 1 _ rfl
 rw[hy1,show Tryz.prog.cellsOf 271=8 from by kernel_rfl]at q1
 have q1:DataW.trod enc Tryz.prog w 0 spare held n 271 [c8,c9,c10,c11,c12,c13,c14,c15]=some y1:=q1
 obtain⟨x1,f1,e1,w1⟩:=GN _ _ _ q1
 have e1:GZ w [c8,c9,c10,c11,c12,c13,c14,c15] x1 f1:=e1
 exact⟨⟨x0,x1⟩,_,⟨_,_,_,_,rfl,e0,e1,rfl⟩,⟨w0,w1⟩⟩
set_option maxRecDepth 100000 in
theorem GO{H:Type}{enc:TypeId×Value→H}{w:World}{spare:Nat→Bool}{held:Bool}:sE enc Tryz.prog w spare held 111 G0 Dl:=by
 intro fuel cs y h
 obtain⟨xs,n,_,_,hl,hlen,hf⟩:=DataW.trod_struct Tryz.underlying111 h
 have j0:cs.length=10:=hl.trans (by kernel_rfl)
 obtain⟨c0,c1,c2,c3,c4,c5,c6,c7,c8,c9,rfl⟩: ∃c0 c1 c2 c3 c4 c5 c6 c7 c8 c9,cs= [c0,c1,c2,c3,c4,c5,c6,c7,c8,c9]:=by
  match cs,j0 with
  | [c0,c1,c2,c3,c4,c5,c6,c7,c8,c9],_=>exact⟨_,_,_,_,_,_,_,_,_,_,rfl⟩
 obtain⟨y0,hy0⟩: ∃y,xs[0]? =some y:=⟨_,List.getElem?_eq_getElem (by rw[hlen];decide)⟩
 have q0:DataW.trod enc Tryz.prog w 0 spare held n 3 (List.take (Tryz.prog.cellsOf 3) (List.drop 0 [c0,c1,c2,c3,c4,c5,c6,c7,c8,c9]))=xs[0]? :=hf 0 _ rfl
 rw[hy0,show Tryz.prog.cellsOf 3=1 from by kernel_rfl]at q0
 have q0:DataW.trod enc Tryz.prog w 0 spare held n 3 [c0]=some y0:=q0
 obtain⟨x0,f0,e0,w0⟩:=(cV Tryz.underlying3) _ _ _ q0
 have e0:mL w [c0] x0 f0:=e0
 obtain⟨z0,_⟩:=e0
 simp only[List.cons.injEq,and_true]at z0
 obtain⟨y1,hy1⟩: ∃y,xs[1]? =some y:=⟨_,List.getElem?_eq_getElem (by rw[hlen];decide)⟩
 have q1:DataW.trod enc Tryz.prog w 0 spare held n 105 (List.take (Tryz.prog.cellsOf 105) (List.drop 1 [c0,c1,c2,c3,c4,c5,c6,c7,c8,c9]))=xs[1]? :=hf 1 _ rfl
 rw[hy1,show Tryz.prog.cellsOf 105=1 from by kernel_rfl]at q1
 have q1:DataW.trod enc Tryz.prog w 0 spare held n 105 [c1]=some y1:=q1
 obtain⟨x1,f1,e1,w1⟩:=(eJ (k:=5) Tryz.underlying105 (by kernel_rfl) (by decide) Qs) _ _ _ q1
 have e1:(IQ 5 LB) w [c1] x1 f1:=e1
 obtain⟨v1,z1,e1⟩:=e1
 simp only[List.cons.injEq,and_true]at z1
 obtain⟨y2,Sb⟩: ∃y,xs[2]? =some y:=⟨_,List.getElem?_eq_getElem (by rw[hlen];decide)⟩
 have q2:DataW.trod enc Tryz.prog w 0 spare held n 106 (List.take (Tryz.prog.cellsOf 106) (List.drop 2 [c0,c1,c2,c3,c4,c5,c6,c7,c8,c9]))=xs[2]? :=hf 2 _ rfl
 rw[Sb,show Tryz.prog.cellsOf 106=1 from by kernel_rfl]at q2
 have q2:DataW.trod enc Tryz.prog w 0 spare held n 106 [c2]=some y2:=q2
 obtain⟨x2,f2,e2,w2⟩:=(eJ (k:=16) Tryz.underlying106 (by kernel_rfl) (by decide) Qu) _ _ _ q2
 have e2:(IQ 16 LD) w [c2] x2 f2:=e2
 obtain⟨v2,z2,e2⟩:=e2
 simp only[List.cons.injEq,and_true]at z2
 obtain⟨y3,hy3⟩: ∃y,xs[3]? =some y:=⟨_,List.getElem?_eq_getElem (by rw[hlen];decide)⟩
 have q3:DataW.trod enc Tryz.prog w 0 spare held n 109 (List.take (Tryz.prog.cellsOf 109) (List.drop 3 [c0,c1,c2,c3,c4,c5,c6,c7,c8,c9]))=xs[3]? :=hf 3 _ rfl
 rw[hy3,show Tryz.prog.cellsOf 109=2 from by kernel_rfl]at q3
 have q3:DataW.trod enc Tryz.prog w 0 spare held n 109 [c3,c4]=some y3:=q3
 obtain⟨x3,f3,e3,w3⟩:=Qt _ _ _ q3
 have e3:LC w [c3,c4] x3 f3:=e3
 obtain⟨y4,hy4⟩: ∃y,xs[4]? =some y:=⟨_,List.getElem?_eq_getElem (by rw[hlen];decide)⟩
 have q4:DataW.trod enc Tryz.prog w 0 spare held n 3 (List.take (Tryz.prog.cellsOf 3) (List.drop 5 [c0,c1,c2,c3,c4,c5,c6,c7,c8,c9]))=xs[4]? :=hf 4 _ rfl
 rw[hy4,show Tryz.prog.cellsOf 3=1 from by kernel_rfl]at q4
 have q4:DataW.trod enc Tryz.prog w 0 spare held n 3 [c5]=some y4:=q4
 obtain⟨x4,f4,e4,w4⟩:=(cV Tryz.underlying3) _ _ _ q4
 have e4:mL w [c5] x4 f4:=e4
 obtain⟨z4,_⟩:=e4
 simp only[List.cons.injEq,and_true]at z4
 obtain⟨y5,hy5⟩: ∃y,xs[5]? =some y:=⟨_,List.getElem?_eq_getElem (by rw[hlen];decide)⟩
 have q5:DataW.trod enc Tryz.prog w 0 spare held n 3 (List.take (Tryz.prog.cellsOf 3) (List.drop 6 [c0,c1,c2,c3,c4,c5,c6,c7,c8,c9]))=xs[5]? :=hf 5 _ rfl
 rw[hy5,show Tryz.prog.cellsOf 3=1 from by kernel_rfl]at q5
 have q5:DataW.trod enc Tryz.prog w 0 spare held n 3 [c6]=some y5:=q5
 obtain⟨x5,f5,e5,w5⟩:=(cV Tryz.underlying3) _ _ _ q5
 have e5:mL w [c6] x5 f5:=e5
 obtain⟨z5,_⟩:=e5
 simp only[List.cons.injEq,and_true]at z5
 obtain⟨y6,hy6⟩: ∃y,xs[6]? =some y:=⟨_,List.getElem?_eq_getElem (by rw[hlen];decide)⟩
 have q6:DataW.trod enc Tryz.prog w 0 spare held n 3 (List.take (Tryz.prog.cellsOf 3) (List.drop 7 [c0,c1,c2,c3,c4,c5,c6,c7,c8,c9]))=xs[6]? :=hf 6 _ rfl
 rw[hy6,show Tryz.prog.cellsOf 3=1 from by kernel_rfl]at q6
 have q6:DataW.trod enc Tryz.prog w 0 spare held n 3 [c7]=some y6:=q6
 obtain⟨x6,f6,e6,w6⟩:=(cV Tryz.underlying3) _ _ _ q6
 have e6:mL w [c7] x6 f6:=e6
 obtain⟨z6,_⟩:=e6
 simp only[List.cons.injEq,and_true]at z6
 obtain⟨y7,hy7⟩: ∃y,xs[7]? =some y:=⟨_,List.getElem?_eq_getElem (by rw[hlen];decide)⟩
 have q7:DataW.trod enc Tryz.prog w 0 spare held n 29 (List.take (Tryz.prog.cellsOf 29) (List.drop 8 [c0,c1,c2,c3,c4,c5,c6,c7,c8,c9]))=xs[7]? :=hf 7 _ rfl
 rw[hy7,show Tryz.prog.cellsOf 29=1 from by kernel_rfl]at q7
 have q7:DataW.trod enc Tryz.prog w 0 spare held n 29 [c8]=some y7:=q7
 obtain⟨x7,f7,e7,w7⟩:=(eJ (k:=1) Tryz.underlying29 (by kernel_rfl) (by decide) (cV Tryz.underlying3)) _ _ _ q7
 have e7:(IQ 1 mL) w [c8] x7 f7:=e7
 obtain⟨v7,z7,e7⟩:=e7
 simp only[List.cons.injEq,and_true]at z7
 obtain⟨y8,hy8⟩: ∃y,xs[8]? =some y:=⟨_,List.getElem?_eq_getElem (by rw[hlen];decide)⟩
 have q8:DataW.trod enc Tryz.prog w 0 spare held n 3 (List.take (Tryz.prog.cellsOf 3) (List.drop 9 [c0,c1,c2,c3,c4,c5,c6,c7,c8,c9]))=xs[8]? :=hf 8 _ rfl
 rw[hy8,show Tryz.prog.cellsOf 3=1 from by kernel_rfl]at q8
 have q8:DataW.trod enc Tryz.prog w 0 spare held n 3 [c9]=some y8:=q8
 obtain⟨x8,f8,e8,w8⟩:=(cV Tryz.underlying3) _ _ _ q8
 have e8:mL w [c9] x8 f8:=e8
 obtain⟨z8,_⟩:=e8
 simp only[List.cons.injEq,and_true]at z8
 subst z0
 subst z1
 subst z2
 subst z4
 subst z5
 subst z6
 subst z7
 subst z8
 exact⟨⟨x0,x1,x2,x3,x4,x5,x6,x7,x8⟩,_,⟨_,_,_,_,_,_,_,_,rfl,e1,e2,e3,e7,rfl⟩,⟨w0,w1,w2,w3,w4,w5,w6,w7,w8⟩⟩
end
end Go.Proofs.YteodajeiagmekaaGreat.C
