/-
  The arguments of the laws, opened.
-/
import Derived.Test.YteodajeiagmekaaGreatP3
import Derived.Test.YteodajeiagmekaaGreatP13
namespace Go.Proofs.YteodajeiagmekaaGreat.C
set_option linter.all false
open Go.RowKit L D
section
set_option maxRecDepth 100000 in
theorem vk{H:Type}{enc:TypeId×Value→H}{w:World}{spare:Nat→Bool}{held:Bool}:ig enc Tryz.prog w spare held 308 Cm zE:=by
 intro fuel cs y h
 obtain⟨xs,n,_,_,hl,hlen,hf⟩:=DataW.trod_struct Tryz.underlying308 h
 have fP:cs.length=1:=hl.trans (by kernel_rfl)
 obtain⟨c0,rfl⟩: ∃c0,cs= [c0]:=by
  match cs,fP with
  | [c0],_=>exact⟨_,rfl⟩
 obtain⟨y0,hy0⟩: ∃y,xs[0]? =some y:=⟨_,List.getElem?_eq_getElem (by rw[hlen];decide)⟩
 have q0:DataW.trod enc Tryz.prog w 0 spare held n 38 (List.take (Tryz.prog.cellsOf 38) (List.drop 0 [c0]))=xs[0]? :=hf 0 _ rfl
 rw[hy0,show Tryz.prog.cellsOf 38=1 from by kernel_rfl]at q0
 have q0:DataW.trod enc Tryz.prog w 0 spare held n 38 [c0]=some y0:=q0
 obtain⟨x0,f0,e0,w0⟩:=(cE (k:=1) Tryz.underlying38 (by kernel_rfl) (by decide) (cE (k:=1) Tryz.underlying22 (by kernel_rfl) (by decide) (ot Tryz.underlying5))) _ _ _ q0
 have e0:(s9 1 (s9 1 vl)) w [c0] x0 f0:=e0
 obtain⟨v0,z0,e0⟩:=e0
 simp only[List.cons.injEq,and_true]at z0
 subst z0
 exact⟨⟨x0⟩,_,⟨_,_,rfl,e0,rfl⟩,w0⟩
set_option maxRecDepth 100000 in
theorem s6{H:Type}{enc:TypeId×Value→H}{w:World}{spare:Nat→Bool}{held:Bool}:ig enc Tryz.prog w spare held 328 gA qy:=by
 intro fuel cs y h
 obtain⟨xs,n,_,_,hl,hlen,hf⟩:=DataW.trod_struct Tryz.underlying328 h
 have fP:cs.length=2:=hl.trans (by kernel_rfl)
 obtain⟨c0,c1,rfl⟩: ∃c0 c1,cs= [c0,c1]:=by
  match cs,fP with
  | [c0,c1],_=>exact⟨_,_,rfl⟩
 obtain⟨y0,hy0⟩: ∃y,xs[0]? =some y:=⟨_,List.getElem?_eq_getElem (by rw[hlen];decide)⟩
 have q0:DataW.trod enc Tryz.prog w 0 spare held n 3 (List.take (Tryz.prog.cellsOf 3) (List.drop 0 [c0,c1]))=xs[0]? :=hf 0 _ rfl
 rw[hy0,show Tryz.prog.cellsOf 3=1 from by kernel_rfl]at q0
 have q0:DataW.trod enc Tryz.prog w 0 spare held n 3 [c0]=some y0:=q0
 obtain⟨x0,f0,e0,w0⟩:=(aX Tryz.underlying3) _ _ _ q0
 have e0:eE w [c0] x0 f0:=e0
 obtain⟨z0,_⟩:=e0
 simp only[List.cons.injEq,and_true]at z0
 obtain⟨y1,hy1⟩: ∃y,xs[1]? =some y:=⟨_,List.getElem?_eq_getElem (by rw[hlen];decide)⟩
 have q1:DataW.trod enc Tryz.prog w 0 spare held n 308 (List.take (Tryz.prog.cellsOf 308) (List.drop 1 [c0,c1]))=xs[1]? :=hf 1 _ rfl
 rw[hy1,show Tryz.prog.cellsOf 308=1 from by kernel_rfl]at q1
 have q1:DataW.trod enc Tryz.prog w 0 spare held n 308 [c1]=some y1:=q1
 obtain⟨x1,f1,e1,w1⟩:=vk _ _ _ q1
 have e1:Cm w [c1] x1 f1:=e1
 subst z0
 exact⟨⟨x0,x1⟩,_,⟨_,_,rfl,e1,rfl⟩,⟨w0,w1⟩⟩
set_option maxRecDepth 100000 in
theorem zv{H:Type}{enc:TypeId×Value→H}{w:World}{spare:Nat→Bool}{held:Bool}:ig enc Tryz.prog w spare held 269 vA zH:=by
 intro fuel cs y h
 obtain⟨xs,n,_,_,hl,hlen,hf⟩:=DataW.trod_struct Tryz.underlying269 h
 have fP:cs.length=5:=hl.trans (by kernel_rfl)
 obtain⟨c0,c1,c2,c3,c4,rfl⟩: ∃c0 c1 c2 c3 c4,cs= [c0,c1,c2,c3,c4]:=by
  match cs,fP with
  | [c0,c1,c2,c3,c4],_=>exact⟨_,_,_,_,_,rfl⟩
 obtain⟨y0,hy0⟩: ∃y,xs[0]? =some y:=⟨_,List.getElem?_eq_getElem (by rw[hlen];decide)⟩
 have q0:DataW.trod enc Tryz.prog w 0 spare held n 3 (List.take (Tryz.prog.cellsOf 3) (List.drop 0 [c0,c1,c2,c3,c4]))=xs[0]? :=hf 0 _ rfl
 rw[hy0,show Tryz.prog.cellsOf 3=1 from by kernel_rfl]at q0
 have q0:DataW.trod enc Tryz.prog w 0 spare held n 3 [c0]=some y0:=q0
 obtain⟨x0,f0,e0,w0⟩:=(aX Tryz.underlying3) _ _ _ q0
 have e0:eE w [c0] x0 f0:=e0
 obtain⟨z0,_⟩:=e0
 simp only[List.cons.injEq,and_true]at z0
 obtain⟨y1,hy1⟩: ∃y,xs[1]? =some y:=⟨_,List.getElem?_eq_getElem (by rw[hlen];decide)⟩
 have q1:DataW.trod enc Tryz.prog w 0 spare held n 3 (List.take (Tryz.prog.cellsOf 3) (List.drop 1 [c0,c1,c2,c3,c4]))=xs[1]? :=hf 1 _ rfl
 rw[hy1,show Tryz.prog.cellsOf 3=1 from by kernel_rfl]at q1
 have q1:DataW.trod enc Tryz.prog w 0 spare held n 3 [c1]=some y1:=q1
 obtain⟨x1,f1,e1,w1⟩:=(aX Tryz.underlying3) _ _ _ q1
 have e1:eE w [c1] x1 f1:=e1
 obtain⟨z1,_⟩:=e1
 simp only[List.cons.injEq,and_true]at z1
 obtain⟨y2,DZ⟩: ∃y,xs[2]? =some y:=⟨_,List.getElem?_eq_getElem (by rw[hlen];decide)⟩
 have q2:DataW.trod enc Tryz.prog w 0 spare held n 3 (List.take (Tryz.prog.cellsOf 3) (List.drop 2 [c0,c1,c2,c3,c4]))=xs[2]? :=hf 2 _ rfl
 rw[DZ,show Tryz.prog.cellsOf 3=1 from by kernel_rfl]at q2
 have q2:DataW.trod enc Tryz.prog w 0 spare held n 3 [c2]=some y2:=q2
 obtain⟨x2,f2,e2,w2⟩:=(aX Tryz.underlying3) _ _ _ q2
 have e2:eE w [c2] x2 f2:=e2
 obtain⟨z2,_⟩:=e2
 simp only[List.cons.injEq,and_true]at z2
 obtain⟨y3,G5⟩: ∃y,xs[3]? =some y:=⟨_,List.getElem?_eq_getElem (by rw[hlen];decide)⟩
 have q3:DataW.trod enc Tryz.prog w 0 spare held n 267 (List.take (Tryz.prog.cellsOf 267) (List.drop 3 [c0,c1,c2,c3,c4]))=xs[3]? :=hf 3 _ rfl
 rw[G5,show Tryz.prog.cellsOf 267=1 from by kernel_rfl]at q3
 have q3:DataW.trod enc Tryz.prog w 0 spare held n 267 [c3]=some y3:=q3
 obtain⟨x3,f3,e3,w3⟩:=(cE (k:=2) Tryz.underlying267 (by kernel_rfl) (by decide) s6) _ _ _ q3
 have e3:(s9 2 gA) w [c3] x3 f3:=e3
 obtain⟨v3,z3,e3⟩:=e3
 simp only[List.cons.injEq,and_true]at z3
 obtain⟨y4,G6⟩: ∃y,xs[4]? =some y:=⟨_,List.getElem?_eq_getElem (by rw[hlen];decide)⟩
 have q4:DataW.trod enc Tryz.prog w 0 spare held n 3 (List.take (Tryz.prog.cellsOf 3) (List.drop 4 [c0,c1,c2,c3,c4]))=xs[4]? :=hf 4 _ rfl
 rw[G6,show Tryz.prog.cellsOf 3=1 from by kernel_rfl]at q4
 have q4:DataW.trod enc Tryz.prog w 0 spare held n 3 [c4]=some y4:=q4
 obtain⟨x4,f4,e4,w4⟩:=(aX Tryz.underlying3) _ _ _ q4
 have e4:eE w [c4] x4 f4:=e4
 obtain⟨z4,_⟩:=e4
 simp only[List.cons.injEq,and_true]at z4
 subst z0
 subst z1
 subst z2
 subst z3
 subst z4
 exact⟨⟨x0,x1,x2,x3,x4⟩,_,⟨_,_,rfl,e3,rfl⟩,⟨w0,w1,w2,w3,w4⟩⟩
set_option maxRecDepth 100000 in
theorem s7{H:Type}{enc:TypeId×Value→H}{w:World}{spare:Nat→Bool}{held:Bool}:ig enc Tryz.prog w spare held 310 gB qz:=by
 intro fuel cs y h
 obtain⟨xs,n,_,_,hl,hlen,hf⟩:=DataW.trod_struct Tryz.underlying310 h
 have fP:cs.length=2:=hl.trans (by kernel_rfl)
 obtain⟨c0,c1,rfl⟩: ∃c0 c1,cs= [c0,c1]:=by
  match cs,fP with
  | [c0,c1],_=>exact⟨_,_,rfl⟩
 obtain⟨y0,hy0⟩: ∃y,xs[0]? =some y:=⟨_,List.getElem?_eq_getElem (by rw[hlen];decide)⟩
 have q0:DataW.trod enc Tryz.prog w 0 spare held n 3 (List.take (Tryz.prog.cellsOf 3) (List.drop 0 [c0,c1]))=xs[0]? :=hf 0 _ rfl
 rw[hy0,show Tryz.prog.cellsOf 3=1 from by kernel_rfl]at q0
 have q0:DataW.trod enc Tryz.prog w 0 spare held n 3 [c0]=some y0:=q0
 obtain⟨x0,f0,e0,w0⟩:=(aX Tryz.underlying3) _ _ _ q0
 have e0:eE w [c0] x0 f0:=e0
 obtain⟨z0,_⟩:=e0
 simp only[List.cons.injEq,and_true]at z0
 obtain⟨y1,hy1⟩: ∃y,xs[1]? =some y:=⟨_,List.getElem?_eq_getElem (by rw[hlen];decide)⟩
 have q1:DataW.trod enc Tryz.prog w 0 spare held n 308 (List.take (Tryz.prog.cellsOf 308) (List.drop 1 [c0,c1]))=xs[1]? :=hf 1 _ rfl
 rw[hy1,show Tryz.prog.cellsOf 308=1 from by kernel_rfl]at q1
 have q1:DataW.trod enc Tryz.prog w 0 spare held n 308 [c1]=some y1:=q1
 obtain⟨x1,f1,e1,w1⟩:=vk _ _ _ q1
 have e1:Cm w [c1] x1 f1:=e1
 subst z0
 exact⟨⟨x0,x1⟩,_,⟨_,_,rfl,e1,rfl⟩,⟨w0,w1⟩⟩
set_option maxRecDepth 100000 in
theorem zw{H:Type}{enc:TypeId×Value→H}{w:World}{spare:Nat→Bool}{held:Bool}:ig enc Tryz.prog w spare held 109 vB zI:=by
 intro fuel cs y h
 obtain⟨xs,n,_,_,hl,hlen,hf⟩:=DataW.trod_struct Tryz.underlying109 h
 have fP:cs.length=2:=hl.trans (by kernel_rfl)
 obtain⟨c0,c1,rfl⟩: ∃c0 c1,cs= [c0,c1]:=by
  match cs,fP with
  | [c0,c1],_=>exact⟨_,_,rfl⟩
 obtain⟨y0,hy0⟩: ∃y,xs[0]? =some y:=⟨_,List.getElem?_eq_getElem (by rw[hlen];decide)⟩
 have q0:DataW.trod enc Tryz.prog w 0 spare held n 3 (List.take (Tryz.prog.cellsOf 3) (List.drop 0 [c0,c1]))=xs[0]? :=hf 0 _ rfl
 rw[hy0,show Tryz.prog.cellsOf 3=1 from by kernel_rfl]at q0
 have q0:DataW.trod enc Tryz.prog w 0 spare held n 3 [c0]=some y0:=q0
 obtain⟨x0,f0,e0,w0⟩:=(aX Tryz.underlying3) _ _ _ q0
 have e0:eE w [c0] x0 f0:=e0
 obtain⟨z0,_⟩:=e0
 simp only[List.cons.injEq,and_true]at z0
 obtain⟨y1,hy1⟩: ∃y,xs[1]? =some y:=⟨_,List.getElem?_eq_getElem (by rw[hlen];decide)⟩
 have q1:DataW.trod enc Tryz.prog w 0 spare held n 107 (List.take (Tryz.prog.cellsOf 107) (List.drop 1 [c0,c1]))=xs[1]? :=hf 1 _ rfl
 rw[hy1,show Tryz.prog.cellsOf 107=1 from by kernel_rfl]at q1
 have q1:DataW.trod enc Tryz.prog w 0 spare held n 107 [c1]=some y1:=q1
 obtain⟨x1,f1,e1,w1⟩:=(cE (k:=2) Tryz.underlying107 (by kernel_rfl) (by decide) s7) _ _ _ q1
 have e1:(s9 2 gB) w [c1] x1 f1:=e1
 obtain⟨v1,z1,e1⟩:=e1
 simp only[List.cons.injEq,and_true]at z1
 subst z0
 subst z1
 exact⟨⟨x0,x1⟩,_,⟨_,_,rfl,e1,rfl⟩,⟨w0,w1⟩⟩
set_option maxRecDepth 100000 in
theorem rF{H:Type}{enc:TypeId×Value→H}{w:World}{spare:Nat→Bool}{held:Bool}:ig enc Tryz.prog w spare held 271 rG vC:=by
 intro fuel cs y h
 obtain⟨xs,n,_,_,hl,hlen,hf⟩:=DataW.trod_struct Tryz.underlying271 h
 have fP:cs.length=8:=hl.trans (by kernel_rfl)
 obtain⟨c0,c1,c2,c3,c4,c5,c6,c7,rfl⟩: ∃c0 c1 c2 c3 c4 c5 c6 c7,cs= [c0,c1,c2,c3,c4,c5,c6,c7]:=by
  match cs,fP with
  | [c0,c1,c2,c3,c4,c5,c6,c7],_=>exact⟨_,_,_,_,_,_,_,_,rfl⟩
 obtain⟨y0,hy0⟩: ∃y,xs[0]? =some y:=⟨_,List.getElem?_eq_getElem (by rw[hlen];decide)⟩
 have q0:DataW.trod enc Tryz.prog w 0 spare held n 3 (List.take (Tryz.prog.cellsOf 3) (List.drop 0 [c0,c1,c2,c3,c4,c5,c6,c7]))=xs[0]? :=hf 0 _ rfl
 rw[hy0,show Tryz.prog.cellsOf 3=1 from by kernel_rfl]at q0
 have q0:DataW.trod enc Tryz.prog w 0 spare held n 3 [c0]=some y0:=q0
 obtain⟨x0,f0,e0,w0⟩:=(aX Tryz.underlying3) _ _ _ q0
 have e0:eE w [c0] x0 f0:=e0
 obtain⟨z0,_⟩:=e0
 simp only[List.cons.injEq,and_true]at z0
 obtain⟨y1,hy1⟩: ∃y,xs[1]? =some y:=⟨_,List.getElem?_eq_getElem (by rw[hlen];decide)⟩
 have q1:DataW.trod enc Tryz.prog w 0 spare held n 3 (List.take (Tryz.prog.cellsOf 3) (List.drop 1 [c0,c1,c2,c3,c4,c5,c6,c7]))=xs[1]? :=hf 1 _ rfl
 rw[hy1,show Tryz.prog.cellsOf 3=1 from by kernel_rfl]at q1
 have q1:DataW.trod enc Tryz.prog w 0 spare held n 3 [c1]=some y1:=q1
 obtain⟨x1,f1,e1,w1⟩:=(aX Tryz.underlying3) _ _ _ q1
 have e1:eE w [c1] x1 f1:=e1
 obtain⟨z1,_⟩:=e1
 simp only[List.cons.injEq,and_true]at z1
 obtain⟨y2,DZ⟩: ∃y,xs[2]? =some y:=⟨_,List.getElem?_eq_getElem (by rw[hlen];decide)⟩
 have q2:DataW.trod enc Tryz.prog w 0 spare held n 3 (List.take (Tryz.prog.cellsOf 3) (List.drop 2 [c0,c1,c2,c3,c4,c5,c6,c7]))=xs[2]? :=hf 2 _ rfl
 rw[DZ,show Tryz.prog.cellsOf 3=1 from by kernel_rfl]at q2
 have q2:DataW.trod enc Tryz.prog w 0 spare held n 3 [c2]=some y2:=q2
 obtain⟨x2,f2,e2,w2⟩:=(aX Tryz.underlying3) _ _ _ q2
 have e2:eE w [c2] x2 f2:=e2
 obtain⟨z2,_⟩:=e2
 simp only[List.cons.injEq,and_true]at z2
 obtain⟨y3,G5⟩: ∃y,xs[3]? =some y:=⟨_,List.getElem?_eq_getElem (by rw[hlen];decide)⟩
 have q3:DataW.trod enc Tryz.prog w 0 spare held n 3 (List.take (Tryz.prog.cellsOf 3) (List.drop 3 [c0,c1,c2,c3,c4,c5,c6,c7]))=xs[3]? :=hf 3 _ rfl
 rw[G5,show Tryz.prog.cellsOf 3=1 from by kernel_rfl]at q3
 have q3:DataW.trod enc Tryz.prog w 0 spare held n 3 [c3]=some y3:=q3
 obtain⟨x3,f3,e3,w3⟩:=(aX Tryz.underlying3) _ _ _ q3
 have e3:eE w [c3] x3 f3:=e3
 obtain⟨z3,_⟩:=e3
 simp only[List.cons.injEq,and_true]at z3
 obtain⟨y4,G6⟩: ∃y,xs[4]? =some y:=⟨_,List.getElem?_eq_getElem (by rw[hlen];decide)⟩
 have q4:DataW.trod enc Tryz.prog w 0 spare held n 38 (List.take (Tryz.prog.cellsOf 38) (List.drop 4 [c0,c1,c2,c3,c4,c5,c6,c7]))=xs[4]? :=hf 4 _ rfl
 rw[G6,show Tryz.prog.cellsOf 38=1 from by kernel_rfl]at q4
 have q4:DataW.trod enc Tryz.prog w 0 spare held n 38 [c4]=some y4:=q4
 obtain⟨x4,f4,e4,w4⟩:=(cE (k:=1) Tryz.underlying38 (by kernel_rfl) (by decide) (cE (k:=1) Tryz.underlying22 (by kernel_rfl) (by decide) (ot Tryz.underlying5))) _ _ _ q4
 have e4:(s9 1 (s9 1 vl)) w [c4] x4 f4:=e4
 obtain⟨v4,z4,e4⟩:=e4
 simp only[List.cons.injEq,and_true]at z4
 obtain⟨y5,Is⟩: ∃y,xs[5]? =some y:=⟨_,List.getElem?_eq_getElem (by rw[hlen];decide)⟩
 have q5:DataW.trod enc Tryz.prog w 0 spare held n 3 (List.take (Tryz.prog.cellsOf 3) (List.drop 5 [c0,c1,c2,c3,c4,c5,c6,c7]))=xs[5]? :=hf 5 _ rfl
 rw[Is,show Tryz.prog.cellsOf 3=1 from by kernel_rfl]at q5
 have q5:DataW.trod enc Tryz.prog w 0 spare held n 3 [c5]=some y5:=q5
 obtain⟨x5,f5,e5,w5⟩:=(aX Tryz.underlying3) _ _ _ q5
 have e5:eE w [c5] x5 f5:=e5
 obtain⟨z5,_⟩:=e5
 simp only[List.cons.injEq,and_true]at z5
 obtain⟨y6,It⟩: ∃y,xs[6]? =some y:=⟨_,List.getElem?_eq_getElem (by rw[hlen];decide)⟩
 have q6:DataW.trod enc Tryz.prog w 0 spare held n 38 (List.take (Tryz.prog.cellsOf 38) (List.drop 6 [c0,c1,c2,c3,c4,c5,c6,c7]))=xs[6]? :=hf 6 _ rfl
 rw[It,show Tryz.prog.cellsOf 38=1 from by kernel_rfl]at q6
 have q6:DataW.trod enc Tryz.prog w 0 spare held n 38 [c6]=some y6:=q6
 obtain⟨x6,f6,e6,w6⟩:=(cE (k:=1) Tryz.underlying38 (by kernel_rfl) (by decide) (cE (k:=1) Tryz.underlying22 (by kernel_rfl) (by decide) (ot Tryz.underlying5))) _ _ _ q6
 have e6:(s9 1 (s9 1 vl)) w [c6] x6 f6:=e6
 obtain⟨v6,z6,e6⟩:=e6
 simp only[List.cons.injEq,and_true]at z6
 obtain⟨y7,Iu⟩: ∃y,xs[7]? =some y:=⟨_,List.getElem?_eq_getElem (by rw[hlen];decide)⟩
 have q7:DataW.trod enc Tryz.prog w 0 spare held n 3 (List.take (Tryz.prog.cellsOf 3) (List.drop 7 [c0,c1,c2,c3,c4,c5,c6,c7]))=xs[7]? :=hf 7 _ rfl
 rw[Iu,show Tryz.prog.cellsOf 3=1 from by kernel_rfl]at q7
 have q7:DataW.trod enc Tryz.prog w 0 spare held n 3 [c7]=some y7:=q7
 obtain⟨x7,f7,e7,w7⟩:=(aX Tryz.underlying3) _ _ _ q7
 have e7:eE w [c7] x7 f7:=e7
 obtain⟨z7,_⟩:=e7
 simp only[List.cons.injEq,and_true]at z7
 subst z0
 subst z1
 subst z2
 subst z3
 subst z4
 subst z5
 subst z6
 subst z7
 exact⟨⟨x0,x1,x2,x3,x4,x5,x6,x7⟩,_,⟨_,_,_,_,rfl,e4,e6,rfl⟩,⟨w0,w1,w2,w3,w4,w5,w6,w7⟩⟩
set_option maxRecDepth 100000 in
theorem zx{H:Type}{enc:TypeId×Value→H}{w:World}{spare:Nat→Bool}{held:Bool}:ig enc Tryz.prog w spare held 273 vD zJ:=by
 intro fuel cs y h
 obtain⟨xs,n,_,_,hl,hlen,hf⟩:=DataW.trod_struct Tryz.underlying273 h
 have fP:cs.length=16:=hl.trans (by kernel_rfl)
 obtain⟨c0,c1,c2,c3,c4,c5,c6,c7,c8,c9,FB,FC,FD,FE,FF,FG,rfl⟩: ∃c0 c1 c2 c3 c4 c5 c6 c7 c8 c9 FB FC FD FE FF FG,cs= [c0,c1,c2,c3,c4,c5,c6,c7,c8,c9,FB,FC,FD,FE,FF,FG]:=by
  match cs,fP with
  | [c0,c1,c2,c3,c4,c5,c6,c7,c8,c9,FB,FC,FD,FE,FF,FG],_=>exact⟨_,_,_,_,_,_,_,_,_,_,_,_,_,_,_,_,rfl⟩
 obtain⟨y0,hy0⟩: ∃y,xs[0]? =some y:=⟨_,List.getElem?_eq_getElem (by rw[hlen];decide)⟩
 have q0:DataW.trod enc Tryz.prog w 0 spare held n 271 (List.take (Tryz.prog.cellsOf 271) (List.drop 0 [c0,c1,c2,c3,c4,c5,c6,c7,c8,c9,FB,FC,FD,FE,FF,FG]))=xs[0]? :=hf 0 _ rfl
 rw[hy0,show Tryz.prog.cellsOf 271=8 from by kernel_rfl]at q0
 have q0:DataW.trod enc Tryz.prog w 0 spare held n 271 [c0,c1,c2,c3,c4,c5,c6,c7]=some y0:=q0
 obtain⟨x0,f0,e0,w0⟩:=rF _ _ _ q0
 have e0:rG w [c0,c1,c2,c3,c4,c5,c6,c7] x0 f0:=e0
 obtain⟨y1,hy1⟩: ∃y,xs[1]? =some y:=⟨_,List.getElem?_eq_getElem (by rw[hlen];decide)⟩
 have q1:DataW.trod enc Tryz.prog w 0 spare held n 271 (List.take (Tryz.prog.cellsOf 271) (List.drop 8 [c0,c1,c2,c3,c4,c5,c6,c7,c8,c9,FB,FC,FD,FE,FF,FG]))=xs[1]? :=hf 1 _ rfl
 rw[hy1,show Tryz.prog.cellsOf 271=8 from by kernel_rfl]at q1
 have q1:DataW.trod enc Tryz.prog w 0 spare held n 271 [c8,c9,FB,FC,FD,FE,FF,FG]=some y1:=q1
 obtain⟨x1,f1,e1,w1⟩:=rF _ _ _ q1
 have e1:rG w [c8,c9,FB,FC,FD,FE,FF,FG] x1 f1:=e1
 exact⟨⟨x0,x1⟩,_,⟨_,_,_,_,rfl,e0,e1,rfl⟩,⟨w0,w1⟩⟩
set_option maxRecDepth 100000 in
theorem zy{H:Type}{enc:TypeId×Value→H}{w:World}{spare:Nat→Bool}{held:Bool}:ig enc Tryz.prog w spare held 111 vF vE:=by
 intro fuel cs y h
 obtain⟨xs,n,_,_,hl,hlen,hf⟩:=DataW.trod_struct Tryz.underlying111 h
 have fP:cs.length=10:=hl.trans (by kernel_rfl)
 obtain⟨c0,c1,c2,c3,c4,c5,c6,c7,c8,c9,rfl⟩: ∃c0 c1 c2 c3 c4 c5 c6 c7 c8 c9,cs= [c0,c1,c2,c3,c4,c5,c6,c7,c8,c9]:=by
  match cs,fP with
  | [c0,c1,c2,c3,c4,c5,c6,c7,c8,c9],_=>exact⟨_,_,_,_,_,_,_,_,_,_,rfl⟩
 obtain⟨y0,hy0⟩: ∃y,xs[0]? =some y:=⟨_,List.getElem?_eq_getElem (by rw[hlen];decide)⟩
 have q0:DataW.trod enc Tryz.prog w 0 spare held n 3 (List.take (Tryz.prog.cellsOf 3) (List.drop 0 [c0,c1,c2,c3,c4,c5,c6,c7,c8,c9]))=xs[0]? :=hf 0 _ rfl
 rw[hy0,show Tryz.prog.cellsOf 3=1 from by kernel_rfl]at q0
 have q0:DataW.trod enc Tryz.prog w 0 spare held n 3 [c0]=some y0:=q0
 obtain⟨x0,f0,e0,w0⟩:=(aX Tryz.underlying3) _ _ _ q0
 have e0:eE w [c0] x0 f0:=e0
 obtain⟨z0,_⟩:=e0
 simp only[List.cons.injEq,and_true]at z0
 obtain⟨y1,hy1⟩: ∃y,xs[1]? =some y:=⟨_,List.getElem?_eq_getElem (by rw[hlen];decide)⟩
 have q1:DataW.trod enc Tryz.prog w 0 spare held n 105 (List.take (Tryz.prog.cellsOf 105) (List.drop 1 [c0,c1,c2,c3,c4,c5,c6,c7,c8,c9]))=xs[1]? :=hf 1 _ rfl
 rw[hy1,show Tryz.prog.cellsOf 105=1 from by kernel_rfl]at q1
 have q1:DataW.trod enc Tryz.prog w 0 spare held n 105 [c1]=some y1:=q1
 obtain⟨x1,f1,e1,w1⟩:=(cE (k:=5) Tryz.underlying105 (by kernel_rfl) (by decide) zv) _ _ _ q1
 have e1:(s9 5 vA) w [c1] x1 f1:=e1
 obtain⟨v1,z1,e1⟩:=e1
 simp only[List.cons.injEq,and_true]at z1
 obtain⟨y2,DZ⟩: ∃y,xs[2]? =some y:=⟨_,List.getElem?_eq_getElem (by rw[hlen];decide)⟩
 have q2:DataW.trod enc Tryz.prog w 0 spare held n 106 (List.take (Tryz.prog.cellsOf 106) (List.drop 2 [c0,c1,c2,c3,c4,c5,c6,c7,c8,c9]))=xs[2]? :=hf 2 _ rfl
 rw[DZ,show Tryz.prog.cellsOf 106=1 from by kernel_rfl]at q2
 have q2:DataW.trod enc Tryz.prog w 0 spare held n 106 [c2]=some y2:=q2
 obtain⟨x2,f2,e2,w2⟩:=(cE (k:=16) Tryz.underlying106 (by kernel_rfl) (by decide) zx) _ _ _ q2
 have e2:(s9 16 vD) w [c2] x2 f2:=e2
 obtain⟨v2,z2,e2⟩:=e2
 simp only[List.cons.injEq,and_true]at z2
 obtain⟨y3,G5⟩: ∃y,xs[3]? =some y:=⟨_,List.getElem?_eq_getElem (by rw[hlen];decide)⟩
 have q3:DataW.trod enc Tryz.prog w 0 spare held n 109 (List.take (Tryz.prog.cellsOf 109) (List.drop 3 [c0,c1,c2,c3,c4,c5,c6,c7,c8,c9]))=xs[3]? :=hf 3 _ rfl
 rw[G5,show Tryz.prog.cellsOf 109=2 from by kernel_rfl]at q3
 have q3:DataW.trod enc Tryz.prog w 0 spare held n 109 [c3,c4]=some y3:=q3
 obtain⟨x3,f3,e3,w3⟩:=zw _ _ _ q3
 have e3:vB w [c3,c4] x3 f3:=e3
 obtain⟨y4,G6⟩: ∃y,xs[4]? =some y:=⟨_,List.getElem?_eq_getElem (by rw[hlen];decide)⟩
 have q4:DataW.trod enc Tryz.prog w 0 spare held n 3 (List.take (Tryz.prog.cellsOf 3) (List.drop 5 [c0,c1,c2,c3,c4,c5,c6,c7,c8,c9]))=xs[4]? :=hf 4 _ rfl
 rw[G6,show Tryz.prog.cellsOf 3=1 from by kernel_rfl]at q4
 have q4:DataW.trod enc Tryz.prog w 0 spare held n 3 [c5]=some y4:=q4
 obtain⟨x4,f4,e4,w4⟩:=(aX Tryz.underlying3) _ _ _ q4
 have e4:eE w [c5] x4 f4:=e4
 obtain⟨z4,_⟩:=e4
 simp only[List.cons.injEq,and_true]at z4
 obtain⟨y5,Is⟩: ∃y,xs[5]? =some y:=⟨_,List.getElem?_eq_getElem (by rw[hlen];decide)⟩
 have q5:DataW.trod enc Tryz.prog w 0 spare held n 3 (List.take (Tryz.prog.cellsOf 3) (List.drop 6 [c0,c1,c2,c3,c4,c5,c6,c7,c8,c9]))=xs[5]? :=hf 5 _ rfl
 rw[Is,show Tryz.prog.cellsOf 3=1 from by kernel_rfl]at q5
 have q5:DataW.trod enc Tryz.prog w 0 spare held n 3 [c6]=some y5:=q5
 obtain⟨x5,f5,e5,w5⟩:=(aX Tryz.underlying3) _ _ _ q5
 have e5:eE w [c6] x5 f5:=e5
 obtain⟨z5,_⟩:=e5
 simp only[List.cons.injEq,and_true]at z5
 obtain⟨y6,It⟩: ∃y,xs[6]? =some y:=⟨_,List.getElem?_eq_getElem (by rw[hlen];decide)⟩
 have q6:DataW.trod enc Tryz.prog w 0 spare held n 3 (List.take (Tryz.prog.cellsOf 3) (List.drop 7 [c0,c1,c2,c3,c4,c5,c6,c7,c8,c9]))=xs[6]? :=hf 6 _ rfl
 rw[It,show Tryz.prog.cellsOf 3=1 from by kernel_rfl]at q6
 have q6:DataW.trod enc Tryz.prog w 0 spare held n 3 [c7]=some y6:=q6
 obtain⟨x6,f6,e6,w6⟩:=(aX Tryz.underlying3) _ _ _ q6
 have e6:eE w [c7] x6 f6:=e6
 obtain⟨z6,_⟩:=e6
 simp only[List.cons.injEq,and_true]at z6
 obtain⟨y7,Iu⟩: ∃y,xs[7]? =some y:=⟨_,List.getElem?_eq_getElem (by rw[hlen];decide)⟩
 have q7:DataW.trod enc Tryz.prog w 0 spare held n 29 (List.take (Tryz.prog.cellsOf 29) (List.drop 8 [c0,c1,c2,c3,c4,c5,c6,c7,c8,c9]))=xs[7]? :=hf 7 _ rfl
 rw[Iu,show Tryz.prog.cellsOf 29=1 from by kernel_rfl]at q7
 have q7:DataW.trod enc Tryz.prog w 0 spare held n 29 [c8]=some y7:=q7
 obtain⟨x7,f7,e7,w7⟩:=(cE (k:=1) Tryz.underlying29 (by kernel_rfl) (by decide) (aX Tryz.underlying3)) _ _ _ q7
 have e7:(s9 1 eE) w [c8] x7 f7:=e7
 obtain⟨v7,z7,e7⟩:=e7
 simp only[List.cons.injEq,and_true]at z7
 obtain⟨y8,Ks⟩: ∃y,xs[8]? =some y:=⟨_,List.getElem?_eq_getElem (by rw[hlen];decide)⟩
 have q8:DataW.trod enc Tryz.prog w 0 spare held n 3 (List.take (Tryz.prog.cellsOf 3) (List.drop 9 [c0,c1,c2,c3,c4,c5,c6,c7,c8,c9]))=xs[8]? :=hf 8 _ rfl
 rw[Ks,show Tryz.prog.cellsOf 3=1 from by kernel_rfl]at q8
 have q8:DataW.trod enc Tryz.prog w 0 spare held n 3 [c9]=some y8:=q8
 obtain⟨x8,f8,e8,w8⟩:=(aX Tryz.underlying3) _ _ _ q8
 have e8:eE w [c9] x8 f8:=e8
 obtain⟨z8,_⟩:=e8
 simp only[List.cons.injEq,and_true]at z8
 subst z0
 subst z1
 subst z2
 subst z4
 subst z5
 subst z6
 subst z7
 subst z8
 exact⟨⟨x0,x1,x2,x3,x4,x5,x6,x7,x8⟩,_,⟨_,_,_,_,_,_,_,_,rfl,e1,e2,e3,e7,rfl⟩,⟨w0,w1,w2,w3,w4,w5,w6,w7,w8⟩⟩
end
end Go.Proofs.YteodajeiagmekaaGreat.C
