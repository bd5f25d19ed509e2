/-
  The arguments of the laws, opened.
-/
import Derived.Test.YtmcgjpdljafkeaaGreatM4
import Derived.Test.YtmcgjpdljafkeaaGreatM27
namespace Go.Proofs.YtmcgjpdljafkeaaGreat.C
set_option linter.all false
open Go.RowKit L D
section
set_option maxRecDepth 100000 in
theorem I3{H:Type}{enc:TypeId×Value→H}{w:World}{spare:Nat→Bool}{held:Bool}:oA enc Tryz.prog w spare held 168 Ru NU:=by
 intro fuel cs y h
 obtain⟨xs,n,_,_,hl,hlen,hf⟩:=DataW.trod_struct Tryz.underlying168 h
 have iI:cs.length=1:=hl.trans (by kernel_rfl)
 obtain⟨c0,rfl⟩: ∃c0,cs= [c0]:=by
  match cs,iI with
  | [c0],_=>exact⟨_,rfl⟩
 obtain⟨y0,hy0⟩: ∃y,xs[0]? =some y:=⟨_,List.getElem?_eq_getElem (by rw[hlen];decide)⟩
 have q0:DataW.trod enc Tryz.prog w 0 spare held n 79 (List.take (Tryz.prog.cellsOf 79) (List.drop 0 [c0]))=xs[0]? :=hf 0 _ rfl
 rw[hy0,show Tryz.prog.cellsOf 79=1 from by kernel_rfl]at q0
 have q0:DataW.trod enc Tryz.prog w 0 spare held n 79 [c0]=some y0:=q0
 obtain⟨x0,f0,e0,w0⟩:=(eS (k:=1) Tryz.underlying79 (by kernel_rfl) (by decide) (eS (k:=1) Tryz.underlying45 (by kernel_rfl) (by decide) (wg Tryz.underlying5))) _ _ _ q0
 have e0:(GH 1 (GH 1 GL)) w [c0] x0 f0:=e0
 obtain⟨v0,z0,e0⟩:=e0
 simp only[List.cons.injEq,and_true]at z0
 subst z0
 exact⟨⟨x0⟩,_,⟨_,_,rfl,e0,rfl⟩,w0⟩
set_option maxRecDepth 100000 in
theorem Gx{H:Type}{enc:TypeId×Value→H}{w:World}{spare:Nat→Bool}{held:Bool}:oA enc Tryz.prog w spare held 224 pL DW:=by
 intro fuel cs y h
 obtain⟨xs,n,_,_,hl,hlen,hf⟩:=DataW.trod_struct Tryz.underlying224 h
 have iI:cs.length=2:=hl.trans (by kernel_rfl)
 obtain⟨c0,c1,rfl⟩: ∃c0 c1,cs= [c0,c1]:=by
  match cs,iI with
  | [c0,c1],_=>exact⟨_,_,rfl⟩
 obtain⟨y0,hy0⟩: ∃y,xs[0]? =some y:=⟨_,List.getElem?_eq_getElem (by rw[hlen];decide)⟩
 have q0:DataW.trod enc Tryz.prog w 0 spare held n 3 (List.take (Tryz.prog.cellsOf 3) (List.drop 0 [c0,c1]))=xs[0]? :=hf 0 _ rfl
 rw[hy0,show Tryz.prog.cellsOf 3=1 from by kernel_rfl]at q0
 have q0:DataW.trod enc Tryz.prog w 0 spare held n 3 [c0]=some y0:=q0
 obtain⟨x0,f0,e0,w0⟩:=(ct Tryz.underlying3) _ _ _ q0
 have e0:j9 w [c0] x0 f0:=e0
 obtain⟨z0,_⟩:=e0
 simp only[List.cons.injEq,and_true]at z0
 obtain⟨y1,hy1⟩: ∃y,xs[1]? =some y:=⟨_,List.getElem?_eq_getElem (by rw[hlen];decide)⟩
 have q1:DataW.trod enc Tryz.prog w 0 spare held n 168 (List.take (Tryz.prog.cellsOf 168) (List.drop 1 [c0,c1]))=xs[1]? :=hf 1 _ rfl
 rw[hy1,show Tryz.prog.cellsOf 168=1 from by kernel_rfl]at q1
 have q1:DataW.trod enc Tryz.prog w 0 spare held n 168 [c1]=some y1:=q1
 obtain⟨x1,f1,e1,w1⟩:=I3 _ _ _ q1
 have e1:Ru w [c1] x1 f1:=e1
 subst z0
 exact⟨⟨x0,x1⟩,_,⟨_,_,rfl,e1,rfl⟩,⟨w0,w1⟩⟩
set_option maxRecDepth 100000 in
theorem NG{H:Type}{enc:TypeId×Value→H}{w:World}{spare:Nat→Bool}{held:Bool}:oA enc Tryz.prog w spare held 111 Jo NX:=by
 intro fuel cs y h
 obtain⟨xs,n,_,_,hl,hlen,hf⟩:=DataW.trod_struct Tryz.underlying111 h
 have iI:cs.length=5:=hl.trans (by kernel_rfl)
 obtain⟨c0,c1,c2,c3,c4,rfl⟩: ∃c0 c1 c2 c3 c4,cs= [c0,c1,c2,c3,c4]:=by
  match cs,iI with
  | [c0,c1,c2,c3,c4],_=>exact⟨_,_,_,_,_,rfl⟩
 obtain⟨y0,hy0⟩: ∃y,xs[0]? =some y:=⟨_,List.getElem?_eq_getElem (by rw[hlen];decide)⟩
 have q0:DataW.trod enc Tryz.prog w 0 spare held n 3 (List.take (Tryz.prog.cellsOf 3) (List.drop 0 [c0,c1,c2,c3,c4]))=xs[0]? :=hf 0 _ rfl
 rw[hy0,show Tryz.prog.cellsOf 3=1 from by kernel_rfl]at q0
 have q0:DataW.trod enc Tryz.prog w 0 spare held n 3 [c0]=some y0:=q0
 obtain⟨x0,f0,e0,w0⟩:=(ct Tryz.underlying3) _ _ _ q0
 have e0:j9 w [c0] x0 f0:=e0
 obtain⟨z0,_⟩:=e0
 simp only[List.cons.injEq,and_true]at z0
 obtain⟨y1,hy1⟩: ∃y,xs[1]? =some y:=⟨_,List.getElem?_eq_getElem (by rw[hlen];decide)⟩
 have q1:DataW.trod enc Tryz.prog w 0 spare held n 3 (List.take (Tryz.prog.cellsOf 3) (List.drop 1 [c0,c1,c2,c3,c4]))=xs[1]? :=hf 1 _ rfl
 rw[hy1,show Tryz.prog.cellsOf 3=1 from by kernel_rfl]at q1
 have q1:DataW.trod enc Tryz.prog w 0 spare held n 3 [c1]=some y1:=q1
 obtain⟨x1,f1,e1,w1⟩:=(ct Tryz.underlying3) _ _ _ q1
 have e1:j9 w [c1] x1 f1:=e1
 obtain⟨z1,_⟩:=e1
 simp only[List.cons.injEq,and_true]at z1
 obtain⟨y2,Rl⟩: ∃y,xs[2]? =some y:=⟨_,List.getElem?_eq_getElem (by rw[hlen];decide)⟩
 have q2:DataW.trod enc Tryz.prog w 0 spare held n 3 (List.take (Tryz.prog.cellsOf 3) (List.drop 2 [c0,c1,c2,c3,c4]))=xs[2]? :=hf 2 _ rfl
 rw[Rl,show Tryz.prog.cellsOf 3=1 from by kernel_rfl]at q2
 have q2:DataW.trod enc Tryz.prog w 0 spare held n 3 [c2]=some y2:=q2
 obtain⟨x2,f2,e2,w2⟩:=(ct Tryz.underlying3) _ _ _ q2
 have e2:j9 w [c2] x2 f2:=e2
 obtain⟨z2,_⟩:=e2
 simp only[List.cons.injEq,and_true]at z2
 obtain⟨y3,VE⟩: ∃y,xs[3]? =some y:=⟨_,List.getElem?_eq_getElem (by rw[hlen];decide)⟩
 have q3:DataW.trod enc Tryz.prog w 0 spare held n 109 (List.take (Tryz.prog.cellsOf 109) (List.drop 3 [c0,c1,c2,c3,c4]))=xs[3]? :=hf 3 _ rfl
 rw[VE,show Tryz.prog.cellsOf 109=1 from by kernel_rfl]at q3
 have q3:DataW.trod enc Tryz.prog w 0 spare held n 109 [c3]=some y3:=q3
 obtain⟨x3,f3,e3,w3⟩:=(eS (k:=2) Tryz.underlying109 (by kernel_rfl) (by decide) Gx) _ _ _ q3
 have e3:(GH 2 pL) w [c3] x3 f3:=e3
 obtain⟨v3,z3,e3⟩:=e3
 simp only[List.cons.injEq,and_true]at z3
 obtain⟨y4,XD⟩: ∃y,xs[4]? =some y:=⟨_,List.getElem?_eq_getElem (by rw[hlen];decide)⟩
 have q4:DataW.trod enc Tryz.prog w 0 spare held n 3 (List.take (Tryz.prog.cellsOf 3) (List.drop 4 [c0,c1,c2,c3,c4]))=xs[4]? :=hf 4 _ rfl
 rw[XD,show Tryz.prog.cellsOf 3=1 from by kernel_rfl]at q4
 have q4:DataW.trod enc Tryz.prog w 0 spare held n 3 [c4]=some y4:=q4
 obtain⟨x4,f4,e4,w4⟩:=(ct Tryz.underlying3) _ _ _ q4
 have e4:j9 w [c4] x4 f4:=e4
 obtain⟨z4,_⟩:=e4
 simp only[List.cons.injEq,and_true]at z4
 subst z0
 subst z1
 subst z2
 subst z3
 subst z4
 exact⟨⟨x0,x1,x2,x3,x4⟩,_,⟨_,_,rfl,e3,rfl⟩,⟨w0,w1,w2,w3,w4⟩⟩
set_option maxRecDepth 100000 in
theorem Gy{H:Type}{enc:TypeId×Value→H}{w:World}{spare:Nat→Bool}{held:Bool}:oA enc Tryz.prog w spare held 170 pM DX:=by
 intro fuel cs y h
 obtain⟨xs,n,_,_,hl,hlen,hf⟩:=DataW.trod_struct Tryz.underlying170 h
 have iI:cs.length=2:=hl.trans (by kernel_rfl)
 obtain⟨c0,c1,rfl⟩: ∃c0 c1,cs= [c0,c1]:=by
  match cs,iI with
  | [c0,c1],_=>exact⟨_,_,rfl⟩
 obtain⟨y0,hy0⟩: ∃y,xs[0]? =some y:=⟨_,List.getElem?_eq_getElem (by rw[hlen];decide)⟩
 have q0:DataW.trod enc Tryz.prog w 0 spare held n 3 (List.take (Tryz.prog.cellsOf 3) (List.drop 0 [c0,c1]))=xs[0]? :=hf 0 _ rfl
 rw[hy0,show Tryz.prog.cellsOf 3=1 from by kernel_rfl]at q0
 have q0:DataW.trod enc Tryz.prog w 0 spare held n 3 [c0]=some y0:=q0
 obtain⟨x0,f0,e0,w0⟩:=(ct Tryz.underlying3) _ _ _ q0
 have e0:j9 w [c0] x0 f0:=e0
 obtain⟨z0,_⟩:=e0
 simp only[List.cons.injEq,and_true]at z0
 obtain⟨y1,hy1⟩: ∃y,xs[1]? =some y:=⟨_,List.getElem?_eq_getElem (by rw[hlen];decide)⟩
 have q1:DataW.trod enc Tryz.prog w 0 spare held n 168 (List.take (Tryz.prog.cellsOf 168) (List.drop 1 [c0,c1]))=xs[1]? :=hf 1 _ rfl
 rw[hy1,show Tryz.prog.cellsOf 168=1 from by kernel_rfl]at q1
 have q1:DataW.trod enc Tryz.prog w 0 spare held n 168 [c1]=some y1:=q1
 obtain⟨x1,f1,e1,w1⟩:=I3 _ _ _ q1
 have e1:Ru w [c1] x1 f1:=e1
 subst z0
 exact⟨⟨x0,x1⟩,_,⟨_,_,rfl,e1,rfl⟩,⟨w0,w1⟩⟩
set_option maxRecDepth 100000 in
theorem NH{H:Type}{enc:TypeId×Value→H}{w:World}{spare:Nat→Bool}{held:Bool}:oA enc Tryz.prog w spare held 26 Jp NY:=by
 intro fuel cs y h
 obtain⟨xs,n,_,_,hl,hlen,hf⟩:=DataW.trod_struct Tryz.underlying26 h
 have iI:cs.length=2:=hl.trans (by kernel_rfl)
 obtain⟨c0,c1,rfl⟩: ∃c0 c1,cs= [c0,c1]:=by
  match cs,iI with
  | [c0,c1],_=>exact⟨_,_,rfl⟩
 obtain⟨y0,hy0⟩: ∃y,xs[0]? =some y:=⟨_,List.getElem?_eq_getElem (by rw[hlen];decide)⟩
 have q0:DataW.trod enc Tryz.prog w 0 spare held n 3 (List.take (Tryz.prog.cellsOf 3) (List.drop 0 [c0,c1]))=xs[0]? :=hf 0 _ rfl
 rw[hy0,show Tryz.prog.cellsOf 3=1 from by kernel_rfl]at q0
 have q0:DataW.trod enc Tryz.prog w 0 spare held n 3 [c0]=some y0:=q0
 obtain⟨x0,f0,e0,w0⟩:=(ct Tryz.underlying3) _ _ _ q0
 have e0:j9 w [c0] x0 f0:=e0
 obtain⟨z0,_⟩:=e0
 simp only[List.cons.injEq,and_true]at z0
 obtain⟨y1,hy1⟩: ∃y,xs[1]? =some y:=⟨_,List.getElem?_eq_getElem (by rw[hlen];decide)⟩
 have q1:DataW.trod enc Tryz.prog w 0 spare held n 24 (List.take (Tryz.prog.cellsOf 24) (List.drop 1 [c0,c1]))=xs[1]? :=hf 1 _ rfl
 rw[hy1,show Tryz.prog.cellsOf 24=1 from by kernel_rfl]at q1
 have q1:DataW.trod enc Tryz.prog w 0 spare held n 24 [c1]=some y1:=q1
 obtain⟨x1,f1,e1,w1⟩:=(eS (k:=2) Tryz.underlying24 (by kernel_rfl) (by decide) Gy) _ _ _ q1
 have e1:(GH 2 pM) w [c1] x1 f1:=e1
 obtain⟨v1,z1,e1⟩:=e1
 simp only[List.cons.injEq,and_true]at z1
 subst z0
 subst z1
 exact⟨⟨x0,x1⟩,_,⟨_,_,rfl,e1,rfl⟩,⟨w0,w1⟩⟩
set_option maxRecDepth 100000 in
theorem E6{H:Type}{enc:TypeId×Value→H}{w:World}{spare:Nat→Bool}{held:Bool}:oA enc Tryz.prog w spare held 113 Fe Jq:=by
 intro fuel cs y h
 obtain⟨xs,n,_,_,hl,hlen,hf⟩:=DataW.trod_struct Tryz.underlying113 h
 have iI:cs.length=8:=hl.trans (by kernel_rfl)
 obtain⟨c0,c1,c2,c3,c4,c5,c6,c7,rfl⟩: ∃c0 c1 c2 c3 c4 c5 c6 c7,cs= [c0,c1,c2,c3,c4,c5,c6,c7]:=by
  match cs,iI with
  | [c0,c1,c2,c3,c4,c5,c6,c7],_=>exact⟨_,_,_,_,_,_,_,_,rfl⟩
 obtain⟨y0,hy0⟩: ∃y,xs[0]? =some y:=⟨_,List.getElem?_eq_getElem (by rw[hlen];decide)⟩
 have q0:DataW.trod enc Tryz.prog w 0 spare held n 3 (List.take (Tryz.prog.cellsOf 3) (List.drop 0 [c0,c1,c2,c3,c4,c5,c6,c7]))=xs[0]? :=hf 0 _ rfl
 rw[hy0,show Tryz.prog.cellsOf 3=1 from by kernel_rfl]at q0
 have q0:DataW.trod enc Tryz.prog w 0 spare held n 3 [c0]=some y0:=q0
 obtain⟨x0,f0,e0,w0⟩:=(ct Tryz.underlying3) _ _ _ q0
 have e0:j9 w [c0] x0 f0:=e0
 obtain⟨z0,_⟩:=e0
 simp only[List.cons.injEq,and_true]at z0
 obtain⟨y1,hy1⟩: ∃y,xs[1]? =some y:=⟨_,List.getElem?_eq_getElem (by rw[hlen];decide)⟩
 have q1:DataW.trod enc Tryz.prog w 0 spare held n 3 (List.take (Tryz.prog.cellsOf 3) (List.drop 1 [c0,c1,c2,c3,c4,c5,c6,c7]))=xs[1]? :=hf 1 _ rfl
 rw[hy1,show Tryz.prog.cellsOf 3=1 from by kernel_rfl]at q1
 have q1:DataW.trod enc Tryz.prog w 0 spare held n 3 [c1]=some y1:=q1
 obtain⟨x1,f1,e1,w1⟩:=(ct Tryz.underlying3) _ _ _ q1
 have e1:j9 w [c1] x1 f1:=e1
 obtain⟨z1,_⟩:=e1
 simp only[List.cons.injEq,and_true]at z1
 obtain⟨y2,Rl⟩: ∃y,xs[2]? =some y:=⟨_,List.getElem?_eq_getElem (by rw[hlen];decide)⟩
 have q2:DataW.trod enc Tryz.prog w 0 spare held n 3 (List.take (Tryz.prog.cellsOf 3) (List.drop 2 [c0,c1,c2,c3,c4,c5,c6,c7]))=xs[2]? :=hf 2 _ rfl
 rw[Rl,show Tryz.prog.cellsOf 3=1 from by kernel_rfl]at q2
 have q2:DataW.trod enc Tryz.prog w 0 spare held n 3 [c2]=some y2:=q2
 obtain⟨x2,f2,e2,w2⟩:=(ct Tryz.underlying3) _ _ _ q2
 have e2:j9 w [c2] x2 f2:=e2
 obtain⟨z2,_⟩:=e2
 simp only[List.cons.injEq,and_true]at z2
 obtain⟨y3,VE⟩: ∃y,xs[3]? =some y:=⟨_,List.getElem?_eq_getElem (by rw[hlen];decide)⟩
 have q3:DataW.trod enc Tryz.prog w 0 spare held n 3 (List.take (Tryz.prog.cellsOf 3) (List.drop 3 [c0,c1,c2,c3,c4,c5,c6,c7]))=xs[3]? :=hf 3 _ rfl
 rw[VE,show Tryz.prog.cellsOf 3=1 from by kernel_rfl]at q3
 have q3:DataW.trod enc Tryz.prog w 0 spare held n 3 [c3]=some y3:=q3
 obtain⟨x3,f3,e3,w3⟩:=(ct Tryz.underlying3) _ _ _ q3
 have e3:j9 w [c3] x3 f3:=e3
 obtain⟨z3,_⟩:=e3
 simp only[List.cons.injEq,and_true]at z3
 obtain⟨y4,XD⟩: ∃y,xs[4]? =some y:=⟨_,List.getElem?_eq_getElem (by rw[hlen];decide)⟩
 have q4:DataW.trod enc Tryz.prog w 0 spare held n 79 (List.take (Tryz.prog.cellsOf 79) (List.drop 4 [c0,c1,c2,c3,c4,c5,c6,c7]))=xs[4]? :=hf 4 _ rfl
 rw[XD,show Tryz.prog.cellsOf 79=1 from by kernel_rfl]at q4
 have q4:DataW.trod enc Tryz.prog w 0 spare held n 79 [c4]=some y4:=q4
 obtain⟨x4,f4,e4,w4⟩:=(eS (k:=1) Tryz.underlying79 (by kernel_rfl) (by decide) (eS (k:=1) Tryz.underlying45 (by kernel_rfl) (by decide) (wg Tryz.underlying5))) _ _ _ q4
 have e4:(GH 1 (GH 1 GL)) w [c4] x4 f4:=e4
 obtain⟨v4,z4,e4⟩:=e4
 simp only[List.cons.injEq,and_true]at z4
 obtain⟨y5,Zn⟩: ∃y,xs[5]? =some y:=⟨_,List.getElem?_eq_getElem (by rw[hlen];decide)⟩
 have q5:DataW.trod enc Tryz.prog w 0 spare held n 3 (List.take (Tryz.prog.cellsOf 3) (List.drop 5 [c0,c1,c2,c3,c4,c5,c6,c7]))=xs[5]? :=hf 5 _ rfl
 rw[Zn,show Tryz.prog.cellsOf 3=1 from by kernel_rfl]at q5
 have q5:DataW.trod enc Tryz.prog w 0 spare held n 3 [c5]=some y5:=q5
 obtain⟨x5,f5,e5,w5⟩:=(ct Tryz.underlying3) _ _ _ q5
 have e5:j9 w [c5] x5 f5:=e5
 obtain⟨z5,_⟩:=e5
 simp only[List.cons.injEq,and_true]at z5
 obtain⟨y6,Zo⟩: ∃y,xs[6]? =some y:=⟨_,List.getElem?_eq_getElem (by rw[hlen];decide)⟩
 have q6:DataW.trod enc Tryz.prog w 0 spare held n 79 (List.take (Tryz.prog.cellsOf 79) (List.drop 6 [c0,c1,c2,c3,c4,c5,c6,c7]))=xs[6]? :=hf 6 _ rfl
 rw[Zo,show Tryz.prog.cellsOf 79=1 from by kernel_rfl]at q6
 have q6:DataW.trod enc Tryz.prog w 0 spare held n 79 [c6]=some y6:=q6
 obtain⟨x6,f6,e6,w6⟩:=(eS (k:=1) Tryz.underlying79 (by kernel_rfl) (by decide) (eS (k:=1) Tryz.underlying45 (by kernel_rfl) (by decide) (wg Tryz.underlying5))) _ _ _ q6
 have e6:(GH 1 (GH 1 GL)) w [c6] x6 f6:=e6
 obtain⟨v6,z6,e6⟩:=e6
 simp only[List.cons.injEq,and_true]at z6
 obtain⟨y7,Zp⟩: ∃y,xs[7]? =some y:=⟨_,List.getElem?_eq_getElem (by rw[hlen];decide)⟩
 have q7:DataW.trod enc Tryz.prog w 0 spare held n 3 (List.take (Tryz.prog.cellsOf 3) (List.drop 7 [c0,c1,c2,c3,c4,c5,c6,c7]))=xs[7]? :=hf 7 _ rfl
 rw[Zp,show Tryz.prog.cellsOf 3=1 from by kernel_rfl]at q7
 have q7:DataW.trod enc Tryz.prog w 0 spare held n 3 [c7]=some y7:=q7
 obtain⟨x7,f7,e7,w7⟩:=(ct Tryz.underlying3) _ _ _ q7
 have e7:j9 w [c7] x7 f7:=e7
 obtain⟨z7,_⟩:=e7
 simp only[List.cons.injEq,and_true]at z7
 subst z0
 subst z1
 subst z2
 subst z3
 subst z4
 subst z5
 subst z6
 subst z7
 exact⟨⟨x0,x1,x2,x3,x4,x5,x6,x7⟩,_,⟨_,_,_,_,rfl,e4,e6,rfl⟩,⟨w0,w1,w2,w3,w4,w5,w6,w7⟩⟩
set_option maxRecDepth 100000 in
theorem NI{H:Type}{enc:TypeId×Value→H}{w:World}{spare:Nat→Bool}{held:Bool}:oA enc Tryz.prog w spare held 115 Jr NZ:=by
 intro fuel cs y h
 obtain⟨xs,n,_,_,hl,hlen,hf⟩:=DataW.trod_struct Tryz.underlying115 h
 have iI:cs.length=16:=hl.trans (by kernel_rfl)
 obtain⟨c0,c1,c2,c3,c4,c5,c6,c7,c8,c9,VF,VG,VH,VI,VJ,VK,rfl⟩: ∃c0 c1 c2 c3 c4 c5 c6 c7 c8 c9 VF VG VH VI VJ VK,cs= [c0,c1,c2,c3,c4,c5,c6,c7,c8,c9,VF,VG,VH,VI,VJ,VK]:=by
  match cs,iI with
  | [c0,c1,c2,c3,c4,c5,c6,c7,c8,c9,VF,VG,VH,VI,VJ,VK],_=>exact⟨_,_,_,_,_,_,_,_,_,_,_,_,_,_,_,_,rfl⟩
 obtain⟨y0,hy0⟩: ∃y,xs[0]? =some y:=⟨_,List.getElem?_eq_getElem (by rw[hlen];decide)⟩
 have q0:DataW.trod enc Tryz.prog w 0 spare held n 113 (List.take (Tryz.prog.cellsOf 113) (List.drop 0 [c0,c1,c2,c3,c4,c5,c6,c7,c8,c9,VF,VG,VH,VI,VJ,VK]))=xs[0]? :=hf 0 _ rfl
 rw[hy0,show Tryz.prog.cellsOf 113=8 from by kernel_rfl]at q0
 have q0:DataW.trod enc Tryz.prog w 0 spare held n 113 [c0,c1,c2,c3,c4,c5,c6,c7]=some y0:=q0
 obtain⟨x0,f0,e0,w0⟩:=E6 _ _ _ q0
 have e0:Fe w [c0,c1,c2,c3,c4,c5,c6,c7] x0 f0:=e0
 obtain⟨y1,hy1⟩: ∃y,xs[1]? =some y:=⟨_,List.getElem?_eq_getElem (by rw[hlen];decide)⟩
 have q1:DataW.trod enc Tryz.prog w 0 spare held n 113 (List.take (Tryz.prog.cellsOf 113) (List.drop 8 [c0,c1,c2,c3,c4,c5,c6,c7,c8,c9,VF,VG,VH,VI,VJ,VK]))=xs[1]? :=hf 1 _ rfl
 rw[hy1,show Tryz.prog.cellsOf 113=8 from by kernel_rfl]at q1
 have q1:DataW.trod enc Tryz.prog w 0 spare held n 113 [c8,c9,VF,VG,VH,VI,VJ,VK]=some y1:=q1
 obtain⟨x1,f1,e1,w1⟩:=E6 _ _ _ q1
 have e1:Fe w [c8,c9,VF,VG,VH,VI,VJ,VK] x1 f1:=e1
 exact⟨⟨x0,x1⟩,_,⟨_,_,_,_,rfl,e0,e1,rfl⟩,⟨w0,w1⟩⟩
set_option maxRecDepth 100000 in
theorem kU{H:Type}{enc:TypeId×Value→H}{w:World}{spare:Nat→Bool}{held:Bool}:oA enc Tryz.prog w spare held 29 pN iT:=by
 intro fuel cs y h
 obtain⟨xs,n,_,_,hl,hlen,hf⟩:=DataW.trod_struct Tryz.underlying29 h
 have iI:cs.length=10:=hl.trans (by kernel_rfl)
 obtain⟨c0,c1,c2,c3,c4,c5,c6,c7,c8,c9,rfl⟩: ∃c0 c1 c2 c3 c4 c5 c6 c7 c8 c9,cs= [c0,c1,c2,c3,c4,c5,c6,c7,c8,c9]:=by
  match cs,iI with
  | [c0,c1,c2,c3,c4,c5,c6,c7,c8,c9],_=>exact⟨_,_,_,_,_,_,_,_,_,_,rfl⟩
 obtain⟨y0,hy0⟩: ∃y,xs[0]? =some y:=⟨_,List.getElem?_eq_getElem (by rw[hlen];decide)⟩
 have q0:DataW.trod enc Tryz.prog w 0 spare held n 3 (List.take (Tryz.prog.cellsOf 3) (List.drop 0 [c0,c1,c2,c3,c4,c5,c6,c7,c8,c9]))=xs[0]? :=hf 0 _ rfl
 rw[hy0,show Tryz.prog.cellsOf 3=1 from by kernel_rfl]at q0
 have q0:DataW.trod enc Tryz.prog w 0 spare held n 3 [c0]=some y0:=q0
 obtain⟨x0,f0,e0,w0⟩:=(ct Tryz.underlying3) _ _ _ q0
 have e0:j9 w [c0] x0 f0:=e0
 obtain⟨z0,_⟩:=e0
 simp only[List.cons.injEq,and_true]at z0
 obtain⟨y1,hy1⟩: ∃y,xs[1]? =some y:=⟨_,List.getElem?_eq_getElem (by rw[hlen];decide)⟩
 have q1:DataW.trod enc Tryz.prog w 0 spare held n 22 (List.take (Tryz.prog.cellsOf 22) (List.drop 1 [c0,c1,c2,c3,c4,c5,c6,c7,c8,c9]))=xs[1]? :=hf 1 _ rfl
 rw[hy1,show Tryz.prog.cellsOf 22=1 from by kernel_rfl]at q1
 have q1:DataW.trod enc Tryz.prog w 0 spare held n 22 [c1]=some y1:=q1
 obtain⟨x1,f1,e1,w1⟩:=(eS (k:=5) Tryz.underlying22 (by kernel_rfl) (by decide) NG) _ _ _ q1
 have e1:(GH 5 Jo) w [c1] x1 f1:=e1
 obtain⟨v1,z1,e1⟩:=e1
 simp only[List.cons.injEq,and_true]at z1
 obtain⟨y2,Rl⟩: ∃y,xs[2]? =some y:=⟨_,List.getElem?_eq_getElem (by rw[hlen];decide)⟩
 have q2:DataW.trod enc Tryz.prog w 0 spare held n 23 (List.take (Tryz.prog.cellsOf 23) (List.drop 2 [c0,c1,c2,c3,c4,c5,c6,c7,c8,c9]))=xs[2]? :=hf 2 _ rfl
 rw[Rl,show Tryz.prog.cellsOf 23=1 from by kernel_rfl]at q2
 have q2:DataW.trod enc Tryz.prog w 0 spare held n 23 [c2]=some y2:=q2
 obtain⟨x2,f2,e2,w2⟩:=(eS (k:=16) Tryz.underlying23 (by kernel_rfl) (by decide) NI) _ _ _ q2
 have e2:(GH 16 Jr) w [c2] x2 f2:=e2
 obtain⟨v2,z2,e2⟩:=e2
 simp only[List.cons.injEq,and_true]at z2
 obtain⟨y3,VE⟩: ∃y,xs[3]? =some y:=⟨_,List.getElem?_eq_getElem (by rw[hlen];decide)⟩
 have q3:DataW.trod enc Tryz.prog w 0 spare held n 26 (List.take (Tryz.prog.cellsOf 26) (List.drop 3 [c0,c1,c2,c3,c4,c5,c6,c7,c8,c9]))=xs[3]? :=hf 3 _ rfl
 rw[VE,show Tryz.prog.cellsOf 26=2 from by kernel_rfl]at q3
 have q3:DataW.trod enc Tryz.prog w 0 spare held n 26 [c3,c4]=some y3:=q3
 obtain⟨x3,f3,e3,w3⟩:=NH _ _ _ q3
 have e3:Jp w [c3,c4] x3 f3:=e3
 obtain⟨y4,XD⟩: ∃y,xs[4]? =some y:=⟨_,List.getElem?_eq_getElem (by rw[hlen];decide)⟩
 have q4:DataW.trod enc Tryz.prog w 0 spare held n 3 (List.take (Tryz.prog.cellsOf 3) (List.drop 5 [c0,c1,c2,c3,c4,c5,c6,c7,c8,c9]))=xs[4]? :=hf 4 _ rfl
 rw[XD,show Tryz.prog.cellsOf 3=1 from by kernel_rfl]at q4
 have q4:DataW.trod enc Tryz.prog w 0 spare held n 3 [c5]=some y4:=q4
 obtain⟨x4,f4,e4,w4⟩:=(ct Tryz.underlying3) _ _ _ q4
 have e4:j9 w [c5] x4 f4:=e4
 obtain⟨z4,_⟩:=e4
 simp only[List.cons.injEq,and_true]at z4
 obtain⟨y5,Zn⟩: ∃y,xs[5]? =some y:=⟨_,List.getElem?_eq_getElem (by rw[hlen];decide)⟩
 have q5:DataW.trod enc Tryz.prog w 0 spare held n 3 (List.take (Tryz.prog.cellsOf 3) (List.drop 6 [c0,c1,c2,c3,c4,c5,c6,c7,c8,c9]))=xs[5]? :=hf 5 _ rfl
 rw[Zn,show Tryz.prog.cellsOf 3=1 from by kernel_rfl]at q5
 have q5:DataW.trod enc Tryz.prog w 0 spare held n 3 [c6]=some y5:=q5
 obtain⟨x5,f5,e5,w5⟩:=(ct Tryz.underlying3) _ _ _ q5
 have e5:j9 w [c6] x5 f5:=e5
 obtain⟨z5,_⟩:=e5
 simp only[List.cons.injEq,and_true]at z5
 obtain⟨y6,Zo⟩: ∃y,xs[6]? =some y:=⟨_,List.getElem?_eq_getElem (by rw[hlen];decide)⟩
 have q6:DataW.trod enc Tryz.prog w 0 spare held n 3 (List.take (Tryz.prog.cellsOf 3) (List.drop 7 [c0,c1,c2,c3,c4,c5,c6,c7,c8,c9]))=xs[6]? :=hf 6 _ rfl
 rw[Zo,show Tryz.prog.cellsOf 3=1 from by kernel_rfl]at q6
 have q6:DataW.trod enc Tryz.prog w 0 spare held n 3 [c7]=some y6:=q6
 obtain⟨x6,f6,e6,w6⟩:=(ct Tryz.underlying3) _ _ _ q6
 have e6:j9 w [c7] x6 f6:=e6
 obtain⟨z6,_⟩:=e6
 simp only[List.cons.injEq,and_true]at z6
 obtain⟨y7,Zp⟩: ∃y,xs[7]? =some y:=⟨_,List.getElem?_eq_getElem (by rw[hlen];decide)⟩
 have q7:DataW.trod enc Tryz.prog w 0 spare held n 27 (List.take (Tryz.prog.cellsOf 27) (List.drop 8 [c0,c1,c2,c3,c4,c5,c6,c7,c8,c9]))=xs[7]? :=hf 7 _ rfl
 rw[Zp,show Tryz.prog.cellsOf 27=1 from by kernel_rfl]at q7
 have q7:DataW.trod enc Tryz.prog w 0 spare held n 27 [c8]=some y7:=q7
 obtain⟨x7,f7,e7,w7⟩:=(eS (k:=1) Tryz.underlying27 (by kernel_rfl) (by decide) (ct Tryz.underlying3)) _ _ _ q7
 have e7:(GH 1 j9) w [c8] x7 f7:=e7
 obtain⟨v7,z7,e7⟩:=e7
 simp only[List.cons.injEq,and_true]at z7
 obtain⟨y8,hy8⟩: ∃y,xs[8]? =some y:=⟨_,List.getElem?_eq_getElem (by rw[hlen];decide)⟩
 have q8:DataW.trod enc Tryz.prog w 0 spare held n 3 (List.take (Tryz.prog.cellsOf 3) (List.drop 9 [c0,c1,c2,c3,c4,c5,c6,c7,c8,c9]))=xs[8]? :=hf 8 _ rfl
 rw[hy8,show Tryz.prog.cellsOf 3=1 from by kernel_rfl]at q8
 have q8:DataW.trod enc Tryz.prog w 0 spare held n 3 [c9]=some y8:=q8
 obtain⟨x8,f8,e8,w8⟩:=(ct Tryz.underlying3) _ _ _ q8
 have e8:j9 w [c9] x8 f8:=e8
 obtain⟨z8,_⟩:=e8
 simp only[List.cons.injEq,and_true]at z8
 subst z0
 subst z1
 subst z2
 subst z4
 subst z5
 subst z6
 subst z7
 subst z8
 exact⟨⟨x0,x1,x2,x3,x4,x5,x6,x7,x8⟩,_,⟨_,_,_,_,_,_,_,_,rfl,e1,e2,e3,e7,rfl⟩,⟨w0,w1,w2,w3,w4,w5,w6,w7,w8⟩⟩
end
end Go.Proofs.YtmcgjpdljafkeaaGreat.C
