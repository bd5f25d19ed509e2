/-
  The arguments of the laws, opened.
-/
import Derived.Test.YtmcgjpdljafkeaaGreatM28
import Derived.Test.YtmcgjpdljafkeaaGreatM29
namespace Go.Proofs.YtmcgjpdljafkeaaGreat.C
set_option linter.all false
open Go.RowKit L D
section
set_option maxRecDepth 100000 in
theorem Dn{H:Type}{enc:TypeId×Value→H}{w:World}{spare:Nat→Bool}{held:Bool}:oA enc Tryz.prog w spare held 47 Rv BG:=by
 intro fuel cs y h
 obtain⟨xs,n,_,_,hl,hlen,hf⟩:=DataW.trod_struct Tryz.underlying47 h
 have iI:cs.length=4:=hl.trans (by kernel_rfl)
 obtain⟨c0,c1,c2,c3,rfl⟩: ∃c0 c1 c2 c3,cs= [c0,c1,c2,c3]:=by
  match cs,iI with
  | [c0,c1,c2,c3],_=>exact⟨_,_,_,_,rfl⟩
 obtain⟨y0,hy0⟩: ∃y,xs[0]? =some y:=⟨_,List.getElem?_eq_getElem (by rw[hlen];decide)⟩
 have q0:DataW.trod enc Tryz.prog w 0 spare held n 3 (List.take (Tryz.prog.cellsOf 3) (List.drop 0 [c0,c1,c2,c3]))=xs[0]? :=hf 0 _ rfl
 rw[hy0,show Tryz.prog.cellsOf 3=1 from by kernel_rfl]at q0
 have q0:DataW.trod enc Tryz.prog w 0 spare held n 3 [c0]=some y0:=q0
 obtain⟨x0,f0,e0,w0⟩:=(ct Tryz.underlying3) _ _ _ q0
 have e0:j9 w [c0] x0 f0:=e0
 obtain⟨z0,_⟩:=e0
 simp only[List.cons.injEq,and_true]at z0
 obtain⟨y1,hy1⟩: ∃y,xs[1]? =some y:=⟨_,List.getElem?_eq_getElem (by rw[hlen];decide)⟩
 have q1:DataW.trod enc Tryz.prog w 0 spare held n 3 (List.take (Tryz.prog.cellsOf 3) (List.drop 1 [c0,c1,c2,c3]))=xs[1]? :=hf 1 _ rfl
 rw[hy1,show Tryz.prog.cellsOf 3=1 from by kernel_rfl]at q1
 have q1:DataW.trod enc Tryz.prog w 0 spare held n 3 [c1]=some y1:=q1
 obtain⟨x1,f1,e1,w1⟩:=(ct Tryz.underlying3) _ _ _ q1
 have e1:j9 w [c1] x1 f1:=e1
 obtain⟨z1,_⟩:=e1
 simp only[List.cons.injEq,and_true]at z1
 obtain⟨y2,Rl⟩: ∃y,xs[2]? =some y:=⟨_,List.getElem?_eq_getElem (by rw[hlen];decide)⟩
 have q2:DataW.trod enc Tryz.prog w 0 spare held n 3 (List.take (Tryz.prog.cellsOf 3) (List.drop 2 [c0,c1,c2,c3]))=xs[2]? :=hf 2 _ rfl
 rw[Rl,show Tryz.prog.cellsOf 3=1 from by kernel_rfl]at q2
 have q2:DataW.trod enc Tryz.prog w 0 spare held n 3 [c2]=some y2:=q2
 obtain⟨x2,f2,e2,w2⟩:=(ct Tryz.underlying3) _ _ _ q2
 have e2:j9 w [c2] x2 f2:=e2
 obtain⟨z2,_⟩:=e2
 simp only[List.cons.injEq,and_true]at z2
 obtain⟨y3,VE⟩: ∃y,xs[3]? =some y:=⟨_,List.getElem?_eq_getElem (by rw[hlen];decide)⟩
 have q3:DataW.trod enc Tryz.prog w 0 spare held n 45 (List.take (Tryz.prog.cellsOf 45) (List.drop 3 [c0,c1,c2,c3]))=xs[3]? :=hf 3 _ rfl
 rw[VE,show Tryz.prog.cellsOf 45=1 from by kernel_rfl]at q3
 have q3:DataW.trod enc Tryz.prog w 0 spare held n 45 [c3]=some y3:=q3
 obtain⟨x3,f3,e3,w3⟩:=(eS (k:=1) Tryz.underlying45 (by kernel_rfl) (by decide) (wg Tryz.underlying5)) _ _ _ q3
 have e3:(GH 1 GL) w [c3] x3 f3:=e3
 obtain⟨v3,z3,e3⟩:=e3
 simp only[List.cons.injEq,and_true]at z3
 subst z0
 subst z1
 subst z2
 subst z3
 exact⟨⟨x0,x1,x2,x3⟩,_,⟨_,_,rfl,e3,rfl⟩,⟨w0,w1,w2,w3⟩⟩
end
end Go.Proofs.YtmcgjpdljafkeaaGreat.C
