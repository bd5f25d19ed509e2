/-
  Plain laws: ciphers, cells, rows of mailboxes, selections. No program in sight.
-/
import Derived.Test.YteodajeiagmekaaGreatM13
namespace Go.Proofs.YteodajeiagmekaaGreat.G
set_option linter.all false
open Go.RowKit L D
section
theorem AG: ∀a b:List UInt8,cJ a b=cJ b a
 | [],b=>by rw[eU,ey]
 |x::a,[]=>by rw[eU,ey]
 |x::a,y::b=>by rw[cJ,cJ,AG a b,UInt8.xor_comm]
end
section
theorem rX{α:Type}(f l:List α)(k:Nat)(d y:α)(h:k<l.length)(hf:f.length=l.length)(hy:f.getD k d=y):f.take (k+1)++l.drop (k+1)=(f.take k++l.drop k).set k y:=(ud f l k d y h (by omega) hy).symm
theorem PO(s:Int)(l:List UInt8)(k:Nat)(h:k<l.length):(lz s l).take (k+1)++l.drop (k+1)=((lz s l).take k++l.drop k).set k (UInt8.ofNat (IntKind.u8.wrap ((((lz s l).take k++l.drop k).getD k (au .u8)).toNat+IntKind.u8.wrap ((kh s [(k:Int)]).tmod 256))).toNat):=by
 refine rX _ _ k (au .u8) _ h (jq s l) ?_
 rw[JI s l k h,kq _ _ _ _ (by rw[jq];omega)]
 refine yU ?_
 have:=dy s [(k:Int)]
 rw[HL ((kh s [(k:Int)]).tmod 256),dj this.1]
 omega
theorem SO(a b:List UInt8)(k:Nat)(h:k<max a.length b.length):(cJ a b).getD k (au .u8)=a.getD k 0^^^b.getD k 0:=by
 have h1:=ql a b k h
 have h2:=aV (cJ a b) k (au .u8) (by rw[cP];exact h)
 rw[h1]at h2
 have:=List.append_inj_right h2 rfl
 simp only[List.cons.injEq,and_true]at this
 rw[←this];rfl
theorem JK(p q:List UInt8)(k:Nat)(h:k<q.length)(hl:q.length≤p.length):(cJ p q).take (k+1)++p.drop (k+1)=((cJ p q).take k++p.drop k).set k (UInt8.ofNat (IntKind.u8.wrap ((BitVec.ofInt IntKind.u8.bits ((((cJ p q).take k++p.drop k).getD k (au .u8)).toNat:Int)^^^BitVec.ofInt IntKind.u8.bits ((q.getD k (au .u8)).toNat:Int)).toNat:Int)).toNat):=by
 refine rX _ _ k (au .u8) _ (by omega) (by rw[cP];omega) ?_
 rw[SO p q k (by omega),kq _ _ _ _ (by rw[cP];omega),SJ]
 rfl
theorem JL(p q:List UInt8)(k:Nat)(h:q.length≤k)(hl:q.length≤p.length)(hk:k≤q.length):(cJ p q).take k++p.drop k=cJ p q:=by
 have hk:k=q.length:=by omega
 subst hk
 have key: ∀p q:List UInt8,q.length≤p.length→(cJ p q).take q.length++p.drop q.length=cJ p q:=by
  intro p
  induction p with
  |nil=>intro q h;cases q with|nil=>rfl|cons _ _=>simp at h
  |cons x p ih=>intro q h;cases q with
   |nil=>rw[ey];rfl
   |cons y q=>simp only[cJ,List.length_cons,List.take_succ_cons,List.drop_succ_cons,List.cons_append];rw[ih q (by simpa using h)]
 exact key p q hl
end
end Go.Proofs.YteodajeiagmekaaGreat.G
