/-
  Scripts: words between a byte, numerals read. No program in sight.
-/
import Derived.Lib.AtoiTie
import Derived.Lib.IndexBytes
import Derived.Lib.SplitLaws
import Derived.Test.YtaalpcnbbldlaaaGreatDoorR11
namespace Go.Proofs.YtaalpcnbbldlaaaGreatDoor.G
set_option linter.all false
open Go.RowKit L D
section
theorem fj{a:List UInt8}{b:ByteArray}(h:((aX a).toList==b.toList)=true):a=b.data.toList:=by
 have:=eq_of_beq h;rw[ByteArray.toList_eq,ByteArray.toList_eq]at this;exact this
theorem iM{a:List UInt8}{b:ByteArray}(h:((aX a).toList==b.toList)=false):a≠b.data.toList:=by
 intro e;rw[show aX a=b by rw[e];rfl,beq_self_eq_true]at h;cases h
def bR(c:UInt8):List UInt8→List (List UInt8)
 | []=> [[]]
 |b::r=>if b=c then []::bR c r else match bR c r with|w::ws=>(b::w)::ws| []=> [[b]]
theorem Pg(c:UInt8): ∀l,bR c l≠ []
 | []=>by simp[bR]
 |b::r=>by
  unfold bR;split
  ·simp
  ·split<;>simp
theorem p8(c:UInt8)(l:List UInt8):0<(bR c l).length:=List.length_pos_iff.2 (Pg c l)
theorem BK(c:UInt8): ∀l,Lib.indexByte l c= -1→bR c l= [l]
 | [],_=>rfl
 |b::r,h=>by
  unfold Lib.indexByte at h;split at h
  ·cases h
  ·rename_i hb;have hr:Lib.indexByte r c= -1:=by
    split at h
    ·rename_i h2;simpa using h2
    ·have:=Lib.indexByte_ge r c;omega
   unfold bR;rw[if_neg (by simpa using hb),BK c r hr]
theorem BL(c:UInt8): ∀(l:List UInt8) (i:Nat),Lib.indexByte l c=i→bR c l=l.take i::bR c (l.drop (i+1))
 | [],i,h=>by simp[Lib.indexByte]at h
 |b::r,i,h=>by
  unfold Lib.indexByte at h;split at h
  ·rename_i hb;have hb:b=c:=by simpa using hb
   have h0:i=0:=by omega
   subst h0
   conv=>lhs;unfold bR
   rw[if_pos hb];rfl
  ·rename_i hb;split at h
   ·omega
   ·rename_i h2;have h3:=Lib.indexByte_ge r c;have h4:Lib.indexByte r c≠ -1:=by simpa using h2
    have hi: ∃j:Nat,i=j+1∧Lib.indexByte r c=j:=⟨(Lib.indexByte r c).toNat,by omega,by omega⟩;obtain⟨j,rfl,hj⟩:=hi;have ih:=BL c r j hj
    conv=>lhs;unfold bR
    rw[if_neg (by simpa using hb),ih];rfl
theorem Lw(c:UInt8): ∀{l:List UInt8},(bR c l).length=1→bR c l= [l]
 | [],_=>rfl
 |b::r,h=>by
  unfold bR at h ⊢;by_cases hb:b=c
  ·rw[if_pos hb]at h;have:=p8 c r;rw[List.length_cons]at h;omega
  ·rw[if_neg hb]at h ⊢;cases hw:bR c r with
   |nil=>exact absurd hw (Pg c r)
   |cons w ws=>
    rw[hw]at h;have h1:(bR c r).length=1:=by rw[hw];simpa using h
    have:=Lw c h1;rw[hw]at this;cases this;rfl
theorem kr(c:UInt8): ∀l:List UInt8,cE List.length (bR c l)≤l.length+1
 | []=>Nat.le_refl 1
 |b::r=>by
  have h:=kr c r;unfold bR;split
  ·unfold cE at h ⊢;simp only[List.length_cons,List.map_cons,List.sum_cons,List.length_nil]at h ⊢;omega
  ·split
   ·rename_i w ws hw;rw[hw]at h;unfold cE at h ⊢;simp only[List.length_cons,List.map_cons,List.sum_cons]at h ⊢;omega
   ·unfold cE;simp only[List.length_cons,List.map_cons,List.sum_cons,List.length_nil,List.map_nil,List.sum_nil];omega
theorem uM(l:List (List UInt8)):l.length≤cE List.length l:=by unfold cE;omega
theorem aal{l:List (List UInt8)}{x:List UInt8}(h:x∈l):x.length≤cE List.length l:=by
 induction l with
 |nil=>cases h
 |cons y r ih=>
  unfold cE at ih ⊢;simp only[List.length_cons,List.map_cons,List.sum_cons];rcases List.mem_cons.1 h with rfl|h
  ·omega
  ·have:=ih h;omega
theorem No(c:UInt8)(sep:ByteArray)(hsep:sep.data.toList= [c]): ∀(k:Nat) (s:ByteArray),Lib.countB s sep=k→(Lib.splitB sep 0 k s).map (fun x=>x.data.toList)=bR c s.data.toList:=by
 have h1:sep.size=1:=by have:=congrArg List.length hsep;simpa using this
 have hix: ∀s:ByteArray,Lib.indexB s sep=Lib.indexByte s.data.toList c:=fun s=>by
  show Lib.index s.data.toList sep.data.toList=_
  rw[hsep,Lib.index_one]
 intro k;induction k with
 |zero=>
  intro s hk;rw[Lib.splitB_zero,List.map_cons,List.map_nil]
  symm
  apply BK;have:=Lib.indexByte_ge s.data.toList c;rcases Int.lt_or_le (Lib.indexByte s.data.toList c) 0 with h|h
  ·omega
  ·exfalso;have:=Lib.countB_hit s sep (Lib.indexByte s.data.toList c).toNat (by omega) (by rw[hix];omega);omega
 |succ k ih=>
  intro s hk;have hge:=Lib.indexByte_ge s.data.toList c;have hne:Lib.indexB s sep≠ -1:=fun h=>by
   have:=Lib.countB_miss s sep h;omega
  have hi:Lib.indexB s sep=((Lib.indexByte s.data.toList c).toNat:Nat):=by rw[hix]at hne ⊢;omega
  rw[Lib.splitB_hit sep 0 k s _ hi,List.map_cons,ih _ (by have:=Lib.countB_hit s sep _ (by omega) hi;omega)];rw[BL c s.data.toList (Lib.indexByte s.data.toList c).toNat (by rw[hix]at hi;omega)];rw[Nat.add_zero,Lib.extract_from_zero,Lib.extract_to_end,h1]
def G6(b:UInt8):Bool:=decide (48≤b.toNat)&&decide (b.toNat≤57)
def Np(n:Nat):List UInt8→Nat
 | []=>n
 |b::r=>Np (10*n+(b.toNat-48)) r
def iN(s:List UInt8):Nat:=Np 0 s
def cS(s:List UInt8):Bool:=(decide (1≤s.length)&&decide (s.length≤13))&&(s.all G6&&(decide (iN s≤1000000000000)&&(Lib.decDigits (iN s)==s)))
def cu(s:List UInt8):Int:=if cS s then(iN s:Int)else 0
theorem Fq: ∀(l r:List UInt8) (n:Nat),Np n (l++r)=Np (Np n l) r
 | [],_,_=>rfl
 |b::l,r,n=>Fq l r _
theorem Ph{u:Nat}(h:u<10):G6 (UInt8.ofNat (48+u))=true∧(UInt8.ofNat (48+u)).toNat-48=u:=by
 have h2:(UInt8.ofNat (48+u)).toNat=48+u:=by
  show(48+u)% 256=48+u
  omega
 unfold G6;rw[h2];simp;omega
theorem Xs: ∀u,(Lib.decDigits u).all G6=true∧iN (Lib.decDigits u)=u∧1≤(Lib.decDigits u).length:=by
 intro u;induction u using Nat.strongRecOn with
 |_ u ih=>
  rw[Lib.decDigits];split
  ·rename_i h;obtain⟨h1,h2⟩:=Ph h;refine⟨by rw[List.all_cons,h1];rfl,?_,by simp⟩;show 10*0+((UInt8.ofNat (48+u)).toNat-48)=u
   omega
  ·rename_i h;obtain⟨h1,h2⟩:=Ph (u:=u % 10) (Nat.mod_lt _ (by decide));obtain⟨k1,k2,k3⟩:=ih (u/10) (by omega);refine⟨by rw[List.all_append,k1,List.all_cons,h1];rfl,?_,by simp⟩;unfold iN at k2 ⊢;rw[Fq,k2];show 10*(u/10)+((UInt8.ofNat (48+u % 10)).toNat-48)=u
   omega
theorem Cm: ∀(l:List UInt8) (n:Nat),l.all G6=true→Lib.decFrom n l=some (Np n l)
 | [],n,_=>rfl
 |b::r,n,h=>by
  rw[List.all_cons,Bool.and_eq_true]at h;have hd:=h.1;simp only[G6,Bool.and_eq_true,decide_eq_true_eq]at hd;unfold Lib.decFrom;have hv:Lib.digitVal b=some (b.toNat-48):=by
   unfold Lib.digitVal;rw[if_pos (by simpa using hd)]
  rw[hv];show Lib.decFrom (n*10+(b.toNat-48)) r=some (Np (10*n+(b.toNat-48)) r)
  rw[Nat.mul_comm n 10];exact Cm r _ h.2
theorem Lx{s:List UInt8}(h:cS s=true):Lib.atoiAll s= .ok (iN s:Int)∧Lib.itoa (iN s:Int)=s∧iN s≤1000000000000:=by
 simp only[cS,Bool.and_eq_true,decide_eq_true_eq,beq_iff_eq]at h;obtain⟨⟨h1,h2⟩,h3,h4,h5⟩:=h;refine⟨?_,?_,h4⟩
 ·rw[Lib.atoiAll_short s (by omega)];cases s with
  |nil=>simp at h1
  |cons b r=>
   have hb:G6 b=true:=by rw[List.all_cons,Bool.and_eq_true]at h3;exact h3.1
   simp only[G6,Bool.and_eq_true,decide_eq_true_eq]at hb;have e1:(b==45)=false:=by rw[beq_eq_false_iff_ne];rintro rfl;exact absurd hb.1 (by decide)
   have e2:(b==43)=false:=by rw[beq_eq_false_iff_ne];rintro rfl;exact absurd hb.1 (by decide)
   show Lib.NumEnd.ofOption (if(b==45)=true then(Lib.decNat r).map (fun(m:Nat)=> -(m:Int))else if(b==43)=true then(Lib.decNat r).map (fun(m:Nat)=>(m:Int))else(Lib.decNat (b::r)).map fun(m:Nat)=>(m:Int))=_
   rw[e1,e2];unfold Lib.decNat;rw[if_neg (by decide),if_neg (by decide),if_neg (by simp),Cm _ 0 h3];rfl
 ·unfold Lib.itoa;rw[if_neg (by omega),Int.toNat_natCast];exact h5
theorem Xt{s:List UInt8}{v:Int}(h:cS s=false)(hl:s.length≤13)(hv:0≤v∧v≤1000000000000):Lib.itoa v≠s:=by
 intro he;have h1:Lib.itoa v=Lib.decDigits v.toNat:=by unfold Lib.itoa;rw[if_neg (by omega)]
 rw[h1]at he;obtain⟨k1,k2,k3⟩:=Xs v.toNat;rw[he]at k1 k2 k3;have:cS s=true:=by
  simp only[cS,Bool.and_eq_true,decide_eq_true_eq,beq_iff_eq];exact⟨⟨k3,hl⟩,k1,by omega,by rw[k2];exact he⟩
 rw[this]at h;cases h
end
end Go.Proofs.YtaalpcnbbldlaaaGreatDoor.G
