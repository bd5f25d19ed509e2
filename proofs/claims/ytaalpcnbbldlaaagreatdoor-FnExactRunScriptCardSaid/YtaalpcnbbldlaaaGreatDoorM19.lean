/-
  Scripts: words between a byte, numerals read. No program in sight.
-/
import Derived.Lib.AtoiTie
import Derived.Lib.IndexBytes
import Derived.Lib.SplitLaws
import Derived.Test.YtaalpcnbbldlaaaGreatDoorM11
open Bool renaming and_eq_true→az
open Go.Lib renaming countB_hit→MS,decDigits→gm,decFrom→L8,decNat→HN,digitVal→TQ,indexB→Oe,indexByte→ew,indexByte_ge→sD,itoa→cg
open List renaming all_cons→kX,length→aL,length_cons→bF,length_nil→c8,map_cons→dh,map_nil→uH,sum_cons→iI
open UInt8 renaming ofNat→cT
namespace Go.Proofs.YtaalpcnbbldlaaaGreatDoor.G
set_option linter.all false
open Go.RowKit L D
section
theorem jI{a:List UInt8}{b:ByteArray}(h:((bP a).toList==b.toList)=true):a=b.data.toList:=by
 have:=eq_of_beq h
 rw[ByteArray.toList_eq,ByteArray.toList_eq]at this
 exact this
theorem nq{a:List UInt8}{b:ByteArray}(h:((bP a).toList==b.toList)=false):a≠b.data.toList:=by
 intro e
 rw[show bP a=b by rw[e];rfl,beq_self_eq_true]at h
 cases h
def dD(c:UInt8):List UInt8→List (List UInt8)
 | []=> [[]]
 |b::r=>if b=c then []::dD c r else match dD c r with|w::ws=>(b::w)::ws| []=> [[b]]
theorem YE(c:UInt8): ∀l,dD c l≠ []
 | []=>by simp[dD]
 |b::r=>by
  unfold dD
  split
  ·simp
  ·split<;>simp
theorem w5(c:UInt8)(l:List UInt8):0<(dD c l).length:=List.length_pos_iff.2 (YE c l)
theorem HL(c:UInt8): ∀l,ew l c= -1→dD c l= [l]
 | [],_=>rfl
 |b::r,h=>by
  unfold ew at h
  split at h
  ·cases h
  ·rename_i hb
   have hr:ew r c= -1:=by
    split at h
    ·rename_i h2;simpa using h2
    ·have:=sD r c;omega
   unfold dD
   rw[if_neg (by simpa using hb),HL c r hr]
theorem HM(c:UInt8): ∀(l:List UInt8) (i:Nat),ew l c=i→dD c l=l.take i::dD c (l.drop (i+1))
 | [],i,h=>by simp[ew]at h
 |b::r,i,h=>by
  unfold ew at h
  split at h
  ·rename_i hb
   have hb:b=c:=by simpa using hb
   have h0:i=0:=by omega
   subst h0
   conv=>lhs;unfold dD
   rw[if_pos hb];rfl
  ·rename_i hb
   split at h
   ·omega
   ·rename_i h2
    have h3:=sD r c
    have h4:ew r c≠ -1:=by simpa using h2
    have hi: ∃j:Nat,i=j+1∧ew r c=j:=⟨(ew r c).toNat,by omega,by omega⟩
    obtain⟨j,rfl,hj⟩:=hi
    have ih:=HM c r j hj
    conv=>lhs;unfold dD
    rw[if_neg (by simpa using hb),ih]
    rfl
theorem TO(c:UInt8): ∀{l:List UInt8},(dD c l).length=1→dD c l= [l]
 | [],_=>rfl
 |b::r,h=>by
  unfold dD at h ⊢
  by_cases hb:b=c
  ·rw[if_pos hb]at h
   have:=w5 c r
   rw[bF]at h;omega
  ·rw[if_neg hb]at h ⊢
   cases hw:dD c r with
   |nil=>exact absurd hw (YE c r)
   |cons w ws=>
    rw[hw]at h
    have h1:(dD c r).length=1:=by rw[hw];simpa using h
    have:=TO c h1
    rw[hw]at this
    cases this;rfl
theorem pY(c:UInt8): ∀l:List UInt8,eN aL (dD c l)≤l.length+1
 | []=>Nat.le_refl 1
 |b::r=>by
  have h:=pY c r
  unfold dD
  split
  ·unfold eN at h ⊢;simp only[bF,dh,iI,c8]at h ⊢;omega
  ·split
   ·rename_i w ws hw
    rw[hw]at h
    unfold eN at h ⊢;simp only[bF,dh,iI]at h ⊢;omega
   ·unfold eN;simp only[bF,dh,iI,c8,uH,List.sum_nil];omega
theorem Bm(l:List (List UInt8)):l.length≤eN aL l:=by unfold eN;omega
theorem amO{l:List (List UInt8)}{x:List UInt8}(h:x∈l):x.length≤eN aL l:=by
 induction l with
 |nil=>cases h
 |cons y r ih=>
  unfold eN at ih ⊢
  simp only[bF,dh,iI]
  rcases List.mem_cons.1 h with rfl|h
  ·omega
  ·have:=ih h;omega
theorem Wa(c:UInt8)(sep:ByteArray)(hsep:sep.data.toList= [c]): ∀(k:Nat) (s:ByteArray),Lib.countB s sep=k→(Lib.splitB sep 0 k s).map (fun x=>x.data.toList)=dD c s.data.toList:=by
 have h1:sep.size=1:=by have:=congrArg aL hsep;simpa using this
 have hix: ∀s:ByteArray,Oe s sep=ew s.data.toList c:=fun s=>by
  show Lib.index s.data.toList sep.data.toList=_
  rw[hsep,Lib.index_one]
 intro k
 induction k with
 |zero=>
  intro s hk
  rw[Lib.splitB_zero,dh,uH]
  symm
  apply HL
  have:=sD s.data.toList c
  rcases Int.lt_or_le (ew s.data.toList c) 0 with h|h
  ·omega
  ·exfalso
   have:=MS s sep (ew s.data.toList c).toNat (by omega) (by rw[hix];omega)
   omega
 |succ k ih=>
  intro s hk
  have hge:=sD s.data.toList c
  have hne:Oe s sep≠ -1:=fun h=>by
   have:=Lib.countB_miss s sep h
   omega
  have hi:Oe s sep=((ew s.data.toList c).toNat:Nat):=by rw[hix]at hne ⊢;omega
  rw[Lib.splitB_hit sep 0 k s _ hi,dh,ih _ (by have:=MS s sep _ (by omega) hi;omega)]
  rw[HM c s.data.toList (ew s.data.toList c).toNat (by rw[hix]at hi;omega)]
  rw[Nat.add_zero,Lib.extract_from_zero,Lib.extract_to_end,h1]
def Of(b:UInt8):Bool:=decide (48≤b.toNat)&&decide (b.toNat≤57)
def Wb(n:Nat):List UInt8→Nat
 | []=>n
 |b::r=>Wb (10*n+(b.toNat-48)) r
def nr(s:List UInt8):Nat:=Wb 0 s
def fD(s:List UInt8):Bool:=(decide (1≤s.length)&&decide (s.length≤13))&&(s.all Of&&(decide (nr s≤1000000000000)&&(gm (nr s)==s)))
def ez(s:List UInt8):Int:=if fD s then(nr s:Int)else 0
theorem L7: ∀(l r:List UInt8) (n:Nat),Wb n (l++r)=Wb (Wb n l) r
 | [],_,_=>rfl
 |b::l,r,n=>L7 l r _
theorem YG{u:Nat}(h:u<10):Of (cT (48+u))=true∧(cT (48+u)).toNat-48=u:=by
 have h2:(cT (48+u)).toNat=48+u:=by
  show(48+u)% 256=48+u
  omega
 unfold Of
 rw[h2]
 simp;omega
theorem aiE: ∀u,(gm u).all Of=true∧nr (gm u)=u∧1≤(gm u).length:=by
 intro u
 induction u using Nat.strongRecOn with
 |_ u ih=>
  rw[gm]
  split
  ·rename_i h
   obtain⟨h1,h2⟩:=YG h
   refine⟨by rw[kX,h1];rfl,?_,by simp⟩
   show 10*0+((cT (48+u)).toNat-48)=u
   omega
  ·rename_i h
   obtain⟨h1,h2⟩:=YG (u:=u % 10) (Nat.mod_lt _ (by decide))
   obtain⟨k1,k2,k3⟩:=ih (u/10) (by omega)
   refine⟨by rw[List.all_append,k1,kX,h1];rfl,?_,by simp⟩
   unfold nr at k2 ⊢
   rw[L7,k2]
   show 10*(u/10)+((cT (48+u % 10)).toNat-48)=u
   omega
theorem IE: ∀(l:List UInt8) (n:Nat),l.all Of=true→L8 n l=some (Wb n l)
 | [],n,_=>rfl
 |b::r,n,h=>by
  rw[kX,az]at h
  have hd:=h.1
  simp only[Of,az,decide_eq_true_eq]at hd
  unfold L8
  have hv:TQ b=some (b.toNat-48):=by
   unfold TQ
   rw[if_pos (by simpa using hd)]
  rw[hv]
  show L8 (n*10+(b.toNat-48)) r=some (Wb (10*n+(b.toNat-48)) r)
  rw[Nat.mul_comm n 10]
  exact IE r _ h.2
theorem TR{s:List UInt8}(h:fD s=true):Lib.atoiAll s= .ok (nr s:Int)∧cg (nr s:Int)=s∧nr s≤1000000000000:=by
 simp only[fD,az,decide_eq_true_eq,beq_iff_eq]at h
 obtain⟨⟨h1,h2⟩,h3,h4,h5⟩:=h
 refine⟨?_,?_,h4⟩
 ·rw[Lib.atoiAll_short s (by omega)]
  cases s with
  |nil=>simp at h1
  |cons b r=>
   have hb:Of b=true:=by rw[kX,az]at h3;exact h3.1
   simp only[Of,az,decide_eq_true_eq]at hb
   have e1:(b==45)=false:=by rw[beq_eq_false_iff_ne];rintro rfl;exact absurd hb.1 (by decide)
   have e2:(b==43)=false:=by rw[beq_eq_false_iff_ne];rintro rfl;exact absurd hb.1 (by decide)
   show Lib.NumEnd.ofOption (if(b==45)=true then(HN r).map (fun(m:Nat)=> -(m:Int))else if(b==43)=true then(HN r).map (fun(m:Nat)=>(m:Int))else(HN (b::r)).map fun(m:Nat)=>(m:Int))=_
   rw[e1,e2]
   unfold HN
   rw[if_neg (by decide),if_neg (by decide),if_neg (by simp),IE _ 0 h3]
   rfl
 ·unfold cg
  rw[if_neg (by omega),Int.toNat_natCast];exact h5
theorem aiF{s:List UInt8}{v:Int}(h:fD s=false)(hl:s.length≤13)(hv:0≤v∧v≤1000000000000):cg v≠s:=by
 intro he
 have h1:cg v=gm v.toNat:=by unfold cg;rw[if_neg (by omega)]
 rw[h1]at he
 obtain⟨k1,k2,k3⟩:=aiE v.toNat
 rw[he]at k1 k2 k3
 have:fD s=true:=by
  simp only[fD,az,decide_eq_true_eq,beq_iff_eq]
  exact⟨⟨k3,hl⟩,k1,by omega,by rw[k2];exact he⟩
 rw[this]at h;cases h
end
end Go.Proofs.YtaalpcnbbldlaaaGreatDoor.G
