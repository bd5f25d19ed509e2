/- Steps. -/
import Derived.Lib.AtoiTie
import Derived.Lib.IndexBytes
import Derived.Lib.SplitLaws
import Derived.Test.YtaalpcnbbldlaaaGreatDoorR10
open Bool renaming and_eq_true→an
open Go.Lib renaming countB_hit→Sz,decDigits→gH,decFrom→Q9,decNat→L2,digitVal→aah,indexB→Ud,indexByte→fJ,indexByte_ge→v7,itoa→bN
open List renaming all_cons→nM,length→aN,length_cons→bp,length_nil→dh,map_cons→cg,map_nil→rL,sum_cons→j9
open UInt8 renaming ofNat→cN
namespace Go.Proofs.YtaalpcnbbldlaaaGreatDoor.G
set_option linter.all false
open Go.RowKit L D
variable(c:UInt8)(s:List UInt8)
theorem l7{a:List UInt8}{b:ByteArray}(h:((bG a).toList==b.toList)=true):a=b.data.toList:=by
 have:=eq_of_beq h;rw[ByteArray.toList_eq,ByteArray.toList_eq]at this;exact this
theorem qv{a:List UInt8}{b:ByteArray}(h:((bG a).toList==b.toList)=false):a≠b.data.toList:=by
 intro e;rw[show bG a=b by rw[e];rfl,beq_self_eq_true]at h;cases h
def dA(c:UInt8):List UInt8→List (List UInt8)
 | []=> [[]]
 |b::r=>if b=c then []::dA c r else match dA c r with|w::ws=>(b::w)::ws| []=> [[b]]
theorem afZ: ∀l,dA c l≠ []
 | []=>by simp[dA]
 |b::r=>by
  unfold dA;split
  ·simp
  ·split<;>simp
theorem Aw(l:List UInt8):0<(dA c l).length:=List.length_pos_iff.2 (afZ c l)
theorem L0(c:UInt8): ∀l,fJ l c= -1→dA c l= [l]
 | [],_=>rfl
 |b::r,h=>by
  unfold fJ at h;split at h
  ·cases h
  ·rename_i hb;have hr:fJ r c= -1:=by
    split at h
    ·rename_i h2;simpa using h2
    ·have:=v7 r c;omega
   unfold dA;rw[if_neg Uz,L0 c r hr]
theorem L1(c:UInt8): ∀(l:List UInt8) (i:Nat),fJ l c=i→dA c l=l.take i::dA c (l.drop (i+1))
 | [],i,h=>by simp[fJ]at h
 |b::r,i,h=>by
  unfold fJ at h;split at h
  ·rename_i hb;have hb:b=c:=by simpa using hb
   have h0:i=0:=by omega
   subst h0
   conv=>lhs;unfold dA
   rw[if_pos hb];rfl
  ·rename_i hb;split at h
   ·omega
   ·rename_i h2;have h3:=v7 r c;have h4:fJ r c≠ -1:=by simpa using h2
    have hi: ∃j:Nat,i=j+1∧fJ r c=j:=⟨(fJ r c).toNat,aJ,aJ⟩;obtain⟨j,rfl,hj⟩:=hi;have ih:=L1 c r j hj
    conv=>lhs;unfold dA
    rw[if_neg Uz,ih];rfl
theorem aaf(c:UInt8): ∀{l:List UInt8},(dA c l).length=1→dA c l= [l]
 | [],_=>rfl
 |b::r,h=>by
  unfold dA at h ⊢;by_cases hb:b=c
  ·rw[if_pos hb]at h;have:=Aw c r;rw[bp]at h;omega
  ·rw[if_neg hb]at h ⊢;cases hw:dA c r with
   |nil=>exact absurd hw (afZ c r)
   |cons w ws=>
    rw[hw]at h;have h1:(dA c r).length=1:=by rw[hw];simpa using h
    have:=aaf c h1;rw[hw]at this;cases this;rfl
theorem tj(c:UInt8): ∀l:List UInt8,gb aN (dA c l)≤l.length+1
 | []=>Nat.le_refl 1
 |b::r=>by
  have h:=tj c r;unfold dA;split
  ·unfold gb at h ⊢;simp only[bp,cg,j9,dh]at h ⊢;omega
  ·split
   ·rename_i w ws hw;rw[hw]at h;unfold gb at h ⊢;simp only[bp,cg,j9]at h ⊢;omega
   ·unfold gb;simp only[bp,cg,j9,dh,rL,List.sum_nil];omega
theorem Ew(l:List (List UInt8)):l.length≤gb aN l:=by unfold gb;omega
theorem azt{l:List (List UInt8)}{x:List UInt8}(h:x∈l):x.length≤gb aN l:=by
 induction l with
 |nil=>cases h
 |cons y r ih=>
  unfold gb at ih ⊢;simp only[bp,cg,j9];rcases List.mem_cons.1 h with rfl|h
  ·omega
  ·have:=ih h;omega
theorem ade(sep:ByteArray)(hsep:sep.data.toList= [c]): ∀(k:Nat) (s:ByteArray),Lib.countB s sep=k→(Lib.splitB sep 0 k s).map (fun x=>x.data.toList)=dA c s.data.toList:=by
 have h1:sep.size=1:=by have:=congrArg aN hsep;simpa using this
 have hix: ∀s:ByteArray,Ud s sep=fJ s.data.toList c:=fun s=>by
  show Lib.index s.data.toList sep.data.toList=_
  rw[hsep,Lib.index_one]
 intro k;induction k with
 |zero=>
  intro s hk;rw[Lib.splitB_zero,cg,rL]
  symm
  apply L0;have:=v7 s.data.toList c;rcases Int.lt_or_le (fJ s.data.toList c) 0 with h|h
  ·omega
  ·exfalso;have:=Sz s sep (fJ s.data.toList c).toNat aJ (by rw[hix];omega);omega
 |succ k ih=>
  intro s hk;have hge:=v7 s.data.toList c;have hne:Ud s sep≠ -1:=fun h=>by
   have:=Lib.countB_miss s sep h;omega
  have hi:Ud s sep=((fJ s.data.toList c).toNat:Nat):=by rw[hix]at hne ⊢;omega
  rw[Lib.splitB_hit sep 0 k s _ hi,cg,ih _ (by have:=Sz s sep _ aJ hi;omega)];rw[L1 c s.data.toList (fJ s.data.toList c).toNat (by rw[hix]at hi;omega)];rw[Nat.add_zero,Lib.extract_from_zero,Lib.extract_to_end,h1]
def Ou(b:UInt8):Bool:=decide (48≤b.toNat)&&decide (b.toNat≤57)
def adf(n:Nat):List UInt8→Nat
 | []=>n
 |b::r=>adf (10*n+(b.toNat-48)) r
def nh:Nat:=adf 0 s
def gu:Bool:=(decide (1≤s.length)&&decide (s.length≤13))&&(s.all Ou&&(decide (nh s≤1000000000000)&&(gH (nh s)==s)))
def eP:Int:=if gu s then(nh s:Int)else 0
theorem Q8: ∀(l r:List UInt8) (n:Nat),adf n (l++r)=adf (adf n l) r
 | [],_,_=>rfl
 |b::l,r,n=>Q8 l r _
theorem af1{u:Nat}(h:u<10):Ou (cN (48+u))=true∧(cN (48+u)).toNat-48=u:=by
 have h2:(cN (48+u)).toNat=48+u:=by
  show(48+u)% 256=48+u
  omega
 unfold Ou;rw[h2];simp;omega
theorem atO: ∀u,(gH u).all Ou=true∧nh (gH u)=u∧1≤(gH u).length:=by
 intro u;induction u using Nat.strongRecOn with
 |_ u ih=>
  rw[gH];split
  ·rename_i h;obtain⟨h1,h2⟩:=af1 h;refine⟨by rw[nM,h1];rfl,?_,by simp⟩;show 10*0+((cN (48+u)).toNat-48)=u
   omega
  ·rename_i h;obtain⟨h1,h2⟩:=af1 (u:=u % 10) (Nat.mod_lt _ cO);obtain⟨k1,k2,k3⟩:=ih (u/10) aJ;refine⟨by rw[List.all_append,k1,nM,h1];rfl,?_,by simp⟩;unfold nh at k2 ⊢;rw[Q8,k2];show 10*(u/10)+((cN (48+u % 10)).toNat-48)=u
   omega
theorem M1: ∀(l:List UInt8) (n:Nat),l.all Ou=true→Q9 n l=some (adf n l)
 | [],n,_=>rfl
 |b::r,n,h=>by
  rw[nM,an]at h;have hd:=h.1;simp only[Ou,an,decide_eq_true_eq]at hd;unfold Q9;have hv:aah b=some (b.toNat-48):=by
   unfold aah;rw[if_pos (by simpa using hd)]
  rw[hv];show Q9 (n*10+(b.toNat-48)) r=some (adf (10*n+(b.toNat-48)) r)
  rw[Nat.mul_comm n 10];exact M1 r _ h.2
theorem aai{s:List UInt8}(h:gu s=true):Lib.atoiAll s= .ok (nh s:Int)∧bN (nh s:Int)=s∧nh s≤1000000000000:=by
 simp only[gu,an,decide_eq_true_eq,beq_iff_eq]at h;obtain⟨⟨h1,h2⟩,h3,h4,h5⟩:=h;refine⟨?_,?_,h4⟩
 ·rw[Lib.atoiAll_short s aJ];cases s with
  |nil=>simp at h1
  |cons b r=>
   have hb:Ou b=true:=by rw[nM,an]at h3;exact h3.1
   simp only[Ou,an,decide_eq_true_eq]at hb;have e1:(b==45)=false:=by rw[beq_eq_false_iff_ne];rintro rfl;exact absurd hb.1 cO
   have e2:(b==43)=false:=by rw[beq_eq_false_iff_ne];rintro rfl;exact absurd hb.1 cO
   show Lib.NumEnd.ofOption (if(b==45)=true then(L2 r).map (fun(m:Nat)=> -(m:Int))else if(b==43)=true then(L2 r).map (fun(m:Nat)=>(m:Int))else(L2 (b::r)).map fun(m:Nat)=>(m:Int))=_
   rw[e1,e2];unfold L2;rw[if_neg cO,if_neg cO,if_neg fI,M1 _ 0 h3];rfl
 ·unfold bN;rw[if_neg aJ,Int.toNat_natCast];exact h5
theorem atP{s:List UInt8}{v:Int}(h:gu s=false)(hl:s.length≤13)(hv:0≤v∧v≤1000000000000):bN v≠s:=by
 intro he;have h1:bN v=gH v.toNat:=by unfold bN;rw[if_neg aJ]
 rw[h1]at he;obtain⟨k1,k2,k3⟩:=atO v.toNat;rw[he]at k1 k2 k3;have:gu s=true:=by
  simp only[gu,an,decide_eq_true_eq,beq_iff_eq];exact⟨⟨k3,hl⟩,k1,aJ,by rw[k2];exact he⟩
 rw[this]at h;cases h
end Go.Proofs.YtaalpcnbbldlaaaGreatDoor.G
