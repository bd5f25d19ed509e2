/-
  What the audit's law asks, beside the audits: rows for clients, received text, a message that nobody submitted. No program in sight.
-/
import Derived.Test.YtcnomgcfijjkmaaGreatR10
import Derived.Test.YtcnomgcfijjkmaaGreatR12
namespace Go.Proofs.YtcnomgcfijjkmaaGreat.G
set_option linter.all false
open Go.RowKit L D Tryz
section
theorem JY(l:List (List UInt8))(sep y:List UInt8)(h:l≠ []):Lib.join (l++ [y]) sep=Lib.join l sep++sep++y:=by
 cases l with
 |nil=>exact absurd rfl h
 |cons x r=>
  rw[List.cons_append,Lib.join_cons,Lib.join_cons]
  simp[Lib.joinTail,List.append_assoc]
theorem join_le(l:List (List UInt8))(c:UInt8):(Lib.join l [c]).length≤dc List.length l:=by
 cases l with
 |nil=>simp[Lib.join_nil]
 |cons x r=>
  rw[Lib.join_cons,List.length_append,Lib.joinTail_length]
  simp only[dc,List.length_cons,List.map_cons,List.sum_cons,Lib.lens,List.length_nil]
  have:(List.map (fun x=>List.length x) r).sum=(List.map List.length r).sum:=rfl
  omega
theorem kH(l:List (List UInt8))(c:UInt8)(h:dc List.length l≤1048576):So 104 [.a (.sl .str l), .a (.lit (.string (lE [c])))] [.a (.lit (.string (lE (Lib.join l [c]))))]:=by
 refine⟨call104,?_⟩
 rintro w us _ ha
 match us,ha with
 | [u,v],⟨h1,h2,_⟩=>
   obtain⟨fp,h1⟩:=h1
   obtain⟨_,rfl,_,_⟩:=h2
   obtain⟨oa,cap,rfl,hc,hm,h3⟩:=(show Sl 1 Oz w u l fp from h1)
   have hlen:=cN h
   rcases h3 with⟨rfl,_⟩| ⟨b,off,aO,rfl,hb,rfl,hE⟩
   ·refine(Tryz.strings_Join_none oa cap (lE [c]) w).mono ?_
    rintro e w' ⟨rfl,rfl⟩
    exact⟨_,[],rfl,Below.refl _ _,Own.nil _ _,⟨[],[],⟨rfl,rfl,rfl⟩,rfl,rfl⟩⟩
   ·have:=Tryz.strings_Join b off cap (l.map lE) (lE [c]) w (fun j x hx=>by
      rw[List.getElem?_map]at hx
      cases hy:l[j]? with
      |none=>rw[hy]at hx;cases hx
      |some y=>
       rw[hy]at hx
       simp only[Option.map_some,oI]at hx
       subst hx
       obtain⟨f,hf⟩:=eU hE.1 hy
       obtain⟨cs,q1,rfl,_⟩:=hE.2 j y f hy hf
       have:=q1 0 _ rfl
       rw[Nat.add_zero,Nat.mul_one]at this
       exact this) hb.lt (by rw[List.length_map];omega) (by rw[List.length_map];exact hc) (by
      rw[List.map_map]
      rw[Ef]
      have:=join_le l c
      rw[Jb]
      omega)
    rw[List.length_map,List.map_map]at this
    rw[Ef]at this
    refine this.mono ?_
    rintro e w' ⟨rfl,hb'⟩
    exact⟨_,[],rfl,hb',Own.nil _ _,⟨[],[],⟨rfl,rfl,rfl⟩,rfl,rfl⟩⟩
end
end Go.Proofs.YtcnomgcfijjkmaaGreat.G
namespace Go.Proofs.YtcnomgcfijjkmaaGreat.G
set_option linter.all false
open Go.RowKit L D
section
def Wy(c:Int):Int:=if inr c 1 8=true then Sh 64 (IntKind.i64.wrap (6*c))else 0
def vP(x:aR)(c:Int):List (List UInt8):=(x.aa.getD c.toNat (aA .aS)).live.inbox
def Dp(x:aR)(c:Int):Bool:=jC x c&& !(((vP x c).length:Int)==0)
def uk(x:aR)(c:Int):ByteArray:=if Dp x c=true then lE (Lib.join (vP x c) [124])else⟨#[45]⟩
theorem xJ{x:aR}{c:Int}(hd:x.aa.length≤1048576):jC x c=true↔0≤c∧c<x.aa.length:=by
 unfold jC
 rw[bT];omega
theorem GU{x:aR}{c:Int}(hd:x.aa.length≤1048576)(h:(!jC x c)=false):0≤c∧c<x.aa.length:=(xJ hd).1 (by simpa using h)
theorem N1{x:aR}{c:Int}(hd:x.aa.length≤1048576)(h:Dp x c=true):0≤c∧c<x.aa.length:=by
 simp only[Dp,Bool.and_eq_true]at h
 exact(xJ hd).1 h.1
theorem Rd{x:aR}{c:Int}(hd:x.aa.length≤1048576)(h:(x.aa.length:Int)≤c):uk x c=⟨#[45]⟩:=by
 unfold uk
 rw[if_neg]
 intro h2
 have:=N1 hd h2
 omega
def ZB(c:cX):cX:=⟨c.id,c.dF,c.key,c.seed,c.aE,c.sent,c.inbox++ [[250,251,252]],c.next⟩
def Xh(d:aS):aS:=⟨ZB d.live,d.saved⟩
def jI(x:aR):aR:=⟨x.rows,x.aj,x.aa.set 0 (Xh (x.aa.getD 0 (aA .aS))),x.az,x.bh,x.seed,x.round,x.replaced,x.cancelled⟩
def YI(d:aS):aS:=⟨⟨d.live.id,d.live.dF,d.live.key,d.live.seed,d.live.aE,(d.live.aE.length:Int),d.live.inbox,d.live.next⟩,d.saved⟩
def Dr(x:aR):aR:=⟨x.rows,x.aj,x.aa.set 1 (YI (x.aa.getD 1 (aA .aS))),x.az,x.bh,x.seed,x.round,x.replaced,x.cancelled⟩
theorem N2{α:Type}{f:α→Nat}{C n i:Nat}{l:List α}{y:α}(h: ∀d,d∈l→f d≤C)(hy:f y≤C)(hl:l.length≤n):dc f (l.set i y)≤(C+1)*n:=by
 refine wZ f C n _ (fun d hd=> ?_) (by rw[List.length_set];exact hl)
 rcases List.mem_or_eq_of_mem_set hd with h2|rfl
 ·exact h d h2
 ·exact hy
theorem N3(d:aS):bq (Xh d)=bq d+4:=by
 unfold bq Xh ZB cu dc
 simp
 omega
theorem N4(d:aS):bq (YI d)=bq d:=rfl
theorem Re{l:List (List UInt8)}(h:dc List.length l≤1048576){k:Nat}(hk:k<l.length):(l.getD k (aA (.sl .u8))).length≤1048576:=
 iM (f:=List.length) h (i:=k) (by rw[List.getD_eq_getElem?_getD,List.getElem?_eq_getElem hk];rfl)
structure Rf(x:aR):Prop where
 inb:(x.aa.getD 0 (aA .aS)).live.inbox.length≤1000
 nd:2≤x.aa.length∧x.aa.length≤8
 ad:dn (jI x)≤1048576
 st:dn (Dr x)≤1048576
theorem Rf.of{x:aR}(h:okW x=true)(hr:x.replaced.length≤1000):Rf x:=by
 have w:=Dg.of h
 have nd:=w.Ui
 have hs:=wZ dP 15000 4 x.aj (Rc h) w.R4.2
 have hB: ∀d,d∈x.aa→bq d≤960:=fun d hd=>jP (Fb h d hd)
 have hm: ∀i,i<x.aa.length→bq (x.aa.getD i (aA .aS))≤960:=fun i hi=>by
  rw[List.getD_eq_getElem?_getD,List.getElem?_eq_getElem hi]
  exact hB _ (List.getElem_mem hi)
 have ha:ef x.az≤1601*8:=by
  have ha:=iJ.1 w.Ox
  refine wZ dm 1600 8 _ (fun y hy=> ?_) ha.1.2
  obtain⟨i,hi,rfl⟩:=List.mem_iff_getElem.1 hy
  have h2:=gY.1 (ha.2 i hi)
  have e:x.az.rounds.getD i (aA .aC)=x.az.rounds[i]:=by rw[List.getD_eq_getElem?_getD,List.getElem?_eq_getElem hi];rfl
  rw[e]at h2
  exact Da h2.2.2.1
 have h0:=hm 0 (by omega)
 have h1:=hm 1 (by omega)
 have d0:=N2 (f:=bq) (C:=1000) (i:=0) (y:=Xh (x.aa.getD 0 (aA .aS))) (fun d hd=>Nat.le_trans (hB d hd) (by decide)) (by rw[N3];omega) nd.2
 have d1:=N2 (f:=bq) (C:=1000) (i:=1) (y:=YI (x.aa.getD 1 (aA .aS))) (fun d hd=>Nat.le_trans (hB d hd) (by decide)) (by rw[N4];omega) nd.2
 refine⟨?_,nd,?_,?_⟩
 ·have h2:dc List.length (x.aa.getD 0 (aA .aS)).live.inbox≤960:=by unfold bq cu at h0;omega
  unfold dc at h2;omega
 ·unfold dn jI
  dsimp only
  omega
 ·unfold dn Dr
  dsimp only
  omega
theorem JZ{x:aR}(hd:0<x.aa.length)(h:nE x=true):lp x 0=true:=by
 simp only[nE,Bool.and_eq_true,List.all_eq_true]at h
 have:=h.2 0 (List.mem_range.2 hd)
 simp only[J9,Bool.and_eq_true]at this
 exact this.1
theorem N5{x:aR}(hd:x.aa.length≤1048576):lp x (-1)=false:=by
 have hh:jC x (-1)=false:=by
  cases h:jC x (-1)with
  |false=>rfl
  |true=>have:=(xJ hd).1 h;omega
 unfold lp dA
 rw[hh];rfl
theorem Wz{p a r:Bool}(h:a=true→p=true)(hr:r=false):(if(if(if p=true then !p else false)=true then true else if a=true then !p else false)=true then true else r)=false:=by
 subst hr
 cases p<;>cases a<;>simp_all
theorem WA{s a:Bool}:(if(if s=true then !s else false)=true then true else if a=true then !a else false)=false:=by
 cases s<;>cases a<;>rfl
theorem J0(l:List (List UInt8))(s y:List UInt8):y.length≤(Lib.join (l++ [y]) s).length:=by
 by_cases h:l= []
 ·subst h;rw[List.nil_append,Lib.join_one];exact Nat.le_refl _
 ·rw[JY l s y h,List.length_append];omega
theorem Uw(x:aR)(hd:0<x.aa.length):vP (jI x) 0=(x.aa.getD 0 (aA .aS)).live.inbox++ [[250,251,252]]:=by
 unfold vP jI
 dsimp only
 rw[show(0:Int).toNat=0 from rfl,List.getD_eq_getElem?_getD,List.getElem?_set_self hd]
 rfl
theorem It{x:aR}(hd:0<x.aa.length)(hl:x.aa.length≤8)(c:Int)(hc:8≤c):(if(!((uk (jI x) 0).toList==(⟨#[45]⟩:ByteArray).toList))=true then(uk (jI x) c).toList==(⟨#[45]⟩:ByteArray).toList else false)=true:=by
 have hlen:(jI x).aa.length=x.aa.length:=List.length_set
 have Bg:uk (jI x) c=⟨#[45]⟩:=Rd (by rw[hlen];omega) (by rw[hlen];omega)
 have hi:=Uw x hd
 have hok:Dp (jI x) 0=true:=by
  unfold Dp
  rw[Bool.and_eq_true]
  refine⟨(xJ (by rw[hlen];omega)).2 (by rw[hlen];omega),?_⟩
  rw[hi,List.length_append]
  simp;omega
 have hr:uk (jI x) 0=lE (Lib.join (vP (jI x) 0) [124]):=if_pos hok
 have hne:((uk (jI x) 0).toList==(⟨#[45]⟩:ByteArray).toList)=false:=by
  rw[beq_eq_false_iff_ne]
  intro h
  rw[ByteArray.toList_eq,ByteArray.toList_eq,hr]at h
  have h2:(Lib.join (vP (jI x) 0) [124]).length=1:=congrArg List.length h
  have h3:=J0 (x.aa.getD 0 (aA .aS)).live.inbox [124] [250,251,252]
  rw[←hi,h2]at h3
  exact absurd h3 (by decide)
 rw[hne,Bg]
 simp
end
end Go.Proofs.YtcnomgcfijjkmaaGreat.G
