/-
  Events: their names, corruptions counted, what the law asks. No program in sight.
-/
import Derived.Test.YtcnomgcfijjkmaaGreatM10
namespace Go.Proofs.YtcnomgcfijjkmaaGreat.G
set_option linter.all false
open Go.RowKit L D
section
def ju(x:bp)(e:Ev):Bool:=okW x&&(if e.kind=1 then decide (x.round<99999)else if e.kind=2 then KW x e.node e.body else if e.kind=3 then dm x e.node else if e.kind=4 then qV x e.node e.value else if e.kind=5 then dm x e.node else false)
def kr(x:bp)(e:Ev):bp:=if e.kind=1 then cR x else if e.kind=2 then KX x e.node e.body else if e.kind=3 then Ja x e.node else if e.kind=4 then LA x e.node e.value else if e.kind=5 then Bp x e.node else x
def iM(x:bp)(l:List Ev):bp:=l.foldl kr x
theorem G2(x:bp)(l:List Ev)(k:Nat)(h:k<l.length):iM x (l.take (k+1))=kr (iM x (l.take k)) (l.getD k (aI .Ev)):=by
 unfold iM
 rw[bL l k (aI .Ev) h,List.foldl_append];rfl
def xU:bp→List Ev→Nat
 |_,[]=>0
 |x,e::l=>(if ju x e then 1 else 0)+xU (kr x e) l
theorem KY: ∀(l:List Ev) (x:bp) (e:Ev),xU x (l++ [e])=xU x l+(if ju (iM x l) e then 1 else 0)
 | [],x,e=>by
   show(if ju x e then 1 else 0)+0=0+_
   rw[Nat.add_zero,Nat.zero_add];rfl
 |y::l,x,e=>by
  show(if ju x y then 1 else 0)+xU (kr x y) (l++ [e])=(if ju x y then 1 else 0)+xU (kr x y) l+_
  rw[KY l (kr x y) e]
  show _=_+(if ju (iM (kr x y) l) e then 1 else 0)
  omega
theorem Qf(x:bp)(l:List Ev)(k:Nat)(h:k<l.length):xU x (l.take (k+1))=xU x (l.take k)+(if ju (iM x (l.take k)) (l.getD k (aI .Ev))then 1 else 0):=by
 rw[bL l k (aI .Ev) h,KY]
theorem OD: ∀(l:List Ev) (x:bp),xU x l≤l.length
 | [],_=>Nat.le_refl _
 |e::l,x=>by
  have:=OD l (kr x e)
  show(if ju x e then 1 else 0)+_≤l.length+1
  split<;>omega
theorem aai{x:bp}{e:Ev}(h:okW x=false):kr x e=x:=by
 have h1:gI x=false:=by unfold gI;rw[h];rfl
 have h2:dm x e.node=false:=by unfold dm;rw[h];rfl
 have h3:qV x e.node e.value=false:=by unfold qV;rw[h];rfl
 have n1: ¬gI x=true:=by rw[h1];decide
 have n2: ¬dm x e.node=true:=by rw[h2];decide
 have n3: ¬qV x e.node e.value=true:=by rw[h3];decide
 unfold kr
 rw[cR,if_neg n1,KX,if_neg n2,Ja,if_neg n2,LA,if_neg n3,Bp,if_neg n2]
 simp
theorem Xa{x:bp}{e:Ev}(h:okW x=false):ju x e=false:=by unfold ju;rw[h];rfl
theorem MP{x:bp}{n i:Nat}{d:bC}(h:okW x=true)(hw:wC x n)(hd:uY d):wC (IC x i d) n:=by
 refine⟨hw.1,?_,hw.2.2.1,hw.2.2.2⟩
 have h1:dL bO (x.ak.set i d)≤(960+1)*8:=by
  refine qR bO 960 8 _ (fun y hy=> ?_) (by rw[List.length_set];exact(ni (kR h)).2.1)
  rcases List.mem_or_eq_of_mem_set hy with h2|h2
  ·exact gR (Fc h y h2)
  ·subst h2;exact gR hd
 exact Nat.le_trans h1 (by decide)
theorem ac4{d:bC}(h:uY d):uY (FX d):=by
 unfold FX
 split
 ·exact⟨h.1,h.1⟩
 ·exact h
theorem ac5{x:bp}{c:Int}{b:List UInt8}{n:Nat}(h:wC x n):wC (KX x c b) n:=by
 unfold KX
 split
 ·rename_i hk;exact MP (jL hk).1 h (TM (ID hk))
 ·exact h
theorem ac6{x:bp}{c:Int}{n:Nat}(h:wC x n):wC (Ja x c) n:=by
 unfold Ja
 split
 ·rename_i hk;exact MP (jL hk).1 h (Ym (ID hk))
 ·exact h
theorem ac7{x:bp}{c:Int}{n:Nat}(h:wC x n):wC (Bp x c) n:=by
 unfold Bp
 split
 ·rename_i hk;exact MP (jL hk).1 h (ac4 (ID hk))
 ·exact h
theorem ac8{x:bp}{i b:Int}{n:Nat}(h:wC x n):wC (LA x i b) n:=by
 unfold LA
 split
 ·rename_i hk
  obtain⟨h1,h2,_⟩:=IE hk
  refine⟨sC ⟨by show(x.av.set _ _).length≤4;rw[List.length_set];exact(ef h1).1,fun s hs=> ?_⟩,h.2.1,h.2.2.1,h.2.2.2⟩
  rcases List.mem_or_eq_of_mem_set hs with h3|h3
  ·exact nG h1 s h3
  ·subst h3
   have hin:=getD_in (aI .bw) (show i.toNat<x.av.length by omega)
   show(x.av.getD i.toNat (aI .bw)).received= []
   exact nG h1 _ hin
 ·exact h
theorem TN{x:bp}{e:Ev}{n:Nat}(h:wC x n):wC (kr x e) (n+8):=by
 have hm: ∀{y:bp},wC y n→wC y (n+8):=fun q=>jK q (Nat.le_add_right _ _)
 unfold kr
 split
 ·exact zO h
 ·split
  ·exact hm (ac5 h)
  ·split
   ·exact hm (ac6 h)
   ·split
    ·exact hm (ac8 h)
    ·split
     ·exact hm (ac7 h)
     ·exact hm h
theorem TO: ∀(l:List Ev) {x:bp} {n:Nat},wC x n→wC (iM x l) (n+8*l.length)
 | [],_,_,h=>h
 |e::l,x,n,h=>jK (TO l (TN (e:=e) h)) (by rw[List.length_cons];omega)
end
section
theorem T1{α:Type}(l:List α)(i:Nat)(d:α)(h:i<l.length):l.set i (l.getD i d)=l:=by
 rw[List.getD_eq_getElem?_getD,List.getElem?_eq_getElem h]
 exact List.set_getElem_self h
theorem Lb{x:bp}{c:Int}{b:List UInt8}(h:dm x c=true)(hs:uZ (xT x c) b=false):KX x c b=x:=by
 rw[(Da h).1,IL hs]
 obtain⟨_,h1,h2⟩:=jL h
 unfold IC xT
 rw[T1 _ _ _ (by omega)]
theorem MW{x:bp}{c:Int}(h:dm x c=false):Bp x c=x:=by rw[Bp,h];rfl
theorem OP{x:bp}{c:Int}(h:dm x c=true):Bp x c=IC x c.toNat (FX (xT x c)):=by rw[Bp,if_pos h]
theorem T2{x:bp}{e:Ev}(h:okW x=false):kr x e=x∧ju x e=false:=⟨aai h,Xa h⟩
theorem aao{x:bp}{e:Ev}(h:okW x=true)(h1:e.kind=1):kr x e=cR x∧ju x e=decide (x.round<99999):=⟨by rw[kr,if_pos h1],by rw[ju,h,if_pos h1,Bool.true_and]⟩
theorem aap{x:bp}{e:Ev}(h:okW x=true)(h1:e.kind=2):kr x e=KX x e.node e.body∧ju x e=KW x e.node e.body:=by
 unfold kr ju
 rw[h,Bool.true_and,if_neg (by omega),if_pos h1,if_neg (by omega),if_pos h1]
 exact⟨rfl,rfl⟩
theorem aaq{x:bp}{e:Ev}(h:okW x=true)(h1:e.kind=3):kr x e=Ja x e.node∧ju x e=dm x e.node:=by
 unfold kr ju
 rw[h,Bool.true_and,if_neg (by omega),if_neg (by omega),if_pos h1,if_neg (by omega),if_neg (by omega),if_pos h1]
 exact⟨rfl,rfl⟩
theorem aar{x:bp}{e:Ev}(h:okW x=true)(h1:e.kind=4):kr x e=LA x e.node e.value∧ju x e=qV x e.node e.value:=by
 unfold kr ju
 rw[h,Bool.true_and,if_neg (by omega),if_neg (by omega),if_neg (by omega),if_pos h1,if_neg (by omega),if_neg (by omega),if_neg (by omega),if_pos h1]
 exact⟨rfl,rfl⟩
theorem aas{x:bp}{e:Ev}(h:okW x=true)(h1:e.kind=5):kr x e=Bp x e.node∧ju x e=dm x e.node:=by
 unfold kr ju
 rw[h,Bool.true_and,if_neg (by omega),if_neg (by omega),if_neg (by omega),if_neg (by omega),if_pos h1,if_neg (by omega),if_neg (by omega),if_neg (by omega),if_neg (by omega),if_pos h1]
 exact⟨rfl,rfl⟩
theorem aat{x:bp}{e:Ev}(h:okW x=true)(h1: ¬e.kind=1)(h2: ¬e.kind=2)(h3: ¬e.kind=3)(h4: ¬e.kind=4)(h5: ¬e.kind=5):kr x e=x∧ju x e=false:=by
 unfold kr ju
 rw[h,Bool.true_and,if_neg h1,if_neg h2,if_neg h3,if_neg h4,if_neg h5,if_neg h1,if_neg h2,if_neg h3,if_neg h4,if_neg h5]
 exact⟨rfl,rfl⟩
theorem Ad{x:bp}{c:Int}(h:okW x=true):dm x c=ku x c:=by rw[dm,h,Bool.true_and]
def cG(l:List Ev):List Ev:=l.take 100
theorem Lc(l:List Ev):(l.take (DE (l.length:Int) 100).toNat).drop (Int.toNat 0)=cG l:=by
 unfold cG DE
 rw[show(Int.toNat 0)=0 from rfl,List.drop_zero]
 split
 ·rfl
 ·rw[List.take_of_length_le (by omega),List.take_of_length_le (by omega)]
theorem Bw(l:List Ev):(cG l).length≤100∧(cG l).length≤l.length∧(∀k,k<(cG l).length↔k<l.length∧k<100):=by
 unfold cG
 rw[List.length_take]
 exact⟨by omega,by omega,fun k=>by omega⟩
theorem Ld{l:List Ev}(h: ∀e,e∈l→e.body.length≤1048576){k:Nat}(hk:k<(cG l).length):((cG l).getD k (aI .Ev)).body.length≤1048576:=
 h _ (List.mem_of_mem_take (getD_in (aI .Ev) hk))
theorem T3{x:bp}(h:wC x 4100000)(l:List Ev)(k:Nat):wR (iM x ((cG l).take k)):=by
 have h1:=TO ((cG l).take k) h
 have h2:=(Bw l).1
 have h3:((cG l).take k).length≤(cG l).length:=by rw[List.length_take];omega
 exact K8 h1 (by omega)
end
section
theorem UI(c:cu):(F0 c).b=c.b:=by
 unfold F0
 split<;>rw[aQ,aQ]
theorem YB(c:cu):(Vv c).b=c.b:=by
 unfold Vv
 split
 ·rw[qZ,aQ,aQ,Ll]
 ·rw[aQ,Ll]
theorem aaG(c:cu):(IW c).b=c.b:=by
 unfold IW
 split
 ·rw[aQ,aQ,Fv]
 ·split
  ·rw[YB,aQ,aQ,Fv]
  ·rw[aQ,Fv]
def mI(c:cu):Ev:=
 if aV c 9=0∨aV c 9=1 then⟨2,aV (aA c 9) 5,0,tG (aA (aA (aA c 9) 5) 4) (aV (aA (aA c 9) 5) 4).toNat⟩
 else if aV c 9=2 then⟨3,aV (aA c 9) 5,0,[]⟩
 else if aV c 9=3 then⟨4,aV (aA c 9) 4,aV (aA (aA c 9) 4) 4,[]⟩
 else if aV c 9=4 then⟨5,aV (aA c 9) 5,0,[]⟩
 else⟨1,0,0,[]⟩
def oM(c:cu):cu:=
 if aV c 9=0∨aV c 9=1 then Ag (aA (aA (aA c 9) 5) 4) (aV (aA (aA c 9) 5) 4).toNat
 else if aV c 9=2 then aA (aA c 9) 5
 else if aV c 9=3 then aA (aA (aA c 9) 4) 4
 else if aV c 9=4 then aA (aA c 9) 5
 else aA c 9
theorem Xz(c:cu):(oM c).b=c.b:=by
 unfold oM
 repeat' split
 all_goals simp only[qZ,aQ]
end
section
theorem aaU(c:cu):(rj c).b=c.b:=by
 unfold rj
 repeat' split
 all_goals first
  |rw[aQ,sI]
  |rw[UI,sI]
  |exact sI c
theorem aaV(c:cu):(wG c).b=c.b:=by
 unfold wG
 repeat' split
 all_goals first
  |rw[aaU,FA]
  |rw[aQ,FA]
  |exact FA c
theorem aaW(c:cu):(tK c).b=c.b:=by
 unfold tK
 repeat' split
 all_goals first
  |rw[aQ,sK]
  |rw[YB,aQ,sK]
  |exact sK c
end
section
theorem U4{x:bp}{e:Ev}(hc:okW x=true→x.cancelled<9223372036854775807):(ju x e=false→kr x e=x)∧(ju x e=true→okW (kr x e)=true):=by
 cases h:okW x with
 |false=>
  have:=T2 (e:=e) h
  exact⟨fun _=>this.1,fun hk=>by rw[this.2]at hk;cases hk⟩
 |true=>
  have hok:okW (kr x e)=true:=by
   unfold kr
   split
   ·exact BF h (hc h)
   ·split
    ·exact Uo h
    ·split
     ·exact Up h
     ·split
      ·exact Ur h
      ·split
       ·exact Uq h
       ·exact h
  refine⟨fun hk=> ?_,fun _=>hok⟩
  by_cases h1:e.kind=1
  ·obtain⟨a,b⟩:=aao h h1
   rw[b,decide_eq_false_iff_not]at hk
   rw[a]
   have:gI x=false:=by simp only[gI,h,Bool.true_and,Bool.not_eq_false',decide_eq_true_eq];omega
   exact v5 this
  ·by_cases h2:e.kind=2
   ·obtain⟨a,b⟩:=aap h h2
    rw[b]at hk
    rw[a]
    cases hq:dm x e.node with
    |false=>exact(MT hq).1
    |true=>rw[(Da hq).2]at hk;exact Lb hq hk
   ·by_cases h3:e.kind=3
    ·obtain⟨a,b⟩:=aaq h h3
     rw[b]at hk;rw[a];exact MU hk
    ·by_cases h4:e.kind=4
     ·obtain⟨a,b⟩:=aar h h4
      rw[b]at hk;rw[a];exact MV hk
     ·by_cases h5:e.kind=5
      ·obtain⟨a,b⟩:=aas h h5
       rw[b]at hk;rw[a];exact MW hk
      ·exact(aat h h1 h2 h3 h4 h5).1
end
section
theorem aaY(c:cu):(mS c).b=c.b:=by
 unfold mS
 repeat' split
 all_goals first
  |rw[aQ,mT]
  |rw[aaG,mT]
  |rw[UI,mT]
  |rw[aaW,mT]
  |rw[aaV,mT]
  |exact mT c
theorem adz(c:cu)(s:Int):(rrC c s).b=c.b:=by unfold rrC;rw[aaY,Yv]
def dac(l:List UInt8):cu:=rrC (Fq l) 3
def O2(l:List UInt8):bp:=Nf (Fq l) 3
def s7(l:List UInt8):Ev:=mI (dac l)
def YF(l:List UInt8):cu:=oM (dac l)
def I2(l:List UInt8):Int:=aV (YF l) 10
def I3(l:List UInt8):cu:=aA (YF l) 10
def Ng(l:List UInt8):Ev:=
 if I2 l=0 then⟨[0,6].getD (aV (I3 l) 2).toNat (aI .int),(s7 l).node,(s7 l).value,(s7 l).body⟩
 else if I2 l=1 then⟨(s7 l).kind,[-1,9].getD (aV (I3 l) 2).toNat (aI .int),(s7 l).value,(s7 l).body⟩
 else if I2 l=2 then⟨(s7 l).kind,(s7 l).node,[-1,4].getD (aV (I3 l) 2).toNat (aI .int),(s7 l).body⟩
 else if I2 l=3 then⟨(s7 l).kind,(s7 l).node,(s7 l).value,List.replicate 15 (aI .u8)⟩
 else s7 l
theorem Qr(c:cu):(mI c).body.length≤4:=by
 have:=cS (aA (aA c 9) 5) (n:=4) (by decide)
 unfold mI
 split
 ·show(tG _ _).length≤4
  rw[iq];omega
 ·split
  ·exact Nat.zero_le _
  ·split
   ·exact Nat.zero_le _
   ·split<;>exact Nat.zero_le _
theorem U6(l:List UInt8):(Ng l).body.length≤15:=by
 have h:(s7 l).body.length≤4:=Qr _
 unfold Ng
 generalize s7 l=e at h ⊢
 generalize I2 l=k
 split
 ·exact Nat.le_trans h (by decide)
 ·split
  ·exact Nat.le_trans h (by decide)
  ·split
   ·exact Nat.le_trans h (by decide)
   ·split
    ·exact Nat.le_of_eq (by show(List.replicate 15 _).length=15;rw[List.length_replicate])
    ·exact Nat.le_trans h (by decide)
end
section
def evL:List (List UInt8):= [[114,111,117,110,100],[115,117,98,109,105,116],[99,114,97,115,104],[99,111,114,114,117,112,116],[115,97,118,101]]
def Vz(k:Int):ByteArray:=if 1≤k∧k≤5 then yF (evL.getD (k-1).toNat [])else yF []
theorem aa8(k:Int):(!((Vz k).toList==(yF []).toList))=(if decide (k≥1)=true then decide (k≤5)else false):=by
 unfold Vz
 by_cases h:1≤k∧k≤5
 ·rw[if_pos h,if_pos (by simpa using h.1),decide_eq_true h.2]
  rcases(show k=1∨k=2∨k=3∨k=4∨k=5 by omega)with rfl|rfl|rfl|rfl|rfl<;>(rw[ByteArray.toList_eq,ByteArray.toList_eq];rfl)
 ·rw[if_neg h]
  simp only[beq_self_eq_true,Bool.not_true]
  by_cases h1:k≥1
  ·rw[if_pos (by simpa using h1),eq_comm,decide_eq_false_iff_not];omega
  ·rw[if_neg (by simpa using h1)]
def YM(e:Ev):Bool:=e.kind==4&&e.value !=0
def Qw(l:List Ev):Nat:=l.countP YM
theorem Vh(l:List Ev)(k:Nat)(h:k<l.length):Qw (l.take (k+1))=Qw (l.take k)+(if YM (l.getD k (aI .Ev))then 1 else 0):=by
 unfold Qw
 rw[bL l k (aI .Ev) h,List.countP_append]
 simp[List.countP_cons]
theorem aa9(l:List Ev):Qw l≤l.length:=List.countP_le_length
def sP:Ev:=⟨1,0,0,[]⟩
theorem De(e:Ev):Qw [e,sP]≤1:=by
 have h1:YM sP=false:=rfl
 unfold Qw
 rw[List.countP_cons,List.countP_cons,List.countP_nil,h1]
 cases YM e<;>decide
theorem Df(x:bp)(e:Ev):iM x (cG [e,sP])=kr (kr x e) sP:=by
 have h:cG [e,sP]= [e,sP]:=List.take_of_length_le (by simp)
 rw[h]
 unfold iM
 rw[List.foldl_cons,List.foldl_cons,List.foldl_nil]
theorem Dg(x:bp)(e:Ev):xU x (cG [e,sP])=(if ju x e then 1 else 0)+(if ju (kr x e) sP then 1 else 0):=by
 have h:cG [e,sP]= [e,sP]:=List.take_of_length_le (by simp)
 rw[h,xU,xU,xU,Nat.add_zero]
end
end Go.Proofs.YtcnomgcfijjkmaaGreat.G
