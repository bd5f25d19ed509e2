/-
  An append whose source is read on: what goes into the slice is seen from there.
-/
import Derived.Test.YteodajeiagmekaaGreatM10
namespace Go.Proofs.YteodajeiagmekaaGreat.G
set_option linter.all false
open Go.RowKit L D
section
variable{ty:Tag→Nat}
section
variable{ks ns:List Nat}{m0:Nat}{w w':World}{hp iZ:Hp}{env env':Env}
end
section
variable{P:Program}{zb:bY}{st:St}{a:Act}{w:World}{env:Env}
end
section
variable{P:Program}{zb:bY}{st:St}{a:Act}{w:World}{env:Env}{o:Oper}
end
section
variable{P:Program}{Γ:Nat→TK}{zb:bY}{Q:Post}{st:St}
end
def rename(st:St)(s m:Nat):Option St:=match look st.sl s,Nat.blt s st.n with
 |some (.one (.a (.own n))),true=>match look st.hp n,pinned [n],jk m,look (cE [n] [] st.hp) m with
  |some (.arr t l),false,false,none=>NF ((st.gone [n] m t l).put (some s) (.one (.a (.own m))))
  |_,_,_,_=>none
 |_,_=>none
theorem PU{zb:bY}{st st':St}{s m:Nat}(h:rename st s m=some st'){a:Act}{w:World}(iv:Inv ty zb st a w):Inv ty zb st' a w:=by
 obtain⟨env,g⟩:=iv.good
 have hB:=iv.kept.size
 unfold rename at h
 split at h
 case h_2=>cases h
 rename_i n hs hlt
 split at h
 case h_2=>cases h
 rename_i t l hl hpk Jb hlk
 have h:=mP h
 rw[St.gone_eq]at h
 have XF:soft n=false:=rK hpk (by simp)
 have hb:=RO.Nk XF (g.obj n _ hl)
 have Fk: ∀b,(env n).v.ownBlock=some b→b∈(env n).fp:=by
  intro b hb'
  obtain⟨xs,bh,_,_,_,ig,_⟩:=hb
  rw[ig,hb'];simp
 obtain⟨env',hg',Lt⟩:=DM (ty:=ty) g hB (ks:= [n]) hpk Jb hlk (v:=(env n).v) (v':=(env n).v) (w':=w) (fp:=(env n).fp) (fx:= []) (by
  intro b hb
  rw[List.append_nil]at hb
  exact⟨n,_,by simp,hl,hb⟩) Fk hb ⟨rfl,rfl,rfl,Nat.le_refl _,fun _ _ _=>rfl⟩ (fun b hb=>Or.inl hb)
 have hlt:s<a.tmps.size:=by rw[iv.size];exact Nat.le_of_ble_eq_true hlt
 obtain⟨_,hu⟩:=g.slot s _ hs
 have gp:=hg'.put hlt (v:= .one (.a (.own m))) (u:=a.tmps.getD s undef) ⟨⟨t,l,look_eq⟩,by rw[Lt];exact hu⟩ rfl
 have e:a.tmps.setIfInBounds s (a.tmps.getD s undef)=a.tmps:=by
  rw[Array.getD_eq_getD_getElem?,Array.getElem?_eq_getElem hlt]
  apply Array.ext
  ·simp
  ·intro i h1 h2
   rw[Array.getElem_setIfInBounds]
   split
   ·rename_i hi;subst hi;rfl
   ·rfl
 rw[e]at gp
 rw[h]
 exact⟨by rw[yz];exact iv.size,iv.defers,iv.kept,iv.B0,env',gp⟩
theorem W.rename{P:Program}{zb:bY}{Q:Post}{st st':St}{c:Code}(s m:Nat)(h:G.rename st s m=some st')(k:W P ty zb c Q st'):W P ty zb c Q st:=fun a w iv=>k a w (PU h iv)
end
end Go.Proofs.YteodajeiagmekaaGreat.G
