/-
  Results; a call by the body.
-/
import Derived.Test.YtiioognflecdgaaGreatS4
set_option linter.unusedVariables false
set_option linter.unusedSimpArgs false
namespace Go.Sx
section
variable {P:Program} {ctx:Ctx} {B:Base} {e:Env} {a:Act} {w w':World} {σ τ : St} {o:Oper} {Q:Exit→Act→World→Prop} {L:Locks} {hp:Hp} {cl:CallT}
def a9I (tmps:Array Value):ResultVar→Sem Value
 | .tmp t=>pure (tmps.getD t undef)
 | .cell a t=>do loadVar t (←asAddr (tmps.getD a undef))
theorem V5 (hty:TyOk P ctx.ty) {tmps:Array Value} (h:Rel B e w tmps σ) : ∀(rs:List ResultVar) (K:List V→Hp→Prop),(K8 rs ctx σ.tm).wp L σ.hp K →
  ∃vals vs,(rs.mapM (a9I tmps)).run P w = .ok vals w∧VRs e σ.hp w vals vs∧vals.length=rs.length∧K vs σ.hp
 |[],K,hm=>⟨[],[],by simp,by simp only[VRs],rfl,hm⟩
 | .tmp t::r,K,hm=>by
  simp only[K8]at hm
  rw[M.wp_bind]at hm
  obtain⟨vals,vs,h1,h2,h3,hK⟩:=V5 hty h r _ hm
  refine⟨tmps.getD t undef::vals,σ.tm.get t::vs,?_,by simp only[VRs];exact⟨h.tm t,h2⟩,by simp[h3],hK⟩
  simp[List.mapM_cons,a9I,h1]
 | .cell x T::r,K,hm=>by
  simp only[K8]at hm
  have hx:=h.tm x
  split at hm
  ·rename_i p hp
   rw[hp]at hx
   simp only[VR]at hx
   rw[M.wp_bind]at hm
   obtain⟨cs,hf,hm⟩:=a8j h.hr hx.1 hm
   obtain⟨b,off,us,g1,g2,g3,g4,g5⟩:=hf
   rw[M.wp_bind]at hm
   have hT:a3h P T (ctx.ty.get T)=true:=by
    rcases hty T with h0|h0
    ·exfalso
     rw[h0]at g2 hm
     have hl:=g4.length
     obtain⟨c,rfl⟩:=c1P hm
     simp at hl
     rw[g2]at hl
     cases hl
    ·exact h0
   obtain⟨v,z,k1,k2,k3⟩:=a1g (w:=w) hT g2 g3 g4 g5 hm
   rw[M.wp_bind]at k3
   obtain⟨vals,vs,h1,h2,h3,hK⟩:=V5 hty h r _ k3
   refine⟨v::vals,z::vs,?_,by simp only[VRs];exact⟨k2,h2⟩,by simp[h3],hK⟩
   simp[List.mapM_cons,a9I,h1,g1,asAddr,k1]
  ·exact hm.elim
theorem b1v (hty:TyOk P ctx.ty) {tmps:Array Value} (h:Rel B e w tmps σ) {fn:Func} {K:List V→Hp→Prop} (hm:(K8 fn.results.toList ctx σ.tm).wp L σ.hp K) :
  ∃v vs,(results fn tmps).run P w = .ok v w∧VR e σ.hp w v (tupV vs)∧K vs σ.hp:=by
 obtain⟨vals,vs,h1,h2,h3,hK⟩:=V5 hty h _ _ hm
 have hl:=h2.length
 have hr:(results fn tmps).run P w = .ok (if h:vals.toArray.size=1 then vals.toArray[0]else .tuple vals.toArray) w:=by
  unfold results
  rw[Array.mapM_eq_mapM_toList]
  show Sem.run P (do
    let vs ←Functor.map List.toArray (List.mapM (a9I tmps) fn.results.toList)
    pure (if h:vs.size=1 then vs[0]else Value.tuple vs)) w=_
  simp[h1]
 refine⟨_,vs,hr,?_,hK⟩
 cases vals with
 |nil=>cases vs with
  |nil =>
   simp only[tupV,VR]
   exact⟨#[],rfl,by simp only[VRs]⟩
  |cons _ _=>simp at hl
 |cons u us=>cases vs with
  |nil=>simp at hl
  |cons x xs=>cases us with
   |nil=>cases xs with
    |nil =>
     simp only[VRs]at h2
     simpa [tupV]using h2.1
    |cons _ _=>simp at hl
   |cons u2 us=>cases xs with
    |nil=>simp at hl
    |cons x2 xs =>
     rw[dif_neg (by simp)]
     simp only[tupV,VR]
     exact⟨_,rfl,h2⟩
theorem b3i : ∀(vs:List V) (i k:Nat),(a1x i vs).get k=if i≤k then(vs[k-i]?).getD default else default
 |[],i,k=>by simp only[a1x,Tr.get];split<;>simp
 |v::vs,i,k=>by
  simp only[a1x,Tr.W4,b3i vs (i+1) k]
  by_cases hk:k=i
  ·subst hk;simp
  ·rw[if_neg hk]
   by_cases h1:i+1≤k
   ·rw[if_pos h1,if_pos (by omega),show k-i=(k-(i+1))+1 by omega,List.getElem?_cons_succ]
   ·rw[if_neg h1,if_neg (by omega)]
theorem b1n {vals:List Value} {args:List V} (h:VRs e hp w vals args) (n t:Nat):VR e hp w ((vals.toArray++Array.replicate n undef).getD t undef) ((a1x 0 args).get t):=by
 have hl:=h.length
 rw[b3i,if_pos (Nat.zero_le _),Nat.sub_zero]
 cases ha:args[t]? with
 |none =>
  simp only[Option.getD_none]
  show VR e hp w _ (.one .unk)
  simp only[VR,CR,y8]
  exact⟨trivial,trivial⟩
 |some x =>
  obtain⟨v,hv,hx⟩:=h.get t ha
  have hlt:=(List.getElem?_eq_some_iff.1 hv).1
  have:(vals.toArray++Array.replicate n undef).getD t undef=v:=by
   rw[Array.getD_eq_getD_getElem?,Array.getElem?_append_left (by simpa using hlt)]
   simp[hv]
  rw[this]
  exact hx
def a0V (plan:Nat→List (Nat×Nat)) (fn:Func):Bool:=match fn.body with
 |some c=>codeOk plan c
 |none=>true
structure EnvOk (P:Program) (E:Env0):Prop where
 mix:P.follows .mixedOrders=true
 ty:TyOk P E.ty
 inl : ∀ f fn, E.inl f = some fn → P.funcs[f]? = some fn ∧ (fn.name == "runtime.NumGoroutine") = false ∧ a0V (E.plan f) fn = true
 spec:Z4 P E.spec
theorem a2s {E:Env0} (hE:EnvOk P E) : ∀n,ClOk P (a3g E L n)
 | 0=>fun key f args σ K hm=>hm.elim
 |n+1=>fun key f args σ K hm=>by
  have ih:=a2s hE n
  simp only[a3g]at hm
  split at hm
  ·rename_i s hs
   exact hE.spec f s hs L (512 * (key+1)+256) key f args σ K ⟨rfl,hm⟩
  ·split at hm
   ·rename_i fn hfn
    split at hm
    ·rename_i c hc
     split at hm
     ·exact hm.elim
     ·rename_i hlen
      have hlen':args.length≤fn.ntmps:=by simpa using hlen
      obtain⟨hP,hname,hbo⟩:=hE.inl f fn hfn
      have hbo':codeOk (E.plan f) c=true:=by simpa [a0V,hc]using hbo
      refine⟨⟨fn,c,hP,hname,hc⟩,fun B e w tmps vals h hv => ?_⟩
      have hl:=hv.length
      let B':Base := { B with up:=tmps::B.up }
      have hrel:Rel B' e w (vals.toArray++Array.replicate (fn.ntmps-vals.toArray.size) undef) ⟨a1x 0 args,σ.hp,σ.tm :: σ.up⟩ :=
       ⟨h.hr,⟨h.fr.os,h.fr.tape,h.fr.output,h.fr.sNew,h.fr.size,h.fr.old,h.fr.box⟩,⟨h.tm,h.up⟩,fun t=>b1n hv _ t⟩
      refine calls_of_wp hP hc (wp_mono (a8U hE.mix (ctx:=E.ctx f (512 * (key+1)) fn.ntmps) hE.spec ih hE.ty c _ w e _ _ hbo' rfl ?_ hrel hm) fun ex a' w' hq => ?_)
      ·simp only[Array.size_append,List.size_toArray,Array.size_replicate,Env0.ctx]
       omega
      ·have fin:At B' (E.ctx f (512 * (key+1)) fn.ntmps).nt (fun σ'=>(K8 fn.results.toList (E.ctx f 0 0) σ'.tm).wp L σ'.hp fun vs hp=>match σ'.up with
         |tm::up=>K (tupV vs) ⟨tm,hp,up⟩
         |[]=>False) a' w'→a'.defers = [] ∧ ∃v,(results fn a'.tmps).run P w' = .ok v w'∧a6O B K tmps (.returned v) w':=by
        rintro⟨hA,_,e',σ',h',hm'⟩
        obtain⟨v,vs,r1,r2,r3⟩:=b1v (ctx:=E.ctx f 0 0) hE.ty h' hm'
        refine⟨hA,v,r1,?_⟩
        have hup:=h'.up
        split at r3
        ·rename_i tm up hu
         rw[hu]at hup
         exact⟨v,tupV vs,e',⟨tm,σ'.hp,up⟩,rfl,r3,⟨h'.hr,⟨h'.fr.os,h'.fr.tape,h'.fr.output,h'.fr.sNew,h'.fr.size,h'.fr.old,h'.fr.box⟩,hup.2,hup.1⟩,r2⟩
        ·exact r3.elim
       cases ex with
       |normal=>exact fin hq
       |ret=>exact fin hq
       |exit id=>obtain⟨_,_,_,_,_,hm'⟩:=hq;exact hm'.elim
       |_=>exact hq.elim
    ·exact hm.elim
   ·exact hm.elim
end
end Go.Sx
