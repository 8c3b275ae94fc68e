/-
  Contracts: the body run, its results told.
-/
import Derived.Test.YtiioognflecdgaaGreatS4a
set_option linter.unusedVariables false
set_option linter.unusedSimpArgs false
namespace Go.Sx
section
variable {P:Program} {ctx:Ctx} {B:Base} {e e':Env} {a:Act} {w w':World} {σ τ : St} {L:Locks} {hp hp':Hp}
def c2H (B:Base) (s:Spec) (bs:Th (List Int)) (K:V×Th Int→Prop) (en:Ending) (w':World):Prop := ∃v vs us e' hp',en = .returned v∧HR e' hp' w'∧FR B e' hp' w'∧VRs e' hp' w' us vs∧(v=if h:us.toArray.size=1 then us.toArray[0]else .tuple us.toArray) ∧
 (a4I s.keep s.rets vs).wp ⟨[],[]⟩ hp' fun us hp=>b7q s bs (tupV us) K hp
theorem a5M (hty:TyOk P ctx.ty) {tmps:Array Value} (h:Rel B e w tmps σ) {fn:Func} {K:List V→Hp→Prop} (hm:(K8 fn.results.toList ctx σ.tm).wp L σ.hp K) :
  ∃vals vs,(results fn tmps).run P w = .ok (if h:vals.toArray.size=1 then vals.toArray[0]else .tuple vals.toArray) w∧VRs e σ.hp w vals vs∧K vs σ.hp:=by
 obtain⟨vals,vs,h1,h2,h3,hK⟩:=V5 hty h _ _ hm
 refine⟨vals,vs,?_,h2,hK⟩
 unfold results
 rw[Array.mapM_eq_mapM_toList]
 show Sem.run P (do
   let vs ←Functor.map List.toArray (List.mapM (a9I tmps) fn.results.toList)
   pure (if h:vs.size=1 then vs[0]else Value.tuple vs)) w=_
 simp[h1]
theorem fn_run {E:Env0} (hE:EnvOk P E) {n f off:Nat} {fn:Func} {c:Code} (hfn:P.funcs[f]? = some fn) (hc:fn.body=some c) (hbo:a0V (E.plan f) fn=true) {s:Spec} {bs:Th (List Int)} {K:V×Th Int→Prop} {hp0:Hp} {args:List V} {vals:List Value} {e0:Env}
  (hv:vc (E.ctx f off fn.ntmps) ⟨[],[]⟩ (a3g E ⟨[],[]⟩ n) c ⟨a1x 0 args,hp0,[]⟩ (finF (E.ctx f 0 0) fn.results.toList s bs K)) (hlen:args.length≤fn.ntmps) (hup:B.up = []) (h:HR e0 hp0 w) (hf:FR B e0 hp0 w) (ha:VRs e0 hp0 w vals args) :
  Calls P f vals.toArray w (c2H B s bs K):=by
 have hbo':codeOk (E.plan f) c=true:=by simpa [a0V,hc]using hbo
 have hl:=ha.length
 have hrel:Rel B e0 w (vals.toArray++Array.replicate (fn.ntmps-vals.toArray.size) undef) ⟨a1x 0 args,hp0,[]⟩ :=
  ⟨h,hf,by rw[hup];trivial,fun t=>b1n ha _ t⟩
 refine calls_of_wp hfn hc (wp_mono (a8U hE.mix (ctx:=E.ctx f off fn.ntmps) hE.spec (a2s hE n) hE.ty c _ w e0 _ _ hbo' rfl ?_ hrel hv) fun ex a' w' hq => ?_)
 ·simp only[Array.size_append,List.size_toArray,Array.size_replicate,Env0.ctx]
  omega
 ·have fin:At B (E.ctx f off fn.ntmps).nt (fun σ'=>((K8 fn.results.toList (E.ctx f 0 0) σ'.tm).bind fun vs=>a4I s.keep s.rets vs).wp ⟨[],[]⟩ σ'.hp fun us hp=>b7q s bs (tupV us) K hp) a' w' →
    a'.defers = [] ∧ ∃v,(results fn a'.tmps).run P w' = .ok v w'∧c2H B s bs K (.returned v) w':=by
   rintro⟨hA,_,e',σ',h',hm'⟩
   rw[M.wp_bind]at hm'
   obtain⟨us,vs,r1,r2,r3⟩:=a5M (ctx:=E.ctx f 0 0) hE.ty h' hm'
   exact⟨hA,_,r1,_,vs,us,e',σ'.hp,rfl,h'.hr,h'.fr,r2,rfl,r3⟩
  cases ex with
  |normal=>exact fin hq
  |ret=>exact fin hq
  |exit id=>obtain⟨_,_,_,_,_,hm'⟩:=hq;exact hm'.elim
  |_=>exact hq.elim
theorem b6r {S:Nat→Prop} (hS : ∀b,S b→b<w.heap.size):HR ⟨S,fun _=>none,fun _=>undef⟩ .leaf w∧FR ⟨w,S,fun _=>none,fun _=>none,fun _ _=>False,[]⟩ ⟨S,fun _=>none,fun _=>undef⟩ .leaf w :=
 ⟨⟨fun k=>trivial,fun b hb=>⟨rfl,hS b hb⟩,fun b x hb=>by cases hb⟩,⟨rfl,rfl,rfl,fun b hb => .inl hb,Nat.le_refl _,fun b hb _=>⟨rfl,rfl⟩,fun b k off n hb=>by cases hb⟩⟩
def R5 (S:Nat→Prop) (b0 off:Nat):Env:=⟨S,fun b=>if b=b0 then some (0,[])else none,fun _ => .pointer (some ⟨b0,off,none⟩)⟩
def X2 (w:World) (S:Nat→Prop) (b0 off:Nat) (ds:List C):Base:=⟨w,S,fun b=>if b=b0 then some (0,[])else none,fun b=>if b=b0 then some (0,off,ds.length)else none,fun _ o=>BAt off ds o,[]⟩
theorem c5s {S:Nat→Prop} {b0 off:Nat} {ds:List C} (hS : ∀b,S b→b<w.heap.size∧b≠b0) (hb:a6P S w b0 off ds) :
  HR (R5 S b0 off) (Tr.set .leaf 0 (1,.var true ds)) w∧FR (X2 w S b0 off ds) (R5 S b0 off) (Tr.set .leaf 0 (1,.var true ds)) w∧VR (R5 S b0 off) (Tr.set .leaf 0 (1,.var true ds)) w (.pointer (some ⟨b0,off,none⟩)) (.one (.ptr 0 1 0)):=by
 obtain⟨arr,T,h1,h2,h3⟩:=hb
 have hlt:b0<w.heap.size:=(Array.getElem?_eq_some_iff.1 h1).1
 refine⟨⟨fun k => ?_,fun b hb=>⟨by simp[R5,(hS b hb).2],(hS b hb).1⟩,fun b x hb => ?_⟩,⟨rfl,rfl,rfl,fun b hb => .inl hb,Nat.le_refl _,fun b hb h0=>⟨rfl,h0⟩,fun b k off' n hb => ?_⟩,?_⟩
 ·rw[Tr.W4]
  split
  ·rename_i hk
   subst hk
   refine⟨b0,off,arr,T,rfl,by simp[R5],h1,h2,fun j c hc => ?_⟩
   obtain⟨a,u,rfl,hu,hr,h4⟩:=h3 j c hc
   exact⟨u,hu,by simp only[CR];exact hr,h4⟩
  ·trivial
 ·simp only[R5]at hb
  split at hb
  ·rename_i he;rw[he];exact hlt
  ·cases hb
 ·simp only[X2]at hb
  split at hb
  ·rename_i he
   subst he
   cases hb
   exact⟨by simp[R5],rfl,⟨ds,by rw[Tr.e8],rfl,fun _ ho=>ho⟩,arr,arr,T,h1,h1,rfl,fun _ _=>rfl⟩
  ·cases hb
 ·simp only[VR,CR,Tr.e8]
  exact⟨⟨Nat.le_refl _,fun _=>⟨b0,off,rfl,rfl⟩⟩,y8.D5 rfl⟩
def FinC (e:Env) (w:World) (v:Value) (u:C) (f:Option Nat):Prop :=
 match u with
 | .att a=>f=none∧Rep e.S w v a
 | .nil=>f=none∧v = .slice none 0 0
 | .ownd t l=>(∃k,f=some k∧OwnA e.om k w [] v (.list t l))∨(f=none∧v = .slice none 0 0∧l () = [])
 | .box ds => ∃k b off,f=some k∧v = .pointer (some ⟨b,off,none⟩)∧e.om b=some (k,[])∧a6P e.S w b off ds
 | .unk=>f=none
 |_=>False
def a2m (e:Env) (w:World):List Value→List C→List (Option Nat)→Prop
 |[],[],[]=>True
 |v::vs,u::us,f::fl=>FinC e w v u f∧a2m e w vs us fl
 |_,_,_=>False
def FinV (e:Env) (w:World) (v:Value) (u:V) (fl:List (Option Nat)):Prop :=
 match u with
 | .one c => ∃f,fl = [f]∧FinC e w v c f∧y8 c v
 | .agg cs => ∃arr,v = .agg arr∧a2m e w arr.toList cs fl ∧ ∀u∈arr.toList,one u
 | .tup _=>False
def a3V (e:Env) (w:World):List Value→List V→List (Option Nat)→Prop
 |[],[],fl=>fl = []
 |v::vs,u::us,fl => ∃f1 f2,fl=f1++f2∧FinV e w v u f1∧a3V e w vs us f2
 |_,_,_=>False
structure Fw (w:World) (e:Env) (hp:Hp) (e':Env) (hp':Hp) (fl:List (Option Nat)):Prop where
 hr:HR e' hp' w
 sr:Stps e hp w e' hp' w
 om : ∀b,e.om b=none→e'.om b=none
 live : ∀k,some k∈fl→(hp.get k).2 ≠ .dead∧(∀cs,(hp.get k).2 ≠ .var true cs)∧(hp'.get k).2 = .dead
 dead : ∀k,(hp.get k).2 = .dead→(hp'.get k).2 = .dead
 nodup:fl.Pairwise fun x y => ∀k,x=some k→y≠some k
 keep : ∀k,(hp.get k).2 = .dead → ∀b q,e.om b=some (k,q)↔e'.om b=some (k,q)
 box : ∀k cs,(hp.get k).2 = .var true cs→hp'.get k=hp.get k ∧ ∀b q,e.om b=some (k,q)→e'.om b=some (k,q)
 sn : ∀b,e'.S b→e.S b∨e.om b≠none
theorem a6P.mono {S S':Nat→Prop} {b off:Nat} {ds:List C} (h:a6P S w b off ds) (hs : ∀b,S b→S' b):a6P S' w b off ds:=by
 obtain⟨arr,T,h1,h2,h3⟩:=h
 refine⟨arr,T,h1,h2,fun j d hd => ?_⟩
 obtain⟨a,u,g1,g2,g3,g4⟩:=h3 j d hd
 exact⟨a,u,g1,g2,g3.mono fun b hb=>⟨hs b hb,rfl⟩,g4⟩
theorem FinC.mono {e e':Env} {hp:Hp} (hk : ∀k,(hp.get k).2 = .dead → ∀b q,e.om b=some (k,q)→e'.om b=some (k,q)) (hS : ∀b,e.S b→e'.S b) {v:Value} {u:C} {f:Option Nat} (h:FinC e w v u f) (hf : ∀k,f=some k→(hp.get k).2 = .dead):FinC e' w v u f:=by
 cases u with
 |att a=>exact⟨h.1,h.2.mono fun b hb=>⟨hS b hb,rfl⟩⟩
 |nil=>exact h
 |ownd t l =>
  rcases h with ⟨k,rfl,h2⟩|h
  ·exact .inl ⟨k,rfl,h2.mono [] fun b r hb=>⟨hk k (hf k rfl) b _ hb,rfl⟩⟩
  ·exact .inr h
 |box ds =>
  obtain⟨k,b,off,rfl,h2,h3,h4⟩:=h
  exact⟨k,b,off,rfl,h2,hk k (hf k rfl) b _ h3,h4.mono hS⟩
 |unk=>exact h
 |_=>exact h.elim
theorem a2m.mono {e e':Env} {hp:Hp} (hk : ∀k,(hp.get k).2 = .dead → ∀b q,e.om b=some (k,q)→e'.om b=some (k,q)) (hS : ∀b,e.S b→e'.S b) : ∀ {vs:List Value} {us:List C} {fl:List (Option Nat)},a2m e w vs us fl→(∀k,some k∈fl→(hp.get k).2 = .dead)→a2m e' w vs us fl
 |[],[],[],_,_=>trivial
 |v::vs,u::us,f::fl,h,hf=>⟨h.1.mono hk hS fun k hk'=>hf k (by subst hk';simp),a2m.mono hk hS h.2 fun k hk'=>hf k (by simp[hk'])⟩
 |[],[],_::_,h,_=>h.elim
 |[],_::_,_,h,_=>h.elim
 |_::_,[],_,h,_=>h.elim
 |_::_,_::_,[],h,_=>h.elim
theorem FinV.mono {e e':Env} {hp:Hp} (hk : ∀k,(hp.get k).2 = .dead → ∀b q,e.om b=some (k,q)→e'.om b=some (k,q)) (hS : ∀b,e.S b→e'.S b) {v:Value} {u:V} {fl:List (Option Nat)} (h:FinV e w v u fl) (hf : ∀k,some k∈fl→(hp.get k).2 = .dead):FinV e' w v u fl:=by
 cases u with
 |one c =>
  obtain⟨f,rfl,h2,h3⟩:=h
  exact⟨f,rfl,h2.mono hk hS fun k hk'=>hf k (by subst hk';simp),h3⟩
 |agg cs =>
  obtain⟨arr,h1,h2,h3⟩:=h
  exact⟨arr,h1,h2.mono hk hS hf,h3⟩
 |tup _=>exact h.elim
theorem Fw.refl (h:HR e hp w):Fw w e hp e hp []:=⟨h,.refl _ _ _,fun _ h=>h,fun k hk=>by simp at hk,fun _ h=>h,.nil,fun _ _ _ _=>Iff.rfl,fun _ _ _=>⟨rfl,fun _ _ h=>h⟩,fun _ h => .inl h⟩
theorem Fw.idle (h:HR e hp w):Fw w e hp e hp [none]:=⟨h,.refl _ _ _,fun _ h=>h,fun k hk=>by simp at hk,fun _ h=>h,by simp,fun _ _ _ _=>Iff.rfl,fun _ _ _=>⟨rfl,fun _ _ h=>h⟩,fun _ h => .inl h⟩
theorem Fw.trans {e1 e2:Env} {hp1 hp2:Hp} {f1 f2:List (Option Nat)} (h1:Fw w e hp e1 hp1 f1) (h2:Fw w e1 hp1 e2 hp2 f2):Fw w e hp e2 hp2 (f1++f2):=by
 refine⟨h2.hr,h1.sr.trans h2.sr,fun b hb=>h2.om b (h1.om b hb),fun k hk => ?_,fun k hk=>h2.dead k (h1.dead k hk),?_,fun k hk b q=>(h1.keep k hk b q).trans (h2.keep k (h1.dead k hk) b q),fun k cs hk => ?_,fun b hb => ?_⟩
 ·rcases List.mem_append.1 hk with hk|hk
  ·obtain⟨g1,g2,g3⟩:=h1.live k hk
   exact⟨g1,g2,h2.dead k g3⟩
  ·obtain⟨g1,g2,g3⟩:=h2.live k hk
   exact⟨fun hd=>g1 (h1.dead k hd),fun cs hv=>g2 cs (by rw[(h1.box k cs hv).1];exact hv),g3⟩
 ·rw[List.pairwise_append]
  refine⟨h1.nodup,h2.nodup,fun x hx y hy k hxk hyk => ?_⟩
  subst hxk hyk
  exact(h2.live k hy).1 (h1.live k hx).2.2
 ·obtain⟨g1,g2⟩:=h1.box k cs hk
  obtain⟨g3,g4⟩:=h2.box k cs (by rw[g1];exact hk)
  exact⟨g3.trans g1,fun b q hb=>g4 b q (g2 b q hb)⟩
 ·rcases h2.sn b hb with h3|h3
  ·exact h1.sn b h3
  ·by_cases he:e.om b=none
   ·exact absurd (h1.om b he) h3
   ·exact .inr he
theorem Fw.kill (h:HR e hp w) {k ver:Nat} {c:Ch} (hx:hp.get k=(ver,c)) (hd:c ≠ .dead) (hv : ∀cs,c ≠ .var true cs) (hk:keeps (hp.get k) (ver+1,.dead)=true):Fw w e hp e (hp.set k (ver+1,.dead)) [some k]:=by
 have hst:=Q0 h k (ver+1) (by rw[hx];exact Nat.lt_succ_self _) hk
 refine⟨hst.1,.one hst,fun _ h=>h,fun k' hk' => ?_,fun k' hk' => ?_,by simp,fun _ _ _ _=>Iff.rfl,fun k' cs hk'=>⟨?_,fun _ _ h=>h⟩,fun _ h => .inl h⟩
 ·simp only[List.mem_cons,Option.some.injEq,List.not_mem_nil,or_false]at hk'
  subst hk'
  rw[hx,Tr.e8]
  exact⟨hd,hv,rfl⟩
 ·by_cases hkk:k'=k
  ·subst hkk;rw[Tr.e8]
  ·rw[Tr.j7 _ _ hkk];exact hk'
 ·have hkk:k'≠k:=fun hkk=>by
   subst hkk
   rw[hx]at hk'
   exact hv cs hk'
  rw[Tr.j7 _ _ hkk]
theorem Fw.frz (h:HR e hp w) {k ver g:Nat} {dp:Bool} {t:RT} {l:Th (List t.ty)} (hx:hp.get k=(ver,.row dp g t l)):Fw w e hp (e.freeze k) (hp.set k (ver,.ro t l)) [none]:=by
 have hst:=a1d h hx
 refine⟨hst.1,.one hst,fun b hb=>by simp[Env.freeze,hb],fun k' hk'=>by simp at hk',fun k' hk' => ?_,by simp,fun k' hk' b q => ?_,fun k' cs hk' => ?_,fun b hb => ?_⟩
 ·have hkk:k'≠k:=fun hkk=>by subst hkk;rw[hx]at hk';cases hk'
  rw[Tr.j7 _ _ hkk];exact hk'
 ·have hkk:k'≠k:=fun hkk=>by subst hkk;rw[hx]at hk';cases hk'
  simp only[Env.freeze]
  constructor
  ·intro hb;simp[hb,hkk]
  ·intro hb
   split at hb
   ·rename_i k2 q2 he
    split at hb
    ·cases hb
    ·cases hb;exact he
   ·cases hb
 ·have hkk:k'≠k:=fun hkk=>by subst hkk;rw[hx]at hk';cases hk'
  exact⟨Tr.j7 _ _ hkk,fun b q hb=>by simp[Env.freeze,hb,hkk]⟩
 ·simp only[Env.freeze]at hb
  rcases hb with hb|⟨q,hb⟩
  ·exact .inl hb
  ·exact .inr (by rw[hb];simp)
theorem VRs.c7B (h:Stps e hp w e' hp' w') : ∀ {vs:List Value} {xs:List V},VRs e hp w vs xs→VRs e' hp' w' vs xs
 |[],[],_=>by simp only[VRs]
 |v::vs,x::xs,hv=>by simp only[VRs]at *;exact⟨h.VR hv.1,VRs.c7B h hv.2⟩
 |[],_::_,hv=>by simp only[VRs]at hv
 |_::_,[],hv=>by simp only[VRs]at hv
theorem b0U (h:HR e hp w) {keep:Bool} {o:Option RT} {c:C} {v:Value} (hc:CR e hp w v c) (h1:y8 c v) {K:C→Hp→Prop} (hm:(finC keep o c).wp L hp K) : ∃e' hp' u f,Fw w e hp e' hp' [f]∧FinC e' w v u f∧y8 u v∧K u hp':=by
 unfold finC at hm
 split at hm
 ·rename_i k ver
  replace hm:=M.u4 hm
  have hch:=h.chs k
  simp only[CR]at hc
  have hone:one v:=h1
  split at hm
  ·rename_i v' dp g t l hx
   rw[hx]at hch hc
   split at hm
   ·rename_i hv
    subst hv
    have hEv:=hc.2 rfl
    split at hm
    ·split at hm
     ·rename_i hdp
      subst hdp
      replace hm:=M.D3 hm
      refine⟨e,_,.ownd t l,some k,Fw.kill h hx (by simp) (by simp) hm.1,.inl ⟨k,rfl,?_⟩,y8.D5 hone,hm.2⟩
      rw[hEv]
      exact hch
     ·exact hm.elim
    ·replace hm:=M.D3 hm
     have hw:=Fw.frz h hx
     refine⟨_,_,.att (.list t l),none,hw,⟨rfl,?_⟩,y8.D5 hone,hm.2⟩
     have:=hw.hr.chs k
     rw[Tr.e8]at this
     rw[hEv]
     exact this
   ·exact hm.elim
  ·rename_i v' t l hx
   rw[hx]at hch hc
   split at hm
   ·rename_i hv
    subst hv
    have hEv:=hc.2 rfl
    refine⟨e,hp,.att (.list t l),none,Fw.idle h,⟨rfl,?_⟩,y8.D5 hone,hm⟩
    rw[hEv]
    exact hch
   ·exact hm.elim
  ·exact hm.elim
 ·rename_i a
  simp only[CR]at hc
  refine⟨e,hp,.att (d1O a),none,Fw.idle h,⟨rfl,?_⟩,h1,hm⟩
  cases a with
  |bool b=>exact hc.same (.bool _ _ rfl)
  |_=>exact hc
 ·simp only[CR]at hc
  split at hm
  ·rename_i t
   split at hm
   ·exact⟨e,hp,.ownd t fun _ => [],none,Fw.idle h,.inr ⟨rfl,hc,rfl⟩,h1,hm⟩
   ·exact⟨e,hp,.att (.list t fun _ => []),none,Fw.idle h,⟨rfl,by rw[hc];exact Rep.c1L t⟩,h1,hm⟩
  ·exact⟨e,hp,.nil,none,Fw.idle h,⟨rfl,hc⟩,h1,hm⟩
 ·exact⟨e,hp,.unk,none,Fw.idle h,rfl,trivial,hm⟩
theorem c0a (h:HR e hp w) {keep:Bool} {os:List (Option RT)} {c:C} {v:Value} (hc:CR e hp w v c) (h1:y8 c v) {K:C→Hp→Prop} (hm:(finB keep os c).wp L hp K) : ∃e' hp' u f,Fw w e hp e' hp' [f]∧FinC e' w v u f∧y8 u v∧K u hp':=by
 unfold finB at hm
 split at hm
 ·rename_i k ver j
  replace hm:=M.u4 hm
  simp only[CR]at hc
  split at hm
  ·rename_i v' cs hx
   have hmg:=M.p4 hm
   clear hm
   obtain⟨hg,hm⟩:=hmg
   simp only[Bool.and_eq_true,beq_iff_eq]at hg
   obtain⟨rfl,rfl⟩:=hg
   replace hm:=M.D3 hm
   obtain⟨hk,hm⟩:=hm
   rw[M.wp_bind]at hm
   obtain⟨hat,hm⟩:=b2I _ _ hm
   have hch:=h.chs k
   rw[hx]at hch hc
   obtain⟨b,off,g1,g2,g3⟩:=a6R hch hat
   obtain⟨b',off',g4,g5⟩:=hc.2 rfl
   rw[g1]at g4
   cases g4
   exact⟨e,_,.box cs,some k,Fw.kill h hx (by simp) (by simp) hk,⟨k,b,off,rfl,by simpa using g5,g2,g3⟩,y8.D5 h1,hm⟩
  ·exact hm.elim
 ·exact b0U h hc h1 hm
theorem a1v {keep:Bool} : ∀(cs:List C) (os:List (Option RT)) (vs:List Value) (e:Env) (hp:Hp) (K:List C→Hp→Prop),HR e hp w→CRs e hp w vs cs→(∀u∈vs,one u)→(b0T keep os cs).wp L hp K → ∃e' hp' us fl,Fw w e hp e' hp' fl∧a2m e' w vs us fl∧K us hp'
 |[],os,vs,e,hp,K,h,hc,_,hm=>by
  cases vs with
  |nil=>cases os<;>exact⟨e,hp,[],[],Fw.refl h,trivial,hm⟩
  |cons _ _=>simp only[CRs]at hc
 |c::cs,os,vs,e,hp,K,h,hc,h1,hm=>by
  cases vs with
  |nil=>simp only[CRs]at hc
  |cons v vs =>
   simp only[CRs]at hc
   have go : ∀o os,((finC keep o c).bind fun x=>(b0T keep os cs).bind fun r=>M.ret (x::r)).wp L hp K → ∃e' hp' us fl,Fw w e hp e' hp' fl∧a2m e' w (v::vs) us fl∧K us hp':=by
    intro o os hm
    rw[M.wp_bind]at hm
    obtain⟨e1,hp1,u,f,F1,hu,_,hm⟩:=b0U h hc.1 (y8.D5 (h1 v (by simp))) hm
    rw[M.wp_bind]at hm
    obtain⟨e2,hp2,us,fl,F2,hus,hm⟩:=a1v cs os vs e1 hp1 _ F1.hr (F1.sr.CRs hc.2) (fun u hu=>h1 u (by simp[hu])) hm
    exact⟨e2,hp2,u::us,f::fl,F1.trans F2,⟨hu.mono (fun k hk b q=>(F2.keep k hk b q).1) (fun b hb=>F2.sr.S hb) fun k hk=>(F1.live k (by subst hk;simp)).2.2,hus⟩,hm⟩
   cases os with
   |nil=>exact go none [] hm
   |cons o os=>exact go o os hm
theorem b9Z (h:HR e hp w) {keep:Bool} {os:List (Option RT)} {x:V} {v:Value} (hv:VR e hp w v x) {K:V→Hp→Prop} (hm:(finV keep os x).wp L hp K) : ∃e' hp' u fl,Fw w e hp e' hp' fl∧FinV e' w v u fl∧K u hp':=by
 unfold finV at hm
 split at hm
 ·simp only[VR]at hv
  rw[M.wp_bind]at hm
  obtain⟨e1,hp1,u,f,F1,hu,h1,hm⟩:=c0a h hv.1 hv.2 hm
  exact⟨e1,hp1,.one u,[f],F1,⟨f,rfl,hu,h1⟩,hm⟩
 ·simp only[VR]at hv
  obtain⟨arr,h1,h2,h3⟩:=hv
  rw[M.wp_bind]at hm
  obtain⟨e1,hp1,us,fl,F1,hus,hm⟩:=a1v _ _ _ _ _ _ h h2 h3 hm
  exact⟨e1,hp1,.agg us,fl,F1,⟨arr,h1,hus,h3⟩,hm⟩
 ·exact hm.elim
theorem a1u {keep:Bool} : ∀(xs:List V) (oss:List (List (Option RT))) (vs:List Value) (e:Env) (hp:Hp) (K:List V→Hp→Prop),HR e hp w→VRs e hp w vs xs→(a4I keep oss xs).wp L hp K → ∃e' hp' us fl,Fw w e hp e' hp' fl∧a3V e' w vs us fl∧K us hp'
 |[],oss,vs,e,hp,K,h,hc,hm=>by
  cases vs with
  |nil=>cases oss<;>exact⟨e,hp,[],[],Fw.refl h,rfl,hm⟩
  |cons _ _=>simp only[VRs]at hc
 |x::xs,oss,vs,e,hp,K,h,hc,hm=>by
  cases vs with
  |nil=>simp only[VRs]at hc
  |cons v vs =>
   simp only[VRs]at hc
   have go : ∀os oss,((finV keep os x).bind fun x=>(a4I keep oss xs).bind fun r=>M.ret (x::r)).wp L hp K → ∃e' hp' us fl,Fw w e hp e' hp' fl∧a3V e' w (v::vs) us fl∧K us hp':=by
    intro os oss hm
    rw[M.wp_bind]at hm
    obtain⟨e1,hp1,u,f1,F1,hu,hm⟩:=b9Z h hc.1 hm
    rw[M.wp_bind]at hm
    obtain⟨e2,hp2,us,f2,F2,hus,hm⟩:=a1u xs oss vs e1 hp1 _ F1.hr (VRs.c7B F1.sr hc.2) hm
    exact⟨e2,hp2,u::us,f1++f2,F1.trans F2,⟨f1,f2,rfl,hu.mono (fun k hk b q=>(F2.keep k hk b q).1) (fun b hb=>F2.sr.S hb) fun k hk=>(F1.live k hk).2.2,hus⟩,hm⟩
   cases oss with
   |nil=>exact go [] [] hm
   |cons os oss=>exact go os oss hm
end
end Go.Sx
