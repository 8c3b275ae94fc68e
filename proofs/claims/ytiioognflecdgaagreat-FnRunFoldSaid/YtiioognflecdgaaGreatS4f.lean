/-
  Contracts of functions that turn a struct behind a pointer: it comes in as data, and comes back as data.
-/
import Derived.Test.YtiioognflecdgaaGreatS4e
set_option linter.unusedVariables false
set_option linter.unusedSimpArgs false
namespace Go.Sx
structure Io where
 ptr:PT
 keep:Bool
 pars:List PT
 rets:List (List (Option RT))
 run:Th ptr.ty→Args pars→Rn (V×Th ptr.ty)
def PT.sz:PT→Nat
 | .int _=>1
 | .bool=>1
 | .row t=>t.size
 | .map=>2
 | .ord=>5
 | .arb=>2
 | .one=>5
 | .book=>1
 | .list _=>1
def a2W:List C→Option (List A)
 |[]=>some []
 | .ownd t l::r=>match a2W r with
  |some as=>some (.list t l::as)
  |none=>none
 | .att a::r=>match a with
  | .list _ _=>none
  |a=>match a2W r with
   |some as=>some (a::as)
   |none=>none
 |_=>none
def b5f:Nat→List C→List Nat
 |_,[] => []
 |kb,.own k _::r=>k::b5f (kb+1) r
 |kb,_::r=>kb::b5f (kb+1) r
def b6F:List Nat→List C→M (List C)
 |_,[] => .ret []
 |[],_::_ => .fail
 |k::ks,c::cs=>(outC k c).bind fun x=>(b6F ks cs).bind fun r => .ret (x::r)
def unks (n:Nat):List C:=List.replicate n .unk
def b5c (s:Io) (kb:Nat) (args:List V):M V :=
 match args with
 | .one (.ptr k v j)::args' => .get k fun e=>match e with
  |(v',.var _ cs)=>M.guard (v==v'&&decide (j+s.ptr.sz≤cs.length)) ((b0T true s.ptr.nils ((cs.drop j).take s.ptr.sz)).bind fun us=>match a2W us with
   |some as=>match s.ptr.decA as with
    |some x => .get k fun e=>match e with
     |(v2,.var bx2 cs2)=>M.guard (v==v2&&decide (j+s.ptr.sz≤cs2.length)) (.set k (v,.var bx2 (putAt cs2 j (unks s.ptr.sz))) ((a7x s.pars args').bind fun ins=>(s.run x ins).lift.bind fun r=>M.guard (!r.1.shares) <|
       (b6F (b5f (kb+128) ((cs.drop j).take s.ptr.sz)) ((s.ptr.encA r.2).map (outA true))).bind fun ds => .get k fun e=>match e with
        |(v3,.var bx3 cs3)=>M.guard (v==v3&&decide (j+ds.length≤cs3.length)) (.set k (v,.var bx3 (putAt cs3 j ds)) (outV kb r.1))
        |_ => .fail))
     |_ => .fail
    |none => .fail
   |none => .fail)
  |_ => .fail
 |_ => .fail
def b4G (s:Io) (u:V) (K:V×Th s.ptr.ty→Prop) (hp:Hp):Prop :=
 match hp.get 0 with
 |(_,.var _ cs)=>(b0T true s.ptr.nils cs).wp ⟨[],[]⟩ hp fun ds _=>match a2W ds with
  |some as=>match s.ptr.decA as with
   |some x=>K (u,x)
   |none=>False
  |none=>False
 |_=>False
def d1T (ctx:Ctx) (rs:List ResultVar) (s:Io) (K:V×Th s.ptr.ty→Prop) (e:Ex) (σ : St):Prop :=
 match e with
 | .exit _=>False
 |_=>((K8 rs ctx σ.tm).bind fun vs=>a4I s.keep s.rets vs).wp ⟨[],[]⟩ σ.hp fun us hp=>b4G s (tupV us) K hp
def c5F (E:Env0) (n f:Nat) (fn:Func) (s:Io) (x:Th s.ptr.ty) (ins:Args s.pars) (K:V×Th s.ptr.ty→Prop):Prop :=
 match fn.body with
 |some c=>if !decide (s.pars.length+1≤fn.ntmps)then False else
   (b6F (b5f 1 ((s.ptr.encA x).map (outA true))) ((s.ptr.encA x).map (outA true))).wp ⟨[],[]⟩ (Tr.set .leaf 0 (1,.var true (unks s.ptr.sz))) fun ds hp=>if !decide (ds.length=s.ptr.sz)then False else
    vc (E.ctx f 64 fn.ntmps) ⟨[],[]⟩ (a3g E ⟨[],[]⟩ n) c ⟨a1x 0 (.one (.ptr 0 1 0)::a0v s.pars ins),hp.set 0 (1,.var true ds),[]⟩ (d1T (E.ctx f 0 0) fn.results.toList s K)
 |none=>False
def OkPt (p:PT) (x:Th p.ty):Prop := ∀a∈p.encA x,OkA a
def b3o (E:(Nat→Nat→Option Ann)→(Nat→Nat→Option Ann)→Env0) (f:Nat) (fn:Func) (s:Io):Prop := ∀x ins K,OkPt s.ptr x→b5k s.pars ins→(s.run x ins).wp K → ∃an cut n,c5F (E an cut) n f fn s x ins K
section
variable {P:Program} {ctx:Ctx} {B:Base} {e e' ef:Env} {a:Act} {w w':World} {σ τ : St} {L:Locks} {hp hp':Hp} {N:Nat→Prop}
theorem a6E {o:Nat×Ch} {v v':Nat} {bx:Bool} {cs ds:List C} (h:keeps o (v',.var bx ds)=true) (hx:o=(v,.var bx cs)):fixB bx cs ds=true:=by
 cases bx with
 |false=>rfl
 |true =>
  rw[hx]at h
  simp only[keeps,Bool.and_eq_true]at h
  exact h.2
theorem b9F {n:Nat} {ds:List C} (h:ds.length=(unks n).length):X4 (unks n) ds=true:=b0y h fun i c hc hb=>by
 have:=List.mem_of_getElem? hc
 simp[unks]at this
 rw[this.2]at hb
 cases hb
theorem a2u (h:HR e hp w) {k ver:Nat} {bx:Bool} {cs ds:List C} (hx:hp.get k=(ver,.var bx cs)) (hlen:ds.length=cs.length) (hc : ∀b off arr T,e.E k = .pointer (some ⟨b,off,none⟩)→w.heap[b]? = some (.cells arr T (0,0)) → ∀(j:Nat) c v,ds[j]? = some c→arr[off+j]? = some v→CR e hp w v c) (hkb:fixB bx cs ds=true) :
  Stp e hp w e (hp.set k (ver,.var bx ds)) w:=by
 have hsr:SR e hp w e (hp.set k (ver,.var bx ds)) w:=⟨fun b hb=>⟨hb,rfl⟩,fun k'=>by
  by_cases hkk:k'=k
  ·subst hkk
   refine .upd (by rw[Tr.e8,hx]) rfl ?_
   rw[Tr.e8,hx]
   exact .var _ _ _
  ·exact .same (Tr.j7 _ _ hkk) rfl fun b q hb=>⟨hb,rfl⟩⟩
 refine⟨⟨fun k' => ?_,h.sOk,h.oOk⟩,hsr,⟨rfl,rfl,rfl,fun _ h => .inl h,Nat.le_refl _,fun b hb ho=>⟨rfl,ho⟩,fun b k' off n cs0 arr T h1 h2 h3 h4 h5 => ?_⟩⟩
 ·by_cases hkk:k'=k
  ·subst hkk
   rw[Tr.e8]
   have hch:=h.chs k'
   rw[hx]at hch
   obtain⟨b,off,arr,T,g1,g2,g3,g4,g5⟩:=hch
   refine⟨b,off,arr,T,g1,g2,g3,by rw[hlen];exact g4,fun j c hj => ?_⟩
   have hjl:j<cs.length:=by rw[←hlen];exact(List.getElem?_eq_some_iff.1 hj).1
   obtain⟨v,h6,h7,h8⟩:=g5 j _ (List.getElem?_eq_getElem hjl)
   exact⟨v,h6,CR.mono hsr.S hsr.k _ _ (hc b off arr T g1 g3 j c v hj h6),h8⟩
  ·rw[Tr.j7 _ _ hkk]
   exact ChR.mono hsr.S hsr.k rfl (fun b q hb=>⟨hb,rfl⟩) (h.chs k')
 ·by_cases hkk:k'=k
  ·subst hkk
   rw[hx]at h3
   cases h3
   exact⟨h1,rfl,⟨_,by rw[Tr.e8],hkb⟩,arr,h5,rfl,fun _ _=>rfl⟩
  ·exact⟨h1,rfl,⟨cs0,by rw[Tr.j7 _ _ hkk];exact h3,D7 cs0⟩,arr,h5,rfl,fun _ _=>rfl⟩
theorem a3A : ∀(cs:List C) (ks:List Nat) (vs:List Value) (fl:List (Option Nat)) (e:Env) (hp:Hp) (K:List C→Hp→Prop),HR e hp w→a2m ef w vs cs fl→(∀u∈vs,one u)→Dis N w ef fl e→fl.Pairwise (fun x y => ∀k,x=some k→y≠some k) →
  (∀c∈cs,a4P c=false)→(b6F ks cs).wp L hp K → ∃e' hp' ds,GS N w ef fl e hp e' hp'∧CRs e' hp' w vs ds∧K ds hp'
 |[],ks,vs,fl,e,hp,K,h,hc,_,_,_,_,hm=>by
  cases vs with
  |nil=>cases fl with
   |nil =>
    cases ks<;>exact⟨e,hp,[],GS.refl h,by simp only[CRs],hm⟩
   |cons _ _=>exact hc.elim
  |cons _ _=>exact hc.elim
 |c::cs,[],vs,fl,e,hp,K,h,hc,h1,hd,hpw,hS,hm=>hm.elim
 |c::cs,kb::ks,vs,fl,e,hp,K,h,hc,h1,hd,hpw,hS,hm=>by
  cases vs with
  |nil=>exact hc.elim
  |cons v vs=>cases fl with
   |nil=>exact hc.elim
   |cons f fl =>
    simp only[b6F]at hm
    rw[M.wp_bind]at hm
    obtain⟨e1,hp1,d,G1,hcd,_,hm⟩:=a4U (N:=N) h hc.1 (y8.D5 (h1 v (by simp))) (fun k hk b q hb=>hd k (by simp at hk;subst hk;simp) b q hb) (fun hs=>by rw[hS c (by simp)]at hs;cases hs) hm
    rw[M.wp_bind]at hm
    obtain⟨e2,hp2,ds,G2,hds,hm⟩:=a3A cs ks vs fl e1 hp1 _ G1.hr hc.2 (fun u hu=>h1 u (by simp[hu])) (Dis.step (f1 := [f]) (f2:=fl) hd G1 hpw) (List.pairwise_cons.1 hpw).2 (fun c hc=>hS c (by simp[hc])) hm
    refine⟨e2,hp2,d::ds,G1.trans G2,?_,hm⟩
    have hv1:VR e1 hp1 w v (.one d):=by simp only[VR];exact⟨hcd,y8.D5 (h1 v (by simp))⟩
    have hv2:=G2.vr _ _ hv1
    simp only[VR]at hv2
    simp only[CRs]
    exact⟨hv2.1,hds⟩
theorem a1T : ∀(us:List C) (as bs:List A) (vs:List Value) (fl:List (Option Nat)),a2W us=some as→Same as bs→a2m e w vs us fl→a2m e w vs (bs.map (outA true)) fl
 |[],as,bs,vs,fl,ha,hs,hf=>by
  cases ha
  cases hs
  exact hf
 |u::us,as,bs,vs,fl,ha,hs,hf=>by
  cases vs with
  |nil=>exact hf.elim
  |cons v vs=>cases fl with
   |nil=>exact hf.elim
   |cons f fl =>
    have hu:=hf.1
    cases u with
    |ownd t l =>
     simp only[a2W]at ha
     split at ha
     ·rename_i as' has
      cases ha
      cases hs with
      |cons h1 h2 =>
       refine⟨?_,a1T us as' _ vs fl has h2 hf.2⟩
       cases h1 with
       |list t l m he =>
        obtain rfl:l=m:=funext fun _=>he
        exact hu
     ·cases ha
    |att a =>
     cases a with
     |list _ _=>cases ha
     |int kd n =>
      simp only[a2W]at ha
      split at ha
      ·rename_i as' has
       cases ha
       cases hs with
       |cons h1 h2 =>
        refine⟨?_,a1T us as' _ vs fl has h2 hf.2⟩
        cases h1 with
        |int _ m n he=>exact⟨hu.1,hu.2.same (.int _ _ _ he)⟩
      ·cases ha
     |bool b =>
      simp only[a2W]at ha
      split at ha
      ·rename_i as' has
       cases ha
       cases hs with
       |cons h1 h2 =>
        refine⟨?_,a1T us as' _ vs fl has h2 hf.2⟩
        cases h1 with
        |bool _ c he=>exact⟨hu.1,hu.2.same (.bool _ _ he)⟩
      ·cases ha
    |_=>cases ha
theorem a5Y : ∀(us:List C) (as:List A) (vs:List Value) (fl:List (Option Nat)),a2W us=some as→a2m e w vs us fl → ∀a∈as,OkA a
 |[],as,vs,fl,ha,hf,a,hm=>by
  cases ha
  cases hm
 |u::us,as,vs,fl,ha,hf,a,hm=>by
  cases vs with
  |nil=>exact hf.elim
  |cons v vs=>cases fl with
   |nil=>exact hf.elim
   |cons f fl =>
    have hu:=hf.1
    cases u with
    |ownd t l =>
     simp only[a2W]at ha
     split at ha
     ·rename_i as' has
      cases ha
      rcases List.mem_cons.1 hm with rfl|hm
      ·rcases hu with ⟨k,_,ho⟩|⟨_,_,hl⟩
       ·exact(ho.rep (S:=fun _=>True) (w':=w) fun b r hb=>⟨trivial,rfl⟩).ok
       ·exact(Rep.nil (S:=fun _=>True) (w:=w) t l hl).ok
      ·exact a5Y us as' vs fl has hf.2 a hm
     ·cases ha
    |att x =>
     cases x with
     |list _ _=>cases ha
     |int kd n =>
      simp only[a2W]at ha
      split at ha
      ·rename_i as' has
       cases ha
       rcases List.mem_cons.1 hm with rfl|hm
       ·exact hu.2.ok
       ·exact a5Y us as' vs fl has hf.2 a hm
      ·cases ha
     |bool b =>
      simp only[a2W]at ha
      split at ha
      ·rename_i as' has
       cases ha
       rcases List.mem_cons.1 hm with rfl|hm
       ·exact hu.2.ok
       ·exact a5Y us as' vs fl has hf.2 a hm
      ·cases ha
    |_=>cases ha
theorem OkA.same {a b:A} (h:OkA a) (hs:A.same a b):OkA b:=by
 cases hs with
 |int k m n e=>cases h with
  |int _ _ h1 h2=>rw[e]at h1 h2;exact .int k n h1 h2
 |bool b c e=>exact .bool c
 |list t l m e =>
  obtain rfl:l=m:=funext fun _=>e
  exact h
theorem c0R : ∀ {as bs:List A},Same as bs→(∀a∈as,OkA a) → ∀a∈bs,OkA a
 |_,_,.nil,_,a,ha=>by cases ha
 |_,_,.cons h1 h2,h,a,ha=>by
  rcases List.mem_cons.1 ha with rfl|ha
  ·exact(h _ (.head _)).same h1
  ·exact c0R h2 (fun x hx=>h x (.tail _ hx)) a ha
theorem a6a (as:List A) : ∀c∈as.map (outA true),a4P c=false:=by
 intro c hc
 obtain⟨a,_,rfl⟩:=List.mem_map.1 hc
 cases a<;>rfl
def b3w (w:World) (S:Nat→Prop) (om0:Nat→Option (Nat×Path)) (b0 off n:Nat):Base:=⟨w,S,om0,fun b=>if b=b0 then some (0,off,n)else none,fun _ _=>False,[]⟩
theorem c2Q {S:Nat→Prop} {b0 off n T:Nat} {arr:Array Value} (hS : ∀b,S b→b<w.heap.size∧b≠b0) (hb:w.heap[b0]? = some (.cells arr T (0,0))) (hl:off+n≤arr.size) (h1 : ∀j v,j<n→arr[off+j]? = some v→one v) :
  HR (R5 S b0 off) (Tr.set .leaf 0 (1,.var true (unks n))) w:=by
 have hlt:b0<w.heap.size:=(Array.getElem?_eq_some_iff.1 hb).1
 refine⟨fun k => ?_,fun b hb=>⟨by simp[R5,(hS b hb).2],(hS b hb).1⟩,fun b x hb => ?_⟩
 ·rw[Tr.W4]
  split
  ·rename_i hk
   subst hk
   refine⟨b0,off,arr,T,rfl,by simp[R5],hb,by simpa [unks]using hl,fun j c hc => ?_⟩
   have hj:j<n:=by
    have:=(List.getElem?_eq_some_iff.1 hc).1
    simpa [unks]using this
   obtain rfl:c = .unk:=by
    have:=List.mem_of_getElem? hc
    simp[unks]at this
    exact this.2
   have hja:off+j<arr.size:=by omega
   exact⟨arr[off+j],by rw[Array.getElem?_eq_getElem hja],by simp only[CR],h1 j _ hj (by rw[Array.getElem?_eq_getElem hja])⟩
  ·trivial
 ·simp only[R5]at hb
  split at hb
  ·rename_i he;rw[he];exact hlt
  ·cases hb
def Env.drop (e:Env) (fl:List (Option Nat)):Env:=⟨e.S,fun b=>match e.om b with
 |some (k,q)=>if some k∈fl then none else some (k,q)
 |none=>none,e.E⟩
theorem a7I {fl:List (Option Nat)} {b:Nat} (h:e.om b=none):(e.drop fl).om b=none:=by simp[Env.drop,h]
theorem c2v {fl:List (Option Nat)} {b k:Nat} {q:Path} (h:e.om b=some (k,q)) (hk:some k∈fl):(e.drop fl).om b=none:=by simp[Env.drop,h,hk]
theorem a6G {fl:List (Option Nat)} {b k:Nat} {q:Path} (h:e.om b=some (k,q)) (hk:some k ∉ fl):(e.drop fl).om b=some (k,q):=by simp[Env.drop,h,hk]
theorem b3a {fl:List (Option Nat)} {b:Nat} {x:Nat×Path} (h:(e.drop fl).om b=some x):e.om b=some x∧some x.1 ∉ fl:=by
 cases ho:e.om b with
 |none=>rw[a7I ho]at h;cases h
 |some y =>
  obtain⟨k,q⟩:=y
  by_cases hk:some k∈fl
  ·rw[c2v ho hk]at h;cases h
  ·rw[a6G ho hk]at h
   cases h
   exact⟨rfl,hk⟩
theorem c3b (h:HR e hp w) {fl:List (Option Nat)} (hfl : ∀k,some k∈fl→(hp.get k).2 = .dead) {k ver b0 off j n T:Nat} {bx:Bool} {cs:List C} {arr arr':Array Value} (hx:hp.get k=(ver,.var bx cs)) (hE:e.E k = .pointer (some ⟨b0,off,none⟩)) (hom:e.om b0=some (k,[]))
  (hos:w'.os=w.os) (htp:w'.tape=w.tape) (hou:w'.output=w.output) (hsz:w.heap.size≤w'.heap.size) (hold : ∀b,b<w.heap.size→b≠b0→(∀k q,e.om b=some (k,q)→some k ∉ fl)→w'.heap[b]? = w.heap[b]?)
  (hb:w.heap[b0]? = some (.cells arr T (0,0))) (hb':w'.heap[b0]? = some (.cells arr' T (0,0))) (has:arr'.size=arr.size) (hout : ∀o,(o<off+j∨off+j+n≤o)→arr'[o]? = arr[o]?) (hjn:j+n≤cs.length)
  (hunk : ∀i c,j≤i→i<j+n→cs[i]? = some c→c = .unk) (hone : ∀i v,i<n→arr'[off+j+i]? = some v→one v):Stp e hp w (e.drop fl) hp w':=by
 have hkn:some k ∉ fl:=fun hk=>by
  have:=hfl k hk
  rw[hx]at this
  cases this
 have hsame : ∀b k2 q,e.om b=some (k2,q)→k2≠k→some k2 ∉ fl→(e.drop fl).om b=some (k2,q)∧w'.heap[b]? = w.heap[b]? := fun b k2 q hb2 hne hn=>⟨a6G hb2 hn,hold b (h.oOk b _ hb2) (fun he=>by
   subst he
   rw[hom]at hb2
   cases hb2
   exact hne rfl) fun k3 q3 h3=>by
    rw[hb2]at h3
    cases h3
    exact hn⟩
 have hsr:SR e hp w (e.drop fl) hp w':=by
  refine⟨fun b hb2=>⟨hb2,hold b (h.sOk b hb2).2 (fun he=>by
   subst he
   rw[(h.sOk _ hb2).1]at hom
   cases hom) fun k q hq=>by rw[(h.sOk b hb2).1]at hq;cases hq⟩,fun k2 => ?_⟩
  by_cases hk:k2=k
  ·subst hk
   exact .upd rfl rfl (by rw[hx];exact .var _ _ _)
  ·by_cases hf:some k2∈fl
   ·exact .upd rfl rfl (by rw[hfl k2 hf];exact .dead _)
   ·exact .same rfl rfl fun b q hb2=>hsame b k2 q hb2 hk hf
 refine⟨h.step hsr (fun k2 => ?_) (fun b hb2=>⟨a7I (h.sOk b hb2).1,Nat.lt_of_lt_of_le (h.sOk b hb2).2 hsz⟩) (fun b y hb2=>Nat.lt_of_lt_of_le (h.oOk b _ (b3a hb2).1) hsz),hsr,⟨hos,htp,hou,fun b hb2 => .inl hb2,hsz,fun b hb2 ho=>⟨hold b hb2 (fun he=>by
   subst he
   rw[hom]at ho
   cases ho) (fun k q hq=>by rw[ho]at hq;cases hq),a7I ho⟩,fun b k2 off2 n2 cs2 arr2 T2 h1 h2 h3 h4 h5 => ?_⟩⟩
 ·by_cases hk:k2=k
  ·subst hk
   right
   have hch:=h.chs k2
   rw[hx]at hch ⊢
   obtain⟨b,off2,arr2,T2,g1,g2,g3,g4,g5⟩:=hch
   rw[hE]at g1
   cases g1
   rw[hb]at g3
   cases g3
   refine⟨b0,off,arr',T,hE,a6G hom hkn,hb',by rw[has];exact g4,fun i c hc => ?_⟩
   obtain⟨v,h6,h7,h8⟩:=g5 i c hc
   by_cases hi:j≤i∧i<j+n
   ·obtain rfl:=hunk i c hi.1 hi.2 hc
    have hil:off+i<arr'.size:=by
     rw[has]
     exact(Array.getElem?_eq_some_iff.1 h6).1
    refine⟨arr'[off+i],by rw[Array.getElem?_eq_getElem hil],by simp only[CR],hone (i-j) _ (by omega) ?_⟩
    rw[show off+j+(i-j)=off+i by omega,Array.getElem?_eq_getElem hil]
   ·refine⟨v,by rw[hout _ (by omega)];exact h6,CR.mono hsr.S hsr.k _ _ h7,h8⟩
  ·by_cases hf:some k2∈fl
   ·right
    rw[hfl k2 hf]
    trivial
   ·left
    exact⟨rfl,rfl,fun b q hb2=>hsame b k2 q hb2 hk hf⟩
 ·by_cases hk:k2=k
  ·subst hk
   rw[hE]at h2
   cases h2
   rw[hb]at h5
   cases h5
   rw[hx]at h3
   cases h3
   exact⟨a6G h1 hkn,rfl,⟨_,by rw[hx],D7 _⟩,arr',hb',has,fun o ho=>hout o (by
    rcases ho with ho|ho|⟨i,c,rfl,hc,hbb⟩
    ·omega
    ·omega
    ·by_cases hin:j≤i∧i<j+n
     ·rw[hunk i c hin.1 hin.2 hc]at hbb
      cases hbb
     ·omega)⟩
  ·have hf:some k2 ∉ fl:=fun hf=>by
    rw[hfl k2 hf]at h3
    cases h3
   obtain⟨g1,g2⟩:=hsame b k2 [] h1 hk hf
   exact⟨g1,rfl,⟨cs2,h3,D7 cs2⟩,arr2,by rw[g2];exact h5,rfl,fun _ _=>rfl⟩
theorem a3V.mono {e e':Env} {hp:Hp} (hk : ∀k,(hp.get k).2 = .dead → ∀b q,e.om b=some (k,q)→e'.om b=some (k,q)) (hS : ∀b,e.S b→e'.S b) : ∀ {vs:List Value} {us:List V} {fl:List (Option Nat)},a3V e w vs us fl→(∀k,some k∈fl→(hp.get k).2 = .dead)→a3V e' w vs us fl
 |[],[],_,h,_=>h
 |v::vs,u::us,fl,h,hf=>by
  obtain⟨f1,f2,rfl,h1,h2⟩:=h
  exact⟨f1,f2,rfl,h1.mono hk hS fun k hk'=>hf k (List.mem_append_left _ hk'),a3V.mono hk hS h2 fun k hk'=>hf k (List.mem_append_right _ hk')⟩
 |[],_::_,_,h,_=>h.elim
 |_::_,[],_,h,_=>h.elim
def b3p (B:Base) (s:Io) (K:V×Th s.ptr.ty→Prop) (en:Ending) (w':World):Prop := ∃v vs us e' hp',en = .returned v∧HR e' hp' w'∧FR B e' hp' w'∧VRs e' hp' w' us vs∧(v=if h:us.toArray.size=1 then us.toArray[0]else .tuple us.toArray) ∧
 (a4I s.keep s.rets vs).wp ⟨[],[]⟩ hp' fun us hp=>b4G s (tupV us) K hp
theorem fn_runIo {E:Env0} (hE:EnvOk P E) {n f off:Nat} {fn:Func} {c:Code} (hfn:P.funcs[f]? = some fn) (hc:fn.body=some c) (hbo:a0V (E.plan f) fn=true) {s:Io} {K:V×Th s.ptr.ty→Prop} {hp0:Hp} {args:List V} {vals:List Value} {e0:Env}
  (hv:vc (E.ctx f off fn.ntmps) ⟨[],[]⟩ (a3g E ⟨[],[]⟩ n) c ⟨a1x 0 args,hp0,[]⟩ (d1T (E.ctx f 0 0) fn.results.toList s K)) (hlen:args.length≤fn.ntmps) (hup:B.up = []) (h:HR e0 hp0 w) (hf:FR B e0 hp0 w) (ha:VRs e0 hp0 w vals args) :
  Calls P f vals.toArray w (b3p B s K):=by
 have hbo':codeOk (E.plan f) c=true:=by simpa [a0V,hc]using hbo
 have hl:=ha.length
 have hrel:Rel B e0 w (vals.toArray++Array.replicate (fn.ntmps-vals.toArray.size) undef) ⟨a1x 0 args,hp0,[]⟩ :=
  ⟨h,hf,by rw[hup];trivial,fun t=>b1n ha _ t⟩
 refine calls_of_wp hfn hc (wp_mono (a8U hE.mix (ctx:=E.ctx f off fn.ntmps) hE.spec (a2s hE n) hE.ty c _ w e0 _ _ hbo' rfl ?_ hrel hv) fun ex a' w' hq => ?_)
 ·simp only[Array.size_append,List.size_toArray,Array.size_replicate,Env0.ctx]
  omega
 ·have fin:At B (E.ctx f off fn.ntmps).nt (fun σ'=>((K8 fn.results.toList (E.ctx f 0 0) σ'.tm).bind fun vs=>a4I s.keep s.rets vs).wp ⟨[],[]⟩ σ'.hp fun us hp=>b4G s (tupV us) K hp) a' w' →
    a'.defers = [] ∧ ∃v,(results fn a'.tmps).run P w' = .ok v w'∧b3p B s K (.returned v) w':=by
   rintro⟨hA,_,e',σ',h',hm'⟩
   rw[M.wp_bind]at hm'
   obtain⟨us,vs,r1,r2,r3⟩:=a5M (ctx:=E.ctx f 0 0) hE.ty h' hm'
   exact⟨hA,_,r1,_,vs,us,e',σ'.hp,rfl,h'.hr,h'.fr,r2,rfl,r3⟩
  cases ex with
  |normal=>exact fin hq
  |ret=>exact fin hq
  |exit id=>obtain⟨_,_,_,_,_,hm'⟩:=hq;exact hm'.elim
  |_=>exact hq.elim
theorem a8V {k ver:Nat} {bx:Bool} {cs:List C} (h:HR e hp w) (hx:hp.get k=(ver,.var bx cs)) : ∃b off arr T,e.E k = .pointer (some ⟨b,off,none⟩)∧e.om b=some (k,[])∧w.heap[b]? = some (.cells arr T (0,0))∧off+cs.length≤arr.size ∧
  ∀j n,j+n≤cs.length → ∃vs:List Value,vs.length=n∧(∀i v,vs[i]? = some v→arr[off+j+i]? = some v)∧CRs e hp w vs ((cs.drop j).take n) ∧ ∀u∈vs,one u:=by
 have hch:=h.chs k
 rw[hx]at hch
 obtain⟨b,off,arr,T,h1,h2,h3,h4,h5⟩:=hch
 refine⟨b,off,arr,T,h1,h2,h3,h4,fun j n hjn => ?_⟩
 have hget : ∀i,i<n → ∃v,arr[off+j+i]? = some v:=fun i hi=>⟨_,Array.getElem?_eq_getElem (by omega)⟩
 refine⟨(List.range n).map fun i=>(arr[off+j+i]?).getD undef,by simp,fun i v hv => ?_,CRs.a2F (by simp;omega) fun i v c hv hc => ?_,fun u hu => ?_⟩
 ·have hi:i<n:=by
   have:=(List.getElem?_eq_some_iff.1 hv).1
   simpa using this
  obtain⟨v',hv'⟩:=hget i hi
  rw[List.getElem?_map,List.getElem?_range hi]at hv
  simp only[Option.map_some,Option.some.injEq]at hv
  rw[hv']at hv ⊢
  exact congrArg some hv
 ·have hi:i<n:=by
   have:=(List.getElem?_eq_some_iff.1 hv).1
   simpa using this
  obtain⟨v',hv'⟩:=hget i hi
  rw[List.getElem?_map,List.getElem?_range hi]at hv
  simp only[Option.map_some,Option.some.injEq]at hv
  rw[hv']at hv
  simp only[Option.getD_some]at hv
  subst hv
  rw[List.getElem?_take_of_lt hi,List.getElem?_drop]at hc
  obtain⟨v,g1,g2,g3⟩:=h5 (j+i) c hc
  rw[←Nat.add_assoc,hv']at g1
  cases g1
  exact g2
 ·obtain⟨i,hi,rfl⟩:=List.mem_map.1 hu
  have hi:i<n:=by simpa using hi
  obtain⟨v',hv'⟩:=hget i hi
  rw[hv']
  obtain⟨v,g1,g2,g3⟩:=h5 (j+i) _ (List.getElem?_eq_getElem (by omega))
  rw[←Nat.add_assoc,hv']at g1
  cases g1
  exact g3
theorem c7I {E : (Nat → Nat → Option Ann) → (Nat → Nat → Option Ann) → Env0} (hE : ∀ an cut, EnvOk P (E an cut)) {f : Nat} {fn : Func} {c : Code} (hfn : P.funcs[f]? = some fn) (hc : fn.body = some c) (hname : (fn.name == "runtime.NumGoroutine") = false) (hbo : ∀ an cut, a0V ((E an cut).plan f) fn = true) {s : Io} (hs : b3o E f fn s) :
  ∀L kb,ClOk P fun _ f' args σ K=>f'=f∧(b5c s kb args).wp L σ.hp fun v hp=>K v ⟨σ.tm,hp,σ.up⟩:=by
 intro L kb key f' args σ K ⟨hff,hm⟩
 subst hff
 refine⟨⟨fn,c,hfn,hname,hc⟩,fun B e w tmps vals h hv => ?_⟩
 unfold b5c at hm
 split at hm
 rotate_left
 ·exact hm.elim
 rename_i k ver j args'
 cases vals with
 |nil=>simp only[VRs]at hv
 |cons val vals =>
 simp only[VRs]at hv
 obtain⟨hv0,hv⟩:=hv
 replace hm:=M.u4 hm
 split at hm
 rotate_left
 ·exact hm.elim
 rename_i v' bx cs hx
 have hmg:=M.p4 hm
 clear hm
 obtain⟨hg,hm⟩:=hmg
 simp only[Bool.and_eq_true,beq_iff_eq,decide_eq_true_eq]at hg
 obtain⟨rfl,hjn⟩:=hg
 obtain⟨b0,off,arr,T,hE0,hom0,hb0,hsz0,hvals⟩:=a8V h.hr hx
 obtain⟨vs0,hvl,hvm,hvc0,hv1⟩:=hvals j s.ptr.sz hjn
 rw[M.wp_bind]at hm
 obtain⟨e1,hp1,us,fl,F,hus,hm⟩:=a1v _ _ vs0 e σ.hp _ h.hr hvc0 hv1 hm
 split at hm
 rotate_left
 ·exact hm.elim
 rename_i as has
 split at hm
 rotate_left
 ·exact hm.elim
 rename_i x hxd
 replace hm:=M.u4 hm
 split at hm
 rotate_left
 ·exact hm.elim
 rename_i v2 bx2 cs2 hx2
 have hmg:=M.p4 hm
 clear hm
 obtain⟨hg,hm⟩:=hmg
 simp only[Bool.and_eq_true,beq_iff_eq,decide_eq_true_eq]at hg
 obtain⟨rfl,hjn2⟩:=hg
 replace hm:=M.D3 hm
 obtain⟨hkp2,hm⟩:=hm
 have hul:(unks s.ptr.sz).length=s.ptr.sz:=by simp[unks]
 have hvr0:VR e σ.hp w val (.one (.ptr k ver j)):=hv0
 have hptr:CR e σ.hp w val (.ptr k ver j):=by simp only[VR]at hv0;exact hv0.1
 have hval:val = .pointer (some ⟨b0,off+j,none⟩):=by
  simp only[CR,hx]at hptr
  obtain⟨b1,off1,g1,g2⟩:=hptr.2 trivial
  rw[hE0]at g1
  cases g1
  exact g2
 have hE1:e1.E k = .pointer (some ⟨b0,off,none⟩):=by
  have h1:=F.sr.CR hptr
  simp only[CR,hx2]at h1
  obtain⟨b1,off1,g1,g2⟩:=h1.2 trivial
  rw[hval]at g2
  simp only[Value.pointer.injEq,Option.some.injEq,Addr.mk.injEq,and_true]at g2
  obtain⟨rfl,g2⟩:=g2
  rw[g1]
  have:off1=off:=by omega
  rw[this]
 have hom1:e1.om b0=some (k,[]):=by
  obtain⟨b1,off1,_,_,g1,g2,_⟩:=a8V F.hr hx2
  rw[hE1]at g1
  cases g1
  exact g2
 have hpl:(putAt cs2 j (unks s.ptr.sz)).length=cs2.length:=o8 _ _ _ (by rw[hul];exact hjn2)
 have st2:=a2u (ds:=putAt cs2 j (unks s.ptr.sz)) F.hr hx2 hpl (fun b off' arr' T' h1 h2 i cc v h3 h4=>by
  rw[a0D _ _ _ (by rw[hul];exact hjn2)]at h3
  split at h3
  ·have:=List.mem_of_getElem? h3
   simp[unks]at this
   rw[this.2]
   simp only[CR]
  ·have hch:=F.hr.chs k
   rw[hx2]at hch
   obtain⟨b2,off2,arr2,T2,g1,g2,g3,g4,g5⟩:=hch
   rw[h1]at g1
   cases g1
   rw[h2]at g3
   cases g3
   obtain⟨u,g6,g7,_⟩:=g5 i cc h3
   rw[h4]at g6
   cases g6
   exact g7) (a6E hkp2 hx2)
 generalize hhp2:hp1.set k (ver,Ch.var bx2 (putAt cs2 j (unks s.ptr.sz)))=hp2 at *
 have hx2':hp2.get k=(ver,.var bx2 (putAt cs2 j (unks s.ptr.sz))):=by rw[←hhp2,Tr.e8]
 have hsts:Stps e σ.hp w e1 hp2 w:=F.sr.trans (.one st2)
 have hkfl:some k ∉ fl:=fun hk=>by
  have:=(F.live k hk).2.2
  rw[hx2]at this
  cases this
 have hfl : ∀k,some k∈fl→(hp2.get k).2 = .dead:=fun k' hk'=>by
  have hne:k'≠k:=fun he=>hkfl (he▸hk')
  rw[←hhp2,Tr.j7 _ _ hne]
  exact(F.live k' hk').2.2
 rw[M.wp_bind]at hm
 obtain⟨ins,hin,hm⟩:=a0t st2.1 (ks:=E5 (M8 args')) s.pars args' vals _ (VRs.c7B hsts hv) (fun k hk=>hk) hm
 rw[M.wp_bind,Rn.a1r]at hm
 have hsame:=s.ptr.a4u as x hxd
 obtain⟨an,cut,n,hvc⟩:=hs x ins _ (c0R hsame (a5Y us as vs0 fl has hus)) hin.ok hm
 clear hm
 unfold c5F at hvc
 rw[hc]at hvc
 simp only at hvc
 split at hvc
 ·exact hvc.elim
 rename_i hlen
 have hlen':s.pars.length+1≤fn.ntmps:=by simpa using hlen
 have hSlt : ∀b,a0f e1 hp2 (E5 (M8 args')) b→b<w.heap.size∧b≠b0:=fun b hb=>by
  rcases hb with hb|⟨k',q,hb,_,hrow⟩
  ·exact⟨(st2.1.sOk b hb).2,fun he=>by subst he;rw[(st2.1.sOk _ hb).1]at hom1;cases hom1⟩
  ·refine⟨st2.1.oOk b _ hb,fun he => ?_⟩
   subst he
   rw[hom1]at hb
   cases hb
   rw[hx2']at hrow
   exact hrow
 have hget0 : ∀i,i<s.ptr.sz → ∃u,vs0[i]? = some u∧arr[off+j+i]? = some u∧one u:=fun i hi=>by
  have hi':i<vs0.length:=by omega
  exact⟨vs0[i],List.getElem?_eq_getElem hi',hvm i _ (List.getElem?_eq_getElem hi'),hv1 _ (List.getElem_mem hi')⟩
 have hr0:=c2Q (n:=s.ptr.sz) (off:=off+j) hSlt hb0 (by omega) (fun i v hi hv=>by
  obtain⟨u,_,g2,g3⟩:=hget0 i hi
  rw[hv]at g2
  cases g2
  exact g3)
 have hfe:=a1T us as _ vs0 fl has hsame hus
 have hdis0:Dis (fun _=>True) w e1 fl (R5 (a0f e1 hp2 (E5 (M8 args'))) b0 (off+j)):=fun κ hκ b q hb=>by
  have hbb:b≠b0:=fun he=>by
   subst he
   rw[hom1]at hb
   cases hb
   exact hkfl hκ
  refine⟨trivial,by simp[R5,hbb],fun hS => ?_,st2.1.oOk b _ hb⟩
  rcases hS with hS|⟨k',q',hb',_,hrow⟩
  ·rw[(st2.1.sOk b hS).1]at hb
   cases hb
  ·rw[hb]at hb'
   cases hb'
   rw[hfl _ hκ]at hrow
   exact hrow
 obtain⟨e2,hpc,ds,G,hds,hvc⟩:=a3A (N:=fun _=>True) _ _ vs0 fl _ _ _ hr0 hfe hv1 hdis0 F.nodup (a6a _) hvc
 split at hvc
 ·exact hvc.elim
 rename_i hdl
 have hdl':ds.length=s.ptr.sz:=by simpa using hdl
 obtain⟨p1,p2,p3⟩:=G.box b0 0 (unks s.ptr.sz) (by simp[R5]) (by rw[Tr.e8])
 rw[Tr.e8]at p3
 have p2':e2.E 0 = .pointer (some ⟨b0,off+j,none⟩):=p2
 have st3:=a2u (ds:=ds) G.hr p3 (by rw[hul];exact hdl') (fun b off' arr' T' h1 h2 i cc v h3 h4=>by
  rw[p2']at h1
  cases h1
  rw[hb0]at h2
  cases h2
  obtain⟨u,g1,g2⟩:=hds.get i h3
  rw[hvm i u g1]at h4
  cases h4
  exact g2) (b9F (by rw[hul];exact hdl'))
 generalize hhp3:hpc.set 0 (1,Ch.var true ds)=hp3 at *
 have hx3:hp3.get 0=(1,.var true ds):=by rw[←hhp3,Tr.e8]
 have hFR:FR (b3w w (a0f e1 hp2 (E5 (M8 args'))) e2.om b0 (off+j) s.ptr.sz) e2 hp3 w:=by
  refine⟨rfl,rfl,rfl,fun b hb => .inl ((G.S b).1 hb),Nat.le_refl _,fun b hb ho=>⟨rfl,ho⟩,fun b k' off' n' hb => ?_⟩
  simp only[b3w]at hb
  split at hb
  ·rename_i he
   subst he
   cases hb
   exact⟨p1,p2',⟨ds,by rw[hx3],hdl',fun _ ho=>ho.elim⟩,arr,arr,T,hb0,hb0,rfl,fun _ _=>rfl⟩
  ·cases hb
 refine(fn_runIo (hE an cut) hfn hc (hbo an cut) hvc (by simp[W8];omega) rfl st3.1 hFR (vals:=val::vals) (by
  simp only[VRs]
  refine⟨?_,hin.VRs fun b hb=>(G.S b).2 hb⟩
  simp only[VR,CR,hx3]
  exact⟨⟨Nat.le_refl _,fun _=>⟨b0,off+j,p2',by rw[hval];rfl⟩⟩,y8.D5 (by rw[hval];rfl)⟩)).mono fun en w' hp => ?_
 obtain⟨v,vsR,usR,e',hp',rfl,hr',hf',hvs',hveq,hfin⟩:=hp
 obtain⟨ef1,hpf1,rs,fl1,F1,hrs,hl⟩:=a1u vsR _ usR e' hp' _ hr' hvs' hfin
 unfold b4G at hl
 split at hl
 rotate_left
 ·exact hl.elim
 rename_i vv bxx csx hxx
 obtain⟨q1,q2,⟨cs3,q3,q4,_⟩,arrA,arrB,T1,q5,q6,q7,q8⟩:=hf'.box b0 0 (off+j) s.ptr.sz (by simp[b3w])
 have q5':w.heap[b0]? = some (.cells arrA T1 (0,0)):=q5
 rw[hb0]at q5'
 cases q5'
 obtain⟨hF1,hF2⟩:=F1.box 0 cs3 q3
 have hcsx:csx=cs3:=by
  rw[hF1]at hxx
  rw[hxx]at q3
  cases q3
  rfl
 subst hcsx
 obtain⟨b2,off2,arr2,T2,hE2,hom2,hb2,hsz2,hvals2⟩:=a8V F1.hr hxx
 have hE2':ef1.E 0 = .pointer (some ⟨b0,off+j,none⟩):=by
  have hp0:CR e' hp' w' (.pointer (some ⟨b0,off+j,none⟩)) (.ptr 0 (hp'.get 0).1 0):=by
   simp only[CR]
   exact⟨Nat.le_refl _,fun _=>⟨b0,off+j,q2,rfl⟩⟩
  have hp1':=F1.sr.CR hp0
  simp only[CR]at hp1'
  obtain⟨b3,off3,j1,j2⟩:=hp1'.2 (by rw[hF1])
  cases j2
  exact j1
 rw[hE2']at hE2
 cases hE2
 rw[q6]at hb2
 cases hb2
 obtain⟨vs2,hvl2,hvm2,hvc2,hv2⟩:=hvals2 0 csx.length (by omega)
 rw[List.drop_zero,List.take_length]at hvc2
 obtain⟨ef,hpf,us2,fl2,F2,hus2,hl⟩:=a1v csx _ vs2 ef1 hpf1 _ F1.hr hvc2 hv2 hl
 split at hl
 rotate_left
 ·exact hl.elim
 rename_i as2 has2
 split at hl
 rotate_left
 ·exact hl.elim
 rename_i x2 hxd2
 have hmg:=M.p4 hl
 clear hl
 obtain⟨hns,hm⟩:=hmg
 have hns':(tupV rs).shares=false:=by simpa using hns
 have F12:=F1.trans F2
 have hvn:vs2.length=s.ptr.sz:=by omega
 have stc:=c3b (j:=j) (n:=s.ptr.sz) (w':=w') st2.1 hfl hx2' hE1 hom1 hf'.os hf'.tape hf'.output hf'.size (fun b hlt hbb hno=>(hf'.old b hlt (G.rest b (by simp[R5,hbb]) hno)).1) hb0 q6 q7 (fun o ho=>q8 o (by omega)) (by rw[hpl];exact hjn2)
  (fun i cc h1 h2 h3=>by
   rw[a0D _ _ _ (by rw[hul];exact hjn2),hul,if_pos ⟨h1,h2⟩]at h3
   have:=List.mem_of_getElem? h3
   simp[unks]at this
   exact this.2) (fun i v hi hv=>by
   have hi':i<vs2.length:=by omega
   have:=hvm2 i _ (List.getElem?_eq_getElem hi')
   rw[Nat.add_zero,hv]at this
   cases this
   exact hv2 _ (List.getElem_mem hi'))
 have hdis : ∀ κ,(some κ ∈ fl1∨some κ ∈ fl2) → ∀b q,ef.om b=some (κ,q)→(w.heap.size≤b ∨ ∃k q,e1.om b=some (k,q)∧some k∈fl)∧(e1.drop fl).om b=none ∧ ¬(e1.drop fl).S b∧b<w'.heap.size:=fun κ hκ b q hb=>by
  obtain⟨g1,g2,g3⟩:=F12.live κ (List.mem_append.2 hκ)
  have he':e'.om b≠none:=fun h=>by
   have:=F12.om b h
   rw[hb]at this
   cases this
  by_cases hlt:b<w.heap.size
  ·have he2:e2.om b≠none:=fun h=>he' (hf'.old b hlt h).2
   have hbb:b≠b0:=fun he=>by
    subst he
    have:=(F12.box 0 csx q3).2 b [] q1
    rw[hb]at this
    cases this
    exact g2 csx q3
   have hex : ∃k q,e1.om b=some (k,q)∧some k∈fl:=by
    refine Classical.byContradiction fun hno=>he2 (G.rest b (by simp[R5,hbb]) fun k q hkq hmem=>hno ⟨k,q,hkq,hmem⟩)
   obtain⟨k1,k2,k3,k4⟩:=hex
   have hnS : ¬(e1.drop fl).S b:=fun hS=>by
    have hS':e1.S b:=hS
    rw[(st2.1.sOk b hS').1]at k3
    cases k3
   exact⟨.inr ⟨k1,k2,k3,k4⟩,c2v k3 k4,hnS,F12.hr.oOk b _ hb⟩
  ·refine⟨.inl (by omega),?_,fun hS=>hlt (st2.1.sOk b hS).2,F12.hr.oOk b _ hb⟩
   cases ho:(e1.drop fl).om b with
   |none=>rfl
   |some y=>exact absurd (st2.1.oOk b _ (b3a ho).1) hlt
 have hpw2:(fl2++fl1).Pairwise (fun x y => ∀k,x=some k→y≠some k):=by
  rw[List.pairwise_append]
  refine⟨F2.nodup,F1.nodup,fun a ha b hb k hak hbk => ?_⟩
  exact(List.pairwise_append.1 F12.nodup).2.2 b hb a ha k hbk hak
 have hfe2:=a1T us2 as2 _ vs2 fl2 has2 (s.ptr.a4u as2 x2 hxd2) hus2
 have hDis:Dis (fun b=>w.heap.size≤b ∨ ∃k q,e1.om b=some (k,q)∧some k∈fl) w' ef (fl2++fl1) (e1.drop fl):=fun κ hκ b q hb=>hdis κ (by
  rcases List.mem_append.1 hκ with h|h
  ·exact .inr h
  ·exact .inl h) b q hb
 have hNB : ∀b,(w.heap.size≤b ∨ ∃k q,e1.om b=some (k,q)∧some k∈fl)→B.w0.heap.size≤b∨B.om0 b≠none:=fun b hb=>by
  have hfr1:=hsts.fr h.fr
  rcases hb with hb|⟨k1,q1,hb,_⟩
  ·exact .inl (Nat.le_trans h.fr.size hb)
  ·refine Classical.byContradiction fun hno => ?_
   have h1:b<B.w0.heap.size:=Nat.lt_of_not_le fun hh=>hno (.inl hh)
   have h2:B.om0 b=none:=Classical.byContradiction fun hh=>hno (.inr hh)
   rw[(hfr1.old b h1 h2).2]at hb
   cases hb
 rw[M.wp_bind]at hm
 obtain⟨eB,hpB,ds2,G2,hds2,hm⟩:=a3A _ _ vs2 fl2 _ _ _ stc.1 hfe2 hv2 (fun κ hκ => hDis κ (List.mem_append_left _ hκ)) F2.nodup (a6a _) hm
 replace hm:=M.u4 hm
 split at hm
 rotate_left
 ·exact hm.elim
 rename_i v3 bx3 cs4 hx4
 have hmg:=M.p4 hm
 clear hm
 obtain⟨hg,hm⟩:=hmg
 simp only[Bool.and_eq_true,beq_iff_eq,decide_eq_true_eq]at hg
 obtain⟨rfl,hjn3⟩:=hg
 replace hm:=M.D3 hm
 obtain⟨hkp4,hm⟩:=hm
 have hall:Stps e σ.hp w (e1.drop fl) hp2 w':=hsts.trans (.one stc)
 have hEB:eB.E k = .pointer (some ⟨b0,off,none⟩):=by
  have h1:=G2.vr _ _ (hall.VR hvr0)
  simp only[VR,CR,hx4]at h1
  obtain⟨b1,off1,g1,g2⟩:=h1.1.2 trivial
  rw[hval]at g2
  simp only[Value.pointer.injEq,Option.some.injEq,Addr.mk.injEq,and_true]at g2
  obtain⟨rfl,g2⟩:=g2
  rw[g1]
  have:off1=off:=by omega
  rw[this]
 have hdl2:ds2.length=s.ptr.sz:=by rw[←hds2.length];exact hvn
 have stE:=a2u (ds:=putAt cs4 j ds2) G2.hr hx4 (o8 _ _ _ hjn3) (fun b off' arr' T' h1 h2 i cc v h3 h4=>by
  rw[hEB]at h1
  cases h1
  rw[q6]at h2
  cases h2
  rw[a0D _ _ _ hjn3]at h3
  split at h3
  ·rename_i hi
   obtain⟨u,g1,g2⟩:=hds2.get (i-j) h3
   have:=hvm2 _ _ g1
   rw[show off+j+0+(i-j)=off+i by omega,h4]at this
   cases this
   exact g2
  ·have hch:=G2.hr.chs k
   rw[hx4]at hch
   obtain⟨b2,off2,arr2,T2,g1,g2,g3,g4,g5⟩:=hch
   rw[hEB]at g1
   cases g1
   rw[q6]at g3
   cases g3
   obtain⟨u,g6,g7,_⟩:=g5 i cc h3
   rw[h4]at g6
   cases g6
   exact g7) (a6E hkp4 hx4)
 have hrs2:=a3V.mono (fun k hk b q=>(F2.keep k hk b q).1) (fun b hb=>F2.sr.S hb) hrs (fun k hk=>(F1.live k hk).2.2)
 obtain⟨e3,hp3',y,G3,hy,hK⟩:=a9T stE.1 hveq hrs2 (Dis.step hDis G2 hpw2) F1.nodup (fun hs=>by rw[hns']at hs;cases hs) hm
 exact⟨v,y,e3,⟨σ.tm,hp3',σ.up⟩,rfl,hK,⟨G3.hr,G3.fr ((G2.fr (hall.fr h.fr) hNB).step stE.2.2) hNB,G3.up _ _ (UpR.mono stE.2.1 _ _ (G2.up _ _ (hall.upR h.up))),fun t=>G3.vr _ _ (VR.mono stE.2.1 _ _ (G2.vr _ _ (hall.VR (h.tm t))))⟩,hy⟩
theorem io1 {T:Tab} (h:TabOk P T) {ss:List (Nat×SpecX)} (hs:a6M P ss) {f:Nat} {fn:Func} {c:Code} {s:Io} (hfn:T.fns f=some fn) (hc:fn.body=some c) (hv:b3o (T.env ss) f fn s):b6 P f (.raw (b5c s)):=by
 obtain⟨h1,h2,h3⟩:=h.fns f fn hfn
 exact c7I (h.env (a6Y hs)) h1 hc h2 (fun _ _=>h3) hv
end
end Go.Sx
