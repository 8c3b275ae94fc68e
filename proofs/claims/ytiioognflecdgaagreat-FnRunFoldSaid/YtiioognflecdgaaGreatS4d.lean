/-
  Contracts: sound.
-/
import Derived.Test.YtiioognflecdgaaGreatS4c
set_option linter.unusedVariables false
set_option linter.unusedSimpArgs false
namespace Go.Sx
section
variable {P:Program} {ctx:Ctx} {B:Base} {e e' ef:Env} {a:Act} {w w':World} {σ τ : St} {L:Locks} {hp hp':Hp} {N:Nat→Prop}
def Env.more (e:Env) (S:Nat→Prop):Env:=⟨fun b=>e.S b∨S b,e.om,e.E⟩
theorem b1U (h:HR e hp w) (hx:Ext w w') {S:Nat→Prop} (hS : ∀b,S b→w.heap.size≤b∧b<w'.heap.size):Stp e hp w (e.more S) hp w':=by
 have hom : ∀b k q,e.om b=some (k,q)→(e.more S).om b=some (k,q)∧w'.heap[b]? = w.heap[b]? := fun b k q hb=>⟨hb,hx.old b (h.oOk b _ hb)⟩
 have hsr:SR e hp w (e.more S) hp w':=⟨fun b hb=>⟨.inl hb,hx.old b (h.sOk b hb).2⟩,fun k => .same rfl rfl fun b q hb=>hom b k q hb⟩
 refine⟨h.step hsr (fun k => .inl ⟨rfl,rfl,fun b q hb=>hom b k q hb⟩) (fun b hb => ?_) (fun b x hb=>Nat.lt_of_lt_of_le (h.oOk b x hb) hx.size),hsr,⟨hx.os,hx.tape,hx.output,fun b hb => ?_,hx.size,fun b hb ho=>⟨hx.old b hb,ho⟩,fun b k off n cs arr T h1 h2 h3 h4 h5 => ?_⟩⟩
 ·rcases hb with hb|hb
  ·exact⟨(h.sOk b hb).1,Nat.lt_of_lt_of_le (h.sOk b hb).2 hx.size⟩
  ·refine⟨?_,(hS b hb).2⟩
   cases ho:e.om b with
   |none=>exact ho
   |some x =>
    have h1:=h.oOk b x ho
    have h2:=(hS b hb).1
    omega
 ·rcases hb with hb|hb
  ·exact .inl hb
  ·exact .inr (.inr (hS b hb).1)
 ·exact⟨h1,rfl,⟨cs,h3,D7 cs⟩,arr,by rw[hx.old b (h.oOk b _ h1)];exact h5,rfl,fun _ _=>rfl⟩
theorem b5Q {b:Nat} {arr arr':Array Value} {T:Nat} (hb:w.heap[b]? = some (.cells arr' T (0,0))):(w.setRow b arr).setRow b arr'=w:=by
 have:((w.setRow b arr).setRow b arr').heap=w.heap:=by
  apply Array.ext_getElem?
  intro k
  by_cases hk:k=b
  ·subst hk
   rw[setRow_heap _ _ arr arr' T (0,0) (setRow_heap w _ arr' arr T (0,0) hb),hb]
  ·rw[setRow_other _ _ _ _ hk,setRow_other _ _ _ _ hk]
 cases w
 simp only[World.setRow]at this ⊢
 simp only[this]
theorem c3c (h:HR e hp w) {k ver b0 off T:Nat} {bx:Bool} {cs ds:List C} {arr arr':Array Value} (hx:hp.get k=(ver,.var bx cs)) (hE:e.E k = .pointer (some ⟨b0,off,none⟩)) (hom:e.om b0=some (k,[]))
  (hos:w'.os=w.os) (htp:w'.tape=w.tape) (hou:w'.output=w.output) (hsz:w.heap.size≤w'.heap.size) (hold : ∀b,b<w.heap.size→b≠b0→w'.heap[b]? = w.heap[b]?)
  (hb:w.heap[b0]? = some (.cells arr T (0,0))) (hb':w'.heap[b0]? = some (.cells arr' T (0,0))) (has:arr'.size=arr.size) (hout : ∀o,(o<off∨off+cs.length≤o)→arr'[o]? = arr[o]?) (hlen:ds.length=cs.length) (hkb:bx=true→X4 cs ds=true ∧ ∀o,BAt off cs o→arr'[o]? = arr[o]?)
  {S:Nat→Prop} (hS : ∀b,S b→w.heap.size≤b∧b<w'.heap.size) (hin:a6P (e.more S).S w' b0 off ds) : ∃hpA,hpA=hp.set k (ver,.var bx ds) ∧ ∃w1,Stp e hp w (e.more S) hp w1∧Stp (e.more S) hp w1 (e.more S) hpA w':=by
 have hlt:b0<w.heap.size:=(Array.getElem?_eq_some_iff.1 hb).1
 have hw1:Ext w (w'.setRow b0 arr):=⟨hos,htp,hou,by simpa [World.setRow]using hsz,fun b hbl=>by
  by_cases hbb:b=b0
  ·subst hbb
   rw[setRow_heap w' _ arr' arr T (0,0) hb',hb]
  ·rw[setRow_other _ _ _ _ hbb];exact hold b hbl hbb⟩
 have hs1:=b1U h hw1 (S:=S) fun b hb=>⟨(hS b hb).1,by simpa [World.setRow]using(hS b hb).2⟩
 refine⟨_,rfl,_,hs1,?_⟩
 have hback:=b5Q (w:=w') (arr:=arr) hb'
 obtain⟨arr2,T2,g1,g2,g3⟩:=hin
 rw[hb']at g1
 cases g1
 have:=a0H (e:=e.more S) (hp:=hp) (w:=w'.setRow b0 arr) (k:=k) (b:=b0) (v:=ver) (c0 := .var bx cs) (x := .var bx ds) (cs:=arr) (arr:=arr') (T:=T) (q := []) hs1.1 hom (setRow_heap w' _ arr' arr T (0,0) hb') hx (e.more S).om
  (fun b' k' q' hb' _ => .inl hb') (fun b' hb'=>hb') (fun b' y hb'=>Nat.lt_of_lt_of_le (h.oOk b' y hb') (by simpa [World.setRow]using hsz)) (KR.turn hx rfl (.var _ _ _)) (by
   rw[hback]
   exact⟨b0,off,arr',T,hE,hom,hb',g2,fun j c hc=>by
    obtain⟨a,u,rfl,hu,hr,ho⟩:=g3 j c hc
    exact⟨u,hu,by simp only[CR];exact hr,ho⟩⟩) (fun cs0 hcs=>by
   simp only[Ch.var.injEq]at hcs
   obtain⟨rfl,rfl⟩:=hcs
   exact⟨off,hE,⟨ds,rfl,(hkb rfl).1⟩,hom,has,fun o ho=>by
    rcases ho with ho|ho|ho
    ·exact hout o (.inl ho)
    ·exact hout o (.inr ho)
    ·exact(hkb rfl).2 o ho⟩)
 rw[hback]at this
 exact this
theorem Stps.upR (h:Stps e hp w e' hp' w') {as:List (Array Value)} {ts:List (Tr V)} (hu:UpR e hp w as ts):UpR e' hp' w' as ts:=by
 induction h with
 |refl=>exact hu
 |cons h1 _ ih=>exact ih (UpR.mono h1.2.1 _ _ hu)
theorem Stps.fr (h:Stps e hp w e' hp' w') (hf:FR B e hp w):FR B e' hp' w':=by
 induction h with
 |refl=>exact hf
 |cons h1 _ ih=>exact ih (hf.step h1.2.2)
theorem GS.fr {fl:List (Option Nat)} (h:GS N w ef fl e hp e' hp') (hf:FR B e hp w) (hn : ∀b,N b→B.w0.heap.size≤b∨B.om0 b≠none):FR B e' hp' w:=by
 refine⟨hf.os,hf.tape,hf.output,fun b hb=>hf.sNew b ((h.S b).1 hb),hf.size,fun b hb ho => ?_,fun b k off n hb => ?_⟩
 ·obtain⟨h1,h2⟩:=hf.old b hb ho
  exact⟨h1,h.old b (fun hN=>(hn b hN).elim (fun h=>by omega) fun h=>h ho) h2⟩
 ·obtain⟨h1,h2,⟨cs,h3,h4⟩,arr0,arr,T,h5,h6⟩:=hf.box b k off n hb
  have hlt:b<B.w0.heap.size:=(Array.getElem?_eq_some_iff.1 h5).1
  obtain⟨g1,g2,g3⟩:=h.box b k cs h1 h3
  exact⟨g1,g2.trans h2,⟨cs,by rw[g3];exact h3,h4⟩,arr0,arr,T,h5,h6⟩
def c2G (E:(Nat→Nat→Option Ann)→(Nat→Nat→Option Ann)→Env0) (f:Nat) (fn:Func) (s:Spec):Prop := ∀b p x K,OkA (.list .byte b)→OkA (.int .i64 p)→b5k s.pars x→(s.run b p x).wp K → ∃an cut n,vcFn (E an cut) n f fn s b p x K
theorem c8z {B0:Base} {fl:List (Option Nat)} {e1:Env} {hp1:Hp} {hpf:Hp} (hf:FR B0 e1 hp1 w') (F:Fw w' e1 hp1 ef hpf fl) (hB:B0.w0=w) (hom0 : ∀b,B0.om0 b≠none → ∃k off n,B0.bx b=some (k,off,n))
  {eA:Env} {hpA:Hp} (hA : ∀b x,eA.om b=some x→b<w.heap.size) (hAS : ∀b,eA.S b→b<w.heap.size∨ef.S b) (hr:HR ef hpf w'):Dis (fun b=>w.heap.size≤b) w' ef fl eA:=by
 intro k hk b q hb
 obtain⟨g1,g2,g3⟩:=F.live k hk
 have hn0:w.heap.size≤b:=by
  refine Nat.le_of_not_lt fun hlt => ?_
  have h1:e1.om b≠none:=fun h=>by
   have:=F.om b h
   rw[hb]at this
   cases this
  by_cases h2:B0.om0 b=none
  ·exact h1 (hf.old b (by rw[hB];exact hlt) h2).2
  ·obtain⟨k',off,n,h3⟩:=hom0 b h2
   obtain⟨h4,_,⟨cs,h5,_⟩,_⟩:=hf.box b k' off n h3
   have h6:=(F.box k' cs h5).2 b [] h4
   rw[hb]at h6
   cases h6
   exact g2 cs h5
 refine⟨hn0,?_,fun hs => ?_,hr.oOk b _ hb⟩
 ·cases ho:eA.om b with
  |none=>rfl
  |some x =>
   have:=hA b x ho
   omega
 ·rcases hAS b hs with h1|h1
  ·omega
  ·rw[(hr.sOk b h1).1]at hb
   cases hb
theorem d1Z {k v:Nat} {bx:Bool} {bs:Th (List Int)} {p0:Th Int} (h:ChR e hp w k (hp.get k).2) (hx:hp.get k=(v,.var bx [.att (.list .byte bs),.att (.int .i64 p0)])):OkA (.list .byte bs)∧OkA (.int .i64 p0):=by
 rw[hx]at h
 obtain⟨b,off,arr,T,h1,h2,h3,h4,h5⟩:=h
 obtain⟨u,_,hu,_⟩:=h5 0 _ rfl
 obtain⟨u2,_,hu2,_⟩:=h5 1 _ rfl
 simp only[CR]at hu hu2
 exact⟨hu.ok,hu2.ok⟩
theorem b8B {E : (Nat → Nat → Option Ann) → (Nat → Nat → Option Ann) → Env0} (hE : ∀ an cut, EnvOk P (E an cut)) {f : Nat} {fn : Func} {c : Code} (hfn : P.funcs[f]? = some fn) (hc : fn.body = some c) (hname : (fn.name == "runtime.NumGoroutine") = false) (hbo : ∀ an cut, a0V ((E an cut).plan f) fn = true) {s : Spec} (hs : c2G E f fn s) :
  ∀L kb,ClOk P fun _ f' args σ K=>f'=f∧(c2B s kb args).wp L σ.hp fun v hp=>K v ⟨σ.tm,hp,σ.up⟩:=by
 intro L kb key f' args σ K ⟨hff,hm⟩
 subst hff
 refine⟨⟨fn,c,hfn,hname,hc⟩,fun B e w tmps vals h hv => ?_⟩
 have last : ∀(eA:Env) (hpA:Hp) (w':World) (ef:Env) (hpf:Hp) (rs:List V) (us:List Value) (v:Value) (fl:List (Option Nat)),HR eA hpA w'→(∀x v,VR e σ.hp w v x→VR eA hpA w' v x)→(∀as ts,UpR e σ.hp w as ts→UpR eA hpA w' as ts)→FR B eA hpA w' →
   a3V ef w' us rs fl→Dis (fun b=>w.heap.size≤b) w' ef fl eA→fl.Pairwise (fun x y => ∀k,x=some k→y≠some k)→(v=if h:us.toArray.size=1 then us.toArray[0]else .tuple us.toArray)→((tupV rs).shares=true → ∀b,ef.S b→eA.S b) →
   (outV kb (tupV rs)).wp L hpA (fun v hp=>K v ⟨σ.tm,hp,σ.up⟩)→a6O B K tmps (.returned v) w':=by
  intro eA hpA w' ef hpf rs us v fl hA hvr hup hfr hfin hd hpw hveq hS hm
  obtain⟨e2,hp2,y,G,hy,hK⟩:=a9T (N:=fun b=>w.heap.size≤b) hA hveq hfin hd hpw hS hm
  exact⟨v,y,e2,⟨σ.tm,hp2,σ.up⟩,rfl,hK,⟨G.hr,G.fr hfr fun b hb => .inl (Nat.le_trans h.fr.size hb),G.up _ _ (hup _ _ h.up),fun t=>G.vr _ _ (hvr _ _ (h.tm t))⟩,hy⟩
 cases hbox:s.box with
 |false =>
  unfold c2B at hm
  rw[hbox]at hm
  simp only at hm
  rw[M.wp_bind]at hm
  obtain⟨ins,hin,hm⟩:=a0t h.hr (ks:=E5 (M8 args)) s.pars args vals _ hv (fun k hk=>hk) hm
  rw[M.wp_bind,Rn.a1r]at hm
  obtain⟨an,cut,n,hvc⟩:=hs (fun _ => []) (fun _=>0) ins _ (.list _ _ (by simp) fun i j a hi=>by simp at hi) (.int _ _ (by decide) (by decide)) hin.ok hm
  unfold vcFn at hvc
  rw[hc,hbox]at hvc
  simp only at hvc
  split at hvc
  ·exact hvc.elim
  ·rename_i hlen
   have hlen':s.pars.length+1≤fn.ntmps:=by simpa using hlen
   have hSlt : ∀b,a0f e σ.hp (E5 (M8 args)) b→b<w.heap.size:=fun b hb=>by
    rcases hb with hb|⟨k,q,hb,_⟩
    ·exact(h.hr.sOk b hb).2
    ·exact h.hr.oOk b _ hb
   obtain⟨hr0,hf0⟩:=b6r hSlt
   refine(fn_run (hE an cut) hfn hc (hbo an cut) hvc (by rw[W8];omega) rfl hr0 hf0 (hin.VRs fun b hb=>hb)).mono fun en w' hp => ?_
   obtain⟨v,vs,us,e1,hp1,rfl,hr1,hf1,hvs,hveq,hfin⟩:=hp
   obtain⟨ef,hpf,rs,fl,F,hrs,hm2⟩:=a1u vs _ us e1 hp1 _ hr1 hvs hfin
   unfold b7q at hm2
   rw[hbox]at hm2
   simp only at hm2
   rw[M.wp_bind]at hm2
   obtain⟨eF,hpF,hst,hmo,hSF⟩ : ∃eF hpF,Stps e σ.hp w eF hpF w∧(outV kb (tupV rs)).wp L hpF (fun v hp=>K v ⟨σ.tm,hp,σ.up⟩)∧((tupV rs).shares=true → ∀b,a0f e σ.hp (E5 (M8 args)) b→eF.S b):=by
    split at hm2
    ·obtain⟨eF,hpF,g1,g2,g3⟩:=W5 _ _ _ _ h.hr hm2
     exact⟨eF,hpF,g1,g2,fun _=>g3⟩
    ·rename_i hns
     exact⟨e,σ.hp,.refl _ _ _,hm2,fun hh=>absurd hh hns⟩
   have hrF:=hst.hr h.hr
   have hext:Ext w w':=⟨hf1.os,hf1.tape,hf1.output,hf1.size,fun b hb=>(hf1.old b hb rfl).1⟩
   let S2:Nat→Prop:=fun b=>w.heap.size≤b∧ef.S b
   have hsA:=b1U hrF hext (S:=S2) fun b hb=>⟨hb.1,(F.hr.sOk b hb.2).2⟩
   have hall:=hst.trans (.one hsA)
   refine last (eF.more S2) hpF w' ef hpf rs us v fl hsA.1 (fun x v hx=>hall.VR hx) (fun as ts hu=>hall.upR hu) (hall.fr h.fr) hrs ?_ F.nodup hveq ?_ hmo
   ·refine c8z (B0:=⟨w,_,_,_,_,_⟩) (hpA:=hpF) hf1 F rfl (fun b hb=>absurd rfl hb) (fun b x hb=>hrF.oOk b x hb) (fun b hb => ?_) F.hr
    rcases hb with hb|hb
    ·exact .inl (hrF.sOk b hb).2
    ·exact .inr hb.2
   ·intro hsh b hb
    rcases F.sn b hb with h1|h1
    ·rcases hf1.sNew b h1 with h2|h2|h2
     ·exact .inl (hSF hsh b h2)
     ·exact absurd rfl h2
     ·exact .inr ⟨h2,hb⟩
    ·by_cases hlt:b<w.heap.size
     ·exact absurd (hf1.old b hlt rfl).2 h1
     ·exact .inr ⟨by omega,hb⟩
 |true =>
  unfold c2B at hm
  rw[hbox]at hm
  simp only at hm
  split at hm
  ·rename_i k ver args'
   cases vals with
   |nil=>simp only[VRs]at hv
   |cons val vals =>
    simp only[VRs]at hv
    obtain⟨hv0,hv⟩:=hv
    replace hm:=M.u4 hm
    split at hm
    ·rename_i v' bx bs p0 hx
     have hmg:=M.p4 hm
     clear hm
     obtain⟨hg,hm⟩:=hmg
     have hver:ver=v':=by simpa using hg
     subst hver
     rw[M.wp_bind]at hm
     obtain⟨ins,hin,hm⟩:=a0t h.hr (ks:=E5 (M8 args')) s.pars args' vals _ hv (fun k hk=>hk) hm
     rw[M.wp_bind,Rn.a1r]at hm
     have hok:=d1Z (h.hr.chs k) hx
     obtain⟨an,cut,n,hvc⟩:=hs bs p0 ins _ hok.1 hok.2 hin.ok hm
     unfold vcFn at hvc
     rw[hc,hbox]at hvc
     simp only at hvc
     split at hvc
     ·exact hvc.elim
     ·rename_i hlen
      have hlen':s.pars.length+1≤fn.ntmps:=by simpa using hlen
      have hat : ∀c∈rdC bs p0,∃a,c = .att a:=fun c hc=>by
       simp only[rdC,List.mem_cons,List.not_mem_nil,or_false]at hc
       rcases hc with rfl|rfl<;>exact⟨_,rfl⟩
      have hch:=h.hr.chs k
      rw[hx]at hch
      obtain⟨b0,off,g1,g2,g3⟩:=a6R hch hat
      simp only[VR,CR,hx]at hv0
      obtain⟨b1,off1,g4,g5⟩:=hv0.1.2 trivial
      rw[g1]at g4
      cases g4
      rw[Nat.add_zero]at g5
      have hSlt : ∀b,a0f e σ.hp (E5 (M8 args')) b→b<w.heap.size∧b≠b0:=fun b hb=>by
       rcases hb with hb|⟨k',q,hb,_,hrow⟩
       ·exact⟨(h.hr.sOk b hb).2,fun he=>by subst he;rw[(h.hr.sOk _ hb).1]at g2;cases g2⟩
       ·refine⟨h.hr.oOk b _ hb,fun he => ?_⟩
        subst he
        rw[g2]at hb
        cases hb
        rw[hx]at hrow
        exact hrow
      obtain⟨hr0,hf0,hvr0⟩:=c5s hSlt (g3.mono fun b hb => .inl hb)
      refine(fn_run (hE an cut) hfn hc (hbo an cut) hvc (by simp[W8];omega) rfl hr0 hf0 (vals:=val::vals) (by
       simp only[VRs]
       exact⟨by rw[g5];exact hvr0,hin.VRs fun b hb=>hb⟩)).mono fun en w' hp => ?_
      obtain⟨v,vs,us,e1,hp1,rfl,hr1,hf1,hvs,hveq,hfin⟩:=hp
      obtain⟨ef,hpf,rs,fl,F,hrs,hm2⟩:=a1u vs _ us e1 hp1 _ hr1 hvs hfin
      unfold b7q at hm2
      rw[hbox]at hm2
      simp only at hm2
      obtain⟨h1,h2,⟨cs1,h3,h4,h4b⟩,arr0,arr1,T,h5,h6,h7,h8⟩:=hf1.box b0 0 off 2 (by simp[X2])
      obtain⟨hF1,hF2⟩:=F.box 0 cs1 h3
      split at hm2
      ·rename_i v2 bx2 bs2 p2 hx2
       obtain⟨hbs,hm2⟩:=hm2
       have hbs':bs2 ()=bs ():=hbs.out
       have hchf:=F.hr.chs 0
       rw[hx2]at hchf
       obtain⟨b2,off2,k1,k2,k3'⟩:=a6R hchf (fun c hc=>by
        simp only[List.mem_cons,List.not_mem_nil,or_false]at hc
        rcases hc with rfl|rfl<;>exact⟨_,rfl⟩)
       have k3:a6P ef.S w' b2 off2 (rdC bs p2):=by
        obtain⟨arr2,T2,q1,q2,q3⟩:=k3'
        refine⟨arr2,T2,q1,q2,fun j d hd => ?_⟩
        match j,hd with
        | 0,hd =>
         simp[rdC]at hd
         subst hd
         obtain⟨a,u,ha,hu,hr,ho⟩:=q3 0 _ rfl
         cases ha
         exact⟨_,u,rfl,hu,hr.same (.list _ _ _ hbs'),ho⟩
        | 1,hd =>
         simp[rdC]at hd
         subst hd
         obtain⟨a,u,ha,hu,hr,ho⟩:=q3 1 _ rfl
         cases ha
         exact⟨_,u,rfl,hu,hr,ho⟩
        |j+2,hd=>simp[rdC]at hd
       have hE0:ef.E 0 = .pointer (some ⟨b0,off,none⟩):=by
        have hp0:CR e1 hp1 w' (.pointer (some ⟨b0,off,none⟩)) (.ptr 0 (hp1.get 0).1 0):=by
         simp only[CR]
         exact⟨Nat.le_refl _,fun _=>⟨b0,off,h2,rfl⟩⟩
        have hp1':=F.sr.CR hp0
        simp only[CR]at hp1'
        obtain⟨b3,off3,j1,j2⟩:=hp1'.2 (by rw[hF1])
        cases j2
        exact j1
       rw[hE0]at k1
       cases k1
       rw[M.wp_bind]at hm2
       obtain⟨eF,hpF,hst,hmo,hSF⟩ : ∃eF hpF,Stps e σ.hp w eF hpF w∧((c9h k ver (rdC bs p2)).bind fun _=>outV kb (tupV rs)).wp L hpF (fun v hp=>K v ⟨σ.tm,hp,σ.up⟩)∧((tupV rs).shares=true → ∀b,a0f e σ.hp (E5 (M8 args')) b→eF.S b):=by
        split at hm2
        ·obtain⟨eF,hpF,g1,g2,g3⟩:=W5 _ _ _ _ h.hr hm2
         exact⟨eF,hpF,g1,g2,fun _=>g3⟩
        ·rename_i hns
         exact⟨e,σ.hp,.refl _ _ _,hm2,fun hh=>absurd hh hns⟩
       have hrF:=hst.hr h.hr
       rw[M.wp_bind]at hmo
       unfold c9h at hmo
       replace hmo:=M.u4 hmo
       have hptr:CR eF hpF w val (.ptr k ver 0):=hst.CR (by rw[g5];simp only[CR,hx];exact⟨Nat.le_refl _,fun _=>⟨b0,off,g1,rfl⟩⟩)
       split at hmo
       ·rename_i ver2 bxF csF hxF
        have hmg:=M.p4 hmo
        clear hmo
        obtain⟨hg2,hmo⟩:=hmg
        simp only[Bool.and_eq_true,beq_iff_eq]at hg2
        obtain⟨hvv,hlenF⟩:=hg2
        subst hvv
        replace hmo:=M.D3 hmo
        obtain⟨hkp,hmo⟩:=hmo
        have hkF:bxF=true→X4 csF (rdC bs p2)=true:=fun hbt=>by
         subst hbt
         rw[hxF]at hkp
         simp only[keeps,Bool.and_eq_true]at hkp
         exact hkp.2
        have hto : ∀o,BAt off (rdC bs p2) o→BAt off (rdC bs p0) o:=fun o ho=>by
         obtain⟨j,c,rfl,hc,hb⟩:=ho
         match j,hc with
         | 0,_=>exact⟨0,_,rfl,rfl,rfl⟩
         | 1,hc =>
          simp[rdC]at hc
          subst hc
          cases hb
         |j+2,hc=>simp[rdC]at hc
        simp only[CR,hxF]at hptr
        obtain⟨b4,off4,i1,i2⟩:=hptr.2 trivial
        rw[g5]at i2
        simp only[Value.pointer.injEq,Option.some.injEq,Addr.mk.injEq,Nat.add_zero,and_true]at i2
        obtain⟨rfl,rfl⟩:=i2
        have hchF:=hrF.chs k
        rw[hxF]at hchF
        obtain⟨b5,off5,arrF,TF,f1,f2,f3,f4,f5⟩:=hchF
        rw[i1]at f1
        cases f1
        have hsame:=h5
        simp only[X2]at hsame
        rw[f3]at hsame
        cases hsame
        let S2:Nat→Prop:=fun b=>w.heap.size≤b∧ef.S b
        have hincl:(tupV rs).shares=true → ∀b,ef.S b→(eF.more S2).S b:=by
         intro hsh b hb
         have hnone:=(F.hr.sOk b hb).1
         have hbb0:b≠b0:=fun he=>by
          subst he
          rw[hF2 _ [] h1]at hnone
          cases hnone
         have hom0:(X2 w (a0f e σ.hp (E5 (M8 args'))) b0 off (rdC bs p0)).om0 b=none:=by simp[X2,hbb0]
         rcases F.sn b hb with hh|hh
         ·rcases hf1.sNew b hh with hh|hh|hh
          ·exact .inl (hSF hsh b hh)
          ·exact absurd hom0 hh
          ·exact .inr ⟨hh,hb⟩
         ·by_cases hlt:b<w.heap.size
          ·exact absurd (hf1.old b hlt hom0).2 hh
          ·exact .inr ⟨by omega,hb⟩
        have hbin:a6P (eF.more S2).S w' b0 off (rdC bs p2):=by
         obtain⟨arr2,T2,q1,q2,q3⟩:=k3
         obtain⟨arr3,T3,r1,r2,r3⟩:=g3
         simp only[X2]at h5
         rw[r1]at h5
         cases h5
         rw[q1]at h6
         cases h6
         refine⟨_,_,q1,q2,fun j d hd => ?_⟩
         match j,hd with
         | 0,hd =>
          simp[rdC]at hd
          subst hd
          obtain⟨a,u,ha,hu,hr,ho⟩:=r3 0 _ rfl
          cases ha
          refine⟨_,u,rfl,?_,hr.mono fun b hb=>⟨.inl (hst.S hb),?_⟩,ho⟩
          ·rw[h8 (off+0) (.inr (.inr ⟨0,_,rfl,rfl,rfl⟩))]
           exact hu
          ·have hlt:=(h.hr.sOk b hb)
           have hbb:b≠b0:=fun he=>by
            subst he
            rw[g2]at hlt
            cases hlt.1
           exact(hf1.old b hlt.2 (by simp[X2,hbb])).1
         | 1,hd =>
          simp[rdC]at hd
          subst hd
          obtain⟨a,u,ha,hu,hr,ho⟩:=q3 1 _ rfl
          cases ha
          refine⟨_,u,rfl,hu,?_,ho⟩
          cases hr
          exact .int _ _ (by assumption) (by assumption)
         |j+2,hd=>simp[rdC]at hd
        have hlen2:csF.length=2:=by rw[←hlenF];rfl
        obtain⟨hpA,hpAe,w1,hs1,hs2⟩:=c3c hrF hxF i1 f2 hf1.os hf1.tape hf1.output hf1.size (fun b hb hbb=>(hf1.old b hb (by simp[X2,hbb])).1) f3 h6 h7 (fun o ho=>h8 o (by rw[←hlen2];exact ho.imp_right .inl)) hlenF (fun hbt=>⟨hkF hbt,fun o ho=>h8 o (.inr (.inr (hto o (ho.keep (hkF hbt)))))⟩) (S:=S2) (fun b hb=>⟨hb.1,(F.hr.sOk b hb.2).2⟩) hbin
        have hall:=(hst.trans (.one hs1)).trans (.one hs2)
        refine last (eF.more S2) hpA w' ef hpf rs us v fl hs2.1 (fun x v hx=>hall.VR hx) (fun as ts hu=>hall.upR hu) (hall.fr h.fr) hrs ?_ F.nodup hveq ?_ (by rw[hpAe];exact hmo)
        ·refine c8z (B0:=X2 w (a0f e σ.hp (E5 (M8 args'))) b0 off (rdC bs p0)) (hpA:=hpA) hf1 F rfl (fun b hb => ?_) (fun b x hb=>hrF.oOk b x hb) (fun b hb => ?_) F.hr
         ·simp only[X2]at hb ⊢
          split at hb
          ·rename_i he;exact⟨0,off,(rdC bs p0).length,by rw[if_pos he]⟩
          ·exact absurd rfl hb
         ·rcases hb with hb|hb
          ·exact .inl (hrF.sOk b hb).2
          ·exact .inr hb.2
        ·exact hincl
       ·exact hmo.elim
      ·exact hm2.elim
    ·exact hm.elim
  ·exact hm.elim
end
end Go.Sx
