/-
  Regions in order, bodies, calls by the body: sound.
-/
import Derived.Test.YtiioognflecdgaaGreatS3
set_option linter.unusedVariables false
set_option linter.unusedSimpArgs false
namespace Go.Sx
section
variable {P:Program} {ctx:Ctx} {B:Base} {e:Env} {a:Act} {w w':World} {σ τ : St} {o:Oper} {Q:Exit→Act→World→Prop} {L:Locks} {hp:Hp} {cl:CallT}
theorem b1t {ι : Type} {c:Code} (I : ι → Act→World→Prop) (μ : ι → Nat) (i : ι) (h₀ : I i a w)
  (round : ∀i a w,I i a w→c.wp P (Exit.then (fun a' w' => ∃i',I i' a' w' ∧ μ i' < μ i) Q) a w):(Code.loop c).wp P Q a w:=by
 intro b k cs
 have key : ∀n i a w,μ i=n→I i a w →
   ∃e a' w',Q e a' w'∧Arrives P (lone (b.at a (.code c :: .inLoop c::k)) cs w) b k cs e a' w':=by
  intro n
  induction n using Nat.strongRecOn with
  |_ n ih =>
   intro i a w hn hI
   obtain⟨e,a₁,w₁,hq,harr⟩:=round i a w hI b (.inLoop c::k) cs
   cases e with
   |normal =>
    obtain⟨i',hI₁,hlt⟩:=hq
    obtain⟨e₂,a₂,w₂,hq₂,harr₂⟩:=ih (μ i') (hn▸hlt) i' a₁ w₁ rfl hI₁
    exact⟨e₂,a₂,w₂,hq₂,.of_steps (Steps.trans harr (.one step_inLoop)) harr₂⟩
   |exit id=>exact⟨_,a₁,w₁,hq,.pass (x := .inLoop c) rfl (fun _ _ => .inl (by simp)) harr⟩
   |goto l=>exact⟨_,a₁,w₁,hq,.pass (x := .inLoop c) rfl (fun _ _ => .inl (by simp)) harr⟩
   |ret=>exact⟨_,a₁,w₁,hq,.pass (x := .inLoop c) rfl (fun _ _ => .inl (by simp)) harr⟩
   |panic ch=>exact⟨_,a₁,w₁,hq,.pass (x := .inLoop c) rfl (fun _ _ => .inl (by simp)) harr⟩
   |outgrown=>exact⟨_,a₁,w₁,hq,.pass (x := .inLoop c) rfl (fun _ _ => .inl (by simp)) harr⟩
 obtain⟨e,a',w',hq,harr⟩:=key _ i a w rfl h₀
 exact⟨e,a',w',hq,.of_steps (.one step_loop) harr⟩
theorem a8U (hmx:P.follows .mixedOrders=true) (hsp:Z4 P ctx.spec) (hcl:ClOk P cl) (hty:TyOk P ctx.ty) : ∀(c:Code) (a:Act) (w:World) (e:Env) (σ : St) (Q:Ex→St→Prop),codeOk ctx.plan c=true→a.defers = []→a.tmps.size=ctx.nt→Rel B e w a.tmps σ → vc ctx L cl c σ Q →
  c.wp P (QM B ctx.nt Q) a w:=by
 intro c
 induction c with
 |skip=>exact fun a w e σ Q hok hA hn h hm=>wp_skip ⟨hA,hn,e,σ,h,hm⟩
 |region id ops draw =>
  intro a w e σ Q hok hA hn h hm
  simp only[vc]at hm
  cases draw with
  |true =>
   simp only[if_true]at hm
   exact c0e hmx hsp hcl hty hA hn h (by simpa [codeOk]using hok) hm fun a w hat=>hat
  |false =>
   simp only[Bool.false_eq_true,if_false]at hm
   refine wp_region ?_
   have:=a7P (Q:=QM B ctx.nt Q) hcl hty ops.toList 0 (fun j o hj=>by simpa using hj) a w e σ _ hA hn h hm (fun a w hat=>hat)
   rw[List.range_eq_range']
   simpa using this
 |seq x y ihx ihy =>
  intro a w e σ Q hok hA hn h hm
  simp only[vc]at hm
  simp only[codeOk,Bool.and_eq_true]at hok
  refine wp_seq ?_
  split at hm
  ·refine wp_mono (ihx a w e σ _ hok.1 hA hn h hm) fun ex a' w' hq => ?_
   cases ex<;>try exact hq
   obtain⟨hA',hn',e',σ',h',hm'⟩:=hq
   exact ihy a' w' e' σ' Q hok.2 hA' hn' h' hm'
  ·rename_i A hcut
   refine wp_mono (ihx a w e σ _ hok.1 hA hn h hm.1) fun ex a' w' hq => ?_
   cases ex<;>try exact hq
   obtain⟨hA',hn',e',σ',h',hm'⟩:=hq
   obtain⟨e2,σ2,h2,⟨i,hc,hmt⟩⟩:=O4 _ _ _ _ _ h' hm'
   exact ihy a' w' e2 _ Q hok.2 hA' hn' (a1D h2 hmt) (hm.2 i hc)
 |cond c x y ihx ihy =>
  intro a w e σ Q hok hA hn h hm
  have hc:=p6 h c
  simp only[codeOk,Bool.and_eq_true]at hok
  simp only[vc]at hm
  split at hm
  ·rename_i hce
   rw[hce]at hc
   exact wp_cond_true (a0w hc) (ihx a w e σ Q hok.1 hA hn h hm)
  ·rename_i hce
   rw[hce]at hc
   exact wp_cond_false (a0w hc) (ihy a w e σ Q hok.2 hA hn h hm)
  ·rename_i f hce
   rw[hce]at hc
   exact wp_cond_split (a0w hc) (fun ht=>ihx a w e σ Q hok.1 hA hn h (hm.1 ht)) (fun hf=>ihy a w e σ Q hok.2 hA hn h (hm.2 hf))
  ·exact hm.elim
 |block id b ih =>
  intro a w e σ Q hok hA hn h hm
  simp only[vc]at hm
  refine wp_block (wp_mono (ih a w e σ _ hok hA hn h hm) fun ex a' w' hq => ?_)
  cases ex<;>try exact hq
  rename_i id'
  obtain⟨hA',hn',e',σ',h',hm'⟩:=hq
  simp only[Exit.inBlock]
  simp only at hm'
  split
  ·rename_i hid
   rw[if_pos hid]at hm'
   exact⟨hA',hn',e',σ',h',hm'⟩
  ·rename_i hid
   rw[if_neg hid]at hm'
   exact⟨hA',hn',e',σ',h',hm'⟩
 |loop b ih =>
  intro a w e σ Q hok hA hn h hm
  simp only[vc]at hm
  split at hm
  ·rename_i A hA0
   obtain⟨hin,hround⟩:=hm
   obtain⟨e0,σ0,h0,⟨i0,hc0,hm0⟩⟩:=O4 _ _ _ _ _ h hin
   refine b1t (fun i a w=>At B ctx.nt (fun σ'=>A.cond σ i () ∧ σ'=A.st σ i) a w) (fun i=>A.meas σ i ()) i0 ⟨hA,hn,e0,_,a1D h0 hm0,hc0,rfl⟩ fun i a w hI => ?_
   obtain⟨hA',hn',e',σ',h',hc,rfl⟩:=hI
   refine wp_mono (ih a w e' _ _ hok hA' hn' h' (hround i hc)) fun ex a' w' hq => ?_
   cases ex<;>try exact hq
   obtain⟨hA2,hn2,e2,σ2,h2,hm2⟩:=hq
   obtain⟨e3,σ3,h3,⟨i',hc',hd',hmt⟩⟩:=O4 _ _ _ _ _ h2 hm2
   exact⟨i',⟨hA2,hn2,e3,_,a1D h3 hmt,hc',rfl⟩,hd'⟩
  ·exact hm.elim
 |exit id=>exact fun a w e σ Q hok hA hn h hm=>wp_exit ⟨hA,hn,e,σ,h,hm⟩
 |ret=>exact fun a w e σ Q hok hA hn h hm=>wp_ret ⟨hA,hn,e,σ,h,hm⟩
 |_=>exact fun a w e σ Q hok hA hn h hm=>by simp only[vc]at hm
end
end Go.Sx
