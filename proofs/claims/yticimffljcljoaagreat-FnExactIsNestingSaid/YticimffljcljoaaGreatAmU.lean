/- The abstract machine: calls that write rows of the caller's. No condition. -/
import Derived.Test.YticimffljcljoaaGreatAmS
set_option linter.unusedVariables false
set_option linter.unusedSimpArgs false
namespace Go.Proofs.YticimffljcljoaaGreatM
open Go Go.RowKit
section
variable {P : Program} {N : Nat} {w0 : World} {S : Fx} {s : St} {w w1 : World} {a : Act} {ρ : Nat → Value} {F : Nat → Nat → Prop} {o : Oper}
theorem own_len {G G':Nat→Prop} {e e':TypeId} {css css':List (List DV)} {v:Value} (h:Own P w G (.row e css) v) (h':Own P w1 G' (.row e' css') v):css'.length=css.length:=by
 obtain ⟨fl,Fs,how,_⟩:=h.row_inv
 obtain ⟨fl',Fs',how',_⟩:=h'.row_inv
 rcases how.2 with ⟨h1,h2⟩|⟨g,cap,cur,h1,_⟩
 ·rcases how'.2 with ⟨h3,h4⟩|⟨g',cap',cur',h3,_⟩
  ·rw [h2,h4]
  ·rw [h1] at h3; cases h3
 ·rcases how'.2 with ⟨h3,h4⟩|⟨g',cap',cur',h3,_⟩
  ·rw [h1] at h3; cases h3
  ·rw [h1] at h3; injection h3 with h3 h4 h5; exact h4.symm
theorem uses_freshB {ok:Nat→Prop} {m:Nat→Option Cont} {c:Cell} {u:Value} {B:Nat→Bool} (hB:∀ κ,B κ=true→m κ=none) (h:CellRel P w ok m ρ c u) (hd:c ≠ .dead):c.uses B=false:=by
 have hne:∀ κ',m κ'≠none→B κ'=false:=fun κ' h=>by
  cases hb:B κ' with
  | false=>rfl
  | true=>exact absurd (hB κ' hb) h
 cases c with
 | d x=>rfl
 | own κ' n=>obtain ⟨⟨e,css,h1,_⟩,_⟩:=h; exact hne κ' (by rw [h1]; simp)
 | sub κ' i j n=>obtain ⟨e,css,_,_,_,_,_,_,h1,_⟩:=h; exact hne κ' (by rw [h1]; simp)
 | sptr κ' i j n q=>obtain ⟨_,_,_,⟨e,css,_,_,_,_,_,_,h1,_⟩,_⟩:=h; exact hne κ' (by rw [h1]; simp)
 | cut κ' lo n=>obtain ⟨e,css,_,_,h1,_⟩:=h; exact hne κ' (by rw [h1]; simp)
 | ptr κ' off=>obtain ⟨ty,cs,g,h1,_⟩:=h; exact hne κ' (by rw [h1]; simp)
 | eptr κ' i off=>obtain ⟨e,css,_,_,_,h1,_⟩:=h; exact hne κ' (by rw [h1]; simp)
 | fnc f κs=>
  obtain ⟨h1,_⟩:=h
  show κs.any _=false
  rw [List.any_eq_false]
  intro κ' hk
  obtain ⟨ty,cs,h2⟩:=h1 κ' hk
  rw [hne κ' (by rw [h2]; simp)]
  simp
 | dead=>exact absurd rfl hd
def someL (ck:List (Nat×Cont)):List (Nat×Option Cont):=ck.map fun p=>(p.1,some p.2)
theorem lk_someL (ck:List (Nat×Cont)) (κ:Nat):lk (someL ck) κ=(lk ck κ).map some:=by
 induction ck with
 | nil=>rfl
 | cons p r ih=>
  obtain ⟨k,c⟩:=p
  show cond (Nat.beq k κ) (some (some c)) (lk (someL r) κ)=(cond (Nat.beq k κ) (some c) (lk r κ)).map some
  cases Nat.beq k κ with
  | true=>rfl
  | false=>exact ih
theorem RelE.turned (hr:RelE P N w0 S s a w ρ F) {ms nk ck:List (Nat×Cont)} {ρ':Nat→Value} {F':Nat→Nat→Prop} (σ:Nat→Nat) (hfr:Fr (fun k=>∃ κ,lk ck κ≠none∧F κ k) w w1) (hrows:Rows P w1 ms ρ' F')
  (hnew:∀ κ k,lk ms κ≠none→F' κ k→w.heap.size≤k∨∃ κ',lk ck κ'≠none∧F κ' k) (hsame:∀ κ c,lk ck κ=some c→∃ e css css',c = .row e css'∧s.m κ=some (.row e css)) (hρ:∀ κ,lk ck κ≠none→ρ' (σ κ)=ρ κ)
  (hn:preN s nk) (hnk:nkOk ms σ nk) (hck:nkOk ms σ ck) (hinj:∀ κ κ',(lk ck κ≠none∨lk nk κ≠none)→(lk ck κ'≠none∨lk nk κ'≠none)→σ κ=σ κ'→κ=κ') (hrow:∀ κ c,lk nk κ=some c→rowB c=true∧100≤κ):
  ∃ ρ1 F1,RelE P N w0 S ⟨killT s.t [] (ck.map (·.1)),putK (killK s.m [] (ck.map (·.1))) nk (someL ck)⟩ a w1 ρ1 F1∧(∀ κ,lk nk κ≠none→ρ1 κ=ρ' (σ κ)):=by
 have hnn:∀ κ,lk nk κ≠none→s.m κ=none:=fun κ h=>by
  refine preN_spec hn κ ?_
  apply Classical.byContradiction
  intro hh
  exact h (lk_none hh)
 have hcl:∀ κ,lk ck κ≠none→s.m κ≠none:=fun κ h=>by
  cases hc:lk ck κ with
  | none=>exact absurd hc h
  | some c=>obtain ⟨e,css,css',_,h2⟩:=hsame κ c hc; rw [h2]; simp
 let K:Nat→Bool:=fun κ=>(lk ck κ).isSome || (lk nk κ).isSome
 have hK:∀ κ,K κ=true↔lk ck κ≠none∨lk nk κ≠none:=fun κ=>by
  show ((lk ck κ).isSome || (lk nk κ).isSome)=true↔_
  cases lk ck κ <;> cases lk nk κ <;> simp
 have hKf:∀ κ,K κ=false→lk ck κ=none∧lk nk κ=none:=fun κ h=>by
  have h2:((lk ck κ).isSome || (lk nk κ).isSome)=false:=h
  cases h3:lk ck κ <;> cases h4:lk nk κ <;> simp_all
 let p:Cell→Bool:=inK [] (ck.map (·.1))
 have hkk:∀ κ,killK s.m [] (ck.map (·.1)) κ=(s.m κ).map (Cont.kill p):=fun κ=>(killK_eq hr [] (ck.map (·.1)) (fun c u _ _=>rfl) κ).symm
 have hput:∀ κ,K κ=false→putK (killK s.m [] (ck.map (·.1))) nk (someL ck) κ=(s.m κ).map (Cont.kill p):=fun κ h=>by
  unfold putK
  rw [(hKf κ h).2,lk_someL,(hKf κ h).1]
  exact hkk κ
 have hputn:∀ κ c,lk nk κ=some c→putK (killK s.m [] (ck.map (·.1))) nk (someL ck) κ=some c:=fun κ c h=>by unfold putK; rw [h]
 have hputc:∀ κ c,lk ck κ=some c→putK (killK s.m [] (ck.map (·.1))) nk (someL ck) κ=some c:=fun κ c h=>by
  have:lk nk κ=none:=by
   cases hc:lk nk κ with
   | none=>rfl
   | some c2=>exact absurd (hnn κ (by rw [hc]; simp)) (hcl κ (by rw [h]; simp))
  unfold putK
  rw [this,lk_someL,h]
  rfl
 have hlive:∀ κ,K κ=false→putK (killK s.m [] (ck.map (·.1))) nk (someL ck) κ≠none→s.m κ≠none:=fun κ h hn h0=>hn (by rw [hput κ h,h0]; rfl)
 have hms:∀ κ,K κ=true→lk ms (σ κ)≠none:=fun κ h=>by
  rcases (hK κ).1 h with h1|h1
  ·cases hc:lk ck κ with
   | none=>exact absurd hc h1
   | some c=>rw [nkOk_spec hck κ c hc]; simp
  ·cases hc:lk nk κ with
   | none=>exact absurd hc h1
   | some c=>rw [nkOk_spec hnk κ c hc]; simp
 let ρ1:Nat→Value:=fun κ=>if K κ=true then ρ' (σ κ) else ρ κ
 let F1:Nat→Nat→Prop:=fun κ=>if K κ=true then F' (σ κ) else F κ
 have hρ1c:∀ κ,lk ck κ≠none→ρ1 κ=ρ κ:=fun κ h=>by
  show (if K κ=true then ρ' (σ κ) else ρ κ)=ρ κ
  rw [if_pos ((hK κ).2 (.inl h)),hρ κ h]
 have hρ1f:∀ κ,K κ=false→ρ1 κ=ρ κ:=fun κ h=>by show (if K κ=true then _ else _)=_; rw [h]; rfl
 have hF1f:∀ κ,K κ=false→F1 κ=F κ:=fun κ h=>by show (if K κ=true then _ else _)=_; rw [h]; rfl
 have hF1t:∀ κ,K κ=true→F1 κ=F' (σ κ):=fun κ h=>by show (if K κ=true then _ else _)=_; rw [h]; rfl
 have hT:∀ κ k,K κ=false→s.m κ≠none→F κ k→¬ ∃ κ',lk ck κ'≠none∧F κ' k:=fun κ k h h1 h2 ⟨κ',h3,h4⟩=>by
  have:=hr.apart κ κ' k h1 (hcl κ' h3) h2 h4
  subst this
  exact h3 (hKf κ h).1
 have hokm:∀ k,okm s.m F k→k < w.heap.size→(¬ ∃ κ',lk ck κ'≠none∧F κ' k)∧okm (putK (killK s.m [] (ck.map (·.1))) nk (someL ck)) F1 k:=fun k hk hlt=>by
  refine ⟨fun ⟨κ',h3,h4⟩=>hk κ' (hcl κ' h3) h4,fun κ hn hF=>?_⟩
  cases hKκ:K κ with
  | false=>rw [hF1f κ hKκ] at hF; exact hk κ (hlive κ hKκ hn) hF
  | true=>
   rw [hF1t κ hKκ] at hF
   rcases hnew (σ κ) k (hms κ hKκ) hF with h1|⟨κ',h1,h2⟩
   ·omega
   ·exact hk κ' (hcl κ' h1) h2
 have hother:=cell_other (m1:=putK (killK s.m [] (ck.map (·.1))) nk (someL ck)) (F1:=F1) (ρ1:=ρ1) (K:=K) hr hfr hT hokm (fun κ h=>⟨fun e css he=>by rw [hput κ h,he]; rfl,fun ty cs he=>⟨_,by rw [hput κ h,he]; rfl⟩⟩) hρ1f
 have hnewrow:∀ κ c,lk ck κ=some c→∃ e css css',c = .row e css'∧s.m κ=some (.row e css)∧css'.length=css.length∧Own P w1 (F' (σ κ)) (.row e css') (ρ κ):=fun κ c hc=>by
  obtain ⟨e,css,css',rfl,h2⟩:=hsame κ c hc
  have h3:Own P w1 (F' (σ κ)) (.row e css') (ρ' (σ κ)):=hrows.mem (σ κ) _ (nkOk_spec hck κ _ hc)
  rw [hρ κ (by rw [hc]; simp)] at h3
  exact ⟨e,css,css',rfl,h2,own_len (hr.mem κ _ h2) h3,h3⟩
 have hcell:∀ c u,p c=false→CellRel P w (okm s.m F) s.m ρ c u→CellRel P w1 (okm (putK (killK s.m [] (ck.map (·.1))) nk (someL ck)) F1) (putK (killK s.m [] (ck.map (·.1))) nk (someL ck)) ρ1 c u:=by
  intro c u hp hc
  by_cases hdead:c = .dead
  ·subst hdead; exact True.intro
  have hB:c.uses (fun κ=>(lk nk κ).isSome)=false:=uses_freshB (fun κ h=>hnn κ (by cases h2:lk nk κ with|none=>rw [h2] at h; cases h|some _=>simp)) hc hdead
  by_cases hA:c.uses (fun κ=>(lk ck κ).isSome)=false
  ·exact hother c u (by show c.uses (fun κ=>(lk ck κ).isSome || (lk nk κ).isSome)=false; rw [usesOr,hA,hB]; rfl) hc
  ·have hA':c.uses (fun κ=>(lk ck κ).isSome)=true:=by simpa using hA
   have hsome:∀ κ,(lk ck κ).isSome=true→∃ c0,lk ck κ=some c0:=fun κ h=>Option.isSome_iff_exists.1 h
   cases c with
   | d x=>simp [Cell.uses] at hA'
   | dead=>exact absurd rfl hdead
   | own κ n=>
    obtain ⟨c0,h0⟩:=hsome κ hA'
    obtain ⟨e,css,css',rfl,h2,h3,h4⟩:=hnewrow κ c0 h0
    obtain ⟨⟨e1,css1,q1,q2⟩,q3,q4⟩:=hc
    rw [h2] at q1
    injection q1 with q1
    injection q1 with q1 q1'
    subst q1 q1'
    exact ⟨⟨e,css',hputc κ _ h0,h3.trans q2⟩,by rw [hρ1c κ (by rw [h0]; simp)]; exact q3,q4⟩
   | cut κ lo n=>
    obtain ⟨c0,h0⟩:=hsome κ hA'
    obtain ⟨e,css,css',rfl,h2,h3,h4⟩:=hnewrow κ c0 h0
    obtain ⟨e1,css1,A,c',q1,q2,q3,q4,q5⟩:=hc
    rw [h2] at q1
    injection q1 with q1
    injection q1 with q1 q1'
    subst q1 q1'
    exact ⟨e,css',A,c',hputc κ _ h0,by omega,q3,q4,q5.1,fun hpos=>by rw [hρ1c κ (by rw [h0]; simp)]; exact q5.2 hpos⟩
   | eptr κ i off=>
    obtain ⟨c0,h0⟩:=hsome κ hA'
    obtain ⟨e,css,css',rfl,h2,h3,h4⟩:=hnewrow κ c0 h0
    obtain ⟨e1,css1,g,n',c',q1,q2,q3,q4⟩:=hc
    rw [h2] at q1
    injection q1 with q1
    injection q1 with q1 q1'
    subst q1 q1'
    exact ⟨e,css',g,n',c',hputc κ _ h0,by omega,by rw [hρ1c κ (by rw [h0]; simp)]; exact q3,q4⟩
   | sub κ i j n=>
    obtain ⟨c0,h0⟩:=hsome κ hA'
    have:p (.sub κ i j n)=true:=by
     show inK [] (ck.map (·.1)) (.sub κ i j n)=true
     have hm:κ∈ck.map (·.1):=List.mem_map.2 ⟨(κ,c0),lk_memP h0,rfl⟩
     unfold inK
     simp only [Bool.or_eq_true]
     exact .inr (by simpa [subIn] using hm)
    rw [this] at hp; cases hp
   | sptr κ i j n q=>
    obtain ⟨c0,h0⟩:=hsome κ hA'
    have:p (.sptr κ i j n q)=true:=by
     show inK [] (ck.map (·.1)) (.sptr κ i j n q)=true
     have hm:κ∈ck.map (·.1):=List.mem_map.2 ⟨(κ,c0),lk_memP h0,rfl⟩
     unfold inK
     simp only [Bool.or_eq_true]
     exact .inr (by simpa [subIn] using hm)
    rw [this] at hp; cases hp
   | ptr κ off=>
    obtain ⟨c0,h0⟩:=hsome κ hA'
    obtain ⟨e,css,css',rfl,h2,h3,h4⟩:=hnewrow κ c0 h0
    obtain ⟨ty,cs,g,q1,_⟩:=hc
    rw [h2] at q1; cases q1
   | fnc f κs=>
    obtain ⟨q1,_⟩:=hc
    obtain ⟨κ,h5,h6⟩:=List.any_eq_true.1 hA'
    obtain ⟨c0,h0⟩:=hsome κ h6
    obtain ⟨e,css,css',rfl,h2,h3,h4⟩:=hnewrow κ c0 h0
    obtain ⟨ty,cs,q2⟩:=q1 κ h5
    rw [h2] at q2; cases q2
 have hrel:=hr.change (m1:=putK (killK s.m [] (ck.map (·.1))) nk (someL ck)) (ρ1:=ρ1) (F1:=F1) p hfr (fun k ⟨κ',h3,h4⟩=>hr.base κ' k (hcl κ' h3) h4) hcell (fun κ c hc=>?_) (fun κ κ' k h1 h2 h3 h4=>?_) (fun κ k h1 h2=>?_) (fun κ hlt h1=>?_)
 ·rw [killT_eq hr [] (ck.map (·.1)) (fun c u _ _=>rfl)] at hrel
  refine ⟨ρ1,F1,hrel,fun κ h=>?_⟩
  show (if K κ=true then ρ' (σ κ) else ρ κ)=_
  rw [if_pos ((hK κ).2 (.inr h))]
 ·cases hKκ:K κ with
  | false=>
   rw [hput κ hKκ] at hc
   obtain ⟨c0,h0,rfl⟩:=Option.map_eq_some_iff.1 hc
   exact (hr.mem κ c0 h0).other hcell (hρ1f κ hKκ) (hF1f κ hKκ) hfr (fun k hk=>hT κ k hKκ (by rw [h0]; simp) hk)
  | true=>
   cases hck2:lk ck κ with
   | some c0=>
    obtain ⟨e,css,css',rfl,h2,h3,h4⟩:=hnewrow κ c0 hck2
    rw [hputc κ _ hck2] at hc
    injection hc with hc
    subst hc
    show Own P w1 (F1 κ) (.row e css') (ρ1 κ)
    rw [hF1t κ hKκ,hρ1c κ (by rw [hck2]; simp)]
    exact h4
   | none=>
    cases hnk2:lk nk κ with
    | none=>exact absurd ((hK κ).1 hKκ) (by simp [hck2,hnk2])
    | some c0=>
     rw [hputn κ _ hnk2] at hc
     injection hc with hc
     subst hc
     have h1:=hrows.mem (σ κ) c0 (nkOk_spec hnk κ c0 hnk2)
     cases c0 with
     | box ty cs=>have:=(hrow κ _ hnk2).1; cases this
     | row e css=>
      show Own P w1 (F1 κ) (.row e css) (if K κ=true then ρ' (σ κ) else ρ κ)
      rw [hF1t κ hKκ,if_pos hKκ]
      exact h1
 ·have mix:∀ κ κ',K κ=true→K κ'=false→putK (killK s.m [] (ck.map (·.1))) nk (someL ck) κ'≠none→F1 κ k→F1 κ' k→False:=fun κ κ' g1 g2 g3 g4 g5=>by
   rw [hF1t κ g1] at g4
   rw [hF1f κ' g2] at g5
   rcases hnew (σ κ) k (hms κ g1) g4 with h5|h5
   ·have:=hr.lt (hlive κ' g2 g3) g5; omega
   ·exact hT κ' k g2 (hlive κ' g2 g3) g5 h5
  cases h5:K κ with
  | true=>
   cases h6:K κ' with
   | true=>
    rw [hF1t κ h5] at h3
    rw [hF1t κ' h6] at h4
    exact hinj κ κ' ((hK κ).1 h5) ((hK κ').1 h6) (hrows.apart (σ κ) (σ κ') k (hms κ h5) (hms κ' h6) h3 h4)
   | false=>exact (mix κ κ' h5 h6 h2 h3 h4).elim
  | false=>
   cases h6:K κ' with
   | true=>exact (mix κ' κ h6 h5 h1 h4 h3).elim
   | false=>
    rw [hF1f κ h5] at h3
    rw [hF1f κ' h6] at h4
    exact hr.apart κ κ' k (hlive κ h5 h1) (hlive κ' h6 h2) h3 h4
 ·cases h5:K κ with
  | false=>rw [hF1f κ h5] at h2; exact hr.base κ k (hlive κ h5 h1) h2
  | true=>
   rw [hF1t κ h5] at h2
   rcases hnew (σ κ) k (hms κ h5) h2 with h6|⟨κ',h6,h7⟩
   ·exact .inl (Nat.le_trans hr.frame.size h6)
   ·exact hr.base κ' k (hcl κ' h6) h7
 ·cases h5:K κ with
  | false=>rw [hρ1f κ h5]; exact hr.pin κ hlt (hlive κ h5 h1)
  | true=>
   rcases (hK κ).1 h5 with h6|h6
   ·rw [hρ1c κ h6]; exact hr.pin κ hlt (hcl κ h6)
   ·cases hnk2:lk nk κ with
    | none=>exact absurd hnk2 h6
    | some c0=>have:=(hrow κ _ hnk2).2; omega
end
end Go.Proofs.YticimffljcljoaaGreatM
