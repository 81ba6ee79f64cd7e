/- The abstract machine: calls that write rows of the caller's. No condition. -/
import Derived.Test.YticimffljcljoaaGreatAmX
set_option linter.unusedVariables false
set_option linter.unusedSimpArgs false
namespace Go.Proofs.YticimffljcljoaaGreatM
open Go Go.RowKit
def sameE:Cont→Option Cont→Bool
 | .row e _,some (.row e' _)=>Nat.beq e e'
 | _,_=>false
def okM (τ σ:Nat→Nat) (as:List AV) (m0 L nk ck:List (Nat×Cont)):Bool:=
 as.all (AV.inL (m0.map (·.1))) && m0.all (fun p=>rowB p.2 && (lk L (τ p.1)).isNone && (lk ck (τ p.1)).isSome && Nat.beq (σ (τ p.1)) p.1) && ck.all (fun p=>Nat.blt (σ p.1) 100 && (lk m0 (σ p.1)).isSome && Nat.beq (τ (σ p.1)) p.1 && sameE p.2 (lk m0 (σ p.1))) && ((ck++nk).map fun p=>σ p.1).Nodup && nk.all fun p=>rowB p.2 && Nat.ble 100 p.1
section
variable {P : Program} {N : Nat} {w0 : World} {S : Fx} {s : St} {w w1 : World} {a : Act} {ρ : Nat → Value} {F : Nat → Nat → Prop} {o : Oper}
theorem MA.rel {L m0:List (Nat×Cont)} {τ:Nat→Nat} (hr:RelE P N w0 S s a w ρ F) (hL:preK s L) (hren:∀ μ c,lk m0 μ=some c→rowB c=true∧s.m (τ μ)=some c) (hdis:∀ μ,lk m0 μ≠none→lk L (τ μ)=none) {v v':AV} (h:MA L τ v v') (hin:v'.inL (m0.map (·.1))=true) {u:Value} (hu:AVRel P w (okm s.m F) s.m ρ v u):
  AVRel P w (okm (lk m0) fun μ=>F (τ μ)) (lk m0) (fun μ=>ρ (τ μ)) v' u:=by
 cases h with
 | c h=>cases hu with|c hu=>exact .c (h.rel hr hL hren hdis hin hu)
 | agg h=>
  cases hu with
  | agg hu=>
   refine .agg ?_
   rename_i cs cs' us
   have hin':cs'.all (Cell.inL (m0.map (·.1)))=true:=hin
   clear hin
   induction h generalizing us with
   | nil=>cases hu; exact .nil
   | cons h1 _ ih=>
    simp only [List.all_cons,Bool.and_eq_true] at hin'
    cases hu with
    | cons h2 h3=>exact .cons (h1.rel hr hL hren hdis hin'.1 h2) (ih h3 hin'.2)
theorem argsM {L m0:List (Nat×Cont)} {τ:Nat→Nat} {s0:St} (hr:RelE P N w0 S s a w ρ F) (hL:preK s L) (hren:∀ μ c,lk m0 μ=some c→rowB c=true∧s.m (τ μ)=some c) (hdis:∀ μ,lk m0 μ≠none→lk L (τ μ)=none):∀ {xs:List Operand} {as:List AV},(∀ x∈xs,s.ev x=s0.ev x)→as.all (AV.inL (m0.map (·.1)))=true→All2 (MA L τ) (xs.map s0.ev) as→All2 (AVRel P w (okm (lk m0) fun μ=>F (τ μ)) (lk m0) fun μ=>ρ (τ μ)) as (xs.map a.eval)
 | [],as,_,_,h=>by cases h; exact .nil
 | x::r,as,he,hi,h=>by
  cases h with
  | cons h1 h2=>
   simp only [List.all_cons,Bool.and_eq_true] at hi
   exact .cons (h1.rel hr hL hren hdis hi.1 (by rw [← he x List.mem_cons_self]; exact hr.ev x)) (argsM hr hL hren hdis (fun y hy=>he y (List.mem_cons_of_mem _ hy)) hi.2 h2)
theorem lk_key {α:Type} {l:List (Nat×α)} {κ:Nat} (h:lk l κ≠none):κ∈l.map (·.1):=by
 apply Classical.byContradiction
 intro hh
 exact h (lk_none hh)
theorem putK_new {m:Nat→Option Cont} {nk:List (Nat×Cont)} {ck:List (Nat×Option Cont)} {κ:Nat} {c:Cont} (h:lk nk κ=some c):putK m nk ck κ=some c:=by
 unfold putK
 rw [h]
theorem s_callM {f:FuncId} {xs:Array Operand} {tys:Array TypeId} {as:List AV} {res v:AV} {m0 ms L nk ck:List (Nat×Cont)} {s0:St} {d:Nat} (ho:o.op = .call { callee := .value (.func f),args:=xs,argTypes:=tys }) (hc:OkF P f as m0 res ms) (τ σ:Nat→Nat) (he:∀ x∈xs.toList,s.ev x=s0.ev x) (ha:All2 (MA L τ) (xs.toList.map s0.ev) as) (hL:preK s L) (hM:∀ μ c,lk m0 μ=some c→s.m (τ μ)=some c) (hn:preN s nk)
  (hnk:nkOk ms σ nk) (hck:nkOk ms σ ck) (hk:okM τ σ as m0 L nk ck=true) (hv1:resA v=true) (hv2:v.inL (nk.map (·.1))=true) (hv:v.mapK σ=res) (hd:o.dst=some d) (hN:d < N):
  SoundOp P N w0 S o s ⟨putT (killT s.t [] (ck.map (·.1))) (some (d,v)),putK (killK s.m [] (ck.map (·.1))) nk (someL ck)⟩:=by
 rintro a w ⟨ρ,F,hr⟩
 unfold okM at hk
 simp only [Bool.and_eq_true,decide_eq_true_eq] at hk
 obtain ⟨⟨⟨⟨k1,k2⟩,k3⟩,k4⟩,k5⟩:=hk
 have m0f:∀ μ c,lk m0 μ=some c→rowB c=true∧lk L (τ μ)=none∧lk ck (τ μ)≠none∧σ (τ μ)=μ:=fun μ c h=>by
  have:=List.all_eq_true.1 k2 (μ,c) (lk_memP h)
  simp only [Bool.and_eq_true] at this
  exact ⟨this.1.1.1,by simpa using this.1.1.2,by intro h0; rw [h0] at this; simp at this,Nat.eq_of_beq_eq_true this.2⟩
 have ckf:∀ κ c,lk ck κ=some c→σ κ < 100∧lk m0 (σ κ)≠none∧τ (σ κ)=κ∧sameE c (lk m0 (σ κ))=true:=fun κ c h=>by
  have:=List.all_eq_true.1 k3 (κ,c) (lk_memP h)
  simp only [Bool.and_eq_true] at this
  exact ⟨blt this.1.1.1,by intro h0; rw [h0] at this; simp at this,Nat.eq_of_beq_eq_true this.1.2,this.2⟩
 have m0n:∀ μ,lk m0 μ≠none→∃ c,lk m0 μ=some c:=fun μ h=>by
  cases hc:lk m0 μ with
  | none=>exact absurd hc h
  | some c=>exact ⟨c,rfl⟩
 have ckn:∀ κ,lk ck κ≠none→∃ c,lk ck κ=some c:=fun κ h=>by
  cases hc:lk ck κ with
  | none=>exact absurd hc h
  | some c=>exact ⟨c,rfl⟩
 obtain ⟨fn,q1,q2,q3⟩:=hc.fn
 have hargs:=argsM hr hL (fun μ c h=>⟨(m0f μ c h).1,hM μ c h⟩) (fun μ h=>by obtain ⟨c,h2⟩:=m0n μ h; exact (m0f μ c h2).2.1) he k1 ha
 have hcall:=hc.run w (xs.toList.map a.eval) (fun μ=>ρ (τ μ)) (fun μ=>F (τ μ)) hargs ⟨fun μ c h=>by
  have h1:=hr.mem (τ μ) c (hM μ c h)
  cases c with
  | box ty cs=>have:=(m0f μ _ h).1; cases this
  | row e css=>exact h1,fun μ μ' k h1 h2 h3 h4=>by
  obtain ⟨c,g1⟩:=m0n μ h1
  obtain ⟨c',g2⟩:=m0n μ' h2
  have:=hr.apart (τ μ) (τ μ') k (by rw [hM μ c g1]; simp) (by rw [hM μ' c' g2]; simp) h3 h4
  rw [← (m0f μ c g1).2.2.2,← (m0f μ' c' g2).2.2.2,this]⟩
 unfold Oper.wp
 rw [run_call ho q1 q2 q3]
 have harr:(xs.toList.map a.eval).toArray=xs.map a.eval:=by
  apply Array.ext'
  simp
 rw [harr] at hcall
 refine Calls.mono hcall (fun e' w' he=>?_)
 obtain ⟨u,ρ',F',rfl,hfr,hu,hrows,hpin,hnew⟩:=he
 have hbl:∀ k,blocks m0 (fun μ=>F (τ μ)) k→∃ κ,lk ck κ≠none∧F κ k:=fun k ⟨μ,h1,h2⟩=>by
  obtain ⟨c,g1⟩:=m0n μ h1
  exact ⟨τ μ,(m0f μ c g1).2.2.1,h2⟩
 have k4':((ck++nk).map (·.1)).map σ |>.Nodup:=by rw [List.map_map]; exact k4
 obtain ⟨ρ1,F1,h1,h2⟩:=hr.turned (ms:=ms) (nk:=nk) (ck:=ck) σ (hfr.mono (fun k hk _=>hbl k hk)) hrows (fun κ k g1 g2=>(hnew κ k g1 g2).imp id (hbl k)) (fun κ c h=>by
   obtain ⟨_,g2,g3,g4⟩:=ckf κ c h
   obtain ⟨c0,g5⟩:=m0n _ g2
   have g6:=hM _ c0 g5
   rw [g3] at g6
   rw [g5] at g4
   cases c with
   | box ty cs=>cases g4
   | row e css'=>
    cases c0 with
    | box ty cs=>cases g4
    | row e0 css=>
     obtain rfl:e=e0:=Nat.eq_of_beq_eq_true g4
     exact ⟨e,css,css',rfl,g6⟩) (fun κ h=>by
   obtain ⟨c,g1⟩:=ckn κ h
   obtain ⟨g2,g3,g4,_⟩:=ckf κ c g1
   have:=hpin (σ κ) g2 (by rw [nkOk_spec hck κ c g1]; simp)
   rw [this,g4]) hn hnk hck (fun κ κ' g1 g2 g3=>by
   have hin:∀ κ,lk ck κ≠none∨lk nk κ≠none→κ∈(ck++nk).map (·.1):=fun κ h=>by
    rw [List.map_append]
    exact h.elim (fun h=>List.mem_append_left _ (lk_key h)) (fun h=>List.mem_append_right _ (lk_key h))
   exact nodup_inj k4' κ (hin κ g1) κ' (hin κ' g2) g3) (fun κ c h=>by
   have:=List.all_eq_true.1 k5 (κ,c) (lk_memP h)
   simp only [Bool.and_eq_true] at this
   exact ⟨this.1,ble this.2⟩)
 subst hv
 show Rel P N w0 S _ (a.put o.dst u) w'
 rw [hd,putT_upd]
 exact ⟨ρ1,F1,h1.put hN (res_rel hnk (fun κ c h=>putK_new h) h2 hv1 hv2 hu)⟩
theorem preK_append {l1 l2:List (Nat×Cont)}:preK s (l1++l2)↔preK s l1∧preK s l2:=by
 induction l1 with
 | nil=>simp [preK]
 | cons p r ih=>simp only [List.cons_append,preK,ih,and_assoc]
variable {ops : Array Oper} {draw : Bool} {pre : List (Oper × Eff)} {rest : List Oper} {t : Nat → AV} {m : Nat → Option Cont} {K : St → Prop} {G : List (Operand × AV)} {d : Nat}
theorem a_callM {f:FuncId} {xs:Array Operand} {tys:Array TypeId} {as:List AV} {res v:AV} {m0 ms L Mk nk ck:List (Nat×Cont)} (k:RM P N w0 S draw ops pre rest t m K o G (rdO ⟨t,m⟩ xs.toList) (L++Mk) (some (d,v)) nk (someL ck) [] (ck.map (·.1))) (ho:o.op = .call { callee := .value (.func f),args:=xs,argTypes:=tys }) (hc:OkF P f as m0 res ms) (τ σ:Nat→Nat)
  (ha:All2 (MA L τ) (xs.toList.map (St.ev ⟨t,m⟩)) as) (hL:preK ⟨t,m⟩ L) (hMk:preK ⟨t,m⟩ Mk) (hn:preN ⟨t,m⟩ nk) (hm0:nkOk Mk τ m0) (hnk:nkOk ms σ nk) (hck:nkOk ms σ ck) (hk:okM τ σ as m0 L nk ck=true) (hv1:resA v=true) (hv2:v.inL (nk.map (·.1))=true)
  (hv:v.mapK σ=res:=by rfl) (hd:o.dst=some d:=by rfl) (hN:Nat.blt d N=true:=by rfl) (hg:Gs ops o ⟨t,m⟩ G:=by exact Gs.no rfl):RA P N w0 S draw ops pre (o::rest) ⟨t,m⟩ K:=
 RA.mem hg k (preT_rdO _ _) (preK_append.2 ⟨hL,hMk⟩) hn (fun s hs hk' hn'=>by
  obtain ⟨h1,h2⟩:=preK_append.1 hk'
  exact s_callM ho hc τ σ (rdO_ev hs) ha h1 (fun μ c h=>preK_spec h2 _ _ (nkOk_spec hm0 μ c h)) hn' hnk hck hk hv1 hv2 hv hd (blt hN))
end
end Go.Proofs.YticimffljcljoaaGreatM
