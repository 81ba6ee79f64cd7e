/- The abstract machine's stores into elements and appends as steps of a region. No condition. -/
import Derived.Test.YticimffljcljoaaGreatAmM
set_option linter.unusedVariables false
set_option linter.unusedSimpArgs false
namespace Go.Proofs.YticimffljcljoaaGreatM
open Go Go.RowKit
section
variable {P : Program} {N : Nat} {w0 : World} {S : Fx} {o : Oper} {ops : Array Oper} {draw : Bool} {pre : List (Oper × Eff)} {rest : List Oper} {t : Nat → AV} {m : Nat → Option Cont} {K : St → Prop} {G : List (Operand × AV)} {d : Nat}
theorem a_stE {e e0:TypeId} {p x:Operand} {z b:Nat} {zz:List Value} {g:Bool} {κ i off:Nat} {css css':List (List DV)} {cs ds:List DV} {xs:List Cell} {D:List Nat} {v:AV} (k:RM P N w0 S draw ops pre rest t m K o G [(p,.c (.eptr κ i off)),(x,v)] ((κ,.row e0 css)::rdk m D) none [] ((κ,some (.row e0 css'))::noneL D) D [κ]) (hi:css[i]?=some cs) (hti:tyi P e=some (z,b,zz,g)) (ho:o.op = .store e p x:=by rfl) (hd:o.dst=none:=by rfl) (hp:St.ev ⟨t,m⟩ p = .c (.eptr κ i off):=by rfl) (hm:m κ=some (.row e0 css):=by rfl) (hx:St.ev ⟨t,m⟩ x=v:=by rfl) (hxs:v.cells=some xs:=by rfl) (hds:cellsDV m xs=some ds:=by rfl) (hD:ownKeys xs=D:=by rfl) (hcss:css.set i (putL cs off ds)=css':=by rfl) (hok:xs.all Cell.okc=true:=by rfl) (hnd:D.Nodup:=by decide) (hκ:κ∉D:=by decide) (hl:xs.length=z:=by rfl) (hb:Nat.ble (off+z) cs.length=true:=by rfl) (hg:Gs ops o ⟨t,m⟩ G:=by exact Gs.no rfl):RA P N w0 S draw ops pre (o::rest) ⟨t,m⟩ K:=
 RA.mem hg k ⟨hp,hx,True.intro⟩ ⟨hm,preK_rdk t m D⟩ True.intro (fun s hs hk _=>by
  subst hD
  have:=s_storeElt (P:=P) (N:=N) (w0:=w0) (S:=S) (s:=s) (xs:=xs) (ds:=ds) ho hti hs.1 hk.1 hi (by rw [hs.2.1]; exact hxs) hok (cellsDV_congr hds (rdk_spec hk.2)) hnd hκ hl (ble hb) hd
  rw [hcss] at this
  exact this)
theorem s_append {s:St} {x y:Operand} {T e:TypeId} {z b:Nat} {zz:List Value} {g:Bool} {κ n:Nat} {css css2:List (List DV)} {D:List Nat} (ho:o.op = .call { callee := .builtin .append,args:=#[x,y],argTypes:=#[T,T] }) (hx:s.ev x = .c (.own κ n)) (hm:s.m κ=some (.row e css)) (hbig:100≤κ) (hD:κ∉D)
  (hs:∀ a w ρ F,RelE P N w0 S s a w ρ F→Src P w s F e D css2 (a.eval y)) (hu:P.underlying T=some (.slice e)) (hti:tyi P e=some (z,b,zz,g)) (hzz:zz.length=z) (h63:css.length+css2.length≤maxLen) (hb:(css.length+css2.length)*b≤140737488355328) (hd:o.dst=some d) (hN:d < N):
  SoundOp P N w0 S o s ⟨putT (killT s.t (κ::D) []) (some (d,.c (.own κ (css++css2).length))),putK (killK s.m (κ::D) []) [] ((κ,some (.row e (css++css2)))::noneL D)⟩:=by
 rintro a w ⟨ρ,F,hr⟩
 have hx1:=hr.ev x
 rw [hx] at hx1
 obtain ⟨_,hx2,_⟩:=rel_own hx1
 obtain ⟨v',w',Fκ,h1,h2,h3,h4⟩:=own_app hr (ty:=o.type) hm hD (hs a w ρ F hr) hu hti hzz h63 hb
 unfold Oper.wp execOp
 simp only [ho,resolve,invoke,builtin,Sem.run_bind,Sem.run_pure,Result.andThen_ok,List.map_toArray,List.map_cons,List.map_nil,hx2,h1]
 show Rel P N w0 S _ (a.put o.dst _) _
 have hk1:∀ c:Cell,c.uses (fun x=>x == κ)=true→inK (κ::D) [] c=true:=fun c hc=>by
  have:c.uses (fun k=>(κ::D).contains k)=(c.uses (fun x=>x == κ) || c.uses fun x=>D.contains x):=by
   rw [← usesOr]; congr 1
  unfold inK; rw [this,hc]; rfl
 have:=row_write hr hm D (contains_nmem hD) (inK (κ::D) []) (fun c hc=>by
  have:c.uses (fun k=>(κ::D).contains k)=(c.uses (fun x=>x == κ) || c.uses fun x=>D.contains x):=by
   rw [← usesOr]; congr 1
  unfold inK; rw [this,hc]; simp) h3 (fun k hk=>(h4 k hk).imp id (fun h=>h.imp (fun ⟨κ',q1,q2,q3⟩=>⟨κ',by simpa using q1,q2,q3⟩) id)) h2 (fun h=>by omega) (.inl ⟨fun n=>hk1 _ (by simp [Cell.uses]),fun lo n=>hk1 _ (by simp [Cell.uses]),fun i off=>hk1 _ (by simp [Cell.uses])⟩) (fun i j n=>hk1 _ (by simp [Cell.uses])) (fun i j n q=>hk1 _ (by simp [Cell.uses]))
 rw [hd]
 have he:(⟨fun n=>(s.t n).kill (inK (κ::D) []),upd (fun κ'=>if D.contains κ' then none else (s.m κ').map (Cont.kill (inK (κ::D) []))) κ (some (.row e (css++css2)))⟩:St)=
   ⟨killT s.t (κ::D) [],putK (killK s.m (κ::D) []) [] ((κ,some (.row e (css++css2)))::noneL D)⟩:=by
  rw [← put_noneL _ hD]
  rfl
 rw [he] at this
 rw [putT_upd]
 exact ⟨_,_,this.put hN (.c ⟨⟨e,_,by
  show putK _ [] ((κ,some (.row e (css++css2)))::noneL D) κ=_
  rw [← put_noneL _ hD,upd_same],rfl⟩,by rw [upd_same],h2.one⟩)⟩
theorem a_appO {x y:Operand} {T e:TypeId} {z b:Nat} {zz:List Value} {g:Bool} {κ κ2 n n2 n':Nat} {css css2 css':List (List DV)} (k:RM P N w0 S draw ops pre rest t m K o G [(x,.c (.own κ n)),(y,.c (.own κ2 n2))] [(κ,.row e css),(κ2,.row e css2)] (some (d,.c (.own κ n'))) [] [(κ,some (.row e css')),(κ2,none)] [κ,κ2] []) (hti:tyi P e=some (z,b,zz,g)) (h63:n'≤maxLen) (hb:n'*b≤140737488355328) (hu:P.underlying T=some (.slice e)) (ho:o.op = .call { callee := .builtin .append,args:=#[x,y],argTypes:=#[T,T] }:=by rfl) (hd:o.dst=some d:=by rfl) (hN:Nat.blt d N=true:=by rfl) (hx:St.ev ⟨t,m⟩ x = .c (.own κ n):=by rfl) (hm:m κ=some (.row e css):=by rfl) (hy:St.ev ⟨t,m⟩ y = .c (.own κ2 n2):=by rfl) (hm2:m κ2=some (.row e css2):=by rfl) (hc:css++css2=css':=by rfl) (hn:css'.length=n':=by rfl) (hbig:Nat.ble 100 κ=true:=by rfl) (hne:κ∉[κ2]:=by decide) (hzz:zz.length=z:=by rfl) (hg:Gs ops o ⟨t,m⟩ G:=by exact Gs.no rfl):RA P N w0 S draw ops pre (o::rest) ⟨t,m⟩ K:=
 RA.mem hg k ⟨hx,hy,True.intro⟩ ⟨hm,hm2,True.intro⟩ True.intro (fun s hs hk _=>by
  subst hc hn
  rw [List.length_append] at h63 hb
  exact s_append (D:=[κ2]) ho hs.1 hk.1 (ble hbig) hne (fun a w ρ F hr=>by
   have h1:=hr.ev y
   rw [hs.2.1] at h1
   rw [(rel_own h1).2.1]
   exact src_own hr hk.2.1) hu hti hzz h63 hb hd (blt hN))
theorem a_appR {x y:Operand} {T e:TypeId} {z b:Nat} {zz:List Value} {g:Bool} {κ n n':Nat} {css css2 css':List (List DV)} (k:RM P N w0 S draw ops pre rest t m K o G [(x,.c (.own κ n)),(y,vR e css2)] [(κ,.row e css)] (some (d,.c (.own κ n'))) [] [(κ,some (.row e css'))] [κ] []) (hv:∀ cs∈css2,cs.all isV=true) (hti:tyi P e=some (z,b,zz,g)) (h63:n'≤maxLen) (hb:n'*b≤140737488355328) (hu:P.underlying T=some (.slice e)) (ho:o.op = .call { callee := .builtin .append,args:=#[x,y],argTypes:=#[T,T] }:=by rfl) (hd:o.dst=some d:=by rfl) (hN:Nat.blt d N=true:=by rfl) (hx:St.ev ⟨t,m⟩ x = .c (.own κ n):=by rfl) (hm:m κ=some (.row e css):=by rfl) (hy:St.ev ⟨t,m⟩ y=vR e css2:=by rfl) (hc:css++css2=css':=by rfl) (hn:css'.length=n':=by rfl) (hbig:Nat.ble 100 κ=true:=by rfl) (hzz:zz.length=z:=by rfl) (hg:Gs ops o ⟨t,m⟩ G:=by exact Gs.no rfl):RA P N w0 S draw ops pre (o::rest) ⟨t,m⟩ K:=
 RA.mem hg k ⟨hx,hy,True.intro⟩ ⟨hm,True.intro⟩ True.intro (fun s hs hk _=>by
  subst hc hn
  rw [List.length_append] at h63 hb
  exact s_append (D:=[]) ho hs.1 hk.1 (ble hbig) (by simp) (fun a w ρ F hr=>by
   have h1:=hr.ev y
   rw [hs.2.1] at h1
   exact src_flat (rel_row h1) hv) hu hti hzz h63 hb hd (blt hN))
theorem s_nilOwn {s:St} {x:Operand} {e:TypeId} {κ:Nat} (ho:o.op = .move x∨o.op = .assign x) (hx:s.ev x=gV (.slice none 0 0)) (hpos:0 < P.cellsOf e) (hbig:100≤κ) (hκ:s.m κ=none) (hd:o.dst=some d) (hN:d < N):
  SoundOp P N w0 S o s ⟨putT (killT s.t [] []) (some (d,.c (.own κ 0))),putK (killK s.m [] []) [(κ,.row e [])] []⟩:=by
 rintro a w ⟨ρ,F,hr⟩
 have hx1:=hr.ev x
 rw [hx] at hx1
 have hv:a.eval x = .slice none 0 0:=rel_v hx1
 have hown:Own P w (fun _=>False) (.row e []) (.slice none 0 0):=by
  refine .row _ e [] _ [] (fun _ _ _=>False) ⟨by simp,.inl ⟨rfl,rfl⟩⟩ (fun cs hcs=>(by cases hcs)) (fun i j cs d u hi=>(by simp at hi)) (fun _ _ _ _ _ h=>h.elim) (fun _ _ _ h=>h.elim) (fun _ _ _ h=>h.elim) (fun k=>⟨fun h=>h.elim,fun h=>?_⟩) hpos
  rcases h with h|⟨_,_,h⟩
  ·simp [Value.ownBlock] at h
  ·exact h
 have hrel:=fresh_row (D:=[]) hr κ (Fr.refl _ w) (fun k hk=>hk.elim) hown hbig
 have hrun:(execOp a.eval o).run P w = .ok (.value (.slice none 0 0)) w:=by
  unfold execOp
  rcases ho with ho|ho <;> rw [ho] <;> simp [hv]
 unfold Oper.wp
 rw [hrun]
 show Rel P N w0 S _ (a.put o.dst _) _
 have he:=fresh_st (o:=o) hr hκ [] (.row e []) (.c (.own κ 0)) hd
 have h2:noneL []=[]:=rfl
 rw [h2] at he
 rw [← he,hd]
 exact ⟨_,_,hrel.put hN (.c ⟨⟨e,_,newMD_self _ _ _ _,rfl⟩,(upd_same _ _ _).symm,rfl⟩)⟩
theorem a_nilO {x:Operand} {e:TypeId} {z b:Nat} {zz:List Value} {g:Bool} (κ:Nat) (k:RM P N w0 S draw ops pre rest t m K o G [(x,gV (.slice none 0 0))] [] (some (d,.c (.own κ 0))) [(κ,.row e [])] [] [] []) (hti:tyi P e=some (z,b,zz,g)) (ho:o.op = .move x∨o.op = .assign x:=by first|exact .inl rfl|exact .inr rfl) (hd:o.dst=some d:=by rfl) (hN:Nat.blt d N=true:=by rfl) (hbig:Nat.ble 100 κ=true:=by rfl) (hκ:m κ=none:=by rfl) (hx:St.ev ⟨t,m⟩ x=gV (.slice none 0 0):=by rfl) (hz:0 < z:=by decide) (hg:Gs ops o ⟨t,m⟩ G:=by exact Gs.no rfl):RA P N w0 S draw ops pre (o::rest) ⟨t,m⟩ K:=
 RA.mem hg k ⟨hx,True.intro⟩ True.intro ⟨hκ,True.intro⟩ (fun s hs _ hn=>s_nilOwn ho hs.1 (by rw [cellsOf_tyi hti]; exact hz) (ble hbig) hn.1 hd (blt hN))
end
end Go.Proofs.YticimffljcljoaaGreatM
