/- The abstract machine's operations on memory as steps of a region. No condition. -/
import Derived.Test.YticimffljcljoaaGreatAmJ
set_option linter.unusedVariables false
set_option linter.unusedSimpArgs false
namespace Go.Proofs.YticimffljcljoaaGreatM
open Go Go.RowKit
abbrev RM (P:Program) (N:Nat) (w0:World) (S:Fx) (draw:Bool) (ops:Array Oper) (pre:List (Oper×Eff)) (rest:List Oper) (t:Nat→AV) (m:Nat→Option Cont) (K:St→Prop) (o:Oper) (G rt:List (Operand×AV)) (rk:List (Nat×Cont)) (wt:Option (Nat×AV)) (nk:List (Nat×Cont)) (ck:List (Nat×Option Cont)) (kl sl:List Nat):Prop:=
 RA P N w0 S draw ops (pre++[(o,⟨G++rt,rk,wt,nk,ck,kl,sl⟩)]) rest ⟨putT (killT t kl sl) wt,putK (killK m kl sl) nk ck⟩ K
section
variable {P : Program} {N : Nat} {w0 : World} {S : Fx} {o : Oper} {ops : Array Oper} {draw : Bool} {pre : List (Oper × Eff)} {rest : List Oper} {t : Nat → AV} {m : Nat → Option Cont} {K : St → Prop} {G : List (Operand × AV)} {d : Nat}
theorem RA.mem {rt:List (Operand×AV)} {rk:List (Nat×Cont)} {wt:Option (Nat×AV)} {nk:List (Nat×Cont)} {ck:List (Nat×Option Cont)} {kl sl:List Nat} (hg:Gs ops o ⟨t,m⟩ G) (k:RM P N w0 S draw ops pre rest t m K o G rt rk wt nk ck kl sl) (hrt:preT ⟨t,m⟩ rt) (hrk:preK ⟨t,m⟩ rk) (hnk:preN ⟨t,m⟩ nk)
  (h:∀ s,preT s rt→preK s rk→preN s nk→SoundOp P N w0 S o s ⟨putT (killT s.t kl sl) wt,putK (killK s.m kl sl) nk ck⟩):RA P N w0 S draw ops pre (o::rest) ⟨t,m⟩ K:=by
 obtain ⟨h1,h2⟩:=hg.gd
 exact RA.op (L:=Eff.gd ⟨rt,rk,wt,nk,ck,kl,sl⟩ G) (GOp.of h1 (fun s hp=>h s hp.1 hp.2.1 hp.2.2)) ⟨preT_append.2 ⟨h2,hrt⟩,hrk,hnk⟩ k
theorem fresh_st {s:St} {a:Act} {w:World} {ρ:Nat→Value} {F:Nat→Nat→Prop} (hr:RelE P N w0 S s a w ρ F) {κ:Nat} (hκ:s.m κ=none) (D:List Nat) (c:Cont) (v:AV) (hd:o.dst=some d):
  (⟨updO (s.killed κ D) o.dst v,newMD s κ D c⟩:St)=⟨putT (killT s.t D []) (some (d,v)),putK (killK s.m D []) [(κ,c)] (noneL D)⟩:=by
 rw [newMD_eq hr hκ D c,hd,← killT_eq hr D [] (inK_fresh hr hκ D),putT_upd]
 rfl
theorem fresh_st0 {s:St} {a:Act} {w:World} {ρ:Nat→Value} {F:Nat→Nat→Prop} (hr:RelE P N w0 S s a w ρ F) {κ:Nat} (hκ:s.m κ=none) (c:Cont) (v:AV) (hd:o.dst=some d):
  (⟨updO (fun n=>(s.t n).kill (Cell.uses fun x=>x == κ)) o.dst v,newM s κ c⟩:St)=⟨putT (killT s.t [] []) (some (d,v)),putK (killK s.m [] []) [(κ,c)] []⟩:=by
 rw [newM_eq hr hκ c,hd,← killT_eq hr [] [] (inK_fresh0 hr hκ),putT_upd]
 rfl
theorem kill_v (xs:List Value) (p:Nat→Bool):(cvs xs).map (Cell.kill (Cell.uses p))=cvs xs:=by
 unfold cvs
 rw [List.map_map]
 exact List.map_congr_left (fun x _=>rfl)
theorem a_alloc {e:TypeId} {z b:Nat} {zz:List Value} {g:Bool} {cs:List Cell} (κ:Nat) (k:RM P N w0 S draw ops pre rest t m K o G [] [] (some (d,.c (.ptr κ 0))) [(κ,.box e cs)] [] [] []) (hti:tyi P e=some (z,b,zz,g)) (ho:o.op = .alloc e:=by rfl) (hd:o.dst=some d:=by rfl) (hN:Nat.blt d N=true:=by rfl) (hbig:Nat.ble 100 κ=true:=by rfl) (hκ:m κ=none:=by rfl) (hcs:cvs zz=cs:=by rfl) (h1:zz.all Value.oneCell'=true:=by rfl) (hg:Gs ops o ⟨t,m⟩ G:=by exact Gs.no rfl):RA P N w0 S draw ops pre (o::rest) ⟨t,m⟩ K:=
 RA.mem hg k True.intro True.intro ⟨hκ,True.intro⟩ (fun s _ _ hn=>by
  have:=s_alloc (P:=P) (N:=N) (w0:=w0) (S:=S) (s:=s) ho hti h1 hd (blt hN) κ (ble hbig)
  rw [kill_v,hcs] at this
  exact this.conv (fun a w ρ F hr=>fresh_st0 hr hn.1 _ _ hd))
theorem a_box {e:TypeId} {x:Operand} {v:AV} {cs:List Cell} (κ:Nat) (k:RM P N w0 S draw ops pre rest t m K o G [(x,v)] [] (some (d,.c (.ptr κ 0))) [(κ,.box e cs)] [] [] []) (ho:o.op = .box e x:=by rfl) (hd:o.dst=some d:=by rfl) (hN:Nat.blt d N=true:=by rfl) (hbig:Nat.ble 100 κ=true:=by rfl) (hκ:m κ=none:=by rfl) (hx:St.ev ⟨t,m⟩ x=v:=by rfl) (hcs:v.cells=some cs:=by rfl) (hok:cs.all Cell.okc=true:=by rfl) (hg:Gs ops o ⟨t,m⟩ G:=by exact Gs.no rfl):RA P N w0 S draw ops pre (o::rest) ⟨t,m⟩ K:=
 RA.mem hg k ⟨hx,True.intro⟩ True.intro ⟨hκ,True.intro⟩ (fun s hs _ hn=>by
  have:=s_box (P:=P) (N:=N) (w0:=w0) (S:=S) (s:=s) ho (by rw [hs.1]; exact hcs) hok hd (blt hN) κ (ble hbig)
  refine this.conv (fun a w ρ F hr=>?_)
  have hc:cs.map (Cell.kill (Cell.uses fun x=>x == κ))=cs:=by
   have hrel:All2 (CellRel P w (okm s.m F) s.m ρ) cs (a.eval x).cells.toList:=(rel_cells (by rw [hs.1]; exact hcs) (hr.ev x) hok).1
   rw [cells_kill_eq hrel (q:=fun _=>false) (fun c u h1 h2=>by rw [cell_fresh hn.1 h1 h2])]
   rw [List.map_congr_left (g:=id) (fun c _=>cell_kill_no c)]; simp
  rw [hc]
  exact fresh_st0 hr hn.1 _ _ hd)
theorem putK_upd (m:Nat→Option Cont) (κ:Nat) (c:Option Cont):putK m [] [(κ,c)]=upd m κ c:=by
 funext κ'
 show (match cond (Nat.beq κ κ') (some c) none with|some c=>c|none=>m κ')=if κ'=κ then c else m κ'
 by_cases h:κ'=κ
 ·subst h
  rw [show Nat.beq κ' κ'=true from Nat.beq_refl κ',if_pos rfl]
  rfl
 ·rw [nb_ne (fun e=>h e.symm),if_neg h]
  rfl
theorem a_stB {e ty:TypeId} {p x:Operand} {z b:Nat} {zz:List Value} {g:Bool} {κ off:Nat} {cs xs cs':List Cell} {v:AV} (k:RM P N w0 S draw ops pre rest t m K o G [(p,.c (.ptr κ off)),(x,v)] [(κ,.box ty cs)] none [] [(κ,some (.box ty cs'))] [] []) (hti:tyi P e=some (z,b,zz,g)) (ho:o.op = .store e p x:=by rfl) (hd:o.dst=none:=by rfl) (hp:St.ev ⟨t,m⟩ p = .c (.ptr κ off):=by rfl) (hm:m κ=some (.box ty cs):=by rfl) (hx:St.ev ⟨t,m⟩ x=v:=by rfl) (hxs:v.cells=some xs:=by rfl) (hcs:putL cs off xs=cs':=by rfl) (hok:xs.all Cell.okc=true:=by rfl) (hl:xs.length=z:=by rfl) (hb:Nat.ble (off+z) cs.length=true:=by rfl) (hg:Gs ops o ⟨t,m⟩ G:=by exact Gs.no rfl):RA P N w0 S draw ops pre (o::rest) ⟨t,m⟩ K:=
 RA.mem hg k ⟨hp,hx,True.intro⟩ ⟨hm,True.intro⟩ True.intro (fun s hs hk _=>by
  have:=s_storeBox (P:=P) (N:=N) (w0:=w0) (S:=S) (s:=s) ho hti hs.1 hk.1 (by rw [hs.2.1]; exact hxs) hok hl (ble hb) hd
  rw [hcs] at this
  refine this.conv (fun a w ρ F hr=>?_)
  have h1:killK s.m [] []=s.m:=rfl
  rw [h1,putK_upd]
  rfl)
theorem a_ldE {e e0:TypeId} {x:Operand} {z b:Nat} {zz:List Value} {g:Bool} {κ i off:Nat} {css:List (List DV)} {cs:List DV} {v:AV} (k:RV P N w0 S draw ops pre rest t m K o G [(x,.c (.eptr κ i off))] [(κ,.row e0 css)] d v) (hi:css[i]?=some cs) (hti:tyi P e=some (z,b,zz,g)) (ho:o.op = .load e x:=by rfl) (hd:o.dst=some d:=by rfl) (hN:Nat.blt d N=true:=by rfl) (h1:St.ev ⟨t,m⟩ x = .c (.eptr κ i off):=by rfl) (hm:m κ=some (.row e0 css):=by rfl) (hv:mkAV g (elCs κ i off ((cs.drop off).take z))=v:=by rfl) (hq:fitB off z cs.length g=true:=by rfl) (hg:Gs ops o ⟨t,m⟩ G:=by exact Gs.no rfl):RA P N w0 S draw ops pre (o::rest) ⟨t,m⟩ K:=
 RA.val hd hg k ⟨h1,True.intro⟩ ⟨hm,True.intro⟩ (fun s hs hk=>by
  have:=s_loadElt (P:=P) (N:=N) (w0:=w0) (S:=S) (s:=s) ho hti hs.1 hk.1 hi (fitB_spec hq) (dlt hd hN)
  rw [← hv]
  exact this)
def rdk (m:Nat→Option Cont):List Nat→List (Nat×Cont)
 | []=>[]
 | k::r=>match m k with
  | some c=>(k,c)::rdk m r
  | none=>rdk m r
theorem preK_rdk (t:Nat→AV) (m:Nat→Option Cont):∀ D:List Nat,preK ⟨t,m⟩ (rdk m D)
 | []=>True.intro
 | k::r=>by
  unfold rdk
  split
  ·rename_i c hc
   exact ⟨hc,preK_rdk t m r⟩
  ·exact preK_rdk t m r
theorem rdk_spec {s:St}:∀ {D:List Nat},preK s (rdk m D)→∀ κ∈D,∀ c,m κ=some c→s.m κ=some c
 | [],_,κ,hk,_,_=>by cases hk
 | k::r,h,κ,hk,c,hc=>by
  unfold rdk at h
  rcases List.mem_cons.1 hk with rfl|hk
  ·rw [hc] at h
   exact h.1
  ·split at h
   ·exact rdk_spec h.2 κ hk c hc
   ·exact rdk_spec h κ hk c hc
theorem cellsDV_congr {m1:Nat→Option Cont}:∀ {cs:List Cell} {ds:List DV},cellsDV m cs=some ds→(∀ κ∈ownKeys cs,∀ c,m κ=some c→m1 κ=some c)→cellsDV m1 cs=some ds
 | [],ds,h,_=>h
 | c::r,ds,h,hk=>by
  unfold cellsDV at h ⊢
  split at h
  ·rename_i x xs hx hxs
   have h2:=cellsDV_congr hxs (fun κ hκ=>hk κ (by cases c <;> first|exact hκ|exact List.mem_cons_of_mem _ hκ))
   have h1:cellDV m1 c=some x:=by
    cases c with
    | own κ n=>
     simp only [cellDV] at hx ⊢
     cases hm:m κ with
     | none=>rw [hm] at hx; cases hx
     | some c'=>
      rw [hk κ List.mem_cons_self c' hm]
      rw [hm] at hx
      exact hx
    | d y=>cases y <;> exact hx
    | _=>exact hx
   rw [h1,h2]
   exact h
  ·cases h
theorem a_lit {T e:TypeId} {n:Nat} {parts:Array (Nat×Operand)} {z b:Nat} {zz:List Value} {g:Bool} {cs:List Cell} {ds:List DV} {css:List (List DV)} {D:List Nat} (κ:Nat) (k:RM P N w0 S draw ops pre rest t m K o G (rds ⟨t,m⟩ parts.toList) (rdk m D) (some (d,.c (.own κ n))) [(κ,.row e css)] (noneL D) D []) (ht:eln P T=some e) (hti:tyi P e=some (z,b,zz,g)) (ho:o.op = .buildSlice T n parts:=by rfl) (hd:o.dst=some d:=by rfl) (hN:Nat.blt d N=true:=by rfl) (hf:fillA (plA z) (St.ev ⟨t,m⟩) parts.toList (cvs (List.replicate n zz).flatten)=some cs:=by rfl) (hbig:Nat.ble 100 κ=true:=by rfl) (hκ:m κ=none:=by rfl) (hds:cellsDV m cs=some ds:=by rfl) (hcss:chunkN z n ds=css:=by rfl) (hD:ownKeys cs=D:=by rfl) (hnd:D.Nodup:=by decide) (hok:cs.all Cell.okc=true:=by rfl) (hz:0 < z:=by decide) (hzz:zz.length=z:=by rfl) (hn:n*z≤16777216:=by decide) (hg:Gs ops o ⟨t,m⟩ G:=by exact Gs.no rfl):RA P N w0 S draw ops pre (o::rest) ⟨t,m⟩ K:=
 RA.mem hg k (preT_rds _ _) (preK_rdk t m D) ⟨hκ,True.intro⟩ (fun s hs hk hnn=>by
  subst hD
  have:=s_buildSlice (P:=P) (N:=N) (w0:=w0) (S:=S) (s:=s) (cs:=cs) (ds:=ds) ho ht hti (by rw [fillA_congr (rds_ev hs)]; exact hf) (cellsDV_congr hds (rdk_spec hk)) hnd hok hz hzz hn κ (ble hbig) hd (blt hN)
  rw [hcss] at this
  exact this.conv (fun a w ρ F hr=>fresh_st hr hnn.1 _ _ _ hd))
theorem a_make {T e:TypeId} {l c:Operand} {z b:Nat} {zz:List Value} {g:Bool} {n:Int} {zs:List DV} {css:List (List DV)} (κ:Nat) (k:RM P N w0 S draw ops pre rest t m K o G [(l,vI n),(c,vI n)] [] (some (d,.c (.own κ n.toNat))) [(κ,.row e css)] (noneL []) [] []) (ht:eln P T=some e) (hti:tyi P e=some (z,b,zz,g)) (hzs:All2 (ZD P) zs zz) (h0:0≤n) (hb:b*n.toNat≤281474976710656) (hm:n≤9223372036854775807) (ho:o.op = .makeSlice T l c:=by rfl) (hd:o.dst=some d:=by rfl) (hN:Nat.blt d N=true:=by rfl) (hbig:Nat.ble 100 κ=true:=by rfl) (hκ:m κ=none:=by rfl) (hl:St.ev ⟨t,m⟩ l=vI n:=by rfl) (hc:St.ev ⟨t,m⟩ c=vI n:=by rfl) (hcss:List.replicate n.toNat zs=css:=by rfl) (hz:0 < z:=by decide) (hzz:zz.length=z:=by rfl) (hone:zz.all Value.oneCell'=true:=by rfl) (hg:Gs ops o ⟨t,m⟩ G:=by exact Gs.no rfl):RA P N w0 S draw ops pre (o::rest) ⟨t,m⟩ K:=
 RA.mem hg k ⟨hl,hc,True.intro⟩ True.intro ⟨hκ,True.intro⟩ (fun s hs _ hnn=>by
  have:=s_makeSlice (P:=P) (N:=N) (w0:=w0) (S:=S) (s:=s) ho ht hti hs.1 hs.2.1 hzs hz hzz hone h0 hb hm κ (ble hbig) hd (blt hN)
  rw [hcss] at this
  exact this.conv (fun a w ρ F hr=>fresh_st hr hnn.1 _ _ _ hd))
end
end Go.Proofs.YticimffljcljoaaGreatM
