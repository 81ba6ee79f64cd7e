/- Plane geometry over whole numbers: polygons, their ears, triangles on either side of a line. No condition. -/
set_option linter.unusedVariables false
set_option linter.unusedSimpArgs false
namespace Go.Proofs.YticimffljcljoaaGreat.Geo
structure Pt where
 x:Int
 y:Int
 deriving DecidableEq
theorem Pt.ext' {a b:Pt} (h:a.x=b.x) (g:a.y=b.y):a=b:=by
 cases a; cases b; cases h; cases g; rfl
def cr (a b c:Pt):Int:=(b.x - a.x)*(c.y - a.y) - (b.y - a.y)*(c.x - a.x)
structure At (a b c d:Pt) (i j k l:Int):Prop where
 i0:0≤i
 j0:0≤j
 k0:0≤k
 l0:0≤l
 pos:0 < i+j
 sum:i+j=k+l
 ex:i*a.x+j*b.x=k*c.x+l*d.x
 ey:i*a.y+j*b.y=k*c.y+l*d.y
def Meet (a b c d:Pt):Prop:=∃ i j k l,At a b c d i j k l
def Compat (a b c d:Pt):Prop:=∀ i j k l,At a b c d i j k l→(i=0∨j=0)∧(k=0∨l=0)
theorem At.symm {a b c d:Pt} {i j k l:Int} (h:At a b c d i j k l):At c d a b k l i j:=
 ⟨h.k0,h.l0,h.i0,h.j0,by have:=h.pos; have:=h.sum; omega,h.sum.symm,h.ex.symm,h.ey.symm⟩
theorem At.swap {a b c d:Pt} {i j k l:Int} (h:At a b c d i j k l):At b a c d j i k l:=
 ⟨h.j0,h.i0,h.k0,h.l0,by have:=h.pos; omega,by have:=h.sum; omega,by have:=h.ex; omega,by have:=h.ey; omega⟩
theorem Compat.symm {a b c d:Pt} (h:Compat a b c d):Compat c d a b:=
 fun i j k l g=>(h k l i j g.symm).symm
theorem Compat.swap {a b c d:Pt} (h:Compat a b c d):Compat b a c d:=
 fun i j k l g=>by have:=h j i k l g.swap; grind
theorem cr_at {p q a b c d:Pt} {i j k l:Int} (h:At a b c d i j k l):
  i*cr p q a+j*cr p q b=k*cr p q c+l*cr p q d:=by
 obtain ⟨_,_,_,_,_,hs,hx,hy⟩:=h
 unfold cr
 grind
theorem cr_rot (a b c:Pt):cr b c a=cr a b c:=by unfold cr; grind
theorem cr_rot' (a b c:Pt):cr c a b=cr a b c:=by unfold cr; grind
theorem cr_swap (a b c:Pt):cr b a c=- cr a b c:=by unfold cr; grind
theorem cr_swap' (a b c:Pt):cr a c b=- cr a b c:=by unfold cr; grind
theorem cr_self (a b:Pt):cr a b a=0:=by unfold cr; grind
theorem cr_self' (a b:Pt):cr a b b=0:=by unfold cr; grind
theorem cr_self'' (a b:Pt):cr a a b=0:=by unfold cr; grind
theorem cr_sum (a b c p:Pt):cr a b p+cr b c p+cr c a p=cr a b c:=by unfold cr; grind
theorem bary_x (a b c p:Pt):cr a b c*p.x=cr b c p*a.x+cr c a p*b.x+cr a b p*c.x:=by unfold cr; grind
theorem bary_y (a b c p:Pt):cr a b c*p.y=cr b c p*a.y+cr c a p*b.y+cr a b p*c.y:=by unfold cr; grind
theorem meet_of {a b x y:Pt} (hA:cr x y a≤0) (hB:0≤cr x y b) (hX:0≤cr a b x) (hY:cr a b y≤0)
  (h:cr x y a < cr x y b):Meet a b x y:=by
 refine ⟨cr x y b,- cr x y a,- cr a b y,cr a b x,hB,by omega,by omega,hX,by omega,?_,?_,?_⟩
 ·unfold cr; grind
 ·unfold cr; grind
 ·unfold cr; grind
theorem meet_of' {a b x y:Pt} (hA:0≤cr x y a) (hB:cr x y b≤0) (hX:cr a b x≤0) (hY:0≤cr a b y)
  (h:cr x y b < cr x y a):Meet a b x y:=by
 refine ⟨- cr x y b,cr x y a,cr a b y,- cr a b x,by omega,hA,hY,by omega,by omega,?_,?_,?_⟩
 ·unfold cr; grind
 ·unfold cr; grind
 ·unfold cr; grind
theorem leave {s:Int} {a b c x y:Pt} {i j:Int} (hs:s=1∨s=-1) (hD:0 < s*cr a b c)
  (hab:Compat x y a b) (hbc:Compat x y b c) (hi:0 < i) (hj:0 < j)
  (hA:0≤i*(s*cr b c x)+j*(s*cr b c y)) (hB:0≤i*(s*cr c a x)+j*(s*cr c a y))
  (hC:0≤i*(s*cr a b x)+j*(s*cr a b y)) (hx:0≤s*cr c a x)
  (out:s*cr b c x < 0∨s*cr a b x < 0):False:=by
 have hsx:=cr_sum a b c x
 have hsy:=cr_sum a b c y
 have bxx:=bary_x a b c x
 have bxy:=bary_y a b c x
 have byx:=bary_x a b c y
 have byy:=bary_y a b c y
 generalize hax:cr b c x=ax at*
 generalize hay:cr b c y=ay at*
 generalize hbx:cr c a x=bx at*
 generalize hby:cr c a y=bb at*
 generalize hcx:cr a b x=cx at*
 generalize hcy:cr a b y=cy at*
 generalize hd:cr a b c=D at*
 have hss:s*s=1:=by rcases hs with h|h <;> rw [h] <;> rfl
 by_cases h1:s*ax < 0∧0≤-(s*ax)*(i*(s*cx)+j*(s*cy))+(i*(s*ax)+j*(s*ay))*(s*cx)
 ·obtain ⟨h1,h2⟩:=h1
  have e1:=Int.mul_pos (Int.mul_pos hD (show 0 < -(s*ax) by omega)) hj
  have e2:=Int.mul_pos (Int.mul_pos hD (show 0 < -(s*ax) by omega)) hi
  have e3:=Int.mul_nonneg (Int.le_of_lt hD) hA
  have e4:=Int.mul_nonneg (show 0≤-(s*ax) by omega) hB
  have e5:=Int.mul_nonneg hA hx
  have:=hbc ((s*D)*(-(s*ax))*i+(s*D)*(i*(s*ax)+j*(s*ay))) ((s*D)*(-(s*ax))*j)
   (-(s*ax)*(i*(s*bx)+j*(s*bb))+(i*(s*ax)+j*(s*ay))*(s*bx))
   (-(s*ax)*(i*(s*cx)+j*(s*cy))+(i*(s*ax)+j*(s*ay))*(s*cx))
   ⟨by omega,by omega,by omega,h2,by omega,?_,?_,?_⟩
  ·rcases this.1 with h|h
   ·omega
   ·omega
  ·grind
  ·grind
  ·grind
 ·have h2:s*cx < 0:=by
   rcases out with h|h
   ·apply Classical.byContradiction
    intro g
    have e1:=Int.mul_nonneg (show 0≤-(s*ax) by omega) hC
    have e2:=Int.mul_nonneg hA (show 0≤s*cx by omega)
    exact h1 ⟨h,by omega⟩
   ·exact h
  have h3:0≤-(s*cx)*(i*(s*ax)+j*(s*ay))+(i*(s*cx)+j*(s*cy))*(s*ax):=by
   by_cases h:s*ax < 0
   ·have:¬ (0≤-(s*ax)*(i*(s*cx)+j*(s*cy))+(i*(s*ax)+j*(s*ay))*(s*cx)):=fun g=>h1 ⟨h,g⟩
    grind
   ·have e1:=Int.mul_nonneg (show 0≤-(s*cx) by omega) hA
    have e2:=Int.mul_nonneg hC (show 0≤s*ax by omega)
    omega
  have e1:=Int.mul_pos (Int.mul_pos hD (show 0 < -(s*cx) by omega)) hj
  have e2:=Int.mul_pos (Int.mul_pos hD (show 0 < -(s*cx) by omega)) hi
  have e3:=Int.mul_nonneg (Int.le_of_lt hD) hC
  have e4:=Int.mul_nonneg (show 0≤-(s*cx) by omega) hB
  have e5:=Int.mul_nonneg hC hx
  have:=hab ((s*D)*(-(s*cx))*i+(s*D)*(i*(s*cx)+j*(s*cy))) ((s*D)*(-(s*cx))*j)
   (-(s*cx)*(i*(s*ax)+j*(s*ay))+(i*(s*cx)+j*(s*cy))*(s*ax))
   (-(s*cx)*(i*(s*bx)+j*(s*bb))+(i*(s*cx)+j*(s*cy))*(s*bx))
   ⟨by omega,by omega,h3,by omega,by omega,?_,?_,?_⟩
  ·rcases this.1 with h|h
   ·omega
   ·omega
  ·grind
  ·grind
  ·grind
def gg (d q p:Pt):Int:=d.x*(p.y - q.y) - d.y*(p.x - q.x)
def w (d q a b:Pt):Int:=
 if ¬ 0 < gg d q a∧0 < gg d q b∧0 < cr a b q then 1
 else if 0 < gg d q a∧¬ 0 < gg d q b∧cr a b q < 0 then -1 else 0
theorem w_swap (d q a b:Pt):w d q b a=- w d q a b:=by
 have:=cr_swap a b q
 unfold w
 split <;> split <;> (try split) <;> (try split) <;> omega
def ff (d x y p:Pt):Int:=
 if 0 < gg d x p∧¬ 0 < gg d y p∧cr x y p < 0 then 1
 else if ¬ 0 < gg d x p∧0 < gg d y p∧0 < cr x y p then -1 else 0
theorem ff_swap (d x y p:Pt):ff d y x p=- ff d x y p:=by
 have:=cr_swap x y p
 unfold ff
 split <;> split <;> (try split) <;> (try split) <;> omega
theorem gg_x (d x y a b:Pt):gg d x a*(cr x y b - cr x y a)=gg d x y*cr a b x+(gg d x b - gg d x a)*cr x y a:=by
 unfold gg cr; grind
theorem gg_d (d x y p:Pt):gg d y p=gg d x p - gg d x y:=by unfold gg; grind
theorem cr_d (a b x y:Pt):cr x y b - cr x y a=cr a b x - cr a b y:=by unfold cr; grind
theorem pm {a b:Int} (h:0≤a*b) (hb:0 < b):0≤a:=by
 apply Classical.byContradiction; intro g
 have:=Int.mul_pos (show 0 < -a by omega) hb
 grind
theorem pm' {a b:Int} (h:0 < a*b) (hb:0 < b):0 < a:=by
 apply Classical.byContradiction; intro g
 have:=Int.mul_nonneg (show 0≤-a by omega) (Int.le_of_lt hb)
 grind
theorem nm {a b:Int} (h:a*b≤0) (hb:0 < b):a≤0:=by
 apply Classical.byContradiction; intro g
 have:=Int.mul_pos (show 0 < a by omega) hb
 omega
theorem nm' {a b:Int} (h:a*b < 0) (hb:0 < b):a < 0:=by
 apply Classical.byContradiction; intro g
 have:=Int.mul_nonneg (show 0≤a by omega) (Int.le_of_lt hb)
 omega
structure Four (h k A B X Y ga gb:Int):Prop where
 d:B - A=X - Y
 a:ga*(B - A)=h*X+k*A
 k:k=gb - ga
theorem four (d x y a b:Pt):Four (gg d x y) (gg d x b - gg d x a) (cr x y a) (cr x y b) (cr a b x) (cr a b y) (gg d x a) (gg d x b):=
 ⟨cr_d a b x y,gg_x d x y a b,rfl⟩
theorem w_LM {h k A B X Y ga gb:Int} (F:Four h k A B X Y ga gb) (h1:ga≤0) (h2:0 < gb) (h3:gb≤h) (n1:¬ (A≤0∧0≤B∧0≤X∧Y≤0∧A < B))
  (n2:¬ (0≤A∧B≤0∧X≤0∧0≤Y∧B < A)):0 < X↔B < 0:=by
 obtain ⟨fd,fa,rfl⟩:=F
 have e1:gb*(B - A)=h*X+(gb - ga)*B:=by grind
 have e2:(gb - h)*(B - A)=h*Y+(gb - ga)*B:=by grind
 have hk:0 < gb - ga:=by omega
 have hh:0 < h:=by omega
 constructor
 ·intro g
  apply Classical.byContradiction
  intro gB
  have u1:=Int.mul_pos hh g
  have u2:=Int.mul_nonneg (Int.le_of_lt hk) (show 0≤B by omega)
  have u3:0 < B - A:=pm' (a:=B - A) (b:=gb) (by grind) h2
  have u4:=Int.mul_nonneg (show 0≤-ga by omega) (Int.le_of_lt u3)
  have u5:A < 0:=nm' (a:=A) (b:=gb - ga) (by grind) hk
  have u6:=Int.mul_nonneg (show 0≤h - gb by omega) (Int.le_of_lt u3)
  have u7:Y≤0:=nm (a:=Y) (b:=h) (by grind) hh
  exact n1 ⟨by omega,by omega,by omega,u7,by omega⟩
 ·intro gB
  apply Classical.byContradiction
  intro g
  have u1:=Int.mul_nonneg (Int.le_of_lt hh) (show 0≤-X by omega)
  have u2:=Int.mul_pos hk (show 0 < -B by omega)
  have u3:0 < A - B:=pm' (a:=A - B) (b:=gb) (by grind) h2
  have u4:=Int.mul_nonneg (show 0≤-ga by omega) (Int.le_of_lt u3)
  have u5:0≤A:=pm (a:=A) (b:=gb - ga) (by grind) hk
  have u6:=Int.mul_nonneg (show 0≤h - gb by omega) (Int.le_of_lt u3)
  have u7:0 < Y:=pm' (a:=Y) (b:=h) (by grind) hh
  exact n2 ⟨by omega,by omega,by omega,by omega,by omega⟩
theorem w_MH {h k A B X Y ga gb:Int} (F:Four h k A B X Y ga gb) (h1:0 < ga) (h2:ga≤h) (h3:h < gb) (n1:¬ (A≤0∧0≤B∧0≤X∧Y≤0∧A < B))
  (n2:¬ (0≤A∧B≤0∧X≤0∧0≤Y∧B < A)):0 < Y↔A < 0:=by
 obtain ⟨fd,fa,rfl⟩:=F
 have e1:gb*(B - A)=h*X+(gb - ga)*B:=by grind
 have e2:(gb - h)*(B - A)=h*Y+(gb - ga)*B:=by grind
 have e3:(ga - h)*(B - A)=h*Y+(gb - ga)*A:=by grind
 have hk:0 < gb - ga:=by omega
 have hh:0 < h:=by omega
 constructor
 ·intro g
  apply Classical.byContradiction
  intro gB
  have u1:=Int.mul_pos hh g
  have u2:=Int.mul_nonneg (Int.le_of_lt hk) (show 0≤A by omega)
  have u3:B - A < 0:=by
   apply Classical.byContradiction; intro g'
   have:=Int.mul_nonneg (show 0≤h - ga by omega) (show 0≤B - A by omega)
   grind
  have u4:=Int.mul_pos (show 0 < gb - h by omega) (show 0 < A - B by omega)
  have u5:B < 0:=nm' (a:=B) (b:=gb - ga) (by grind) hk
  have u6:=Int.mul_pos h1 (show 0 < A - B by omega)
  have u7:X < 0:=nm' (a:=X) (b:=h) (by grind) hh
  exact n2 ⟨by omega,by omega,by omega,by omega,by omega⟩
 ·intro gB
  apply Classical.byContradiction
  intro g
  have u1:=Int.mul_nonneg (Int.le_of_lt hh) (show 0≤-Y by omega)
  have u2:=Int.mul_pos hk (show 0 < -A by omega)
  have u3:0 < B - A:=by
   apply Classical.byContradiction; intro g'
   have:=Int.mul_nonneg (show 0≤h - ga by omega) (show 0≤A - B by omega)
   grind
  have u4:=Int.mul_pos (show 0 < gb - h by omega) (show 0 < B - A by omega)
  have u5:0 < B:=pm' (a:=B) (b:=gb - ga) (by grind) hk
  have u6:=Int.mul_pos h1 (show 0 < B - A by omega)
  have u7:0 < X:=pm' (a:=X) (b:=h) (by grind) hh
  exact n1 ⟨by omega,by omega,by omega,by omega,by omega⟩
theorem w_LH {h k A B X Y ga gb:Int} (F:Four h k A B X Y ga gb) (h1:ga≤0) (h2:0≤h) (h3:h < gb) (n1:¬ (A≤0∧0≤B∧0≤X∧Y≤0∧A < B))
  (n2:¬ (0≤A∧B≤0∧X≤0∧0≤Y∧B < A)):0 < X↔0 < Y:=by
 obtain ⟨fd,fa,rfl⟩:=F
 have e2:(gb - h)*(B - A)=h*Y+(gb - ga)*B:=by grind
 have hk:0 < gb - ga:=by omega
 constructor
 ·intro g
  apply Classical.byContradiction
  intro gY
  have u3:0 < B - A:=by omega
  have u1:=Int.mul_nonneg h2 (show 0≤X by omega)
  have u2:=Int.mul_nonneg (show 0≤-ga by omega) (show 0≤B - A by omega)
  have u5:A≤0:=nm (a:=A) (b:=gb - ga) (by grind) hk
  have u4:=Int.mul_pos (show 0 < gb - h by omega) u3
  have u6:=Int.mul_nonneg h2 (show 0≤-Y by omega)
  have u7:0 < B:=pm' (a:=B) (b:=gb - ga) (by grind) hk
  exact n1 ⟨by omega,by omega,by omega,by omega,by omega⟩
 ·intro g
  apply Classical.byContradiction
  intro gX
  have u3:0 < A - B:=by omega
  have u1:=Int.mul_nonneg h2 (show 0≤-X by omega)
  have u2:=Int.mul_nonneg (show 0≤-ga by omega) (show 0≤A - B by omega)
  have u5:0≤A:=pm (a:=A) (b:=gb - ga) (by grind) hk
  have u4:=Int.mul_pos (show 0 < gb - h by omega) u3
  have u6:=Int.mul_nonneg h2 (show 0≤Y by omega)
  have u7:B < 0:=nm' (a:=B) (b:=gb - ga) (by grind) hk
  exact n2 ⟨by omega,by omega,by omega,by omega,by omega⟩
theorem w_MM {h k A B X Y ga gb:Int} (F:Four h k A B X Y ga gb) (h1:0 < ga) (h2:ga≤h) (h3:0 < gb) (h4:gb≤h) (n1:¬ (A≤0∧0≤B∧0≤X∧Y≤0∧A < B))
  (n2:¬ (0≤A∧B≤0∧X≤0∧0≤Y∧B < A)):A < 0↔B < 0:=by
 obtain ⟨fd,fa,rfl⟩:=F
 have e1:gb*(B - A)=h*X+(gb - ga)*B:=by grind
 have e2:(gb - h)*(B - A)=h*Y+(gb - ga)*B:=by grind
 have e3:(ga - h)*(B - A)=h*Y+(gb - ga)*A:=by grind
 have hh:0 < h:=by omega
 constructor
 ·intro g
  apply Classical.byContradiction
  intro gB
  have u3:0 < B - A:=by omega
  have v1:=Int.mul_nonneg (show 0≤ga by omega) (show 0≤B by omega)
  have v2:=Int.mul_pos (show 0 < -A by omega) h3
  have u1:0 < X:=pm' (a:=X) (b:=h) (by grind) hh
  have v3:=Int.mul_nonneg (show 0≤h - ga by omega) (show 0≤B by omega)
  have v4:=Int.mul_nonneg (show 0≤-A by omega) (show 0≤h - gb by omega)
  have u2:Y≤0:=nm (a:=Y) (b:=h) (by grind) hh
  exact n1 ⟨by omega,by omega,by omega,by omega,by omega⟩
 ·intro g
  apply Classical.byContradiction
  intro gB
  have v1:=Int.mul_pos (show 0 < ga by omega) (show 0 < -B by omega)
  have v2:=Int.mul_nonneg (show 0≤A by omega) (Int.le_of_lt h3)
  have u1:X < 0:=nm' (a:=X) (b:=h) (by grind) hh
  have v3:=Int.mul_nonneg (show 0≤h - ga by omega) (show 0≤-B by omega)
  have v4:=Int.mul_nonneg (show 0≤A by omega) (show 0≤h - gb by omega)
  have u2:0≤Y:=pm (a:=Y) (b:=h) (by grind) hh
  exact n2 ⟨by omega,by omega,by omega,by omega,by omega⟩
theorem w_up {d x y a b:Pt} (n:¬ Meet a b x y) (h0:0≤gg d x y) (hab:gg d x a≤gg d x b):
  w d x a b - w d y a b=ff d x y b - ff d x y a:=by
 have F:=four d x y a b
 have n1:¬ (cr x y a≤0∧0≤cr x y b∧0≤cr a b x∧cr a b y≤0∧cr x y a < cr x y b):=
  fun ⟨p,q,r,s,t⟩=>n (meet_of p q r s t)
 have n2:¬ (0≤cr x y a∧cr x y b≤0∧cr a b x≤0∧0≤cr a b y∧cr x y b < cr x y a):=
  fun ⟨p,q,r,s,t⟩=>n (meet_of' p q r s t)
 have ga:=gg_d d x y a
 have gb:=gg_d d x y b
 unfold w ff
 rw [ga,gb]
 generalize gg d x a=u at*
 generalize gg d x b=v at*
 generalize gg d x y=H at*
 have LM:=w_LM F
 have MH:=w_MH F
 have LH:=w_LH F
 have MM:=w_MM F
 generalize cr x y a=A at*
 generalize cr x y b=B at*
 generalize cr a b x=X at*
 generalize cr a b y=Y at*
 clear F ga gb n
 by_cases a1:u≤0
 ·by_cases b1:v≤0
  ·split <;> split <;> (try split) <;> (try split) <;> omega
  ·by_cases b2:v≤H
   ·have:=LM a1 (by omega) b2 n1 n2
    clear LM MH LH MM n1 n2
    split <;> split <;> (try split) <;> (try split) <;> (try split) <;> (try split) <;> omega
   ·have:=LH a1 (by omega) (by omega) n1 n2
    clear LM MH LH MM n1 n2
    split <;> split <;> (try split) <;> (try split) <;> (try split) <;> (try split) <;> omega
 ·by_cases a2:u≤H
  ·by_cases b2:v≤H
   ·have:=MM (by omega) a2 (by omega) b2 n1 n2
    clear LM MH LH MM n1 n2
    split <;> split <;> (try split) <;> (try split) <;> (try split) <;> (try split) <;> omega
   ·have:=MH (by omega) a2 (by omega) n1 n2
    clear LM MH LH MM n1 n2
    split <;> split <;> (try split) <;> (try split) <;> (try split) <;> (try split) <;> omega
  ·clear LM MH LH MM n1 n2
   split <;> split <;> (try split) <;> (try split) <;> (try split) <;> (try split) <;> omega
theorem Meet.swap {a b c d:Pt}:Meet a b c d→Meet b a c d:=fun ⟨i,j,k,l,h⟩=>⟨j,i,k,l,h.swap⟩
theorem Meet.symm {a b c d:Pt}:Meet a b c d→Meet c d a b:=fun ⟨i,j,k,l,h⟩=>⟨k,l,i,j,h.symm⟩
theorem Meet.swap' {a b c d:Pt} (h:Meet a b c d):Meet a b d c:=h.symm.swap.symm
theorem w_walk {d x y a b:Pt} (n:¬ Meet a b x y):w d x a b - w d y a b=ff d x y b - ff d x y a:=by
 have key:∀ a b,¬ Meet a b x y→0≤gg d x y→w d x a b - w d y a b=ff d x y b - ff d x y a:=by
  intro a b n h
  by_cases hab:gg d x a≤gg d x b
  ·exact w_up n h hab
  ·have:=w_up (d:=d) (fun g=>n g.swap) h (show gg d x b≤gg d x a by omega)
   rw [w_swap d x a b,w_swap d y a b] at this
   omega
 by_cases h:0≤gg d x y
 ·exact key a b n h
 ·have h':0≤gg d y x:=by have:gg d y x=- gg d x y:=(by unfold gg; grind); omega
  have:∀ a b,¬ Meet a b y x→0≤gg d y x→w d y a b - w d x a b=ff d y x b - ff d y x a:=by
   intro a b n h
   by_cases hab:gg d y a≤gg d y b
   ·exact w_up n h hab
   ·have:=w_up (d:=d) (fun g=>n g.swap) h (show gg d y b≤gg d y a by omega)
    rw [w_swap d x a b,w_swap d y a b] at this
    omega
  have:=this a b (fun g=>n g.swap') h'
  rw [ff_swap d x y a,ff_swap d x y b] at this
  omega
theorem gg_bary (d q a b c:Pt):cr b c q*gg d q a+cr c a q*gg d q b+cr a b q*gg d q c=0:=by
 unfold gg cr; grind
theorem gg_flat (d q a b c:Pt) (h1:gg d q a=0) (h2:gg d q b=0) (h3:gg d q c=0):
  cr a b c*d.x=0∧cr a b c*d.y=0:=by
 unfold gg at *; unfold cr; constructor <;> grind
def w3 (d q a b c:Pt):Int:=w d q a b+w d q b c+w d q c a
theorem w3_rot (d q a b c:Pt):w3 d q b c a=w3 d q a b c:=by unfold w3; omega
theorem w3_swap (d q a b c:Pt):w3 d q a c b=- w3 d q a b c:=by
 unfold w3
 rw [w_swap d q c a,w_swap d q b c,w_swap d q a b]
 omega
theorem w3_bound {d q a b c:Pt} (hD:0 < cr a b c):0≤w3 d q a b c∧w3 d q a b c≤1:=by
 have hs:=cr_sum a b c q
 have hb:=gg_bary d q a b c
 unfold w3 w
 generalize gg d q a=u at*
 generalize gg d q b=v at*
 generalize gg d q c=t at*
 generalize cr a b q=C at*
 generalize cr b c q=A at*
 generalize cr c a q=B at*
 generalize cr a b c=D at*
 have one:∀ {A B C u v t:Int},A*u+B*v+C*t=0→0 < A+B+C→0 < u→v≤0→t≤0→¬ (C < 0∧B≤0)∧¬ (B < 0∧C≤0):=by
  intro A B C u v t hb hs hu hv ht
  have n:¬ (C≤0∧B≤0):=by
   intro ⟨h1,h2⟩
   have e1:=Int.mul_nonneg (show 0≤-C by omega) (show 0≤-t by omega)
   have e2:=Int.mul_nonneg (show 0≤-B by omega) (show 0≤-v by omega)
   have e3:=Int.mul_pos (show 0 < A by omega) hu
   grind
  exact ⟨fun h=>n ⟨by omega,h.2⟩,fun h=>n ⟨h.2,by omega⟩⟩
 have two:∀ {A B C u v t:Int},A*u+B*v+C*t=0→0 < A+B+C→u≤0→0 < v→0 < t→¬ (C < 0∧B≤0)∧¬ (B < 0∧C≤0):=by
  intro A B C u v t hb hs hu hv ht
  constructor
  ·intro ⟨h1,h2⟩
   have e1:=Int.mul_pos (show 0 < -C by omega) ht
   have e2:=Int.mul_nonneg (show 0≤-B by omega) (show 0≤v by omega)
   have e3:=Int.mul_nonneg (show 0≤A by omega) (show 0≤-u by omega)
   grind
  ·intro ⟨h1,h2⟩
   have e1:=Int.mul_nonneg (show 0≤-C by omega) (show 0≤t by omega)
   have e2:=Int.mul_pos (show 0 < -B by omega) hv
   have e3:=Int.mul_nonneg (show 0≤A by omega) (show 0≤-u by omega)
   grind
 by_cases hu:0 < u <;> by_cases hv:0 < v <;> by_cases ht:0 < t <;> simp only [hu,hv,ht,not_true_eq_false,not_false_eq_true,true_and,false_and,and_false,if_false]
 ·omega
 ·have:=two (A:=C) (B:=A) (C:=B) (u:=t) (v:=u) (t:=v) (by omega) (by omega) (by omega) hu hv
  split <;> split <;> omega
 ·have:=two (A:=B) (B:=C) (C:=A) (u:=v) (v:=t) (t:=u) (by omega) (by omega) (by omega) ht hu
  split <;> split <;> omega
 ·have:=one (A:=A) (B:=B) (C:=C) (u:=u) (v:=v) (t:=t) (by omega) (by omega) hu (by omega) (by omega)
  split <;> split <;> omega
 ·have:=two (A:=A) (B:=B) (C:=C) (u:=u) (v:=v) (t:=t) (by omega) (by omega) (by omega) hv ht
  split <;> split <;> omega
 ·have:=one (A:=B) (B:=C) (C:=A) (u:=v) (v:=t) (t:=u) (by omega) (by omega) hv (by omega) (by omega)
  split <;> split <;> omega
 ·have:=one (A:=C) (B:=A) (C:=B) (u:=t) (v:=u) (t:=v) (by omega) (by omega) ht (by omega) (by omega)
  split <;> split <;> omega
 ·omega
theorem w3_in {d q a b c:Pt} (hd:d.x≠0∨d.y≠0) (hA:0 < cr b c q) (hB:0 < cr c a q) (hC:0 < cr a b q):w3 d q a b c=1:=by
 have hs:=cr_sum a b c q
 have hb:=gg_bary d q a b c
 have hf:=gg_flat d q a b c
 have hz:¬ (gg d q a=0∧gg d q b=0∧gg d q c=0):=by
  intro ⟨h1,h2,h3⟩
  have:=hf h1 h2 h3
  rcases hd with h|h
  ·exact h ((Int.mul_eq_zero.1 this.1).resolve_left (by omega))
  ·exact h ((Int.mul_eq_zero.1 this.2).resolve_left (by omega))
 unfold w3 w
 generalize gg d q a=u at*
 generalize gg d q b=v at*
 generalize gg d q c=t at*
 generalize cr a b q=C at*
 generalize cr b c q=A at*
 generalize cr c a q=B at*
 have n1:¬ (u≤0∧v≤0∧t≤0):=by
  intro ⟨h1,h2,h3⟩
  have e1:=Int.mul_nonneg (show 0≤A by omega) (show 0≤-u by omega)
  have e2:=Int.mul_nonneg (show 0≤B by omega) (show 0≤-v by omega)
  have e3:=Int.mul_nonneg (show 0≤C by omega) (show 0≤-t by omega)
  have z1:A*u=0:=by grind
  have z2:B*v=0:=by grind
  have z3:C*t=0:=by grind
  exact hz ⟨(Int.mul_eq_zero.1 z1).resolve_left (by omega),(Int.mul_eq_zero.1 z2).resolve_left (by omega),(Int.mul_eq_zero.1 z3).resolve_left (by omega)⟩
 have n2:¬ (0 < u∧0 < v∧0 < t):=by
  intro ⟨h1,h2,h3⟩
  have e1:=Int.mul_pos hA h1
  have e2:=Int.mul_pos hB h2
  have e3:=Int.mul_pos hC h3
  omega
 split <;> split <;> (try split) <;> (try split) <;> (try split) <;> (try split) <;> omega
theorem w3_side {d q a b c z:Pt} (hd:d.x≠0∨d.y≠0) (h0:cr c a q=0) (hA:0 < cr b c q) (hC:0 < cr a b q) (hA':0 < cr z a q) (hC':0 < cr c z q):
  w3 d q a b c+w3 d q a c z=1:=by
 have hb:=gg_bary d q a b c
 have hb':=gg_bary d q c z a
 have h0':cr a c q=0:=by rw [cr_swap,h0]; rfl
 have hf:=gg_flat d q a b c
 have hf':=gg_flat d q c z a
 have hs:=cr_sum a b c q
 have hs':=cr_sum c z a q
 rw [h0] at hb
 rw [h0'] at hb'
 have hz:¬ (gg d q a=0∧gg d q b=0∧gg d q c=0):=by
  intro ⟨h1,h2,h3⟩
  have:=hf h1 h2 h3
  rcases hd with h|h
  ·exact h ((Int.mul_eq_zero.1 this.1).resolve_left (by omega))
  ·exact h ((Int.mul_eq_zero.1 this.2).resolve_left (by omega))
 have hz':¬ (gg d q c=0∧gg d q z=0∧gg d q a=0):=by
  intro ⟨h1,h2,h3⟩
  have:=hf' h1 h2 h3
  rcases hd with h|h
  ·exact h ((Int.mul_eq_zero.1 this.1).resolve_left (by omega))
  ·exact h ((Int.mul_eq_zero.1 this.2).resolve_left (by omega))
 have hop:gg d q a=0→gg d q c=0→¬ (0 < gg d q b∧0 < gg d q z)∧(0 < gg d q b∨0 < gg d q z):=by
  intro h1 h3
  have e1:cr a b c*gg d q z=- (cr c z a)*gg d q b:=by
   have i1:cr a b c*gg d q z=cr b c z*gg d q a+cr c a z*gg d q b+cr a b z*gg d q c:=by unfold gg cr; grind
   have:cr c a z=- cr c z a:=cr_swap' c z a
   rw [i1,h1,h3,this]; grind
  have p1:0 < cr a b c:=by omega
  have p2:0 < cr c z a:=by omega
  constructor
  ·intro ⟨g1,g2⟩
   have u1:=Int.mul_pos p1 g2
   have u2:=Int.mul_pos p2 g1
   grind
  ·apply Classical.byContradiction
   intro g
   have g1:gg d q b < 0:=by
    rcases Int.lt_or_le (gg d q b) 0 with h|h
    ·exact h
    ·exact absurd ⟨h1,by omega,h3⟩ hz
   have g2:gg d q z < 0:=by
    rcases Int.lt_or_le (gg d q z) 0 with h|h
    ·exact h
    ·exact absurd ⟨h3,by omega,h1⟩ hz'
   have u1:=Int.mul_pos p1 (show 0 < - gg d q z by omega)
   have u2:=Int.mul_pos p2 (show 0 < - gg d q b by omega)
   grind
 unfold w3 w
 rw [h0,h0']
 generalize gg d q a=u at*
 generalize gg d q b=v at*
 generalize gg d q c=t at*
 generalize gg d q z=r at*
 generalize cr a b q=C at*
 generalize cr b c q=A at*
 generalize cr c z q=C' at*
 generalize cr z a q=A' at*
 have m1:0 < u→t < 0:=by
  intro g
  have:=Int.mul_pos hA g
  have h:C*t < 0:=by omega
  exact nm' (by rw [Int.mul_comm]; exact h) hC
 have m2:u < 0→0 < t:=by
  intro g
  have:=Int.mul_pos hA (show 0 < -u by omega)
  have h:0 < C*t:=by grind
  exact pm' (by rw [Int.mul_comm]; exact h) hC
 have m3:u=0→t=0:=by
  intro g
  rw [g] at hb
  have h:C*t=0:=by omega
  exact (Int.mul_eq_zero.1 h).resolve_left (by omega)
 clear hb hb' hf hf' hz hz' hs hs'
 have nC:¬ C < 0:=by omega
 have nA:¬ A < 0:=by omega
 have nC':¬ C' < 0:=by omega
 have nA':¬ A' < 0:=by omega
 have n0:¬ (0:Int) < 0:=by omega
 rcases Int.lt_trichotomy u 0 with g|g|g
 ·have g1:0 < t:=m2 g
  have g2:¬ 0 < u:=by omega
  by_cases hv:0 < v <;> by_cases hr:0 < r <;> simp [g1,g2,hv,hr,hA,hC,hA',hC',nC,nA,nC',nA']
 ·have e:=m3 g
  have g1:¬ 0 < t:=by omega
  have g2:¬ 0 < u:=by omega
  have:=hop g e
  by_cases hv:0 < v <;> by_cases hr:0 < r
  ·exact absurd ⟨hv,hr⟩ this.1
  ·simp [g1,g2,hv,hr,hA,hC,nC,nA,nC',nA']
  ·simp [g1,g2,hv,hr,hA',hC',nC,nA,nC',nA']
  ·exact absurd this.2 (by omega)
 ·have g1:¬ 0 < t:=by have:=m1 g; omega
  by_cases hv:0 < v <;> by_cases hr:0 < r <;> simp [g1,g,hv,hr,hA,hC,hA',hC',nC,nA,nC',nA']
def csum (f:Pt→Pt→Int):List (Pt×Pt)→Int
 | []=>0
 | e::r=>f e.1 e.2+csum f r
theorem csum_app (f:Pt→Pt→Int) (A B:List (Pt×Pt)):csum f (A++B)=csum f A+csum f B:=by
 induction A with
 | nil=>simp [csum]
 | cons e r ih=>simp only [List.cons_append,csum,ih]; omega
theorem csum_perm (f:Pt→Pt→Int) {A B:List (Pt×Pt)} (h:A.Perm B):csum f A=csum f B:=by
 induction h with
 | nil=>rfl
 | cons e _ ih=>simp only [csum,ih]
 | swap e e' r=>simp only [csum]; omega
 | trans _ _ h1 h2=>exact h1.trans h2
theorem csum_congr {f g:Pt→Pt→Int} {E:List (Pt×Pt)} (h:∀ e∈E,f e.1 e.2=g e.1 e.2):csum f E=csum g E:=by
 induction E with
 | nil=>rfl
 | cons e r ih=>simp only [csum]; rw [h e (by simp),ih (fun e' h'=>h e' (by simp [h']))]
theorem csum_sub (f g:Pt→Pt→Int) (E:List (Pt×Pt)):csum (fun a b=>f a b - g a b) E=csum f E - csum g E:=by
 induction E with
 | nil=>rfl
 | cons e r ih=>simp only [csum,ih]; omega
inductive T (s:Int):List (Pt×Pt)→Prop
 | tri (a b c:Pt):0 < s*cr a b c→T s [(a,b),(b,c),(c,a)]
 | cut (z v:Pt) (A B:List (Pt×Pt)):T s ((z,v)::A)→T s ((v,z)::B)→T s (A++B)
 | perm (A B:List (Pt×Pt)):A.Perm B→T s A→T s B
def ar (a b:Pt):Int:=a.x*b.y - a.y*b.x
theorem T.area {s:Int} {E:List (Pt×Pt)} (h:T s E):0 < s*csum ar E:=by
 induction h with
 | tri a b c h=>
  have:csum ar [(a,b),(b,c),(c,a)]=cr a b c:=by simp only [csum]; unfold ar cr; grind
  rw [this]; exact h
 | cut z v A B _ _ h1 h2=>
  rw [csum_app]
  simp only [csum] at h1 h2
  have:ar v z=- ar z v:=by unfold ar; grind
  rw [this] at h2
  grind
 | perm A B h _ ih=>rw [← csum_perm ar h]; exact ih
theorem T.closed {s:Int} {E:List (Pt×Pt)} (h:T s E) (g:Pt→Int):csum (fun a b=>g b - g a) E=0:=by
 induction h with
 | tri a b c h=>simp only [csum]; omega
 | cut z v A B _ _ h1 h2=>
  rw [csum_app]
  simp only [csum] at h1 h2
  omega
 | perm A B h _ ih=>rw [← csum_perm _ h]; exact ih
theorem w3_sign {s:Int} (hs:s=1∨s=-1) {d q a b c:Pt} (hD:0 < s*cr a b c):0≤s*w3 d q a b c∧s*w3 d q a b c≤1:=by
 rcases hs with h|h
 ·subst h; have:=w3_bound (d:=d) (q:=q) (a:=a) (b:=b) (c:=c) (by omega); omega
 ·subst h
  have:=w3_bound (d:=d) (q:=q) (a:=a) (b:=c) (c:=b) (by rw [cr_swap']; omega)
  rw [w3_swap] at this; omega
theorem w3_sign_in {s:Int} (hs:s=1∨s=-1) {d q a b c:Pt} (hd:d.x≠0∨d.y≠0) (hA:0 < s*cr b c q) (hB:0 < s*cr c a q) (hC:0 < s*cr a b q):s*w3 d q a b c=1:=by
 rcases hs with h|h
 ·subst h; have:=w3_in hd (show 0 < cr b c q by omega) (show 0 < cr c a q by omega) (show 0 < cr a b q by omega); omega
 ·subst h
  have:=w3_in (a:=a) (b:=c) (c:=b) hd (show 0 < cr c b q by rw [cr_swap]; omega) (show 0 < cr b a q by rw [cr_swap]; omega) (show 0 < cr a c q by rw [cr_swap]; omega)
  rw [w3_swap] at this; omega
theorem w3_sign_side {s:Int} (hs:s=1∨s=-1) {d q a b c z:Pt} (hd:d.x≠0∨d.y≠0) (h0:cr c a q=0) (hA:0 < s*cr b c q) (hC:0 < s*cr a b q)
  (hA':0 < s*cr z a q) (hC':0 < s*cr c z q):s*w3 d q a b c+s*w3 d q a c z=1:=by
 rcases hs with h|h
 ·subst h; have:=w3_side hd h0 (show 0 < cr b c q by omega) (show 0 < cr a b q by omega) (show 0 < cr z a q by omega) (show 0 < cr c z q by omega); omega
 ·subst h
  have:=w3_side (a:=c) (b:=b) (c:=a) (z:=z) (q:=q) hd (by rw [cr_swap,h0]; rfl) (show 0 < cr b a q by rw [cr_swap]; omega) (show 0 < cr c b q by rw [cr_swap]; omega) (show 0 < cr z c q by rw [cr_swap]; omega) (show 0 < cr a z q by rw [cr_swap]; omega)
  have e1:w3 d q c b a=- w3 d q a b c:=by rw [← w3_rot d q c b a,← w3_rot d q b a c,w3_swap]
  have e2:w3 d q c a z=- w3 d q a c z:=by rw [w3_rot d q z c a,w3_swap,← w3_rot d q z a c]
  omega
theorem T.w0 {s:Int} (hs:s=1∨s=-1) {E:List (Pt×Pt)} (h:T s E) (d q:Pt):0≤s*csum (w d q) E:=by
 induction h with
 | tri a b c h=>
  have:=(w3_sign hs (d:=d) (q:=q) h).1
  have e:csum (w d q) [(a,b),(b,c),(c,a)]=w3 d q a b c:=by simp only [csum]; unfold w3; omega
  rw [e]; exact this
 | cut z v A B _ _ h1 h2=>
  rw [csum_app]
  simp only [csum] at h1 h2
  rw [w_swap d q z v] at h2
  grind
 | perm A B h _ ih=>rw [← csum_perm _ h]; exact ih
def sc (N:Int) (p:Pt):Pt:=⟨N*p.x,N*p.y⟩
def scE (N:Int) (E:List (Pt×Pt)):List (Pt×Pt):=E.map fun e=>(sc N e.1,sc N e.2)
theorem cr_sc (N:Int) (a b c:Pt):cr (sc N a) (sc N b) (sc N c)=N*N*cr a b c:=by unfold cr sc; grind
theorem gg_sc (N:Int) (d q p:Pt):gg d (sc N q) (sc N p)=N*gg d q p:=by unfold gg sc; grind
theorem pos_iff {N a:Int} (hN:0 < N):0 < N*a↔0 < a:=
 ⟨fun h=>pm' (by rw [Int.mul_comm]; exact h) hN,fun h=>Int.mul_pos hN h⟩
theorem neg_iff {N a:Int} (hN:0 < N):N*a < 0↔a < 0:=
 ⟨fun h=>nm' (by rw [Int.mul_comm]; exact h) hN,fun h=>Int.mul_neg_of_pos_of_neg hN h⟩
theorem w_sc {N:Int} (hN:0 < N) (d q a b:Pt):w d (sc N q) (sc N a) (sc N b)=w d q a b:=by
 have h2:=Int.mul_pos hN hN
 unfold w
 simp only [gg_sc,cr_sc,pos_iff hN,pos_iff h2,neg_iff h2]
theorem csum_sc {N:Int} (f:Pt→Pt→Int) (E:List (Pt×Pt)):csum f (scE N E)=csum (fun a b=>f (sc N a) (sc N b)) E:=by
 induction E with
 | nil=>rfl
 | cons e r ih=>simp only [scE,List.map_cons,csum]; rw [← ih]; rfl
theorem T.sc {s N:Int} (hN:0 < N) {E:List (Pt×Pt)} (h:T s E):T s (scE N E):=by
 induction h with
 | tri a b c h=>
  refine T.tri _ _ _ ?_
  rw [cr_sc]
  have:=Int.mul_pos (Int.mul_pos hN hN) h
  grind
 | cut z v A B _ _ h1 h2=>
  have:scE N (A++B)=scE N A++scE N B:=by unfold scE; rw [List.map_append]
  rw [this]
  exact T.cut _ _ _ _ h1 h2
 | perm A B h _ ih=>exact T.perm _ _ (h.map _) ih
theorem T.edge {s:Int} (hs:s=1∨s=-1) {E:List (Pt×Pt)} (h:T s E):∀ a c,(a,c)∈E→
  ∃ z,0 < s*cr a c z∧∀ N d q,0 < N→s*w3 d q (Geo.sc N a) (Geo.sc N c) (Geo.sc N z)≤s*csum (w d q) (scE N E):=by
 induction h with
 | tri a b c h=>
  have key:∀ N d q,s*w3 d q (Geo.sc N a) (Geo.sc N b) (Geo.sc N c)=s*csum (w d q) (scE N [(a,b),(b,c),(c,a)]):=by
   intro N d q
   simp only [scE,List.map_cons,List.map_nil,csum]; unfold w3; grind
  intro a' c' hm
  simp only [List.mem_cons,Prod.mk.injEq,List.not_mem_nil,or_false] at hm
  rcases hm with ⟨rfl,rfl⟩|⟨rfl,rfl⟩|⟨rfl,rfl⟩
  ·exact ⟨c,h,fun N d q _=>Int.le_of_eq (key N d q)⟩
  ·exact ⟨a,by rw [cr_rot]; exact h,fun N d q _=>Int.le_of_eq (by rw [w3_rot]; exact key N d q)⟩
  ·exact ⟨b,by rw [cr_rot']; exact h,fun N d q _=>Int.le_of_eq (by rw [w3_rot,w3_rot]; exact key N d q)⟩
 | cut z v A B hA hB h1 h2=>
  have key:∀ N d q,0 < N→s*csum (w d q) (scE N (A++B))=s*csum (w d q) (scE N ((z,v)::A))+s*csum (w d q) (scE N ((v,z)::B)):=by
   intro N d q hN
   have e:scE N (A++B)=scE N A++scE N B:=by unfold scE; rw [List.map_append]
   rw [e,csum_app]
   simp only [scE,List.map_cons,csum]
   rw [w_swap d q (Geo.sc N z) (Geo.sc N v)]
   grind
  intro a c hm
  rcases List.mem_append.1 hm with g|g
  ·obtain ⟨x,hx,hw⟩:=h1 a c (List.mem_cons_of_mem _ g)
   refine ⟨x,hx,fun N d q hN=>?_⟩
   rw [key N d q hN]
   have:=hw N d q hN
   have:=(T.sc hN hB).w0 hs d q
   omega
  ·obtain ⟨x,hx,hw⟩:=h2 a c (List.mem_cons_of_mem _ g)
   refine ⟨x,hx,fun N d q hN=>?_⟩
   rw [key N d q hN]
   have:=hw N d q hN
   have:=(T.sc hN hA).w0 hs d q
   omega
 | perm A B h _ ih=>
  intro a c hm
  obtain ⟨x,hx,hw⟩:=ih a c (h.mem_iff.2 hm)
  refine ⟨x,hx,fun N d q hN=>?_⟩
  rw [← csum_perm _ (show (scE N A).Perm (scE N B) from h.map (fun e:Pt×Pt=>(Geo.sc N e.1,Geo.sc N e.2)))]
  exact hw N d q hN
theorem T.walk {s:Int} {E:List (Pt×Pt)} (h:T s E) {x y:Pt} (n:∀ e∈E,¬ Meet e.1 e.2 x y) (d:Pt):
  csum (w d x) E=csum (w d y) E:=by
 have h1:=csum_sub (w d x) (w d y) E
 have h2:csum (fun a b=>w d x a b - w d y a b) E=csum (fun a b=>ff d x y b - ff d x y a) E:=
  csum_congr (fun e he=>w_walk (n e he))
 rw [h.closed] at h2
 omega
theorem mulB {s N i j k l u v D:Int} (hN:0 < N) (g:i*(N*N*u)+j*(N*N*v)=k*(N*N*D)+l*(N*D)):
  N*(i*(s*u)+j*(s*v))=s*D*(k*N+l):=by
 have h:=congrArg (fun t=>s*t) g
 have:N*(N*(i*(s*u)+j*(s*v)))=N*(s*D*(k*N+l)):=by
  have h:s*_=s*_:=h
  grind
 exact Int.eq_of_mul_eq_mul_left (by omega) this
theorem mulA {s N i j l u v D K:Int} (hN:0 < N) (g:i*(N*N*u)+j*(N*N*v)=l*(N*(K*D))):
  N*(i*(s*u)+j*(s*v))=l*K*(s*D):=by
 have h:=congrArg (fun t=>s*t) g
 have:N*(N*(i*(s*u)+j*(s*v)))=N*(l*K*(s*D)):=by
  have h:s*_=s*_:=h
  grind
 exact Int.eq_of_mul_eq_mul_left (by omega) this
def Out (s:Int) (a b c p:Pt):Prop:=s*cr b c p < 0∨s*cr c a p < 0∨s*cr a b p < 0
theorem near {s:Int} (hs:s=1∨s=-1) {E:List (Pt×Pt)} (h:T (-s) E) {a b c:Pt} (hm:(a,c)∈E) (hD:0 < s*cr a b c)
  (hE:∀ e∈E,e=(a,c)∨(Compat e.1 e.2 a b∧Compat e.1 e.2 b c∧(e.1=a∨e.1=c∨Out s a b c e.1)∧(e.2=a∨e.2=c∨Out s a b c e.2)))
  {d:Pt} (hd:d.x≠0∨d.y≠0):1≤-s*csum (w d b) E:=by
 have hs':-s=1∨-s=-1:=by omega
 obtain ⟨z,hz,hw⟩:=h.edge hs' a c hm
 obtain ⟨K,hK0,hK1,hK2⟩:∃ K:Int,0 < K∧0 < -s*(K*cr z a c+cr z a b)∧0 < -s*(K*cr c z a+cr c z b):=by
  refine ⟨1+(cr z a b).natAbs+(cr c z b).natAbs,by omega,?_,?_⟩
  ·have e:cr z a c=cr a c z:=by unfold cr; grind
   rw [e]
   have h1:1≤-s*cr a c z:=hz
   have h2:=Int.mul_le_mul_of_nonneg_left (c:=1+((cr z a b).natAbs:Int)+(cr c z b).natAbs) h1 (by omega)
   have h3:- ((cr z a b).natAbs:Int)≤-s*cr z a b:=by rcases hs with h|h <;> subst h <;> omega
   grind
  ·have e:cr c z a=cr a c z:=by unfold cr; grind
   rw [e]
   have h1:1≤-s*cr a c z:=hz
   have h2:=Int.mul_le_mul_of_nonneg_left (c:=1+((cr z a b).natAbs:Int)+(cr c z b).natAbs) h1 (by omega)
   have h3:- ((cr c z b).natAbs:Int)≤-s*cr c z b:=by rcases hs with h|h <;> subst h <;> omega
   grind
 have hN:0 < 2*K+1:=by omega
 obtain ⟨m,hmx,hmy⟩:∃ m:Pt,m.x=K*a.x+K*c.x+b.x∧m.y=K*a.y+K*c.y+b.y:=⟨⟨_,_⟩,rfl,rfl⟩
 have hT:=T.sc hN h
 have e1:csum (w d (sc (2*K+1) b)) (scE (2*K+1) E)=csum (w d b) E:=by
  rw [csum_sc]
  exact csum_congr (fun e _=>w_sc hN d b e.1 e.2)
 have m1:cr (sc (2*K+1) c) (sc (2*K+1) a) m=(2*K+1)*cr c a b:=by unfold cr sc; grind
 have m2:cr (sc (2*K+1) b) (sc (2*K+1) c) m=(2*K+1)*(K*cr b c a):=by unfold cr sc; grind
 have m3:cr (sc (2*K+1) a) (sc (2*K+1) b) m=(2*K+1)*(K*cr a b c):=by unfold cr sc; grind
 have m4:cr (sc (2*K+1) z) (sc (2*K+1) a) m=(2*K+1)*(K*cr z a c+cr z a b):=by unfold cr sc; grind
 have m5:cr (sc (2*K+1) c) (sc (2*K+1) z) m=(2*K+1)*(K*cr c z a+cr c z b):=by unfold cr sc; grind
 have m6:cr (sc (2*K+1) a) (sc (2*K+1) c) m=(2*K+1)*cr a c b:=by unfold cr sc; grind
 have e2:csum (w d (sc (2*K+1) b)) (scE (2*K+1) E)=csum (w d m) (scE (2*K+1) E):=by
  refine hT.walk ?_ d
  intro e he
  obtain ⟨e0,he0,rfl⟩:=List.mem_map.1 he
  obtain ⟨x,y⟩:=e0
  rintro ⟨i,j,k,l,g⟩
  have gB:=cr_at (p:=sc (2*K+1) c) (q:=sc (2*K+1) a) g
  have gA:=cr_at (p:=sc (2*K+1) b) (q:=sc (2*K+1) c) g
  have gC:=cr_at (p:=sc (2*K+1) a) (q:=sc (2*K+1) b) g
  simp only [cr_sc,m1,m2,m3,cr_self',cr_self,Int.mul_zero,Int.zero_add] at gA gB gC
  have i0:=g.i0
  have j0:=g.j0
  have k0:=g.k0
  have l0:=g.l0
  have kl:0 < k*(2*K+1)+l:=by
   have:=g.pos
   have:=g.sum
   have:=Int.mul_nonneg k0 (Int.le_of_lt hK0)
   rcases Int.lt_or_le 0 k with hk|hk
   ·have:=Int.mul_pos hk hN
    omega
   ·have:k=0:=by omega
    subst this
    omega
  rw [cr_rot a b c] at gA
  rw [cr_rot' a b c] at gB
  have qB:i*(s*cr c a x)+j*(s*cr c a y) > 0:=by
   have h1:=Int.mul_pos hD kl
   have h2:(2*K+1)*(i*(s*cr c a x)+j*(s*cr c a y))=s*cr a b c*(k*(2*K+1)+l):=mulB hN gB
   exact (pos_iff hN).1 (by rw [h2]; exact h1)
  have nn:∀ t:Int,0≤(2*K+1)*t→0≤t:=fun t ht=>pm (by rw [Int.mul_comm]; exact ht) hN
  have lKD:=Int.mul_nonneg (Int.mul_nonneg l0 (Int.le_of_lt hK0)) (Int.le_of_lt hD)
  have qA:0≤i*(s*cr b c x)+j*(s*cr b c y):=by
   have h2:(2*K+1)*(i*(s*cr b c x)+j*(s*cr b c y))=l*K*(s*cr a b c):=mulA hN gA
   exact nn _ (by rw [h2]; exact lKD)
  have qC:0≤i*(s*cr a b x)+j*(s*cr a b y):=by
   have h2:(2*K+1)*(i*(s*cr a b x)+j*(s*cr a b y))=l*K*(s*cr a b c):=mulA hN gC
   exact nn _ (by rw [h2]; exact lKD)
  have za:s*cr c a a=0:=by rw [cr_self']; omega
  have zc:s*cr c a c=0:=by rw [cr_self]; omega
  rcases hE (x,y) he0 with hac|⟨cab,cbc,hx,hy⟩
  ·obtain ⟨rfl,rfl⟩:=Prod.mk.inj hac
   rw [za,zc] at qB
   omega
  ·simp only at cab cbc hx hy
   have ox:0 < s*cr c a x→s*cr b c x < 0∨s*cr a b x < 0:=by
    intro hp
    rcases hx with r|r|r
    ·rw [r] at hp; omega
    ·rw [r] at hp; omega
    ·rcases r with r|r|r
     ·exact Or.inl r
     ·omega
     ·exact Or.inr r
   have oy:0 < s*cr c a y→s*cr b c y < 0∨s*cr a b y < 0:=by
    intro hp
    rcases hy with r|r|r
    ·rw [r] at hp; omega
    ·rw [r] at hp; omega
    ·rcases r with r|r|r
     ·exact Or.inl r
     ·omega
     ·exact Or.inr r
   rcases Int.lt_or_le 0 i with pi|ni
   ·rcases Int.lt_or_le 0 j with pj|nj
    ·rcases Int.lt_or_le 0 (s*cr c a x) with px|nx
     ·exact leave hs hD cab cbc pi pj qA (Int.le_of_lt qB) qC (Int.le_of_lt px) (ox px)
     ·have py:0 < s*cr c a y:=by
       have:=Int.mul_nonneg i0 (show 0≤-(s*cr c a x) by omega)
       exact pm' (a:=s*cr c a y) (b:=j) (by grind) pj
      exact leave hs hD cab.swap cbc.swap pj pi (by omega) (by omega) (by omega) (Int.le_of_lt py) (oy py)
    ·have:j=0:=by omega
     subst this
     simp only [Int.zero_mul,Int.add_zero] at qA qB qC
     have px:=(pos_iff pi).1 qB
     have a1:0≤s*cr b c x:=pm (by rw [Int.mul_comm]; exact qA) pi
     have a2:0≤s*cr a b x:=pm (by rw [Int.mul_comm]; exact qC) pi
     have:=ox px
     omega
   ·have:i=0:=by omega
    subst this
    have pj:0 < j:=by have:=g.pos; omega
    simp only [Int.zero_mul,Int.zero_add] at qA qB qC
    have py:=(pos_iff pj).1 qB
    have a1:0≤s*cr b c y:=pm (by rw [Int.mul_comm]; exact qA) pj
    have a2:0≤s*cr a b y:=pm (by rw [Int.mul_comm]; exact qC) pj
    have:=oy py
    omega
 have e3:=hw (2*K+1) d m hN
 have e4:-s*w3 d m (sc (2*K+1) a) (sc (2*K+1) c) (sc (2*K+1) z)=1:=by
  refine w3_sign_in hs' hd ?_ ?_ ?_
  ·rw [m5]
   have:=Int.mul_pos hN hK2
   grind
  ·rw [m4]
   have:=Int.mul_pos hN hK1
   grind
  ·rw [m6]
   have:=Int.mul_pos hN hD
   rw [cr_swap']
   grind
 rw [← e1,e2]
 omega
theorem clip_compat {s:Int} {a b c x y:Pt} (hs:s=1∨s=-1) (hD:0 < s*cr a b c) (hab:Compat x y a b) (hbc:Compat x y b c)
  (hxy:x≠y) (hx:x=a∨x=c∨Out s a b c x) (hy:y=a∨y=c∨Out s a b c y)
  (n1:¬ (x=a∧y=c)) (n2:¬ (x=c∧y=a)):Compat x y a c:=by
 intro i j k l g
 have gB:=cr_at (p:=c) (q:=a) g
 have gA:=cr_at (p:=b) (q:=c) g
 have gC:=cr_at (p:=a) (q:=b) g
 rw [cr_self',cr_self] at gB
 rw [cr_self'] at gA
 rw [cr_self] at gC
 rw [cr_rot a b c] at gA
 have i0:=g.i0
 have j0:=g.j0
 have k0:=g.k0
 have l0:=g.l0
 have kD:=Int.mul_nonneg k0 (Int.le_of_lt hD)
 have lD:=Int.mul_nonneg l0 (Int.le_of_lt hD)
 have mul:∀ {p q r:Int},p=q→r*p=r*q:=fun h=>by rw [h]
 have qB:i*(s*cr c a x)+j*(s*cr c a y)=0:=by have:=mul (r:=s) gB; grind
 have qA:i*(s*cr b c x)+j*(s*cr b c y)=k*(s*cr a b c):=by have:=mul (r:=s) gA; grind
 have qC:i*(s*cr a b x)+j*(s*cr a b y)=l*(s*cr a b c):=by have:=mul (r:=s) gC; grind
 have za:s*cr c a a=0:=by rw [cr_self']; omega
 have zc:s*cr c a c=0:=by rw [cr_self]; omega
 have hac:a≠c:=by
  rintro rfl
  rw [cr_self] at hD
  omega
 have first:i=0∨j=0:=by
  apply Classical.byContradiction
  intro hij
  have pi:0 < i:=by omega
  have pj:0 < j:=by omega
  have try1:Out s a b c x→0≤s*cr c a x→False:=by
   intro ho hp
   refine leave hs hD hab hbc pi pj (by omega) (by omega) (by omega) hp ?_
   rcases ho with r|r|r
   ·exact Or.inl r
   ·omega
   ·exact Or.inr r
  have try2:Out s a b c y→0≤s*cr c a y→False:=by
   intro ho hp
   refine leave hs hD hab.swap hbc.swap pj pi (by omega) (by omega) (by omega) hp ?_
   rcases ho with r|r|r
   ·exact Or.inl r
   ·omega
   ·exact Or.inr r
  rcases hx with r|r|r
  ·have e:s*cr c a y=0:=by
    rw [r,za] at qB
    have:j*(s*cr c a y)=0:=by omega
    exact (Int.mul_eq_zero.1 this).resolve_left (by omega)
   rcases hy with t|t|t
   ·exact hxy (r.trans t.symm)
   ·exact n1 ⟨r,t⟩
   ·exact try2 t (by omega)
  ·have e:s*cr c a y=0:=by
    rw [r,zc] at qB
    have:j*(s*cr c a y)=0:=by omega
    exact (Int.mul_eq_zero.1 this).resolve_left (by omega)
   rcases hy with t|t|t
   ·exact n2 ⟨r,t⟩
   ·exact hxy (r.trans t.symm)
   ·exact try2 t (by omega)
  ·rcases Int.lt_or_le (s*cr c a x) 0 with nx|px
   ·have py:0 < s*cr c a y:=by
     have:=Int.mul_pos pi (show 0 < -(s*cr c a x) by omega)
     exact pm' (a:=s*cr c a y) (b:=j) (by grind) pj
    rcases hy with t|t|t
    ·rw [t,za] at py; omega
    ·rw [t,zc] at py; omega
    ·exact try2 t (Int.le_of_lt py)
   ·exact try1 r px
 refine ⟨first,?_⟩
 apply Classical.byContradiction
 intro hkl
 have pk:0 < k:=by omega
 have pl:0 < l:=by omega
 have gsum:=g.sum
 have gx:=g.ex
 have gy:=g.ey
 have kD:=Int.mul_pos pk hD
 have lD:=Int.mul_pos pl hD
 have notboth:∀ p:Pt,∀ t:Int,0 < t→t=k+l→t*p.x=k*a.x+l*c.x→t*p.y=k*a.y+l*c.y→t*(s*cr c a p)=0→t*(s*cr b c p)=k*(s*cr a b c)→t*(s*cr a b p)=l*(s*cr a b c)→
   (p=a∨p=c∨Out s a b c p)→False:=by
  intro p t ht hs1 hx hy h1 h2 h3 ho
  have p2:0 < s*cr b c p:=(pos_iff ht).1 (by rw [h2]; exact kD)
  have p3:0 < s*cr a b p:=(pos_iff ht).1 (by rw [h3]; exact lD)
  have p1:s*cr c a p=0:=(Int.mul_eq_zero.1 h1).resolve_left (by omega)
  rcases ho with r|r|r
  ·rw [r,cr_self] at p3; omega
  ·rw [r,cr_self'] at p2; omega
  ·rcases r with r|r|r <;> omega
 rcases first with r|r
 ·subst r
  have pj:0 < j:=by have:=g.pos; omega
  simp only [Int.zero_mul,Int.zero_add] at qA qB qC gx gy gsum
  exact notboth y j pj gsum gx gy qB qA qC hy
 ·subst r
  have pi:0 < i:=by have:=g.pos; omega
  simp only [Int.zero_mul,Int.add_zero] at qA qB qC gx gy gsum
  exact notboth x i pi gsum gx gy qB qA qC hx
theorem big_of {i j k l X Y D Z:Int} (sum:i+j=k+l) (q:i*X+j*Y=k*D+l*Z) (h:Y≤X) (hj:0≤j):k*D+l*Z≤(k+l)*X:=by
 have:=Int.mul_le_mul_of_nonneg_left (c:=j) h hj
 rw [← sum,Int.add_mul]
 omega
theorem ge_of {k l X D Z:Int} (hb:k*D+l*Z≤(k+l)*X) (hk:0≤k) (hp:0 < k+l) (hz:Z≤D):Z≤X:=by
 apply Classical.byContradiction; intro hn
 have h1:=Int.mul_pos hp (show 0 < Z - X by omega)
 have h2:=Int.mul_nonneg hk (show 0≤D - Z by omega)
 rw [Int.mul_sub] at h1 h2
 rw [Int.add_mul k l Z] at h1
 omega
theorem gt_of {t k l X D Z:Int} (hs:t=k+l) (q:t*X=k*D+l*Z) (hk:0 < k) (ht:0 < t) (hz:Z < D):Z < X:=by
 have h1:=Int.mul_pos hk (show 0 < D - Z by omega)
 have h2:0 < t*(X - Z):=by
  rw [Int.mul_sub] at h1 ⊢
  rw [q,hs,Int.add_mul]
  omega
 have:=(pos_iff ht).1 h2
 omega
theorem k_zero {k l X D Z:Int} (hb:k*D+l*Z≤(k+l)*X) (hk:0≤k) (hp:0 < k+l) (hz:Z < D) (h:X≤Z):k=0:=by
 have h1:=Int.mul_le_mul_of_nonneg_left (c:=k+l) h (by omega)
 have h2:=Int.mul_nonneg hk (show 0≤D - Z by omega)
 have h3:k*(D - Z)=0:=by
  rw [Int.mul_sub] at h2 ⊢
  rw [Int.add_mul k l Z] at h1
  omega
 exact (Int.mul_eq_zero.1 h3).resolve_right (by omega)
theorem diag_compat {s:Int} {u v w z x y:Pt} (hs:s=1∨s=-1) (hD:0 < s*cr u v w) (hab:Compat x y u v) (hbc:Compat x y v w)
  (zA:0 < s*cr v w z) (zB:0≤s*cr w u z) (zC:0 < s*cr u v z)     (hx:x=u∨x=w∨Out s u v w x∨s*cr w u x≤s*cr w u z) (hy:y=u∨y=w∨Out s u v w y∨s*cr w u y≤s*cr w u z)
  (hz:∀ i j:Int,0 < i→0 < j→¬ (i*x.x+j*y.x=(i+j)*z.x∧i*x.y+j*y.y=(i+j)*z.y)):Compat x y v z:=by
 intro i j k l g
 have gB:=cr_at (p:=w) (q:=u) g
 have gA:=cr_at (p:=v) (q:=w) g
 have gC:=cr_at (p:=u) (q:=v) g
 rw [cr_self] at gA
 rw [cr_self'] at gC
 rw [cr_rot' u v w] at gB
 have i0:=g.i0
 have j0:=g.j0
 have k0:=g.k0
 have l0:=g.l0
 have hsz:=cr_sum u v w z
 have zlt:s*cr w u z < s*cr u v w:=by
  have:s*cr u v z+s*cr v w z+s*cr w u z=s*cr u v w:=by rw [← hsz]; grind
  omega
 have mul:∀ {p q r:Int},p=q→r*p=r*q:=fun h=>by rw [h]
 have qB:i*(s*cr w u x)+j*(s*cr w u y)=k*(s*cr u v w)+l*(s*cr w u z):=by have:=mul (r:=s) gB; grind
 have qA:i*(s*cr v w x)+j*(s*cr v w y)=l*(s*cr v w z):=by have:=mul (r:=s) gA; grind
 have qC:i*(s*cr u v x)+j*(s*cr u v y)=l*(s*cr u v z):=by have:=mul (r:=s) gC; grind
 have kD:=Int.mul_nonneg k0 (Int.le_of_lt hD)
 have lA:=Int.mul_nonneg l0 (Int.le_of_lt zA)
 have lB:=Int.mul_nonneg l0 zB
 have lC:=Int.mul_nonneg l0 (Int.le_of_lt zC)
 have zu:s*cr w u u=0:=by rw [cr_self']; omega
 have zw:s*cr w u w=0:=by rw [cr_self]; omega
 generalize hDD:s*cr u v w=D at*
 have gsum:=g.sum
 have gx:=g.ex
 have gy:=g.ey
 have first:i=0∨j=0:=by
  apply Classical.byContradiction
  intro hij
  have pi:0 < i:=by omega
  have pj:0 < j:=by omega
  have fin:∀ x y:Pt,∀ i j:Int,0 < i→0 < j→i+j=k+l→Compat x y u v→Compat x y v w→(x=u∨x=w∨Out s u v w x∨s*cr w u x≤s*cr w u z)→
    i*(s*cr w u x)+j*(s*cr w u y)=k*D+l*(s*cr w u z)→
    i*(s*cr v w x)+j*(s*cr v w y)=l*(s*cr v w z)→i*(s*cr u v x)+j*(s*cr u v y)=l*(s*cr u v z)→
    s*cr w u y≤s*cr w u x→k=0:=by
   intro x y i j pi pj sum hab hbc hx qB qA qC hle
   have big:=big_of sum qB hle (Int.le_of_lt pj)
   have ge:=ge_of big k0 (by omega) (Int.le_of_lt zlt)
   have done:s*cr w u x≤s*cr w u z→k=0:=k_zero big k0 (by omega) zlt
   rcases hx with r|r|r|r
   ·exact done (by rw [r,zu]; omega)
   ·exact done (by rw [r,zw]; omega)
   ·exfalso
    refine leave hs (by rw [hDD]; exact hD) hab hbc pi pj (by omega) (by omega) (by omega) (by omega) ?_
    rcases r with r|r|r
    ·exact Or.inl r
    ·omega
    ·exact Or.inr r
   ·exact done r
  have hk:k=0:=by
   rcases Int.le_total (s*cr w u y) (s*cr w u x) with h|h
   ·exact fin x y i j pi pj gsum hab hbc hx qB qA qC h
   ·exact fin y x j i pj pi (by omega) hab.swap hbc.swap hy (by omega) (by omega) (by omega) h
  subst hk
  exact hz i j pi pj ⟨by rw [gx,gsum,Int.zero_mul,Int.zero_add,Int.zero_add],by rw [gy,gsum,Int.zero_mul,Int.zero_add,Int.zero_add]⟩
 refine ⟨first,?_⟩
 apply Classical.byContradiction
 intro hkl
 have pk:0 < k:=by omega
 have pl:0 < l:=by omega
 have no:∀ p:Pt,∀ t:Int,0 < t→t=k+l→t*(s*cr w u p)=k*D+l*(s*cr w u z)→t*(s*cr v w p)=l*(s*cr v w z)→t*(s*cr u v p)=l*(s*cr u v z)→
   (p=u∨p=w∨Out s u v w p∨s*cr w u p≤s*cr w u z)→False:=by
  intro p t ht hs1 h1 h2 h3 ho
  have p2:0 < s*cr v w p:=(pos_iff ht).1 (by rw [h2]; exact Int.mul_pos pl zA)
  have p3:0 < s*cr u v p:=(pos_iff ht).1 (by rw [h3]; exact Int.mul_pos pl zC)
  have p1:s*cr w u z < s*cr w u p:=gt_of hs1 h1 pk ht zlt
  rcases ho with r|r|r|r
  ·rw [r,cr_self] at p3; omega
  ·rw [r,cr_self'] at p2; omega
  ·rcases r with r|r|r <;> omega
  ·omega
 rcases first with r|r
 ·subst r
  have pj:0 < j:=by have:=g.pos; omega
  simp only [Int.zero_mul,Int.zero_add] at qA qB qC gsum
  exact no y j pj gsum qB qA qC hy
 ·subst r
  have pi:0 < i:=by have:=g.pos; omega
  simp only [Int.zero_mul,Int.add_zero] at qA qB qC gsum
  exact no x i pi gsum qB qA qC hx
theorem diag_compat_u {s:Int} {u v z:Pt} (zC:0 < s*cr u v z):Compat u v v z:=by
 intro i j k l g
 have gC:=cr_at (p:=u) (q:=v) g
 rw [cr_self',cr_self] at gC
 have hne:cr u v z≠0:=by intro h; rw [h] at zC; omega
 have hl:l=0:=by
  have:l*cr u v z=0:=by omega
  exact (Int.mul_eq_zero.1 this).resolve_right hne
 subst hl
 refine ⟨?_,Or.inr rfl⟩
 have hs:=g.sum
 have gx:=g.ex
 have gy:=g.ey
 left
 apply Classical.byContradiction
 intro hi
 have e1:i*(u.x - v.x)=0:=by
  have:k=i+j:=by omega
  rw [this] at gx; grind
 have e2:i*(u.y - v.y)=0:=by
  have:k=i+j:=by omega
  rw [this] at gy; grind
 have h1:=(Int.mul_eq_zero.1 e1).resolve_left hi
 have h2:=(Int.mul_eq_zero.1 e2).resolve_left hi
 have:u=v:=Pt.ext' (by omega) (by omega)
 rw [this,cr_self''] at zC
 omega
theorem Compat.swap' {a b c d:Pt} (h:Compat a b c d):Compat a b d c:=h.symm.swap.symm
theorem diag_compat_w {s:Int} {v w z:Pt} (zA:0 < s*cr v w z):Compat v w v z:=
 (diag_compat_u (s:=-s) (by rw [cr_swap]; grind)).swap
theorem not_on {s:Int} {u v w z z':Pt} (hD:0 < s*cr u v w) (hc:Compat z z' u v) (zu:z≠u) (zv:z≠v)
  (hA:0≤s*cr v w z) (hB:0≤s*cr w u z) (h0:0≤s*cr u v z):0 < s*cr u v z:=by
 apply Classical.byContradiction
 intro hn
 have e:s*cr u v z=0:=by omega
 have hsz:=cr_sum u v w z
 have bx:=bary_x u v w z
 have gy:=bary_y u v w z
 have sum:s*cr v w z+s*cr w u z=s*cr u v w:=by
  have:s*cr u v z+s*cr v w z+s*cr w u z=s*cr u v w:=by rw [← hsz]; grind
  omega
 have ex:s*cr u v w*z.x=s*cr v w z*u.x+s*cr w u z*v.x:=by
  have:s*cr u v w*z.x=s*cr v w z*u.x+s*cr w u z*v.x+s*cr u v z*w.x:=by rw [Int.mul_assoc,bx]; grind
  rw [this,e]; grind
 have ey:s*cr u v w*z.y=s*cr v w z*u.y+s*cr w u z*v.y:=by
  have:s*cr u v w*z.y=s*cr v w z*u.y+s*cr w u z*v.y+s*cr u v z*w.y:=by rw [Int.mul_assoc,gy]; grind
  rw [this,e]; grind
 have:=(hc (s*cr u v w) 0 (s*cr v w z) (s*cr w u z) ⟨by omega,by omega,hA,hB,by omega,by omega,by omega,by omega⟩).2
 rcases this with h|h
 ·rw [h] at ex ey sum
  have hs:s*cr w u z=s*cr u v w:=by omega
  rw [hs] at ex ey
  exact zv (Pt.ext' (Int.eq_of_mul_eq_mul_left (a:=s*cr u v w) (by omega) (by omega)) (Int.eq_of_mul_eq_mul_left (a:=s*cr u v w) (by omega) (by omega)))
 ·rw [h] at ex ey sum
  have hs:s*cr v w z=s*cr u v w:=by omega
  rw [hs] at ex ey
  exact zu (Pt.ext' (Int.eq_of_mul_eq_mul_left (a:=s*cr u v w) (by omega) (by omega)) (Int.eq_of_mul_eq_mul_left (a:=s*cr u v w) (by omega) (by omega)))
def Lt (p q:Pt):Prop:=p.x < q.x∨(p.x=q.x∧p.y < q.y)
theorem lt_total {p q:Pt} (h:p≠q):Lt p q∨Lt q p:=by
 unfold Lt
 by_cases h1:p.x=q.x
 ·by_cases h2:p.y=q.y
  ·exact absurd (Pt.ext' h1 h2) h
  ·omega
 ·omega
theorem lt_trans {p q r:Pt} (h:Lt p q) (g:Lt q r):Lt p r:=by unfold Lt at *; omega
theorem lt_irrefl (p:Pt):¬ Lt p p:=by unfold Lt; omega
theorem min_out {s:Int} {a b c v:Pt} (hD:0 < s*cr a b c) (ha:Lt v a) (hb:Lt v b) (hc:Lt v c):Out s a b c v:=by
 apply Classical.byContradiction
 intro ho
 unfold Out at ho
 have hA:0≤s*cr b c v:=by omega
 have hB:0≤s*cr c a v:=by omega
 have hC:0≤s*cr a b v:=by omega
 have sum:s*cr b c v+s*cr c a v+s*cr a b v=s*cr a b c:=by rw [← cr_sum a b c v]; grind
 have ex:s*cr b c v*(a.x - v.x)+s*cr c a v*(b.x - v.x)+s*cr a b v*(c.x - v.x)=0:=by
  have:=bary_x a b c v; have:=cr_sum a b c v; grind
 have ey:s*cr b c v*(a.y - v.y)+s*cr c a v*(b.y - v.y)+s*cr a b v*(c.y - v.y)=0:=by
  have:=bary_y a b c v; have:=cr_sum a b c v; grind
 generalize s*cr b c v=A at*
 generalize s*cr c a v=B at*
 generalize s*cr a b v=C at*
 unfold Lt at ha hb hc
 have xa:=Int.mul_nonneg hA (show 0≤a.x - v.x by omega)
 have xb:=Int.mul_nonneg hB (show 0≤b.x - v.x by omega)
 have xc:=Int.mul_nonneg hC (show 0≤c.x - v.x by omega)
 have one:∀ {A p q:Int},0≤A→A*p=0→(0 < p∨(p=0∧0 < q))→0≤A*q∧(0 < A→0 < A*q):=by
  intro A p q h0 h1 h2
  rcases Int.mul_eq_zero.1 h1 with h|h
  ·subst h; omega
  ·rcases h2 with h2|h2
   ·omega
   ·exact ⟨Int.mul_nonneg h0 (by omega),fun g=>Int.mul_pos g h2.2⟩
 have ya:=one (q:=a.y - v.y) hA (show A*(a.x - v.x)=0 by omega) (by omega)
 have yb:=one (q:=b.y - v.y) hB (show B*(b.x - v.x)=0 by omega) (by omega)
 have yc:=one (q:=c.y - v.y) hC (show C*(c.x - v.x)=0 by omega) (by omega)
 omega
theorem min_turn {u v w:Pt} (hu:Lt v u) (hw:Lt v w) (hne:u≠w) (hc:Compat u v v w):cr u v w≠0:=by
 intro h0
 have key:(u.x - v.x)*(w.y - v.y)=(u.y - v.y)*(w.x - v.x):=by
  unfold cr at h0; grind
 obtain ⟨U,W,hU,hW,ex,ey⟩:∃ U W:Int,0 < U∧0 < W∧W*(u.x - v.x)=U*(w.x - v.x)∧W*(u.y - v.y)=U*(w.y - v.y):=by
  unfold Lt at hu hw
  rcases hu with hu|hu
  ·rcases hw with hw|hw
   ·exact ⟨u.x - v.x,w.x - v.x,by omega,by omega,by grind,by grind⟩
   ·exfalso
    have:w.x - v.x=0:=by omega
    rw [this] at key
    have:=Int.mul_pos (show 0 < u.x - v.x by omega) (show 0 < w.y - v.y by omega)
    omega
  ·rcases hw with hw|hw
   ·exfalso
    have:u.x - v.x=0:=by omega
    rw [this] at key
    have:=Int.mul_pos (show 0 < u.y - v.y by omega) (show 0 < w.x - v.x by omega)
    omega
   ·exact ⟨u.y - v.y,w.y - v.y,by omega,by omega,by grind,by grind⟩
 rcases Int.le_total U W with h|h
 ·have:=(hc W 0 (W - U) U ⟨by omega,by omega,by omega,by omega,by omega,by omega,by grind,by grind⟩).2
  have hUW:U=W:=by omega
  rw [hUW] at ex ey
  exact hne (Pt.ext' (by have:=Int.eq_of_mul_eq_mul_left (show W≠0 by omega) ex; omega) (by have:=Int.eq_of_mul_eq_mul_left (show W≠0 by omega) ey; omega))
 ·have:=(hc W (U - W) 0 U ⟨by omega,by omega,by omega,by omega,by omega,by omega,by grind,by grind⟩).1
  have hUW:U=W:=by omega
  rw [hUW] at ex ey
  exact hne (Pt.ext' (by have:=Int.eq_of_mul_eq_mul_left (show W≠0 by omega) ex; omega) (by have:=Int.eq_of_mul_eq_mul_left (show W≠0 by omega) ey; omega))
theorem ray_up {d v x y:Pt} (hx:Lt v x) (hy:Lt v y) (hd:d.x < 0∨(d.x=0∧d.y < 0)) (h1:gg d v x≤0) (h2:0 < gg d v y):cr x y v≤0:=by
 apply Classical.byContradiction
 intro hc
 have e1:cr x y v*d.x=(x.x - v.x)*gg d v y - (y.x - v.x)*gg d v x:=by unfold cr gg; grind
 have e2:cr x y v*d.y=(x.y - v.y)*gg d v y - (y.y - v.y)*gg d v x:=by unfold cr gg; grind
 have hc':0 < cr x y v:=by omega
 generalize cr x y v=C at*
 generalize gg d v x=G at*
 generalize gg d v y=H at*
 unfold Lt at hx hy
 have a1:=Int.mul_nonneg (show 0≤x.x - v.x by omega) (Int.le_of_lt h2)
 have a2:=Int.mul_nonneg (show 0≤y.x - v.x by omega) (show 0≤-G by omega)
 rw [Int.mul_neg] at a2
 have hdx:0≤C*d.x:=by omega
 rcases hd with hd|⟨hd0,hd⟩
 ·have:=Int.mul_pos hc' (show 0 < -d.x by omega)
  rw [Int.mul_neg] at this
  omega
 ·rw [hd0,Int.mul_zero] at e1
  have z1:(x.x - v.x)*H=0:=by omega
  have z2:(y.x - v.x)*G=0:=by omega
  have x0:=(Int.mul_eq_zero.1 z1).resolve_right (by omega)
  have a3:=Int.mul_pos (show 0 < x.y - v.y by omega) h2
  have a4:0≤(y.y - v.y)*-G:=by
   rcases Int.mul_eq_zero.1 z2 with h|h
   ·exact Int.mul_nonneg (by omega) (by omega)
   ·rw [h]; omega
  rw [Int.mul_neg] at a4
  have:=Int.mul_pos hc' (show 0 < -d.y by omega)
  rw [Int.mul_neg] at this
  omega
theorem ray_min {d v x y:Pt} (hx:Lt v x) (hy:Lt v y) (hd:d.x < 0∨(d.x=0∧d.y < 0)):w d v x y=0:=by
 unfold w
 split
 ·rename_i h
  have:=ray_up hx hy hd (by omega) h.2.1
  omega
 ·split
  ·rename_i h
   have:=ray_up hy hx hd (by omega) h.1
   rw [cr_swap] at this
   omega
  ·rfl
def path:List Pt→List (Pt×Pt)
 | x::y::r=>(x,y)::path (y::r)
 | _=>[]
def cyc:List Pt→List (Pt×Pt)
 | []=>[]
 | a::l=>path (a::(l++[a]))
theorem path_app (l1:List Pt) (x:Pt) (l2:List Pt):path (l1++x::l2)=path (l1++[x])++path (x::l2):=by
 induction l1 with
 | nil=>rfl
 | cons a r ih=>
  cases r with
  | nil=>rfl
  | cons b r=>simp only [List.cons_append,path] at ih ⊢; rw [ih]
theorem path_snoc (l:List Pt) (a b:Pt):path (l++[a]++[b])=path (l++[a])++[(a,b)]:=by
 rw [List.append_assoc]
 exact path_app l a [b]
theorem mem_path {l:List Pt} {x y:Pt} (h:(x,y)∈path l):x∈l∧y∈l.tail:=by
 induction l with
 | nil=>cases h
 | cons a r ih=>
  cases r with
  | nil=>cases h
  | cons b r=>
   simp only [path,List.mem_cons,Prod.mk.injEq] at h
   rcases h with ⟨rfl,rfl⟩|h
   ·simp
   ·have:=ih h
    simp only [List.tail_cons] at this ⊢
    exact ⟨List.mem_cons_of_mem _ this.1,List.mem_cons_of_mem _ this.2⟩
theorem mem_path_left {l:List Pt} {a x y:Pt} (h:(x,y)∈path (l++[a])):x∈l:=by
 induction l with
 | nil=>cases h
 | cons b r ih=>
  cases r with
  | nil=>
   simp only [List.cons_append,List.nil_append,path,List.mem_cons,Prod.mk.injEq,List.not_mem_nil,or_false] at h
   simp [h.1]
  | cons c r=>
   simp only [List.cons_append,path,List.mem_cons,Prod.mk.injEq] at h
   rcases h with ⟨rfl,rfl⟩|h
   ·simp
   ·exact List.mem_cons_of_mem _ (ih h)
theorem path_ne {l:List Pt} (hn:l.Nodup) {x y:Pt} (h:(x,y)∈path l):x≠y:=by
 induction l with
 | nil=>cases h
 | cons a r ih=>
  cases r with
  | nil=>cases h
  | cons b r=>
   simp only [path,List.mem_cons,Prod.mk.injEq] at h
   rcases h with ⟨rfl,rfl⟩|h
   ·intro e; subst e; simp at hn
   ·exact ih (List.nodup_cons.1 hn).2 h
theorem cyc3 (v w u:Pt) (m:List Pt):cyc (v::w::(m++[u]))=(v,w)::(path (w::(m++[u]))++[(u,v)]):=by
 have:=path_snoc (w::m) u v
 simp only [List.cons_append] at this
 simp only [cyc,List.cons_append,path,this]
theorem cyc2 (w u:Pt) (m:List Pt):cyc (w::(m++[u]))=path (w::(m++[u]))++[(u,w)]:=by
 have:=path_snoc (w::m) u w
 simp only [List.cons_append] at this
 simp only [cyc,this]
theorem cyc_rot (l1 l2:List Pt) (v:Pt):(cyc (l1++v::l2)).Perm (cyc (v::(l2++l1))):=by
 cases l1 with
 | nil=>simp
 | cons a r=>
  have e1:cyc (a::r++v::l2)=path (a::r++[v])++path (v::l2++[a]):=by
   have:=path_app (a::r) v (l2++[a])
   simp only [cyc,List.cons_append,List.append_assoc] at this ⊢
   exact this
  have e2:cyc (v::(l2++a::r))=path (v::l2++[a])++path (a::r++[v]):=by
   have:=path_app (v::l2) a (r++[v])
   simp only [cyc,List.cons_append,List.append_assoc] at this ⊢
   exact this
  rw [e1,e2]
  exact List.perm_append_comm
structure Poly (P:List Pt):Prop where
 nd:P.Nodup
 len:3≤P.length
 com:∀ e∈cyc P,∀ f∈cyc P,e≠f→Compat e.1 e.2 f.1 f.2
theorem Poly.rot {l1 l2:List Pt} {v:Pt} (h:Poly (l1++v::l2)):Poly (v::(l2++l1)):=by
 have hp:(l1++v::l2).Perm (v::(l2++l1)):=by
  have:=List.perm_append_comm (l₁:=l1) (l₂:=v::l2)
  simpa using this
 have hc:=cyc_rot l1 l2 v
 exact ⟨hp.nodup_iff.1 h.nd,by rw [← hp.length_eq]; exact h.len,fun e he f hf=>h.com e (hc.mem_iff.2 he) f (hc.mem_iff.2 hf)⟩
theorem mem_cyc {P:List Pt} {x y:Pt} (h:(x,y)∈cyc P):x∈P∧y∈P:=by
 cases P with
 | nil=>cases h
 | cons a l=>
  have h1:=mem_path_left (l:=a::l) (a:=a) h
  have h2:=(mem_path h).2
  refine ⟨h1,?_⟩
  simp only [List.tail_cons,List.mem_append,List.mem_cons,List.not_mem_nil,or_false] at h2
  rcases h2 with h2|h2
  ·exact List.mem_cons_of_mem _ h2
  ·simp [h2]
theorem last_of {α:Type} (x:α) (l:List α):∃ r u,x::l=r++[u]:=by
 induction l generalizing x with
 | nil=>exact ⟨[],x,rfl⟩
 | cons y r ih=>obtain ⟨r',u,h⟩:=ih y; exact ⟨x::r',u,by rw [h]; rfl⟩
theorem Poly.at {P:List Pt} (h:Poly P) {v:Pt} (hv:v∈P):∃ w m u,Poly (v::w::(m++[u]))∧P.Perm (v::w::(m++[u]))∧(cyc P).Perm (cyc (v::w::(m++[u]))):=by
 obtain ⟨l1,l2,rfl⟩:=List.append_of_mem hv
 have hr:=h.rot
 have hp:(l1++v::l2).Perm (v::(l2++l1)):=by
  have:=List.perm_append_comm (l₁:=l1) (l₂:=v::l2)
  simpa using this
 have hc:=cyc_rot l1 l2 v
 have hl:=hr.len
 cases e:l2++l1 with
 | nil=>rw [e] at hl; simp at hl
 | cons w r=>
  cases r with
  | nil=>rw [e] at hl; simp at hl
  | cons x r=>
   obtain ⟨m,u,hm⟩:=last_of x r
   rw [hm] at e
   rw [e] at hr hp hc
   exact ⟨w,m,u,hr,hp,hc⟩
theorem Poly.src {P:List Pt} (h:Poly P) {v b b':Pt} (h1:(v,b)∈cyc P) (h2:(v,b')∈cyc P):b=b':=by
 obtain ⟨w,m,u,hp,_,hc⟩:=h.at (mem_cyc h1).1
 have hn:=(List.nodup_cons.1 hp.nd).1
 have key:∀ b,(v,b)∈cyc P→b=w:=by
  intro b hb
  have:=hc.mem_iff.1 hb
  rw [cyc3] at this
  simp only [List.mem_cons,Prod.mk.injEq,true_and,List.mem_append,List.not_mem_nil,or_false] at this
  rcases this with h|h|h
  ·exact h
  ·exact absurd (mem_path h).1 hn
  ·exact absurd (by rw [h.1]; simp) hn
 rw [key b h1,key b' h2]
theorem Poly.dst {P:List Pt} (h:Poly P) {v a a':Pt} (h1:(a,v)∈cyc P) (h2:(a',v)∈cyc P):a=a':=by
 obtain ⟨w,m,u,hp,_,hc⟩:=h.at (mem_cyc h1).2
 have hn:=(List.nodup_cons.1 hp.nd).1
 have key:∀ a,(a,v)∈cyc P→a=u:=by
  intro a ha
  have:=hc.mem_iff.1 ha
  rw [cyc3] at this
  simp only [List.mem_cons,Prod.mk.injEq,and_true,List.mem_append,List.not_mem_nil,or_false] at this
  rcases this with h|h|h
  ·exact absurd (by rw [h.2]; simp) hn
  ·exact absurd (List.mem_of_mem_tail (mem_path h).2) hn
  ·exact h
 rw [key a h1,key a' h2]
theorem Poly.out {P:List Pt} (h:Poly P) {v:Pt} (hv:v∈P):∃ b,(v,b)∈cyc P:=by
 obtain ⟨w,m,u,_,_,hc⟩:=h.at hv
 exact ⟨w,hc.mem_iff.2 (by rw [cyc3]; simp)⟩
theorem Poly.ne {P:List Pt} (h:Poly P) {x y:Pt} (hm:(x,y)∈cyc P):x≠y:=by
 obtain ⟨w,m,u,hp,_,hc⟩:=h.at (mem_cyc hm).1
 have hn:=(List.nodup_cons.1 hp.nd).1
 have:=hc.mem_iff.1 hm
 rw [cyc3] at this
 intro e
 subst e
 simp only [List.mem_cons,Prod.mk.injEq,true_and,List.mem_append,List.not_mem_nil,or_false] at this
 rcases this with h|h|h
 ·exact hn (by rw [h]; simp)
 ·exact hn (mem_path h).1
 ·exact hn (by rw [h.1]; simp)
theorem poly_mk {Q:List Pt} {E:List (Pt×Pt)} {d:Pt×Pt} (nd:Q.Nodup) (len:3≤Q.length)
  (hE:∀ e∈E,∀ f∈E,e≠f→Compat e.1 e.2 f.1 f.2)
  (hQ:∀ e∈cyc Q,e=d∨(e∈E∧Compat e.1 e.2 d.1 d.2)):Poly Q:=by
 refine ⟨nd,len,fun e he f hf hne=>?_⟩
 rcases hQ e he with h1|⟨h1,c1⟩
 ·rcases hQ f hf with h2|⟨_,c2⟩
  ·exact absurd (h1.trans h2.symm) hne
  ·rw [h1]; exact c2.symm
 ·rcases hQ f hf with h2|⟨h2,_⟩
  ·rw [h2]; exact c1
  ·exact hE e h1 f h2 hne
theorem clip {s:Int} {a b c:Pt} {m:List Pt} (hs:s=1∨s=-1) (hP:Poly (b::c::(m++[a]))) (hm:m≠[]) (hD:0 < s*cr a b c)
  (ho:∀ q∈m,Out s a b c q):Poly (c::(m++[a]))∧
  (∀ e∈cyc (c::(m++[a])),e=(a,c)∨(Compat e.1 e.2 a b∧Compat e.1 e.2 b c∧(e.1=a∨e.1=c∨Out s a b c e.1)∧(e.2=a∨e.2=c∨Out s a b c e.2))):=by
 have hnd:=List.nodup_cons.1 hP.nd
 have hE:∀ e∈path (c::(m++[a])),e∈cyc (b::c::(m++[a])):=by
  intro e he; rw [cyc3]; simp [he]
 have hv:∀ x∈c::(m++[a]),x=a∨x=c∨Out s a b c x:=by
  intro x hx
  simp only [List.mem_cons,List.mem_append,List.not_mem_nil,or_false] at hx
  rcases hx with h|h|h
  ·exact Or.inr (Or.inl h)
  ·exact Or.inr (Or.inr (ho x h))
  ·exact Or.inl h
 have hab:(a,b)∈cyc (b::c::(m++[a])):=by rw [cyc3]; simp
 have hbc:(b,c)∈cyc (b::c::(m++[a])):=by rw [cyc3]; simp
 have key:∀ e∈path (c::(m++[a])),Compat e.1 e.2 a b∧Compat e.1 e.2 b c∧(e.1=a∨e.1=c∨Out s a b c e.1)∧(e.2=a∨e.2=c∨Out s a b c e.2):=by
  rintro ⟨x,y⟩ he
  have hxy:=mem_path he
  have hy:y∈c::(m++[a]):=List.mem_of_mem_tail hxy.2
  refine ⟨hP.com _ (hE _ he) _ hab ?_,hP.com _ (hE _ he) _ hbc ?_,hv x hxy.1,hv y hy⟩
  ·intro e; exact hnd.1 ((Prod.mk.inj e).2▸hy)
  ·intro e; exact hnd.1 ((Prod.mk.inj e).1▸hxy.1)
 have nd':=hnd.2
 have hac:a∉c::m∧c∉m++[a]:=by
  refine ⟨?_,(List.nodup_cons.1 nd').1⟩
  have:(c::m++[a]).Nodup:=nd'
  rw [List.nodup_append] at this
  intro h
  exact this.2.2 a h a (by simp) rfl
 refine ⟨poly_mk (E:=path (c::(m++[a]))) (d:=(a,c)) nd' ?_ (fun e he f hf=>hP.com e (hE e he) f (hE f hf)) ?_,?_⟩
 ·cases m with
  | nil=>exact absurd rfl hm
  | cons x r=>simp
 ·rintro ⟨x,y⟩ he
  rw [cyc2] at he
  simp only [List.mem_append,List.mem_cons,List.not_mem_nil,or_false] at he
  rcases he with h|h
  ·refine Or.inr ⟨h,?_⟩
   obtain ⟨k1,k2,k3,k4⟩:=key _ h
   refine clip_compat hs hD k1 k2 (path_ne nd' h) k3 k4 ?_ ?_
   ·rintro ⟨rfl,rfl⟩
    exact hac.2 (mem_path h).2
   ·rintro ⟨rfl,rfl⟩
    cases m with
    | nil=>exact absurd rfl hm
    | cons x0 r=>
     simp only [List.cons_append,path,List.mem_cons,Prod.mk.injEq,true_and] at h
     rcases h with h|h
     ·exact hac.1 (by rw [h]; simp)
     ·exact hac.2 (mem_path h).1
  ·exact Or.inl h
 ·rintro e he
  rw [cyc2] at he
  simp only [List.mem_append,List.mem_cons,List.not_mem_nil,or_false] at he
  rcases he with h|h
  ·exact Or.inr (key e h)
  ·exact Or.inl h
theorem exists_max {α:Type} (p:α→Prop) (h:α→Int):∀ l:List α,(∃ q∈l,p q)→∃ z∈l,p z∧∀ q∈l,p q→h q≤h z:=by
 intro l
 induction l with
 | nil=>rintro ⟨q,hq,_⟩; cases hq
 | cons a r ih=>
  intro hex
  by_cases hr:∃ q∈r,p q
  ·obtain ⟨z,hz,pz,mz⟩:=ih hr
   by_cases ha:p a∧h z < h a
   ·refine ⟨a,by simp,ha.1,fun q hq pq=>?_⟩
    rcases List.mem_cons.1 hq with g|g
    ·rw [g]; omega
    ·have:=mz q g pq; omega
   ·refine ⟨z,by simp [hz],pz,fun q hq pq=>?_⟩
    rcases List.mem_cons.1 hq with g|g
    ·subst g
     have:¬ h z < h q:=fun hl=>ha ⟨pq,hl⟩
     omega
    ·exact mz q g pq
  ·obtain ⟨q,hq,pq⟩:=hex
   have ea:q=a:=by
    rcases List.mem_cons.1 hq with g|g
    ·exact g
    ·exact absurd ⟨q,g,pq⟩ hr
   subst ea
   refine ⟨q,by simp,pq,fun q' hq' pq'=>?_⟩
   rcases List.mem_cons.1 hq' with g|g
   ·rw [g]; omega
   ·exact absurd ⟨q',g,pq'⟩ hr
theorem dich {s:Int} {u v w:Pt} {m:List Pt} (hs:s=1∨s=-1) (hP:Poly (v::w::(m++[u]))) (hD:0 < s*cr u v w):
  (∀ q∈m,Out s u v w q)∨∃ l1 z l2,m=l1++z::l2∧Poly (v::w::(l1++[z]))∧Poly (v::z::(l2++[u]))∧
   0 < s*cr z v w∧0 < s*cr u v z∧(∀ e∈cyc (v::w::(m++[u])),Compat e.1 e.2 v z):=by
 by_cases hall:∀ q∈m,Out s u v w q
 ·exact Or.inl hall
 right
 have hex:∃ q∈m,¬ Out s u v w q:=by
  apply Classical.byContradiction
  intro hn
  exact hall (fun q hq=>Classical.byContradiction fun h=>hn ⟨q,hq,h⟩)
 obtain ⟨z,hz,pz,mz⟩:=exists_max (fun q=>¬ Out s u v w q) (fun q=>s*cr w u q) m hex
 have hnd:=List.nodup_cons.1 hP.nd
 have hnd2:=List.nodup_cons.1 hnd.2
 have hzP:z∈v::w::(m++[u]):=by simp [hz]
 have zv:z≠v:=by rintro rfl; exact hnd.1 (by simp [hz])
 have zw:z≠w:=by rintro rfl; exact hnd2.1 (by simp [hz])
 have zu:z≠u:=by
  rintro rfl
  have:=hnd2.2
  rw [List.nodup_append] at this
  exact this.2.2 z hz z (by simp) rfl
 obtain ⟨z',hz'⟩:=hP.out hzP
 have huv:(u,v)∈cyc (v::w::(m++[u])):=by rw [cyc3]; simp
 have hvw:(v,w)∈cyc (v::w::(m++[u])):=by rw [cyc3]; simp
 have pz':0≤s*cr v w z∧0≤s*cr w u z∧0≤s*cr u v z:=by unfold Out at pz; omega
 have zC:0 < s*cr u v z:=
  not_on hD (hP.com _ hz' _ huv (fun e=>zu (Prod.mk.inj e).1)) zu zv pz'.1 pz'.2.1 pz'.2.2
 have zA:0 < s*cr v w z:=
  not_on (u:=v) (v:=w) (w:=u) (by rw [Geo.cr_rot]; exact hD) (hP.com _ hz' _ hvw (fun e=>zv (Prod.mk.inj e).1)) zv zw pz'.2.1 pz'.2.2 pz'.1
 have hcom:∀ e∈cyc (v::w::(m++[u])),Compat e.1 e.2 v z:=by
  rintro ⟨x,y⟩ he
  have he':=he
  rw [cyc3] at he'
  simp only [List.mem_cons,Prod.mk.injEq,List.mem_append,List.not_mem_nil,or_false] at he'
  rcases he' with ⟨rfl,rfl⟩|h|⟨rfl,rfl⟩
  ·exact diag_compat_w zA
  ·have hx:=(mem_path h).1
   have hy:y∈w::(m++[u]):=List.mem_of_mem_tail (mem_path h).2
   have side:∀ x∈w::(m++[u]),x=u∨x=w∨Out s u v w x∨s*cr w u x≤s*cr w u z:=by
    intro x hx
    simp only [List.mem_cons,List.mem_append,List.not_mem_nil,or_false] at hx
    rcases hx with h|h|h
    ·exact Or.inr (Or.inl h)
    ·by_cases ho:Out s u v w x
     ·exact Or.inr (Or.inr (Or.inl ho))
     ·exact Or.inr (Or.inr (Or.inr (mz x h ho)))
    ·exact Or.inl h
   have hne:=hP.ne he
   refine diag_compat hs hD (hP.com _ he _ huv ?_) (hP.com _ he _ hvw ?_) zA pz'.2.1 zC (side x hx) (side y hy) ?_
   ·intro e; exact hnd.1 ((Prod.mk.inj e).2▸hy)
   ·intro e; exact hnd.1 ((Prod.mk.inj e).1▸hx)
   ·rintro i j pi pj ⟨ex,ey⟩
    have ex:i*x.x+j*y.x=(i+j)*z.x:=ex
    have ey:i*x.y+j*y.y=(i+j)*z.y:=ey
    by_cases hzx:((x,y):Pt×Pt)=(z,z')
    ·have e1:=(Prod.mk.inj hzx).1
     subst e1
     rw [Int.add_mul] at ex ey
     exact hne (Pt.ext' (Int.eq_of_mul_eq_mul_left (a:=j) (by omega) (by omega)) (Int.eq_of_mul_eq_mul_left (a:=j) (by omega) (by omega)))
    ·have:=(hP.com _ he _ hz' hzx i j (i+j) 0 ⟨by omega,by omega,by omega,by omega,by omega,by omega,by simp only [Int.zero_mul,Int.add_zero]; exact ex,by simp only [Int.zero_mul,Int.add_zero]; exact ey⟩).1
     omega
  ·exact diag_compat_u zC
 obtain ⟨l1,l2,rfl⟩:=List.append_of_mem hz
 have hpath:path (w::(l1++z::l2++[u]))=path (w::(l1++[z]))++path (z::(l2++[u])):=by
  have:=path_app (w::l1) z (l2++[u])
  simp only [List.cons_append,List.append_assoc] at this ⊢
  exact this
 have sub1:∀ e∈path (w::(l1++[z])),e∈cyc (v::w::(l1++z::l2++[u])):=by
  intro e he; rw [cyc3,hpath]; simp [he]
 have sub2:∀ e∈path (z::(l2++[u])),e∈cyc (v::w::(l1++z::l2++[u])):=by
  intro e he; rw [cyc3,hpath]; simp [he]
 refine ⟨l1,z,l2,rfl,?_,?_,by rw [← Geo.cr_rot z v w]; exact zA,zC,hcom⟩
 ·refine poly_mk (E:=cyc (v::w::(l1++z::l2++[u]))) (d:=(z,v)) ?_ (by simp) hP.com ?_
  ·refine List.Sublist.nodup ?_ hP.nd
   simp
  ·rintro ⟨x,y⟩ he
   rw [cyc3] at he
   simp only [List.mem_cons,List.mem_append,List.not_mem_nil,or_false] at he
   rcases he with h|h|h
   ·have:((x,y):Pt×Pt)∈cyc (v::w::(l1++z::l2++[u])):=by rw [h]; exact hvw
    exact Or.inr ⟨this,(hcom _ this).swap'⟩
   ·exact Or.inr ⟨sub1 _ h,(hcom _ (sub1 _ h)).swap'⟩
   ·exact Or.inl h
 ·refine poly_mk (E:=cyc (v::w::(l1++z::l2++[u]))) (d:=(v,z)) ?_ (by simp) hP.com ?_
  ·refine List.Sublist.nodup ?_ hP.nd
   refine List.Sublist.cons_cons _ (List.Sublist.cons _ ?_)
   rw [List.append_assoc]
   exact List.sublist_append_of_sublist_right (List.Sublist.refl _)
  ·rintro ⟨x,y⟩ he
   rw [cyc3] at he
   simp only [List.mem_cons,List.mem_append,List.not_mem_nil,or_false] at he
   rcases he with h|h|h
   ·exact Or.inl h
   ·exact Or.inr ⟨sub2 _ h,hcom _ (sub2 _ h)⟩
   ·have:((x,y):Pt×Pt)∈cyc (v::w::(l1++z::l2++[u])):=by rw [h]; exact huv
    exact Or.inr ⟨this,hcom _ this⟩
def SM (s:Int) (P:List Pt):Prop:=∀ a v b,(a,v)∈cyc P→(v,b)∈cyc P→(∀ x∈P,x≠v→Lt v x)→0 < s*cr a v b
theorem exists_min:∀ l:List Pt,l≠[]→∃ v∈l,∀ x∈l,x≠v→Lt v x:=by
 intro l
 induction l with
 | nil=>intro h; exact absurd rfl h
 | cons a r ih=>
  intro _
  by_cases hr:r=[]
  ·subst hr; exact ⟨a,by simp,fun x hx hn=>absurd (by simpa using hx) hn⟩
  ·obtain ⟨v,hv,hm⟩:=ih hr
   by_cases hav:a=v
   ·subst hav
    exact ⟨a,by simp,fun x hx hn=>hm x ((List.mem_cons.1 hx).resolve_left hn) hn⟩
   ·rcases lt_total hav with h|h
    ·refine ⟨a,by simp,fun x hx hn=>?_⟩
     have hx':=(List.mem_cons.1 hx).resolve_left hn
     by_cases hxv:x=v
     ·rw [hxv]; exact h
     ·exact lt_trans h (hm x hx' hxv)
    ·refine ⟨v,by simp [hv],fun x hx hn=>?_⟩
     rcases List.mem_cons.1 hx with g|g
     ·rw [g]; exact h
     ·exact hm x g hn
theorem sign_of {x:Int} (h:x≠0):∃ s:Int,(s=1∨s=-1)∧0 < s*x:=by
 rcases Int.lt_or_le 0 x with g|g
 ·exact ⟨1,Or.inl rfl,by omega⟩
 ·exact ⟨-1,Or.inr rfl,by omega⟩
theorem SM_head {s:Int} {v w u:Pt} {m:List Pt} (hP:Poly (v::w::(m++[u]))) (hmin:∀ x∈v::w::(m++[u]),x≠v→Lt v x) (hD:0 < s*cr u v w):
  SM s (v::w::(m++[u])):=by
 intro a v' b h1 h2 hm
 have hvv:v'=v:=by
  apply Classical.byContradiction
  intro hn
  have h3:=hm v (by simp) (fun e=>hn e.symm)
  have h4:=hmin v' (mem_cyc h2).1 hn
  exact lt_irrefl _ (lt_trans h3 h4)
 subst hvv
 have huv:(u,v')∈cyc (v'::w::(m++[u])):=by rw [cyc3]; simp
 have hvw:(v',w)∈cyc (v'::w::(m++[u])):=by rw [cyc3]; simp
 rw [hP.dst h1 huv,hP.src h2 hvw]
 exact hD
theorem sign_eq {s t x:Int} (hs:s=1∨s=-1) (ht:t=1∨t=-1) (h1:0 < s*x) (h2:0 < t*x):s=t:=by
 rcases hs with h|h <;> rcases ht with g|g <;> subst h <;> subst g <;> omega
theorem Poly.tri {P:List Pt}:∀ n,P.length≤n→Poly P→∃ s,(s=1∨s=-1)∧T s (cyc P)∧SM s P:=by
 intro n
 induction n generalizing P with
 | zero=>intro hl hP; have:=hP.len; omega
 | succ n ih=>
  intro hl hP
  obtain ⟨v,hv,hmin⟩:=exists_min P (by intro e; have:=hP.len; rw [e] at this; simp at this)
  obtain ⟨w,m,u,hQ,hpq,hcq⟩:=hP.at hv
  have hl':(v::w::(m++[u])).length≤n+1:=by rw [← hpq.length_eq]; exact hl
  have hmin':∀ x∈v::w::(m++[u]),x≠v→Lt v x:=fun x hx=>hmin x (hpq.mem_iff.2 hx)
  suffices h:∃ s,(s=1∨s=-1)∧T s (cyc (v::w::(m++[u])))∧0 < s*cr u v w by
   obtain ⟨s,hs,hT,hD⟩:=h
   refine ⟨s,hs,T.perm _ _ hcq.symm hT,?_⟩
   intro a v' b h1 h2 hm
   exact SM_head hQ hmin' hD a v' b (hcq.mem_iff.1 h1) (hcq.mem_iff.1 h2) (fun x hx=>hm x (hpq.mem_iff.2 hx))
  clear hpq hcq hP hmin hv hl
  have hnd:=List.nodup_cons.1 hQ.nd
  have hnd2:=List.nodup_cons.1 hnd.2
  have huv:(u,v)∈cyc (v::w::(m++[u])):=by rw [cyc3]; simp
  have hvw:(v,w)∈cyc (v::w::(m++[u])):=by rw [cyc3]; simp
  have ne1:u≠v:=hQ.ne huv
  have ne2:v≠w:=hQ.ne hvw
  have ne3:u≠w:=by rintro rfl; exact hnd2.1 (by simp)
  have hLu:Lt v u:=hmin' u (by simp) ne1
  have hLw:Lt v w:=hmin' w (by simp) (fun e=>ne2 e.symm)
  have hne:=min_turn hLu hLw ne3 (hQ.com _ huv _ hvw (fun e=>ne1 (Prod.mk.inj e).1))
  obtain ⟨s,hs,hD⟩:=sign_of hne
  refine ⟨s,hs,?_,hD⟩
  have tri:T s [(w,u),(u,v),(v,w)]:=T.tri _ _ _ (by rw [cr_rot']; exact hD)
  by_cases hm:m=[]
  ·subst hm
   have:cyc (v::w::([]++[u]))=[(v,w),(w,u),(u,v)]:=rfl
   rw [this]
   exact T.perm _ _ (List.perm_append_comm (l₁:=[(w,u),(u,v)]) (l₂:=[(v,w)])) tri
  rcases dich hs hQ hD with ho|⟨l1,z,l2,rfl,hA,hB,zA,zC,_⟩
  ·obtain ⟨hR,hE⟩:=clip hs hQ hm hD ho
   obtain ⟨t,ht,hT,_⟩:=ih (P:=w::(m++[u])) (by simpa using hl') hR
   have hst:t=s:=by
    apply Classical.byContradiction
    intro hn
    have hts:t=-s:=by rcases hs with h|h <;> rcases ht with g|g <;> subst h <;> subst g <;> omega
    subst hts
    have hm0:(u,w)∈cyc (w::(m++[u])):=by rw [cyc2]; simp
    have hn1:=near hs hT hm0 hD hE (d:=⟨-1,0⟩) (Or.inl (by decide))
    have hz:csum (Geo.w ⟨-1,0⟩ v) (cyc (w::(m++[u])))=csum (fun _ _=>0) (cyc (w::(m++[u]))):=by
     refine csum_congr ?_
     rintro ⟨x,y⟩ he
     have:=mem_cyc he
     exact ray_min (hmin' x (List.mem_cons_of_mem _ this.1) (fun e=>hnd.1 (e▸this.1))) (hmin' y (List.mem_cons_of_mem _ this.2) (fun e=>hnd.1 (e▸this.2))) (Or.inl (by decide))
    have hz0:∀ E,csum (fun _ _=>0) E=0:=by
     intro E
     induction E with
     | nil=>rfl
     | cons e r ih=>simp only [csum,ih]; rfl
    rw [hz0] at hz
    have hn1:1≤-s*csum (Geo.w ⟨-1,0⟩ v) (cyc (w::(m++[u]))):=hn1
    rw [hz] at hn1
    omega
   subst hst
   rw [cyc2] at hT
   have:=T.cut w u [(u,v),(v,w)] (path (w::(m++[u]))) tri (T.perm _ _ List.perm_append_comm hT)
   rw [cyc3]
   refine T.perm _ _ ?_ this
   have h1:((u,v)::((v,w)::path (w::(m++[u])))).Perm (((v,w)::path (w::(m++[u])))++[(u,v)]):=List.perm_append_comm (l₁:=[(u,v)])
   exact h1
  ·have lenA:(v::w::(l1++[z])).length≤n:=by simp at hl' ⊢; omega
   have lenB:(v::z::(l2++[u])).length≤n:=by simp at hl' ⊢; omega
   obtain ⟨sA,hsA,hTA,hSA⟩:=ih lenA hA
   obtain ⟨sB,hsB,hTB,hSB⟩:=ih lenB hB
   have eA:sA=s:=by
    refine sign_eq hsA hs (hSA z v w (by rw [cyc3]; simp) (by rw [cyc3]; simp) ?_) zA
    intro x hx hn
    refine hmin' x ?_ hn
    simp only [List.mem_cons,List.mem_append,List.not_mem_nil,or_false] at hx ⊢
    rcases hx with h|h|h|h <;> simp [h]
   have eB:sB=s:=by
    refine sign_eq hsB hs (hSB u v z (by rw [cyc3]; simp) (by rw [cyc3]; simp) ?_) zC
    intro x hx hn
    refine hmin' x ?_ hn
    simp only [List.mem_cons,List.mem_append,List.not_mem_nil,or_false] at hx ⊢
    rcases hx with h|h|h|h <;> simp [h]
   subst eA
   subst eB
   rw [cyc3] at hTA hTB
   have hTA':T sB ((z,v)::((v,w)::path (w::(l1++[z])))):=T.perm _ _ (List.perm_append_comm (l₁:=(v,w)::path (w::(l1++[z]))) (l₂:=[(z,v)])) hTA
   have:=T.cut z v ((v,w)::path (w::(l1++[z]))) (path (z::(l2++[u]))++[(u,v)]) hTA' hTB
   rw [cyc3]
   refine T.perm _ _ (List.Perm.of_eq ?_) this
   have h2:=path_app (w::l1) z (l2++[u])
   simp only [List.cons_append,List.append_assoc] at h2 ⊢
   rw [h2]
   simp
theorem sgn_cancel {s D X A Z Y:Int} (hs:s=1∨s=-1) (k:D*X=A*Z+0*Y) (hA:0 < s*A) (hZ:0 < s*Z) (hD:0 < s*D):0 < s*X:=by
 rw [Int.zero_mul,Int.add_zero] at k
 rcases hs with h|h
 ·subst h
  have:=Int.mul_pos (show 0 < A by omega) (show 0 < Z by omega)
  have h2:0 < X:=pm' (b:=D) (by rw [Int.mul_comm,k]; exact this) (by omega)
  omega
 ·subst h
  have:=Int.mul_pos (show 0 < -A by omega) (show 0 < -Z by omega)
  rw [Int.neg_mul_neg] at this
  have h2:0 < -X:=pm' (b:=-D) (by rw [Int.neg_mul_neg,Int.mul_comm,k]; exact this) (by omega)
  omega
theorem cyc_cut (d q b c a:Pt) (m:List Pt):csum (w d q) (cyc (b::c::(m++[a])))=csum (w d q) (cyc (c::(m++[a])))+w3 d q a b c:=by
 rw [cyc3,cyc2]
 simp only [csum,csum_app]
 unfold w3
 rw [w_swap d q a c]
 omega
theorem clip_sign {s:Int} {a b c:Pt} {m:List Pt} (hs:s=1∨s=-1) (hP:Poly (b::c::(m++[a]))) (hm:m≠[]) (hT:T s (cyc (b::c::(m++[a]))))
  (hD:0 < s*cr a b c) (ho:∀ q∈m,Out s a b c q):T s (cyc (c::(m++[a]))):=by
 obtain ⟨hR,hE⟩:=clip hs hP hm hD ho
 obtain ⟨t,ht,hT',_⟩:=hR.tri _ (Nat.le_refl _)
 have hst:t=s:=by
  apply Classical.byContradiction
  intro hn
  have hts:t=-s:=by rcases hs with h|h <;> rcases ht with g|g <;> subst h <;> subst g <;> omega
  subst hts
  have hm0:(a,c)∈cyc (c::(m++[a])):=by rw [cyc2]; simp
  have hD':cr c a b=cr a b c:=by unfold cr; grind
  have hab:a≠b:=by rintro rfl; rw [cr_self''] at hD; omega
  have hbc:b≠c:=by rintro rfl; rw [cr_self'] at hD; omega
  obtain ⟨d,hd,h0⟩:∃ d:Pt,(d.x≠0∨d.y≠0)∧w3 d b a b c=0:=by
   rcases hs with h|h
   ·refine ⟨⟨b.x - a.x,b.y - a.y⟩,?_,?_⟩
    ·apply Classical.byContradiction
     intro hn
     simp only at hn
     exact hab (Pt.ext' (by omega) (by omega))
    ·have ga:gg ⟨b.x - a.x,b.y - a.y⟩ b a=0:=by unfold gg; grind
     unfold w3 w
     rw [cr_self',cr_self,hD',ga]
     subst h
     have:¬ cr a b c < 0:=by omega
     simp [this]
   ·refine ⟨⟨b.x - c.x,b.y - c.y⟩,?_,?_⟩
    ·apply Classical.byContradiction
     intro hn
     simp only at hn
     exact hbc (Pt.ext' (by omega) (by omega))
    ·have gc:gg ⟨b.x - c.x,b.y - c.y⟩ b c=0:=by unfold gg; grind
     unfold w3 w
     rw [cr_self',cr_self,hD',gc]
     subst h
     have:¬ 0 < cr a b c:=by omega
     simp [this]
  have h1:=near hs hT' hm0 hD hE hd
  have h2:=hT.w0 hs d b
  rw [cyc_cut,h0] at h2
  have:s*(csum (w d b) (cyc (c::(m++[a])))+0)=s*csum (w d b) (cyc (c::(m++[a]))):=by grind
  grind
 rw [← hst]
 exact hT'
theorem not_meet {a b c d:Pt} (h:Compat a b c d) (h1:a≠c) (h2:a≠d) (h3:b≠c) (h4:b≠d):¬ Meet a b c d:=by
 rintro ⟨i,j,k,l,g⟩
 have hh:=h i j k l g
 have hp:=g.pos
 have hsum:=g.sum
 have ex:=g.ex
 have ey:=g.ey
 have can:∀ {t:Int} {p q:Pt},0 < t→t*p.x=t*q.x→t*p.y=t*q.y→p=q:=fun ht hx hy=>
  Pt.ext' (Int.eq_of_mul_eq_mul_left (by omega) hx) (Int.eq_of_mul_eq_mul_left (by omega) hy)
 rcases hh.1 with e|e <;> rcases hh.2 with f|f <;> subst e <;> subst f <;> simp only [Int.zero_mul,Int.zero_add,Int.add_zero] at hp hsum ex ey
 ·subst hsum; exact h4 (can hp ex ey)
 ·subst hsum; exact h3 (can hp ex ey)
 ·subst hsum; exact h2 (can hp ex ey)
 ·subst hsum; exact h1 (can hp ex ey)
theorem walk_all {s:Int} {E:List (Pt×Pt)} (hT:T s E) (d:Pt):∀ (L:List Pt) (a:Pt),(∀ e∈path (a::L),∀ f∈E,¬ Meet f.1 f.2 e.1 e.2)→
  ∀ q∈a::L,csum (w d q) E=csum (w d a) E:=by
 intro L
 induction L with
 | nil=>intro a _ q hq; rw [List.mem_singleton.1 hq]
 | cons b r ih=>
  intro a h q hq
  have h0:csum (w d a) E=csum (w d b) E:=hT.walk (h (a,b) (by simp [path])) d
  rcases List.mem_cons.1 hq with g|g
  ·rw [g]
  ·rw [h0]
   exact ih b (fun e he=>h e (by simp [path,he])) q g
theorem sc_one (p:Pt):sc 1 p=p:=by unfold sc; cases p; simp
theorem scE_one (E:List (Pt×Pt)):scE 1 E=E:=by
 unfold scE
 induction E with
 | nil=>rfl
 | cons e r ih=>rw [List.map_cons,ih,sc_one,sc_one]
theorem sep {s:Int} {Q:List Pt} {a b c d q q':Pt} (hs:s=1∨s=-1) (hQ:Poly Q) (hT:T s (cyc Q)) (h1:(a,b)∈cyc Q) (h2:(b,c)∈cyc Q)
  (hD:0 < s*cr a b c) (ho:∀ x∈Q,x≠a→x≠b→x≠c→Out s a b c x) (hd:d.x≠0∨d.y≠0)
  (hq:q∉Q) (hqq:∀ e∈cyc Q,Compat q q' e.1 e.2) (h0:csum (w d q) (cyc Q)=0):Out s a b c q:=by
 apply Classical.byContradiction
 intro hn
 have pz:0≤s*cr b c q∧0≤s*cr c a q∧0≤s*cr a b q:=by unfold Out at hn; omega
 have qne:∀ x∈Q,q≠x:=fun x hx e=>hq (e▸hx)
 have ha:=(mem_cyc h1).1
 have hb:=(mem_cyc h1).2
 have hc:=(mem_cyc h2).2
 have pC:0 < s*cr a b q:=not_on hD (hqq _ h1) (qne _ ha) (qne _ hb) pz.1 pz.2.1 pz.2.2
 have pA:0 < s*cr b c q:=not_on (u:=b) (v:=c) (w:=a) (by rw [cr_rot]; exact hD) (hqq _ h2) (qne _ hb) (qne _ hc) pz.2.1 pz.2.2 pz.1
 obtain ⟨c',m,a',hP',hperm,hcyc⟩:=hQ.at hb
 have ea:a'=a:=by
  have h3:(a',b)∈cyc Q:=hcyc.mem_iff.2 (by rw [cyc3]; simp)
  exact hQ.dst h3 h1
 have ec:c'=c:=by
  have h3:(b,c')∈cyc Q:=hcyc.mem_iff.2 (by rw [cyc3]; simp)
  exact hQ.src h3 h2
 subst ea
 subst ec
 rw [csum_perm _ hcyc,cyc_cut] at h0
 have hT':=T.perm _ _ hcyc hT
 have nd1:=List.nodup_cons.1 hP'.nd
 have nd2:=List.nodup_cons.1 nd1.2
 have hom:∀ x∈m,Out s a' b c' x:=by
  intro x hx
  refine ho x (hperm.mem_iff.2 (by simp [hx])) ?_ ?_ ?_
  ·rintro rfl
   have:=nd2.2
   rw [List.nodup_append] at this
   exact this.2.2 x hx x (by simp) rfl
  ·rintro rfl; exact nd1.1 (by simp [hx])
  ·rintro rfl; exact nd2.1 (by simp [hx])
 by_cases hm:m=[]
 ·subst hm
  have hca:(c',a')∈cyc Q:=hcyc.mem_iff.2 (by rw [cyc3]; simp [path])
  have pB:0 < s*cr c' a' q:=not_on (u:=c') (v:=a') (w:=b) (by rw [cr_rot']; exact hD) (hqq _ hca) (qne _ hc) (qne _ ha) pz.2.2 pz.1 pz.2.1
  have e1:=w3_sign_in hs hd pA pB pC
  have e2:csum (w d q) (cyc (c'::([]++[a'])))=0:=by
   simp only [List.nil_append,cyc,List.cons_append,path,csum]
   rw [w_swap d q a' c']
   omega
  rw [e2] at h0
  have:w3 d q a' b c'=0:=by omega
  rw [this] at e1
  omega
 ·have hR:=clip_sign hs hP' hm hT' hD hom
  have hw0:=hR.w0 hs d q
  have hs0:s*csum (w d q) (cyc (c'::(m++[a'])))+s*w3 d q a' b c'=0:=by
   have:s*(csum (w d q) (cyc (c'::(m++[a'])))+w3 d q a' b c')=s*0:=by rw [h0]
   grind
  rcases Int.lt_or_le 0 (s*cr c' a' q) with pB|nB
  ·have e1:=w3_sign_in hs hd pA pB pC
   omega
  ·have e0:s*cr c' a' q=0:=by omega
   have e0':cr c' a' q=0:=by
    rcases hs with h|h <;> subst h <;> omega
   obtain ⟨z,hz,hwz⟩:=hR.edge hs a' c' (by rw [cyc2]; simp)
   have hz1:=hwz 1 d q (by omega)
   rw [sc_one,sc_one,sc_one,scE_one] at hz1
   have k1:cr a' b c'*cr z a' q=cr a' b q*cr a' c' z+cr c' a' q*cr z a' b:=by unfold cr; grind
   have k2:cr a' b c'*cr c' z q=cr b c' q*cr a' c' z+cr c' a' q*cr c' z b:=by unfold cr; grind
   rw [e0'] at k1 k2
   have p1:0 < s*cr z a' q:=sgn_cancel hs k1 pC hz hD
   have p2:0 < s*cr c' z q:=sgn_cancel hs k2 pA hz hD
   have:=w3_sign_side hs hd e0' pA pC p1 p2
   omega
theorem ray0 {v r p g:Pt} {k:List Pt} (hP:Poly (v::r::(k++[p]))) (hmin:∀ x∈r::(k++[p]),Lt v x) (hg:Lt v g)
  (hn:∀ e∈path (r::(k++[p])),¬ Meet e.1 e.2 g v) {s:Int} (hs:s=1∨s=-1) (h1:0 < s*cr g v r) (h2:0 < s*cr g v p):
  csum (w ⟨v.x - g.x,v.y - g.y⟩ g) (cyc (v::r::(k++[p])))=0:=by
 have hdl:v.x - g.x < 0∨(v.x - g.x=0∧v.y - g.y < 0):=by unfold Lt at hg; omega
 have gv:∀ x,gg ⟨v.x - g.x,v.y - g.y⟩ g x=gg ⟨v.x - g.x,v.y - g.y⟩ v x:=by intro x; unfold gg; grind
 have gc:∀ x,gg ⟨v.x - g.x,v.y - g.y⟩ g x=cr g v x:=by intro x; unfold gg cr; grind
 have up:∀ x y,Lt v x→Lt v y→¬ Meet x y g v→¬ (gg ⟨v.x - g.x,v.y - g.y⟩ g x≤0∧0 < gg ⟨v.x - g.x,v.y - g.y⟩ g y∧0 < cr x y g):=by
  rintro x y hx hy hnm ⟨g1,g2,g3⟩
  have:=ray_up (d:=⟨v.x - g.x,v.y - g.y⟩) hx hy hdl (by rw [← gv]; exact g1) (by rw [← gv]; exact g2)
  rw [gc] at g1 g2
  exact hnm (meet_of g1 (Int.le_of_lt g2) (Int.le_of_lt g3) this (by omega))
 have hpath:csum (w ⟨v.x - g.x,v.y - g.y⟩ g) (path (r::(k++[p])))=csum (fun _ _=>0) (path (r::(k++[p]))):=by
  refine csum_congr ?_
  rintro ⟨x,y⟩ he
  have hx:=hmin x (mem_path he).1
  have hy:=hmin y (List.mem_of_mem_tail (mem_path he).2)
  have n1:=up x y hx hy (hn _ he)
  have n2:=up y x hy hx (fun h=>hn _ he h.swap)
  rw [cr_swap] at n2
  simp only
  unfold w
  split
  ·rename_i h; exact absurd ⟨by omega,h.2.1,h.2.2⟩ n1
  ·split
   ·rename_i h; exact absurd ⟨by omega,h.1,by omega⟩ n2
   ·rfl
 have hz0:∀ E,csum (fun _ _=>0) E=0:=by
  intro E
  induction E with
  | nil=>rfl
  | cons e r ih=>simp only [csum,ih]; rfl
 rw [hz0] at hpath
 rw [cyc3]
 simp only [csum,csum_app,hpath]
 have c1:cr v r g=cr g v r:=by unfold cr; grind
 have c2:cr p v g=- cr g v p:=by unfold cr; grind
 have c3:cr g v v=0:=cr_self' _ _
 unfold w
 rw [gc,gc,gc,c1,c2,c3]
 rcases hs with h|h
 ·subst h
  have a1:0 < cr g v r:=by omega
  have a2:0 < cr g v p:=by omega
  simp [a1,a2]
 ·subst h
  have a1:¬ 0 < cr g v r:=by omega
  have a2:¬ 0 < cr g v p:=by omega
  simp [a1,a2]
structure Ear (s:Int) (P:List Pt) (a b c:Pt):Prop where
 ab:(a,b)∈cyc P
 bc:(b,c)∈cyc P
 d:0 < s*cr a b c
 o:∀ q∈P,q≠a→q≠b→q≠c→Out s a b c q
theorem Ear.perm {s:Int} {P Q:List Pt} {a b c:Pt} (h:Ear s P a b c) (hp:Q.Perm P) (hc:(cyc Q).Perm (cyc P)):Ear s Q a b c:=
 ⟨hc.mem_iff.2 h.ab,hc.mem_iff.2 h.bc,h.d,fun q hq=>h.o q (hp.mem_iff.1 hq)⟩
theorem Poly.ear:∀ (n:Nat) (P:List Pt) (s:Int),P.length≤n→Poly P→(s=1∨s=-1)→T s (cyc P)→∀ x y,(x,y)∈cyc P→
  ∃ a b c,b≠x∧b≠y∧Ear s P a b c:=by
 intro n
 induction n with
 | zero=>intro P s hl hP; have:=hP.len; omega
 | succ n ih=>
  intro P s hl hP hs hT x y hxy
  obtain ⟨v,hv,hmin⟩:=exists_min P (by intro e; have:=hP.len; rw [e] at this; simp at this)
  obtain ⟨w,m,u,hQ,hpq,hcq⟩:=hP.at hv
  have hl':(v::w::(m++[u])).length≤n+1:=by rw [← hpq.length_eq]; exact hl
  have hmin':∀ x∈v::w::(m++[u]),x≠v→Lt v x:=fun x hx=>hmin x (hpq.mem_iff.2 hx)
  have hTQ:=T.perm _ _ hcq hT
  have hxyQ:=hcq.mem_iff.1 hxy
  suffices h:∃ a b c,b≠x∧b≠y∧Ear s (v::w::(m++[u])) a b c by
   obtain ⟨a,b,c,h1,h2,h3⟩:=h
   exact ⟨a,b,c,h1,h2,h3.perm hpq hcq⟩
  clear hpq hcq hP hmin hv hl hT hxy
  have hnd:=List.nodup_cons.1 hQ.nd
  have hnd2:=List.nodup_cons.1 hnd.2
  have huv:(u,v)∈cyc (v::w::(m++[u])):=by rw [cyc3]; simp
  have hvw:(v,w)∈cyc (v::w::(m++[u])):=by rw [cyc3]; simp
  have ne1:u≠v:=hQ.ne huv
  have ne2:v≠w:=hQ.ne hvw
  have ne3:u≠w:=by rintro rfl; exact hnd2.1 (by simp)
  have hLu:Lt v u:=hmin' u (by simp) ne1
  have hLw:Lt v w:=hmin' w (by simp) (fun e=>ne2 e.symm)
  have hlt:∀ x∈w::(m++[u]),Lt v x:=fun x hx=>hmin' x (List.mem_cons_of_mem _ hx) (fun e=>hnd.1 (e▸hx))
  have hD:0 < s*cr u v w:=by
   obtain ⟨t,ht,hT',hSM⟩:=hQ.tri _ (Nat.le_refl _)
   have:t=s:=sign_eq ht hs hT'.area hTQ.area
   subst this
   exact hSM u v w huv hvw hmin'
  by_cases hm:m=[]
  ·subst hm
   have e3:cyc (v::w::([]++[u]))=[(v,w),(w,u),(u,v)]:=rfl
   rw [e3] at hxyQ
   have hwu:(w,u)∈cyc (v::w::([]++[u])):=by rw [e3]; simp
   have two:∀ {a b c:Pt},(a=v∧b=w∧c=u)∨(a=w∧b=u∧c=v)∨(a=u∧b=v∧c=w)→∀ q∈v::w::([]++[u]),q≠a→q≠b→q≠c→Out s a b c q:=by
    intro a b c h q hq n1 n2 n3
    simp only [List.nil_append,List.mem_cons,List.not_mem_nil,or_false] at hq
    exfalso
    rcases h with ⟨rfl,rfl,rfl⟩|⟨rfl,rfl,rfl⟩|⟨rfl,rfl,rfl⟩ <;> rcases hq with h|h|h
    ·exact n1 h
    ·exact n2 h
    ·exact n3 h
    ·exact n3 h
    ·exact n1 h
    ·exact n2 h
    ·exact n2 h
    ·exact n3 h
    ·exact n1 h
   simp only [List.mem_cons,Prod.mk.injEq,List.not_mem_nil,or_false] at hxyQ
   rcases hxyQ with ⟨rfl,rfl⟩|⟨rfl,rfl⟩|⟨rfl,rfl⟩
   ·exact ⟨y,u,x,ne1,ne3,hwu,huv,by rw [cr_rot']; exact hD,two (Or.inr (Or.inl ⟨rfl,rfl,rfl⟩))⟩
   ·exact ⟨y,v,x,ne2,fun e=>ne1 e.symm,huv,hvw,hD,two (Or.inr (Or.inr ⟨rfl,rfl,rfl⟩))⟩
   ·exact ⟨y,w,x,fun e=>ne3 e.symm,fun e=>ne2 e.symm,hvw,hwu,by rw [cr_rot]; exact hD,two (Or.inl ⟨rfl,rfl,rfl⟩)⟩
  rcases dich hs hQ hD with ho|⟨l1,z,l2,rfl,hA,hB,zA,zC,hcom⟩
  ·obtain ⟨hR,hE⟩:=clip hs hQ hm hD ho
   have hTR:=clip_sign hs hQ hm hTQ hD ho
   by_cases hxv:v≠x∧v≠y
   ·refine ⟨u,v,w,hxv.1,hxv.2,huv,hvw,hD,?_⟩
    intro q hq n1 n2 n3
    simp only [List.mem_cons,List.mem_append,List.not_mem_nil,or_false] at hq
    rcases hq with h|h|h|h
    ·exact absurd h n2
    ·exact absurd h n3
    ·exact ho q h
    ·exact absurd h n1
   ·obtain ⟨a,b,c,b1,b2,h⟩:=ih (w::(m++[u])) s (by simpa using hl') hR hs hTR u w (by rw [cyc2]; simp)
    have hb:=(mem_cyc h.ab).2
    have bv:b≠v:=fun e=>hnd.1 (e▸hb)
    have hxy':(b≠x∧b≠y):=by
     have:v=x∨v=y:=by
      by_cases h1:v=x
      ·exact Or.inl h1
      ·by_cases h2:v=y
       ·exact Or.inr h2
       ·exact absurd ⟨h1,h2⟩ hxv
     rcases this with h|h
     ·subst h
      have:=hQ.src hxyQ hvw
      subst this
      exact ⟨bv,b2⟩
     ·subst h
      have:=hQ.dst hxyQ huv
      subst this
      exact ⟨b1,bv⟩
    have sub:∀ e∈cyc (w::(m++[u])),e≠(u,w)→e∈cyc (v::w::(m++[u])):=by
     intro e he hne
     rw [cyc2] at he
     rw [cyc3]
     simp only [List.mem_append,List.mem_cons,List.not_mem_nil,or_false] at he ⊢
     rcases he with h|h
     ·exact Or.inr (Or.inl h)
     ·exact absurd h hne
    refine ⟨a,b,c,hxy'.1,hxy'.2,sub _ h.ab (fun e=>b2 (Prod.mk.inj e).2),sub _ h.bc (fun e=>b1 (Prod.mk.inj e).1),h.d,?_⟩
    intro q hq n1 n2 n3
    rcases List.mem_cons.1 hq with g|g
    ·subst g
     exact min_out h.d (hlt a (mem_cyc h.ab).1) (hlt b hb) (hlt c (mem_cyc h.bc).2)
    ·exact h.o q g n1 n2 n3
  ·have lenA:(v::w::(l1++[z])).length≤n:=by simp at hl' ⊢; omega
   have lenB:(v::z::(l2++[u])).length≤n:=by simp at hl' ⊢; omega
   have memA:∀ x,x∈v::w::(l1++[z])→x∈v::w::(l1++z::l2++[u]):=by
    intro x hx
    simp only [List.mem_cons,List.mem_append,List.not_mem_nil,or_false] at hx ⊢
    rcases hx with h|h|h|h <;> simp [h]
   have memB:∀ x,x∈v::z::(l2++[u])→x∈v::w::(l1++z::l2++[u]):=by
    intro x hx
    simp only [List.mem_cons,List.mem_append,List.not_mem_nil,or_false] at hx ⊢
    rcases hx with h|h|h|h <;> simp [h]
   have hTA:T s (cyc (v::w::(l1++[z]))):=by
    obtain ⟨t,ht,hT',hSM⟩:=hA.tri _ (Nat.le_refl _)
    have:t=s:=sign_eq ht hs (hSM z v w (by rw [cyc3]; simp) (by rw [cyc3]; simp) (fun x hx hn=>hmin' x (memA x hx) hn)) zA
    subst this; exact hT'
   have hTB:T s (cyc (v::z::(l2++[u]))):=by
    obtain ⟨t,ht,hT',hSM⟩:=hB.tri _ (Nat.le_refl _)
    have:t=s:=sign_eq ht hs (hSM u v z (by rw [cyc3]; simp) (by rw [cyc3]; simp) (fun x hx hn=>hmin' x (memB x hx) hn)) zC
    subst this; exact hT'
   have hpath:path (w::(l1++z::l2++[u]))=path (w::(l1++[z]))++path (z::(l2++[u])):=by
    have:=path_app (w::l1) z (l2++[u])
    simp only [List.cons_append,List.append_assoc] at this ⊢
    exact this
   have sub1:∀ e∈path (w::(l1++[z])),e∈cyc (v::w::(l1++z::l2++[u])):=by
    intro e he; rw [cyc3,hpath]; simp [he]
   have sub2:∀ e∈path (z::(l2++[u])),e∈cyc (v::w::(l1++z::l2++[u])):=by
    intro e he; rw [cyc3,hpath]; simp [he]
   have nd0:(v::w::(l1++z::l2++[u])).Nodup:=hQ.nd
   have disA:∀ q∈w::l1,q∉v::z::(l2++[u]):=by
    intro q hq hb
    have nd1:((v::w::l1)++(z::(l2++[u]))).Nodup:=by
     have:(v::w::l1)++(z::(l2++[u]))=v::w::(l1++z::l2++[u]):=by simp
     rw [this]; exact nd0
    rw [List.nodup_append] at nd1
    rcases List.mem_cons.1 hb with g|g
    ·subst g; exact (List.nodup_cons.1 nd1.1).1 hq
    ·exact nd1.2.2 q (List.mem_cons_of_mem _ hq) q g rfl
   have disB:∀ q∈l2++[u],q∉v::w::(l1++[z]):=by
    intro q hq hb
    have nd1:((v::w::(l1++[z]))++(l2++[u])).Nodup:=by
     have:(v::w::(l1++[z]))++(l2++[u])=v::w::(l1++z::l2++[u]):=by simp
     rw [this]; exact nd0
    rw [List.nodup_append] at nd1
    exact nd1.2.2 q hb q hq rfl
   have cycA:∀ e∈cyc (v::w::(l1++[z])),e=(z,v)∨e∈cyc (v::w::(l1++z::l2++[u])):=by
    intro e he
    rw [cyc3] at he
    simp only [List.mem_cons,List.mem_append,List.not_mem_nil,or_false] at he
    rcases he with h|h|h
    ·right; rw [h]; exact hvw
    ·exact Or.inr (sub1 e h)
    ·exact Or.inl h
   have cycB:∀ e∈cyc (v::z::(l2++[u])),e=(v,z)∨e∈cyc (v::w::(l1++z::l2++[u])):=by
    intro e he
    rw [cyc3] at he
    simp only [List.mem_cons,List.mem_append,List.not_mem_nil,or_false] at he
    rcases he with h|h|h
    ·exact Or.inl h
    ·exact Or.inr (sub2 e h)
    ·right; rw [h]; exact huv
   have comA:∀ q q',(q,q')∈cyc (v::w::(l1++z::l2++[u]))→(q∉v::w::(l1++[z])∨q'∉v::w::(l1++[z]))→∀ e∈cyc (v::w::(l1++[z])),Compat q q' e.1 e.2:=by
    intro q q' hqq hno e he
    rcases cycA e he with h|h
    ·rw [h]; exact (hcom _ hqq).swap'
    ·refine hQ.com _ hqq e h ?_
     intro heq
     subst heq
     rcases hno with g|g
     ·exact g (mem_cyc he).1
     ·exact g (mem_cyc he).2
   have comB:∀ q q',(q,q')∈cyc (v::w::(l1++z::l2++[u]))→(q∉v::z::(l2++[u])∨q'∉v::z::(l2++[u]))→∀ e∈cyc (v::z::(l2++[u])),Compat q q' e.1 e.2:=by
    intro q q' hqq hno e he
    rcases cycB e he with h|h
    ·rw [h]; exact hcom _ hqq
    ·refine hQ.com _ hqq e h ?_
     intro heq
     subst heq
     rcases hno with g|g
     ·exact g (mem_cyc he).1
     ·exact g (mem_cyc he).2
   have hx':((x,y)=(v,w)∨(x,y)∈path (w::(l1++[z])))∨((x,y)∈path (z::(l2++[u]))∨(x,y)=(u,v)):=by
    rw [cyc3,hpath] at hxyQ
    simp only [List.mem_cons,List.mem_append,List.not_mem_nil,or_false] at hxyQ
    rcases hxyQ with h|(h|h)|h
    ·exact Or.inl (Or.inl h)
    ·exact Or.inl (Or.inr h)
    ·exact Or.inr (Or.inl h)
    ·exact Or.inr (Or.inr h)
   rcases hx' with hx'|hx'
   ·-- an ear of the second part
    obtain ⟨a,b,c,b1,b2,h⟩:=ih (v::z::(l2++[u])) s lenB hB hs hTB v z (by rw [cyc3]; simp)
    have hb:=(mem_cyc h.ab).2
    have hbl:b∈l2++[u]:=by
     rcases List.mem_cons.1 hb with g|g
     ·exact absurd g b1
     ·exact (List.mem_cons.1 g).resolve_left b2
    have hbA:=disB b hbl
    have hxA:x∈v::w::(l1++[z])∧y∈v::w::(l1++[z]):=by
     rcases hx' with g|g
     ·obtain ⟨rfl,rfl⟩:=Prod.mk.inj g; simp
     ·have:=mem_path g
      exact ⟨List.mem_cons_of_mem _ this.1,List.mem_cons_of_mem _ (List.mem_of_mem_tail this.2)⟩
    have ray:=ray0 (g:=w) hB (fun x hx=>hmin' x (memB x (List.mem_cons_of_mem _ hx)) (fun e=>(List.nodup_cons.1 hB.nd).1 (e▸hx))) hLw
     (fun e he hmt=>not_meet (hQ.com _ (sub2 e he) _ hvw (by
       rintro rfl
       exact (List.nodup_cons.1 hB.nd).1 (mem_path he).1))
      (by intro g; change e.1=v at g; exact (List.nodup_cons.1 hB.nd).1 (g▸(mem_path he).1))
      (by intro g; change e.1=w at g; exact disA w (by simp) (g▸List.mem_cons_of_mem _ (mem_path he).1))
      (by intro g; change e.2=v at g; exact (List.nodup_cons.1 hB.nd).1 (g▸List.mem_of_mem_tail (mem_path he).2))
      (by intro g; change e.2=w at g; exact disA w (by simp) (g▸List.mem_cons_of_mem _ (List.mem_of_mem_tail (mem_path he).2)))
      hmt.swap')
     (s:=-s) (by omega) (by have e:cr w v z=- cr z v w:=(by unfold cr; grind); rw [e]; grind) (by have e:cr w v u=- cr u v w:=(by unfold cr; grind); rw [e]; grind)
    refine ⟨a,b,c,fun e=>hbA (e▸hxA.1),fun e=>hbA (e▸hxA.2),(cycB _ h.ab).resolve_left (fun e=>b2 (Prod.mk.inj e).2),(cycB _ h.bc).resolve_left (fun e=>b1 (Prod.mk.inj e).1),h.d,?_⟩
    intro q hq n1 n2 n3
    by_cases hqB:q∈v::z::(l2++[u])
    ·exact h.o q hqB n1 n2 n3
    ·have hqL:q∈w::l1:=by
      simp only [List.mem_cons,List.mem_append,List.not_mem_nil,or_false] at hq hqB ⊢
      rcases hq with g|g|(g|g|g)|g
      ·exact absurd (Or.inl g) hqB
      ·exact Or.inl g
      ·exact Or.inr g
      ·exact absurd (Or.inr (Or.inl g)) hqB
      ·exact absurd (Or.inr (Or.inr (Or.inl g))) hqB
      ·exact absurd (Or.inr (Or.inr (Or.inr g))) hqB
     obtain ⟨q',hq'⟩:=hQ.out hq
     have walk:=walk_all hTB ⟨v.x - w.x,v.y - w.y⟩ l1 w (by
      rintro ⟨x,y⟩ he ⟨f1,f2⟩ hf hmt
      have he':(x,y)∈path (w::(l1++[z])):=by
       have:=path_app (w::l1) z []
       obtain ⟨r,t,ht⟩:=last_of w l1
       have h2:w::(l1++[z])=r++[t]++[z]:=by rw [← ht]; rfl
       rw [h2,path_snoc,← ht]
       exact List.mem_append_left _ he
      have hx:=(mem_path he).1
      have hy:=List.mem_of_mem_tail (mem_path he).2
      have hfm:=mem_cyc hf
      exact not_meet (comB x y (sub1 _ he') (Or.inl (disA x hx)) _ hf)
       (fun g=>disA x hx (g▸hfm.1)) (fun g=>disA x hx (g▸hfm.2)) (fun g=>disA y hy (g▸hfm.1)) (fun g=>disA y hy (g▸hfm.2)) hmt.symm) q hqL
     rw [ray] at walk
     refine sep (d:=⟨v.x - w.x,v.y - w.y⟩) hs hB hTB h.ab h.bc h.d h.o ?_ hqB (comB q q' hq' (Or.inl hqB)) walk
     unfold Lt at hLw
     simp only
     omega
   ·-- an ear of the first part
    obtain ⟨a,b,c,b1,b2,h⟩:=ih (v::w::(l1++[z])) s lenA hA hs hTA z v (by rw [cyc3]; simp)
    have hb:=(mem_cyc h.ab).2
    have hbl:b∈w::l1:=by
     simp only [List.mem_cons,List.mem_append,List.not_mem_nil,or_false] at hb ⊢
     rcases hb with g|g|g|g
     ·exact absurd g b2
     ·exact Or.inl g
     ·exact Or.inr g
     ·exact absurd g b1
    have hbB:=disA b hbl
    have hxB:x∈v::z::(l2++[u])∧y∈v::z::(l2++[u]):=by
     rcases hx' with g|g
     ·have:=mem_path g
      exact ⟨List.mem_cons_of_mem _ this.1,List.mem_cons_of_mem _ (List.mem_of_mem_tail this.2)⟩
     ·obtain ⟨rfl,rfl⟩:=Prod.mk.inj g; simp
    have uA:u∉v::w::(l1++[z]):=disB u (by simp)
    have ray:=ray0 (g:=u) hA (fun x hx=>hmin' x (memA x (List.mem_cons_of_mem _ hx)) (fun e=>(List.nodup_cons.1 hA.nd).1 (e▸hx))) hLu
     (fun e he hmt=>not_meet (hQ.com _ (sub1 e he) _ huv (by
       rintro rfl
       exact uA (List.mem_cons_of_mem _ (mem_path he).1)))
      (by intro g; change e.1=u at g; exact uA (g▸List.mem_cons_of_mem _ (mem_path he).1))
      (by intro g; change e.1=v at g; exact (List.nodup_cons.1 hA.nd).1 (g▸(mem_path he).1))
      (by intro g; change e.2=u at g; exact uA (g▸List.mem_cons_of_mem _ (List.mem_of_mem_tail (mem_path he).2)))
      (by intro g; change e.2=v at g; exact (List.nodup_cons.1 hA.nd).1 (g▸List.mem_of_mem_tail (mem_path he).2))
      hmt)
     (s:=s) hs hD zC
    refine ⟨a,b,c,fun e=>hbB (e▸hxB.1),fun e=>hbB (e▸hxB.2),(cycA _ h.ab).resolve_left (fun e=>b2 (Prod.mk.inj e).2),(cycA _ h.bc).resolve_left (fun e=>b1 (Prod.mk.inj e).1),h.d,?_⟩
    intro q hq n1 n2 n3
    by_cases hqA:q∈v::w::(l1++[z])
    ·exact h.o q hqA n1 n2 n3
    ·have hqL:q∈l2++[u]:=by
      simp only [List.mem_cons,List.mem_append,List.not_mem_nil,or_false] at hq hqA ⊢
      rcases hq with g|g|(g|g|g)|g
      ·exact absurd (Or.inl g) hqA
      ·exact absurd (Or.inr (Or.inl g)) hqA
      ·exact absurd (Or.inr (Or.inr (Or.inl g))) hqA
      ·exact absurd (Or.inr (Or.inr (Or.inr g))) hqA
      ·exact Or.inl g
      ·exact Or.inr g
     obtain ⟨q',hq'⟩:=hQ.out hq
     obtain ⟨h0,tl,hht⟩:∃ h0 tl,l2++[u]=h0::tl:=by
      cases l2 with
      | nil=>exact ⟨u,[],rfl⟩
      | cons p r=>exact ⟨p,r++[u],rfl⟩
     have walk:=walk_all hTA ⟨v.x - u.x,v.y - u.y⟩ tl h0 (by
      rintro ⟨x,y⟩ he ⟨f1,f2⟩ hf hmt
      rw [← hht] at he
      have he':(x,y)∈path (z::(l2++[u])):=by
       rw [hht] at he ⊢
       simp [path,he]
      have hx:=(mem_path he).1
      have hy:=List.mem_of_mem_tail (mem_path he).2
      have hfm:=mem_cyc hf
      exact not_meet (comA x y (sub2 _ he') (Or.inl (disB x hx)) _ hf)
       (fun g=>disB x hx (g▸hfm.1)) (fun g=>disB x hx (g▸hfm.2)) (fun g=>disB y hy (g▸hfm.1)) (fun g=>disB y hy (g▸hfm.2)) hmt.symm)
     have wq:=walk q (by rw [← hht]; exact hqL)
     have wu:=walk u (by rw [← hht]; simp)
     rw [ray] at wu
     rw [← wu] at wq
     refine sep (d:=⟨v.x - u.x,v.y - u.y⟩) hs hA hTA h.ab h.bc h.d h.o ?_ hqA (comA q q' hq' (Or.inl hqA)) wq
     unfold Lt at hLu
     simp only
     omega
def On3 (p q b0 b1 b2:Pt):Prop:=cr p q b0≤0∧cr p q b1≤0∧cr p q b2≤0
def Parted (a0 a1 a2 b0 b1 b2:Pt):Prop:=On3 a0 a1 b0 b1 b2∨On3 a1 a2 b0 b1 b2∨On3 a2 a0 b0 b1 b2
theorem Parted.rot {a0 a1 a2 b0 b1 b2:Pt} (h:Parted a1 a2 a0 b0 b1 b2):Parted a0 a1 a2 b0 b1 b2:=by
 rcases h with h|h|h
 ·exact Or.inr (Or.inl h)
 ·exact Or.inr (Or.inr h)
 ·exact Or.inl h
theorem Parted.rot' {a0 a1 a2 b0 b1 b2:Pt} (h:Parted a0 a1 a2 b1 b2 b0):Parted a0 a1 a2 b0 b1 b2:=by
 have key:∀ {p q},On3 p q b1 b2 b0→On3 p q b0 b1 b2:=fun h=>⟨h.2.2,h.1,h.2.1⟩
 rcases h with h|h|h
 ·exact Or.inl (key h)
 ·exact Or.inr (Or.inl (key h))
 ·exact Or.inr (Or.inr (key h))
theorem half_num {fa1 fa2 fb1 fb2 p t r11 r12 r22:Int} (h1:fa1≤0) (h2:fa2≤0) (h3:0≤fb1) (h4:0≤fb2)
  (hr:0 < r11) (hr':0 < r22) (hp:p≤0) (e1:fa1*r22+fa2*-r12+fb2*p=0) (e2:fa1*t+fb1*-r12+fb2*r11=0)
  (nz:fa2=0→fb2≠0):0≤r12:=by
 rw [Int.mul_neg] at e1 e2
 have m1:=Int.mul_nonneg (show 0≤-fa1 by omega) (Int.le_of_lt hr')
 have m2:=Int.mul_nonneg h4 (show 0≤-p by omega)
 rw [Int.neg_mul] at m1
 rw [Int.mul_neg] at m2
 rcases Int.lt_or_le fa2 0 with g|g
 ·apply Classical.byContradiction
  intro hn
  have:=Int.mul_pos (show 0 < -fa2 by omega) (show 0 < -r12 by omega)
  rw [Int.neg_mul_neg] at this
  omega
 ·have z:fa2=0:=by omega
  have:=nz z
  subst z
  rw [Int.zero_mul] at e1
  have z1:fa1*r22=0:=by omega
  have z2:fa1=0:=(Int.mul_eq_zero.1 z1).resolve_right (by omega)
  subst z2
  rw [Int.zero_mul] at e2
  have m3:=Int.mul_pos (show 0 < fb2 by omega) hr
  apply Classical.byContradiction
  intro hn
  have:=Int.mul_nonneg h3 (show 0≤-r12 by omega)
  rw [Int.mul_neg] at this
  omega
theorem end_num {fi fo fq fb x iq oq bq ib:Int} (h1:fi≤0) (h2:0≤fo) (hq:fq≤0) (hiq:0 < iq) (hoq:0 < oq) (hx:0≤x)
  (e1:fi*oq+fo*-iq+fq*x=0) (hb:0≤fb) (hib:0 < ib) (e2:fi*bq+fb*-iq+fq*ib=0) (nz:fi=0→fb≠0)
  : False:=by
 rw [Int.mul_neg] at e1 e2
 have m1:=Int.mul_nonneg (show 0≤-fi by omega) (Int.le_of_lt hoq)
 have m2:=Int.mul_nonneg h2 (Int.le_of_lt hiq)
 have m3:=Int.mul_nonneg (show 0≤-fq by omega) hx
 rw [Int.neg_mul] at m1 m3
 have z1:fi*oq=0:=by omega
 have z:fi=0:=(Int.mul_eq_zero.1 z1).resolve_right (by omega)
 have:=nz z
 subst z
 rw [Int.zero_mul] at e2
 have m4:=Int.mul_pos (show 0 < fb by omega) hiq
 have m5:=Int.mul_nonneg (show 0≤-fq by omega) (Int.le_of_lt hib)
 rw [Int.neg_mul] at m5
 omega
theorem on3_not {p q b0 b1 b2:Pt} (h:¬ On3 p q b0 b1 b2):0 < cr p q b0∨0 < cr p q b1∨0 < cr p q b2:=by
 unfold On3 at h; omega
def X (a b:Pt):Int:=a.x*b.y - a.y*b.x
def vec (a b:Pt):Pt:=⟨b.x - a.x,b.y - a.y⟩
def lev (n p:Pt):Int:=n.x*p.x+n.y*p.y
theorem lev3 (n a b c:Pt):lev n a*X b c+lev n b*X c a+lev n c*X a b=0:=by unfold lev X; grind
theorem X_swap (a b:Pt):X b a=- X a b:=by unfold X; grind
theorem lev_flat {n a b:Pt} (h1:lev n a=0) (h2:lev n b=0) (hn:n.x≠0∨n.y≠0):X a b=0:=by
 have e1:X a b*n.x=lev n a*b.y - a.y*lev n b:=by unfold lev X; grind
 have e2:X a b*n.y=a.x*lev n b - lev n a*b.x:=by unfold lev X; grind
 rw [h1,h2] at e1 e2
 rcases hn with h|h
 ·exact (Int.mul_eq_zero.1 (show X a b*n.x=0 by omega)).resolve_right h
 ·exact (Int.mul_eq_zero.1 (show X a b*n.y=0 by omega)).resolve_right h
theorem sat0 {n t0 t1 t2 u0 u1 u2:Pt} (hn:n.x≠0∨n.y≠0) (hT:0 < cr t0 t1 t2) (hU:0 < cr u0 u1 u2)
  (h1:lev n t1≤lev n t0) (h2:lev n t2≤lev n t0) (g1:lev n u0≤lev n u1) (g2:lev n u0≤lev n u2) (htu:lev n t0≤lev n u0):
  Parted t0 t1 t2 u0 u1 u2∨Parted u0 u1 u2 t0 t1 t2:=by
 apply Classical.byContradiction
 intro hno
 have n1:¬ On3 t0 t1 u0 u1 u2:=fun h=>hno (Or.inl (Or.inl h))
 have n2:¬ On3 t2 t0 u0 u1 u2:=fun h=>hno (Or.inl (Or.inr (Or.inr h)))
 have n3:¬ On3 u0 u1 t0 t1 t2:=fun h=>hno (Or.inr (Or.inl h))
 have n4:¬ On3 u2 u0 t0 t1 t2:=fun h=>hno (Or.inr (Or.inr (Or.inr h)))
 have k1:=on3_not n1
 have k2:=on3_not n2
 have k3:=on3_not n3
 have k4:=on3_not n4
 clear n1 n2 n3 n4 hno
 obtain ⟨a1,ha1⟩:∃ a,a=vec u2 u0:=⟨_,rfl⟩
 obtain ⟨a2,ha2⟩:∃ a,a=vec t0 t2:=⟨_,rfl⟩
 obtain ⟨b1,hb1⟩:∃ a,a=vec u0 u1:=⟨_,rfl⟩
 obtain ⟨b2,hb2⟩:∃ a,a=vec t1 t0:=⟨_,rfl⟩
 obtain ⟨q,hq⟩:∃ a,a=vec u0 t0:=⟨_,rfl⟩
 have lvec:∀ a b,lev n (vec a b)=lev n b - lev n a:=by intro a b; unfold lev vec; grind
 have fa1:lev n a1≤0:=by rw [ha1,lvec]; omega
 have fa2:lev n a2≤0:=by rw [ha2,lvec]; omega
 have fb1:0≤lev n b1:=by rw [hb1,lvec]; omega
 have fb2:0≤lev n b2:=by rw [hb2,lvec]; omega
 have fq:lev n q≤0:=by rw [hq,lvec]; omega
 have r11:0 < X a1 b1:=by
  have:X a1 b1=cr u0 u1 u2:=by rw [ha1,hb1]; unfold X vec cr; grind
  rw [this]; exact hU
 have r22:0 < X a2 b2:=by
  have:X a2 b2=cr t0 t1 t2:=by rw [ha2,hb2]; unfold X vec cr; grind
  rw [this]; exact hT
 have w1:0 < X b2 q∨0 < X b2 q - X b2 b1∨0 < X b2 q+X b2 a1:=by
  have e0:cr t0 t1 u0=X b2 q:=by rw [hb2,hq]; unfold X vec cr; grind
  have e1:cr t0 t1 u1=X b2 q - X b2 b1:=by rw [hb2,hq,hb1]; unfold X vec cr; grind
  have e2:cr t0 t1 u2=X b2 q+X b2 a1:=by rw [hb2,hq,ha1]; unfold X vec cr; grind
  omega
 have w2:0 < X a2 q∨0 < X a2 q - X a2 b1∨0 < X a2 q+X a2 a1:=by
  have e0:cr t2 t0 u0=X a2 q:=by rw [ha2,hq]; unfold X vec cr; grind
  have e1:cr t2 t0 u1=X a2 q - X a2 b1:=by rw [ha2,hq,hb1]; unfold X vec cr; grind
  have e2:cr t2 t0 u2=X a2 q+X a2 a1:=by rw [ha2,hq,ha1]; unfold X vec cr; grind
  omega
 have w3:0 < X b1 q∨0 < X b1 q - X b1 b2∨0 < X b1 q+X b1 a2:=by
  have e0:cr u0 u1 t0=X b1 q:=by rw [hb1,hq]; unfold X vec cr; grind
  have e1:cr u0 u1 t1=X b1 q - X b1 b2:=by rw [hb1,hq,hb2]; unfold X vec cr; grind
  have e2:cr u0 u1 t2=X b1 q+X b1 a2:=by rw [hb1,hq,ha2]; unfold X vec cr; grind
  omega
 have w4:0 < X a1 q∨0 < X a1 q - X a1 b2∨0 < X a1 q+X a1 a2:=by
  have e0:cr u2 u0 t0=X a1 q:=by rw [ha1,hq]; unfold X vec cr; grind
  have e1:cr u2 u0 t1=X a1 q - X a1 b2:=by rw [ha1,hq,hb2]; unfold X vec cr; grind
  have e2:cr u2 u0 t2=X a1 q+X a1 a2:=by rw [ha1,hq,ha2]; unfold X vec cr; grind
  omega
 clear ha1 ha2 hb1 hb2 hq k1 k2 k3 k4 hT hU h1 h2 g1 g2 htu
 have nz1:lev n a1=0→lev n b1≠0:=fun g g'=>by have:=lev_flat g g' hn; omega
 have nz2:lev n a2=0→lev n b2≠0:=fun g g'=>by have:=lev_flat g g' hn; omega
 have nz1':lev n b1=0→lev n a1≠0:=fun g g'=>nz1 g' g
 have nz2':lev n b2=0→lev n a2≠0:=fun g g'=>nz2 g' g
 have sA:=X_swap a1 a2
 have sB:=X_swap b1 b2
 have s12:=X_swap a1 b2
 have s21:=X_swap a2 b1
 have s11:=X_swap a1 b1
 have s22:=X_swap a2 b2
 have i1:=lev3 n a1 a2 b2
 have i2:=lev3 n a1 b1 b2
 have i3:=lev3 n a2 a1 b1
 have i4:=lev3 n a2 b2 b1
 have q1:=lev3 n a1 b1 q
 have q2:=lev3 n a2 b2 q
 have q3:=lev3 n a1 b2 q
 have q4:=lev3 n a2 b1 q
 have t1':=X_swap a1 q
 have t2':=X_swap a2 q
 rw [s12] at i1 i2
 rw [s21] at i3 i4
 rw [t1'] at q1 q3
 rw [t2'] at q2 q4
 generalize lev n a1=A1 at*
 generalize lev n a2=A2 at*
 generalize lev n b1=B1 at*
 generalize lev n b2=B2 at*
 generalize lev n q=Q at*
 have in1:X a1 a2≤0→0≤X a1 b2:=fun hp=>
  half_num fa1 fa2 fb1 fb2 r11 r22 hp (t:=X b1 b2) i1 i2 nz2
 have in2:0≤X a1 a2→0≤X a2 b1:=fun hp=>
  half_num fa2 fa1 fb2 fb1 r22 r11 (p:=X a2 a1) (by omega) (t:=X b2 b1) i3 i4 nz1
 have out1:0≤X b1 b2→0≤X a2 b1:=fun hp=>
  half_num (fa1:=-B1) (fa2:=-B2) (fb1:=-A1) (fb2:=-A2) (by omega) (by omega) (by omega) (by omega) r11 r22 (p:=- X b1 b2) (by omega) (t:=- X a1 a2)
   (by rw [sB] at i4; simp only [Int.neg_mul,Int.mul_neg] at i4 ⊢; omega) (by rw [sA] at i3; simp only [Int.neg_mul,Int.mul_neg] at i3 ⊢; omega) (fun g=>by have:=nz2' (by omega); omega)
 have out2:X b1 b2≤0→0≤X a1 b2:=fun hp=>
  half_num (fa1:=-B2) (fa2:=-B1) (fb1:=-A2) (fb2:=-A1) (by omega) (by omega) (by omega) (by omega) r22 r11 (p:=X b1 b2) (by omega) (t:=X a1 a2)
   (by simp only [Int.neg_mul,Int.mul_neg] at i2 ⊢; omega) (by simp only [Int.neg_mul,Int.mul_neg] at i1 ⊢; omega) (fun g=>by have:=nz1' (by omega); omega)
 rcases Int.le_total (X a1 a2) 0 with ca|ca
 ·have p1:=in1 ca
  have pq:0 < X a1 q:=by clear i1 i2 i3 i4 q1 q2 q3 q4 w1 w2 w3; omega
  rcases Int.le_total 0 (X b1 b2) with cb|cb
  ·have p2:=out1 cb
   have po:0 < X b1 q:=by clear i1 i2 i3 i4 q1 q2 q3 q4 w1 w2 w4; omega
   exact end_num fa1 fb1 fq pq po (Int.le_of_lt r11) q1 fb1 r11 q1 nz1
  ·have p2:=out2 cb
   have po:0 < X b2 q:=by clear i1 i2 i3 i4 q1 q2 q3 q4 w2 w3 w4; omega
   exact end_num fa1 fb2 fq pq po p2 q3 fb1 r11 q1 nz1
 ·have p1:=in2 ca
  have pq:0 < X a2 q:=by clear i1 i2 i3 i4 q1 q2 q3 q4 w1 w3 w4; omega
  rcases Int.le_total 0 (X b1 b2) with cb|cb
  ·have p2:=out1 cb
   have po:0 < X b1 q:=by clear i1 i2 i3 i4 q1 q2 q3 q4 w1 w2 w4; omega
   exact end_num fa2 fb1 fq pq po p2 q4 fb2 r22 q2 nz2
  ·have p2:=out2 cb
   have po:0 < X b2 q:=by clear i1 i2 i3 i4 q1 q2 q3 q4 w2 w3 w4; omega
   exact end_num fa2 fb2 fq pq po (Int.le_of_lt r22) q2 fb2 r22 q2 nz2
theorem sat {n t0 t1 t2 u0 u1 u2:Pt} {c:Int} (hn:n.x≠0∨n.y≠0) (hT:0 < cr t0 t1 t2) (hU:0 < cr u0 u1 u2)
  (h0:lev n t0≤c) (h1:lev n t1≤c) (h2:lev n t2≤c) (g0:c≤lev n u0) (g1:c≤lev n u1) (g2:c≤lev n u2):
  Parted t0 t1 t2 u0 u1 u2∨Parted u0 u1 u2 t0 t1 t2:=by
 have second:∀ {t0 t1 t2:Pt},0 < cr t0 t1 t2→lev n t0≤c→lev n t1≤lev n t0→lev n t2≤lev n t0→Parted t0 t1 t2 u0 u1 u2∨Parted u0 u1 u2 t0 t1 t2:=by
  intro t0 t1 t2 hT h0 h1 h2
  by_cases k0:lev n u0≤lev n u1∧lev n u0≤lev n u2
  ·exact sat0 hn hT hU h1 h2 k0.1 k0.2 (by omega)
  ·by_cases k1:lev n u1≤lev n u2∧lev n u1≤lev n u0
   ·have:=sat0 hn hT (show 0 < cr u1 u2 u0 by rw [cr_rot]; exact hU) h1 h2 k1.1 k1.2 (by omega)
    exact this.imp Parted.rot' Parted.rot
   ·have:=sat0 hn hT (show 0 < cr u2 u0 u1 by rw [cr_rot']; exact hU) h1 h2 (by omega) (by omega) (by omega)
    exact this.imp (fun h=>h.rot'.rot') (fun h=>h.rot.rot)
 by_cases k0:lev n t1≤lev n t0∧lev n t2≤lev n t0
 ·exact second hT h0 k0.1 k0.2
 ·by_cases k1:lev n t2≤lev n t1∧lev n t0≤lev n t1
  ·have:=second (t0:=t1) (t1:=t2) (t2:=t0) (by rw [cr_rot]; exact hT) h1 k1.1 k1.2
   exact this.imp Parted.rot Parted.rot'
  ·have:=second (t0:=t2) (t1:=t0) (t2:=t1) (by rw [cr_rot']; exact hT) h2 (by omega) (by omega)
   exact this.imp (fun h=>h.rot.rot) (fun h=>h.rot'.rot')
structure On (a b p:Pt):Prop where
 c:cr a b p=0
 xl:min a.x b.x≤p.x
 xr:p.x≤max a.x b.x
 yl:min a.y b.y≤p.y
 yr:p.y≤max a.y b.y
def Crossing (a b c d:Pt):Prop:=((0 < cr a b c∧cr a b d < 0)∨(cr a b c < 0∧0 < cr a b d))∧((0 < cr c d a∧cr c d b < 0)∨(cr c d a < 0∧0 < cr c d b))
def Touch (a b c d:Pt):Prop:=Crossing a b c d∨On a b c∨On a b d∨On c d a∨On c d b
theorem box_of {k l c d p:Int} (hk:0≤k) (hl:0≤l) (ht:0 < k+l) (h:(k+l)*p=k*c+l*d):min c d≤p∧p≤max c d:=by
 have can:∀ {x y:Int},(k+l)*x≤(k+l)*y→x≤y:=fun hh=>Int.le_of_mul_le_mul_left hh ht
 rcases Int.le_total c d with g|g
 ·have m1:=Int.mul_le_mul_of_nonneg_left (c:=l) g hl
  have m2:=Int.mul_le_mul_of_nonneg_left (c:=k) g hk
  have h1:c≤p:=can (by rw [h,Int.add_mul]; omega)
  have h2:p≤d:=can (by rw [h,Int.add_mul]; omega)
  omega
 ·have m1:=Int.mul_le_mul_of_nonneg_left (c:=l) g hl
  have m2:=Int.mul_le_mul_of_nonneg_left (c:=k) g hk
  have h1:d≤p:=can (by rw [h,Int.add_mul]; omega)
  have h2:p≤c:=can (by rw [h,Int.add_mul]; omega)
  omega
theorem on_of {k l:Int} {c d p:Pt} (hk:0≤k) (hl:0≤l) (ht:0 < k+l) (hx:(k+l)*p.x=k*c.x+l*d.x) (hy:(k+l)*p.y=k*c.y+l*d.y):On c d p:=by
 have h1:=box_of hk hl ht hx
 have h2:=box_of hk hl ht hy
 refine ⟨?_,h1.1,h1.2,h2.1,h2.2⟩
 have e:(k+l)*cr c d p=0:=by
  have:(k+l)*cr c d p=(d.x - c.x)*((k+l)*p.y - (k+l)*c.y) - (d.y - c.y)*((k+l)*p.x - (k+l)*c.x):=by unfold cr; grind
  rw [this,hx,hy]; grind
 exact (Int.mul_eq_zero.1 e).resolve_left (by omega)
def al (a b p:Pt):Int:=(p.x - a.x)*(b.x - a.x)+(p.y - a.y)*(b.y - a.y)
theorem al_x (a b p:Pt):al a b b*(p.x - a.x)=al a b p*(b.x - a.x) - cr a b p*(b.y - a.y):=by unfold al cr; grind
theorem al_y (a b p:Pt):al a b b*(p.y - a.y)=al a b p*(b.y - a.y)+cr a b p*(b.x - a.x):=by unfold al cr; grind
theorem al_pos {a b:Pt} (h:a≠b):0 < al a b b:=by
 have e:al a b b=(b.x - a.x)*(b.x - a.x)+(b.y - a.y)*(b.y - a.y):=rfl
 have sq:∀ t:Int,0≤t*t∧(t≠0→0 < t*t):=by
  intro t
  rcases Int.lt_trichotomy t 0 with g|g|g
  ·have:=Int.mul_pos (show 0 < -t by omega) (show 0 < -t by omega); rw [Int.neg_mul_neg] at this; omega
  ·subst g; omega
  ·have:=Int.mul_pos g g; omega
 have h1:=sq (b.x - a.x)
 have h2:=sq (b.y - a.y)
 by_cases hx:a.x=b.x
 ·by_cases hy:a.y=b.y
  ·exact absurd (Pt.ext' hx hy) h
  ·have:=h2.2 (by omega); omega
 ·have:=h1.2 (by omega); omega
theorem al_at {p q a b c d:Pt} {i j k l:Int} (h:At a b c d i j k l):i*al p q a+j*al p q b=k*al p q c+l*al p q d:=by
 obtain ⟨_,_,_,_,_,hs,hx,hy⟩:=h
 unfold al
 grind
theorem on_al {a b p:Pt} (hc:cr a b p=0) (hab:a≠b) (h0:0≤al a b p) (h1:al a b p≤al a b b):On a b p:=by
 have hp:=al_pos hab
 have ex:=al_x a b p
 have ey:=al_y a b p
 rw [hc] at ex ey
 refine on_of (k:=al a b b - al a b p) (l:=al a b p) (by omega) h0 (by omega) ?_ ?_
 ·grind
 ·grind
theorem on_behind {a b c:Pt} (hc:cr a b c=0) (hab:a≠b) (h0:al a b c < 0):On b c a:=by
 have hp:=al_pos hab
 have ex:=al_x a b c
 have ey:=al_y a b c
 rw [hc] at ex ey
 refine on_of (k:=-al a b c) (l:=al a b b) (by omega) (by omega) (by omega) ?_ ?_
 ·grind
 ·grind
theorem compat_adj {a b c:Pt} (hab:a≠b) (h1:¬ On a b c) (h2:¬ On b c a):Compat a b b c:=by
 intro i j k l g
 have gC:=cr_at (p:=a) (q:=b) g
 have gL:=al_at (p:=a) (q:=b) g
 rw [cr_self,cr_self'] at gC
 have la:al a b a=0:=by unfold al; grind
 rw [la] at gL
 have hp:=al_pos hab
 have i0:=g.i0
 have j0:=g.j0
 have k0:=g.k0
 have l0:=g.l0
 have hsum:=g.sum
 have hl:l=0:=by
  apply Classical.byContradiction
  intro hl
  have hc:cr a b c=0:=by
   have:l*cr a b c=0:=by omega
   exact (Int.mul_eq_zero.1 this).resolve_left hl
  rcases Int.lt_or_le (al a b c) 0 with g1|g1
  ·exact h2 (on_behind hc hab g1)
  ·rcases Int.lt_or_le (al a b b) (al a b c) with g2|g2
   ·have m1:=Int.mul_pos (show 0 < l by omega) (show 0 < al a b c - al a b b by omega)
    have m2:=Int.mul_nonneg i0 (Int.le_of_lt hp)
    have e:j=k+l - i:=by omega
    rw [e] at gL
    rw [Int.mul_sub] at m1
    rw [Int.sub_mul,Int.add_mul] at gL
    omega
   ·exact h1 (on_al hc hab g1 g2)
 subst hl
 refine ⟨Or.inl ?_,Or.inr rfl⟩
 apply Classical.byContradiction
 intro hi
 have gx:=g.ex
 have gy:=g.ey
 have ek:k=i+j:=by omega
 rw [ek,Int.add_mul] at gx gy
 exact hab (Pt.ext' (Int.eq_of_mul_eq_mul_left hi (by omega)) (Int.eq_of_mul_eq_mul_left hi (by omega)))
theorem mix {P a c d e u v:Int} (h1:P*(c - a)=u*e) (h2:P*(d - a)=v*e):P*((v+-u)*a)=P*(v*c+-u*d):=by
 have e1:=congrArg (fun t=>v*t) h1
 have e2:=congrArg (fun t=>u*t) h2
 have e1:v*_=v*_:=e1
 have e2:u*_=u*_:=e2
 grind
theorem mix' {P a c d e u v:Int} (h1:P*(c - a)=u*e) (h2:P*(d - a)=v*e):P*((-v+u)*a)=P*(-v*c+u*d):=by
 have:=mix h1 h2
 grind
theorem touch_of_meet {a b c d:Pt} (hab:a≠b) (h:Meet a b c d):Touch a b c d:=by
 obtain ⟨i,j,k,l,g⟩:=h
 have gA:=cr_at (p:=a) (q:=b) g
 have gC:=cr_at (p:=c) (q:=d) g
 rw [cr_self,cr_self'] at gA
 rw [cr_self,cr_self'] at gC
 have hd:=cr_d a b c d
 have i0:=g.i0
 have j0:=g.j0
 have k0:=g.k0
 have l0:=g.l0
 have hsum:=g.sum
 have hpos:=g.pos
 have gx:=g.ex
 have gy:=g.ey
 have onc:l=0→On a b c:=fun h=>on_of i0 j0 hpos (by subst h; rw [show i+j=k by omega]; omega) (by subst h; rw [show i+j=k by omega]; omega)
 have ond:k=0→On a b d:=fun h=>on_of i0 j0 hpos (by subst h; rw [show i+j=l by omega]; omega) (by subst h; rw [show i+j=l by omega]; omega)
 have ona:j=0→On c d a:=fun h=>on_of k0 l0 (by omega) (by subst h; rw [show k+l=i by omega]; omega) (by subst h; rw [show k+l=i by omega]; omega)
 have onb:i=0→On c d b:=fun h=>on_of k0 l0 (by omega) (by subst h; rw [show k+l=j by omega]; omega) (by subst h; rw [show k+l=j by omega]; omega)
 by_cases kz:k=0
 ·exact Or.inr (Or.inr (Or.inl (ond kz)))
 by_cases lz:l=0
 ·exact Or.inr (Or.inl (onc lz))
 by_cases iz:i=0
 ·exact Or.inr (Or.inr (Or.inr (Or.inr (onb iz))))
 by_cases jz:j=0
 ·exact Or.inr (Or.inr (Or.inr (Or.inl (ona jz))))
 have pk:0 < k:=by omega
 have pl:0 < l:=by omega
 have pi:0 < i:=by omega
 have pj:0 < j:=by omega
 have opp:∀ {k l A B:Int},0 < k→0 < l→k*A+l*B=0→(A=0∧B=0)∨(0 < A∧B < 0)∨(A < 0∧0 < B):=by
  intro k l A B hk hl h
  rcases Int.lt_trichotomy A 0 with q|q|q
  ·have:=Int.mul_pos hk (show 0 < -A by omega)
   rw [Int.mul_neg] at this
   exact Or.inr (Or.inr ⟨q,pm' (a:=B) (b:=l) (by rw [Int.mul_comm]; omega) hl⟩)
  ·subst q
   rw [Int.mul_zero,Int.zero_add] at h
   exact Or.inl ⟨rfl,(Int.mul_eq_zero.1 h).resolve_left (by omega)⟩
  ·have:=Int.mul_pos hk q
   exact Or.inr (Or.inl ⟨q,nm' (a:=B) (b:=l) (by rw [Int.mul_comm]; omega) hl⟩)
 have oA:=opp pk pl (show k*cr a b c+l*cr a b d=0 by omega)
 have oC:=opp pi pj (show i*cr c d a+j*cr c d b=0 by omega)
 rcases oA with ⟨A0,B0⟩|oA
 ·-- all on one line
  have la:al a b a=0:=by unfold al; grind
  have gL:=al_at (p:=a) (q:=b) g
  rw [la] at gL
  have hp:=al_pos hab
  rcases Int.lt_or_le (al a b c) 0 with c1|c1
  ·rcases Int.lt_or_le (al a b d) 0 with d1|d1
   ·exfalso
    have m1:=Int.mul_pos pk (show 0 < -al a b c by omega)
    have m2:=Int.mul_pos pl (show 0 < -al a b d by omega)
    have m3:=Int.mul_nonneg j0 (Int.le_of_lt hp)
    rw [Int.mul_neg] at m1 m2
    omega
   ·rcases Int.lt_or_le (al a b b) (al a b d) with d2|d2
    ·have ex:=al_x a b c
     have ey:=al_y a b c
     have fx:=al_x a b d
     have fy:=al_y a b d
     rw [A0,Int.zero_mul] at ex ey
     rw [B0,Int.zero_mul] at fx fy
     rw [Int.sub_zero] at ex fx
     rw [Int.add_zero] at ey fy
     refine Or.inr (Or.inr (Or.inr (Or.inl ?_)))
     refine on_of (k:=al a b d) (l:=-al a b c) (by omega) (by omega) (by omega) ?_ ?_
     ·exact Int.eq_of_mul_eq_mul_left (by omega) (mix ex fx)
     ·exact Int.eq_of_mul_eq_mul_left (by omega) (mix ey fy)
    ·exact Or.inr (Or.inr (Or.inl (on_al B0 hab d1 d2)))
  ·rcases Int.lt_or_le (al a b b) (al a b c) with c2|c2
   ·rcases Int.lt_or_le (al a b d) 0 with d1|d1
    ·have ex:=al_x a b c
     have ey:=al_y a b c
     have fx:=al_x a b d
     have fy:=al_y a b d
     rw [A0,Int.zero_mul] at ex ey
     rw [B0,Int.zero_mul] at fx fy
     rw [Int.sub_zero] at ex fx
     rw [Int.add_zero] at ey fy
     refine Or.inr (Or.inr (Or.inr (Or.inl ?_)))
     refine on_of (k:=-al a b d) (l:=al a b c) (by omega) (by omega) (by omega) ?_ ?_
     ·exact Int.eq_of_mul_eq_mul_left (by omega) (mix' ex fx)
     ·exact Int.eq_of_mul_eq_mul_left (by omega) (mix' ey fy)
    ·rcases Int.lt_or_le (al a b b) (al a b d) with d2|d2
     ·exfalso
      have m1:=Int.mul_pos pk (show 0 < al a b c - al a b b by omega)
      have m2:=Int.mul_pos pl (show 0 < al a b d - al a b b by omega)
      have m3:=Int.mul_nonneg i0 (Int.le_of_lt hp)
      have e:j=k+l - i:=by omega
      rw [e] at gL
      rw [Int.mul_sub] at m1 m2
      rw [Int.sub_mul,Int.add_mul] at gL
      omega
     ·exact Or.inr (Or.inr (Or.inl (on_al B0 hab d1 d2)))
   ·exact Or.inr (Or.inl (on_al A0 hab c1 c2))
 ·rcases oC with ⟨C0,D0⟩|oC
  ·exfalso; omega
  ·exact Or.inl ⟨oA,oC⟩
theorem compat_of_not_touch {a b c d:Pt} (hab:a≠b) (h:¬ Touch a b c d):Compat a b c d:=
 fun i j k l g=>absurd (touch_of_meet hab ⟨i,j,k,l,g⟩) h
def nth (p:List Pt) (i:Nat):Pt:=p.getD i ⟨0,0⟩
theorem nth_lt {p:List Pt} {i:Nat} (h:i < p.length):nth p i=p[i]:=by unfold nth; simp [h]
theorem nth_mem {p:List Pt} {i:Nat} (h:i < p.length):nth p i∈p:=by rw [nth_lt h]; exact List.getElem_mem h
theorem mem_path_ix (l:List Pt) (x y:Pt):(x,y)∈path l↔∃ i,i+1 < l.length∧nth l i=x∧nth l (i+1)=y:=by
 induction l with
 | nil=>exact ⟨fun h=>(by cases h),fun ⟨i,h,_⟩=>absurd h (by simp)⟩
 | cons a r ih=>
  cases r with
  | nil=>exact ⟨fun h=>(by cases h),fun ⟨i,h,_⟩=>absurd h (by simp)⟩
  | cons b r=>
   simp only [path,List.mem_cons,Prod.mk.injEq]
   constructor
   ·rintro (⟨rfl,rfl⟩|h)
    ·exact ⟨0,by simp,rfl,rfl⟩
    ·obtain ⟨i,h1,h2,h3⟩:=ih.1 h
     exact ⟨i+1,by simp at h1 ⊢; omega,h2,h3⟩
   ·rintro ⟨i,h1,h2,h3⟩
    cases i with
    | zero=>exact Or.inl ⟨h2.symm,h3.symm⟩
    | succ i=>exact Or.inr (ih.2 ⟨i,by simp at h1 ⊢; omega,h2,h3⟩)
theorem mem_cyc_ix (p:List Pt) (x y:Pt):(x,y)∈cyc p↔∃ i,i < p.length∧nth p i=x∧nth p ((i+1)%p.length)=y:=by
 cases p with
 | nil=>exact ⟨fun h=>(by cases h),fun ⟨i,h,_⟩=>absurd h (by simp)⟩
 | cons a l=>
  have hlen:(a::(l++[a])).length=(a::l).length+1:=by simp
  have h1:∀ i,i < (a::l).length→nth (a::(l++[a])) i=nth (a::l) i:=by
   intro i hi
   have e:a::(l++[a])=(a::l)++[a]:=rfl
   unfold nth
   rw [e,List.getD_eq_getElem?_getD,List.getD_eq_getElem?_getD,List.getElem?_append_left hi]
  have h2:nth (a::(l++[a])) (a::l).length=a:=by
   have e:a::(l++[a])=(a::l)++[a]:=rfl
   unfold nth
   rw [e,List.getD_eq_getElem?_getD,List.getElem?_append_right (Nat.le_refl _)]
   simp
  have h3:∀ i,i < (a::l).length→nth (a::(l++[a])) (i+1)=nth (a::l) ((i+1)%(a::l).length):=by
   intro i hi
   by_cases hlt:i+1 < (a::l).length
   ·rw [Nat.mod_eq_of_lt hlt]; exact h1 _ hlt
   ·have:i+1=(a::l).length:=by omega
    rw [this,Nat.mod_self,h2]; rfl
  show (x,y)∈path (a::(l++[a]))↔_
  rw [mem_path_ix,hlen]
  constructor
  ·rintro ⟨i,g1,g2,g3⟩
   have hi:i < (a::l).length:=by omega
   exact ⟨i,hi,by rw [← h1 i hi]; exact g2,by rw [← h3 i hi]; exact g3⟩
  ·rintro ⟨i,hi,g2,g3⟩
   exact ⟨i,by omega,by rw [h1 i hi]; exact g2,by rw [h3 i hi]; exact g3⟩
structure VP (p:List Pt):Prop where
 len:3≤p.length
 adj:∀ i,i < p.length→nth p i≠nth p ((i+1)%p.length)∧¬ On (nth p i) (nth p ((i+1)%p.length)) (nth p ((i+2)%p.length))∧
  ¬ On (nth p ((i+1)%p.length)) (nth p ((i+2)%p.length)) (nth p i)
 far:∀ i k,i+2≤k→k < p.length→(k+1)%p.length≠i→¬ Touch (nth p i) (nth p ((i+1)%p.length)) (nth p k) (nth p ((k+1)%p.length))
theorem on_left (a b:Pt):On a b a:=⟨cr_self a b,by omega,by omega,by omega,by omega⟩
theorem VP.poly {p:List Pt} (h:VP p):Poly p:=by
 have hl:=h.len
 have wrap:∀ k,k < p.length→(k+1)%p.length=if k+1=p.length then 0 else k+1:=by
  intro k hk
  split
  ·rename_i e; rw [e,Nat.mod_self]
  ·exact Nat.mod_eq_of_lt (by omega)
 have hne:∀ i k,i < k→k < p.length→nth p i≠nth p k:=by
  intro i k hik hk e
  by_cases h1:k=i+1
  ·have:=(h.adj i (by omega)).1
   rw [Nat.mod_eq_of_lt (by omega),← h1] at this
   exact this e
  ·by_cases h2:(k+1)%p.length=i
   ·have:=(h.adj k hk).1
    rw [h2] at this
    exact this e.symm
   ·refine h.far i k (by omega) hk h2 (Or.inr (Or.inl ?_))
    rw [← e]
    exact on_left _ _
 have com:∀ i k,i < k→k < p.length→Compat (nth p i) (nth p ((i+1)%p.length)) (nth p k) (nth p ((k+1)%p.length)):=by
  intro i k hik hk
  by_cases h1:k=i+1
  ·have a:=h.adj i (by omega)
   have e1:(i+1)%p.length=k:=by rw [h1]; exact Nat.mod_eq_of_lt (by omega)
   have e2:(i+2)%p.length=(k+1)%p.length:=by rw [h1]
   rw [e1,e2] at a
   rw [e1]
   exact compat_adj a.1 a.2.1 a.2.2
  ·by_cases h2:(k+1)%p.length=i
   ·have a:=h.adj k hk
    have e2:(k+2)%p.length=(i+1)%p.length:=by
     have:=Nat.add_mod (k+1) 1 p.length
     rw [h2] at this
     rw [show k+2=k+1+1 from rfl,this,Nat.add_mod i 1 p.length,Nat.mod_eq_of_lt (show i < p.length by omega)]
    rw [h2,e2] at a
    rw [h2]
    exact (compat_adj a.1 a.2.1 a.2.2).symm
   ·exact compat_of_not_touch ((h.adj i (by omega)).1) (h.far i k (by omega) hk h2)
 refine ⟨?_,hl,?_⟩
 ·rw [List.nodup_iff_pairwise_ne,List.pairwise_iff_getElem]
  intro i j hi hj hij
  have:=hne i j hij hj
  rw [nth_lt hi,nth_lt hj] at this
  exact this
 ·rintro ⟨x,y⟩ he ⟨x',y'⟩ hf hn
  obtain ⟨i,hi,rfl,rfl⟩:=(mem_cyc_ix p x y).1 he
  obtain ⟨k,hk,rfl,rfl⟩:=(mem_cyc_ix p x' y').1 hf
  rcases Nat.lt_trichotomy i k with g|g|g
  ·exact com i k g hk
  ·subst g; exact absurd rfl hn
  ·exact (com k i g hi).symm
structure EarAt (p:List Pt) (i:Nat):Prop where
 lt:i < p.length
 d:0 < cr (nth p ((i+p.length - 1)%p.length)) (nth p i) (nth p ((i+1)%p.length))
 o:∀ k,k < p.length→k≠i→k≠(i+p.length - 1)%p.length→k≠(i+1)%p.length→
  Out 1 (nth p ((i+p.length - 1)%p.length)) (nth p i) (nth p ((i+1)%p.length)) (nth p k)
theorem nth_inj {p:List Pt} (hn:p.Nodup) {i k:Nat} (hi:i < p.length) (hk:k < p.length) (h:nth p i=nth p k):i=k:=by
 rw [nth_lt hi,nth_lt hk] at h
 rw [List.nodup_iff_pairwise_ne,List.pairwise_iff_getElem] at hn
 rcases Nat.lt_trichotomy i k with g|g|g
 ·exact absurd h (hn i k hi hk g)
 ·exact g
 ·exact absurd h.symm (hn k i hk hi g)
structure Good (p:List Pt):Prop where
 poly:Poly p
 area:0 < csum ar (cyc p)
theorem Good.tri {p:List Pt} (h:Good p):T 1 (cyc p):=by
 obtain ⟨s,hs,hT,_⟩:=h.poly.tri _ (Nat.le_refl _)
 have:=hT.area
 have ha:=h.area
 have:s=1:=by
  rcases hs with g|g
  ·exact g
  ·subst g; omega
 rw [← this]; exact hT
theorem Good.of {p:List Pt} (h:Poly p) (hT:T 1 (cyc p)):Good p:=⟨h,by have:=hT.area; omega⟩
theorem prev_next {n j:Nat} (hj:j < n):((j+1)%n+n - 1)%n=j:=by
 by_cases h:j+1=n
 ·rw [h,Nat.mod_self]
  rw [show 0+n - 1=j by omega]; exact Nat.mod_eq_of_lt hj
 ·rw [Nat.mod_eq_of_lt (show j+1 < n by omega)]
  rw [show j+1+n - 1=j+n by omega,Nat.add_mod_right]; exact Nat.mod_eq_of_lt hj
theorem next_prev {n i:Nat} (hi:i < n):((i+n - 1)%n+1)%n=i:=by
 by_cases h:i=0
 ·subst h
  rw [Nat.zero_add,Nat.mod_eq_of_lt (show n - 1 < n by omega),show n - 1+1=n by omega,Nat.mod_self]
 ·rw [show i+n - 1=i - 1+n by omega,Nat.add_mod_right,Nat.mod_eq_of_lt (show i - 1 < n by omega),show i - 1+1=i by omega]
  exact Nat.mod_eq_of_lt hi
theorem Good.ear {p:List Pt} (h:Good p):∃ i,EarAt p i:=by
 have hl:=h.poly.len
 have hnd:=h.poly.nd
 obtain ⟨a,b,c,_,_,he⟩:=Poly.ear _ p 1 (Nat.le_refl _) h.poly (Or.inl rfl) h.tri (nth p 0) (nth p (1%p.length)) ((mem_cyc_ix p _ _).2 ⟨0,by omega,rfl,rfl⟩)
 obtain ⟨j,hj,rfl,hb⟩:=(mem_cyc_ix p a b).1 he.ab
 obtain ⟨i,hi,hb',rfl⟩:=(mem_cyc_ix p b c).1 he.bc
 have hji:(j+1)%p.length < p.length:=Nat.mod_lt _ (by omega)
 have e:(j+1)%p.length=i:=nth_inj hnd hji hi (hb.trans hb'.symm)
 have e2:(i+p.length - 1)%p.length=j:=by rw [← e]; exact prev_next hj
 subst hb'
 refine ⟨i,hi,?_,?_⟩
 ·rw [e2]; have:=he.d; omega
 ·intro k hk h1 h2 h3
  rw [e2] at h2 ⊢
  exact he.o _ (nth_mem hk) (fun g=>h2 (nth_inj hnd hk hj g)) (fun g=>h1 (nth_inj hnd hk hi g)) (fun g=>h3 (nth_inj hnd hk (Nat.mod_lt _ (by omega)) g))
theorem rot_back {l1 l2:List Pt} (h:Poly (l2++l1)):Poly (l1++l2)∧(cyc (l2++l1)).Perm (cyc (l1++l2)):=by
 cases l1 with
 | nil=>simp only [List.append_nil,List.nil_append] at h ⊢; exact ⟨h,List.Perm.refl _⟩
 | cons v r=>exact ⟨h.rot,cyc_rot l2 r v⟩
theorem Good.cut {p:List Pt} (h:Good p) (hl:3 < p.length) {i:Nat} (he:EarAt p i):Good (p.take i++p.drop (i+1)):=by
 have hnd:=h.poly.nd
 have hi:=he.lt
 have hb:=nth_mem hi
 have hsplit:p=p.take i++nth p i::p.drop (i+1):=by
  rw [nth_lt hi]
  rw [← List.drop_eq_getElem_cons hi,List.take_append_drop]
 have hT:=h.tri
 have hP:=h.poly
 rw [hsplit] at hP
 have hrot:=hP.rot
 have hcyc:(cyc p).Perm (cyc (nth p i::(p.drop (i+1)++p.take i))):=by
  have:=cyc_rot (p.take i) (p.drop (i+1)) (nth p i)
  rw [← hsplit] at this
  exact this
 have hperm:p.Perm (nth p i::(p.drop (i+1)++p.take i)):=by
  have:=List.perm_append_comm (l₁:=p.take i) (l₂:=nth p i::p.drop (i+1))
  rw [← hsplit] at this
  simpa using this
 have hlen:(p.drop (i+1)++p.take i).length+1=p.length:=by
  have:=hperm.length_eq
  simp only [List.length_cons] at this
  omega
 suffices hg:Poly (p.drop (i+1)++p.take i)∧T 1 (cyc (p.drop (i+1)++p.take i)) by
  have hr:=rot_back hg.1
  exact Good.of hr.1 (T.perm _ _ hr.2 hg.2)
 generalize hL:p.drop (i+1)++p.take i=L at*
 cases L with
 | nil=>simp at hlen; omega
 | cons c r=>
  cases r with
  | nil=>simp at hlen; omega
  | cons x r=>
   obtain ⟨m,a,hm⟩:=last_of x r
   rw [hm] at hrot hcyc hperm hlen ⊢
   have hab:(a,nth p i)∈cyc p:=hcyc.mem_iff.2 (by rw [cyc3]; simp)
   have hbc:(nth p i,c)∈cyc p:=hcyc.mem_iff.2 (by rw [cyc3]; simp)
   have hpl:(i+p.length - 1)%p.length < p.length:=Nat.mod_lt _ (by omega)
   have hnl:(i+1)%p.length < p.length:=Nat.mod_lt _ (by omega)
   have ea:nth p ((i+p.length - 1)%p.length)=a:=by
    have h3:(nth p ((i+p.length - 1)%p.length),nth p i)∈cyc p:=(mem_cyc_ix p _ _).2 ⟨_,hpl,rfl,by rw [next_prev hi]⟩
    exact h.poly.dst h3 hab
   have ec:nth p ((i+1)%p.length)=c:=by
    have h3:(nth p i,nth p ((i+1)%p.length))∈cyc p:=(mem_cyc_ix p _ _).2 ⟨i,hi,rfl,rfl⟩
    exact h.poly.src h3 hbc
   have hD:=he.d
   rw [ea,ec] at hD
   have nd:=List.nodup_cons.1 hrot.nd
   have nd2:=List.nodup_cons.1 nd.2
   have ho:∀ q∈m,Out 1 a (nth p i) c q:=by
    intro q hq
    have hqp:q∈p:=hperm.mem_iff.2 (by simp [hq])
    obtain ⟨k,hk,rfl⟩:=List.getElem_of_mem hqp
    have:=he.o k hk ?_ ?_ ?_
    ·rw [ea,ec,nth_lt hk] at this; exact this
    ·rintro rfl
     rw [← nth_lt hk] at hq
     exact nd.1 (by simp [hq])
    ·rintro rfl
     rw [← nth_lt hk,ea] at hq
     have h3:=nd2.2
     rw [List.nodup_append] at h3
     exact h3.2.2 a hq a (by simp) rfl
    ·rintro rfl
     rw [← nth_lt hk,ec] at hq
     exact nd2.1 (by simp [hq])
   have hm0:m≠[]:=by
    rintro rfl
    simp at hlen; omega
   have hc:=clip (s:=1) (Or.inl rfl) hrot hm0 (by omega) ho
   exact ⟨hc.1,clip_sign (Or.inl rfl) hrot hm0 (T.perm _ _ hcyc hT) (by omega) ho⟩
def sq (a b:Pt):Int:=(a.x - b.x)*(a.x - b.x)+(a.y - b.y)*(a.y - b.y)
theorem sq_nn (t:Int):0≤t*t:=by
 rcases Int.lt_or_le t 0 with g|g
 ·have:=Int.mul_pos (show 0 < -t by omega) (show 0 < -t by omega)
  rw [Int.neg_mul_neg] at this; omega
 ·exact Int.mul_nonneg g g
theorem sq_ge {s t:Int} (hs:0≤s) (h:s≤t∨s≤-t):s*s≤t*t:=by
 rcases h with h|h
 ·exact Int.mul_le_mul h h hs (by omega)
 ·have:=Int.mul_le_mul h h hs (by omega)
  rw [Int.neg_mul_neg] at this; exact this
theorem sq_far {s:Int} {a b:Pt} (hs:0≤s) (h:s≤a.x - b.x∨s≤b.x - a.x∨s≤a.y - b.y∨s≤b.y - a.y):s*s≤sq a b:=by
 have h1:=sq_nn (a.x - b.x)
 have h2:=sq_nn (a.y - b.y)
 unfold sq
 by_cases hx:s≤a.x - b.x∨s≤b.x - a.x
 ·have:=sq_ge (t:=a.x - b.x) hs (by omega)
  omega
 ·have:=sq_ge (t:=a.y - b.y) hs (by omega)
  omega
theorem foot {P al d pa cr e s:Int} (hP:0 < P) (hs:0≤s) (e0:P*pa=al*d - cr*e) (ha:0≤al) (ha':al≤P)
  (h:(s≤pa∧s≤pa - d)∨(s≤-pa∧s≤d - pa)) (he:e*e≤P):s*s*P≤cr*cr:=by
 have key:P*s≤-(cr*e)∨P*s≤cr*e:=by
  rcases h with ⟨h1,h2⟩|⟨h1,h2⟩
  ·left
   rcases Int.lt_or_le d 0 with g|g
   ·have m1:=Int.mul_nonneg ha (show 0≤-d by omega)
    have m2:=Int.mul_le_mul_of_nonneg_left (c:=P) h1 (by omega)
    rw [Int.mul_neg] at m1
    omega
   ·have m1:=Int.mul_nonneg (show 0≤P - al by omega) g
    have m2:=Int.mul_le_mul_of_nonneg_left (c:=P) h2 (by omega)
    rw [Int.sub_mul] at m1
    rw [Int.mul_sub] at m2
    omega
  ·right
   rcases Int.lt_or_le d 0 with g|g
   ·have m1:=Int.mul_nonneg (show 0≤P - al by omega) (show 0≤-d by omega)
    have m2:=Int.mul_le_mul_of_nonneg_left (c:=P) h2 (by omega)
    rw [Int.mul_neg,Int.sub_mul] at m1
    rw [Int.mul_sub] at m2
    omega
   ·have m1:=Int.mul_nonneg ha g
    have m2:=Int.mul_le_mul_of_nonneg_left (c:=P) h1 (by omega)
    rw [Int.mul_neg] at m2
    omega
 have hPs:=Int.mul_nonneg (Int.le_of_lt hP) hs
 have h1:(P*s)*(P*s)≤(cr*e)*(cr*e):=sq_ge hPs (by omega)
 have h2:cr*cr*(e*e)≤cr*cr*P:=Int.mul_le_mul_of_nonneg_left he (sq_nn cr)
 have h3:P*(s*s*P)≤P*(cr*cr):=by
  have e1:(P*s)*(P*s)=P*(s*s*P):=by grind
  have e2:(cr*e)*(cr*e)=cr*cr*(e*e):=by grind
  have e3:cr*cr*P=P*(cr*cr):=by grind
  omega
 exact Int.le_of_mul_le_mul_left h3 hP
def Beside (s:Int) (a b p:Pt):Prop:=
 (s≤p.x - a.x∧s≤p.x - b.x)∨(s≤a.x - p.x∧s≤b.x - p.x)∨(s≤p.y - a.y∧s≤p.y - b.y)∨(s≤a.y - p.y∧s≤b.y - p.y)
theorem cross_far {s:Int} {a b p:Pt} (hs:0≤s) (h0:0 < al a b p) (h1:al a b p < al a b b) (h:Beside s a b p):s*s*al a b b≤cr a b p*cr a b p:=by
 have hall:al a b b=(b.x - a.x)*(b.x - a.x)+(b.y - a.y)*(b.y - a.y):=rfl
 have n1:=sq_nn (b.x - a.x)
 have n2:=sq_nn (b.y - a.y)
 have hP:0 < al a b b:=by omega
 have ex:=al_x a b p
 have ey:=al_y a b p
 by_cases hx:(s≤p.x - a.x∧s≤p.x - b.x)∨(s≤a.x - p.x∧s≤b.x - p.x)
 ·exact foot hP hs ex (Int.le_of_lt h0) (Int.le_of_lt h1) (by omega) (by omega)
 ·have hy:(s≤p.y - a.y∧s≤p.y - b.y)∨(s≤a.y - p.y∧s≤b.y - p.y):=by unfold Beside at h; omega
  have ey':al a b b*(p.y - a.y)=al a b p*(b.y - a.y) - (-cr a b p)*(b.x - a.x):=by rw [Int.neg_mul]; omega
  have:=foot hP hs ey' (Int.le_of_lt h0) (Int.le_of_lt h1) (by omega) (by omega)
  rw [Int.neg_mul_neg] at this
  exact this
theorem ends_far {s:Int} {a b p:Pt} (hs:0≤s) (h:Beside s a b p):s*s≤sq a p∧s*s≤sq b p:=by
 unfold Beside at h
 exact ⟨sq_far hs (by omega),sq_far hs (by omega)⟩
theorem not_touch_far {a b c d:Pt} (h:(a.x < c.x∧a.x < d.x∧b.x < c.x∧b.x < d.x)∨(c.x < a.x∧c.x < b.x∧d.x < a.x∧d.x < b.x)∨
  (a.y < c.y∧a.y < d.y∧b.y < c.y∧b.y < d.y)∨(c.y < a.y∧c.y < b.y∧d.y < a.y∧d.y < b.y)):¬ Touch a b c d:=by
 rintro (⟨h1,h2⟩|h1|h1|h1|h1)
 ·obtain ⟨i,j,k,l,g⟩:Meet a b c d:=by
   have hd:=cr_d a b c d
   have hd':=cr_d c d a b
   rcases h1 with g1|g1 <;> rcases h2 with g2|g2
   ·exfalso; omega
   ·exact meet_of (by omega) (by omega) (by omega) (by omega) (by omega)
   ·exact meet_of' (by omega) (by omega) (by omega) (by omega) (by omega)
   ·exfalso; omega
  have hp:=g.pos
  have hs:=g.sum
  have i0:=g.i0
  have j0:=g.j0
  have k0:=g.k0
  have l0:=g.l0
  have apart:∀ {a b c d:Int},i*a+j*b=k*c+l*d→a < c→a < d→b < c→b < d→False:=by
   intro a b c d e h1 h2 h3 h4
   have m:∃ t,a≤t∧b≤t∧t < c∧t < d:=⟨max a b,by omega,by omega,by omega,by omega⟩
   obtain ⟨t,t1,t2,t3,t4⟩:=m
   have p1:=Int.mul_nonneg i0 (show 0≤t - a by omega)
   have p2:=Int.mul_nonneg j0 (show 0≤t - b by omega)
   have p3:=Int.mul_nonneg k0 (show 0≤c - t - 1 by omega)
   have p4:=Int.mul_nonneg l0 (show 0≤d - t - 1 by omega)
   simp only [Int.mul_sub,Int.mul_one] at p1 p2 p3 p4
   have e2:i*t+j*t=k*t+l*t:=by rw [← Int.add_mul,← Int.add_mul,hs]
   omega
  have ex:=g.ex
  have ey:=g.ey
  have apart':∀ {a b c d:Int},i*a+j*b=k*c+l*d→c < a→d < a→c < b→d < b→False:=by
   intro a b c d e h1 h2 h3 h4
   exact apart (a:=-a) (b:=-b) (c:=-c) (d:=-d) (by simp only [Int.mul_neg]; omega) (by omega) (by omega) (by omega) (by omega)
  rcases h with h|h|h|h
  ·exact apart ex h.1 h.2.1 h.2.2.1 h.2.2.2
  ·exact apart' ex h.1 h.2.2.1 h.2.1 h.2.2.2
  ·exact apart ey h.1 h.2.1 h.2.2.1 h.2.2.2
  ·exact apart' ey h.1 h.2.2.1 h.2.1 h.2.2.2
 all_goals
  have x1:=h1.xl
  have x2:=h1.xr
  have y1:=h1.yl
  have y2:=h1.yr
  omega
def mvG (v p:Pt):Pt:=⟨p.x+v.x,p.y+v.y⟩
def roG (p:Pt):Pt:=⟨-p.y,p.x⟩
def flG (p:Pt):Pt:=⟨-p.x,p.y⟩
theorem path_map (f:Pt→Pt):∀ l:List Pt,path (l.map f)=(path l).map fun e=>(f e.1,f e.2)
 | []=>rfl
 | [_]=>rfl
 | a::b::r=>by
  have:=path_map f (b::r)
  simp only [List.map_cons,path] at this ⊢
  rw [this]
theorem cyc_map (f:Pt→Pt):∀ l:List Pt,cyc (l.map f)=(cyc l).map fun e=>(f e.1,f e.2)
 | []=>rfl
 | a::r=>by
  show path (f a::(r.map f++[f a]))=_
  have:=path_map f (a::(r++[a]))
  simp only [List.map_cons,List.map_append,List.map_nil] at this
  exact this
structure Keep (f:Pt→Pt):Prop where
 inj:∀ a b,f a=f b→a=b
 at':∀ a b c d i j k l,At (f a) (f b) (f c) (f d) i j k l→At a b c d i j k l
theorem keep_mv (v:Pt):Keep (mvG v):=⟨fun a b h=>by
  have h1:=congrArg Pt.x h
  have h2:=congrArg Pt.y h
  simp only [mvG] at h1 h2
  exact Pt.ext' (by omega) (by omega),
 fun a b c d i j k l ⟨i0,j0,k0,l0,p,s,ex,ey⟩=>⟨i0,j0,k0,l0,p,s,by simp only [mvG] at ex; grind,by simp only [mvG] at ey; grind⟩⟩
theorem keep_ro:Keep roG:=⟨fun a b h=>by
  have h1:=congrArg Pt.x h
  have h2:=congrArg Pt.y h
  simp only [roG] at h1 h2
  exact Pt.ext' (by omega) (by omega),
 fun a b c d i j k l ⟨i0,j0,k0,l0,p,s,ex,ey⟩=>⟨i0,j0,k0,l0,p,s,by simp only [roG] at ey; exact ey,by simp only [roG] at ex; grind⟩⟩
theorem keep_fl:Keep flG:=⟨fun a b h=>by
  have h1:=congrArg Pt.x h
  have h2:=congrArg Pt.y h
  simp only [flG] at h1 h2
  exact Pt.ext' (by omega) (by omega),
 fun a b c d i j k l ⟨i0,j0,k0,l0,p,s,ex,ey⟩=>⟨i0,j0,k0,l0,p,s,by simp only [flG] at ex; grind,by simp only [flG] at ey; exact ey⟩⟩
theorem Keep.compat {f:Pt→Pt} (hf:Keep f) {a b c d:Pt} (h:Compat a b c d):Compat (f a) (f b) (f c) (f d):=
 fun i j k l g=>h i j k l (hf.at' a b c d i j k l g)
theorem Keep.poly {f:Pt→Pt} (hf:Keep f) {P:List Pt} (h:Poly P):Poly (P.map f):=by
 refine ⟨?_,by rw [List.length_map]; exact h.len,?_⟩
 ·rw [List.nodup_iff_pairwise_ne,List.pairwise_map]
  have:=h.nd
  rw [List.nodup_iff_pairwise_ne] at this
  exact this.imp fun hab e=>hab (hf.inj _ _ e)
 ·rw [cyc_map]
  intro e he g hg hne
  obtain ⟨e',he',rfl⟩:=List.mem_map.1 he
  obtain ⟨g',hg',rfl⟩:=List.mem_map.1 hg
  exact hf.compat (h.com e' he' g' hg' (fun h=>hne (by rw [h])))
theorem csum_map (g:Pt→Pt→Int) (f:Pt→Pt):∀ E:List (Pt×Pt),csum g (E.map fun e=>(f e.1,f e.2))=csum (fun a b=>g (f a) (f b)) E
 | []=>rfl
 | e::r=>by simp only [List.map_cons,csum]; rw [csum_map g f r]
theorem csum_add (f g:Pt→Pt→Int):∀ E:List (Pt×Pt),csum (fun a b=>f a b+g a b) E=csum f E+csum g E
 | []=>rfl
 | e::r=>by simp only [csum]; rw [csum_add f g r]; omega
theorem path_tel (g:Pt→Int):∀ (l:List Pt) (a b:Pt),csum (fun a b=>g b - g a) (path (a::(l++[b])))=g b - g a
 | [],a,b=>by simp only [List.nil_append,path,csum]; omega
 | x::r,a,b=>by
  have:=path_tel g r x b
  simp only [List.cons_append,path,csum] at this ⊢
  rw [this]; omega
theorem cyc_tel (g:Pt→Int):∀ l:List Pt,csum (fun a b=>g b - g a) (cyc l)=0
 | []=>rfl
 | a::r=>by
  have:=path_tel g r a a
  show csum _ (path (a::(r++[a])))=0
  omega
theorem Good.mv {p:List Pt} (h:Good p) (v:Pt):Good (p.map (mvG v)):=by
 refine ⟨(keep_mv v).poly h.poly,?_⟩
 rw [cyc_map,csum_map]
 have e:(fun a b=>ar (mvG v a) (mvG v b))=fun a b=>ar a b+((fun p:Pt=>v.x*p.y - v.y*p.x) b - (fun p:Pt=>v.x*p.y - v.y*p.x) a):=by
  funext a b; simp only [ar,mvG]; grind
 rw [e,csum_add,cyc_tel]
 have:=h.area
 omega
theorem Good.ro {p:List Pt} (h:Good p):Good (p.map roG):=by
 refine ⟨keep_ro.poly h.poly,?_⟩
 rw [cyc_map,csum_map]
 have e:(fun a b=>ar (roG a) (roG b))=ar:=by
  funext a b; simp only [ar,roG]; grind
 rw [e]
 exact h.area
theorem path_rev:∀ l:List Pt,path l.reverse=((path l).map fun e=>(e.2,e.1)).reverse
 | []=>rfl
 | [_]=>rfl
 | a::b::r=>by
  have ih:=path_rev (b::r)
  have e:(a::b::r).reverse=r.reverse++[b]++[a]:=by simp
  rw [e,path_snoc]
  have e2:(b::r).reverse=r.reverse++[b]:=by simp
  rw [← e2,ih]
  simp only [path,List.map_cons,List.reverse_cons]
theorem cyc_rev (a:Pt) (r:List Pt):cyc (a::r.reverse)=((cyc (a::r)).map fun e=>(e.2,e.1)).reverse:=by
 have h:=path_rev (a::(r++[a]))
 have e:(a::(r++[a])).reverse=a::(r.reverse++[a]):=by simp
 rw [e] at h
 exact h
theorem csum_swap (g:Pt→Pt→Int):∀ E:List (Pt×Pt),csum g (E.map fun e=>(e.2,e.1))=csum (fun a b=>g b a) E
 | []=>rfl
 | e::r=>by simp only [List.map_cons,csum]; rw [csum_swap g r]
theorem Good.fl {a:Pt} {r:List Pt} (h:Good (a::r)):Good (flG a::(r.map flG).reverse):=by
 have hp:=keep_fl.poly h.poly
 have hc:=cyc_map flG (a::r)
 rw [List.map_cons] at hp hc
 have hr:=cyc_rev (flG a) (r.map flG)
 refine ⟨⟨?_,?_,?_⟩,?_⟩
 ·have:=hp.nd
  rw [List.nodup_cons] at this ⊢
  exact ⟨fun hm=>this.1 (List.mem_reverse.1 hm),(List.reverse_perm _).nodup_iff.2 this.2⟩
 ·have:=hp.len
  simp only [List.length_cons,List.length_reverse] at this ⊢
  exact this
 ·rw [hr]
  intro e he g hg hne
  obtain ⟨e',he',rfl⟩:=List.mem_map.1 (List.mem_reverse.1 he)
  obtain ⟨g',hg',rfl⟩:=List.mem_map.1 (List.mem_reverse.1 hg)
  exact (hp.com e' he' g' hg' (fun h=>hne (by rw [h]))).swap.swap'
 ·rw [hr,csum_perm ar (List.reverse_perm _),csum_swap,hc,csum_map]
  have e:(fun a b=>ar (flG b) (flG a))=ar:=by
   funext a b; simp only [ar,flG]; grind
  rw [e]
  exact h.area
def su (g:Nat→Int):Nat→Int
 | 0=>0
 | n+1=>su g n+g n
theorem su_shift (g:Nat→Int):∀ n,su g (n+1)=g 0+su (fun i=>g (i+1)) n
 | 0=>by simp only [su]; omega
 | n+1=>by
  have:=su_shift g n
  simp only [su] at this ⊢
  omega
theorem su_congr {g h:Nat→Int}:∀ {n:Nat},(∀ i,i < n→g i=h i)→su g n=su h n
 | 0,_=>rfl
 | n+1,e=>by
  simp only [su]
  rw [su_congr (fun i hi=>e i (by omega)),e n (by omega)]
theorem path_su (f:Pt→Pt→Int):∀ (l:List Pt) (a:Pt),csum f (path (a::l))=su (fun i=>f (nth (a::l) i) (nth (a::l) (i+1))) l.length
 | [],_=>rfl
 | b::r,a=>by
  have ih:=path_su f r b
  rw [List.length_cons,su_shift]
  simp only [path,csum,ih]
  rfl
theorem cyc_su (f:Pt→Pt→Int) (p:List Pt):csum f (cyc p)=su (fun i=>f (nth p i) (nth p ((i+1)%p.length))) p.length:=by
 cases p with
 | nil=>rfl
 | cons a l=>
  have h1:∀ i,i < (a::l).length→nth (a::(l++[a])) i=nth (a::l) i:=by
   intro i hi
   have e:a::(l++[a])=(a::l)++[a]:=rfl
   unfold nth
   rw [e,List.getD_eq_getElem?_getD,List.getD_eq_getElem?_getD,List.getElem?_append_left hi]
  have h2:nth (a::(l++[a])) (a::l).length=a:=by
   have e:a::(l++[a])=(a::l)++[a]:=rfl
   unfold nth
   rw [e,List.getD_eq_getElem?_getD,List.getElem?_append_right (Nat.le_refl _)]
   simp
  show csum f (path (a::(l++[a])))=_
  rw [path_su]
  have hl:(l++[a]).length=(a::l).length:=by simp
  rw [hl]
  refine su_congr fun i hi=>?_
  rw [h1 i hi]
  congr 1
  by_cases hlt:i+1 < (a::l).length
  ·rw [Nat.mod_eq_of_lt hlt]; exact h1 _ hlt
  ·have:i+1=(a::l).length:=by omega
   rw [this,Nat.mod_self,h2]; rfl
theorem area3 (a b c:Pt):csum ar (cyc [a,b,c])=cr a b c:=by
 show csum ar [(a,b),(b,c),(c,a)]=_
 simp only [csum]; unfold ar cr; grind
end Go.Proofs.YticimffljcljoaaGreat.Geo
