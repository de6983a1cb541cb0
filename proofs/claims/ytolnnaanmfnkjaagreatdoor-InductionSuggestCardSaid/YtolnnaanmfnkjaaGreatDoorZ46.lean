import Derived.Test.YtolnnaanmfnkjaaGreatDoorZ44
import Derived.Test.YtolnnaanmfnkjaaGreatDoorZ45
set_option linter.all false
set_option maxHeartbeats 0
set_option maxRecDepth 100000
noncomputable section
namespace Go.Ey.Pr
open Seat
theorem RZ:(dw,aey)∈names:=C3 (i:=13) rfl
theorem aiZ:(dw,abZ)∈names:=C3 (i:=14) rfl
theorem ahv:(usr,ab6)∈names:=C3 (i:=30) rfl
theorem ahg:(usr,abL)∈names:=C3 (i:=27) rfl
theorem aic:(usr,abk)∈names:=C3 (i:=32) rfl
theorem ah0:(dw,abq)∈names:=C3 (i:=0) rfl
theorem ahn:(dw,abI)∈names:=C3 (i:=1) rfl
theorem aiG:(usr,ab7)∈names:=C3 (i:=33) rfl
theorem agV:(dw,BG)∈names:=C3 (i:=7) rfl
theorem iV (r:Nat) {t x y:Tm} (ht:DT 22 t) (hx:DT 1 x) (hy:DT 1 y):DT 25 (bz r t x y):=by
 have nt:=ht.sz;have nx:=hx.sz;have ny:=hy.sz
 match r with
 |0=>exact ⟨⟨⟨RZ,by simp⟩,⟨hx.ok,ht.ok,trivial⟩⟩,by simp only [bz,ah,au];omega⟩
 |1=>exact ⟨⟨⟨aiZ,by simp⟩,⟨⟨⟨RZ,by simp⟩,hx.ok,hy.ok,trivial⟩,trivial⟩⟩,by simp only [bz,ah,au];omega⟩
 |2=>exact ⟨⟨⟨ahv,by simp⟩,⟨hx.ok,hy.ok,trivial⟩⟩,by simp only [bz,ah,au];omega⟩
 |3=>exact ⟨⟨⟨ahg,by simp⟩,⟨hx.ok,hy.ok,ht.ok,trivial⟩⟩,by simp only [bz,ah,au];omega⟩
 |4=>exact ⟨⟨⟨aic,by simp⟩,⟨hx.ok,trivial⟩⟩,by simp only [bz,ah,au];omega⟩
 |5=>exact ⟨⟨⟨ah0,by simp⟩,⟨hx.ok,hy.ok,trivial⟩⟩,by simp only [bz,ah,au];omega⟩
 |6=>exact ⟨⟨⟨ahn,by simp⟩,⟨hx.ok,hy.ok,trivial⟩⟩,by simp only [bz,ah,au];omega⟩
 |7=>exact ⟨⟨⟨aiG,by simp⟩,⟨hx.ok,trivial⟩⟩,by simp only [bz,ah,au];omega⟩
 |_+8=>exact ht.mono (by omega)
theorem Cn {b u v:Tm} (hb:DT 25 b) (hu:DT 1 u) (hv:DT 1 v):DT 29 (iI b u v):=by have nb:=hb.sz;have nu:=hu.sz;have nv:=hv.sz;exact ⟨⟨⟨agV,by simp⟩,hb.ok,⟨⟨RZ,by simp⟩,hu.ok,hv.ok,trivial⟩,trivial⟩,by simp only [iI,ah,au];omega⟩
section
variable {nat:Nat->List V->Option (List V)}
theorem ai1 (na:kN nat) (hn:qd nat) {cw:C} (hw:RK D6 cw) (bs:List UInt8) (hb:bs.length<=80) {n i:Int} (hlt:i < n) (hi:-1000 < i/\i < 1000) (c:List Tm) (hc:c.length < 1000) (hk:Um c) (pos:Nat) (hp:pos<=bs.length):
  ∃(z:Tm) (p7:Nat),bR (T nat).G 11 0 [.c cw,.c (rows aa c),.c (ci n),.c (ci i),.l (bx bs pos)]=bR (T nat).G 11 0 [.c cw,.c (rows aa (xz c z)),.c (ci n),.c (ci (i+1)),.l (bx bs p7)]/\DT 29 z/\p7<=bs.length:=by
 obtain ⟨t,p1,h1,dt,q1⟩:=x39 na hn hw bs hb 1 (by omega) pos hp
 obtain ⟨x,p2,h2,dx,q2⟩:=x22 (nat:=nat) bs p1 hb q1;obtain ⟨y,p3,h3,dy,q3⟩:=x22 (nat:=nat) bs p2 hb q2;obtain ⟨r,p4,h4,r0,r1,q4⟩:=x38 (nat:=nat) bs p3 hb q3 9 (by omega)
 obtain ⟨b,p5,h5,b0,b1,q5⟩:=x38 (nat:=nat) bs p4 hb q4 2 (by omega)
 obtain ⟨u,p6,h6,du,q6⟩:=x22 (nat:=nat) bs p5 hb q5;obtain ⟨v,p7,h7,dv,q7⟩:=x22 (nat:=nat) bs p6 hb q6;have TQ:DT 22 t:=dt;rcases (by omega:r=0\/r=1\/r=2\/r=3\/r=4\/r=5\/r=6\/r=7\/r=8) with rfl|rfl|rfl|rfl|rfl|rfl|rfl|rfl|rfl
 ·by_cases hb0:b=0
  ·subst hb0;exact ⟨iI (bz 0 t x y) u v,p7,aib rfl rfl rfl rfl rfl rfl hlt hi hc hk h1 h2 h3 rfl rfl h5 h6 h7 h4,Cn (iV 0 TQ dx dy) du dv,q7⟩
  ·exact ⟨bz 0 t x y,p5,agY rfl rfl rfl rfl rfl rfl hlt hi hc hk h1 h2 h3 hb0 h5 h4,(iV 0 TQ dx dy).mono (by omega),q5⟩
 ·by_cases hb0:b=0
  ·subst hb0;exact ⟨iI (bz 1 t x y) u v,p7,aix rfl rfl rfl rfl rfl rfl hlt hi hc hk h1 h2 h3 rfl rfl h5 h6 h7 h4,Cn (iV 1 TQ dx dy) du dv,q7⟩
  ·exact ⟨bz 1 t x y,p5,af8 rfl rfl rfl rfl rfl rfl hlt hi hc hk h1 h2 h3 hb0 h5 h4,(iV 1 TQ dx dy).mono (by omega),q5⟩
 ·by_cases hb0:b=0
  ·subst hb0;exact ⟨iI (bz 2 t x y) u v,p7,aiW rfl rfl rfl rfl rfl rfl hlt hi hc hk h1 h2 h3 rfl rfl h5 h6 h7 h4,Cn (iV 2 TQ dx dy) du dv,q7⟩
  ·exact ⟨bz 2 t x y,p5,ag3 rfl rfl rfl rfl rfl rfl hlt hi hc hk h1 h2 h3 hb0 h5 h4,(iV 2 TQ dx dy).mono (by omega),q5⟩
 ·by_cases hb0:b=0
  ·subst hb0;exact ⟨iI (bz 3 t x y) u v,p7,ag9 rfl rfl rfl rfl rfl rfl hlt hi hc hk h1 h2 h3 rfl rfl h5 h6 h7 h4,Cn (iV 3 TQ dx dy) du dv,q7⟩
  ·exact ⟨bz 3 t x y,p5,ait rfl rfl rfl rfl rfl rfl hlt hi hc hk h1 h2 h3 hb0 h5 h4,(iV 3 TQ dx dy).mono (by omega),q5⟩
 ·by_cases hb0:b=0
  ·subst hb0;exact ⟨iI (bz 4 t x y) u v,p7,agS rfl rfl rfl rfl rfl rfl hlt hi hc hk h1 h2 h3 rfl rfl h5 h6 h7 h4,Cn (iV 4 TQ dx dy) du dv,q7⟩
  ·exact ⟨bz 4 t x y,p5,ah8 rfl rfl rfl rfl rfl rfl hlt hi hc hk h1 h2 h3 hb0 h5 h4,(iV 4 TQ dx dy).mono (by omega),q5⟩
 ·by_cases hb0:b=0
  ·subst hb0;exact ⟨iI (bz 5 t x y) u v,p7,ahf rfl rfl rfl rfl rfl rfl hlt hi hc hk h1 h2 h3 rfl rfl h5 h6 h7 h4,Cn (iV 5 TQ dx dy) du dv,q7⟩
  ·exact ⟨bz 5 t x y,p5,ai0 rfl rfl rfl rfl rfl rfl hlt hi hc hk h1 h2 h3 hb0 h5 h4,(iV 5 TQ dx dy).mono (by omega),q5⟩
 ·by_cases hb0:b=0
  ·subst hb0;exact ⟨iI (bz 6 t x y) u v,p7,age rfl rfl rfl rfl rfl rfl hlt hi hc hk h1 h2 h3 rfl rfl h5 h6 h7 h4,Cn (iV 6 TQ dx dy) du dv,q7⟩
  ·exact ⟨bz 6 t x y,p5,ahJ rfl rfl rfl rfl rfl rfl hlt hi hc hk h1 h2 h3 hb0 h5 h4,(iV 6 TQ dx dy).mono (by omega),q5⟩
 ·by_cases hb0:b=0
  ·subst hb0;exact ⟨iI (bz 7 t x y) u v,p7,aiq rfl rfl rfl rfl rfl rfl hlt hi hc hk h1 h2 h3 rfl rfl h5 h6 h7 h4,Cn (iV 7 TQ dx dy) du dv,q7⟩
  ·exact ⟨bz 7 t x y,p5,agF rfl rfl rfl rfl rfl rfl hlt hi hc hk h1 h2 h3 hb0 h5 h4,(iV 7 TQ dx dy).mono (by omega),q5⟩
 ·by_cases hb0:b=0
  ·subst hb0;exact ⟨iI (bz 8 t x y) u v,p7,ag6 rfl rfl rfl rfl rfl rfl hlt hi hc hk h1 h2 h3 rfl rfl h5 h6 h7 rfl h4,Cn (iV 8 TQ dx dy) du dv,q7⟩
  ·exact ⟨bz 8 t x y,p5,ahK rfl rfl rfl rfl rfl rfl hlt hi hc hk h1 h2 h3 hb0 h5 rfl h4,(iV 8 TQ dx dy).mono (by omega),q5⟩
theorem Z0 (na:kN nat) (hn:qd nat) {cw:C} (hw:RK D6 cw) (bs:List UInt8) (hb:bs.length<=80) (n:Nat) (hn3:n<=3):∀(m i:Nat) (c:List Tm) (pos:Nat),i+m=n->DC i 29 c->pos<=bs.length->
  ∃(c':List Tm) (pos':Nat),bR (T nat).G 11 0 [.c cw,.c (rows aa c),.c (ci n),.c (ci i),.l (bx bs pos)]=some ([.one (rows aa c')],[bx bs pos'])/\DC n 29 c'/\pos'<=bs.length
 |0,i,c,pos,hi,hc,hp=>by
  have hlt:¬((i:Int) < (n:Int)):=by omega
  obtain rfl:i=n:=by omega
  refine ⟨c,pos,?_,hc,hp⟩;rw [aF gq (t:=jN) rfl];simp [jN,zZ,hlt,zg]
 |m+1,i,c,pos,hi,hc,hp=>by
  have hlt:((i:Int) < (n:Int)):=by omega
  have hl:=hc.len;obtain ⟨z,p7,h1,dz,q7⟩:=ai1 na hn hw bs hb hlt ⟨by omega,by omega⟩ c (by omega) (hc.okc (by omega)) pos hp
  obtain ⟨c',p8,g1,g2,g3⟩:=Z0 na hn hw bs hb n hn3 m (i+1) (xz c z) p7 (by omega) (hc.add dz) q7
  rw [show (((i+1:Nat)):Int)=(i:Int)+1 by omega] at g1
  exact ⟨c',p8,h1.trans g1,g2,g3⟩
theorem x11 (na:kN nat) (hn:qd nat) {cw:C} (hw:RK D6 cw) (bs:List UInt8) (hb:bs.length<=80) (pos:Nat) (hp:pos<=bs.length):
  ∃(c:List Tm) (pos':Nat),bq (T nat).G 11 [.ref 0 0,.v (.one cw)] [bx bs pos]=some ([.one (rows aa c)],[bx bs pos'])/\DC 3 29 c/\pos'<=bs.length:=by
 obtain ⟨r,p1,h8,r0,r1,hp1⟩:=x38 (nat:=nat) bs pos hb hp 3 (by omega)
 obtain ⟨k,rfl⟩:=Int.eq_ofNat_of_zero_le r0;have hs:bW .add false (ci 1) (ci (k:Int))=some (ci ((k+1:Nat):Int)):=by
  rw [gN (by omega) (by omega)]
  exact E6 (fun x=>some (ci x)) (by omega)
 obtain ⟨c,p2,g1,g2,g3⟩:=Z0 na hn hw bs hb (k+1) (by omega) (k+1) 0 [] p1 (by omega) ⟨An _,fun t h=>by cases h⟩ hp1
 rw [Bt] at g1;simp only [D1] at g1;refine ⟨c,p2,?_,⟨E1 g2.len (by omega),g2.all⟩,g3⟩
 rw [aQ gq];simp [-Int.natCast_add,u11,zZ,h8,hs,g1,zg]
end
end Go.Ey.Pr
end
