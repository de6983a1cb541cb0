import Derived.Test.YtolnnaanmfnkjaaGreatDoorZ32
set_option linter.all false
set_option maxHeartbeats 0
set_option maxRecDepth 100000
noncomputable section
namespace Go.Ey.Pr
open Seat
def afd:bD->Bool
 |.ret [.c (.i .i64 (.ofNat a)),.c (.b _)] []=>a<=3
 |_=>false
theorem ahy {x:bD} (h:afd x=true):∃(a:Nat) (b:Bool),a<=3/\x=.ret [.c (.i .i64 (.ofNat a)),.c (.b b)] []:=by
 unfold afd at h;split at h
 ·exact ⟨_,_,by simpa using h,rfl⟩
 ·cases h
def akW:Bool:=heads.all fun s=>afd ((jm ZC 3000).fn 106 [.c D6,.l 2 [kS dw,kS s]] [])
theorem ab0:akW=true:=by kernel_rfl
def al9:Bool:=owns.all fun s=>afd ((jm ZC 3000).fn 106 [.c D6,.l 2 [kS usr,kS s]] [])
theorem abu:al9=true:=by kernel_rfl
theorem agG {s:ByteArray} (h:s∈heads):(dw,s)∈names:=
 F2 _ (J0.2 ⟨s,Fm _ (Fm _ h),rfl⟩)
theorem al2 {s:ByteArray} (h:s∈owns):(usr,s)∈names:=
 G2 _ (J0.2 ⟨s,Fm _ h,rfl⟩)
def xyz (r:Int):ByteArray:=if r=0 then ⟨#[120]⟩ else if r=1 then ⟨#[121]⟩ else ⟨#[122]⟩
theorem anh {r:Int} (h1:0<=r) (h2:r < 3):((KU (some (ci r)) none (cs ⟨#[120,121,122]⟩)).bind fun c=>KU none (some (ci 1)) c)=some (cs (xyz r)):=by
 have h:r=0\/r=1\/r=2:=by omega
 rcases h with rfl|rfl|rfl<;>rfl
theorem alA {r:Int} (h1:0<=r) (h2:r < 3):DT 1 (.var usr (xyz r)):=by
 have h:r=0\/r=1\/r=2:=by omega
 rcases h with rfl|rfl|rfl<;>exact alS (by simp [xyz,agI])
def enS (s:ByteArray):List C:=[cs s]
theorem Rs (s:ByteArray):(enS s).length=1:=rfl
theorem ajT {l:List ByteArray} {k:Nat} (h:k < l.length):fI 1 (rows enS l) (ci k)=some (enS l[k]):=jE (f:=enS) Rs (A6 h)
def QT:Nat->Nat
 |0=>7
 |d+1=>3 * QT d+1
theorem XX:∀d,7<=QT d
 |0=>An _
 |d+1=>by have:=XX d;simp only [QT];omega
theorem jO (t u:Tm):fK 11 2 [ak (aa t) 0,ak (aa t) 1,ak (aa t) 2,ak (aa t) 3,ak (aa t) 4,ak (aa t) 5,ak (aa t) 6,ak (aa t) 7,ak (aa t) 8,ak (aa t) 9,ak (aa t) 10,ak (aa u) 0,ak (aa u) 1,ak (aa u) 2,ak (aa u) 3,ak (aa u) 4,ak (aa u) 5,ak (aa u) 6,ak (aa u) 7,ak (aa u) 8,ak (aa u) 9,ak (aa u) 10]=some (rows aa [t,u]):=by
 have h:∀{a b:List C},a=aa t->b=aa u->fK 11 2 (a++b)=some (rows aa [t,u]):=by rintro _ _ rfl rfl;simp [fK,af,bg,rows]
 exact h (nH t) (nH u)
theorem iT (t:Tm):fK 11 1 [ak (aa t) 0,ak (aa t) 1,ak (aa t) 2,ak (aa t) 3,ak (aa t) 4,ak (aa t) 5,ak (aa t) 6,ak (aa t) 7,ak (aa t) 8,ak (aa t) 9,ak (aa t) 10]=some (rows aa [t]):=by rw [nH,aos]
section
variable {nat:Nat->List V->Option (List V)}
theorem aiI:(T nat).ko 106=some [.one,.agg 2]:=by kernel_rfl
theorem f78 (hn:qd nat) {cw:C} (hw:RK D6 cw) {m:Nat} {p s:ByteArray} (h:afd ((jm ZC m).fn 106 [.c D6,.l 2 [kS p,kS s]] [])=true):∃(a:Nat) (c:C),a<=3/\bq (T nat).G 106 [.v (.one cw),.v (.agg [cs p,cs s])] []=some ([.one (ci a),.one c],[]):=by obtain ⟨a,b,ha,e⟩:=ahy h;obtain ⟨c,d,b1,b2,e2⟩:=kc2 hn aiI (ts:=[.v (.one (.v 0)),.v (.agg (.all 0))]) rfl (ys:=[.c D6,.l 2 [kS p,kS s]]) (us:=[.v (.one cw),.v (.agg [cs p,cs s])]) ⟨hw,⟨gJ.cons (Fj p) (gJ.cons (Fj s) gJ.nil),rfl⟩,trivial⟩ e;rw [b1.int] at e2;exact ⟨a,d,ha,e2⟩
theorem x104:bq (T nat).G 104 [] []=some ([.one (rows enS heads)],[]):=by rw [aQ agT];rfl
theorem x105:bq (T nat).G 105 [] []=some ([.one (rows enS owns)],[]):=by rw [aQ agr];rfl
theorem x22 (bs:List UInt8) (pos:Nat) (hb:bs.length<=80) (hp:pos<=bs.length):
  ∃(t:Tm) (pos':Nat),bq (T nat).G 22 [.ref 0 0] [bx bs pos]=some ([.agg (aa t)],[bx bs pos'])/\DT 1 t/\pos'<=bs.length:=by
 obtain ⟨r,p1,h8,r0,r1,hp1⟩:=x38 (nat:=nat) bs pos hb hp 3 (by omega)
 obtain ⟨c,hc,hw⟩:=A1.1 (anh r0 r1);refine ⟨_,p1,?_,alA r0 r1,hp1⟩;rw [aQ akO];simp [t22,zS,h8,hc,hw,x19,zg,af]
variable {B B1 B2 B3 B4:List C} {cw:C} {d r:Int}
theorem anj (l0:B.length=2) (l1:B1.length=2) (l2:B2.length=2) {t:Tm} (hr:r < 3) (h8:bq (T nat).G 38 [.ref 0 0,.v (.one (ci 12))] [B]=some ([.one (ci r)],[B1])) (h1:bq (T nat).G 22 [.ref 0 0] [B1]=some ([.agg (aa t)],[B2])):
  bq (T nat).G 39 [.ref 0 0,.v (.one cw),.v (.one (ci d))] [B]=some ([.agg (aa t)],[B2]):=by
 have h3:¬3 < r:=by omega
 rw [aQ AA];by_cases hd:d < 1<;>simp [u39,afF,NC,zS,h8,hd,h3,hr,h1,l0,l1,l2,af]
theorem ast (l0:B.length=2) (l1:B1.length=2) (l2:B2.length=2) {t:Tm} (hd:d < 1) (hr:3 < r) (hm:r.tmod 4 < 3) (h8:bq (T nat).G 38 [.ref 0 0,.v (.one (ci 12))] [B]=some ([.one (ci r)],[B1])) (h1:bq (T nat).G 22 [.ref 0 0] [B1]=some ([.agg (aa t)],[B2])):
  bq (T nat).G 39 [.ref 0 0,.v (.one cw),.v (.one (ci d))] [B]=some ([.agg (aa t)],[B2]):=by
 have hq:bW .rem false (ci r) (ci 4)=some (ci (r.tmod 4)):=Y3 (by omega)
 rw [aQ AA];simp [u39,ado,zS,h8,hd,hr,hq,hm,h1,l0,l1,l2,af]
theorem aqx (l0:B.length=2) (l1:B1.length=2) (l2:B2.length=2) {o:Ob} (h8:bq (T nat).G 38 [.ref 0 0,.v (.one (ci 12))] [B]=some ([.one (ci 3)],[B1])) (h1:bq (T nat).G 103 [.ref 0 0,.v (.one (ci 1))] [B1]=some ([.agg (enc o)],[B2])):
  bq (T nat).G 39 [.ref 0 0,.v (.one cw),.v (.one (ci d))] [B]=some ([.agg (aa (.dV o))],[B2]):=by
 rw [aQ AA];by_cases hd:d < 1<;>simp [u39,afF,ajj,NC,aft,zS,h8,hd,h1,x94,l0,l1,l2,af,bF]
theorem arA (l0:B.length=2) (l1:B1.length=2) (l2:B2.length=2) {o:Ob} (hd:d < 1) (hr:3 < r) (hm:r.tmod 4=3) (h8:bq (T nat).G 38 [.ref 0 0,.v (.one (ci 12))] [B]=some ([.one (ci r)],[B1])) (h1:bq (T nat).G 103 [.ref 0 0,.v (.one (ci 1))] [B1]=some ([.agg (enc o)],[B2])):
  bq (T nat).G 39 [.ref 0 0,.v (.one cw),.v (.one (ci d))] [B]=some ([.agg (aa (.dV o))],[B2]):=by
 have hq:bW .rem false (ci r) (ci 4)=some (ci 3):=by rw [Y3 (by omega),hm]
 rw [aQ AA];simp [u39,ado,ajb,zS,h8,hd,hr,hq,h1,x94,l0,l1,l2,af,bF]
theorem asH (l0:B.length=2) (l1:B1.length=2) (l2:B2.length=2) (l3:B3.length=2) {q n:Int} {k:Nat} {x:C} {L M:List ByteArray} (e1:bq (T nat).G 104 [] []=some ([.one (rows enS L)],[])) (e2:bq (T nat).G 105 [] []=some ([.one (rows enS M)],[])) (hd:¬d < 1) (hr:3 < r) (hq:q < 3) (hk:k < L.length) (h8:bq (T nat).G 38 [.ref 0 0,.v (.one (ci 12))] [B]=some ([.one (ci r)],[B1])) (Jh:bq (T nat).G 38 [.ref 0 0,.v (.one (ci 4))] [B1]=some ([.one (ci q)],[B2])) (h8b:bq (T nat).G 38 [.ref 0 0,.v (.one (ci L.length))] [B2]=some ([.one (ci k)],[B3]))
  (ha:bq (T nat).G 106 [.v (.one cw),.v (.agg [cs dw,cs L[k]])] []=some ([.one (ci n),.one x],[])):
  bq (T nat).G 39 [.ref 0 0,.v (.one cw),.v (.one (ci d))] [B]=bR (T nat).G 39 0 [.c cw,.c (ci d),.c (ci n),.c (ci 0),.l B3,.c (ci 0),.c ce,.c ce,.c (ci 0),.c ce,.c ce,.c ce,.c ce,.c ce,.c cz,.c cz,.l [cs dw,cs L[k]],.c cz]:=by
 have h3:¬r < 3:=by omega
 have h4:(r==3)=false:=Dd.2 (by omega)
 have hl:jk false (rows enS L)=some (ci L.length):=rfl;have hx:ak (enS L[k]) 0=cs L[k]:=rfl;rw [aQ AA];simp (config := { maxSteps := 2000000 }) [u39,NC,Ya,aeF,zZ,h8,hd,h3,h4,e1,e2,Jh,hq,hl,h8b,ajT hk,hx,x12,ha,l0,l1,l2,l3,Rs]
theorem ase (l0:B.length=2) (l1:B1.length=2) (l2:B2.length=2) (l3:B3.length=2) {q n:Int} {k:Nat} {x:C} {L M:List ByteArray} (e1:bq (T nat).G 104 [] []=some ([.one (rows enS L)],[])) (e2:bq (T nat).G 105 [] []=some ([.one (rows enS M)],[])) (hd:¬d < 1) (hr:3 < r) (hq:¬q < 3) (hk:k < M.length) (h8:bq (T nat).G 38 [.ref 0 0,.v (.one (ci 12))] [B]=some ([.one (ci r)],[B1])) (Jh:bq (T nat).G 38 [.ref 0 0,.v (.one (ci 4))] [B1]=some ([.one (ci q)],[B2])) (h8b:bq (T nat).G 38 [.ref 0 0,.v (.one (ci M.length))] [B2]=some ([.one (ci k)],[B3]))
  (ha:bq (T nat).G 106 [.v (.one cw),.v (.agg [cs usr,cs M[k]])] []=some ([.one (ci n),.one x],[])):
  bq (T nat).G 39 [.ref 0 0,.v (.one cw),.v (.one (ci d))] [B]=bR (T nat).G 39 0 [.c cw,.c (ci d),.c (ci n),.c (ci 0),.l B3,.c (ci 0),.c ce,.c ce,.c (ci 0),.c ce,.c ce,.c ce,.c ce,.c ce,.c cz,.c cz,.l [cs usr,cs M[k]],.c cz]:=by
 have h3:¬r < 3:=by omega
 have h4:(r==3)=false:=Dd.2 (by omega)
 have hl:jk false (rows enS M)=some (ci M.length):=rfl;have hx:ak (enS M[k]) 0=cs M[k]:=rfl;rw [aQ AA];simp (config := { maxSteps := 2000000 }) [u39,NC,Ya,aeh,zZ,h8,hd,h3,h4,e1,e2,Jh,hq,hl,h8b,ajT hk,hx,akk,ha,l0,l1,l2,l3,Rs]
end
end Go.Ey.Pr
end
