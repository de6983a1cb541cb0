import Derived.Test.YtolnnaanmfnkjaaGreatDoorZ30
set_option linter.all false
set_option maxHeartbeats 0
set_option maxRecDepth 100000
noncomputable section
namespace Go.Ey.Pr
open Seat
def aff:List ByteArray:=⟨#[109,101,109,98,101,114,45,101,113,117,97,108]⟩::⟨#[110,116,104]⟩::heads
def aje:List ByteArray:=⟨#[97,100,100]⟩::owns
def names:List (ByteArray×ByteArray):=aff.map (fun s=>(dw,s))++aje.map (fun s=>(usr,s))
def agI:List ByteArray:=[⟨#[120]⟩,⟨#[121]⟩,⟨#[122]⟩]
mutual
def okD:Tm->Prop
 |.var p s=>p=usr/\s∈agI
 |.dV o=>Good o
 |.app p s ts=>((p,s)∈names/\ts.length<=3)/\abv ts
def abv:List Tm->Prop
 |[]=>True
 |t::ts=>okD t/\abv ts
end
theorem Nl:∀{ts:List Tm},abv ts↔∀t∈ts,okD t
 |[]=>by simp [abv]
 |t::ts=>by simp [abv,Nl (ts:=ts)]
structure DT (q:Nat) (t:Tm):Prop where
 ok:okD t
 sz:ah t<=q
theorem DT.mono {q q':Nat} {t:Tm} (h:DT q t) (hq:q<=q'):DT q' t:=⟨h.ok,E1 h.sz hq⟩
theorem DT.okt {q:Nat} {t:Tm} (h:DT q t) (hq:q<=3000):OKT t:=E1 h.sz hq
theorem alS {s:ByteArray} (h:s∈agI):DT 1 (.var usr s):=⟨⟨rfl,h⟩,An _⟩
theorem ala {o:Ob} {q:Nat} (h:Good o) (hq:Gc o<=q):DT q (.dV o):=⟨h,hq⟩
theorem NB {q:Nat}:∀{ts:List Tm},(∀t∈ts,ah t<=q)->au ts<=ts.length * q
 |[],_=>by simp [au]
 |t::ts,h=>by
  have h1:=h t (by simp)
  have h2:=NB (ts:=ts) fun x hx=>h x (by simp [hx])
  simp only [au,C5,G1];omega
theorem amO {p s:ByteArray} {ts:List Tm} {q:Nat} (hs:(p,s)∈names) (hl:ts.length<=3) (h:∀t∈ts,DT q t):DT (ts.length * q+1) (.app p s ts):=by
 refine ⟨⟨⟨hs,hl⟩,Nl.2 fun t ht=>(h t ht).ok⟩,?_⟩
 have:=NB fun t ht=>(h t ht).sz
 simp only [ah];omega
def xz (c:List Tm) (t:Tm):List Tm:=if inT c t=true then c else c++[t]
structure DC (n q:Nat) (c:List Tm):Prop where
 len:c.length<=n
 all:∀t∈c,DT q t
theorem DC.add {n q:Nat} {c:List Tm} {t:Tm} (h:DC n q c) (ht:DT q t):DC (n+1) q (xz c t):=by
 unfold xz;split
 ·exact ⟨Nat.le_succ_of_le h.len,h.all⟩
 ·refine ⟨by have:=h.len;simp;omega,fun x hx=>?_⟩
  rcases B0.1 hx with hx|hx
  ·exact h.all x hx
  ·simp only [B8] at hx;subst hx;exact ht
theorem DC.okc {n q:Nat} {c:List Tm} (h:DC n q c) (hq:q<=3000):Um c:=fun t ht=>(h.all t ht).okt hq
section
variable {nat:Nat->List V->Option (List V)}
theorem x12 (s:ByteArray):bq (T nat).G 12 [.v (.one (cs s))] []=some ([.agg [cs dw,cs s]],[]):=by rw [aQ amo];simp [t12,zS]
theorem x52 (s:ByteArray) (ts:List Tm):bq (T nat).G 52 [.v (.one (cs s)),.v (.one (rows aa ts))] []=some ([.agg (aa (.app dw s ts))],[]):=by rw [aQ ame];simp [t52,zS,x80,x54,af]
theorem RY (s:ByteArray) (ts:List Tm):bq (T nat).G 18 [.v (.one (cs s)),.v (.one (rows aa ts))] []=some ([.agg (aa (.app dw s ts))],[]):=by rw [aQ ami];simp [t18,zS,x52,af]
theorem akk (s:ByteArray):bq (T nat).G 13 [.v (.one (cs s))] []=some ([.agg [cs usr,cs s]],[]):=x13 s
theorem x19 (s:ByteArray):bq (T nat).G 19 [.v (.one (cs s))] []=some ([.agg (aa (.var usr s))],[]):=by rw [aQ akB];simp [t19,zS,akk,x53,af]
theorem aos (t:Tm):fK 11 1 (aa t)=some (rows aa [t]):=by simp [fK,af,bg,rows]
theorem x41 (c:List Tm) (hm:c.length < 1000) (hk:Um c) (t:Tm):bq (T nat).G 41 [.v (.one (rows aa c)),.v (.one (rows aa [t]))] []=some ([.one (rows aa (xz c t))],[]):=by
 have hl1:jk false (rows aa [t])=some (ci 1):=rfl;have hs:bW .add false (ci c.length) (ci 1)=some (ci ((c.length+1:Nat):Int)):=bn _ (by omega)
 have hmk:mkC 11 176 [.int .i64 0,.string ⟨#[]⟩,.string ⟨#[]⟩,.int .i64 0,.string ⟨#[]⟩,.string ⟨#[]⟩,.string ⟨#[]⟩,.string ⟨#[]⟩,.string ⟨#[]⟩,.slice none 0 0,.slice none 0 0] (ci 0) (ci ((c.length+1:Nat):Int))=some cz:=by
  simp only [mkC,ci];rw [C6 ⟨by omega,by omega,by simp only [Int.toNat_natCast,bg];omega,by simp only [Int.toNat_natCast,bg];omega,rfl,by decide⟩]
  rfl
 have happ:Fq 11 176 (rows aa c) cz=some (rows aa c):=by
  have h1:(c.flatMap aa).length=c.length * 11:=yU af c;simp only [Fq,cz,rows,LB];rw [C6 h1];simp only [A4];rw [C6 ⟨h1,rfl,by simp only [bg];omega,by decide,by simp only [bg];omega⟩]
  simp
 have hs0:bW .add false (ci 0) (ci 1)=some (ci 1):=gN (by omega) (by omega)
 have hrow:fI 11 (rows aa [t]) (ci 0)=some (aa t):=jd (ts:=[t]) (k:=0) (by simp)
 have arE:=BB (acc:=c) (x:=t) (by omega)
 have hc:=x107 (nat:=nat) c (by omega) hk t
 have e1:∀c':List Tm,bR (T nat).G 41 0 [.c (rows aa [t]),.c (ci 1),.c (rows aa c')]=some ([.one (rows aa c')],[]):=fun c'=>by rw [aF XG (t:=t41.heads[0]) rfl];simp [t41,zZ,hl1]
 have e0:bR (T nat).G 41 0 [.c (rows aa [t]),.c (ci 0),.c (rows aa c)]=some ([.one (rows aa (xz c t))],[]):=by rw [aF XG (t:=t41.heads[0]) rfl];cases hb:inT c t<;>rw [hb] at hc<;>simp [t41,zZ,hl1,hrow,hc,hs0,e1,ku,arE,xz,hb,af]
 rw [aQ XG];simp only [t41];simp [-Int.natCast_add,zZ,wm,hl1,hs,hmk,happ,e0]
end
end Go.Ey.Pr
end
