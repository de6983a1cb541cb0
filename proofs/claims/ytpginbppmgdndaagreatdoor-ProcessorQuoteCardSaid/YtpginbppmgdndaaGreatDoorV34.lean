/- ProcessorQuote: for every input the law returns true, and its argument reads as before. No condition beyond the card's own tables. -/
import Derived.Test.YtpginbppmgdndaaGreatDoorV33
import Derived.Test.YtpginbppmgdndaaGreatDoorCards
import Derived.SevenTiedAt
import Derived.JoinedOf
import Derived.KernelRfl
import Derived.Test.YtpginbppmgdndaaGreatDoorTie
set_option linter.all false
set_option maxHeartbeats 4000000
namespace Go.Ey.Pr
open Go.Ey Go.Ey.Seat
def isAr:Ans→Bool
 |.ret [.c (.i .i64 (.ofNat a)),.c (.b _)] []=>a≤3
 |_=>false
theorem isAr_eq {x:Ans} (h:isAr x=true):∃(a:Nat) (b:Bool),a≤3∧x=.ret [.c (.i .i64 (.ofNat a)),.c (.b b)] []:=by
 unfold isAr at h
 split at h
 ·exact ⟨_,_,by simpa using h,rfl⟩
 ·cases h
noncomputable def run78l:Bool:=heads.all fun s=>isAr ((krun kgD 3000).fn 78 [.c wlK,.l 2 [kS lispB,kS s]] [])
theorem run78l_ok:run78l=true:=by kernel_rfl
noncomputable def run78o:Bool:=owns.all fun s=>isAr ((krun kgD 3000).fn 78 [.c wlK,.l 2 [kS usr,kS s]] [])
theorem run78o_ok:run78o=true:=by kernel_rfl
theorem head_in {s:ByteArray} (h:s∈heads):Ob.sy lispB s∈atoms:=
 List.mem_append_right _ (List.mem_append_left _ (List.mem_map.2 ⟨s,List.mem_cons_of_mem _ h,rfl⟩))
theorem quo_in:Ob.sy lispB quoB∈atoms:=
 List.mem_append_right _ (List.mem_append_left _ (List.mem_map.2 ⟨quoB,List.mem_cons_self,rfl⟩))
theorem own_in {s:ByteArray} (h:s∈(⟨#[120]⟩::⟨#[121]⟩::⟨#[122]⟩::owns:List ByteArray)):Ob.sy usr s∈atoms:=
 List.mem_append_right _ (List.mem_append_right _ (List.mem_map.2 ⟨s,h,rfl⟩))
theorem head_nq {s:ByteArray} (h:s∈heads):(decide (lispB=lispB) && decide (s=quoB))=false:=by
 have:=List.all_eq_true.1 (show (heads.all fun s=>!decide (s=quoB))=true from by decide+kernel) s h
 simpa using this
theorem own_nq (s:ByteArray):(decide (usr=lispB) && decide (s=quoB))=false:=by
 rw [show decide (usr=lispB)=false from by decide+kernel,Bool.false_and]
def xyz (r:Int):ByteArray:=if r=0 then ⟨#[120]⟩ else if r=1 then ⟨#[121]⟩ else ⟨#[122]⟩
theorem xyz_ok {r:Int} (h1:0≤r) (h2:r < 3):((sstrC (some (ci r)) none (cs ⟨#[120,121,122]⟩)).bind fun c=>sstrC none (some (ci 1)) c)=some (cs (xyz r)):=by
 have h:r=0∨r=1∨r=2:=by omega
 rcases h with rfl|rfl|rfl<;>rfl
theorem dt_xyz {r:Int} (h1:0≤r) (h2:r < 3):DT 1 1 (.var usr (xyz r)):=by
 have h:r=0∨r=1∨r=2:=by omega
 rcases h with rfl|rfl|rfl<;>exact dt_var (own_in (by simp [xyz])) (by decide+kernel)
def enS (s:ByteArray):List C:=[cs s]
theorem enS_len (s:ByteArray):(enS s).length=1:=rfl
theorem rowS {l:List ByteArray} {k:Nat} (h:k < l.length):rowC 1 (rows enS l) (ci k)=some (enS l[k]):=row_at (f:=enS) enS_len (List.getElem?_eq_getElem h)
def QT:Nat→Nat
 |0=>11
 |d+1=>3 * (QT d+1)+3
theorem QT_pos:∀d,11≤QT d
 |0=>Nat.le_refl _
 |d+1=>by have:=QT_pos d;simp only [QT];omega
theorem lits22 (t u:Tm):litsC 11 2 [nthC (encT t) 0,nthC (encT t) 1,nthC (encT t) 2,nthC (encT t) 3,nthC (encT t) 4,nthC (encT t) 5,nthC (encT t) 6,nthC (encT t) 7,nthC (encT t) 8,nthC (encT t) 9,nthC (encT t) 10,nthC (encT u) 0,nthC (encT u) 1,nthC (encT u) 2,nthC (encT u) 3,nthC (encT u) 4,nthC (encT u) 5,nthC (encT u) 6,nthC (encT u) 7,nthC (encT u) 8,nthC (encT u) 9,nthC (encT u) 10]=some (rows encT [t,u]):=by
 have h:∀{a b:List C},a=encT t→b=encT u→litsC 11 2 (a++b)=some (rows encT [t,u]):=by
  rintro _ _ rfl rfl
  simp [litsC,encT_len,roomMax,rows]
 exact h (nth11 t) (nth11 u)
theorem lits11r (t:Tm):litsC 11 1 [nthC (encT t) 0,nthC (encT t) 1,nthC (encT t) 2,nthC (encT t) 3,nthC (encT t) 4,nthC (encT t) 5,nthC (encT t) 6,nthC (encT t) 7,nthC (encT t) 8,nthC (encT t) 9,nthC (encT t) 10]=some (rows encT [t]):=by
 rw [nth11,one11]
section
variable {nat:Nat→List V→Option (List V)}
theorem psig78:(T nat).psig 78=some [.one,.agg 2]:=by kernel_rfl
theorem f78 (hn:NatI nat) {cw:C} (hw:RK wlK cw) {m:Nat} {p s:ByteArray} (h:isAr ((krun kgD m).fn 78 [.c wlK,.l 2 [kS p,kS s]] [])=true):∃(a:Nat) (c:C),a≤3∧fnT (T nat).G 78 [.v (.one cw),.v (.agg [cs p,cs s])] []=some ([.one (ci a),.one c],[]):=by
 obtain ⟨a,b,ha,e⟩:=isAr_eq h
 obtain ⟨c,d,b1,b2,e2⟩:=kc2 hn psig78 (ts:=[.v (.one (.v 0)),.v (.agg (.all 0))]) rfl (ys:=[.c wlK,.l 2 [kS p,kS s]]) (us:=[.v (.one cw),.v (.agg [cs p,cs s])]) ⟨hw,⟨RKs.cons (rkS p) (RKs.cons (rkS s) RKs.nil),rfl⟩,trivial⟩ e
 rw [b1.int] at e2
 exact ⟨a,d,ha,e2⟩
theorem x134:fnT (T nat).G 134 [] []=some ([.one (rows enS heads)],[]):=by
 rw [fnT_eq tree134]
 rfl
theorem x135:fnT (T nat).G 135 [] []=some ([.one (rows enS owns)],[]):=by
 rw [fnT_eq tree135]
 rfl
theorem x118 (bs:List UInt8) (pos:Nat) (hb:bs.length≤80) (hp:pos≤bs.length):
  ∃(t:Tm) (pos':Nat),fnT (T nat).G 118 [.ref 0 0] [bx bs pos]=some ([.agg (encT t)],[bx bs pos'])∧DT 1 1 t∧pos'≤bs.length:=by
 obtain ⟨r,p1,h8,r0,r1,hp1⟩:=x8 (nat:=nat) bs pos hb hp 3 (by omega)
 obtain ⟨c,hc,hw⟩:=Option.bind_eq_some_iff.1 (xyz_ok r0 r1)
 refine ⟨_,p1,?_,dt_xyz r0 r1,hp1⟩
 rw [fnT_eq tree118]
 simp [t118,zS,h8,hc,hw,x29,bx_len,encT_len]
variable {B B1 B2 B3 B4:List C} {cw:C} {d r:Int}
theorem x117v (l0:B.length=2) (l1:B1.length=2) (l2:B2.length=2) {t:Tm} (hr:r < 3) (h8:fnT (T nat).G 8 [.ref 0 0,.v (.one (ci 12))] [B]=some ([.one (ci r)],[B1])) (h1:fnT (T nat).G 118 [.ref 0 0] [B1]=some ([.agg (encT t)],[B2])):
  fnT (T nat).G 117 [.ref 0 0,.v (.one cw),.v (.one (ci d))] [B]=some ([.agg (encT t)],[B2]):=by
 have h3:¬3 < r:=by omega
 rw [fnT_eq utree117]
 by_cases hd:d < 1<;>simp [u117,u117_9,u117_14,zS,h8,hd,h3,hr,h1,l0,l1,l2,encT_len]
theorem x117w (l0:B.length=2) (l1:B1.length=2) (l2:B2.length=2) {t:Tm} (hd:d < 1) (hr:3 < r) (hm:r.tmod 4 < 3) (h8:fnT (T nat).G 8 [.ref 0 0,.v (.one (ci 12))] [B]=some ([.one (ci r)],[B1])) (h1:fnT (T nat).G 118 [.ref 0 0] [B1]=some ([.agg (encT t)],[B2])):
  fnT (T nat).G 117 [.ref 0 0,.v (.one cw),.v (.one (ci d))] [B]=some ([.agg (encT t)],[B2]):=by
 have hq:binC .rem false (ci r) (ci 4)=some (ci (r.tmod 4)):=rem_ci (by omega)
 rw [fnT_eq utree117]
 simp [u117,u117_8,zS,h8,hd,hr,hq,hm,h1,l0,l1,l2,encT_len]
theorem x117c (l0:B.length=2) (l1:B1.length=2) (l2:B2.length=2) {o:Ob} (h8:fnT (T nat).G 8 [.ref 0 0,.v (.one (ci 12))] [B]=some ([.one (ci 3)],[B1])) (h1:fnT (T nat).G 16 [.ref 0 0,.v (.one (ci 1))] [B1]=some ([.agg (enc o)],[B2])):
  fnT (T nat).G 117 [.ref 0 0,.v (.one cw),.v (.one (ci d))] [B]=some ([.agg (encT (.con o))],[B2]):=by
 rw [fnT_eq utree117]
 by_cases hd:d < 1<;>simp [u117,u117_9,u117_6,u117_14,u117_12,zS,h8,hd,h1,x83,l0,l1,l2,encT_len,enc_len]
theorem x117k (l0:B.length=2) (l1:B1.length=2) (l2:B2.length=2) {o:Ob} (hd:d < 1) (hr:3 < r) (hm:r.tmod 4=3) (h8:fnT (T nat).G 8 [.ref 0 0,.v (.one (ci 12))] [B]=some ([.one (ci r)],[B1])) (h1:fnT (T nat).G 16 [.ref 0 0,.v (.one (ci 1))] [B1]=some ([.agg (enc o)],[B2])):
  fnT (T nat).G 117 [.ref 0 0,.v (.one cw),.v (.one (ci d))] [B]=some ([.agg (encT (.con o))],[B2]):=by
 have hq:binC .rem false (ci r) (ci 4)=some (ci 3):=by rw [rem_ci (by omega),hm]
 rw [fnT_eq utree117]
 simp [u117,u117_8,u117_2,zS,h8,hd,hr,hq,h1,x83,l0,l1,l2,encT_len,enc_len]
theorem x117h (l0:B.length=2) (l1:B1.length=2) (l2:B2.length=2) (l3:B3.length=2) {q n:Int} {k:Nat} {x:C} {L M:List ByteArray} (e1:fnT (T nat).G 134 [] []=some ([.one (rows enS L)],[])) (e2:fnT (T nat).G 135 [] []=some ([.one (rows enS M)],[])) (hd:¬d < 1) (hr:3 < r) (hq:q < 3) (hk:k < L.length) (h8:fnT (T nat).G 8 [.ref 0 0,.v (.one (ci 12))] [B]=some ([.one (ci r)],[B1])) (h8a:fnT (T nat).G 8 [.ref 0 0,.v (.one (ci 4))] [B1]=some ([.one (ci q)],[B2])) (h8b:fnT (T nat).G 8 [.ref 0 0,.v (.one (ci L.length))] [B2]=some ([.one (ci k)],[B3]))
  (ha:fnT (T nat).G 78 [.v (.one cw),.v (.agg [cs lispB,cs L[k]])] []=some ([.one (ci n),.one x],[])):
  fnT (T nat).G 117 [.ref 0 0,.v (.one cw),.v (.one (ci d))] [B]=hdT (T nat).G 117 0 [.c cw,.c (ci d),.c (ci n),.c (ci 0),.l B3,.c (ci 0),.c ce,.c ce,.c (ci 0),.c ce,.c ce,.c ce,.c ce,.c ce,.c cz,.c cz,.l [cs lispB,cs L[k]],.c cz]:=by
 have h3:¬r < 3:=by omega
 have h4:(r==3)=false:=beq_eq_false_iff_ne.2 (by omega)
 have hl:lenC false (rows enS L)=some (ci L.length):=rfl
 have hx:nthC (enS L[k]) 0=cs L[k]:=rfl
 rw [fnT_eq utree117]
 simp (config := { maxSteps := 2000000 }) [u117,u117_14,u117_13,u117_10,zZ,h8,hd,h3,h4,e1,e2,h8a,hq,hl,h8b,rowS hk,hx,x20,ha,l0,l1,l2,l3,enS_len]
theorem x117o (l0:B.length=2) (l1:B1.length=2) (l2:B2.length=2) (l3:B3.length=2) {q n:Int} {k:Nat} {x:C} {L M:List ByteArray} (e1:fnT (T nat).G 134 [] []=some ([.one (rows enS L)],[])) (e2:fnT (T nat).G 135 [] []=some ([.one (rows enS M)],[])) (hd:¬d < 1) (hr:3 < r) (hq:¬q < 3) (hk:k < M.length) (h8:fnT (T nat).G 8 [.ref 0 0,.v (.one (ci 12))] [B]=some ([.one (ci r)],[B1])) (h8a:fnT (T nat).G 8 [.ref 0 0,.v (.one (ci 4))] [B1]=some ([.one (ci q)],[B2])) (h8b:fnT (T nat).G 8 [.ref 0 0,.v (.one (ci M.length))] [B2]=some ([.one (ci k)],[B3]))
  (ha:fnT (T nat).G 78 [.v (.one cw),.v (.agg [cs usr,cs M[k]])] []=some ([.one (ci n),.one x],[])):
  fnT (T nat).G 117 [.ref 0 0,.v (.one cw),.v (.one (ci d))] [B]=hdT (T nat).G 117 0 [.c cw,.c (ci d),.c (ci n),.c (ci 0),.l B3,.c (ci 0),.c ce,.c ce,.c (ci 0),.c ce,.c ce,.c ce,.c ce,.c ce,.c cz,.c cz,.l [cs usr,cs M[k]],.c cz]:=by
 have h3:¬r < 3:=by omega
 have h4:(r==3)=false:=beq_eq_false_iff_ne.2 (by omega)
 have hl:lenC false (rows enS M)=some (ci M.length):=rfl
 have hx:nthC (enS M[k]) 0=cs M[k]:=rfl
 rw [fnT_eq utree117]
 simp (config := { maxSteps := 2000000 }) [u117,u117_14,u117_13,u117_11,zZ,h8,hd,h3,h4,e1,e2,h8a,hq,hl,h8b,rowS hk,hx,x19u,ha,l0,l1,l2,l3,enS_len]
end
end Go.Ey.Pr

set_option maxHeartbeats 4000000
namespace Go.Ey.Pr
open Go.Ey Go.Ey.Seat
section
variable {nat:Nat→List V→Option (List V)}
def DrawT (nat:Nat→List V→Option (List V)) (bs:List UInt8) (cw:C) (d:Nat):Prop:=
 ∀pos,pos≤bs.length→∃(t:Tm) (pos':Nat),fnT (T nat).G 117 [.ref 0 0,.v (.one cw),.v (.one (ci d))] [bx bs pos]=some ([.agg (encT t)],[bx bs pos'])∧DT (QT d) (d+3) t∧pos'≤bs.length
theorem x117loop (bs:List UInt8) (cw:C) (d:Nat) (hd:d < 100) (ih:DrawT nat bs cw d) (p s:ByteArray) (n:Nat) (hn:n≤3):∀(m i:Nat) (acc:List Tm) (pos:Nat),i+m=n→acc.length=i→(∀x∈acc,DT (QT d) (d+3) x)→pos≤bs.length→
  ∃(l:List Tm) (pos':Nat),hdT (T nat).G 117 0 [.c cw,.c (ci ((d+1:Nat):Int)),.c (ci n),.c (ci i),.l (bx bs pos),.c (ci 0),.c ce,.c ce,.c (ci 0),.c ce,.c ce,.c ce,.c ce,.c ce,.c cz,.c cz,.l [cs p,cs s],.c (rows encT acc)]=some ([.agg (encT (.app p s l))],[bx bs pos'])∧l.length=n∧(∀x∈l,DT (QT d) (d+3) x)∧pos'≤bs.length
 |0,i,acc,pos,hi,hc,ha,hp=>by
  have hlt:¬((i:Int) < (n:Int)):=by omega
  refine ⟨acc,pos,?_,by omega,ha,hp⟩
  rw [hdT_eq utree117 (t:=hh117[0]) rfl]
  simp [hh117,zZ,hlt,x72,bx_len,encT_len]
 |m+1,i,acc,pos,hi,hc,ha,hp=>by
  have hlt:((i:Int) < (n:Int)):=by omega
  obtain ⟨t,pos1,h1,h2,h3⟩:=ih pos hp
  obtain ⟨l,pos2,g1,g2,g3,g4⟩:=x117loop bs cw d hd ih p s n hn m (i+1) (acc++[t]) pos1 (by omega) (by simp [hc]) (fun x hx=>by
   rcases List.mem_append.1 hx with h|h
   ·exact ha x h
   ·simp only [List.mem_singleton] at h;subst h;exact h2) h3
  refine ⟨l,pos2,?_,g2,g3,g4⟩
  have hs:binC .sub false (ci ((d+1:Nat):Int)) (ci 1)=some (ci (d:Int)):=by
   rw [sub_ci (by omega) (by omega)]
   exact congrArg (fun x=>some (ci x)) (by omega)
  have hap:=app11 (acc:=acc) (x:=t) (by omega)
  have hs2:=add_nat i (by omega)
  rw [hdT_eq utree117 (t:=hh117[0]) rfl]
  simp [-Int.natCast_add,hh117,zZ,hlt,hs,h1,lits11,hap,hs2,g1,bx_len,encT_len]
theorem dt_obj {o:Ob} {d:Nat} (h:Dr 1 o):DT (QT d) (d+3) (.con o):=by
 have h1:=dt_con (o:=o) (q:=7) (d:=2) h.1 h.2.1 h.2.2 (by omega) quo_in
 exact h1.mono (by have:=QT_pos d;omega) (by omega)
theorem dt_v {t:Tm} {d:Nat} (h:DT 1 1 t):DT (QT d) (d+3) t:=h.mono (by have:=QT_pos d;omega) (by omega)
theorem dt_ap {p s:ByteArray} {l:List Tm} {d:Nat} (hs: .sy p s∈atoms) (hn:(decide (p=lispB) && decide (s=quoB))=false) (hl:l.length≤3) (h:∀t∈l,DT (QT d) (d+3) t):DT (QT (d+1)) (d+1+3) (.app p s l):=by
 have h1:=dt_app hs hn hl h (by omega)
 refine h1.mono ?_ (by omega)
 have:=Nat.mul_le_mul_right (QT d+1) hl
 simp only [QT]
 omega
theorem x117 (na:NumsOK nat) (hi:NatI nat) {cw:C} (hw:RK wlK cw) (bs:List UInt8) (hb:bs.length≤80):∀d:Nat,d < 100→DrawT nat bs cw d:=by
 intro d
 induction d with
 |zero=>
  intro _ pos hp
  obtain ⟨r,p1,h8,r0,r1,hp1⟩:=x8 (nat:=nat) bs pos hb hp 12 (by omega)
  obtain ⟨v,p2,hv,dv,hp2⟩:=x118 (nat:=nat) bs p1 hb hp1
  obtain ⟨o,p3,ho,dro,hp3⟩:=x16 (nat:=nat) na bs hb 1 (by omega) p1 hp1
  have hd:((0:Nat):Int) < 1:=by omega
  by_cases h3:r < 3
  ·exact ⟨v,p2,x117v rfl rfl rfl h3 h8 hv,dt_v dv,hp2⟩
  ·by_cases h4:r=3
   ·subst h4
    exact ⟨.con o,p3,x117c rfl rfl rfl h8 ho,dt_obj dro,hp3⟩
   ·have hm0:0≤r.tmod 4:=Int.tmod_nonneg _ (by omega)
    have hm1:r.tmod 4 < 4:=Int.tmod_lt_of_pos _ (by omega)
    by_cases h5:r.tmod 4 < 3
    ·exact ⟨v,p2,x117w rfl rfl rfl hd (by omega) h5 h8 hv,dt_v dv,hp2⟩
    ·exact ⟨.con o,p3,x117k rfl rfl rfl hd (by omega) (by omega) h8 ho,dt_obj dro,hp3⟩
 |succ d ih=>
  intro hd' pos hp
  have ih:=ih (by omega)
  obtain ⟨r,p1,h8,r0,r1,hp1⟩:=x8 (nat:=nat) bs pos hb hp 12 (by omega)
  have hd:¬((d+1:Nat):Int) < 1:=by omega
  by_cases h3:r < 3
  ·obtain ⟨v,p2,hv,dv,hp2⟩:=x118 (nat:=nat) bs p1 hb hp1
   exact ⟨v,p2,x117v rfl rfl rfl h3 h8 hv,dt_v dv,hp2⟩
  ·by_cases h4:r=3
   ·subst h4
    obtain ⟨o,p3,ho,dro,hp3⟩:=x16 (nat:=nat) na bs hb 1 (by omega) p1 hp1
    exact ⟨.con o,p3,x117c rfl rfl rfl h8 ho,dt_obj dro,hp3⟩
   ·obtain ⟨q,p2,h8a,q0,q1,hp2⟩:=x8 (nat:=nat) bs p1 hb hp1 4 (by omega)
    by_cases h5:q < 3
    ·obtain ⟨k,p3,h8b,k0,k1,hp3⟩:=x8 (nat:=nat) bs p2 hb hp2 (heads.length:Nat) (by decide)
     obtain ⟨k,rfl⟩:=Int.eq_ofNat_of_zero_le k0
     have hk:k < heads.length:=by omega
     obtain ⟨n,x,hn,ha⟩:=f78 hi hw (List.all_eq_true.1 run78l_ok heads[k] (List.getElem_mem hk))
     have e:=x117h rfl rfl rfl rfl x134 x135 hd (by omega) h5 hk h8 h8a h8b ha
     obtain ⟨l,p4,g1,g2,g3,g4⟩:=x117loop bs cw d (by omega) ih lispB heads[k] n hn n 0 [] p3 (by omega) rfl (fun x hx=>by cases hx) hp3
     exact ⟨_,p4,e.trans g1,dt_ap (head_in (List.getElem_mem hk)) (head_nq (List.getElem_mem hk)) (by omega) g3,g4⟩
    ·obtain ⟨k,p3,h8b,k0,k1,hp3⟩:=x8 (nat:=nat) bs p2 hb hp2 (owns.length:Nat) (by decide)
     obtain ⟨k,rfl⟩:=Int.eq_ofNat_of_zero_le k0
     have hk:k < owns.length:=by omega
     obtain ⟨n,x,hn,ha⟩:=f78 hi hw (List.all_eq_true.1 run78o_ok owns[k] (List.getElem_mem hk))
     have e:=x117o rfl rfl rfl rfl x134 x135 hd (by omega) h5 hk h8 h8a h8b ha
     obtain ⟨l,p4,g1,g2,g3,g4⟩:=x117loop bs cw d (by omega) ih usr owns[k] n hn n 0 [] p3 (by omega) rfl (fun x hx=>by cases hx) hp3
     exact ⟨_,p4,e.trans g1,dt_ap (own_in (by simp [List.getElem_mem hk])) (own_nq _) (by omega) g3,g4⟩
def notB:ByteArray:=⟨#[110,111,116]⟩
def equB:ByteArray:=⟨#[101,113,117,97,108]⟩
def cspB:ByteArray:=⟨#[99,111,110,115,112]⟩
def lssB:ByteArray:=⟨#[60]⟩
theorem in_not:notB∈heads:=by simp [heads,notB]
theorem in_equ:equB∈heads:=by simp [heads,equB]
theorem in_csp:cspB∈heads:=by simp [heads,cspB]
theorem in_lss:lssB∈heads:=by simp [heads,lssB]
theorem dt_not {t:Tm} {q d:Nat} (h:DT q d t) (hd:1≤d):DT (q+4) (d+1) (.app lispB notB [t]):=by
 have h1:=dt_app (p:=lispB) (s:=notB) (ts:=[t]) (head_in in_not) (head_nq in_not) (by simp) (fun x hx=>by simp only [List.mem_singleton] at hx;subst hx;exact h) hd
 exact h1.mono (by simp) (Nat.le_refl _)
theorem dt_two {s:ByteArray} (hs:s∈heads) {t u:Tm} {q d:Nat} (h:DT q d t) (h2:DT q d u) (hd:1≤d):DT (2 * (q+1)+3) (d+1) (.app lispB s [t,u]):=
 dt_app (ts:=[t,u]) (head_in hs) (head_nq hs) (by simp) (fun x hx=>by
  simp only [List.mem_cons,List.mem_nil_iff,or_false] at hx
  rcases hx with rfl|rfl
  ·exact h
  ·exact h2) hd
variable {B B1 B2 B3 B4:List C} {cw:C} {d:Int} {t u:Tm}
theorem x37n (l0:B.length=2) (l1:B1.length=2) (l2:B2.length=2) {r:Int} (hr:r=0∨r=1) (h1:fnT (T nat).G 117 [.ref 0 0,.v (.one cw),.v (.one (ci d))] [B]=some ([.agg (encT t)],[B1])) (h8:fnT (T nat).G 8 [.ref 0 0,.v (.one (ci 8))] [B1]=some ([.one (ci r)],[B2])):
  fnT (T nat).G 37 [.ref 0 0,.v (.one cw),.v (.one (ci d))] [B]=some ([.agg (encT (.app lispB notB [t]))],[B2]):=by
 rw [fnT_eq utree37]
 rcases hr with rfl|rfl<;>simp [u37,u37_7,u37_5,zS,h1,h8,lits11r,x30,l0,l1,l2,encT_len]<;>rfl
theorem x37e (l0:B.length=2) (l1:B1.length=2) (l2:B2.length=2) (l3:B3.length=2) (hd:-1000 < d∧d < 1000) {r:Int} (hr:r=2∨r=4) (h1:fnT (T nat).G 117 [.ref 0 0,.v (.one cw),.v (.one (ci d))] [B]=some ([.agg (encT t)],[B1])) (h8:fnT (T nat).G 8 [.ref 0 0,.v (.one (ci 8))] [B1]=some ([.one (ci r)],[B2])) (h2:fnT (T nat).G 117 [.ref 0 0,.v (.one cw),.v (.one (ci (d - 1)))] [B2]=some ([.agg (encT u)],[B3])):
  fnT (T nat).G 37 [.ref 0 0,.v (.one cw),.v (.one (ci d))] [B]=some ([.agg (encT (if r=2 then .app lispB notB [.app lispB equB [t,u]] else .app lispB equB [t,u]))],[B3]):=by
 have hs:binC .sub false (ci d) (ci 1)=some (ci (d - 1)):=sub_ci (by omega) (by omega)
 rw [fnT_eq utree37]
 rcases hr with rfl|rfl<;>simp (config := { maxSteps := 3000000 }) [u37,u37_6,u37_4,u37_3,u37_1,zS,h1,h8,hs,h2,lits22,lits11r,x30,l0,l1,l2,l3,encT_len]<;>rfl
theorem x37c (l0:B.length=2) (l1:B1.length=2) (l2:B2.length=2) (l3:B3.length=2) (h1:fnT (T nat).G 117 [.ref 0 0,.v (.one cw),.v (.one (ci d))] [B]=some ([.agg (encT t)],[B1])) (h8:fnT (T nat).G 8 [.ref 0 0,.v (.one (ci 8))] [B1]=some ([.one (ci 3)],[B2])) (h2:fnT (T nat).G 118 [.ref 0 0] [B2]=some ([.agg (encT u)],[B3])):
  fnT (T nat).G 37 [.ref 0 0,.v (.one cw),.v (.one (ci d))] [B]=some ([.agg (encT (.app lispB notB [.app lispB cspB [u]]))],[B3]):=by
 rw [fnT_eq utree37]
 simp (config := { maxSteps := 3000000 }) [u37,u37_6,u37_2,zS,h1,h8,h2,lits11r,x30,l0,l1,l2,l3,encT_len]
 rfl
theorem x37l (l0:B.length=2) (l1:B1.length=2) (l2:B2.length=2) (l3:B3.length=2) (l4:B4.length=2) (hd:-1000 < d∧d < 1000) {v:Tm} (h1:fnT (T nat).G 117 [.ref 0 0,.v (.one cw),.v (.one (ci d))] [B]=some ([.agg (encT t)],[B1])) (h8:fnT (T nat).G 8 [.ref 0 0,.v (.one (ci 8))] [B1]=some ([.one (ci 5)],[B2])) (h2:fnT (T nat).G 118 [.ref 0 0] [B2]=some ([.agg (encT v)],[B3])) (h3:fnT (T nat).G 117 [.ref 0 0,.v (.one cw),.v (.one (ci (d - 1)))] [B3]=some ([.agg (encT u)],[B4])):
  fnT (T nat).G 37 [.ref 0 0,.v (.one cw),.v (.one (ci d))] [B]=some ([.agg (encT (.app lispB notB [.app lispB lssB [v,u]]))],[B4]):=by
 have hs:binC .sub false (ci d) (ci 1)=some (ci (d - 1)):=sub_ci (by omega) (by omega)
 rw [fnT_eq utree37]
 simp (config := { maxSteps := 3000000 }) [u37,u37_6,u37_3,u37_0,zS,h1,h8,hs,h2,h3,lits22,lits11r,x30,l0,l1,l2,l3,l4,encT_len]
 rfl
theorem x37t (l0:B.length=2) (l1:B1.length=2) (l2:B2.length=2) {r:Int} (hr:r=6∨r=7) (h1:fnT (T nat).G 117 [.ref 0 0,.v (.one cw),.v (.one (ci d))] [B]=some ([.agg (encT t)],[B1])) (h8:fnT (T nat).G 8 [.ref 0 0,.v (.one (ci 8))] [B1]=some ([.one (ci r)],[B2])):
  fnT (T nat).G 37 [.ref 0 0,.v (.one cw),.v (.one (ci d))] [B]=some ([.agg (encT t)],[B2]):=by
 rw [fnT_eq utree37]
 rcases hr with rfl|rfl<;>simp (config := { maxSteps := 3000000 }) [u37,u37_6,u37_3,zS,h1,h8,l0,l1,l2,encT_len]
theorem x37 (na:NumsOK nat) (hi:NatI nat) {cw:C} (hw:RK wlK cw) (bs:List UInt8) (hb:bs.length≤80) (pos:Nat) (hp:pos≤bs.length):
  ∃(t:Tm) (pos':Nat),fnT (T nat).G 37 [.ref 0 0,.v (.one cw),.v (.one (ci 2))] [bx bs pos]=some ([.agg (encT t)],[bx bs pos'])∧DT 255 10 t∧pos'≤bs.length:=by
 obtain ⟨t,p1,h1,dt,hp1⟩:=x117 na hi hw bs hb 2 (by omega) pos hp
 obtain ⟨r,p2,h8,r0,r1,hp2⟩:=x8 (nat:=nat) bs p1 hb hp1 8 (by omega)
 have dt':DT 123 5 t:=dt
 have h1':fnT (T nat).G 117 [.ref 0 0,.v (.one cw),.v (.one (ci 2))] [bx bs pos]=some ([.agg (encT t)],[bx bs p1]):=h1
 by_cases a:r=0∨r=1
 ·exact ⟨_,p2,x37n rfl rfl rfl a h1' h8,(dt_not dt' (by omega)).mono (by omega) (by omega),hp2⟩
 ·by_cases b:r=2∨r=4
  ·obtain ⟨u,p3,h3,du,hp3⟩:=x117 na hi hw bs hb 1 (by omega) p2 hp2
   have du':DT 123 5 u:=du.mono (by decide) (by decide)
   have d2:=dt_two (s:=equB) in_equ dt' du' (by omega)
   refine ⟨_,p3,x37e rfl rfl rfl rfl (by omega) b h1' h8 h3,?_,hp3⟩
   split
   ·exact (dt_not d2 (by omega)).mono (by omega) (by omega)
   ·exact d2.mono (by omega) (by omega)
  ·by_cases c:r=3
   ·subst c
    obtain ⟨v,p3,h3,dv,hp3⟩:=x118 (nat:=nat) bs p2 hb hp2
    have d1:DT (1 * (1+1)+3) 2 (.app lispB cspB [v]):=dt_app (ts:=[v]) (head_in in_csp) (head_nq in_csp) (by simp) (fun x hx=>by simp only [List.mem_singleton] at hx;subst hx;exact dv) (by omega)
    exact ⟨_,p3,x37c rfl rfl rfl rfl h1' h8 h3,(dt_not d1 (by omega)).mono (by omega) (by omega),hp3⟩
   ·by_cases e:r=5
    ·subst e
     obtain ⟨v,p3,h3,dv,hp3⟩:=x118 (nat:=nat) bs p2 hb hp2
     obtain ⟨u,p4,h4,du,hp4⟩:=x117 na hi hw bs hb 1 (by omega) p3 hp3
     have du':DT 123 5 u:=du.mono (by decide) (by decide)
     have dv':DT 123 5 v:=dv.mono (by decide) (by decide)
     have d2:=dt_two (s:=lssB) in_lss dv' du' (by omega)
     exact ⟨_,p4,x37l rfl rfl rfl rfl rfl (by omega) h1' h8 h3 h4,(dt_not d2 (by omega)).mono (by omega) (by omega),hp4⟩
    ·exact ⟨t,p2,x37t rfl rfl rfl (by omega) h1' h8,dt'.mono (by omega) (by omega),hp2⟩
end
end Go.Ey.Pr

set_option maxHeartbeats 4000000
namespace Go.Ey.Pr
open Go.Ey Go.Ey.Seat
section
variable {nat:Nat→List V→Option (List V)}
theorem x9loop (na:NumsOK nat) (hi:NatI nat) {cw:C} (hw:RK wlK cw) (bs:List UInt8) (hb:bs.length≤80) (n:Nat) (hn:n≤3):∀(m i:Nat) (c:List Tm) (pos:Nat),i+m=n→DC i 255 10 c→pos≤bs.length→
  ∃(c':List Tm) (pos':Nat),hdT (T nat).G 9 0 [.c cw,.c (ci 2),.c (rows encT c),.c (ci n),.c (ci i),.l (bx bs pos)]=some ([.one (rows encT c')],[bx bs pos'])∧DC n 255 10 c'∧pos'≤bs.length
 |0,i,c,pos,hin,hc,hp=>by
  have hlt:¬((i:Int) < (n:Int)):=by omega
  have e:i=n:=by omega
  refine ⟨c,pos,?_,e▸hc,hp⟩
  rw [hdT_eq tree9 (t:=t9.heads[0]) rfl]
  simp [t9,zZ,hlt,bx_len]
 |m+1,i,c,pos,hin,hc,hp=>by
  have hlt:((i:Int) < (n:Int)):=by omega
  obtain ⟨t,p1,h1,dt,hp1⟩:=x37 na hi hw bs hb pos hp
  have hl:=hc.len
  have h36:=x36 (nat:=nat) c (by omega) (hc.okc (by omega) (by omega)) t
  have hs:=add_nat i (by omega)
  obtain ⟨c',p2,g1,g2,g3⟩:=x9loop na hi hw bs hb n hn m (i+1) (addC c t) p1 (by omega) (hc.add dt) hp1
  refine ⟨c',p2,?_,g2,g3⟩
  rw [hdT_eq tree9 (t:=t9.heads[0]) rfl]
  simp [-Int.natCast_add,t9,zZ,hlt,h1,lits11r,h36,hs,g1,bx_len,encT_len]
theorem x9 (na:NumsOK nat) (hi:NatI nat) {cw:C} (hw:RK wlK cw) (bs:List UInt8) (hb:bs.length≤80) (pos:Nat) (hp:pos≤bs.length):
  ∃(c:List Tm) (pos':Nat),fnT (T nat).G 9 [.ref 0 0,.v (.one cw),.v (.one (ci 3)),.v (.one (ci 2))] [bx bs pos]=some ([.one (rows encT c)],[bx bs pos'])∧DC 3 255 10 c∧pos'≤bs.length:=by
 obtain ⟨r,p1,h8,r0,r1,hp1⟩:=x8 (nat:=nat) bs pos hb hp 3 (by omega)
 obtain ⟨k,rfl⟩:=Int.eq_ofNat_of_zero_le r0
 have hs:binC .add false (ci 1) (ci (k:Int))=some (ci ((k+1:Nat):Int)):=by
  rw [add_ci (by omega) (by omega)]
  exact congrArg (fun x=>some (ci x)) (by omega)
 obtain ⟨c,p2,g1,g2,g3⟩:=x9loop na hi hw bs hb (k+1) (by omega) (k+1) 0 [] p1 (by omega) ⟨Nat.le_refl _,(fun t h=>by cases h),rfl⟩ hp1
 rw [rows_nil] at g1
 simp only [Int.natCast_zero] at g1
 refine ⟨c,p2,?_,⟨Nat.le_trans g2.len (by omega),g2.all,g2.val⟩,g3⟩
 rw [fnT_eq tree9]
 simp [-Int.natCast_add,t9,zZ,h8,hs,g1,bx_len]
theorem row_last {l:List Ob} {x:Ob} {i:Nat} (h:l.length=i):rowC 7 (rows enc (l++[x])) (ci (i:Int))=some (enc x):=by
 subst h
 exact row_at enc_len (by simp)
theorem end3 (ha:AtomsOK nat) {cl:List (List Tm)} (hl:cl.length≤3) (h:∀c∈cl,DC 3 255 10 c):
  fnT (T nat).G 14 [.v (.one (rows enc (cl.map quoC)))] []=some ([.agg (enc (listO (cl.map quoC)))],[])∧
  fnT (T nat).G 13 [.v (.agg (enc (listO (cl.map quoC))))] []=some ([.one (rows encC cl),.one (cb true)],[])∧
  fnT (T nat).G 15 [.v (.one (rows encC cl)),.v (.one (rows encC cl))] []=some yes:=by
 have ho:=okl h hl (by omega) (by omega)
 refine ⟨x14 _ (by rw [List.length_map];omega),?_,x15 cl (by omega) fun c hc=>⟨(h c hc).okc (by omega) (by omega),by have:=(h c hc).len;omega⟩⟩
 rw [x13 ha ho,clsO_quo fun c hc=>⟨fun t ht=>⟨((h c hc).all t ht).nq,((h c hc).all t ht).fm⟩,(h c hc).valid (by omega)⟩]
 rfl
theorem x3loop (ha:AtomsOK nat) (na:NumsOK nat) (hi:NatI nat) {cw:C} (hw:RK wlK cw) (bs:List UInt8) (hb:bs.length≤80) (n:Nat) (hn:n≤3):∀(m i:Nat) (cl:List (List Tm)) (pos:Nat),i+m=n→cl.length=i→(∀c∈cl,DC 3 255 10 c)→pos≤bs.length→
  hdT (T nat).G 3 1 [.c (ci n),.c (ci i),.c cw,.l (bx bs pos),.c (rows encC cl),.c (rows enc (cl.map quoC))]=some yes
 |0,i,cl,pos,hin,hc,h,hp=>by
  have hlt:¬((i:Int) < (n:Int)):=by omega
  obtain ⟨e1,e2,e3⟩:=end3 ha (by omega) h
  simp only [yes] at e3
  rw [hdT_eq tree3 (t:=t3.heads[1]) rfl]
  simp [t3,zZ,hlt,e1,e2,e3,enc_len,bx_len,yes]
 |m+1,i,cl,pos,hin,hc,h,hp=>by
  have hlt:((i:Int) < (n:Int)):=by omega
  obtain ⟨c,p1,h9,dc,hp1⟩:=x9 na hi hw bs hb pos hp
  have ok:=dc.okc (by omega) (by omega)
  have hcl:=dc.len
  have h10:=x10 (nat:=nat) c (by omega) ok
  have h12:=x12 (nat:=nat) c (by omega) ok
  have h11:=x11 (nat:=nat) (quoC c) (quoC c)
  rw [eqO_refl] at h11
  have ha1:=app1 (acc:=cl) (x:=c) (by omega)
  have ha7:=app7 (acc:=cl.map quoC) (x:=quoC c) (by rw [List.length_map];omega)
  have hr:=row_last (l:=cl.map quoC) (x:=quoC c) (i:=i) (by rw [List.length_map];exact hc)
  have hs:=add_nat i (by omega)
  have hg:=x3loop ha na hi hw bs hb n hn m (i+1) (cl++[c]) p1 (by omega) (by simp [hc]) (fun x hx=>by
   rcases List.mem_append.1 hx with hx|hx
   ·exact h x hx
   ·simp only [List.mem_singleton] at hx;subst hx;exact dc) hp1
  rw [List.map_append,List.map_cons,List.map_nil] at hg
  rw [hdT_eq tree3 (t:=t3.heads[1]) rfl]
  simp (config := { maxSteps := 3000000 }) [-Int.natCast_add,-List.map_append,t3,zZ,hlt,h9,lits1,ha1,h10,lits7,ha7,hr,h12,h11,hs,hg,enc_len,bx_len]
theorem x3 (ha:AtomsOK nat) (na:NumsOK nat) (hi:NatI nat) (hl:fnT (T nat).G 6 [] []=some yes) (bs:List UInt8):fnT (T nat).G 3 [.v (.one (rows encB bs))] []=some yes:=by
 simp only [yes] at hl
 rw [fnT_eq tree3]
 by_cases hb:bs.length≤80
 ·have hg:¬(80:Int) < (bs.length:Int):=by omega
  obtain ⟨cw,hw,h7⟩:=lworld (nat:=nat) hi
  obtain ⟨r,p1,h8,r0,r1,hp1⟩:=x8 (nat:=nat) bs 0 hb (by omega) 4 (by omega)
  obtain ⟨n,rfl⟩:=Int.eq_ofNat_of_zero_le r0
  have h8':fnT (T nat).G 8 [.ref 0 0,.v (.one (ci 4))] [[rows encB bs,ci 0]]=some ([.one (ci (n:Int))],[bx bs p1]):=h8
  have h0:hdT (T nat).G 3 0 [.c cz,.c cz,.c (ci n),.c (ci 0),.c cw,.l (bx bs p1)]=some yes:=by
   by_cases hz:n=0
   ·subst hz
    obtain ⟨e1,e2,e3⟩:=end3 ha (cl:=[]) (by simp) (fun c h=>by cases h)
    simp only [List.map_nil,rows_nil,listO,yes] at e1 e2 e3
    rw [hdT_eq tree3 (t:=t3.heads[0]) rfl]
    simp [t3,zZ,e1,e2,e3,enc_len,bx_len,yes]
   ·have hlt:0 < n:=by omega
    obtain ⟨c,p2,h9,dc,hp2⟩:=x9 na hi hw bs hb p1 hp1
    have ok:=dc.okc (by omega) (by omega)
    have hcl:=dc.len
    have h10:=x10 (nat:=nat) c (by omega) ok
    have h12:=x12 (nat:=nat) c (by omega) ok
    have h11:=x11 (nat:=nat) (quoC c) (quoC c)
    rw [eqO_refl] at h11
    have ha1:=app1 (acc:=[]) (x:=c) (by simp)
    have ha7:=app7 (acc:=[]) (x:=quoC c) (by simp)
    rw [rows_nil,List.nil_append] at ha1 ha7
    have hr:=row_last (l:=[]) (x:=quoC c) (i:=0) rfl
    rw [List.nil_append] at hr
    simp only [Int.natCast_zero] at hr
    have hs:binC .add false (ci 0) (ci 1)=some (ci 1):=add_ci (by omega) (by omega)
    have hg:=x3loop ha na hi hw bs hb n (by omega) (n - 1) 1 [c] p2 (by omega) rfl (fun x hx=>by simp only [List.mem_singleton] at hx;subst hx;exact dc) hp2
    simp only [List.map_cons,List.map_nil,Int.natCast_one] at hg
    rw [hdT_eq tree3 (t:=t3.heads[0]) rfl]
    simp (config := { maxSteps := 3000000 }) [-Int.natCast_add,t3,zZ,hlt,h9,lits1,ha1,h10,lits7,ha7,hr,h12,h11,hs,hg,enc_len,bx_len]
  simp (config := { maxSteps := 3000000 }) [t3,zZ,hl,lenB,hg,h7,h8',h0,bx_len]
 ·have hg:(80:Int) < (bs.length:Int):=by omega
  simp (config := { maxSteps := 3000000 }) [t3,zZ,hl,lenB,hg,yes]
end
end Go.Ey.Pr

set_option maxHeartbeats 4000000
namespace Go.Ey.Pr
open Go Go.Ey Go.Ey.Seat
theorem fok3 (bs:List UInt8):FnOK PP 3 [.one (rows encB bs)] [.one (cb true)]:=by
 obtain ⟨m,h9,hm,ha⟩:=whole
 have hf:=natF h9
 exact (seat_ok h9 hm).fn (by kernel_rfl) (x3 (atoms_ok hf (lowest hf.i (natP h9) (natS h9))) (nums_ok hf) hf.i (lisT ha) bs)
end Go.Ey.Pr

namespace Go.Proofs.YtpginbppmgdndaaGreatDoor.facts3
open Go.Proofs.YtpginbppmgdndaaGreatDoor
open Go
set_option linter.unusedVariables false
theorem clo:Tryz.prog.closure 3=[3,6,18,20,54,134,135,19,28,7,32,92,154,155,153,192,193,225,248,249,226,250,251,284,268,252,253,254,255,256,129,177,210,178,179,211,212,213,180,257,194,50,227,258,49,94,14,44,45,228,195,229,93,51,130,131,11,46,83,156,196,216,218,240,198,87,230,259,162,231,260,285,232,233,234,235,261,286,287,288,47,128,176,209,238,264,265,291,290,292,266,267,293,294,322,323,48,263,262,289,319,78,144,186,114,166,167,106,320,321,332,343,344,345,357,346,347,358,348,349,359,333,350,361,363,360,351,352,362,364,365,366,367,353,217,239,236,72,133,181,214,161,182,215,183,157,95,158,33,29,30,73,96,88,86,97,98,99,100,34,101,102,159,107,35,103,160,197,84,146,104,105,108,163,109,164,199,110,111,112,165,113,115,168,85,71,76,82,148,147,81,22,23,70,74,75,77,79,40,89,31,43,126,170,200,149,187,171,201,172,202,204,119,90,150,188,189,221,241,269,295,222,242,223,243,244,270,296,324,334,335,325,336,354,337,338,355,339,297,271,298,300,301,299,274,272,302,326,340,303,304,245,273,190,121,145,203,205,237,206,127,174,175,208,173,207,10,38,120,39,122,91,151,136,152,191,224,142,246,143,184,185,220,219,124,247,275,305,280,312,306,307,327,341,356,328,329,309,308,276,277,278,279,310,311,330,342,281,282,313,331,283,314,315,316,317,318,13,41,123,42,125,169,15,26,8,9,37,117,118,16,36,116,12]:=by kernel_rfl
abbrev c:OpenClaim:=Rows.processorQuoteRow
abbrev s:ChangeSpec:=Rows.processorQuoteSpec
theorem unf:Tryz.prog.unfollowed 3=true:=by
 unfold Program.unfollowed
 rw [clo]
 kernel_rfl
theorem inp:Tryz.prog.inPlace 3=["internal/abi.NoEscape"]:=by
 unfold Program.inPlace
 rw [clo]
 kernel_rfl
theorem recs:Tryz.prog.recurses 3=true:=by
 unfold Program.recurses
 rw [unf]
 rfl
theorem vars:Tryz.prog.varsNamed 3=["internal/strconv.uint64pow10", "math/bits.deBruijn32tab", "math/bits.deBruijn64tab", "strconv.ErrSyntax", "strconv.ErrRange"]:=by
 unfold Program.varsNamed
 rw [clo]
 kernel_rfl
theorem named:Tryz.prog.funcNamed "lispprover/lispproverlaw41.ProcessorQuote"=some 3:=by kernel_rfl
theorem noGo:Tryz.prog.goes 3=false:=by
 unfold Program.goes
 rw [clo,unf]
 kernel_rfl
theorem goesBy:c.goesBy Tryz.prog=false:=by
 unfold OpenClaim.goesBy Program.goesAt Program.goesFrom
 show ((Tryz.prog.funcNamed "lispprover/lispproverlaw41.ProcessorQuote").any Tryz.prog.goes||false)=false
 rw [named,Option.any_some,noGo]
 rfl
theorem closed:joinedFacts Tryz.prog 3 Tryz.f3 s c=true:=by
 unfold joinedFacts
 rw [inp,unf,recs,vars]
 simp only [Bool.and_eq_true]
 refine ⟨⟨⟨⟨⟨⟨⟨⟨⟨⟨⟨⟨⟨⟨⟨⟨⟨⟨⟨⟨⟨⟨⟨⟨⟨⟨⟨⟨⟨⟨⟨?_,?_⟩,?_⟩,?_⟩,?_⟩,?_⟩,?_⟩,?_⟩,?_⟩,?_⟩,?_⟩,?_⟩,?_⟩,?_⟩,?_⟩,?_⟩,?_⟩,?_⟩,?_⟩,?_⟩,?_⟩,?_⟩,?_⟩,?_⟩,?_⟩,?_⟩,?_⟩,?_⟩,?_⟩,?_⟩,?_⟩,?_⟩
 all_goals kernel_rfl
end Go.Proofs.YtpginbppmgdndaaGreatDoor.facts3

namespace Go.Proofs.YtpginbppmgdndaaGreatDoor.processorQuote
open Go.Proofs.YtpginbppmgdndaaGreatDoor
open Go Go.Ey Go.Ey.Pr Go.ChangeShapes Go.WideShapes Go.ChangeAt Go.RowKit
set_option linter.unusedVariables false
theorem own:ownKnob Tryz.prog.godebug=none:=by kernel_rfl
theorem laidOut:laidOutB Tryz.prog=true:=by kernel_rfl
theorem looks:true=Tryz.prog.looks []:=by kernel_rfl
theorem mainIs:Tryz.prog.mainIs=some (true,("25d70e701cfe16b64d4998cb0d1a585cfe32958a8e3816e2529fbcd3264aed28":String).toList):=by kernel_rfl
theorem door_met (os:Os) (args:Array Value):laidMetH Tryz.prog Rows.processorQuoteRow.laid ((World.doorLaid Tryz.prog 62 os).forCall (fun _ _=>0) ⟨#[],args,[]⟩).memory:=
 laidMetH_of_parts3 (fuel:=8) (laidMet_of_run' 8 (by kernel_rfl) (by kernel_rfl)) (by kernel_rfl) (by kernel_rfl)
theorem inv (W:World) (h:laidMetH Tryz.prog Rows.processorQuoteRow.laid W):Keeps.Inv W.heap.size W:=by
 rw [MakeChecks.laidMetH_plain _ _ _ (by kernel_rfl)] at h
 exact inv_of h
set_option maxRecDepth 100000 in
theorem lifted (os:Os) (started:os.Started) (H:Type) (enc:TypeId×Value→H):
  ReturnsInHanded {} Tryz.checked os 3 .any (fun w args=>(Rows.processorQuoteSpec.pre enc Tryz.prog Tryz.f3 [] false w args∧laidMetH Tryz.prog Rows.processorQuoteRow.laid w)∧sizedMet enc Tryz.prog Tryz.f3 (OpenSpec.ofChange Rows.processorQuoteSpec) false w args)
   (Rows.processorQuoteSpec.post enc Tryz.prog Tryz.f3 false true false false):=by
 refine returnsInHanded_of_change_and (C:=Tryz.checked) (X:=fun w _=>laidMetH Tryz.prog Rows.processorQuoteRow.laid w) (fun _ _ _ hh h=>h.of_heap hh) own started (by kernel_rfl) Tryz.func3
  (ChangeSpec.witness_shaped (enc:=enc) (C:=Tryz.checked) (os:=os) (X:=fun w _=>laidMetH Tryz.prog Rows.processorQuoteRow.laid w) false (World.doorLaid Tryz.prog 62 os) #[.slice none 0 0] 8 rfl (World.shaped_of_RefB (by kernel_rfl) (by kernel_rfl)) (by kernel_rfl) (by kernel_rfl) (by kernel_rfl) (door_met os _)) ?_
 intro W base args ds gs before hval0 hW _ _ hL _
 have hval:∀(j:Nat) t v,Tryz.f3.params[j]?=some t→args[j]?=some v→Value.okWide Tryz.prog W .any base t v:=hval0
 have hW':=hW
 obtain ⟨p,q,hA0,hV,rfl,hfz,hnd⟩:=hW
 have hA:DataW.TrodAll enc Tryz.prog W 0 (fun _=>true) true Tryz.f3.params.toList args.toList ds p:=hA0
 rw [Tryz.params3] at hA hval
 obtain ⟨v0,d0,hargs,rfl,h0⟩:=trodAll_one hA
 obtain rfl:args=#[v0]:=by cases args;simp_all
 obtain ⟨rfl,rfl⟩:=trodVars_none hV
 obtain ⟨a0,len0,cap0,rfl⟩:=okWide_slice Tryz.underlying22 (hval 0 22 v0 rfl rfl)
 have k0:=h0
 have lt0:∀x∈p,x.block < W.heap.size:=by obtain ⟨m,hm⟩:=k0;exact DataW.trod_lt m _ _ _ hm
 obtain ⟨bs,hrep⟩:∃bs,RepV W (fun _ _=>True) (.one (rows encB bs)) (.slice a0 len0 cap0):=by
  obtain ⟨fuel,hf⟩:=h0
  obtain ⟨ccs,ha,ht⟩:=open_typed 3 22 open22 fuel _ _ hf
  obtain ⟨bs,rfl,_⟩:=typed_bytes ht
  exact ⟨bs,ha.1⟩
 clear hA0 hval0
 refine ((fok3 bs).2 (fun _ _=>True) W [.slice a0 len0 cap0] (inv W hL) ⟨hrep,trivial⟩).mono fun e W' ⟨v,he,hv,bel⟩=>?_
 subst he
 have hb:v=.bool true:=hv.1
 subst hb
 exact ⟨_,rfl,_,_,_,[],_,[],hW',trodAll_mk1 (shut_bool Tryz.underlying4 _),(trodAll_mk1 (Below.trod laidOut (by kernel_rfl) (of_decide_eq_true (by kernel_rfl)) k0 bel lt0)),rfl,bel.frame _,fun h=>by cases h⟩
theorem over:Rows.ProcessorQuoteSaid:=
 OpenClaim.holds_of_wide (p:=Tryz.pinned) 3 Tryz.f3 rfl rfl rfl rfl rfl rfl rfl ⟨rfl,rfl,rfl,rfl,rfl⟩ rfl rfl rfl rfl rfl facts3.named Tryz.func3 facts3.closed
  (of_decide_eq_true (by kernel_rfl)) (by unfold Func.isWrapper;first|(rw [if_pos (by decide+kernel)];kernel_rfl)|(rw [if_neg (by decide+kernel)];exact ⟨rfl,rfl⟩))
  (fun os started H enc _=>lifted os started H enc)
theorem params (f:FuncId) (fn:Func) (hf:Tryz.prog.funcNamed "lispprover/lispproverlaw41.ProcessorQuote"=some f) (hfn:Tryz.prog.funcs[f]?=some fn):true=Tryz.prog.looks []∧∀(j:Nat) t,fn.params[j]?=some t→Tryz.prog.wantsStandIn t=false:=by
 obtain rfl:f=3:=(Option.some.inj (facts3.named.symm.trans hf)).symm
 obtain rfl:fn=Tryz.f3:=(Option.some.inj (Tryz.func3.symm.trans hfn)).symm
 refine ⟨looks,fun j t ht=>?_⟩
 rw [Tryz.params3] at ht
 have h3:t=22:=by
  rcases j with _|j
  ·simpa using ht.symm
  ·simp at ht
 subst h3
 exact (show Tryz.prog.wantsStandIn 22=false by kernel_rfl)
theorem proved:Rows.ProcessorQuoteCardSaid:=
 Claim7.holds_tied_plain_at (p:=Tryz.pinned) (c:=Rows.processorQuoteRow) .later [] [.data,.data,.data,.sentinel,.sentinel] true (true, "25d70e701cfe16b64d4998cb0d1a585cfe32958a8e3816e2529fbcd3264aed28") true
  over (fun _ h=>by cases h) (by kernel_rfl) (fun _ h=>by cases h) processorQuote_row_tie rfl ⟨rfl,rfl⟩ mainIs rfl
  params facts3.goesBy.symm
end Go.Proofs.YtpginbppmgdndaaGreatDoor.processorQuote
