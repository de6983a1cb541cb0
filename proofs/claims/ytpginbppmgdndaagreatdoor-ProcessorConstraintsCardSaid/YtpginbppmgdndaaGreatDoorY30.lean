/- A part of the proof. -/
import Derived.Test.YtpginbppmgdndaaGreatDoorY29
import Derived.Test.YtpginbppmgdndaaGreatDoorCards
import Derived.SevenTiedAt
import Derived.JoinedOf
import Derived.KernelRfl
set_option linter.all false
set_option maxHeartbeats 4000000
namespace Go.Ey.Pr
open Go.Ey Go.Ey.Seat
def k68:KFun:=⟨[none,(some 2)],[],(.call 142 [(.agg (.all 0))] [] [none,none] [] (.ite (.v 0) (.ret [(.one (.v 1)),(.one (.k (.b true)))] []) (.call 143 [(.one (.v 3)),(.agg (.all 2))] [] [(some 37),none] [] (.opc (.len false (.n 1 2)) (.ret [(.one (.v 0)),(.one (.v 1))] []))))),[]⟩
theorem r68 (nat:Nat→List V→Option (List V)):(T nat).krow 68=some k68:=by kernel_rfl
def k142:KFun:=⟨[(some 2)],[],(.opc (.neq (.n 0 0) (.k (.s 4 1886611820))) (.ite (.v 0) (.ret [(.one (.k (.i .i64 (.ofNat 0)))),(.one (.k (.b false)))] []) (.opc (.eql (.n 1 1) (.k (.s 2 26217))) (.ite (.v 0) (.ret [(.one (.k (.i .i64 (.ofNat 3)))),(.one (.k (.b true)))] []) (.opc (.eql (.n 2 1) (.k (.s 5 465491554661))) (.ite (.v 0) (.ret [(.one (.k (.i .i64 (.ofNat 2)))),(.one (.k (.b true)))] []) (.opc (.eql (.n 3 1) (.k (.s 4 1936617315))) (.ite (.v 0) (.ret [(.one (.k (.i .i64 (.ofNat 2)))),(.one (.k (.b true)))] []) (.opc (.eql (.n 4 1) (.k (.s 8 3111276449750739298))) (.ite (.v 0) (.ret [(.one (.k (.i .i64 (.ofNat 2)))),(.one (.k (.b true)))] []) (.opc (.eql (.n 5 1) (.k (.s 8 3039218855712811362))) (.ite (.v 0) (.ret [(.one (.k (.i .i64 (.ofNat 2)))),(.one (.k (.b true)))] []) (.opc (.eql (.n 6 1) (.k (.s 1 60))) (.ite (.v 0) (.ret [(.one (.k (.i .i64 (.ofNat 2)))),(.one (.k (.b true)))] []) (.opc (.eql (.n 7 1) (.k (.s 6 121437607456361))) (.ite (.v 0) (.ret [(.one (.k (.i .i64 (.ofNat 2)))),(.one (.k (.b true)))] []) (.opc (.eql (.n 8 1) (.k (.s 13 7956982234992646578836044149875))) (.ite (.v 0) (.ret [(.one (.k (.i .i64 (.ofNat 2)))),(.one (.k (.b true)))] []) (.opc (.eql (.n 9 1) (.k (.s 11 122651541423547657927947379))) (.ite (.v 0) (.ret [(.one (.k (.i .i64 (.ofNat 2)))),(.one (.k (.b true)))] []) (.opc (.eql (.n 10 1) (.k (.s 3 7496035))) (.ite (.v 0) (.ret [(.one (.k (.i .i64 (.ofNat 1)))),(.one (.k (.b true)))] []) (.opc (.eql (.n 11 1) (.k (.s 3 7496803))) (.ite (.v 0) (.ret [(.one (.k (.i .i64 (.ofNat 1)))),(.one (.k (.b true)))] []) (.opc (.eql (.n 12 1) (.k (.s 5 482972954467))) (.ite (.v 0) (.ret [(.one (.k (.i .i64 (.ofNat 1)))),(.one (.k (.b true)))] []) (.opc (.eql (.n 13 1) (.k (.s 7 31644423040104819))) (.ite (.v 0) (.ret [(.one (.k (.i .i64 (.ofNat 1)))),(.one (.k (.b true)))] []) (.opc (.eql (.n 14 1) (.k (.s 7 31638921304765555))) (.ite (.v 0) (.ret [(.one (.k (.i .i64 (.ofNat 1)))),(.one (.k (.b true)))] []) (.opc (.eql (.n 15 1) (.k (.s 9 2073844980909096591730))) (.ite (.v 0) (.ret [(.one (.k (.i .i64 (.ofNat 1)))),(.one (.k (.b true)))] []) (.opc (.eql (.n 16 1) (.k (.s 8 8102650174351109737))) (.ite (.v 0) (.ret [(.one (.k (.i .i64 (.ofNat 1)))),(.one (.k (.b true)))] []) (.opc (.eql (.n 17 1) (.k (.s 7 12716373585260149))) (.ite (.v 0) (.ret [(.one (.k (.i .i64 (.ofNat 1)))),(.one (.k (.b true)))] []) (.opc (.eql (.n 18 1) (.k (.s 7 13279323538681461))) (.ite (.v 0) (.ret [(.one (.k (.i .i64 (.ofNat 1)))),(.one (.k (.b true)))] []) (.opc (.eql (.n 19 1) (.k (.s 9 2110959975582353159534))) (.ite (.v 0) (.ret [(.one (.k (.i .i64 (.ofNat 1)))),(.one (.k (.b true)))] []) (.opc (.eql (.n 20 1) (.k (.s 11 138343872958643594702251364))) (.ite (.v 0) (.ret [(.one (.k (.i .i64 (.ofNat 1)))),(.one (.k (.b true)))] []) (.opc (.eql (.n 21 1) (.k (.s 5 491495844966))) (.ite (.v 0) (.ret [(.one (.k (.i .i64 (.ofNat 1)))),(.one (.k (.b true)))] []) (.opc (.eql (.n 22 1) (.k (.s 11 122618043001006431572687219))) (.ite (.v 0) (.ret [(.one (.k (.i .i64 (.ofNat 1)))),(.one (.k (.b true)))] []) (.opc (.eql (.n 23 1) (.k (.s 19 2261903658058535744205936875630873591400986995))) (.ite (.v 0) (.ret [(.one (.k (.i .i64 (.ofNat 1)))),(.one (.k (.b true)))] []) (.opc (.eql (.n 24 1) (.k (.s 13 8275754203313416711865239762035))) (.ite (.v 0) (.ret [(.one (.k (.i .i64 (.ofNat 1)))),(.one (.k (.b true)))] []) (.opc (.eql (.n 25 1) (.k (.s 11 125040764888893661906237794))) (.ite (.v 0) (.ret [(.one (.k (.i .i64 (.ofNat 1)))),(.one (.k (.b true)))] []) (.ret [(.one (.k (.i .i64 (.ofNat 0)))),(.one (.k (.b false)))] []))))))))))))))))))))))))))))))))))))))))))))))))))))),[]⟩
theorem r142 (nat:Nat→List V→Option (List V)):(T nat).krow 142=some k142:=by kernel_rfl
noncomputable def kgX:KG:=.node 68 k68 (.node 142 k142 kgW kgW) (.node 142 k142 kgW kgW)
theorem kgX_ok {nat:Nat→List V→Option (List V)}:KGOK (T nat).G (T nat).psig kgX:=
 ⟨krow_ok (r68 nat),⟨krow_ok (r142 nat),kgW_ok,kgW_ok⟩,⟨krow_ok (r142 nat),kgW_ok,kgW_ok⟩⟩
abbrev Sy:=ByteArray×ByteArray
def namesY:List Sy:=heads.map (fun s=>(lispB,s))++owns.map (fun s=>(usr,s))
def known:List Sy:=(usr,⟨#[117,110,107,110,111,119,110]⟩)::(lispB,quoB)::namesY
def chkAr:Ans→Ans→Bool
 |.ret [.c (.i .i64 (.ofNat a)),.c (.b b)] [],.ret [.c (.i .i64 (.ofNat a')),.c (.b b')] []=>decide (a≤3) && (a==a') && (b==b')
 |_,_=>false
theorem chkAr_eq {x y:Ans} (h:chkAr x y=true):∃(a:Nat) (b:Bool),a≤3∧x=.ret [.c (.i .i64 (.ofNat a)),.c (.b b)] []∧y=.ret [.c (.i .i64 (.ofNat a)),.c (.b b)] []:=by
 unfold chkAr at h
 split at h
 ·simp only [Bool.and_eq_true,decide_eq_true_eq,beq_iff_eq] at h
  obtain ⟨⟨h1,rfl⟩,rfl⟩:=h
  exact ⟨_,_,h1,rfl,rfl⟩
 ·cases h
noncomputable def runAr:Bool:=known.all fun f=>chkAr ((krun kgD 3000).fn 78 [.c wlK,.l 2 [kS f.1,kS f.2]] []) ((krun kgX 3000).fn 68 [.c wlK,.l 2 [kS f.1,kS f.2]] [])
theorem runAr_ok:runAr=true:=by kernel_rfl
section
variable {nat:Nat→List V→Option (List V)}
theorem psig78:(T nat).psig 78=some [.one,.agg 2]:=by kernel_rfl
theorem psig68:(T nat).psig 68=some [.one,.agg 2]:=by kernel_rfl
theorem f68 (hn:NatI nat) {cw:C} (hw:RK wlK cw) {m1 m2:Nat} {f:Sy} (h:chkAr ((krun kgD m1).fn 78 [.c wlK,.l 2 [kS f.1,kS f.2]] []) ((krun kgX m2).fn 68 [.c wlK,.l 2 [kS f.1,kS f.2]] [])=true):
  ∃(a:Nat) (b:Bool),a≤3∧fnT (T nat).G 78 [.v (.one cw),.v (.agg [cs f.1,cs f.2])] []=some ([.one (ci a),.one (cb b)],[])∧fnT (T nat).G 68 [.v (.one cw),.v (.agg [cs f.1,cs f.2])] []=some ([.one (ci a),.one (cb b)],[]):=by
 obtain ⟨a,b,ha,e1,e2⟩:=chkAr_eq h
 refine ⟨a,b,ha,?_,?_⟩
 ·obtain ⟨c,d,b1,b2,g⟩:=kc2 hn psig78 (ts:=[.v (.one (.v 0)),.v (.agg (.all 0))]) rfl (ys:=[.c wlK,.l 2 [kS f.1,kS f.2]]) (us:=[.v (.one cw),.v (.agg [cs f.1,cs f.2])]) ⟨hw,⟨RKs.cons (rkS _) (RKs.cons (rkS _) RKs.nil),rfl⟩,trivial⟩ e1
  rw [b1.int,b2.bool] at g
  exact g
 ·obtain ⟨r1,g1,g2,g3⟩:=krun_fn (kgX_ok (nat:=nat)) psig68 (ts:=[.v (.one (.v 0)),.v (.agg (.all 0))]) rfl (ys:=[.c wlK,.l 2 [kS f.1,kS f.2]]) (us:=[.v (.one cw),.v (.agg [cs f.1,cs f.2])]) ⟨hw,⟨RKs.cons (rkS _) (RKs.cons (rkS _) RKs.nil),rfl⟩,trivial⟩ (zs:=[]) (css:=[]) trivial e2
  obtain ⟨a1,b1⟩:=r1
  match a1,b1,g2,g3 with
  |[.one c1,.one d1],[],g2,_=>
   have h1:RK (.i .i64 (.ofNat a)) c1:=g2.1
   have h2:RK (.b b) d1:=g2.2.1
   rw [h1.int,h2.bool] at g1
   exact g1
def Ars (nat:Nat→List V→Option (List V)) (cw:C) (ar:Sy→Nat×Bool):Prop:=∀f∈known,(ar f).1≤3∧
 fnT (T nat).G 78 [.v (.one cw),.v (.agg [cs f.1,cs f.2])] []=some ([.one (ci (ar f).1),.one (cb (ar f).2)],[])∧fnT (T nat).G 68 [.v (.one cw),.v (.agg [cs f.1,cs f.2])] []=some ([.one (ci (ar f).1),.one (cb (ar f).2)],[])
theorem ars (hn:NatI nat) {cw:C} (hw:RK wlK cw):∃ar,Ars nat cw ar:=by
 have h:∀f:Sy,∃p:Nat×Bool,f∈known→p.1≤3∧fnT (T nat).G 78 [.v (.one cw),.v (.agg [cs f.1,cs f.2])] []=some ([.one (ci p.1),.one (cb p.2)],[])∧fnT (T nat).G 68 [.v (.one cw),.v (.agg [cs f.1,cs f.2])] []=some ([.one (ci p.1),.one (cb p.2)],[]):=fun f=>by
  by_cases hf:f∈known
  ·obtain ⟨a,b,h1,h2,h3⟩:=f68 hn hw (List.all_eq_true.1 runAr_ok f hf)
   exact ⟨(a,b),fun _=>⟨h1,h2,h3⟩⟩
  ·exact ⟨(0,false),fun h=>absurd h hf⟩
 exact ⟨fun f=>(h f).choose,fun f hf=>(h f).choose_spec hf⟩
def enY (f:Sy):List C:=[cs f.1,cs f.2]
theorem enY_len (f:Sy):(enY f).length=2:=rfl
theorem rowY {l:List Sy} {k:Nat} (h:k < l.length):rowC 2 (rows enY l) (ci k)=some [cs l[k].1,cs l[k].2]:=row_at (f:=enY) enY_len (List.getElem?_eq_getElem h)
theorem lenY (l:List Sy):lenC false (rows enY l)=some (ci l.length):=rfl
theorem litsY (f:Sy):litsC 2 1 [cs f.1,cs f.2]=some (.slice (enY f) 1):=by simp [litsC,roomMax,enY]
theorem litsP (p s:ByteArray):litsC 2 1 [cs p,cs s]=some (.slice (enY (p,s)) 1):=litsY (p,s)
theorem appY {acc:List Sy} {f:Sy} (h:acc.length < 1000000):appC 2 32 (.slice (enY f) 1) (rows enY acc)=some (rows enY (acc++[f])):=
 app_row (f:=enY) enY_len (by decide) (by simp only [roomMax];omega) (by simp only [roomMax];omega)
theorem subY {l:List Sy} {k:Nat} (h:k≤l.length):subC 2 none (some (ci k)) (rows enY l)=some (rows enY (l.take k)):=sub_rows (f:=enY) enY_len h
def same (f g:Sy):Bool:=decide (f.1=g.1) && decide (f.2=g.2)
theorem same_comm (f g:Sy):same f g=same g f:=by
 simp only [same,eq_comm]
def dup (f:Sy):List Sy→Bool
 |[]=>false
 |g::l=>same f g||dup f l
def isQ (f:Sy):Bool:=same f (lispB,quoB)
def chk (ar:Sy→Nat×Bool):List Sy→List Sy→Int
 |_,[]=>0
 |pre,f::r=>if (ar f).2=false then 7 else if isQ f=true then 7 else if dup f pre=true then 4 else chk ar (pre++[f]) r
theorem eqsS (f g:Sy):eqsC [1,1] false [cs f.1,cs f.2] [cs g.1,cs g.2]=some (cb (same f g)):=eqs_cs _ _ _ _ _
theorem eqsQ (f:Sy):eqsC [1,1] false [cs f.1,cs f.2] [cs lispB,cs quoB]=some (cb (isQ f)):=eqs_cs _ _ _ _ _
section
variable {cw:C} {ar:Sy→Nat×Bool}
theorem x55in (L:C) (n:Int) (i:Nat) (hi:i < 100000) (f:Sy) (P:List Sy) (hP:P.length < 100000):∀(m j:Nat),j+m=P.length→
  hdT (T nat).G 55 1 [.c cw,.c L,.c L,.c (ci n),.c (ci i),.c (rows enY P),.c (ci P.length),.c (ci j),.l [cs f.1,cs f.2]]=
   if dup f (P.drop j)=true then some ([.one (ci 4)],[]) else hdT (T nat).G 55 0 [.c cw,.c L,.c L,.c (ci n),.c (ci ((i+1:Nat):Int))]
 |0,j,hj=>by
  have hlt:¬((j:Int) < (P.length:Int)):=by omega
  have hs:=add_nat i (by omega)
  rw [hdT_eq tree55 (t:=t55.heads[1]) rfl,drop_end (by omega)]
  simp [-Int.natCast_add,t55,zL,hlt,hs,dup]
 |m+1,j,hj=>by
  have hjr:j < P.length:=by omega
  have hlt:((j:Int) < (P.length:Int)):=by omega
  have hs:=add_nat j (by omega)
  have hr:=x55in L n i hi f P hP m (j+1) (by omega)
  have hq:=eqsS f P[j]
  rw [drop_at hjr,hdT_eq tree55 (t:=t55.heads[1]) rfl,dup]
  cases hb:same f P[j]<;>rw [hb] at hq<;>simp [-Int.natCast_add,t55,zL,hlt,rowY hjr,hq,hs,hr]
theorem x55out (ha:Ars nat cw ar) (fs:List Sy) (hm:fs.length < 100000) (hk:∀f∈fs,f∈known):∀(m i:Nat),i+m=fs.length→
  hdT (T nat).G 55 0 [.c cw,.c (rows enY fs),.c (rows enY fs),.c (ci fs.length),.c (ci i)]=some ([.one (ci (chk ar (fs.take i) (fs.drop i)))],[])
 |0,i,hi=>by
  have hlt:¬((i:Int) < (fs.length:Int)):=by omega
  rw [hdT_eq tree55 (t:=t55.heads[0]) rfl,drop_end (by omega)]
  simp [t55,zL,hlt,chk]
 |m+1,i,hi=>by
  have hir:i < fs.length:=by omega
  have hlt:((i:Int) < (fs.length:Int)):=by omega
  obtain ⟨_,_,h68⟩:=ha fs[i] (hk _ (List.getElem_mem hir))
  have hsub:=subY (l:=fs) (k:=i) (by omega)
  have hq:=eqsQ fs[i]
  have hl:(fs.take i).length=i:=by rw [List.length_take];omega
  have hin:=x55in (nat:=nat) (cw:=cw) (rows enY fs) fs.length i (by omega) fs[i] (fs.take i) (by omega) (fs.take i).length 0 (by omega)
  rw [List.drop_zero,hl] at hin
  simp only [Int.natCast_zero] at hin
  have hrec:=x55out ha fs hm hk m (i+1) (by omega)
  have ht:fs.take (i+1)=fs.take i++[fs[i]]:=by rw [List.take_succ_eq_append_getElem hir]
  rw [ht] at hrec
  rw [hrec] at hin
  have hlen:lenC false (rows enY (fs.take i))=some (ci i):=by rw [lenY,hl]
  rw [drop_at hir,hdT_eq tree55 (t:=t55.heads[0]) rfl,chk]
  generalize chk ar (fs.take i++[fs[i]]) (fs.drop (i+1))=rest at hin ⊢
  cases hb:(ar fs[i]).2<;>rw [hb] at h68<;>cases hc:isQ fs[i]<;>rw [hc] at hq<;>cases hd:dup fs[i] (fs.take i)<;>rw [hd] at hin<;>
   simp [-Int.natCast_add,t55,zL,hlt,rowY hir,h68,x65,hq,hsub,hlen,hin]
theorem x55 (ha:Ars nat cw ar) (fs:List Sy) (hm:fs.length < 100000) (hk:∀f∈fs,f∈known):fnT (T nat).G 55 [.v (.one cw),.v (.one (rows enY fs))] []=some ([.one (ci (chk ar [] fs))],[]):=by
 have h:=x55out ha fs hm hk fs.length 0 (by omega)
 simp only [Int.natCast_zero,List.take_zero,List.drop_zero] at h
 rw [fnT_eq tree55]
 simp [t55,zL,lenY,h]
theorem x70in (fs:List Sy) (i:Nat) (hi:i < fs.length) (hm:fs.length < 100000):∀(m j:Nat),j+m=i→
  hdT (T nat).G 70 1 [.c cw,.c (rows enY fs),.c (ci i),.c (ci j)]=
   if dup fs[i] ((fs.take i).drop j)=true then some ([.one (ci 4)],[]) else hdT (T nat).G 70 0 [.c cw,.c (rows enY fs),.c (ci ((i+1:Nat):Int))]
 |0,j,hj=>by
  have hlt:¬((j:Int) < (i:Int)):=by omega
  have hs:=add_nat i (by omega)
  rw [hdT_eq tree70 (t:=t70.heads[1]) rfl,List.drop_eq_nil_of_le (by rw [List.length_take];omega)]
  simp [-Int.natCast_add,t70,zL,hlt,hs,dup]
 |m+1,j,hj=>by
  have hlt:((j:Int) < (i:Int)):=by omega
  have hjl:j < fs.length:=by omega
  have hjr:j < (fs.take i).length:=by rw [List.length_take];omega
  have hs:=add_nat j (by omega)
  have hr:=x70in fs i hi hm m (j+1) (by omega)
  have he:(fs.take i)[j]=fs[j]:=List.getElem_take
  have hq:=eqsS fs[j] fs[i]
  rw [same_comm] at hq
  rw [drop_at hjr,he,hdT_eq tree70 (t:=t70.heads[1]) rfl,dup]
  cases hb:same fs[i] fs[j]<;>rw [hb] at hq<;>simp [-Int.natCast_add,t70,zL,hlt,rowY hjl,rowY hi,hq,hs,hr]
theorem x70out (ha:Ars nat cw ar) (fs:List Sy) (hm:fs.length < 100000) (hk:∀f∈fs,f∈known):∀(m i:Nat),i+m=fs.length→
  hdT (T nat).G 70 0 [.c cw,.c (rows enY fs),.c (ci i)]=some ([.one (ci (chk ar (fs.take i) (fs.drop i)))],[])
 |0,i,hi=>by
  have hlt:¬((i:Int) < (fs.length:Int)):=by omega
  rw [hdT_eq tree70 (t:=t70.heads[0]) rfl,drop_end (by omega)]
  simp [t70,zL,hlt,lenY,chk]
 |m+1,i,hi=>by
  have hir:i < fs.length:=by omega
  have hlt:((i:Int) < (fs.length:Int)):=by omega
  obtain ⟨_,h78,_⟩:=ha fs[i] (hk _ (List.getElem_mem hir))
  have hq:=eqsQ fs[i]
  have hin:=x70in (nat:=nat) (cw:=cw) fs i hir hm i 0 (by omega)
  rw [List.drop_zero] at hin
  simp only [Int.natCast_zero] at hin
  have hrec:=x70out ha fs hm hk m (i+1) (by omega)
  have ht:fs.take (i+1)=fs.take i++[fs[i]]:=by rw [List.take_succ_eq_append_getElem hir]
  rw [ht] at hrec
  rw [hrec] at hin
  rw [drop_at hir,hdT_eq tree70 (t:=t70.heads[0]) rfl,chk]
  generalize chk ar (fs.take i++[fs[i]]) (fs.drop (i+1))=rest at hin ⊢
  cases hb:(ar fs[i]).2<;>rw [hb] at h78<;>cases hc:isQ fs[i]<;>rw [hc] at hq<;>cases hd:dup fs[i] (fs.take i)<;>rw [hd] at hin<;>
   simp [-Int.natCast_add,t70,zL,hlt,lenY,rowY hir,h78,x76,hq,hin]
theorem x70 (ha:Ars nat cw ar) (fs:List Sy) (hm:fs.length < 100000) (hk:∀f∈fs,f∈known):fnT (T nat).G 70 [.v (.one cw),.v (.one (rows enY fs))] []=some ([.one (ci (chk ar [] fs))],[]):=by
 have h:=x70out ha fs hm hk fs.length 0 (by omega)
 simp only [Int.natCast_zero,List.take_zero,List.drop_zero] at h
 rw [fnT_eq tree70]
 simp [t70,zL,h]
end
end
end Go.Ey.Pr

set_option maxHeartbeats 4000000
namespace Go.Ey.Pr
open Go.Ey Go.Ey.Seat
def enS (s:ByteArray):List C:=[cs s]
theorem enS_len (s:ByteArray):(enS s).length=1:=rfl
theorem rowS {l:List ByteArray} {k:Nat} (h:k < l.length):rowC 1 (rows enS l) (ci k)=some [cs l[k]]:=row_at (f:=enS) enS_len (List.getElem?_eq_getElem h)
theorem lenS (l:List ByteArray):lenC false (rows enS l)=some (ci l.length):=rfl
section
variable {nat:Nat→List V→Option (List V)}
theorem x134:fnT (T nat).G 134 [] []=some ([.one (rows enS heads)],[]):=by
 rw [fnT_eq tree134]
 rfl
theorem x135:fnT (T nat).G 135 [] []=some ([.one (rows enS owns)],[]):=by
 rw [fnT_eq tree135]
 rfl
theorem x19u (s:ByteArray):fnT (T nat).G 19 [.v (.one (cs s))] []=some ([.agg [cs usr,cs s]],[]):=x19 s
theorem x54b (M:List ByteArray) (hm:M.length < 1000):∀(m k:Nat) (acc:List Sy),k+m=M.length→acc.length < 1000+k→
  hdT (T nat).G 54 1 [.c (rows enS M),.c (ci k),.c (rows enY acc)]=some ([.one (rows enY (acc++(M.drop k).map fun s=>(usr,s)))],[])
 |0,k,acc,h,hc=>by
  have hlt:¬((k:Int) < (M.length:Int)):=by omega
  rw [hdT_eq tree54 (t:=t54.heads[1]) rfl,drop_end (by omega)]
  simp [t54,zL,lenS,hlt]
 |m+1,k,acc,h,hc=>by
  have hkr:k < M.length:=by omega
  have hlt:((k:Int) < (M.length:Int)):=by omega
  have hs:=add_nat k (by omega)
  have hap:=appY (acc:=acc) (f:=(usr,M[k])) (by omega)
  have hi:=x54b M hm m (k+1) (acc++[(usr,M[k])]) (by omega) (by simp;omega)
  have hd:(M.drop k).map (fun s=>(usr,s))=(usr,M[k])::(M.drop (k+1)).map fun s=>(usr,s):=by rw [drop_at hkr,List.map_cons]
  rw [hd,hdT_eq tree54 (t:=t54.heads[1]) rfl]
  simp [-Int.natCast_add,-List.map_drop,t54,zL,lenS,hlt,rowS hkr,x19u,litsP,hap,hs,hi]
theorem x54a (L M:List ByteArray) (hm:L.length < 900) (hM:M.length < 1000):∀(m k:Nat) (acc:List Sy),k+m=L.length→acc.length=k→
  hdT (T nat).G 54 0 [.c (rows enS L),.c (rows enS M),.c (ci k),.c (rows enY acc)]=some ([.one (rows enY (acc++(L.drop k).map (fun s=>(lispB,s))++M.map fun s=>(usr,s)))],[])
 |0,k,acc,h,hc=>by
  have hlt:¬((k:Int) < (L.length:Int)):=by omega
  have h1:=x54b (nat:=nat) M hM M.length 0 acc (by omega) (by omega)
  simp only [List.drop_zero,Int.natCast_zero] at h1
  rw [hdT_eq tree54 (t:=t54.heads[0]) rfl,drop_end (by omega)]
  simp [t54,zL,lenS,hlt,h1]
 |m+1,k,acc,h,hc=>by
  have hkr:k < L.length:=by omega
  have hlt:((k:Int) < (L.length:Int)):=by omega
  have hs:=add_nat k (by omega)
  have hap:=appY (acc:=acc) (f:=(lispB,L[k])) (by omega)
  have hi:=x54a L M hm hM m (k+1) (acc++[(lispB,L[k])]) (by omega) (by simp [hc])
  have hd:(L.drop k).map (fun s=>(lispB,s))=(lispB,L[k])::(L.drop (k+1)).map fun s=>(lispB,s):=by rw [drop_at hkr,List.map_cons]
  rw [hd,hdT_eq tree54 (t:=t54.heads[0]) rfl]
  simp [-Int.natCast_add,-List.map_drop,t54,zL,lenS,hlt,rowS hkr,x20,litsP,hap,hs,hi]
theorem x54:fnT (T nat).G 54 [] []=some ([.one (rows enY namesY)],[]):=by
 have h:=x54a (nat:=nat) heads owns (by decide) (by decide) heads.length 0 [] (by omega) rfl
 simp only [List.drop_zero,Int.natCast_zero,rows_nil,List.nil_append] at h
 rw [fnT_eq tree54]
 simp [t54,zL,x134,x135,h,namesY]
theorem x18in (B N:C) (k:Nat) (hk:k < 100000) (f:Sy) (acc:List Sy) (hm:acc.length < 100000):∀(m j:Nat) (b:Bool),j+m=acc.length→
  ∃acc',(acc'=acc∨acc'=acc++[f])∧hdT (T nat).G 18 1 [.c B,.c N,.c (ci k),.c (cb b),.c (ci j),.c (rows enY acc),.l [cs f.1,cs f.2]]=hdT (T nat).G 18 0 [.c B,.c N,.c (ci ((k+1:Nat):Int)),.c (rows enY acc')]
 |0,j,b,h=>by
  have hlt:¬((j:Int) < (acc.length:Int)):=by omega
  have hs:=add_nat k (by omega)
  have hap:=appY (acc:=acc) (f:=f) (by omega)
  rw [hdT_eq tree18 (t:=t18.heads[1]) rfl]
  cases b with
  |true=>exact ⟨acc,.inl rfl,by simp [-Int.natCast_add,t18,zL,lenY,hlt,hs]⟩
  |false=>exact ⟨acc++[f],.inr rfl,by simp [-Int.natCast_add,t18,zL,lenY,hlt,litsY,hap,hs]⟩
 |m+1,j,b,h=>by
  have hjr:j < acc.length:=by omega
  have hlt:((j:Int) < (acc.length:Int)):=by omega
  have hs:=add_nat j (by omega)
  cases b with
  |true=>
   obtain ⟨acc',h1,h2⟩:=x18in B N k hk f acc hm m (j+1) true (by omega)
   refine ⟨acc',h1,?_⟩
   rw [hdT_eq tree18 (t:=t18.heads[1]) rfl]
   simp [-Int.natCast_add,t18,zL,lenY,hlt,hs,h2]
  |false=>
   obtain ⟨acc',h1,h2⟩:=x18in B N k hk f acc hm m (j+1) (same acc[j] f) (by omega)
   simp only [same] at h2
   refine ⟨acc',h1,?_⟩
   rw [hdT_eq tree18 (t:=t18.heads[1]) rfl]
   simp [-Int.natCast_add,t18,zL,lenY,hlt,rowY hjr,hs,h2]
theorem x18out (bs:List UInt8) (hb:bs.length≤10):∀(m k:Nat) (acc:List Sy),k+m=bs.length→acc.length≤2+k→acc≠[]→(∀f∈acc,f∈namesY)→
  ∃l:List Sy,hdT (T nat).G 18 0 [.c (rows encB bs),.c (rows enY namesY),.c (ci k),.c (rows enY acc)]=some ([.one (rows enY l)],[])∧l.length≤12∧l≠[]∧∀f∈l,f∈namesY
 |0,k,acc,h,hc,hn,ha=>by
  have hlt:¬((k:Int) < (bs.length:Int)):=by omega
  refine ⟨acc,?_,by omega,hn,ha⟩
  rw [hdT_eq tree18 (t:=t18.heads[0]) rfl]
  simp [t18,zL,lenB,hlt]
 |m+1,k,acc,h,hc,hn,ha=>by
  have hkr:k < bs.length:=by omega
  have hlt:((k:Int) < (bs.length:Int)):=by omega
  have hln:lenC false (rows enY namesY)=some (ci 33):=rfl
  have hr:binC .rem false (ci (bs[k].toNat:Int)) (ci 33)=some (ci ((bs[k].toNat % 33:Nat):Int)):=by
   rw [rem_ci (by omega),Int.tmod_eq_emod_of_nonneg (by omega)]
   rfl
  have hlt2:bs[k].toNat % 33 < namesY.length:=Nat.mod_lt _ (by decide)
  obtain ⟨acc',h1,h2⟩:=x18in (nat:=nat) (rows encB bs) (rows enY namesY) k (by omega) namesY[bs[k].toNat % 33] acc (by omega) acc.length 0 false (by omega)
  simp only [Int.natCast_zero] at h2
  have h3:acc'.length≤2+(k+1)∧acc'≠[]∧∀f∈acc',f∈namesY:=by
   rcases h1 with rfl|rfl
   ·exact ⟨by omega,hn,ha⟩
   ·refine ⟨by simp;omega,by simp,fun f hf=>?_⟩
    rcases List.mem_append.1 hf with hf|hf
    ·exact ha f hf
    ·simp only [List.mem_singleton] at hf;subst hf;exact List.getElem_mem hlt2
  obtain ⟨l,g1,g2,g3,g4⟩:=x18out bs hb m (k+1) acc' (by omega) h3.1 h3.2.1 h3.2.2
  refine ⟨l,?_,g2,g3,g4⟩
  rw [hdT_eq tree18 (t:=t18.heads[0]) rfl]
  simp [-Int.natCast_add,-Int.natCast_emod,t18,zL,lenB,hlt,rowB hkr,convB,hln,hr,rowY hlt2,h2,g1]
theorem x18 (bs:List UInt8) (hb:bs.length≤10):∃l:List Sy,fnT (T nat).G 18 [.v (.one (rows encB bs))] []=some ([.one (rows enY l)],[])∧l.length≤12∧l≠[]∧∀f∈l,f∈namesY:=by
 have hl:litsC 2 2 [cs lispB,cs ⟨#[105,102]⟩,cs lispB,cs ⟨#[110,111,116]⟩]=some (rows enY [(lispB,⟨#[105,102]⟩),(lispB,⟨#[110,111,116]⟩)]):=by simp [litsC,roomMax,rows,enY]
 obtain ⟨l,g1,g2,g3,g4⟩:=x18out (nat:=nat) bs hb bs.length 0 [(lispB,⟨#[105,102]⟩),(lispB,⟨#[110,111,116]⟩)] (by omega) (by simp) (by simp) (fun f hf=>by
  simp only [List.mem_cons,List.mem_nil_iff,or_false] at hf
  rcases hf with rfl|rfl<;>simp [namesY,heads])
 simp only [Int.natCast_zero] at g1
 refine ⟨l,?_,g2,g3,g4⟩
 rw [fnT_eq tree18]
 simp [t18,zL,x20,hl,x54,g1]
end
end Go.Ey.Pr

set_option maxHeartbeats 4000000
namespace Go.Ey.Pr
open Go.Ey Go.Ey.Seat
def implT (t u:Tm):Tm:=.app lispB ⟨#[105,109,112,108,105,101,115]⟩ [t,u]
def eqlT (t u:Tm):Tm:=.app lispB ⟨#[101,113,117,97,108]⟩ [t,u]
def ifT (t u v:Tm):Tm:=.app lispB ⟨#[105,102]⟩ [t,u,v]
def effT (ep es:ByteArray):Tm:=.app ep es [vX,vA]
def consX:Tm:=.app lispB ⟨#[99,111,110,115,112]⟩ [vX]
def symX:Tm:=.app lispB ⟨#[115,121,109,98,111,108,112]⟩ [vX]
def conF (ar:Sy→Nat×Bool) (ep es:ByteArray) (f:Sy):Tm:=implT (ifT consX (hdIs f.1 f.2) nilT) (eqlT (effT ep es) (callT ep es f.1 f.2 (ar f).1))
def con1 (ep es:ByteArray):Tm:=implT symX (eqlT (effT ep es) lookT)
def con2 (ep es:ByteArray):Tm:=implT (ifT consX (hdIs lispB quoB) nilT) (eqlT (effT ep es) (partT 0))
def conL (ar:Sy→Nat×Bool) (ep es:ByteArray) (fs:List Sy):List Tm:=con1 ep es::con2 ep es::fs.map (conF ar ep es)
section
variable {nat:Nat→List V→Option (List V)} {cw:C} {ar:Sy→Nat×Bool}
theorem x21loop (ha:Ars nat cw ar) (ep es:ByteArray) (fs:List Sy) (hm:fs.length < 1000) (hk:∀f∈fs,f∈known):∀(m i:Nat) (acc:List Tm),i+m=fs.length→acc.length=i+2→
  hdT (T nat).G 21 0 [.c cw,.c (rows enY fs),.c (ci fs.length),.c (ci i),.l [cs ep,cs es],.l (encT (effT ep es)),.l (encT consX),.c (rows encT acc)]=some ([.one (rows encT (acc++(fs.drop i).map (conF ar ep es))),.one (ci 0)],[])
 |0,i,acc,hi,hc=>by
  have hlt:¬((i:Int) < (fs.length:Int)):=by omega
  rw [hdT_eq tree21 (t:=hh21[0]) rfl,drop_end (by omega)]
  simp [hh21,zL,hlt]
 |m+1,i,acc,hi,hc=>by
  have hir:i < fs.length:=by omega
  have hlt:((i:Int) < (fs.length:Int)):=by omega
  obtain ⟨h3,_,h68⟩:=ha fs[i] (hk _ (List.getElem_mem hir))
  have h69:=x69 (nat:=nat) ep es fs[i].1 fs[i].2 (ar fs[i]).1 (by omega)
  have hs:=add_nat i (by omega)
  have hap:=app11 (acc:=acc) (x:=conF ar ep es fs[i]) (by omega)
  have hr:=x21loop ha ep es fs hm hk m (i+1) (acc++[conF ar ep es fs[i]]) (by omega) (by simp [hc])
  have hd:(fs.drop i).map (conF ar ep es)=conF ar ep es fs[i]::(fs.drop (i+1)).map (conF ar ep es):=by rw [drop_at hir,List.map_cons]
  have e:conF ar ep es fs[i]=.app lispB ⟨#[105,109,112,108,105,101,115]⟩ [.app lispB ⟨#[105,102]⟩ [consX,hdIs fs[i].1 fs[i].2,nilT],.app lispB ⟨#[101,113,117,97,108]⟩ [effT ep es,callT ep es fs[i].1 fs[i].2 (ar fs[i]).1]]:=rfl
  rw [hd,hdT_eq tree21 (t:=hh21[0]) rfl]
  rw [e] at hap hr ⊢
  simp (config := { maxSteps := 3000000 }) [-Int.natCast_add,-List.map_drop,hh21,h21_0,zL,hlt,rowY hir,h68,x64,x66,x63,h69,x61,x60,lits11,hap,hs,hr,encT_len]
set_option maxRecDepth 100000 in
theorem x21 (ha:Ars nat cw ar) (ep es:ByteArray) (fs:List Sy) (hm:fs.length < 1000) (hk:∀f∈fs,f∈known):
  fnT (T nat).G 21 [.v (.one cw),.v (.agg [cs ep,cs es]),.v (.one (rows enY fs))] []=some (if chk ar [] fs=0 then ([.one (rows encT (conL ar ep es fs)),.one (ci 0)],[]) else ([.one cz,.one (ci (chk ar [] fs))],[])):=by
 have h55:=x55 ha fs (by omega) hk
 have hp:=x67 (nat:=nat) 0 (by omega)
 simp only [Int.natCast_zero] at hp
 have hr:=x21loop ha ep es fs hm hk fs.length 0 [con1 ep es,con2 ep es] (by omega) rfl
 have hl:=lits22q (con1 ep es) (con2 ep es)
 have e1:con1 ep es=.app lispB ⟨#[105,109,112,108,105,101,115]⟩ [.app lispB ⟨#[115,121,109,98,111,108,112]⟩ [vX],.app lispB ⟨#[101,113,117,97,108]⟩ [.app ep es [vX,vA],lookT]]:=rfl
 have e2:con2 ep es=.app lispB ⟨#[105,109,112,108,105,101,115]⟩ [.app lispB ⟨#[105,102]⟩ [.app lispB ⟨#[99,111,110,115,112]⟩ [vX],hdIs lispB quoB,nilT],.app lispB ⟨#[101,113,117,97,108]⟩ [.app ep es [vX,vA],partT 0]]:=rfl
 have e3:effT ep es=.app ep es [vX,vA]:=rfl
 have e4:consX=.app lispB ⟨#[99,111,110,115,112]⟩ [vX]:=rfl
 simp only [List.drop_zero,Int.natCast_zero] at hr
 rw [fnT_eq tree21]
 by_cases h0:chk ar [] fs=0
 ·rw [if_pos h0]
  rw [h0] at h55
  have e5:[con1 ep es,con2 ep es]++fs.map (conF ar ep es)=conL ar ep es fs:=rfl
  rw [e5] at hr
  rw [e1,e2] at hl hr
  rw [e3,e4] at hr
  simp (config := { maxSteps := 9000000 }) [u21,u21_0,zL,h55,x57,x58,x56,lits11q,x59,x62,x61,x60,x65,x64,x66,x63,hp,lits22q,lenY,hr,encT_len]
 ·rw [if_neg h0]
  have hb:(chk ar [] fs==0)=false:=beq_eq_false_iff_ne.2 h0
  simp [u21,zL,h55,hb]
theorem x23loop (ha:Ars nat cw ar) (ep es:ByteArray) (fs:List Sy) (hm:fs.length < 1000) (hk:∀f∈fs,f∈known):∀(m i:Nat) (acc:List Tm),i+m=fs.length→acc.length=i+2→
  hdT (T nat).G 23 0 [.c cw,.c (rows enY fs),.c (ci i),.l [cs ep,cs es],.l (encT (effT ep es)),.c (rows encT acc)]=some ([.one (rows encT (acc++(fs.drop i).map (conF ar ep es))),.one (ci 0)],[])
 |0,i,acc,hi,hc=>by
  have hlt:¬((i:Int) < (fs.length:Int)):=by omega
  rw [hdT_eq tree23 (t:=hh23[0]) rfl,drop_end (by omega)]
  simp [hh23,zL,lenY,hlt]
 |m+1,i,acc,hi,hc=>by
  have hir:i < fs.length:=by omega
  have hlt:((i:Int) < (fs.length:Int)):=by omega
  obtain ⟨h3,h78,_⟩:=ha fs[i] (hk _ (List.getElem_mem hir))
  have h79:=x79 (nat:=nat) ep es fs[i].1 fs[i].2 (ar fs[i]).1 (by omega)
  have hs:=add_nat i (by omega)
  have hap:=app11 (acc:=acc) (x:=conF ar ep es fs[i]) (by omega)
  have hr:=x23loop ha ep es fs hm hk m (i+1) (acc++[conF ar ep es fs[i]]) (by omega) (by simp [hc])
  have hd:(fs.drop i).map (conF ar ep es)=conF ar ep es fs[i]::(fs.drop (i+1)).map (conF ar ep es):=by rw [drop_at hir,List.map_cons]
  have e:conF ar ep es fs[i]=.app lispB ⟨#[105,109,112,108,105,101,115]⟩ [.app lispB ⟨#[105,102]⟩ [.app lispB ⟨#[99,111,110,115,112]⟩ [vX],hdIs fs[i].1 fs[i].2,nilT],.app lispB ⟨#[101,113,117,97,108]⟩ [effT ep es,callT ep es fs[i].1 fs[i].2 (ar fs[i]).1]]:=rfl
  rw [hd,hdT_eq tree23 (t:=hh23[0]) rfl]
  rw [e] at hap hr ⊢
  simp (config := { maxSteps := 3000000 }) [-Int.natCast_add,-List.map_drop,hh23,h23_0,zL,lenY,hlt,rowY hir,h78,x75,h79,lits22q,x73,lits11,hap,hs,hr,encT_len]
set_option maxRecDepth 100000 in
theorem x23 (ha:Ars nat cw ar) (ep es:ByteArray) (fs:List Sy) (hm:fs.length < 1000) (hk:∀f∈fs,f∈known):
  fnT (T nat).G 23 [.v (.one cw),.v (.agg [cs ep,cs es]),.v (.one (rows enY fs))] []=some (if chk ar [] fs=0 then ([.one (rows encT (conL ar ep es fs)),.one (ci 0)],[]) else ([.one cz,.one (ci (chk ar [] fs))],[])):=by
 have h70:=x70 ha fs (by omega) hk
 have hp:=x77 (nat:=nat) 0 (by omega)
 simp only [Int.natCast_zero] at hp
 have hr:=x23loop ha ep es fs hm hk fs.length 0 [con1 ep es,con2 ep es] (by omega) rfl
 have e1:con1 ep es=.app lispB ⟨#[105,109,112,108,105,101,115]⟩ [.app lispB ⟨#[115,121,109,98,111,108,112]⟩ [vX],.app lispB ⟨#[101,113,117,97,108]⟩ [.app ep es [vX,vA],lookT]]:=rfl
 have e2:con2 ep es=.app lispB ⟨#[105,109,112,108,105,101,115]⟩ [.app lispB ⟨#[105,102]⟩ [.app lispB ⟨#[99,111,110,115,112]⟩ [vX],hdIs lispB quoB,nilT],.app lispB ⟨#[101,113,117,97,108]⟩ [.app ep es [vX,vA],partT 0]]:=rfl
 have e3:effT ep es=.app ep es [vX,vA]:=rfl
 simp only [List.drop_zero,Int.natCast_zero] at hr
 rw [fnT_eq tree23]
 by_cases h0:chk ar [] fs=0
 ·rw [if_pos h0]
  rw [h0] at h70
  have e5:[con1 ep es,con2 ep es]++fs.map (conF ar ep es)=conL ar ep es fs:=rfl
  rw [e5] at hr
  rw [e1,e2,e3] at hr
  simp (config := { maxSteps := 9000000 }) [u23,u23_0,zL,h70,x71x,x71a,lits22q,x72,lits11q,x73,x74,x76,x75,hp,hr,encT_len]
 ·rw [if_neg h0]
  have hb:(chk ar [] fs==0)=false:=beq_eq_false_iff_ne.2 h0
  simp [u23,zL,h70,hb]
end
end Go.Ey.Pr

set_option maxHeartbeats 4000000
namespace Go.Ey.Pr
open Go.Ey Go.Ey.Seat
def jk (a b c d z:W):List W:=[a,b,c,d,W.c ce,W.c ce,W.c cz,W.c (ci 0),W.c (ci 0),W.c ce,W.c ce,W.c (ci 0),W.c ce,W.c ce,W.c ce,W.c ce,W.c ce,W.c cz,W.c cz,W.c (ci 0),W.c ce,W.c ce,W.c (ci 0),W.c ce,W.c ce,W.c ce,W.c ce,W.c ce,W.c cz,W.c cz,W.c (ci 0),W.c ce,W.c ce,W.c (ci 0),W.c ce,W.c ce,W.c ce,W.c ce,W.c ce,W.c cz,W.c cz,z]
def jk2 (a b c d y z:W):List W:=[a,b,c,d,W.c ce,W.c ce,W.c cz,W.c (ci 0),W.c (ci 0),W.c ce,W.c ce,W.c (ci 0),W.c ce,W.c ce,W.c ce,W.c ce,W.c ce,W.c cz,W.c cz,W.c (ci 0),W.c ce,W.c ce,W.c (ci 0),W.c ce,W.c ce,W.c ce,W.c ce,W.c ce,W.c cz,W.c cz,W.c (ci 0),W.c ce,W.c ce,W.c (ci 0),W.c ce,W.c ce,W.c ce,W.c ce,W.c ce,W.c cz,W.c cz,y,z]
def zF:List C:=[ce,ce,cz,ci 0,ci 0,ce,ce,ci 0,ce,ce,ce,ce,ce,cz,cz,ci 0,ce,ce,ci 0,ce,ce,ce,ce,ce,cz,cz,ci 0,ce,ce,ci 0,ce,ce,ce,ce,ce,cz,cz]
def enF (p s:ByteArray) (ps:List Sy) (t u v:Tm):List C:=[cs p,cs s,rows enY ps,ci 1,nthC (encT t) 0,nthC (encT t) 1,nthC (encT t) 2,nthC (encT t) 3,nthC (encT t) 4,nthC (encT t) 5,nthC (encT t) 6,nthC (encT t) 7,nthC (encT t) 8,nthC (encT t) 9,nthC (encT t) 10,nthC (encT u) 0,nthC (encT u) 1,nthC (encT u) 2,nthC (encT u) 3,nthC (encT u) 4,nthC (encT u) 5,nthC (encT u) 6,nthC (encT u) 7,nthC (encT u) 8,nthC (encT u) 9,nthC (encT u) 10,nthC (encT v) 0,nthC (encT v) 1,nthC (encT v) 2,nthC (encT v) 3,nthC (encT v) 4,nthC (encT v) 5,nthC (encT v) 6,nthC (encT v) 7,nthC (encT v) 8,nthC (encT v) 9,nthC (encT v) 10]
def foldF (ar:Sy→Nat×Bool) (ep es:ByteArray):List Sy→Tm
 |[]=>nilT
 |f::fs=>ifT (hdIs f.1 f.2) (callT ep es f.1 f.2 (ar f).1) (foldF ar ep es fs)
def bodyF (t:Tm):Tm:=ifT consX (ifT (hdIs lispB quoB) (partT 0) t) (ifT symX lookT nilT)
def measT:Tm:=.app lispB ⟨#[99,111,117,110,116]⟩ [vX]
def witF (ar:Sy→Nat×Bool) (ep es:ByteArray) (fs:List Sy):List C:=enF ep es [(lispB,⟨#[120]⟩),(lispB,⟨#[97]⟩)] (.con oT) (bodyF (foldF ar ep es fs)) measT
theorem lits2Y:litsC 2 2 [cs lispB,cs ⟨#[120]⟩,cs lispB,cs ⟨#[97]⟩]=some (rows enY [(lispB,⟨#[120]⟩),(lispB,⟨#[97]⟩)]):=by simp [litsC,roomMax,rows,enY]
section
variable {nat:Nat→List V→Option (List V)} {cw:C} {ar:Sy→Nat×Bool}
set_option maxRecDepth 100000 in
theorem x24end (L:C) (ep es:ByteArray) (t:Tm):hdT (T nat).G 24 0 [.c cw,.c L,.c (ci (-1)),.l [cs ep,cs es],W.c ce,W.c ce,W.c cz,W.c (ci 0),W.c (ci 0),W.c ce,W.c ce,W.c (ci 0),W.c ce,W.c ce,W.c ce,W.c ce,W.c ce,W.c cz,W.c cz,W.c (ci 0),W.c ce,W.c ce,W.c (ci 0),W.c ce,W.c ce,W.c ce,W.c ce,W.c ce,W.c cz,W.c cz,W.c (ci 0),W.c ce,W.c ce,W.c (ci 0),W.c ce,W.c ce,W.c ce,W.c ce,W.c ce,W.c cz,W.c cz,.l (encT t)]=some ([.agg (enF ep es [(lispB,⟨#[120]⟩),(lispB,⟨#[97]⟩)] (.con oT) (bodyF t) measT),.one (ci 0)],[]):=by
 have hp:=x67 (nat:=nat) 0 (by omega)
 simp only [Int.natCast_zero] at hp
 rw [hdT_eq tree24 (t:=hh24[0]) rfl]
 have e1:bodyF t=.app lispB ⟨#[105,102]⟩ [.app lispB ⟨#[99,111,110,115,112]⟩ [vX],.app lispB ⟨#[105,102]⟩ [hdIs lispB quoB,partT 0,t],.app lispB ⟨#[105,102]⟩ [.app lispB ⟨#[115,121,109,98,111,108,112]⟩ [vX],lookT,nilT]]:=rfl
 have e2:measT=.app lispB ⟨#[99,111,117,110,116]⟩ [vX]:=rfl
 rw [e1,e2]
 simp (config := { maxSteps := 9000000 }) [hh24,h24_1,zL,x65,x64,x57,hp,x63,lits11q,x59,x62,x66,lits2Y,x80,enF,encT_len]
set_option maxRecDepth 100000 in
theorem x24loop (ha:Ars nat cw ar) (ep es:ByteArray) (fs:List Sy) (hm:fs.length < 1000) (hk:∀f∈fs,f∈known):∀k:Nat,k≤fs.length→
  hdT (T nat).G 24 0 (jk (.c cw) (.c (rows enY fs)) (.c (ci ((k:Int) - 1))) (.l [cs ep,cs es]) (.l (encT (foldF ar ep es (fs.drop k)))))=some ([.agg (witF ar ep es fs),.one (ci 0)],[])
 |0,_=>by
  have h:=x24end (nat:=nat) (cw:=cw) (rows enY fs) ep es (foldF ar ep es fs)
  exact h
 |k+1,hk'=>by
  have hkr:k < fs.length:=by omega
  have he:(((k+1:Nat):Int) - 1)=(k:Int):=by omega
  obtain ⟨h3,_,h68⟩:=ha fs[k] (hk _ (List.getElem_mem hkr))
  have h69:=x69 (nat:=nat) ep es fs[k].1 fs[k].2 (ar fs[k]).1 (by omega)
  have hs:binC .sub false (ci (k:Int)) (ci 1)=some (ci ((k:Int) - 1)):=sub_ci (by omega) (by omega)
  have hi:=x24loop ha ep es fs hm hk k (by omega)
  have e:foldF ar ep es (fs.drop k)=.app lispB ⟨#[105,102]⟩ [hdIs fs[k].1 fs[k].2,callT ep es fs[k].1 fs[k].2 (ar fs[k]).1,foldF ar ep es (fs.drop (k+1))]:=by rw [drop_at hkr];rfl
  rw [e] at hi
  generalize foldF ar ep es (fs.drop (k+1))=rest at hi ⊢
  simp only [jk] at hi ⊢
  have hge:(0:Int)≤(k:Int):=by omega
  rw [he,hdT_eq tree24 (t:=hh24[0]) rfl]
  simp (config := { maxSteps := 9000000 }) [-Int.natCast_add,hh24,h24_0,zL,hge,rowY hkr,h68,x64,h69,x63,hs,hi,encT_len]
theorem x24 (ha:Ars nat cw ar) (ep es:ByteArray) (fs:List Sy) (hm:fs.length < 1000) (hk:∀f∈fs,f∈known):
  fnT (T nat).G 24 [.v (.one cw),.v (.agg [cs ep,cs es]),.v (.one (rows enY fs))] []=some (if chk ar [] fs=0 then ([.agg (witF ar ep es fs),.one (ci 0)],[]) else ([.agg zF,.one (ci (chk ar [] fs))],[])):=by
 have h55:=x55 ha fs (by omega) hk
 have hs:binC .sub false (ci (fs.length:Int)) (ci 1)=some (ci ((fs.length:Int) - 1)):=sub_ci (by omega) (by omega)
 have hi:=x24loop ha ep es fs hm hk fs.length (Nat.le_refl _)
 rw [drop_end (by omega),foldF] at hi
 simp only [jk] at hi
 rw [fnT_eq tree24]
 by_cases h0:chk ar [] fs=0
 ·rw [if_pos h0]
  rw [h0] at h55
  simp (config := { maxSteps := 9000000 }) [u24,u24_1,zL,h55,x66,lenY,hs,hi,encT_len]
 ·rw [if_neg h0]
  have hb:(chk ar [] fs==0)=false:=beq_eq_false_iff_ne.2 h0
  simp (config := { maxSteps := 9000000 }) [u24,u24_0,zL,h55,hb,zF]
set_option maxRecDepth 100000 in
theorem x25end (L:C) (ep es:ByteArray) (t:Tm):hdT (T nat).G 25 0 [.c cw,.c L,.c (ci (-1)),.l [cs ep,cs es],W.c ce,W.c ce,W.c cz,W.c (ci 0),W.c (ci 0),W.c ce,W.c ce,W.c (ci 0),W.c ce,W.c ce,W.c ce,W.c ce,W.c ce,W.c cz,W.c cz,W.c (ci 0),W.c ce,W.c ce,W.c (ci 0),W.c ce,W.c ce,W.c ce,W.c ce,W.c ce,W.c cz,W.c cz,W.c (ci 0),W.c ce,W.c ce,W.c (ci 0),W.c ce,W.c ce,W.c ce,W.c ce,W.c ce,W.c cz,W.c cz,.l (encT vX),.l (encT t)]=some ([.agg (enF ep es [(lispB,⟨#[120]⟩),(lispB,⟨#[97]⟩)] (.con oT) (bodyF t) measT),.one (ci 0)],[]):=by
 have hp:=x77 (nat:=nat) 0 (by omega)
 simp only [Int.natCast_zero] at hp
 rw [hdT_eq tree25 (t:=hh25[0]) rfl]
 have e1:bodyF t=.app lispB ⟨#[105,102]⟩ [.app lispB ⟨#[99,111,110,115,112]⟩ [vX],.app lispB ⟨#[105,102]⟩ [.app lispB ⟨#[101,113,117,97,108]⟩ [.app lispB ⟨#[99,97,114]⟩ [vX],.con (.sy lispB quoB)],partT 0,t],.app lispB ⟨#[105,102]⟩ [.app lispB ⟨#[115,121,109,98,111,108,112]⟩ [vX],lookT,nilT]]:=rfl
 have e2:measT=.app lispB ⟨#[99,111,117,110,116]⟩ [vX]:=rfl
 rw [e1,e2]
 simp (config := { maxSteps := 9000000 }) [hh25,h25_1,zL,x76,x82,x73,hp,lits11q,lits22q,lits33q,x74,x81,lits2Y,x46,x83,enF,enc_len,encT_len]
set_option maxRecDepth 100000 in
theorem x25loop (ha:Ars nat cw ar) (ep es:ByteArray) (fs:List Sy) (hm:fs.length < 1000) (hk:∀f∈fs,f∈known):∀k:Nat,k≤fs.length→
  hdT (T nat).G 25 0 (jk2 (.c cw) (.c (rows enY fs)) (.c (ci ((k:Int) - 1))) (.l [cs ep,cs es]) (.l (encT vX)) (.l (encT (foldF ar ep es (fs.drop k)))))=some ([.agg (witF ar ep es fs),.one (ci 0)],[])
 |0,_=>by
  have h:=x25end (nat:=nat) (cw:=cw) (rows enY fs) ep es (foldF ar ep es fs)
  exact h
 |k+1,hk'=>by
  have hkr:k < fs.length:=by omega
  have he:(((k+1:Nat):Int) - 1)=(k:Int):=by omega
  obtain ⟨h3,h78,_⟩:=ha fs[k] (hk _ (List.getElem_mem hkr))
  have h79:=x79 (nat:=nat) ep es fs[k].1 fs[k].2 (ar fs[k]).1 (by omega)
  have hs:binC .sub false (ci (k:Int)) (ci 1)=some (ci ((k:Int) - 1)):=sub_ci (by omega) (by omega)
  have hi:=x25loop ha ep es fs hm hk k (by omega)
  have e:foldF ar ep es (fs.drop k)=.app lispB ⟨#[105,102]⟩ [.app lispB ⟨#[101,113,117,97,108]⟩ [.app lispB ⟨#[99,97,114]⟩ [vX],.con (.sy fs[k].1 fs[k].2)],callT ep es fs[k].1 fs[k].2 (ar fs[k]).1,foldF ar ep es (fs.drop (k+1))]:=by rw [drop_at hkr];rfl
  rw [e] at hi
  generalize foldF ar ep es (fs.drop (k+1))=rest at hi ⊢
  simp only [jk2] at hi ⊢
  have hge:(0:Int)≤(k:Int):=by omega
  rw [he,hdT_eq tree25 (t:=hh25[0]) rfl]
  simp (config := { maxSteps := 9000000 }) [-Int.natCast_add,hh25,h25_0,zL,hge,rowY hkr,h78,lits11q,x73,x82,lits22q,h79,lits33q,hs,hi,encT_len]
theorem x25 (ha:Ars nat cw ar) (ep es:ByteArray) (fs:List Sy) (hm:fs.length < 1000) (hk:∀f∈fs,f∈known):
  fnT (T nat).G 25 [.v (.one cw),.v (.agg [cs ep,cs es]),.v (.one (rows enY fs))] []=some (if chk ar [] fs=0 then ([.agg (witF ar ep es fs),.one (ci 0)],[]) else ([.agg zF,.one (ci (chk ar [] fs))],[])):=by
 have h70:=x70 ha fs (by omega) hk
 have hs:binC .sub false (ci (fs.length:Int)) (ci 1)=some (ci ((fs.length:Int) - 1)):=sub_ci (by omega) (by omega)
 have hi:=x25loop ha ep es fs hm hk fs.length (Nat.le_refl _)
 rw [drop_end (by omega),foldF] at hi
 simp only [jk2] at hi
 rw [fnT_eq tree25]
 by_cases h0:chk ar [] fs=0
 ·rw [if_pos h0]
  rw [h0] at h70
  simp (config := { maxSteps := 9000000 }) [u25,u25_1,zL,h70,x71x,x81,lenY,hs,hi,encT_len]
 ·rw [if_neg h0]
  have hb:(chk ar [] fs==0)=false:=beq_eq_false_iff_ne.2 h0
  simp (config := { maxSteps := 9000000 }) [u25,u25_0,zL,h70,hb,zF]
end
end Go.Ey.Pr

set_option maxHeartbeats 4000000
namespace Go.Ey.Pr
open Go.Ey Go.Ey.Seat
theorem call_nodes (ep es p s:ByteArray) {n:Nat} (h:n≤3):nodesT (callT ep es p s n)≤40:=by
 have:n=0∨n=1∨n=2∨n=3:=by omega
 rcases this with rfl|rfl|rfl|rfl<;>simp [callT,callArgs,List.range_succ,nodesT,nodesTs,partT,tailT,vX,vA]
theorem conF_nodes {ar:Sy→Nat×Bool} {f:Sy} (ep es:ByteArray) (h:(ar f).1≤3):nodesT (conF ar ep es f)≤3000:=by
 have:=call_nodes ep es f.1 f.2 h
 simp only [conF,implT,ifT,eqlT,effT,consX,hdIs,nilT,oNil,vX,vA,nodesT,nodesTs,szO]
 omega
theorem fold_nodes {ar:Sy→Nat×Bool} (ep es:ByteArray):∀{fs:List Sy},(∀f∈fs,(ar f).1≤3)→nodesT (foldF ar ep es fs)≤fs.length * 60+1
 |[],_=>by simp [foldF,nilT,oNil,nodesT,szO]
 |f::fs,h=>by
  have h1:=call_nodes ep es f.1 f.2 (h f (by simp))
  have h2:=fold_nodes ep es (fs:=fs) fun g hg=>h g (by simp [hg])
  simp only [foldF,ifT,hdIs,vX,nodesT,nodesTs,szO,List.length_cons]
  omega
theorem body_nodes {t:Tm} (h:nodesT t≤2000):nodesT (bodyF t)≤3000:=by
 simp only [bodyF,ifT,hdIs,consX,symX,lookT,nilT,oNil,vX,vA,partT,tailT,nodesT,nodesTs,szO]
 omega
section
variable {nat:Nat→List V→Option (List V)}
theorem x84n:∀(n:Nat),n≤3000→∀a:Tm,nodesT a≤n→∀b,fnT (T nat).G 84 [.v (.agg (encT a)),.v (.agg (encT b))] []=some ([.one (cb (eqT a b))],[])
 |0,_,a,ha,_=>by have:=nodesT_pos a;omega
 |n+1,hn,.var p s,_,b=>by
  rw [fnT_eq tree84]
  cases b with
  |var p' s'=>cases h1:(decide (p=p') && decide (s=s'))<;>simp [t84,zZ,encT,eqT,x11z,yes,x146n,h1]
  |con o=>simp [t84,zZ,encT,eqT]
  |app p' s' ts'=>simp [t84,zZ,encT_app,eqT];simp [encT,zZ]
 |n+1,hn,.con o,_,b=>by
  rw [fnT_eq tree84]
  cases b with
  |con o'=>
   simp only [encT]
   cases h1:eqO o o'<;>simp [t84,zZ,eqT,x11,yes,x146n,h1,nth7]
  |var p' s'=>simp [t84,zZ,encT,eqT]
  |app p' s' ts'=>simp [t84,zZ,encT_app,eqT];simp [encT,zZ]
 |n+1,hn,.app p s ts,ha,b=>by
  simp only [nodesT] at ha
  have hl:=len_nodes ts
  rw [fnT_eq tree84,encT_app]
  cases b with
  |app p' s' ts'=>
   have h3:=x146 (nat:=nat) ts ts' (by omega) (fun t ht=>x84n n (by omega) t (by have:=mem_nodes ht;omega))
   rw [encT_app]
   cases h1:(decide (p=p') && decide (s=s'))<;>simp [t84,zZ,eqT,x11z,yes,h3,h1]
  |var p' s'=>simp [t84,zZ,encT,eqT]
  |con o=>simp [t84,zZ,encT,eqT]
theorem x84y {a:Tm} (h:nodesT a≤3000):fnT (T nat).G 84 [.v (.agg (encT a)),.v (.agg (encT a))] []=some ([.one (cb true)],[]):=by
 rw [x84n 3000 (Nat.le_refl _) a h a,eqT_refl]
theorem x26tl (ts:List Tm) (hm:ts.length < 100000) (h:∀t∈ts,nodesT t≤3000):∀(m k:Nat),k+m=ts.length→
  hdT (T nat).G 26 0 [.c (rows encT ts),.c (rows encT ts),.c (ci k)]=some ([.one (cb true)],[])
 |0,k,hk=>by
  have hlt:¬((k:Int) < (ts.length:Int)):=by omega
  rw [hdT_eq tree26 (t:=t26.heads[0]) rfl]
  simp [t26,zZ,hlt,len11]
 |m+1,k,hk'=>by
  have hkr:k < ts.length:=by omega
  have hlt:((k:Int) < (ts.length:Int)):=by omega
  have hc:=x84y (nat:=nat) (h ts[k] (List.getElem_mem hkr))
  have hs:=add_nat k (by omega)
  have hi:=x26tl ts hm h m (k+1) (by omega)
  rw [hdT_eq tree26 (t:=t26.heads[0]) rfl]
  simp [-Int.natCast_add,t26,zZ,hlt,len11,row11 hkr,hc,hs,hi,encT_len]
theorem x26t (ts:List Tm) (hm:ts.length < 100000) (h:∀t∈ts,nodesT t≤3000):fnT (T nat).G 26 [.v (.one (rows encT ts)),.v (.one (rows encT ts))] []=some ([.one (cb true)],[]):=by
 have h3:=x26tl (nat:=nat) ts hm h ts.length 0 (by omega)
 simp only [Int.natCast_zero] at h3
 rw [fnT_eq tree26]
 simp [t26,zZ,len11,h3]
theorem x26z:fnT (T nat).G 26 [.v (.one cz),.v (.one cz)] []=some ([.one (cb true)],[]):=by
 have:=x26t (nat:=nat) [] (by simp) (fun t h=>by cases h)
 rwa [rows_nil] at this
set_option maxRecDepth 100000 in
theorem x27loop (p s:ByteArray) (ps:List Sy) (hm:ps.length < 1000) (t u v:Tm) (ht:nodesT t≤3000) (hu:nodesT u≤3000) (hv:nodesT v≤3000):∀(m k:Nat),k+m=ps.length→
  hdT (T nat).G 27 0 [.c (ci k),.l (enF p s ps t u v),.l (enF p s ps t u v)]=some ([.one (cb true)],[])
 |0,k,hk=>by
  have hlt:¬((k:Int) < (ps.length:Int)):=by omega
  have h1:=x84y (nat:=nat) ht
  have h2:=x84y (nat:=nat) hu
  have h3:=x84y (nat:=nat) hv
  rw [←nth11 t] at h1
  rw [←nth11 u] at h2
  rw [←nth11 v] at h3
  rw [hdT_eq tree27 (t:=t27.heads[0]) rfl]
  simp (config := { maxSteps := 9000000 }) [t27,zL,enF,lenY,hlt,h1,h2,h3]
 |m+1,k,hk=>by
  have hkr:k < ps.length:=by omega
  have hlt:((k:Int) < (ps.length:Int)):=by omega
  have hs:=add_nat k (by omega)
  have hi:=x27loop p s ps hm t u v ht hu hv m (k+1) (by omega)
  simp only [enF] at hi
  rw [hdT_eq tree27 (t:=t27.heads[0]) rfl]
  simp (config := { maxSteps := 9000000 }) [-Int.natCast_add,t27,zL,enF,lenY,hlt,rowY hkr,hs,hi]
set_option maxRecDepth 100000 in
theorem x27 (p s:ByteArray) (ps:List Sy) (hm:ps.length < 1000) (t u v:Tm) (ht:nodesT t≤3000) (hu:nodesT u≤3000) (hv:nodesT v≤3000):
  fnT (T nat).G 27 [.v (.agg (enF p s ps t u v)),.v (.agg (enF p s ps t u v))] []=some ([.one (cb true)],[]):=by
 have hi:=x27loop (nat:=nat) p s ps hm t u v ht hu hv ps.length 0 (by omega)
 simp only [enF,Int.natCast_zero] at hi
 rw [fnT_eq tree27]
 simp (config := { maxSteps := 9000000 }) [t27,zL,enF,lenY,hi]
def zK:List K:=[kI 0,kE,kE,kI 0,kE,kE,kE,kE,kE,kz,kz]
theorem rk_zT:RKs zK zT:=.cons (RK.i _ _) (.cons rkE (.cons rkE (.cons (RK.i _ _) (.cons rkE (.cons rkE (.cons rkE (.cons rkE (.cons rkE (.cons rkZ (.cons rkZ .nil))))))))))
theorem run84:isYes ((krun kgD 3000).fn 84 [.l 11 zK,.l 11 zK] [])=true:=by kernel_rfl
theorem psig84:(T nat).psig 84=some [.agg 11,.agg 11]:=by kernel_rfl
theorem f84 (hn:NatI nat) {m:Nat} (h:isYes ((krun kgD m).fn 84 [.l 11 zK,.l 11 zK] [])=true):fnT (T nat).G 84 [.v (.agg zT),.v (.agg zT)] []=some ([.one (cb true)],[]):=by
 obtain ⟨c,b,e⟩:=kc1 hn psig84 (ts:=[.v (.agg (.all 0)),.v (.agg (.all 0))]) rfl (ys:=[.l 11 zK,.l 11 zK]) (us:=[.v (.agg zT),.v (.agg zT)]) ⟨⟨rk_zT,rfl⟩,⟨rk_zT,rfl⟩,trivial⟩ (isYes_eq h)
 rw [b.bool] at e
 exact e
set_option maxRecDepth 100000 in
theorem x27z (hn:NatI nat):fnT (T nat).G 27 [.v (.agg zF),.v (.agg zF)] []=some ([.one (cb true)],[]):=by
 have h1:=f84 hn run84
 simp only [zT] at h1
 have hi:hdT (T nat).G 27 0 [.c (ci 0),.l zF,.l zF]=some ([.one (cb true)],[]):=by
  rw [hdT_eq tree27 (t:=t27.heads[0]) rfl]
  simp (config := { maxSteps := 9000000 }) [t27,zL,zF,h1]
 simp only [zF] at hi
 rw [fnT_eq tree27]
 simp (config := { maxSteps := 9000000 }) [t27,zL,zF,hi]
def cu (n:Int):C:=.lit (.int .u8 n)
theorem kU (n:Int):C.lit (.int .u8 n)=cu n:=rfl
theorem eql_cu (a b:Int):binC .eql false (cu a) (cu b)=some (cb (a==b)):=by simp [binC,cu,cb,binV,isShift,intBin]
theorem rem_cu {a b:Int} (h:b≠0):binC .rem false (cu a) (cu b)=some (cu (a.tmod b)):=by
 simp [binC,cu,binV,isShift,intBin,h]
structure Fin5 (nat:Nat→List V→Option (List V)) (cw:C) (fs:List Sy) (c:Int) (A:C) (F:List C):Prop where
 e21:fnT (T nat).G 21 [.v (.one cw),.v (.agg [cs ⟨#[117,115,101,114]⟩,cs ⟨#[101,118]⟩]),.v (.one (rows enY fs))] []=some ([.one A,.one (ci c)],[])
 e23:fnT (T nat).G 23 [.v (.one cw),.v (.agg [cs ⟨#[117,115,101,114]⟩,cs ⟨#[101,118]⟩]),.v (.one (rows enY fs))] []=some ([.one A,.one (ci c)],[])
 e24:fnT (T nat).G 24 [.v (.one cw),.v (.agg [cs ⟨#[117,115,101,114]⟩,cs ⟨#[101,118]⟩]),.v (.one (rows enY fs))] []=some ([.agg F,.one (ci c)],[])
 e25:fnT (T nat).G 25 [.v (.one cw),.v (.agg [cs ⟨#[117,115,101,114]⟩,cs ⟨#[101,118]⟩]),.v (.one (rows enY fs))] []=some ([.agg F,.one (ci c)],[])
 len:F.length=37
 e26:fnT (T nat).G 26 [.v (.one A),.v (.one A)] []=some ([.one (cb true)],[])
 e27:fnT (T nat).G 27 [.v (.agg F),.v (.agg F)] []=some ([.one (cb true)],[])
theorem fin5 (hn:NatI nat) {cw:C} {ar:Sy→Nat×Bool} (ha:Ars nat cw ar) (fs:List Sy) (hm:fs.length≤20) (hk:∀f∈fs,f∈known):∃c A F,Fin5 nat cw fs c A F:=by
 have h1:=x21 ha ⟨#[117,115,101,114]⟩ ⟨#[101,118]⟩ fs (by omega) hk
 have h2:=x23 ha ⟨#[117,115,101,114]⟩ ⟨#[101,118]⟩ fs (by omega) hk
 have h3:=x24 ha ⟨#[117,115,101,114]⟩ ⟨#[101,118]⟩ fs (by omega) hk
 have h4:=x25 ha ⟨#[117,115,101,114]⟩ ⟨#[101,118]⟩ fs (by omega) hk
 have h3':∀f∈fs,(ar f).1≤3:=fun f hf=>(ha f (hk f hf)).1
 by_cases h0:chk ar [] fs=0
 ·rw [if_pos h0] at h1 h2 h3 h4
  refine ⟨_,_,_,h1,h2,h3,h4,rfl,x26t _ (by simp only [conL,List.length_cons,List.length_map];omega) fun t ht=>?_,x27 _ _ _ (by simp) _ _ _ (by simp [nodesT,oT,szO]) (body_nodes ?_) (by simp [measT,vX,nodesT,nodesTs])⟩
  ·simp only [conL,List.mem_cons,List.mem_map] at ht
   rcases ht with rfl|rfl|⟨f,hf,rfl⟩
   ·simp [con1,implT,symX,eqlT,effT,lookT,nilT,oNil,vX,vA,nodesT,nodesTs,szO]
   ·simp [con2,implT,ifT,consX,hdIs,nilT,oNil,eqlT,effT,partT,tailT,vX,vA,nodesT,nodesTs,szO]
   ·exact conF_nodes _ _ (h3' f hf)
  ·have:=fold_nodes (ar:=ar) ⟨#[117,115,101,114]⟩ ⟨#[101,118]⟩ h3'
   omega
 ·rw [if_neg h0] at h1 h2 h3 h4
  exact ⟨_,_,_,h1,h2,h3,h4,rfl,x26z,x27z hn⟩
theorem x5 (hn:NatI nat) (hl:fnT (T nat).G 6 [] []=some yes) (bs:List UInt8) (k:UInt8):fnT (T nat).G 5 [.v (.one (rows encB bs)),.v (.one (cu k.toNat))] []=some yes:=by
 simp only [yes] at hl
 rw [fnT_eq tree5]
 by_cases hb:bs.length≤10
 ·have hg:¬(10:Int) < (bs.length:Int):=by omega
  obtain ⟨cw,hw,h7⟩:=lworld (nat:=nat) hn
  obtain ⟨ar,ha⟩:=ars hn hw
  obtain ⟨l,h18,l1,l2,l3⟩:=x18 (nat:=nat) bs hb
  have hr:binC .rem false (cu (k.toNat:Int)) (cu 8)=some (cu ((k.toNat:Int).tmod 8)):=rem_cu (by omega)
  have hk:∀f∈l,f∈known:=fun f hf=>List.mem_cons_of_mem _ (List.mem_cons_of_mem _ (l3 f hf))
  have hk2:∀{x:Sy},x∈known→∀f∈l++[x],f∈known:=fun hx f hf=>by
   rcases List.mem_append.1 hf with hf|hf
   ·exact hk f hf
   ·simp only [List.mem_singleton] at hf;subst hf;exact hx
  have h0l:0 < l.length:=List.length_pos_iff.2 l2
  generalize (k.toNat:Int).tmod 8=r at hr
  by_cases r1:r=1
  ·subst r1
   obtain ⟨c,A,F,f⟩:=fin5 hn ha (l++[l[0]]) (by simp;omega) (hk2 (hk _ (List.getElem_mem h0l)))
   obtain ⟨e21,e23,e24,e25,len,e26,e27⟩:=f
   have hap:=appY (acc:=l) (f:=l[0]) (by omega)
   have hrow:=rowY h0l
   simp only [Int.natCast_zero] at hrow
   simp (config := { maxSteps := 9000000 }) [u5,u5_8,u5_7,u5_0,zL,kU,hl,lenB,hg,h7,h18,hr,eql_cu,hrow,litsY,hap,x22,e21,e23,e24,e25,len,e26,e27,yes]
  ·by_cases r2:r=2
   ·subst r2
    obtain ⟨c,A,F,f⟩:=fin5 hn ha (l++[(usr,⟨#[117,110,107,110,111,119,110]⟩)]) (by simp;omega) (hk2 (List.mem_cons_self))
    obtain ⟨e21,e23,e24,e25,len,e26,e27⟩:=f
    have hap:=appY (acc:=l) (f:=(usr,⟨#[117,110,107,110,111,119,110]⟩)) (by omega)
    simp (config := { maxSteps := 9000000 }) [u5,u5_8,u5_6,u5_1,zL,kU,hl,lenB,hg,h7,h18,hr,eql_cu,x19u,litsP,hap,x22,e21,e23,e24,e25,len,e26,e27,yes]
   ·by_cases r3:r=3
    ·subst r3
     obtain ⟨c,A,F,f⟩:=fin5 hn ha (l++[(lispB,quoB)]) (by simp;omega) (hk2 (List.mem_cons_of_mem _ List.mem_cons_self))
     obtain ⟨e21,e23,e24,e25,len,e26,e27⟩:=f
     have hap:=appY (acc:=l) (f:=(lispB,quoB)) (by omega)
     simp (config := { maxSteps := 9000000 }) [u5,u5_8,u5_4,u5_2,zL,kU,hl,lenB,hg,h7,h18,hr,eql_cu,x20,litsP,hap,x22,e21,e23,e24,e25,len,e26,e27,yes]
    ·have b1:(r==1)=false:=beq_eq_false_iff_ne.2 r1
     have b2:(r==2)=false:=beq_eq_false_iff_ne.2 r2
     have b3:(r==3)=false:=beq_eq_false_iff_ne.2 r3
     obtain ⟨c,A,F,f⟩:=fin5 hn ha l (by omega) hk
     obtain ⟨e21,e23,e24,e25,len,e26,e27⟩:=f
     simp (config := { maxSteps := 9000000 }) [u5,u5_8,u5_5,u5_3,zL,kU,hl,lenB,hg,h7,h18,hr,eql_cu,b1,b2,b3,x22,e21,e23,e24,e25,len,e26,e27,yes]
 ·have hg:(10:Int) < (bs.length:Int):=by omega
  simp [u5,zL,hl,lenB,hg,yes]
end
end Go.Ey.Pr

set_option maxHeartbeats 4000000
namespace Go.Ey.Pr
open Go Go.Ey Go.Ey.Seat
theorem fok5 (bs:List UInt8) (k:UInt8):FnOK PP 5 [.one (rows encB bs),.one (cu k.toNat)] [.one (cb true)]:=by
 obtain ⟨m,h9,hm,ha⟩:=whole
 exact (seat_ok h9 hm).fn (by kernel_rfl) (x5 (natF h9).i (lisT ha) bs k)
end Go.Ey.Pr

namespace Go.Proofs.YtpginbppmgdndaaGreatDoor.facts5
open Go.Proofs.YtpginbppmgdndaaGreatDoor
open Go
set_option linter.unusedVariables false
theorem clo:Tryz.prog.closure 5=[5,6,18,20,54,134,135,19,28,7,32,92,154,155,153,192,193,225,248,249,226,250,251,284,268,252,253,254,255,256,129,177,210,178,179,211,212,213,180,257,194,50,227,258,49,94,14,44,45,228,195,229,93,51,130,131,11,46,83,156,196,216,218,240,198,87,230,259,162,231,260,285,232,233,234,235,261,286,287,288,47,128,176,209,238,264,265,291,290,292,266,267,293,294,322,323,48,263,262,289,319,78,144,186,114,166,167,106,320,321,332,343,344,345,357,346,347,358,348,349,359,333,350,361,363,360,351,352,362,364,365,366,367,353,217,239,236,72,133,181,214,161,182,215,183,157,95,158,33,29,30,73,96,88,86,97,98,99,100,34,101,102,159,107,35,103,160,197,84,146,104,105,108,163,109,164,199,110,111,112,165,113,115,168,85,71,76,82,148,147,81,22,23,70,74,75,77,79,40,89,31,43,126,170,200,149,187,171,201,172,202,204,119,90,150,188,189,221,241,269,295,222,242,223,243,244,270,296,324,334,335,325,336,354,337,338,355,339,297,271,298,300,301,299,274,272,302,326,340,303,304,245,273,190,121,145,203,205,237,206,127,174,175,208,173,207,10,38,120,39,122,91,151,136,152,191,224,142,246,143,184,185,220,219,124,247,275,305,280,312,306,307,327,341,356,328,329,309,308,276,277,278,279,310,311,330,342,281,282,313,331,283,314,315,316,317,318,13,41,123,42,125,169,15,26,21,55,68,65,139,57,137,58,56,59,62,66,140,63,61,60,64,138,67,141,69,24,80,25,27]:=by kernel_rfl
abbrev c:OpenClaim:=Rows.processorConstraintsRow
abbrev s:ChangeSpec:=Rows.processorConstraintsSpec
theorem unf:Tryz.prog.unfollowed 5=true:=by
 unfold Program.unfollowed
 rw [clo]
 kernel_rfl
theorem inp:Tryz.prog.inPlace 5=["internal/abi.NoEscape"]:=by
 unfold Program.inPlace
 rw [clo]
 kernel_rfl
theorem recs:Tryz.prog.recurses 5=true:=by
 unfold Program.recurses
 rw [unf]
 rfl
theorem vars:Tryz.prog.varsNamed 5=["internal/strconv.uint64pow10", "math/bits.deBruijn32tab", "math/bits.deBruijn64tab", "strconv.ErrSyntax", "strconv.ErrRange"]:=by
 unfold Program.varsNamed
 rw [clo]
 kernel_rfl
theorem named:Tryz.prog.funcNamed "lispprover/lispproverlaw41.ProcessorConstraints"=some 5:=by kernel_rfl
theorem noGo:Tryz.prog.goes 5=false:=by
 unfold Program.goes
 rw [clo,unf]
 kernel_rfl
theorem goesBy:c.goesBy Tryz.prog=false:=by
 unfold OpenClaim.goesBy Program.goesAt Program.goesFrom
 show ((Tryz.prog.funcNamed "lispprover/lispproverlaw41.ProcessorConstraints").any Tryz.prog.goes||false)=false
 rw [named,Option.any_some,noGo]
 rfl
theorem closed:joinedFacts Tryz.prog 5 Tryz.f5 s c=true:=by
 unfold joinedFacts
 rw [inp,unf,recs,vars]
 simp only [Bool.and_eq_true]
 refine ⟨⟨⟨⟨⟨⟨⟨⟨⟨⟨⟨⟨⟨⟨⟨⟨⟨⟨⟨⟨⟨⟨⟨⟨⟨⟨⟨⟨⟨⟨⟨?_,?_⟩,?_⟩,?_⟩,?_⟩,?_⟩,?_⟩,?_⟩,?_⟩,?_⟩,?_⟩,?_⟩,?_⟩,?_⟩,?_⟩,?_⟩,?_⟩,?_⟩,?_⟩,?_⟩,?_⟩,?_⟩,?_⟩,?_⟩,?_⟩,?_⟩,?_⟩,?_⟩,?_⟩,?_⟩,?_⟩,?_⟩
 all_goals kernel_rfl
end Go.Proofs.YtpginbppmgdndaaGreatDoor.facts5
