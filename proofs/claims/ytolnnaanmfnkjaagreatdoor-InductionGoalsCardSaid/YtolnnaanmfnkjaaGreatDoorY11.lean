/- A part. -/
import Derived.Test.YtolnnaanmfnkjaaGreatDoorY02
import Derived.Test.YtolnnaanmfnkjaaGreatDoorY08
import Derived.Laws.StructEq
set_option linter.all false
namespace Go.Ey
open Go.RowKit
section
variable {B:Nat} {S:Nat->Nat->Prop} {P:Program} {o:Oper} {a:Act} {m:M} {slot:Nat} {ρ:X->D} {d:D} {us:List (Nat×Obj)}
theorem aha {w:World} {Sf:Nat->Nat->Prop} {t:TypeId} {k:Nat} (ht:kH P t=some k) (dd:Nat) {x y:C} {u v:Value} {r:Bool} (hx:cK w Sf x u) (hy:cK w Sf y v) (h:Kt k x y=some r):
  (Op.equalIn (dd+1) t u v).run P w=.ok r w/\IY P t=some false:=by
 unfold Kt at h;unfold kH at ht;split at h
 ·rename_i k1 a k2 b;simp only [cK] at hx hy;obtain ⟨rfl,_⟩:=hx;obtain ⟨rfl,_⟩:=hy;split at h
  case isFalse=>cases h
  rename_i hk;subst hk;simp only [A0] at h;subst h;split at ht<;>try (cases ht;done)
  rename_i q hu;exact ⟨run_equalIn_int w dd t k1 q a b hu,by simp [IY,hu]⟩
 ·rename_i a b;simp only [cK] at hx hy;obtain ⟨rfl,_⟩:=hx;obtain ⟨rfl,_⟩:=hy;simp only [A0] at h;subst h;split at ht<;>try (cases ht;done)
  rename_i hu;exact ⟨run_equalIn_string w dd t a b hu,by simp [IY,hu]⟩
 ·rename_i a b;simp only [cK] at hx hy;obtain ⟨rfl,_⟩:=hx;obtain ⟨rfl,_⟩:=hy;simp only [A0] at h;subst h;split at ht<;>try (cases ht;done)
  rename_i hu;exact ⟨run_equalIn_bool' w dd t a b hu,by simp [IY,hu]⟩
 ·cases h
theorem JS (dd:Nat):∀(fs:List Field) (j:Nat) (ks:List Nat) (aY bs:List D) (us vs pre pre':List Value) (r:Bool),pre.length=j->pre'.length=j->vk P j fs=some ks->aF (gu B S m) aY us->aF (gu B S m) bs vs->Zr ks aY bs=some r->
  (Op.eqFields (dd+1) (pre++us).toArray (pre'++vs).toArray fs).run P m.w=.ok r m.w
 |[],j,ks,aY,bs,us,vs,pre,pre',r,_,_,hk,ha,hb,h=>by
  simp only [vk,A0] at hk;subst hk;unfold Zr at h;split at h<;>try (simp_all;done)
  all_goals first|(simp only [A0] at h;subst h;simp [Op.eqFields])|(cases h)
 |f::fs,j,ks,aY,bs,us,vs,pre,pre',r,hp,hp',hk,ha,hb,h=>by
  simp only [vk,A2,A1] at hk;obtain ⟨k,hk1,ks',hk2,hk3⟩:=hk;split at hk3
  case isFalse=>cases hk3
  rename_i hc;obtain ⟨hoff,hname⟩:=hc;simp only [A0] at hk3;subst hk3
  match aY,bs,us,vs,ha,hb,h with
  |.c x::aY,.c y::bs,u::us,v::vs,ha,hb,h=>
   simp only [Zr,A2,A1,A0] at h;obtain ⟨x1,h1,y1,h2,rfl⟩:=h;obtain ⟨e1,e2⟩:=aha (P:=P) hk1 dd ha.1 hb.1 h1;have g1:((pre++u::us).toArray)[f.offset]?=some u:=by rw [hoff,<-hp];simp
   have g2:((pre'++v::vs).toArray)[f.offset]?=some v:=by rw [hoff,<-hp'];simp
   have p1:(Go.part f.type (pre++u::us).toArray f.offset).run P m.w=.ok u m.w:=by simp only [Go.part,Sem.run_bind,Aj e2,Result.andThen_ok,C2,Cd,g1,Sem.run_pure]
   have p2:(Go.part f.type (pre'++v::vs).toArray f.offset).run P m.w=.ok v m.w:=by simp only [Go.part,Sem.run_bind,Aj e2,Result.andThen_ok,C2,Cd,g2,Sem.run_pure]
   have ih:=JS dd fs (j+1) ks' aY bs us vs (pre++[u]) (pre'++[v]) y1 (by simp [hp]) (by simp [hp']) hk2 ha.2 hb.2 h2
   simp only [Bk,E3,D4] at ih;simp only [Op.eqFields,hname,ne_eq,not_false_eq_true,Ek,Sem.run_bind,p1,p2,e1,Result.andThen_ok];cases x1
   ·simp
   ·simpa using ih
theorem afF (hk:gq B S m) (ho:FY B S m ρ a) {op:BinOp} {t t':TypeId} {x y:Operand} {X' Y':X} {fs:Array Field} {ks:List Nat} {ins:Ins} (hop:o.op=.binOp op t x y t') (ht:P.underlying t=some (.struct fs)) (hks:vk P 0 fs.toList=some ks)
  (hst:P.stoodInHeld t=false) (hgd:P.eqGuardType P.depth t=false) (hx:bY x=some X') (hy:bY y=some Y') (hins:Oj ks op X' Y'=some ins) (hs:step ρ m.h slot ins=some (d,us)):Does B S P o a m slot d us:=by
 have e1:=ho x X' hx;have e2:=ho y Y' hy;have main:∀neg,(op=.eql/\neg=false\/op=.neq/\neg=true)->ai8 ks neg (ρ X') (ρ Y')=some d->us=[]->Does B S P o a m slot d us:=by
  intro neg hneg h1 h2;subst h2;unfold ai8 at h1;split at h1
  case h_2=>cases h1
  rename_i aY bs hX hY;simp only [Fc] at h1;obtain ⟨r,h3,rfl⟩:=h1;rw [hX] at e1;rw [hY] at e2;obtain ⟨Et,e3,e4⟩:=e1;obtain ⟨HV,e5,e6⟩:=e2;have hrun:(Op.equalIn Op.maxDepth t (.agg Et.toArray) (.agg HV.toArray)).run P m.w=.ok r m.w:=by
   have hf:P.fieldsOf t=fs:=by simp [Program.fieldsOf,ht]
   have:=run_equalIn_struct (P:=P) m.w 9999 t Et.toArray HV.toArray (by rw [hf];exact ht) hst
   rw [show Op.maxDepth=9999+1 from rfl,this,hf]
   exact JS (B:=B) (S:=S) 9998 fs.toList 0 ks aY bs Et HV [] [] r rfl rfl hks e4 e6 h3
  refine cu hk slot (v:=.bool (if neg then !r else r)) ?_ (eX.mkLit rfl)
  rcases hneg with ⟨rfl,rfl⟩|⟨rfl,rfl⟩
  ·simp [execOp,hop,e3,e5,eqGuard,hgd,binOp,Op.equal,hrun]
  ·simp [execOp,hop,e3,e5,eqGuard,hgd,binOp,Op.equal,hrun]
 unfold Oj at hins;split at hins
 ·simp only [A0] at hins;subst hins;simp only [step] at hs;obtain ⟨h1,rfl⟩:=dR hs;exact main false (.inl ⟨rfl,rfl⟩) h1 rfl
 ·simp only [A0] at hins;subst hins;simp only [step] at hs;obtain ⟨h1,rfl⟩:=dR hs;exact main true (.inr ⟨rfl,rfl⟩) h1 rfl
 ·cases hins
theorem Z8 (ho:FY B S m ρ a):∀{os:List Operand} {xs:List X} {ls:List (Nat×Nat)},jM os=some xs->Cj ρ xs=some ls->
  os.map a.eval=ls.map (fun p=>Value.pointer (some ⟨m.β p.1,p.2,none⟩))/\∀p∈ls,m.U p.1
 |[],xs,ls,h1,h2=>by simp only [jM,A0] at h1;subst h1;simp only [Cj,A0] at h2;subst h2;exact ⟨rfl,by simp⟩
 |op::os,xs,ls,h1,h2=>by
  simp only [jM,A2,A1,A0] at h1;obtain ⟨y,h3,ys,h4,rfl⟩:=h1;have e1:=ho op y h3;unfold Cj at h2;split at h2
  case h_2=>cases h2
  rename_i id off he;simp only [A2,A1,A0] at h2;obtain ⟨r,h5,rfl⟩:=h2;rw [he] at e1;obtain ⟨hU,hv⟩:=e1;obtain ⟨i1,i2⟩:=Z8 ho h4 h5;refine ⟨by simp only [Cp,i1,hv],fun p hp=>?_⟩
  rcases D1.1 hp with rfl|hp
  ·exact hU
  ·exact i2 p hp
theorem acG (hk:gq B S m) (ho:FY B S m ρ a) {f:Nat} {first captured:Array Operand} {xs:List X} (hop:o.op=.makeFunc (.func f) first captured) (hf:first.size=0) (hx:jM captured.toList=some xs) (hs:step ρ m.h slot (.mkf f xs)=some (d,us)):
  Does B S P o a m slot d us:=by
 simp only [step] at hs;obtain ⟨h1,rfl⟩:=dR hs;simp only [A2,A1,A0] at h1;obtain ⟨ls,h2,rfl⟩:=h1;obtain ⟨e1,e2⟩:=Z8 ho hx h2;have hf':first=#[]:=Array.eq_empty_of_size_eq_zero hf;subst hf';have hcap:captured.map a.eval=(ls.map (fun p=>Value.pointer (some ⟨m.β p.1,p.2,none⟩))).toArray:=by apply Array.ext';rw [Array.toList_map,e1]
 refine cu hk slot (v:=.func (.func f) #[] (captured.map a.eval)) ?_ ⟨by rw [hcap],e2⟩
 simp [execOp,hop,Instr.makeFunc]
end
end Go.Ey
namespace Go.Ey
open Go.RowKit
section
variable {B:Nat} {S:Nat->Nat->Prop} {P:Program} {o:Oper} {a:Act} {m:M} {slot:Nat} {ρ:X->D} {d:D} {us:List (Nat×Obj)}
theorem VW {w:World} {len cap l r:Nat} {lo:Option Value} {kh km:IntKind} {ih im:Int} (h1:oO lo 0 l) (hl:l<=r) (hr:r<=cap) (h0:0<=ih) (he:ih.toNat=r) (hm:im=ih):
  (Instr.sliceBounds true len cap lo (some (.int kh ih)) (some (.int km im))).run P w=.ok (l,r,r) w:=by
 subst hm;have e1:∀code,(Instr.sliceBound (.int km im) cap code).run P w=.ok r w:=fun code=>by rw [run_sliceBound (P:=P) w km im cap code h0 (by omega),he]
 have e2:∀code,(Instr.sliceBound (.int kh im) r code).run P w=.ok r w:=fun code=>by rw [run_sliceBound (P:=P) w kh im r code h0 (by omega),he]
 cases lo with
 |none=>
  simp only [oO] at h1;subst h1;simp [Instr.sliceBounds,e1,e2]
 |some v=>
  obtain ⟨k,i,rfl,h3,h4⟩:=h1;have e3:∀code,(Instr.sliceBound (.int k i) r code).run P w=.ok l w:=fun code=>by rw [run_sliceBound (P:=P) w k i r code h3 (by omega),h4]
  simp [Instr.sliceBounds,e1,e2,e3]
theorem abo (hk:gq B S m) (ho:FY B S m ρ a) {t e:TypeId} {x hi mx:Operand} {lo:Option Operand} {X' H' M':X} {Lo:Option X} {i:TypeInfo} (hop:o.op=.slice t x lo (some hi) (some mx)) (h1:P.underlying t=some (.slice e)) (h2:P.info? e=some i)
  (hx:bY x=some X') (hlo:qZ lo=some Lo) (hhi:bY hi=some H') (hmx:bY mx=some M') (hs:step ρ m.h slot (.clip i.size X' Lo H' M')=some (d,us)):Does B S P o a m slot d us:=by
 have e1:=ho x X' hx;have e2:=ho hi H' hhi;have e3:=ho mx M' hmx;simp only [step,Qx,A2,A1,C0] at hs;obtain ⟨ia,ha,ib,hb,c,xy,hf,hs⟩:=hs;obtain ⟨ka,ha'⟩:=jO ha;obtain ⟨kb,hb'⟩:=jO hb;split at hs
 case h_2=>cases hs
 rename_i cs n;simp only [A1,C0] at hs;obtain ⟨xs,k,hcut,hs⟩:=hs;split at hs
 case isFalse=>cases hs
 rename_i hab;subst hab;simp only [A0,A3] at hs;obtain ⟨rfl,rfl⟩:=hs;rw [ha'] at e2;rw [hb'] at e3;have MJ:gu B S m (ρ X') (a.eval x):=by
  cases hX:ρ X' with
  |lC q=>rw [hX] at hf;simp [oo] at hf
  |agg q=>rw [hX] at hf;simp [oo] at hf
  |_=>rw [hX] at e1;exact e1
 obtain ⟨k1,k2,k3⟩:=Tv hk MJ hf;simp only [MB,A2,A1] at hcut;obtain ⟨l,h4,r,h5,h6⟩:=hcut;split at h6
 case isFalse=>cases h6
 rename_i hbd;obtain ⟨hlr,hrn⟩:=hbd;simp only [A0,A3] at h6;obtain ⟨rfl,rfl⟩:=h6;have hr0:0<=ia/\ia.toNat=r:=by
  simp only [Ju,ha',asInt,A2,A4] at h5;split at h5
  ·rename_i h0;simp only [A0] at h5;exact ⟨h0,h5⟩
  ·cases h5
 have arM:=J2 ho hlo h4;have run:∀(ad:Option Addr) (len cap:Nat),a.eval x=.slice ad len cap->r<=cap->
   (execOp a.eval o).run P m.w=.ok (.value (.slice (if r=l then ad else ad.map (·.add (l * i.size))) (r - l) (r - l))) m.w:=by
  intro ad len cap he hr;have hbs:=VW (P:=P) (w:=m.w) (len:=len) (cap:=cap) (kh:=ka) (km:=kb) (ih:=ia) (im:=ia) arM hlr hr hr0.1 hr0.2 rfl;simp [execOp,hop,Instr.sliceAt,Instr.slice,run_underlying h1,he,e2.lit,e3.lit,hbs,run_sizeOf h2]
 have fin:∀v,(execOp a.eval o).run P m.w=.ok (.value v) m.w->gu B S (m.heap (aK m.h xy)) (.full ((cs.drop (l * i.size)).take ((r - l) * i.size)) (r - l)) v->
   Does B S P o a m slot (.full ((cs.drop (l * i.size)).take ((r - l) * i.size)) (r - l)) xy:=by
  intro v hrun hrep;have g1:=x9 k1 slot;have g2:=gL (B:=B) (S:=S) (m.heap (aK m.h xy)) slot;exact ⟨_,v,m.w,hrun,.inl rfl,m.β,g1,k2.trans g2,g2.yt hrep,Below.refl _ _⟩
 simp only [cK] at k3;rcases k3 with ⟨e4,rfl,rfl⟩|⟨ad,cap,e4,e5,e6,e7⟩
 ·have hl0:l=0:=by omega
  have hr1:r=0:=by omega
  subst hl0 hr1;refine fin _ (run none 0 0 e4 (B9 _)) (.inl ⟨?_,rfl,by simp⟩)
  simp
 ·refine fin _ (run (some ad) n cap e4 (by omega)) (.inr ?_)
  by_cases hc:r=l
  ·rw [C4 hc];have hz:r - l=0:=by omega
   refine ⟨ad,rfl,?_,?_⟩
   ·rw [hz];simp
   ·rw [hz];simp [fK]
  ·rw [Dd hc];refine ⟨ad.add (l * i.size),rfl,?_,?_⟩
   ·intro hne;unfold Addr.add;split
    ·exact e6 fun e=>hne (by rw [e];simp)
    ·rfl
   ·have:=Iu ((r - l) * i.size) (Bb (l * i.size) e7)
    unfold Addr.add;split
    ·rename_i h0;rw [h0] at this |-;simp only [Hp] at this;exact this
    ·exact this
end
end Go.Ey
namespace Go.Ey
open Go.RowKit
section
variable {B:Nat} {S:Nat->Nat->Prop} {P:Program} {o:Oper} {a:Act} {m:M} {slot:Nat} {ρ:X->D} {d:D} {us:List (Nat×Obj)} {zf:Nat->Nat}
theorem NS {args:Array Operand} {x:X} (h:jM args.toList=some [x]):∃p,args=#[p]/\bY p=some x:=by
 obtain ⟨l⟩:=args;simp only at h;cases l with
 |nil=>simp [jM] at h
 |cons p l=>
  simp only [jM,A2,A1,A0,E6] at h;obtain ⟨y,h1,ys,h2,rfl,rfl⟩:=h;cases l with
  |nil=>exact ⟨p,rfl,h1⟩
  |cons q l=>
   simp only [jM,A2,A1,A0] at h2;obtain ⟨_,_,_,_,h⟩:=h2;cases h
theorem Dh {args:Array Operand} {x y:X} (h:jM args.toList=some [x,y]):∃p q,args=#[p,q]/\bY p=some x/\bY q=some y:=by
 obtain ⟨l⟩:=args;simp only at h;cases l with
 |nil=>simp [jM] at h
 |cons p l=>
  simp only [jM,A2,A1,A0,E6] at h;obtain ⟨z,h1,ys,h2,rfl,rfl⟩:=h;obtain ⟨q,h3,h4⟩:=NS (args:=l.toArray) (by simpa using h2)
  have:l=[q]:=by simpa using F0 Array.toList h3
  subst this;exact ⟨p,q,rfl,h1,h4⟩
theorem aeO {α:Type} {l:Array α} {x:α} (h:l.toList=[x]):l=#[x]:=by obtain ⟨l⟩:=l;simp at h;subst h;rfl
theorem VR {α:Type} {l:Array α} {x y:α} (h:l.toList=[x,y]):l=#[x,y]:=by obtain ⟨l⟩:=l;simp at h;subst h;rfl
def alM:Ins->Bool
 |.call _ _|.jB _ _ _|.mV _ _|.kX _ _=>true
 |_=>false
theorem Xp {op:Op} {ins:Ins} (h:Gl P op=some ins):zn ins=true:=by cases h
theorem Ce {op:Op} {ins:Ins} (h:JO P zf op=some ins):(zn ins=true/\Gl P op=some ins)\/(zn ins=false/\sw P zf op=some ins):=by
 unfold JO at h;split at h
 ·rename_i i hi;simp only [A0] at h;subst h;exact .inl ⟨Xp hi,hi⟩
 ·split at h
  ·rename_i i hi;split at h
   ·cases h
   ·rename_i hm;simp only [A0] at h;subst h;exact .inr ⟨by simpa using hm,hi⟩
  ·cases h
theorem CL {op:Op} {ins:Ins} (h:JO P zf op=some ins) (hm:zn ins=false):sw P zf op=some ins:=by
 rcases Ce h with ⟨h1,_⟩|⟨_,h1⟩
 ·rw [hm] at h1;cases h1
 ·exact h1
theorem step_ok {ins:Ins} (hc:sw P zf o.op=some ins) (hn:alM ins=false) (hk:gq B S m) (ho:FY B S m ρ a) (hs0:¬m.U slot) (hs:step ρ m.h slot ins=some (d,us)):Does B S P o a m slot d us:=by
 unfold sw at hc;split at hc<;>try (cases hc;done)
 all_goals simp only [A2,A1,A0] at hc
 case h_1 x hop=>obtain ⟨X',hx,rfl⟩:=hc;exact Xe hk ho (.inl hop) hx hs
 case h_2 x hop=>obtain ⟨X',hx,rfl⟩:=hc;exact Xe hk ho (.inr hop) hx hs
 case h_3 c x y hop=>obtain ⟨C',hc',X',hx,Y',hy,rfl⟩:=hc;exact ab0 hk ho hop hc' hx hy hs
 case h_4 t hop=>obtain ⟨z,hz,rfl⟩:=hc;exact aeQ hk hs0 hop hz hs
 case h_5 t x hop=>obtain ⟨X',hx,rfl⟩:=hc;exact adw hk ho hs0 hop hx hs
 case h_6 t parts hop=>
  obtain ⟨fs,h1,z,h2,qs,h3,h4⟩:=hc;split at h4
  case isFalse=>cases h4
  rename_i hkn;simp only [A0] at h4;subst h4;exact Yx hk ho hop h1 h2 h3 hkn hs
 case h_7 t len parts hop=>
  obtain ⟨e,h1,i,h2,z,h3,qs,h4,h5⟩:=hc;split at h5
  case isFalse=>cases h5
  rename_i hcc;simp only [A0] at h5;subst h5;exact abr hk ho hs0 hop h1 h2 h3 h4 hcc.1 hcc.2 hs
 case h_8 t x hop=>obtain ⟨agg,h1,i,h2,X',hx,rfl⟩:=hc;exact aco hk ho hop h1 h2 hx hs
 case h_9 t x y hop=>obtain ⟨i,h1,X',hx,Y',hy,rfl⟩:=hc;exact YK hk ho hop h1 hx hy hs
 case h_10 x hop=>obtain ⟨X',hx,rfl⟩:=hc;exact Zj hk ho hop hx hs
 case h_11 op t x y t' hop=>
  obtain ⟨X',hx,Y',hy,h1⟩:=hc;split at h1
  ·rename_i ht;simp only [A0] at h1;subst h1;exact O0 hk ho hop (fun _=>ht) hx hy hs
  ·simp only [A0] at h1;subst h1;exact O0 hk ho hop (fun h=>by cases h) hx hy hs
  ·simp only [A0] at h1;subst h1;exact O0 hk ho hop (fun h=>by cases h) hx hy hs
  ·rename_i fs ht;simp only [A1] at h1;obtain ⟨ks,h2,h3⟩:=h1;split at h3
   case isFalse=>cases h3
   rename_i hcc;exact afF hk ho hop ht h2 hcc.1 hcc.2 hx hy h3 hs
  ·cases h1
 case h_12 op t x hop=>obtain ⟨X',hx,rfl⟩:=hc;exact aih hk ho hop hx hs
 case h_13 src dst x hop=>
  obtain ⟨X',hx,h1⟩:=hc;split at h1
  ·rename_i h2 h3;simp only [A0] at h1;subst h1;exact acp hk ho hop h2 h3 hx hs
  ·rename_i e h2 h3;split at h1
   ·rename_i h4;simp only [A0] at h1;subst h1;exact YR hk ho hop h2 h3 h4 hx hs
   ·cases h1
  ·cases h1
 case h_14 t x y hop=>
  obtain ⟨e,h1,i,h2,z,h3,X',hx,Y',hy,h4⟩:=hc;split at h4
  case isFalse=>cases h4
  simp only [A0] at h4;subst h4;exact ahq hk ho hs0 hop h1 h2 h3 hx hy hs
 case h_15 t x lo hi hop=>
  obtain ⟨X',hx,Lo,hlo,Hi,hhi,h1⟩:=hc;split at h1
  ·rename_i h2;simp only [A0] at h1;subst h1;exact aet hk ho hop h2 hx hlo hhi hs
  ·rename_i e h2;simp only [A1,A0] at h1;obtain ⟨i,h3,rfl⟩:=h1;exact afq hk ho hop h2 h3 hx hlo hhi hs
  ·cases h1
 case h_16 t x lo hi mx hop=>
  obtain ⟨X',hx,Lo,hlo,H',hhi,M',hmx,h1⟩:=hc;split at h1
  ·rename_i e h2;simp only [A1,A0] at h1;obtain ⟨i,h3,rfl⟩:=h1;exact abo hk ho hop h2 h3 hx hlo hhi hmx hs
  ·cases h1
 case h_17 f first captured hop=>
  obtain ⟨xs,hx,h1⟩:=hc;split at h1
  case isFalse=>cases h1
  rename_i hz;simp only [A0] at h1;subst h1;exact acG hk ho hop hz hx hs
 case h_18 t x f hop=>
  obtain ⟨fs,h1,fl,h2,i,h3,X',hx,h4⟩:=hc;split at h4
  case isFalse=>cases h4
  rename_i hp;simp only [A0] at h4;subst h4;exact aci hk ho hop h1 h2 h3 hp hx hs
 case h_19 t x f hop=>obtain ⟨fs,h1,fl,h2,i,h3,agg,h4,X',hx,rfl⟩:=hc;exact aeF hk ho hop h1 h2 h3 h4 hx hs
 case h_20 t x y hop=>obtain ⟨e,h1,i,h2,X',hx,Y',hy,rfl⟩:=hc;exact acB hk ho hop h1 h2 hx hy hs
 case h_21 t x y hop=>
  obtain ⟨X',hx,Y',hy,h1⟩:=hc;split at h1
  ·rename_i h2;simp only [A0] at h1;subst h1;exact abH hk ho hop h2 hx hy hs
  ·cases h1
 case h_22 x i hop=>obtain ⟨X',hx,rfl⟩:=hc;exact aep hk ho hop hx hs
 case h_23 f args ts hop=>
  obtain ⟨xs,hx,rfl⟩:=hc;split at hn<;>cases hn
 case h_24 t args ts hop=>
  obtain ⟨xs,hx,rfl⟩:=hc;cases hn
 case h_25 b args ts hop=>
  obtain ⟨xs,hx,h1⟩:=hc;split at h1
  ·rename_i x t hxs hts;obtain ⟨p,rfl,hp⟩:=NS hx;have ht:=aeO hts;subst ht;split at h1
   ·rename_i h2;simp only [A0] at h1;subst h1;exact VC hk ho hop (isStr:=true) h2 hp hs
   ·rename_i e h2;simp only [A0] at h1;subst h1;exact VC hk ho hop (isStr:=false) ⟨e,h2⟩ hp hs
   ·cases h1
  ·rename_i x y t t' hxs hts;obtain ⟨p,q,rfl,hp,hq⟩:=Dh hx;have ht:=VR hts;subst ht;simp only [A1] at h1;obtain ⟨e,h2,i,h3,z,h4,h5⟩:=h1;split at h5
   ·rename_i e' h6;split at h5
    case isFalse=>cases h5
    simp only [A0] at h5;subst h5;exact U3 hk ho hs0 hop h2 h3 h4 h6 (by simp) hp hq hs
   ·rename_i h6;split at h5
    case isFalse=>cases h5
    simp only [A0] at h5;subst h5;exact U3 hk ho hs0 hop h2 h3 h4 h6 (by simp) hp hq hs
   ·cases h5
  ·rename_i x y t t' hxs hts;obtain ⟨p,q,rfl,hp,hq⟩:=Dh hx;have ht:=VR hts;subst ht;simp only [A1] at h1;obtain ⟨e,h2,i,h3,h5⟩:=h1;split at h5
   case isFalse=>cases h5
   simp only [A0] at h5;subst h5;exact acW hk ho hop h2 h3 hp hq hs
  ·rename_i x y hxs;obtain ⟨p,q,rfl,hp,hq⟩:=Dh hx;simp only [A0] at h1;subst h1;exact aiK hk ho hop hp hq hs
  ·rename_i x y hxs;obtain ⟨p,q,rfl,hp,hq⟩:=Dh hx;simp only [A0] at h1;subst h1;exact agP hk ho hop hp hq hs
  ·cases h1
end
end Go.Ey
namespace Go.Ey
inductive K where
 |i (k:IntKind) (n:Int)
 |b (x:Bool)
 |s (len w:Nat)
 |sl (ay:Nat) (rev:List (List K)) (n:Nat)
 |o (v:Value)
inductive KW where
 |c (x:K)
 |l (n:Nat) (xs:List K)
inductive KA where
 |v (i:Nat)
 |n (i j:Nat)
 |k (c:K)
inductive KS where
 |lit (n:Nat) (aY:List KA)
 |all (i:Nat)
inductive KV where
 |one (a:KA)
 |agg (s:KS)
inductive KO where
 |add (a b:KA)
 |sub (a b:KA)
 |mul (a b:KA)
 |quo (a b:KA)
 |rem (a b:KA)
 |eql (a b:KA)
 |neq (a b:KA)
 |lss (a b:KA)
 |leq (a b:KA)
 |gtr (a b:KA)
 |geq (a b:KA)
 |not (a:KA)
 |neg (a:KA)
 |conv (k:IntKind) (a:KA)
 |eqs (ks:List Nat) (neg:Bool) (aY bs:KS)
 |len (isStr:Bool) (a:KA)
 |app (ay bytes:Nat) (s t:KA)
 |set (ay:Nat) (s i:KA) (off m:Nat) (vs:List KA)
 |slc (ay:Nat) (s:KA) (lo hi:Option KA)
 |Mq (s:KA) (lo hi:Option KA)
 |Ct (s i:KA)
 |toStr (s:KA)
 |mk (ay bytes:Nat) (zero:List K) (l c:KA)
 |mx (a b:KA)
 |mn (a b:KA)
 |lits (ay len:Nat) (xs:List KA)
 |shz (a b:KA)
 |anz (a b:KA)
 |is (a:KA) (x:K)
 |isL (i:Nat) (xs:List K)
 |no
inductive mU where
 |fG (o:KO) (t:mU)
 |row (ay:Nat) (s i:KA) (t:mU)
 |ite (a:KA) (t e:mU)
 |call (f:Nat) (args:List KV) (bs:List KS) (rs:List (Option Nat)) (bl:List Nat) (t:mU)
 |goto (h n:Nat) (args:List KV)
 |ret (rs:List KV) (bs:List KS)
 |fail
inductive bN where
 |fail
 |ret (vs bs:List KW)
 |stop (ws:List KW)
noncomputable section
def kL (n:Nat) (k:Nat->bN):bN:=Nat.casesOn (motive:=fun _=>bN) n (k 0) fun m=>k (Nat.succ m)
def YM (n:Int) (k:Int->bN):bN:=Int.casesOn (motive:=fun _=>bN) n (fun m=>kL m fun m=>k (.ofNat m)) (fun m=>kL m fun m=>k (.negSucc m))
def acK (b:Bool) (k:Bool->bN):bN:=Bool.casesOn (motive:=fun _=>bN) b (k false) (k true)
def BZ {α:Type} (l:List α) (k:List α->bN):bN:=List.rec (motive:=fun _=>(List α->bN)->bN) (fun k=>k []) (fun x _ ih k=>ih fun r=>k (x::r)) l k
def U4 (l:List KW):Nat->(KW->bN)->bN:=List.rec (motive:=fun _=>Nat->(KW->bN)->bN) (fun _ _=> .fail) (fun w _ ih i=>Nat.casesOn (motive:=fun _=>(KW->bN)->bN) i (fun k=>k w) ih) l
def aiW (l:List K):Nat->(K->bN)->bN:=List.rec (motive:=fun _=>Nat->(K->bN)->bN) (fun _ _=> .fail) (fun w _ ih i=>Nat.casesOn (motive:=fun _=>(K->bN)->bN) i (fun k=>k w) ih) l
def onC (w:KW) (k:K->bN):bN:=KW.casesOn (motive:=fun _=>bN) w k fun _ _=> .fail
def onL (w:KW) (k:Nat->List K->bN):bN:=KW.casesOn (motive:=fun _=>bN) w (fun _=> .fail) k
def TK (x:K) (k:IntKind->Int->bN):bN:=K.casesOn (motive_1:=fun _=>bN) x k (fun _=> .fail) (fun _ _=> .fail) (fun _ _ _=> .fail) (fun _=> .fail)
def onB (x:K) (k:Bool->bN):bN:=K.casesOn (motive_1:=fun _=>bN) x (fun _ _=> .fail) k (fun _ _=> .fail) (fun _ _ _=> .fail) (fun _=> .fail)
def XG (n:Int) (k:Nat->bN):bN:=Int.casesOn (motive:=fun _=>bN) n k fun _=> .fail
def ab5 (x:K) (k:Nat->List (List K)->Nat->bN):bN:=K.casesOn (motive_1:=fun _=>bN) x (fun _ _=> .fail) (fun _=> .fail) (fun _ _=> .fail) k (fun _=> .fail)
def onS (x:K) (k:Nat->Nat->bN):bN:=K.casesOn (motive_1:=fun _=>bN) x (fun _ _=> .fail) (fun _=> .fail) k (fun _ _ _=> .fail) (fun _=> .fail)
def kk (k:IntKind):Nat:=IntKind.casesOn (motive:=fun _=>Nat) k 0 1 2 3 4 5 6 7
def CX (x y:K) (k:IntKind->Int->Int->bN):bN:=TK x fun p n=>TK y fun q m=>cond (Nat.beq (kk p) (kk q)) (k p n m) .fail
def kA (ρ:List KW) (a:KA) (k:K->bN):bN:=KA.casesOn (motive:=fun _=>bN) a (fun i=>U4 ρ i fun w=>onC w k) (fun i j=>U4 ρ i fun w=>onL w fun _ xs=>aiW xs j k) k
def kAs (ρ:List KW) (l:List KA):(List K->bN)->bN:=List.rec (motive:=fun _=>(List K->bN)->bN) (fun k=>k []) (fun a _ ih k=>kA ρ a fun x=>ih fun xs=>k (x::xs)) l
def kS (ρ:List KW) (s:KS) (k:Nat->List K->bN):bN:=KS.casesOn (motive:=fun _=>bN) s (fun n aY=>kAs ρ aY fun xs=>k n xs) (fun i=>U4 ρ i fun w=>onL w k)
def kSs (ρ:List KW) (l:List KS):(List KW->bN)->bN:=List.rec (motive:=fun _=>(List KW->bN)->bN) (fun k=>k []) (fun a _ ih k=>kS ρ a fun n x=>ih fun xs=>k (.l n x::xs)) l
def kV (ρ:List KW) (v:KV) (k:KW->bN):bN:=KV.casesOn (motive:=fun _=>bN) v (fun a=>kA ρ a fun x=>k (.c x)) (fun s=>kS ρ s fun n xs=>k (.l n xs))
def kVs (ρ:List KW) (l:List KV):(List KW->bN)->bN:=List.rec (motive:=fun _=>(List KW->bN)->bN) (fun k=>k []) (fun a _ ih k=>kV ρ a fun x=>ih fun xs=>k (x::xs)) l
def kPs (ρ:List KW) (l:List KV):List KW->(List KW->bN)->bN:=List.rec (motive:=fun _=>List KW->(List KW->bN)->bN) (fun acc k=>k acc) (fun a _ ih acc k=>kV ρ a fun x=>ih (x::acc) k) l
def afk (k:IntKind) (n:Int):Int:=
 match k,n with
 |.i64,.ofNat m=>cond (Nat.ble m 9223372036854775807) n (k.wrap n)
 |.u8,.ofNat m=>cond (Nat.ble m 255) n (k.wrap n)
 |.i64,.negSucc m=>cond (Nat.ble m 9223372036854775807) n (k.wrap n)
 |k,n=>k.wrap n
def XH:Int->Int->Bool
 |.ofNat a,.ofNat b=>Nat.beq a b
 |.negSucc a,.negSucc b=>Nat.beq a b
 |_,_=>false
def klt:Int->Int->Bool
 |.ofNat a,.ofNat b=>Nat.ble (Nat.succ a) b
 |.negSucc a,.negSucc b=>Nat.ble (Nat.succ b) a
 |.negSucc _,.ofNat _=>true
 |.ofNat _,.negSucc _=>false
def kIn (k:IntKind) (n:Int) (r:K->bN):bN:=YM (afk k n) fun m=>r (.i k m)
def Q4 (b:Bool) (r:K->bN):bN:=acK b fun b=>r (.b b)
abbrev Op:=List KW->(K->bN)->bN
def Vf:Nat:=140737488355328
def anw (a b:KA):Op:=fun ρ r=>kA ρ a fun x=>kA ρ b fun y=>K.casesOn (motive_1:=fun _=>bN) x (fun _ _=>CX x y fun k n m=>kIn k (n+m) r) (fun _=> .fail)
 (fun l v=>onS y fun m w=>kL (l+m) fun lm=>cond (Nat.ble lm Vf) (kL (v+Nat.shiftLeft w (8 * l)) fun u=>r (.s lm u)) .fail) (fun _ _ _=> .fail) (fun _=> .fail)
def am2 (a b:KA):Op:=fun ρ r=>kA ρ a fun x=>kA ρ b fun y=>CX x y fun k n m=>kIn k (n - m) r
def apb (a b:KA):Op:=fun ρ r=>kA ρ a fun x=>kA ρ b fun y=>CX x y fun k n m=>kIn k (n * m) r
def aqf (a b:KA):Op:=fun ρ r=>kA ρ a fun x=>kA ρ b fun y=>CX x y fun k n m=>cond (XH m 0) .fail (kIn k (n.tdiv m) r)
def apq (a b:KA):Op:=fun ρ r=>kA ρ a fun x=>kA ρ b fun y=>CX x y fun k n m=>cond (XH m 0) .fail (YM (n.tmod m) fun q=>r (.i k q))
def kEq (x y:K) (r:Bool->bN):bN:=K.casesOn (motive_1:=fun _=>bN) x (fun _ _=>CX x y fun _ n m=>r (XH n m)) (fun p=>onB y fun q=>r (not (xor p q))) (fun l v=>onS y fun m w=>r (and (Nat.beq l m) (Nat.beq v w))) (fun _ _ _=> .fail) (fun _=> .fail)
def Qj (x y:K) (r:Bool->bN):bN:=K.casesOn (motive_1:=fun _=>bN) x (fun _ _=>CX x y fun _ n m=>r (XH n m)) (fun _=> .fail) (fun l v=>onS y fun m w=>r (and (Nat.beq l m) (Nat.beq v w))) (fun _ _ _=> .fail) (fun _=> .fail)
def ana (a b:KA):Op:=fun ρ r=>kA ρ a fun x=>kA ρ b fun y=>Qj x y fun q=>Q4 q r
def anP (a b:KA):Op:=fun ρ r=>kA ρ a fun x=>kA ρ b fun y=>Qj x y fun q=>Q4 (not q) r
def aqa (a b:KA):Op:=fun ρ r=>kA ρ a fun x=>kA ρ b fun y=>CX x y fun _ n m=>Q4 (klt n m) r
def apv (a b:KA):Op:=fun ρ r=>kA ρ a fun x=>kA ρ b fun y=>CX x y fun _ n m=>Q4 (not (klt m n)) r
def ant (a b:KA):Op:=fun ρ r=>kA ρ a fun x=>kA ρ b fun y=>CX x y fun _ n m=>Q4 (klt m n) r
def ap1 (a b:KA):Op:=fun ρ r=>kA ρ a fun x=>kA ρ b fun y=>CX x y fun _ n m=>Q4 (not (klt n m)) r
def an1 (a:KA):Op:=fun ρ r=>kA ρ a fun x=>onB x fun p=>Q4 (not p) r
def aoo (a:KA):Op:=fun ρ r=>kA ρ a fun x=>TK x fun k n=>kIn k (0 - n) r
def ajp (k:IntKind) (a:KA):Op:=fun ρ r=>kA ρ a fun x=>TK x fun _ n=>kIn k n r
def QV (x:K):Nat:=K.casesOn (motive_1:=fun _=>Nat) x (fun _ _=>0) (fun _=>2) (fun _ _=>1) (fun _ _ _=>3) (fun _=>3)
def amy (ks:List Nat):List K->List K->(Bool->bN)->bN:=List.rec (motive:=fun _=>List K->List K->(Bool->bN)->bN)
 (fun xs ys r=>List.casesOn (motive:=fun _=>bN) xs (List.casesOn (motive:=fun _=>bN) ys (r true) fun _ _=> .fail) fun _ _=> .fail)
 (fun n _ ih xs ys r=>List.casesOn (motive:=fun _=>bN) xs .fail fun x xs=>List.casesOn (motive:=fun _=>bN) ys .fail fun y ys=>cond (Nat.beq (QV x) n) (kEq x y fun q=>ih xs ys fun p=>r (and q p)) .fail) ks
def ao5 (ks:List Nat) (neg:Bool) (aY bs:KS):Op:=fun ρ r=>kS ρ aY fun _ xs=>kS ρ bs fun _ ys=>amy ks xs ys fun q=>Q4 (xor neg q) r
def anR (isStr:Bool) (a:KA):Op:=fun ρ r=>kA ρ a fun x=>K.casesOn (motive_1:=fun _=>bN) x (fun _ _=> .fail) (fun _=> .fail) (fun l _=>cond isStr (r (.i .i64 (.ofNat l))) .fail) (fun _ _ n=>cond isStr .fail (r (.i .i64 (.ofNat n)))) (fun _=> .fail)
def XZ (ay e n:Nat) (k:bN):bN:=cond (Nat.beq e ay) k (cond (Nat.beq n 0) k .fail)
def Qo (n:Nat):Nat->List (List K)->List (List K):=Nat.rec (motive:=fun _=>Nat->List (List K)->List (List K)) (fun _ acc=>acc) (fun _ ih w acc=>ih (Nat.shiftRight w 8) ([.i .u8 (.ofNat (Nat.mod w 256))]::acc)) n
def ano (ay bytes:Nat) (s t:KA):Op:=fun ρ r=>kA ρ s fun x=>kA ρ t fun y=>ab5 x fun e xs n=>XZ ay e n (K.casesOn (motive_1:=fun _=>bN) y (fun _ _=> .fail) (fun _=> .fail)
 (fun l w=>cond (Nat.beq ay 1) (BZ (Qo l w xs) fun zs=>kL (n+l) fun m=>cond (Nat.ble (m * bytes) Vf) (cond (Nat.ble m Vf) (r (.sl ay zs m)) .fail) .fail) .fail)
 (fun e' ys m=>XZ ay e' m (cond (Nat.beq ay 0) .fail (BZ (ys++xs) fun zs=>kL (n+m) fun k=>cond (Nat.ble (k * bytes) Vf) (cond (Nat.ble k Vf) (r (.sl ay zs k)) .fail) .fail))) (fun _=> .fail))
def Wp (rev:List (List K)):Nat->(List K->List K)->List (List K):=List.rec (motive:=fun _=>Nat->(List K->List K)->List (List K)) (fun _ _=>[]) (fun x xs ih i g=>Nat.casesOn (motive:=fun _=>List (List K)) i (g x::xs) fun j=>x::ih j g) rev
def apV (ay:Nat) (s i:KA) (off m:Nat) (vs:List KA):Op:=fun ρ r=>kA ρ s fun x=>kA ρ i fun y=>kAs ρ vs fun ys=>ab5 x fun e xs n=>TK y fun _ p=>XG p fun j=>cond (Nat.ble (Nat.succ j) n) (cond (Nat.beq e ay) (cond (Nat.ble (off+m) ay) (BZ (Wp xs (n - Nat.succ j) fun row=>splice row off ys) fun zs=>r (.sl ay zs n)) .fail) .fail) .fail
def klo (ρ:List KW) (a:Option KA) (d:Nat) (k:Nat->bN):bN:=Option.casesOn (motive:=fun _=>bN) a (k d) fun a=>kA ρ a fun x=>TK x fun _ n=>XG n k
def aj3 (ay:Nat) (s:KA) (lo hi:Option KA):Op:=fun ρ r=>kA ρ s fun x=>ab5 x fun e xs n=>XZ ay e n (klo ρ lo 0 fun l=>klo ρ hi n fun h=>cond (and (Nat.ble l h) (Nat.ble h n)) (kL (h - l) fun m=>BZ ((xs.drop (n - h)).take m) fun zs=>r (.sl ay zs m)) .fail)
def ajI (s:KA) (lo hi:Option KA):Op:=fun ρ r=>kA ρ s fun x=>onS x fun n w=>klo ρ lo 0 fun l=>klo ρ hi n fun h=>cond (and (Nat.ble l h) (Nat.ble h n)) (kL (h - l) fun m=>kL (Nat.mod (Nat.shiftRight w (8 * l)) (Nat.shiftLeft 1 (8 * m))) fun v=>r (.s m v)) .fail
def ajA (s i:KA):Op:=fun ρ r=>kA ρ s fun x=>kA ρ i fun y=>onS x fun n w=>TK y fun _ m=>XG m fun j=>cond (Nat.ble (Nat.succ j) n) (kL (Nat.mod (Nat.shiftRight w (8 * j)) 256) fun v=>r (.i .u8 (.ofNat v))) .fail
def ae8 (rev:List (List K)):Nat->(Nat->bN)->bN:=List.rec (motive:=fun _=>Nat->(Nat->bN)->bN) (fun w k=>k w) (fun row _ ih w k=>List.casesOn (motive:=fun _=>bN) row .fail fun x _=>TK x fun p n=>cond (Nat.beq (kk p) 4) (XG n fun b=>cond (Nat.ble b 255) (kL (b+256 * w) fun v=>ih v k) .fail) .fail) rev
def adm (s:KA):Op:=fun ρ r=>kA ρ s fun x=>ab5 x fun e xs n=>XZ 1 e n (ae8 xs 0 fun w=>r (.s n w))
def aew (zero:List K) (n:Nat):List (List K):=Nat.rec (motive:=fun _=>List (List K)) [] (fun _ ih=>zero::ih) n
def kMk (ay bytes:Nat) (zero:List K) (l c:KA):Op:=fun ρ r=>kA ρ l fun x=>kA ρ c fun y=>TK x fun _ n=>XG n fun m=>TK y fun _ p=>XG p fun q=>cond (Nat.ble m q) (cond (Nat.ble (q * bytes) Vf) (cond (Nat.ble q Vf) (cond (Nat.beq ay 0) .fail (BZ (aew zero m) fun zs=>r (.sl ay zs m))) .fail) .fail) .fail
def kMx (a b:KA):Op:=fun ρ r=>kA ρ a fun x=>kA ρ b fun y=>CX x y fun k n m=>cond (klt n m) (r (.i k m)) (r (.i k n))
def kMn (a b:KA):Op:=fun ρ r=>kA ρ a fun x=>kA ρ b fun y=>CX x y fun k n m=>cond (klt m n) (r (.i k m)) (r (.i k n))
def abh (ay n:Nat):List K->List (List K)->(List (List K)->bN)->bN:=Nat.rec (motive:=fun _=>List K->List (List K)->(List (List K)->bN)->bN) (fun _ acc k=>k acc) (fun _ ih xs acc k=>BZ (xs.take ay) fun row=>ih (xs.drop ay) (row::acc) k) n
def ajK (ay len:Nat) (xs:List KA):Op:=fun ρ r=>kAs ρ xs fun ys=>cond (Nat.ble len Vf) (cond (Nat.beq ay 0) .fail (abh ay len ys [] fun zs=>r (.sl ay zs len))) .fail
def asW (a b:KA):Op:=fun ρ r=>kA ρ a fun x=>kA ρ b fun y=>TK x fun p n=>TK y fun _ m=>XG m fun j=>cond (XH n 0) (r (.i p (.ofNat 0))) (XG n fun i=>cond (Nat.ble j 8) (kL (Nat.div i (Nat.pow 2 j)) fun q=>r (.i p (.ofNat q))) .fail)
def arx (a b:KA):Op:=fun ρ r=>kA ρ a fun x=>kA ρ b fun y=>CX x y fun p n _=>cond (XH n 0) (r (.i p (.ofNat 0))) .fail
def ahT {α:Type} (f:α->α->Bool):List α->List α->Bool
 |[],[]=>true
 |x::xs,y::ys=>cond (f x y) (ahT f xs ys) false
 |_,_=>false
def aeM:Nat->K->K->Bool
 |0,_,_=>false
 |_+1,.i k a,.i l b=>cond (Nat.beq (kk k) (kk l)) (XH a b) false
 |_+1,.b x,.b y=>not (xor x y)
 |_+1,.s l v,.s m w=>cond (Nat.beq l m) (Nat.beq v w) false
 |n+1,.sl e xs a,.sl f ys b=>cond (Nat.beq e f) (cond (Nat.beq a b) (ahT (ahT (aeM n)) xs ys) false) false
 |_+1,_,_=>false
def kIs (a:KA) (x:K):Op:=fun ρ r=>kA ρ a fun y=>Q4 (aeM 60 y x) r
def aq6 (i:Nat) (xs:List K):Op:=fun ρ r=>U4 ρ i fun w=>onL w fun _ ys=>Q4 (ahT (aeM 60) ys xs) r
def kop (o:KO):Op:=KO.casesOn (motive:=fun _=>Op) o anw am2 apb aqf apq ana anP aqa apv ant ap1 an1 aoo ajp ao5 anR ano apV aj3 ajI ajA adm kMk kMx kMn ajK asW arx kIs aq6 (fun _ _=> .fail)
def Kh (ay:Nat) (x y:K) (k:List K->bN):bN:=ab5 x fun e xs n=>TK y fun _ m=>XG m fun j=>cond (Nat.ble (Nat.succ j) n) (cond (Nat.beq e ay) (List.casesOn (motive:=fun _=>bN) (xs.drop (n - Nat.succ j)) .fail fun row _=>k row) .fail) .fail
def um (ss:List (Option Nat)):List KW->List KW->(List KW->bN)->bN:=List.rec (motive:=fun _=>List KW->List KW->(List KW->bN)->bN)
 (fun vs ρ k=>List.casesOn (motive:=fun _=>bN) vs (k ρ) fun _ _=> .fail)
 (fun s _ ih vs ρ k=>List.casesOn (motive:=fun _=>bN) vs .fail fun v vs=>Option.casesOn (motive:=fun _=>bN) s (onC v fun x=>ih vs (.c x::ρ) k) fun m=>onL v fun n xs=>cond (Nat.beq n m) (ih vs (.l n xs::ρ) k) .fail) ss
def Bl (ms:List Nat):List KW->List KW->(List KW->bN)->bN:=List.rec (motive:=fun _=>List KW->List KW->(List KW->bN)->bN)
 (fun vs ρ k=>List.casesOn (motive:=fun _=>bN) vs (k ρ) fun _ _=> .fail)
 (fun m _ ih vs ρ k=>List.casesOn (motive:=fun _=>bN) vs .fail fun v vs=>onL v fun n xs=>cond (Nat.beq n m) (ih vs (.l n xs::ρ) k) .fail) ms
abbrev KFn:=Nat->List KW->List KW->bN
abbrev KHd:=Nat->Nat->List KW->bN
abbrev Den:=KFn->KHd->List KW->bN
def onR (r:bN) (k:List KW->List KW->bN):bN:=bN.casesOn (motive:=fun _=>bN) r .fail k fun _=> .fail
def ar6 (o:KO) (_:mU) (ih:Den):Den:=fun call head ρ=>kop o ρ fun x=>ih call head (.c x::ρ)
def arw (ay:Nat) (s i:KA) (_:mU) (ih:Den):Den:=fun call head ρ=>kA ρ s fun x=>kA ρ i fun y=>Kh ay x y fun xs=>ih call head (.l ay xs::ρ)
def ate (a:KA) (_ _:mU) (it ie:Den):Den:=fun call head ρ=>kA ρ a fun x=>onB x fun b=>Bool.casesOn (motive:=fun _=>bN) b (ie call head ρ) (it call head ρ)
def aoz (f:Nat) (args:List KV) (bs:List KS) (rs:List (Option Nat)) (bl:List Nat) (_:mU) (ih:Den):Den:=fun call head ρ=>kVs ρ args fun aY=>kSs ρ bs fun xs=>onR (call f aY xs) fun vs ys=>um rs vs ρ fun ρ=>Bl bl ys ρ fun ρ=>ih call head ρ
def anN (h n:Nat) (args:List KV):Den:=fun _ head ρ=>kPs ρ args [] fun ws=>head h n ws
def asj (rs:List KV) (bs:List KS):Den:=fun _ _ ρ=>kVs ρ rs fun vs=>kSs ρ bs fun xs=> .ret vs xs
def zU (t:mU):Den:=mU.rec (motive:=fun _=>Den) ar6 arw ate aoz anN asj (fun _ _ _=> .fail) t
structure GI where
 params:List (Option Nat)
 boxes:List Nat
 body:mU
 heads:List (Nat×mU)
inductive KG where
 |leaf
 |node (k:Nat) (f:GI) (l r:KG)
def KG.get (g:KG):Nat->(GI->bN)->bN:=KG.rec (motive:=fun _=>Nat->(GI->bN)->bN) (fun _ _=> .fail) (fun k f _ _ il ir n r=>cond (Nat.beq n k) (r f) (cond (Nat.ble n k) (il n r) (ir n r))) g
def XK (l:List (Nat×mU)):Nat->Nat->(mU->bN)->bN:=List.rec (motive:=fun _=>Nat->Nat->(mU->bN)->bN) (fun _ _ _=> .fail) (fun p _ ih i n k=>Nat.casesOn (motive:=fun _=>bN) i (Prod.casesOn (motive:=fun _=>bN) p fun m t=>cond (Nat.beq m n) (k t) .fail) fun j=>ih j n k) l
def aen (G:KG) (call:KFn) (head:Nat->KHd):KFn:=fun f aY bs=>G.get f fun tf=>um tf.params aY [] fun ρ=>Bl tf.boxes bs ρ fun ρ=>zU tf.body call (head f) ρ
def kgo (G:KG) (f:Nat) (call:KFn) (head:KHd):KHd:=fun h n ws=>G.get f fun tf=>XK tf.heads h n fun t=>zU t call head ws
structure aa9 where
 fn:KFn
 hd:Nat->KHd
def mE (G:KG) (n:Nat):aa9:=Nat.rec (motive:=fun _=>aa9) ⟨fun _ _ _=> .fail,fun _ _ _ _=> .fail⟩ (fun _ r=>aa9.casesOn (motive:=fun _=>aa9) r fun fn hd=>⟨aen G fn hd,fun f=>kgo G f fn (hd f)⟩) n
def UQ (G:KG) (call:KFn) (f h0 a:Nat) (n:Nat):KHd:=Nat.rec (motive:=fun _=>KHd) (fun _ _ _=> .fail) (fun _ ih h n ws=>cond (Nat.beq h h0) (cond (Nat.beq n a) (.stop ws) .fail) (kgo G f call ih h n ws)) n
def adi (r:bN) (k:List KW->bN):bN:=bN.casesOn (motive:=fun _=>bN) r .fail (fun _ _=> .fail) k
def mJ (G:KG) (n m f h0 a:Nat) (rounds:Nat):List KW->bN:=Nat.rec (motive:=fun _=>List KW->bN) (fun ws=> .stop ws) (fun _ ih ws=>adi (kgo G f (mE G n).fn (UQ G (mE G n).fn f h0 a m) h0 a ws) ih) rounds
def SE (G:KG) (n m f h0 a:Nat):List KW->List KW->bN:=aen G (mE G n).fn (fun _=>UQ G (mE G n).fn f h0 a m) f
end
noncomputable section
variable {α β:Type}
def fN (n:Nat) (k:Nat->α):α:=Nat.casesOn (motive:=fun _=>α) n (k 0) fun m=>k (Nat.succ m)
def nX (rt n:Nat):Nat->List Nat->List Nat:=Nat.rec (motive:=fun _=>Nat->List Nat->List Nat) (fun _ l=>l) (fun _ ih x l=>cond (Nat.blt x 64) (x::l) (fN (Nat.mod (Nat.shiftRight rt (Nat.mul 20 (Nat.sub x 64))) 1048576) fun p=>fN (Nat.div p 1024) fun a=>fN (Nat.mod p 1024) fun b=>ih a (ih b l))) n
def nT (rt n:Nat):Nat->List Nat->List Nat:=Nat.rec (motive:=fun _=>Nat->List Nat->List Nat) (fun _ l=>l) (fun _ ih s l=>fN s fun s=>cond (Nat.blt s 1024) l (ih (Nat.div s 1024) (fN (Nat.mod s 1024) fun x=>nX rt 64 x l))) n
variable (d:α)
def rC (l:List Nat) (k:Nat->List Nat->α):α:=List.casesOn (motive:=fun _=>α) l d k
def rG (c:Nat):List Nat->(Nat->List Nat->α)->α:=Nat.rec (motive:=fun _=>List Nat->(Nat->List Nat->α)->α) (fun l k=>k 0 l) (fun _ ih l k=>rC d l fun y l=>ih l fun v l=>fN (Nat.add y (Nat.mul 64 v)) fun v=>k v l) c
def rN (l:List Nat) (k:Nat->List Nat->α):α:=rC d l fun x l=>cond (Nat.blt x 48) (k x l) (rG d (Nat.sub x 48) l k)
def rB (l:List Nat) (k:Nat->List Nat->α):α:=rN d l fun n l=>rG d n l k
def rL (p:List Nat->(β->List Nat->α)->α) (l:List Nat) (k:List β->List Nat->α):α:=rN d l fun n l=>Nat.rec (motive:=fun _=>List Nat->(List β->List Nat->α)->α) (fun l k=>k [] l) (fun _ ih l k=>p l fun x l=>ih l fun xs l=>k (x::xs) l) n l k
def rI (l:List Nat) (k:IntKind->List Nat->α):α:=rC d l fun c l=>match c with
 |0=>k .i8 l|1=>k .i16 l|2=>k .i32 l|3=>k .i64 l|4=>k .u8 l|5=>k .u16 l|6=>k .u32 l|_=>k .u64 l
def rK (n:Nat):List Nat->(K->List Nat->α)->α:=Nat.rec (motive:=fun _=>List Nat->(K->List Nat->α)->α) (fun _ _=>d) (fun _ ih l k=>rC d l fun c l=>match c with
 |0=>rI d l fun i l=>rC d l fun s l=>rN d l fun m l=>k (.i i (match s with|0=> .ofNat m|_=> .negSucc m)) l
 |1=>rC d l fun b l=>k (.b (match b with|0=>false|_=>true)) l
 |2=>rN d l fun a l=>rB d l fun w l=>k (.s a w) l
 |_=>rN d l fun e l=>rL d (rL d ih) l fun r l=>rN d l fun n l=>k (.sl e r n) l) n
def rKs:=rL d (rK d 50)
def rA (l:List Nat) (k:KA->List Nat->α):α:=rC d l fun c l=>match c with
 |0=>rN d l fun i l=>k (.v i) l
 |1=>rN d l fun i l=>rN d l fun j l=>k (.n i j) l
 |_=>rK d 50 l fun x l=>k (.k x) l
def rS (l:List Nat) (k:KS->List Nat->α):α:=rC d l fun c l=>match c with
 |0=>rN d l fun i l=>rL d (rA d) l fun x l=>k (.lit i x) l
 |_=>rN d l fun i l=>k (.all i) l
def rV (l:List Nat) (k:KV->List Nat->α):α:=rC d l fun c l=>match c with
 |0=>rA d l fun a l=>k (.one a) l
 |_=>rS d l fun a l=>k (.agg a) l
def rON (l:List Nat) (k:Option Nat->List Nat->α):α:=rC d l fun c l=>match c with
 |0=>rN d l fun i l=>k (some i) l
 |_=>k none l
def rOA (l:List Nat) (k:Option KA->List Nat->α):α:=rC d l fun c l=>match c with
 |0=>rA d l fun i l=>k (some i) l
 |_=>k none l
def Yc (f:KA->KA->KO) (l:List Nat) (k:KO->List Nat->α):α:=rA d l fun a l=>rA d l fun b l=>k (f a b) l
def rO (l:List Nat) (k:KO->List Nat->α):α:=rC d l fun c l=>match c with
 |0=>Yc d .add l k
 |1=>Yc d .sub l k
 |2=>Yc d .mul l k
 |3=>Yc d .quo l k
 |4=>Yc d .rem l k
 |5=>Yc d .eql l k
 |6=>Yc d .neq l k
 |7=>Yc d .lss l k
 |8=>Yc d .leq l k
 |9=>Yc d .gtr l k
 |10=>Yc d .geq l k
 |11=>Yc d .mx l k
 |12=>Yc d .mn l k
 |13=>Yc d .shz l k
 |14=>Yc d .anz l k
 |15=>rA d l fun s l=>k (.not s) l
 |16=>rA d l fun s l=>k (.neg s) l
 |17=>rI d l fun s l=>rA d l fun t l=>k (.conv s t) l
 |18=>rL d (rN d) l fun s l=>rC d l fun t l=>rS d l fun u l=>rS d l fun v l=>k (.eqs s (Nat.beq t 1) u v) l
 |19=>rC d l fun s l=>rA d l fun t l=>k (.len (Nat.beq s 1) t) l
 |20=>rN d l fun s l=>rN d l fun t l=>rA d l fun u l=>rA d l fun v l=>k (.app s t u v) l
 |21=>rN d l fun s l=>rA d l fun t l=>rA d l fun u l=>rN d l fun v l=>rN d l fun w l=>rL d (rA d) l fun x l=>k (.set s t u v w x) l
 |22=>rN d l fun s l=>rA d l fun t l=>rOA d l fun u l=>rOA d l fun v l=>k (.slc s t u v) l
 |23=>rA d l fun s l=>rOA d l fun t l=>rOA d l fun u l=>k (.Mq s t u) l
 |24=>rA d l fun s l=>rA d l fun t l=>k (.Ct s t) l
 |25=>rA d l fun s l=>k (.toStr s) l
 |26=>rN d l fun s l=>rN d l fun t l=>rL d (rK d 50) l fun u l=>rA d l fun v l=>rA d l fun w l=>k (.mk s t u v w) l
 |27=>rN d l fun s l=>rN d l fun t l=>rL d (rA d) l fun u l=>k (.lits s t u) l
 |28=>rA d l fun s l=>rK d 50 l fun t l=>k (.is s t) l
 |29=>rN d l fun s l=>rL d (rK d 50) l fun t l=>k (.isL s t) l
 |_=>k .no l
def rT (n:Nat):List Nat->(mU->List Nat->α)->α:=Nat.rec (motive:=fun _=>List Nat->(mU->List Nat->α)->α) (fun _ _=>d) (fun _ ih l k=>rC d l fun c l=>match c with
 |0=>rO d l fun s l=>ih l fun t l=>k (.fG s t) l
 |1=>rN d l fun s l=>rA d l fun t l=>rA d l fun u l=>ih l fun v l=>k (.row s t u v) l
 |2=>rA d l fun s l=>ih l fun t l=>ih l fun u l=>k (.ite s t u) l
 |3=>rN d l fun s l=>rL d (rV d) l fun t l=>rL d (rS d) l fun u l=>rL d (rON d) l fun v l=>rL d (rN d) l fun w l=>ih l fun x l=>k (.call s t u v w x) l
 |4=>rN d l fun s l=>rN d l fun t l=>rL d (rV d) l fun u l=>k (.goto s t u) l
 |5=>rL d (rV d) l fun s l=>rL d (rS d) l fun t l=>k (.ret s t) l
 |_=>k .fail l) n
def rF (l:List Nat) (k:GI->List Nat->α):α:=rL d (rON d) l fun a l=>rL d (rN d) l fun b l=>rT d 2000 l fun t l=>rL d (fun l k=>rN d l fun i l=>rT d 2000 l fun t l=>k (i,t) l) l fun h l=>k ⟨a,b,t,h⟩ l
end
end Go.Ey
