/- A part. -/
import Derived.Test.YtolnnaanmfnkjaaGreatDoorZ06
import Derived.Test.YtolnnaanmfnkjaaGreatDoorZ11
import Derived.Laws.StructEq
set_option linter.all false
namespace Go.Ey
open RowKit
section
variable {B:Nat} {S:Nat->Nat->Prop} {P:Program} {o:Oper} {a:Act} {m:M} {slot:Nat} {ρ:X->D} {d:D} {us:List (Nat×Obj)}
theorem ai8 {w:World} {Sf:Nat->Nat->Prop} {t:TypeId} {k:Nat} (ht:fZ P t=some k) (dd:Nat) {x y:C} {u v:Value} {r:Bool} (hx:bJ w Sf x u) (hy:bJ w Sf y v) (h:Jd k x y=some r):
  (Op.equalIn (dd+1) t u v).run P w=.ok r w/\Hl P t=some false:=by
 unfold Jd at h;unfold fZ at ht;split at h
 ·rename_i k1 a k2 b;simp only [bJ] at hx hy;obtain ⟨rfl,_⟩:=hx;obtain ⟨rfl,_⟩:=hy;split at h
  case isFalse=>cases h
  rename_i hk;subst hk;simp only [A0] at h;subst h;split at ht<;>try (cases ht;done)
  rename_i q hu;exact ⟨run_equalIn_int w dd t k1 q a b hu,by simp [Hl,hu]⟩
 ·rename_i a b;simp only [bJ] at hx hy;obtain ⟨rfl,_⟩:=hx;obtain ⟨rfl,_⟩:=hy;simp only [A0] at h;subst h;split at ht<;>try (cases ht;done)
  rename_i hu;exact ⟨run_equalIn_string w dd t a b hu,by simp [Hl,hu]⟩
 ·rename_i a b;simp only [bJ] at hx hy;obtain ⟨rfl,_⟩:=hx;obtain ⟨rfl,_⟩:=hy;simp only [A0] at h;subst h;split at ht<;>try (cases ht;done)
  rename_i hu;exact ⟨run_equalIn_bool' w dd t a b hu,by simp [Hl,hu]⟩
 ·cases h
theorem I1 (dd:Nat):∀(fs:List Field) (j:Nat) (ks:List Nat) (aJ bs:List D) (us vs pre pre':List Value) (r:Bool),pre.length=j->pre'.length=j->tN P j fs=some ks->av (fA B S m) aJ us->av (fA B S m) bs vs->YW ks aJ bs=some r->
  (Op.eqFields (dd+1) (pre++us).toArray (pre'++vs).toArray fs).run P m.w=.ok r m.w
 |[],j,ks,aJ,bs,us,vs,pre,pre',r,_,_,hk,ha,hb,h=>by
  simp only [tN,A0] at hk;subst hk;unfold YW at h;split at h<;>try (simp_all;done)
  all_goals first|(simp only [A0] at h;subst h;simp [Op.eqFields])|(cases h)
 |f::fs,j,ks,aJ,bs,us,vs,pre,pre',r,hp,hp',hk,ha,hb,h=>by
  simp only [tN,A2,A1] at hk;obtain ⟨k,hk1,ks',hk2,hk3⟩:=hk;split at hk3
  case isFalse=>cases hk3
  rename_i hc;obtain ⟨hoff,hname⟩:=hc;simp only [A0] at hk3;subst hk3
  match aJ,bs,us,vs,ha,hb,h with
  |.c x::aJ,.c y::bs,u::us,v::vs,ha,hb,h=>
   simp only [YW,A2,A1,A0] at h;obtain ⟨x1,h1,y1,h2,rfl⟩:=h;obtain ⟨e1,e2⟩:=ai8 (P:=P) hk1 dd ha.1 hb.1 h1;have g1:((pre++u::us).toArray)[f.offset]?=some u:=by rw [hoff,<-hp];simp
   have g2:((pre'++v::vs).toArray)[f.offset]?=some v:=by rw [hoff,<-hp'];simp
   have p1:(Go.part f.type (pre++u::us).toArray f.offset).run P m.w=.ok u m.w:=by simp only [Go.part,Sem.run_bind,yK e2,Result.andThen_ok,C2,C7,g1,Sem.run_pure]
   have p2:(Go.part f.type (pre'++v::vs).toArray f.offset).run P m.w=.ok v m.w:=by simp only [Go.part,Sem.run_bind,yK e2,Result.andThen_ok,C2,C7,g2,Sem.run_pure]
   have ih:=I1 dd fs (j+1) ks' aJ bs us vs (pre++[u]) (pre'++[v]) y1 (by simp [hp]) (by simp [hp']) hk2 ha.2 hb.2 h2
   simp only [B9,E3,E2] at ih;simp only [Op.eqFields,hname,ne_eq,not_false_eq_true,E7,Sem.run_bind,p1,p2,e1,Result.andThen_ok];cases x1
   ·simp
   ·simpa using ih
theorem adS (hk:fu B S m) (ho:DV B S m ρ a) {op:BinOp} {t t':TypeId} {x y:Operand} {X' Y':X} {fs:Array Field} {ks:List Nat} {ins:Ins} (hop:o.op=.binOp op t x y t') (ht:P.underlying t=some (.struct fs)) (hks:tN P 0 fs.toList=some ks)
  (hst:P.stoodInHeld t=false) (hgd:P.eqGuardType P.depth t=false) (hx:bI x=some X') (hy:bI y=some Y') (hins:N9 ks op X' Y'=some ins) (hs:step ρ m.h slot ins=some (d,us)):Does B S P o a m slot d us:=by
 have e1:=ho x X' hx;have e2:=ho y Y' hy;have main:∀neg,(op=.eql/\neg=false\/op=.neq/\neg=true)->aht ks neg (ρ X') (ρ Y')=some d->us=[]->Does B S P o a m slot d us:=by
  intro neg hneg h1 h2;subst h2;unfold aht at h1;split at h1
  case h_2=>cases h1
  rename_i aJ bs hX hY;simp only [Fi] at h1;obtain ⟨r,h3,rfl⟩:=h1;rw [hX] at e1;rw [hY] at e2;obtain ⟨Df,e3,e4⟩:=e1;obtain ⟨Fp,e5,e6⟩:=e2;have hrun:(Op.equalIn Op.maxDepth t (.agg Df.toArray) (.agg Fp.toArray)).run P m.w=.ok r m.w:=by
   have hf:P.fieldsOf t=fs:=by simp [Program.fieldsOf,ht]
   have:=run_equalIn_struct (P:=P) m.w 9999 t Df.toArray Fp.toArray (by rw [hf];exact ht) hst
   rw [show Op.maxDepth=9999+1 from rfl,this,hf]
   exact I1 (B:=B) (S:=S) 9998 fs.toList 0 ks aJ bs Df Fp [] [] r rfl rfl hks e4 e6 h3
  refine bK hk slot (v:=.bool (if neg then !r else r)) ?_ (dZ.mkLit rfl)
  rcases hneg with ⟨rfl,rfl⟩|⟨rfl,rfl⟩
  ·simp [execOp,hop,e3,e5,eqGuard,hgd,binOp,Op.equal,hrun]
  ·simp [execOp,hop,e3,e5,eqGuard,hgd,binOp,Op.equal,hrun]
 unfold N9 at hins;split at hins
 ·simp only [A0] at hins;subst hins;simp only [step] at hs;obtain ⟨h1,rfl⟩:=dD hs;exact main false (.inl ⟨rfl,rfl⟩) h1 rfl
 ·simp only [A0] at hins;subst hins;simp only [step] at hs;obtain ⟨h1,rfl⟩:=dD hs;exact main true (.inr ⟨rfl,rfl⟩) h1 rfl
 ·cases hins
theorem aax (ho:DV B S m ρ a):∀{os:List Operand} {xs:List X} {ls:List (Nat×Nat)},iw os=some xs->A9 ρ xs=some ls->
  os.map a.eval=ls.map (fun p=>Value.pointer (some ⟨m.β p.1,p.2,none⟩))/\∀p∈ls,m.U p.1
 |[],xs,ls,h1,h2=>by simp only [iw,A0] at h1;subst h1;simp only [A9,A0] at h2;subst h2;exact ⟨rfl,by simp⟩
 |op::os,xs,ls,h1,h2=>by
  simp only [iw,A2,A1,A0] at h1;obtain ⟨y,h3,ys,h4,rfl⟩:=h1;have e1:=ho op y h3;unfold A9 at h2;split at h2
  case h_2=>cases h2
  rename_i id off he;simp only [A2,A1,A0] at h2;obtain ⟨r,h5,rfl⟩:=h2;rw [he] at e1;obtain ⟨hU,hv⟩:=e1;obtain ⟨i1,i2⟩:=aax ho h4 h5;refine ⟨by simp only [D4,i1,hv],fun p hp=>?_⟩
  rcases D2.1 hp with rfl|hp
  ·exact hU
  ·exact i2 p hp
theorem aee (hk:fu B S m) (ho:DV B S m ρ a) {f:Nat} {first captured:Array Operand} {xs:List X} (hop:o.op=.makeFunc (.func f) first captured) (hf:first.size=0) (hx:iw captured.toList=some xs) (hs:step ρ m.h slot (.mkf f xs)=some (d,us)):
  Does B S P o a m slot d us:=by
 simp only [step] at hs;obtain ⟨h1,rfl⟩:=dD hs;simp only [A2,A1,A0] at h1;obtain ⟨ls,h2,rfl⟩:=h1;obtain ⟨e1,e2⟩:=aax ho hx h2;have hf':first=#[]:=Array.eq_empty_of_size_eq_zero hf;subst hf';have hcap:captured.map a.eval=(ls.map (fun p=>Value.pointer (some ⟨m.β p.1,p.2,none⟩))).toArray:=by apply Array.ext';rw [Array.toList_map,e1]
 refine bK hk slot (v:=.func (.func f) #[] (captured.map a.eval)) ?_ ⟨by rw [hcap],e2⟩
 simp [execOp,hop,Instr.makeFunc]
end
end Go.Ey
namespace Go.Ey
open RowKit
section
variable {B:Nat} {S:Nat->Nat->Prop} {P:Program} {o:Oper} {a:Act} {m:M} {slot:Nat} {ρ:X->D} {d:D} {us:List (Nat×Obj)}
theorem VJ {w:World} {len cap l r:Nat} {lo:Option Value} {kh km:IntKind} {ih im:Int} (h1:ou lo 0 l) (hl:l<=r) (hr:r<=cap) (h0:0<=ih) (he:ih.toNat=r) (hm:im=ih):
  (Instr.sliceBounds true len cap lo (some (.int kh ih)) (some (.int km im))).run P w=.ok (l,r,r) w:=by
 subst hm;have e1:∀code,(Instr.sliceBound (.int km im) cap code).run P w=.ok r w:=fun code=>by rw [run_sliceBound (P:=P) w km im cap code h0 (by omega),he]
 have e2:∀code,(Instr.sliceBound (.int kh im) r code).run P w=.ok r w:=fun code=>by rw [run_sliceBound (P:=P) w kh im r code h0 (by omega),he]
 cases lo with
 |none=>
  simp only [ou] at h1;subst h1;simp [Instr.sliceBounds,e1,e2]
 |some v=>
  obtain ⟨k,i,rfl,h3,h4⟩:=h1;have e3:∀code,(Instr.sliceBound (.int k i) r code).run P w=.ok l w:=fun code=>by rw [run_sliceBound (P:=P) w k i r code h3 (by omega),h4]
  simp [Instr.sliceBounds,e1,e2,e3]
theorem abd (hk:fu B S m) (ho:DV B S m ρ a) {t e:TypeId} {x hi mx:Operand} {lo:Option Operand} {X' H' M':X} {Lo:Option X} {i:TypeInfo} (hop:o.op=.slice t x lo (some hi) (some mx)) (h1:P.underlying t=some (.slice e)) (h2:P.info? e=some i)
  (hx:bI x=some X') (hlo:qg lo=some Lo) (hhi:bI hi=some H') (hmx:bI mx=some M') (hs:step ρ m.h slot (.clip i.size X' Lo H' M')=some (d,us)):Does B S P o a m slot d us:=by
 have e1:=ho x X' hx;have e2:=ho hi H' hhi;have e3:=ho mx M' hmx;simp only [step,Qy,A2,A1,C1] at hs;obtain ⟨ia,ha,ib,hb,c,vH,hf,hs⟩:=hs;obtain ⟨ka,ha'⟩:=iB ha;obtain ⟨kb,hb'⟩:=iB hb;split at hs
 case h_2=>cases hs
 rename_i cs n;simp only [A1,C1] at hs;obtain ⟨xs,k,hcut,hs⟩:=hs;split at hs
 case isFalse=>cases hs
 rename_i hab;subst hab;simp only [A0,A3] at hs;obtain ⟨rfl,rfl⟩:=hs;rw [ha'] at e2;rw [hb'] at e3;have Mi:fA B S m (ρ X') (a.eval x):=by
  cases hX:ρ X' with
  |jG q=>rw [hX] at hf;simp [nP] at hf
  |agg q=>rw [hX] at hf;simp [nP] at hf
  |_=>rw [hX] at e1;exact e1
 obtain ⟨k1,k2,k3⟩:=Tz hk Mi hf;simp only [Lr,A2,A1] at hcut;obtain ⟨l,h4,r,h5,h6⟩:=hcut;split at h6
 case isFalse=>cases h6
 rename_i hbd;obtain ⟨hlr,hrn⟩:=hbd;simp only [A0,A3] at h6;obtain ⟨rfl,rfl⟩:=h6;have hr0:0<=ia/\ia.toNat=r:=by
  simp only [I4,ha',asInt,A2,A4] at h5;split at h5
  ·rename_i h0;simp only [A0] at h5;exact ⟨h0,h5⟩
  ·cases h5
 have at1:=Im ho hlo h4;have run:∀(ad:Option Addr) (len cap:Nat),a.eval x=.slice ad len cap->r<=cap->
   (execOp a.eval o).run P m.w=.ok (.value (.slice (if r=l then ad else ad.map (·.add (l * i.size))) (r - l) (r - l))) m.w:=by
  intro ad len cap he hr;have hbs:=VJ (P:=P) (w:=m.w) (len:=len) (cap:=cap) (kh:=ka) (km:=kb) (ih:=ia) (im:=ia) at1 hlr hr hr0.1 hr0.2 rfl;simp [execOp,hop,Instr.sliceAt,Instr.slice,run_underlying h1,he,e2.lit,e3.lit,hbs,run_sizeOf h2]
 have fin:∀v,(execOp a.eval o).run P m.w=.ok (.value v) m.w->fA B S (m.heap (ay m.h vH)) (.full ((cs.drop (l * i.size)).take ((r - l) * i.size)) (r - l)) v->
   Does B S P o a m slot (.full ((cs.drop (l * i.size)).take ((r - l) * i.size)) (r - l)) vH:=by
  intro v hrun hrep;have g1:=vT k1 slot;have g2:=fD (B:=B) (S:=S) (m.heap (ay m.h vH)) slot;exact ⟨_,v,m.w,hrun,.inl rfl,m.β,g1,k2.trans g2,g2.vw hrep,Below.refl _ _⟩
 simp only [bJ] at k3;rcases k3 with ⟨e4,rfl,rfl⟩|⟨ad,cap,e4,e5,e6,e7⟩
 ·have hl0:l=0:=by omega
  have hr1:r=0:=by omega
  subst hl0 hr1;refine fin _ (run none 0 0 e4 (An _)) (.inl ⟨?_,rfl,by simp⟩)
  simp
 ·refine fin _ (run (some ad) n cap e4 (by omega)) (.inr ?_)
  by_cases hc:r=l
  ·rw [C6 hc];have hz:r - l=0:=by omega
   refine ⟨ad,rfl,?_,?_⟩
   ·rw [hz];simp
   ·rw [hz];simp [fo]
  ·rw [E0 hc];refine ⟨ad.add (l * i.size),rfl,?_,?_⟩
   ·intro hne;unfold Addr.add;split
    ·exact e6 fun e=>hne (by rw [e];simp)
    ·rfl
   ·have:=Gr ((r - l) * i.size) (zk (l * i.size) e7)
    unfold Addr.add;split
    ·rename_i h0;rw [h0] at this |-;simp only [Hx] at this;exact this
    ·exact this
end
end Go.Ey
namespace Go.Ey
open RowKit
section
variable {B:Nat} {S:Nat->Nat->Prop} {P:Program} {o:Oper} {a:Act} {m:M} {slot:Nat} {ρ:X->D} {d:D} {us:List (Nat×Obj)} {wz:Nat->Nat}
theorem Ow {args:Array Operand} {x:X} (h:iw args.toList=some [x]):∃p,args=#[p]/\bI p=some x:=by
 obtain ⟨l⟩:=args;simp only at h;cases l with
 |nil=>simp [iw] at h
 |cons p l=>
  simp only [iw,A2,A1,A0,Dg] at h;obtain ⟨y,h1,ys,h2,rfl,rfl⟩:=h;cases l with
  |nil=>exact ⟨p,rfl,h1⟩
  |cons q l=>
   simp only [iw,A2,A1,A0] at h2;obtain ⟨_,_,_,_,h⟩:=h2;cases h
theorem Cf {args:Array Operand} {x y:X} (h:iw args.toList=some [x,y]):∃p q,args=#[p,q]/\bI p=some x/\bI q=some y:=by
 obtain ⟨l⟩:=args;simp only at h;cases l with
 |nil=>simp [iw] at h
 |cons p l=>
  simp only [iw,A2,A1,A0,Dg] at h;obtain ⟨z,h1,ys,h2,rfl,rfl⟩:=h;obtain ⟨q,h3,h4⟩:=Ow (args:=l.toArray) (by simpa using h2)
  have:l=[q]:=by simpa using E6 Array.toList h3
  subst this;exact ⟨p,q,rfl,h1,h4⟩
theorem aen {α:Type} {l:Array α} {x:α} (h:l.toList=[x]):l=#[x]:=by obtain ⟨l⟩:=l;simp at h;subst h;rfl
theorem Wu {α:Type} {l:Array α} {x y:α} (h:l.toList=[x,y]):l=#[x,y]:=by obtain ⟨l⟩:=l;simp at h;subst h;rfl
def ale:Ins->Bool
 |.call _ _|.gU _ _ _|.lH _ _|.jv _ _=>true
 |_=>false
theorem UF {op:Op} {ins:Ins} (h:Fh P op=some ins):wQ ins=true:=by cases h
theorem Bh {op:Op} {ins:Ins} (h:GY P wz op=some ins):(wQ ins=true/\Fh P op=some ins)\/(wQ ins=false/\qi P wz op=some ins):=by
 unfold GY at h;split at h
 ·rename_i i hi;simp only [A0] at h;subst h;exact .inl ⟨UF hi,hi⟩
 ·split at h
  ·rename_i i hi;split at h
   ·cases h
   ·rename_i hm;simp only [A0] at h;subst h;exact .inr ⟨by simpa using hm,hi⟩
  ·cases h
theorem BJ {op:Op} {ins:Ins} (h:GY P wz op=some ins) (hm:wQ ins=false):qi P wz op=some ins:=by
 rcases Bh h with ⟨h1,_⟩|⟨_,h1⟩
 ·rw [hm] at h1;cases h1
 ·exact h1
theorem step_ok {ins:Ins} (hc:qi P wz o.op=some ins) (hn:ale ins=false) (hk:fu B S m) (ho:DV B S m ρ a) (hs0:¬m.U slot) (hs:step ρ m.h slot ins=some (d,us)):Does B S P o a m slot d us:=by
 unfold qi at hc;split at hc<;>try (cases hc;done)
 all_goals simp only [A2,A1,A0] at hc
 case h_1 x hop=>obtain ⟨X',hx,rfl⟩:=hc;exact Ud hk ho (.inl hop) hx hs
 case h_2 x hop=>obtain ⟨X',hx,rfl⟩:=hc;exact Ud hk ho (.inr hop) hx hs
 case h_3 c x y hop=>obtain ⟨C',hc',X',hx,Y',hy,rfl⟩:=hc;exact abb hk ho hop hc' hx hy hs
 case h_4 t hop=>obtain ⟨z,hz,rfl⟩:=hc;exact adO hk hs0 hop hz hs
 case h_5 t x hop=>obtain ⟨X',hx,rfl⟩:=hc;exact adZ hk ho hs0 hop hx hs
 case h_6 t parts hop=>
  obtain ⟨fs,h1,z,h2,qs,h3,h4⟩:=hc;split at h4
  case isFalse=>cases h4
  rename_i hkn;simp only [A0] at h4;subst h4;exact Xt hk ho hop h1 h2 h3 hkn hs
 case h_7 t len parts hop=>
  obtain ⟨e,h1,i,h2,z,h3,qs,h4,h5⟩:=hc;split at h5
  case isFalse=>cases h5
  rename_i hcc;simp only [A0] at h5;subst h5;exact abW hk ho hs0 hop h1 h2 h3 h4 hcc.1 hcc.2 hs
 case h_8 t x hop=>obtain ⟨agg,h1,i,h2,X',hx,rfl⟩:=hc;exact aa7 hk ho hop h1 h2 hx hs
 case h_9 t x y hop=>obtain ⟨i,h1,X',hx,Y',hy,rfl⟩:=hc;exact YM hk ho hop h1 hx hy hs
 case h_10 x hop=>obtain ⟨X',hx,rfl⟩:=hc;exact Yp hk ho hop hx hs
 case h_11 op t x y t' hop=>
  obtain ⟨X',hx,Y',hy,h1⟩:=hc;split at h1
  ·rename_i ht;simp only [A0] at h1;subst h1;exact Mr hk ho hop (fun _=>ht) hx hy hs
  ·simp only [A0] at h1;subst h1;exact Mr hk ho hop (fun h=>by cases h) hx hy hs
  ·simp only [A0] at h1;subst h1;exact Mr hk ho hop (fun h=>by cases h) hx hy hs
  ·rename_i fs ht;simp only [A1] at h1;obtain ⟨ks,h2,h3⟩:=h1;split at h3
   case isFalse=>cases h3
   rename_i hcc;exact adS hk ho hop ht h2 hcc.1 hcc.2 hx hy h3 hs
  ·cases h1
 case h_12 op t x hop=>obtain ⟨X',hx,rfl⟩:=hc;exact ais hk ho hop hx hs
 case h_13 src dst x hop=>
  obtain ⟨X',hx,h1⟩:=hc;split at h1
  ·rename_i h2 h3;simp only [A0] at h1;subst h1;exact abK hk ho hop h2 h3 hx hs
  ·rename_i e h2 h3;split at h1
   ·rename_i h4;simp only [A0] at h1;subst h1;exact Yi hk ho hop h2 h3 h4 hx hs
   ·cases h1
  ·cases h1
 case h_14 t x y hop=>
  obtain ⟨e,h1,i,h2,z,h3,X',hx,Y',hy,h4⟩:=hc;split at h4
  case isFalse=>cases h4
  simp only [A0] at h4;subst h4;exact aiw hk ho hs0 hop h1 h2 h3 hx hy hs
 case h_15 t x lo hi hop=>
  obtain ⟨X',hx,Lo,hlo,Hi,hhi,h1⟩:=hc;split at h1
  ·rename_i h2;simp only [A0] at h1;subst h1;exact adF hk ho hop h2 hx hlo hhi hs
  ·rename_i e h2;simp only [A1,A0] at h1;obtain ⟨i,h3,rfl⟩:=h1;exact adR hk ho hop h2 h3 hx hlo hhi hs
  ·cases h1
 case h_16 t x lo hi mx hop=>
  obtain ⟨X',hx,Lo,hlo,H',hhi,M',hmx,h1⟩:=hc;split at h1
  ·rename_i e h2;simp only [A1,A0] at h1;obtain ⟨i,h3,rfl⟩:=h1;exact abd hk ho hop h2 h3 hx hlo hhi hmx hs
  ·cases h1
 case h_17 f first captured hop=>
  obtain ⟨xs,hx,h1⟩:=hc;split at h1
  case isFalse=>cases h1
  rename_i hz;simp only [A0] at h1;subst h1;exact aee hk ho hop hz hx hs
 case h_18 t x f hop=>
  obtain ⟨fs,h1,fl,h2,i,h3,X',hx,h4⟩:=hc;split at h4
  case isFalse=>cases h4
  rename_i hp;simp only [A0] at h4;subst h4;exact abE hk ho hop h1 h2 h3 hp hx hs
 case h_19 t x f hop=>obtain ⟨fs,h1,fl,h2,i,h3,agg,h4,X',hx,rfl⟩:=hc;exact acv hk ho hop h1 h2 h3 h4 hx hs
 case h_20 t x y hop=>obtain ⟨e,h1,i,h2,X',hx,Y',hy,rfl⟩:=hc;exact abm hk ho hop h1 h2 hx hy hs
 case h_21 t x y hop=>
  obtain ⟨X',hx,Y',hy,h1⟩:=hc;split at h1
  ·rename_i h2;simp only [A0] at h1;subst h1;exact abG hk ho hop h2 hx hy hs
  ·cases h1
 case h_22 x i hop=>obtain ⟨X',hx,rfl⟩:=hc;exact ae6 hk ho hop hx hs
 case h_23 f args ts hop=>
  obtain ⟨xs,hx,rfl⟩:=hc;split at hn<;>cases hn
 case h_24 t args ts hop=>
  obtain ⟨xs,hx,rfl⟩:=hc;cases hn
 case h_25 b args ts hop=>
  obtain ⟨xs,hx,h1⟩:=hc;split at h1
  ·rename_i x t hxs hts;obtain ⟨p,rfl,hp⟩:=Ow hx;have ht:=aen hts;subst ht;split at h1
   ·rename_i h2;simp only [A0] at h1;subst h1;exact WE hk ho hop (isStr:=true) h2 hp hs
   ·rename_i e h2;simp only [A0] at h1;subst h1;exact WE hk ho hop (isStr:=false) ⟨e,h2⟩ hp hs
   ·cases h1
  ·rename_i x y t t' hxs hts;obtain ⟨p,q,rfl,hp,hq⟩:=Cf hx;have ht:=Wu hts;subst ht;simp only [A1] at h1;obtain ⟨e,h2,i,h3,z,h4,h5⟩:=h1;split at h5
   ·rename_i e' h6;split at h5
    case isFalse=>cases h5
    simp only [A0] at h5;subst h5;exact U4 hk ho hs0 hop h2 h3 h4 h6 (by simp) hp hq hs
   ·rename_i h6;split at h5
    case isFalse=>cases h5
    simp only [A0] at h5;subst h5;exact U4 hk ho hs0 hop h2 h3 h4 h6 (by simp) hp hq hs
   ·cases h5
  ·rename_i x y t t' hxs hts;obtain ⟨p,q,rfl,hp,hq⟩:=Cf hx;have ht:=Wu hts;subst ht;simp only [A1] at h1;obtain ⟨e,h2,i,h3,h5⟩:=h1;split at h5
   case isFalse=>cases h5
   simp only [A0] at h5;subst h5;exact adV hk ho hop h2 h3 hp hq hs
  ·rename_i x y hxs;obtain ⟨p,q,rfl,hp,hq⟩:=Cf hx;simp only [A0] at h1;subst h1;exact aiN hk ho hop hp hq hs
  ·rename_i x y hxs;obtain ⟨p,q,rfl,hp,hq⟩:=Cf hx;simp only [A0] at h1;subst h1;exact aiK hk ho hop hp hq hs
  ·cases h1
end
end Go.Ey
namespace Go.Ey
theorem gJ.append {xs ys:List K} {cs ds:List C} (h:gJ xs cs) (h':gJ ys ds):gJ (xs++ys) (cs++ds):=by
 induction xs generalizing cs with
 |nil=>cases h;exact h'
 |cons x xs ih=>cases h with|cons h1 h2=>exact .cons h1 (ih h2)
theorem gJ.take {xs:List K} {cs:List C} (h:gJ xs cs) (n:Nat):gJ (xs.take n) (cs.take n):=by
 induction xs generalizing cs n with
 |nil=>cases h;simpa using gJ.nil
 |cons x xs ih=>
  cases h with
  |cons h1 h2=>cases n with
   |zero=>exact .nil
   |succ n=>exact .cons h1 (ih h2 n)
theorem gJ.drop {xs:List K} {cs:List C} (h:gJ xs cs) (n:Nat):gJ (xs.drop n) (cs.drop n):=by
 induction xs generalizing cs n with
 |nil=>cases h;simpa using gJ.nil
 |cons x xs ih=>
  cases h with
  |cons h1 h2=>cases n with
   |zero=>exact .cons h1 h2
   |succ n=>exact ih h2 n
theorem gJ.splice {xs ys:List K} {cs ds:List C} (h:gJ xs cs) (h':gJ ys ds) (off:Nat):gJ (Ey.splice xs off ys) (Ey.splice cs off ds):=by unfold Ey.splice;rw [h'.len];exact ((h.take _).append h').append (h.drop _)
theorem nO.inv {e:Nat} {row:List K} {rev:List (List K)} {cs:List C} (h:nO e (row::rev) cs):∃c0 r,cs=c0++r/\gJ row r/\row.length=e/\nO e rev c0:=by
 cases h with
 |cons h1 h2 h3=>exact ⟨_,_,rfl,h1,h2,h3⟩
theorem nO.aa8 {e:Nat} {cs:List C} (h:nO e [] cs):cs=[]:=by cases h;rfl
theorem nO.len {e:Nat} {rev:List (List K)} {cs:List C} (h:nO e rev cs):cs.length=rev.length * e:=by
 induction rev generalizing cs with
 |nil=>rw [h.aa8];simp
 |cons row rev ih=>
  obtain ⟨c0,r,rfl,h1,h2,h3⟩:=h.inv;rw [Ax,ih h3,<-h1.len,h2,C5,G1]
theorem nO.append {e:Nat} {ys xs:List (List K)} {ds cs:List C} (h:nO e ys ds) (h':nO e xs cs):nO e (ys++xs) (cs++ds):=by
 induction ys generalizing ds with
 |nil=>rw [h.aa8,Cl];exact h'
 |cons row ys ih=>
  obtain ⟨c0,r,rfl,h1,h2,h3⟩:=h.inv;rw [<-List.append_assoc];exact .cons h1 h2 (ih h3)
theorem nO.drop {e:Nat} {rev:List (List K)} {cs:List C} (h:nO e rev cs) (k:Nat):nO e (rev.drop k) (cs.take ((rev.length - k) * e)):=by
 induction rev generalizing cs k with
 |nil=>rw [h.aa8];simpa using nO.nil
 |cons row rev ih=>
  cases k with
  |zero=>
   rw [Nat.sub_zero,<-h.len,Ge];exact h
  |succ k=>
   obtain ⟨c0,r,rfl,h1,h2,h3⟩:=h.inv;have:=ih h3 k
   rw [List.drop_succ_cons,show (row::rev).length - (k+1)=rev.length - k by simp]
   rw [L5]
   ·exact this
   ·rw [h3.len];exact Cd _ (Nat.sub_le _ _)
theorem nO.take {e:Nat} {rev:List (List K)} {cs:List C} (h:nO e rev cs) {k:Nat} (hk:k<=rev.length):nO e (rev.take k) (cs.drop ((rev.length - k) * e)):=by
 induction rev generalizing cs k with
 |nil=>rw [h.aa8];simpa using nO.nil
 |cons row rev ih=>
  cases k with
  |zero=>
   rw [Nat.sub_zero,<-h.len,List.drop_length];exact .nil
  |succ k=>
   obtain ⟨c0,r,rfl,h1,h2,h3⟩:=h.inv;have hk':k<=rev.length:=by simpa using hk
   rw [L3,show (row::rev).length - (k+1)=rev.length - k by simp]
   rw [My (by rw [h3.len];exact Cd _ (Nat.sub_le _ _))]
   exact .cons h1 h2 (ih h3 hk')
theorem nO.row {e:Nat} {rev:List (List K)} {cs:List C} (h:nO e rev cs) {j:Nat} (hj:j < rev.length) {row:List K} {rest:List (List K)} (hd:rev.drop (rev.length - (j+1))=row::rest):
  gJ row ((cs.drop (j * e)).take e)/\row.length=e:=by
 have h1:=h.drop (rev.length - (j+1));rw [hd,show rev.length - (rev.length - (j+1))=j+1 by omega] at h1
 obtain ⟨c0,r,h2,h3,h4,h5⟩:=h1.inv;have hl:rest.length=j:=by
  have:=E6 List.length hd
  rw [Ft,C5] at this;omega
 have h6:=h5.len;rw [hl] at h6;refine ⟨?_,h4⟩;have h7:(cs.take ((j+1) * e)).drop (j * e)=r:=by rw [h2,<-h6,List.drop_left]
 rw [List.drop_take] at h7;rw [show (j+1) * e - j * e=e by rw [G1];omega] at h7
 rw [h7];exact h3
theorem Uf {c0 r vs:List C} {p:Nat} (h:p+vs.length<=c0.length):splice (c0++r) p vs=splice c0 p vs++r:=by
 unfold splice;rw [L5 (by omega),My h]
 simp [B9]
theorem SI {c0 r vs:List C} {off:Nat}:splice (c0++r) (c0.length+off) vs=c0++splice r off vs:=by unfold splice;rw [List.take_length_add_append,Nat.add_assoc,List.drop_length_add_append];simp [B9]
theorem XA {α:Type} {l vs:List α} {off:Nat} (h:off+vs.length<=l.length):(splice l off vs).length=l.length:=by unfold splice;simp;omega
theorem nO.set {e:Nat} {ys:List K} {vs:List C} (hv:gJ ys vs) {off:Nat} (ho:off+ys.length<=e):∀{rev:List (List K)} {cs:List C} {i:Nat},nO e rev cs->i < rev.length->
  nO e (Wo rev i fun row=>splice row off ys) (splice cs ((rev.length - (i+1)) * e+off) vs)
 |[],_,_,_,hi=>absurd hi (Nat.not_lt_zero _)
 |row::rev,cs,0,h,_=>by
  obtain ⟨c0,r,rfl,h1,h2,h3⟩:=h.inv;show nO e ((splice row off ys)::rev) _
  rw [show (row::rev).length - (0+1)=rev.length by simp,<-h3.len,SI]
  exact .cons (h1.splice hv off) (by rw [XA (by omega),h2]) h3
 |row::rev,cs,i+1,h,hi=>by
  obtain ⟨c0,r,rfl,h1,h2,h3⟩:=h.inv;have hi':i < rev.length:=by simpa using hi
  have ih:=nO.set hv ho h3 hi';show nO e (row::Wo rev i fun row=>splice row off ys) _
  rw [show (row::rev).length - (i+1+1)=rev.length - (i+1) by simp]
  rw [Uf]
  ·exact .cons h1 h2 ih
  ·rw [h3.len,<-hv.len];have:(rev.length - (i+1)) * e+e<=rev.length * e:=by rw [<-Nat.succ_mul];exact Cd _ (by omega)
   omega
theorem Pz {g:List K->List K}:∀{rev:List (List K)} {i:Nat},i < rev.length->(Wo rev i g).length=rev.length
 |[],_,hi=>absurd hi (Nat.not_lt_zero _)
 |row::rev,0,_=>rfl
 |row::rev,i+1,hi=>by
  have:=Pz (g:=g) (rev:=rev) (i:=i) (by simpa using hi)
  show (row::Wo rev i g).length=_
  simp [this]
theorem Mo (z:List Value):∀n,zeros z n++z.map Fz=z.map Fz++zeros z n
 |0=>by simp [zeros]
 |n+1=>by simp only [zeros];rw [B9,Mo z n]
def VU (v:Value):K:=match Fz v with|.lit v=>ags v|.slice _ _=> .sl 0 [] 0
theorem ahD (v:Value):RK (VU v) (Fz v):=by
 unfold VU Fz;split
 ·rename_i v' h;rw [h];exact Z6 v'
 ·rename_i cs n h;rw [h];split at h<;>first|(injection h with h1 h2;subst h1 h2;exact .sl 0 [] 0 [] .nil rfl)|cases h
theorem aaC:∀z:List Value,gJ (z.map VU) (z.map Fz)
 |[]=> .nil
 |v::z=> .cons (ahD v) (aaC z)
theorem ZA {z:List Value} {e:Nat} (he:z.length=e):∀n,nO e (acp (z.map VU) n) (zeros z n)
 |0=> .nil
 |n+1=>by
  show nO e (z.map VU::acp (z.map VU) n) _
  simp only [zeros];rw [<-Mo];exact .cons (aaC z) (by simpa using he) (ZA he n)
theorem VR (z:List K):∀n,(acp z n).length=n
 |0=>rfl
 |n+1=>by show (z::acp z n).length=_;simp [VR z n]
section
variable {a:bD} {ρ:List KW} {ρ':List W}
theorem VE {e:Nat}:∀{n:Nat} {ys:List K} {cs:List C} {acc:List (List K)} {ds:List C} {k:List (List K)->bD},gJ ys cs->ys.length=n * e->nO e acc ds->Zx e n ys acc k=a->∃rev,nO e rev (ds++cs)/\rev.length=n+acc.length/\k rev=a
 |0,ys,cs,acc,ds,k,hy,hl,hacc,hk=>by
  have:cs=[]:=by have:=hy.len;rw [hl] at this;simp at this;exact Cp this.symm
  subst this;exact ⟨acc,by simpa using hacc,by simp,hk⟩
 |n+1,ys,cs,acc,ds,k,hy,hl,hacc,hk=>by
  have hk':Bf (ys.take e) (fun row=>Zx e n (ys.drop e) (row::acc) k)=a:=hk
  rw [si] at hk';rw [G1] at hl;obtain ⟨rev,h1,h2,h3⟩:=VE (hy.drop e) (by rw [Ft];omega) (.cons (hy.take e) (by rw [Fo];omega) hacc) hk'
  exact ⟨rev,by rw [B9,Iv] at h1;exact h1,by rw [h2];simp;omega,h3⟩
theorem aaf {aj e n:Nat} {r:List (List K)} {c:C} (h:RK (.sl e r n) c) {x:bD} (hk:Zg aj e n x=a) (ha:a≠.fail):∃cs,c=.slice cs n/\nO aj r cs/\r.length=n/\x=a:=by
 obtain ⟨cs,rfl,h1,h2⟩:=h.sli;unfold Zg at hk;cases he:Nat.beq e aj with
 |true=>
  rw [he] at hk;have:=Bx he
  subst this;exact ⟨cs,rfl,h1,h2,hk⟩
 |false=>
  rw [he,Ek] at hk;obtain ⟨h3,h4⟩:=dn hk ha;have:=Bx h3
  subst this;have:=Cp h2
  subst this;rw [h1.aa8];exact ⟨[],rfl,.nil,rfl,h4⟩
theorem kM {m n:Nat} (h:Nat.ble m n=true):m<=n:=by rw [Ln] at h;exact h
theorem nz {n:Nat} (h:Nat.beq n 0=false):0 < n:=by
 cases n with
 |zero=>cases h
 |succ n=>exact Nat.succ_pos n
theorem aqw (h:RE ρ ρ') {aj bytes:Nat} {z:List Value} (hz:z.length=aj) {x y:At} {k:K->bD} (hk:kMk aj bytes (z.map VU) (cA ρ'.length x) (cA ρ'.length y) ρ k=a) (ha:a≠.fail):I6 a ρ' (.mk aj bytes z x y) k:=by
 obtain ⟨u,v,c,d,h1,h2,h3,h4,h5⟩:=two h hk ha;obtain ⟨p,n,rfl,h6⟩:=qz h5 ha;obtain ⟨m,rfl,h7⟩:=Bl h6 ha;obtain ⟨p',n',rfl,h8⟩:=qz h7 ha;obtain ⟨q,rfl,h9⟩:=Bl h8 ha;obtain ⟨g1,h9⟩:=dn h9 ha;obtain ⟨g2,h9⟩:=dn h9 ha;obtain ⟨g3,h9⟩:=dn h9 ha;obtain ⟨g4,h9⟩:=BD h9 ha;rw [si] at h9;rw [h1.int] at h3;rw [h2.int] at h4;have e1:=kM g1;have e2:=kM g2;have e3:=kM g3;have e4:=nz g4;refine ⟨_,.slice (zeros z m) m,.sl aj _ m _ (ZA hz m) (VR _ m),?_,h9⟩;simp only [dP,h3,h4,A4,mkC];rw [C6 ⟨by omega,by omega,by simpa [Wx,bg] using e2,by simpa [Wx,bg] using e3,hz,e4⟩]
 simp
theorem agf (h:RE ρ ρ') {aj len:Nat} {xs:List At} (hl:xs.length=len * aj) {k:K->bD} (hk:ajv aj len (xs.map (cA ρ'.length)) ρ k=a) (ha:a≠.fail):I6 a ρ' (.lits aj len xs) k:=by
 obtain ⟨ys,cs,h1,h2,h3,h4⟩:=Si h (show kAs ρ (xs.map (cA ρ'.length)) (fun ys=>cond (Nat.ble len Wx) (cond (Nat.beq aj 0) .fail (Zx aj len ys [] fun zs=>k (.sl aj zs len))) .fail)=a from hk) ha
 obtain ⟨g1,h4⟩:=dn h4 ha;obtain ⟨g2,h4⟩:=BD h4 ha;obtain ⟨rev,h5,h6,h7⟩:=VE h1 (by omega) .nil h4
 refine ⟨_,.slice cs len,.sl aj rev len cs (by simpa using h5) (by simpa using h6),?_,h7⟩
 simp only [dP,h3,A4,fK];rw [C6 ⟨by rw [<-h1.len];omega,show len<=Wx from kM g1,nz g2⟩]
theorem amb (h:RE ρ ρ') {aj:Nat} {x y:At} {k:List K->bD} (hk:(kA ρ (cA ρ'.length x) fun u=>kA ρ (cA ρ'.length y) fun v=>F9 aj u v k)=a) (ha:a≠.fail):
  ∃row r,gJ row r/\row.length=aj/\(((dH ρ' x).bind fun u=>(dH ρ' y).bind fun v=>fI aj u v)=some r)/\k row=a:=by
 obtain ⟨u,v,c,d,h1,h2,h3,h4,h5⟩:=two h hk ha;obtain ⟨e,rev,n,rfl,h6⟩:=He h5 ha;obtain ⟨p,n',rfl,h7⟩:=qz h6 ha;obtain ⟨j,rfl,h8⟩:=Bl h7 ha;obtain ⟨g1,h8⟩:=dn (x:=cond (Nat.beq e aj) (List.casesOn (motive:=fun _=>bD) (rev.drop (n - Nat.succ j)) .fail fun row _=>k row) .fail) h8 ha
 obtain ⟨g2,h9⟩:=dn (x:=List.casesOn (motive:=fun _=>bD) (rev.drop (n - Nat.succ j)) .fail fun row _=>k row) h8 ha
 have:=Bx g2
 subst this;obtain ⟨cs,rfl,r1,r2⟩:=h1.sli;rw [h2.int] at h4;have e1:=kM g1;subst r2;cases hd:rev.drop (rev.length - (j+1)) with
 |nil=>rw [show rev.drop (rev.length - Nat.succ j)=[] from hd] at h9;exact absurd h9.symm ha
 |cons row rest=>
  rw [show rev.drop (rev.length - Nat.succ j)=row::rest from hd] at h9
  obtain ⟨q1,q2⟩:=r1.row (j:=j) (by omega) hd
  refine ⟨row,_,q1,q2,?_,h9⟩;simp only [h3,h4,A4,fI];rw [C6 ⟨by omega,by omega,by rw [r1.len];exact Cd _ (by simpa using e1)⟩]
  rfl
theorem amh (h:RE ρ ρ') {aj off:Nat} {x y:At} {vs:List At} {k:K->bD} (hk:ap0 aj (cA ρ'.length x) (cA ρ'.length y) off vs.length (vs.map (cA ρ'.length)) ρ k=a) (ha:a≠.fail):I6 a ρ' (.set aj x y off vs) k:=by
 obtain ⟨u,v,c,d,h1,h2,h3,h4,h5⟩:=two h hk ha;obtain ⟨ys,ds,w1,w2,w3,h5⟩:=Si h h5 ha;obtain ⟨e,rev,n,rfl,h6⟩:=He h5 ha;obtain ⟨p,n',rfl,h7⟩:=qz h6 ha;obtain ⟨j,rfl,h8⟩:=Bl h7 ha;obtain ⟨g1,h8⟩:=dn h8 ha;obtain ⟨g2,h8⟩:=dn h8 ha;obtain ⟨g3,h8⟩:=dn h8 ha;have:=Bx g2
 subst this;obtain ⟨cs,rfl,r1,r2⟩:=h1.sli;rw [h2.int] at h4;rw [si] at h8;have e1:=kM g1;have e3:=kM g3;subst r2;have hi:rev.length - Nat.succ j < rev.length:=by omega
 have key:=nO.set w1 (off:=off) (by omega) r1 hi
 rw [show rev.length - (rev.length - Nat.succ j+1)=j by omega] at key
 refine ⟨_,_,.sl _ _ _ _ key (Pz hi),?_,h8⟩;simp only [dP,h3,h4,w3,A4,Yz];rw [C6 ⟨by omega,by omega,by rw [<-w1.len];omega,r1.len⟩]
 simp
theorem ae5 (h:RE ρ ρ') {o:Option At} {k:Nat->bD} (hk:klo ρ (o.map (cA ρ'.length)) 0 k=a) (ha:a≠.fail):∃q n,LU ρ' o=some q/\loC q=some n/\k n=a:=by
 cases o with
 |none=>exact ⟨none,0,rfl,rfl,hk⟩
 |some x=>
  obtain ⟨u,c,h1,h2,h3⟩:=zz h (show kA ρ (cA ρ'.length x) (fun x=>Sv x fun _ n=>Xb n k)=a from hk) ha
  obtain ⟨p,n,rfl,h4⟩:=qz h3 ha;obtain ⟨m,rfl,h5⟩:=Bl h4 ha;rw [h1.int] at h2;exact ⟨some (.lit (.int p m)),m,by simp [LU,h2],by simp [loC],h5⟩
theorem afo (h:RE ρ ρ') {o:Option At} {len:Nat} {k:Nat->bD} (hk:klo ρ (o.map (cA ρ'.length)) len k=a) (ha:a≠.fail):∃q n,LU ρ' o=some q/\hiC len q=some n/\k n=a:=by
 cases o with
 |none=>exact ⟨none,len,rfl,rfl,hk⟩
 |some x=>
  obtain ⟨u,c,h1,h2,h3⟩:=zz h (show kA ρ (cA ρ'.length x) (fun x=>Sv x fun _ n=>Xb n k)=a from hk) ha
  obtain ⟨p,n,rfl,h4⟩:=qz h3 ha;obtain ⟨m,rfl,h5⟩:=Bl h4 ha;rw [h1.int] at h2;exact ⟨some (.lit (.int p m)),m,by simp [LU,h2],by simp [hiC],h5⟩
theorem aeb (h:RE ρ ρ') {aj:Nat} {x:At} {lo hi:Option At} {k:K->bD} (hk:akM aj (cA ρ'.length x) (lo.map (cA ρ'.length)) (hi.map (cA ρ'.length)) ρ k=a) (ha:a≠.fail):I6 a ρ' (.sub aj x lo hi) k:=by
 obtain ⟨u,c,h1,h2,h3⟩:=zz h hk ha;obtain ⟨e,rev,n,rfl,h4⟩:=He h3 ha;obtain ⟨cs,rfl,r1,r2,h5⟩:=aaf h1 h4 ha;obtain ⟨ql,l,l1,l2,h5⟩:=ae5 h h5 ha;obtain ⟨qh,r,l3,l4,h5⟩:=afo h h5 ha;obtain ⟨g1,h5⟩:=dn h5 ha;rw [jc,si] at h5;rw [A5] at g1;have e1:=kM g1.1;have e2:=kM g1.2;subst r2;have q1:=r1.drop (rev.length - r);rw [show rev.length - (rev.length - r)=r by omega] at q1
 have hlen:(rev.drop (rev.length - r)).length=r:=by rw [Ft];omega
 have q2:=q1.take (k:=r - l) (by omega)
 rw [hlen,show r - (r - l)=l by omega,List.drop_take,<-Nat.sub_mul] at q2
 refine ⟨_,_,.sl aj _ (r - l) _ q2 (by rw [Fo,hlen];omega),?_,h5⟩
 simp only [dP,h2,l1,l3,A4,OV,l2,l4];rw [C6 ⟨e1,e2⟩]
end
end Go.Ey
namespace Go.Ey
theorem aaq (l:Nat):2 ^ (8 * l)=256 ^ l:=by rw [Nat.pow_mul]
theorem afG (w l:Nat):Nat.shiftLeft w (8 * l)=w * 256 ^ l:=by rw [<-aaq];exact Nat.shiftLeft_eq w (8 * l)
theorem XF (w l:Nat):Nat.shiftRight w (8 * l)=w / 256 ^ l:=by rw [<-aaq];exact Nat.shiftRight_eq_div_pow w (8 * l)
theorem Ia:∀(l m v w:Nat),v < 256 ^ l->strOf (l+m) (v+w * 256 ^ l)=strOf l v++strOf m w
 |0,m,v,w,h=>by
  have:v=0:=by simpa using h
  subst this;simp [strOf]
 |l+1,m,v,w,h=>by
  rw [Mn] at h;have e1:w * 256 ^ (l+1)=256 * (w * 256 ^ l):=by rw [Mn];simp only [Nat.mul_comm,Nat.mul_left_comm]
  rw [show l+1+m=(l+m)+1 by omega,e1]
  simp only [strOf];rw [show (v+256 * (w * 256 ^ l)) % 256=v % 256 by omega,show (v+256 * (w * 256 ^ l)) / 256=v / 256+w * 256 ^ l by omega,Ia l m (v / 256) w (by omega)]
  rfl
theorem aba {l m v w:Nat} (hv:v < 256 ^ l) (hw:w < 256 ^ m):v+w * 256 ^ l < 256 ^ (l+m):=by have h1:(w+1) * 256 ^ l<=256 ^ m * 256 ^ l:=Cd _ hw;rw [G1] at h1;rw [Nat.add_comm l m,Nat.pow_add];omega
theorem Oc:∀(l n w:Nat),(strOf n w).drop l=strOf (n - l) (w / 256 ^ l)
 |0,n,w=>by simp
 |l+1,0,w=>by simp [strOf]
 |l+1,n+1,w=>by simp only [strOf,List.drop_succ_cons];rw [Oc l n (w / 256),Nat.div_div_eq_div_mul,show n+1 - (l+1)=n - l by omega,Mn,Nat.mul_comm]
theorem OB:∀(m n w:Nat),m<=n->(strOf n w).take m=strOf m (w % 256 ^ m)
 |0,n,w,_=>by simp [strOf]
 |m+1,0,w,h=>by omega
 |m+1,n+1,w,h=>by
  simp only [strOf,L3];rw [OB m n (w / 256) (by omega)]
  have e1:w % 256 ^ (m+1) % 256=w % 256:=Nat.mod_mod_of_dvd _ ⟨256 ^ m,by rw [Mn,Nat.mul_comm]⟩
  have e2:w % 256 ^ (m+1) / 256=w / 256 % 256 ^ m:=by rw [Mn,Nat.mul_comm,Nat.mod_mul_right_div_self]
  rw [e1,e2]
theorem Qn:∀(n w j:Nat),j < n->(strOf n w)[j]?=some (UInt8.ofNat (w / 256 ^ j % 256))
 |0,_,_,h=>by omega
 |n+1,w,0,_=>by simp [strOf]
 |n+1,w,j+1,h=>by simp only [strOf,Bm];rw [Qn n (w / 256) j (by omega),Nat.div_div_eq_div_mul,Mn,Nat.mul_comm (256 ^ j)]
section
variable {a:bD} {ρ:List KW} {ρ':List W}
theorem Cq {b:ByteArray} {l w:Nat} (h:b.data.toList=strOf l w):b.size=l:=by
 have:=E6 List.length h
 rw [yz] at this;exact this
theorem YZ (h:RE ρ ρ') {x y:At} {k:K->bD} (hk:abo (cA ρ'.length x) (cA ρ'.length y) ρ k=a) (ha:a≠.fail):I6 a ρ' (.bin .add false x y) k:=by
 obtain ⟨u,v,c,d,h1,h2,h3,h4,h5⟩:=two h hk ha;cases u with
 |i p n=>
  obtain ⟨p',n',m,e,rfl,h6⟩:=BQ (show Bu (.i p n) v (fun k' n m=>kIn k' (n+m) k)=a from h5) ha
  injection e with e1 e2;subst e1 e2;rw [h1.int] at h3;rw [h2.int] at h4;rw [J5] at h6;exact ⟨_,.lit (.int p (p.wrap (n+m))),.i _ _,by simp [dP,h3,h4,bW,r9,gM,jV],h6⟩
 |s l w=>
  obtain ⟨m,z,rfl,h6⟩:=NZ (show onS v (fun m z=>jB (l+m) fun lm=>cond (Nat.ble lm Wx) (jB (w+Nat.shiftLeft z (8 * l)) fun u=>k (.s lm u)) .fail)=a from h5) ha
  rw [jc] at h6;obtain ⟨g1,h7⟩:=dn h6 ha;rw [jc,afG] at h7;obtain ⟨b,rfl,hb,hw⟩:=h1.str;obtain ⟨b',rfl,hb',hw'⟩:=h2.str;refine ⟨_,.lit (.string (b++b')),.s _ _ _ ?_ (aba hw hw'),?_,h7⟩
  ·rw [Ia _ _ _ _ hw,<-hb,<-hb'];simp [ByteArray.toList_data_append]
  ·simp only [dP,h3,h4,A4,bW,r9,DJ,C2,C7];rw [C6 (by rw [Cq hb,Cq hb'];exact kM g1)]
   rfl
 |b _=>exact absurd h5.symm ha
 |sl _ _ _=>exact absurd h5.symm ha
 |o _=>exact absurd h5.symm ha
theorem Tg (b:ByteArray) (l r:Nat):(b.extract l r).data.toList=(b.data.toList.drop l).take (r - l):=by simp [ByteArray.data_extract]
theorem agn (h:RE ρ ρ') {x:At} {lo hi:Option At} {k:K->bD} (hk:ajq (cA ρ'.length x) (lo.map (cA ρ'.length)) (hi.map (cA ρ'.length)) ρ k=a) (ha:a≠.fail):I6 a ρ' (.Nu x lo hi) k:=by
 obtain ⟨u,c,h1,h2,h3⟩:=zz h hk ha;obtain ⟨n,w,rfl,h4⟩:=NZ h3 ha;obtain ⟨b,rfl,hb,hw⟩:=h1.str;obtain ⟨ql,l,l1,l2,h5⟩:=ae5 h h4 ha;obtain ⟨qh,r,l3,l4,h6⟩:=afo h h5 ha;obtain ⟨g1,h7⟩:=dn h6 ha;rw [jc,jc,XF,afG,Nat.one_mul] at h7;rw [A5] at g1;have e1:=kM g1.1;have e2:=kM g1.2;refine ⟨_,.lit (.string (b.extract l r)),.s _ _ _ ?_ (Nat.mod_lt _ (Nat.pow_pos (by omega))),?_,h7⟩
 ·rw [Tg,hb,Oc,OB _ _ _ (by omega)]
 ·simp only [dP,h2,l1,l3,A4,KU,l2,Cq hb,l4];rw [C6 ⟨e1,e2⟩]
theorem agq (h:RE ρ ρ') {x y:At} {k:K->bD} (hk:aju (cA ρ'.length x) (cA ρ'.length y) ρ k=a) (ha:a≠.fail):I6 a ρ' (.BV x y) k:=by
 obtain ⟨u,v,c,d,h1,h2,h3,h4,h5⟩:=two h hk ha;obtain ⟨n,w,rfl,h6⟩:=NZ h5 ha;obtain ⟨p,m,rfl,h7⟩:=qz h6 ha;obtain ⟨j,rfl,h8⟩:=Bl h7 ha;obtain ⟨g1,h9⟩:=dn h8 ha;rw [jc,XF] at h9;obtain ⟨b,rfl,hb,hw⟩:=h1.str;rw [h2.int] at h4;have e1:j < n:=kM g1;refine ⟨_,.lit (.int .u8 ((w / 256 ^ j % 256:Nat):Int)),.i _ _,?_,h9⟩;have hg:=Qn n w j e1;rw [<-hb,Array.getElem?_toList] at hg;simp only [dP,h3,h4,A4,af2];rw [C6 (by omega),show ((j:Int)).toNat=j from rfl,hg]
 simp
theorem DL:∀{cs ds:List C} {xs ys:List UInt8},bytesOf cs=some xs->bytesOf ds=some ys->bytesOf (cs++ds)=some (xs++ys)
 |[],ds,xs,ys,h1,h2=>by simp only [bytesOf,A0] at h1;subst h1;exact h2
 |c::cs,ds,xs,ys,h1,h2=>by
  unfold bytesOf at h1;split at h1
  ·rename_i h;cases h
  ·rename_i n r heq;injection heq with e1 e2;subst e1 e2;simp only [A2,A1,A0] at h1;obtain ⟨bs,h3,rfl⟩:=h1;simp only [E3,bytesOf,DL h3 h2,A2,A4]
  ·cases h1
theorem Uo:∀{rev:List (List K)} {cs:List C} {suf:List UInt8} {k:Nat->bD},nO 1 rev cs->adp rev (mq suf) k=a->a≠.fail->∃bs,bytesOf cs=some bs/\bs.length=rev.length/\k (mq (bs++suf))=a
 |[],cs,suf,k,hr,hk,ha=>by rw [hr.aa8];exact ⟨[],rfl,rfl,hk⟩
 |row::rev,cs,suf,k,hr,hk,ha=>by
  obtain ⟨c0,r,rfl,h1,h2,h3⟩:=hr.inv;cases row with
  |nil=>simp at h2
  |cons x row=>
   have:row=[]:=by simpa using h2
   subst this;obtain ⟨p,n,rfl,h4⟩:=qz (show Sv x (fun p n=>cond (Nat.beq (kk p) 4) (Xb n fun b=>cond (Nat.ble b 255) (jB (b+256 * mq suf) fun v=>adp rev v k) .fail) .fail)=a from hk) ha
   obtain ⟨g1,h5⟩:=dn h4 ha;obtain ⟨b,rfl,h6⟩:=Bl h5 ha;obtain ⟨g2,h7⟩:=dn h6 ha;rw [jc] at h7;have hp:p=.u8:=acy (q:=.u8) g1;subst hp;have hb:=kM g2;have e1:b+256 * mq suf=mq (UInt8.ofNat b::suf):=by
    have:(UInt8.ofNat b).toNat=b:=by simp;omega
    simp [mq,this]
   rw [e1] at h7;obtain ⟨bs,h8,h9,h10⟩:=Uo h3 h7 ha;cases h1 with
   |cons h11 h12=>
    cases h12;rw [h11.int];refine ⟨bs++[UInt8.ofNat b],DL h8 (by simp [bytesOf]),by simp [h9],?_⟩
    rw [B9];exact h10
theorem ae1 (h:RE ρ ρ') {x:At} {k:K->bD} (hk:aeP (cA ρ'.length x) ρ k=a) (ha:a≠.fail):I6 a ρ' (.toStr x) k:=by
 obtain ⟨u,c,h1,h2,h3⟩:=zz h hk ha;obtain ⟨e,rev,n,rfl,h4⟩:=He h3 ha;obtain ⟨cs,rfl,r1,r2,h5⟩:=aaf h1 h4 ha;obtain ⟨bs,h6,h7,h8⟩:=Uo (suf:=[]) r1 h5 ha;rw [Cl] at h8;refine ⟨_,.lit (.string ⟨bs.toArray⟩),.s n (mq bs) _ ?_ ?_,?_,h8⟩
 ·show bs.toArray.toList=_
  rw [<-r2,<-h7,zT]
 ·rw [<-r2,<-h7];exact LM bs
 ·simp only [dP,h2,A4,Tp,h6];rw [C6 (by rw [r1.len,r2];omega)]
theorem Wp:∀{l w:Nat} {acc:List (List K)} {cs:List C},nO 1 acc cs->nO 1 (Px l w acc) (cs++(strOf l w).map fun b=>C.lit (.int .u8 b.toNat))/\(Px l w acc).length=l+acc.length
 |0,w,acc,cs,h=>⟨by show nO 1 acc _;simpa [strOf] using h,by show acc.length=_;omega⟩
 |l+1,w,acc,cs,h=>by
  have e0:Nat.shiftRight w 8=w / 256:=by have:=XF w 1;simpa using this
  have e1:(K.i .u8 (.ofNat (Nat.mod w 256)))=K.i .u8 ((UInt8.ofNat (w % 256)).toNat:Nat):=by
   have:(UInt8.ofNat (w % 256)).toNat=w % 256:=by simp
   rw [this];rfl
  have h2:nO 1 ([.i .u8 (.ofNat (Nat.mod w 256))]::acc) (cs++[.lit (.int .u8 ((UInt8.ofNat (w % 256)).toNat:Nat))]):=by rw [e1];exact .cons (.cons (.i _ _) .nil) rfl h
  obtain ⟨h3,h4⟩:=Wp (l:=l) (w:=w / 256) h2;have hd:Px (l+1) w acc=Px l (w / 256) ([.i .u8 (.ofNat (Nat.mod w 256))]::acc):=by rw [<-e0];rfl
  rw [hd];refine ⟨?_,by rw [h4];simp;omega⟩
  simp only [strOf,D4];rw [B9] at h3;exact h3
theorem amT (h:RE ρ ρ') {aj bytes:Nat} {x y:At} {k:K->bD} (hk:aoV aj bytes (cA ρ'.length x) (cA ρ'.length y) ρ k=a) (ha:a≠.fail):I6 a ρ' (.app aj bytes x y) k:=by
 obtain ⟨u,v,c,d,h1,h2,h3,h4,h5⟩:=two h hk ha;obtain ⟨e,rev,n,rfl,h6⟩:=He h5 ha;obtain ⟨cs,rfl,r1,r2,h7⟩:=aaf h1 h6 ha;cases v with
 |s l w=>
  obtain ⟨g1,h8⟩:=dn (show (cond (Nat.beq aj 1) (Bf (Px l w rev) fun zs=>jB (n+l) fun m=>cond (Nat.ble (m * bytes) Wx) (cond (Nat.ble m Wx) (k (.sl aj zs m)) .fail) .fail) .fail)=a from h7) ha
  rw [si,jc] at h8;obtain ⟨g2,h9⟩:=dn h8 ha;obtain ⟨g3,h10⟩:=dn h9 ha;have:=Bx g1
  subst this;obtain ⟨b,rfl,hb,hw⟩:=h2.str;obtain ⟨q1,q2⟩:=Wp (l:=l) (w:=w) r1;rw [<-hb] at q1;refine ⟨_,_,.sl 1 _ (n+l) _ q1 (by rw [q2,r2];omega),?_,h10⟩
  have hl:b.data.toList.length=l:=by rw [hb,yz]
  have hl2:b.data.size=l:=by rw [<-Array.length_toList];exact hl
  simp only [dP,h3,h4,A4,Fq,LB];rw [C6 trivial,A4,C6 ⟨by simp [Cq hb,hl2],by rw [r1.len,r2],by rw [Cq hb];exact kM g2,by omega,by rw [Cq hb];exact kM g3⟩]
  rw [Cq hb]
 |sl e' ys m=>
  obtain ⟨ds,rfl,t1,t2,h8⟩:=aaf h2 (show Zg aj e' m (cond (Nat.beq aj 0) .fail (Bf (ys++rev) fun zs=>jB (n+m) fun q=>cond (Nat.ble (q * bytes) Wx) (cond (Nat.ble q Wx) (k (.sl aj zs q)) .fail) .fail))=a from h7) ha
  obtain ⟨g1,h9⟩:=BD h8 ha;rw [si,jc] at h9;obtain ⟨g2,h10⟩:=dn h9 ha;obtain ⟨g3,h11⟩:=dn h10 ha;refine ⟨_,_,.sl aj _ (n+m) _ (t1.append r1) (by simp [r2,t2];omega),?_,h11⟩
  simp only [dP,h3,h4,A4,Fq,LB];rw [C6 (by rw [t1.len,t2]),A4,C6 ⟨by rw [t1.len,t2],by rw [r1.len,r2],kM g2,nz g1,kM g3⟩]
 |i _ _=>exact absurd h7.symm ha
 |b _=>exact absurd h7.symm ha
 |o _=>exact absurd h7.symm ha
end
end Go.Ey
