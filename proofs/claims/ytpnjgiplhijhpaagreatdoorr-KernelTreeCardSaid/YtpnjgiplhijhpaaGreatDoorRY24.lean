/- A part. -/
import Derived.Test.YtpnjgiplhijhpaaGreatDoorRY22
import Derived.Test.YtpnjgiplhijhpaaGreatDoorRChecked
import Derived.KernelRfl
import Derived.WalkKit
import Derived.BigCall
import Derived.RegionTactic
import Derived.Lib.SliceRun
import Derived.Defers
import Derived.Recover
import Derived.WideLaws
import Derived.Laws.Pointers
import Derived.Tactics2
import Derived.Deep.RegionLaw
import Derived.Deep.RegionHeld3
import Derived.Deep.DeepCutAuto
import Derived.Deep.DrawnRows
import Derived.Lib.UnsafeStr
set_option linter.all false
namespace Go.Ey
open Go.RowKit
section
variable [bz]
def codeOf (P:Program) (sh:Nat->Nat) (k:Nat):Option uP:=match P.funcs[k]? with
 |some fn=>cond (fn.name== "runtime.NumGoroutine") none (xh P sh fn)
 |none=>none
abbrev Z4:=List D->Heap->Nat->Option (List D×Heap×Nat)
theorem MB {P:Program} {sh:Nat->Nat} {nat:Nat->List V->Option (List V)} {EX:Nat->Option Z4} (hn:∀f vs rs,nat f vs=some rs->bR P f vs rs)
  (hb:∀f b,EX f=some b->∀ds h k rs h' nx',b ds h k=some (rs,h',nx')->vT P f ds h k rs h' nx') (hm:P.follows .mixedOrders=true):Table P sh ⟨codeOf P sh,nat,EX⟩:=by
 refine ⟨hn,hb,fun f I h=>?_,hm⟩
 have h:codeOf P sh f=some I:=h;unfold codeOf at h;split at h
 ·rename_i fn hf;cases hb:(fn.name== "runtime.NumGoroutine") with
  |true=>rw [hb] at h;cases h
  |false=>rw [hb] at h;exact ⟨fn,hf,h,hb⟩
 ·cases h
omit [bz] in
theorem jH {P:Program} {f:Nat} (h:(P.funcs[f]?).any (fun fn=>!fn.body.isNone && !(fn.name== "runtime.NumGoroutine"))=true):dY P f:=by
 cases hf:P.funcs[f]? with
 |none=>rw [hf] at h;cases h
 |some fn=>
  rw [hf] at h;simp only [Option.any_some,Bool.and_eq_true,Bool.not_eq_true'] at h;exact ⟨fn,hf,h.1,h.2⟩
def MO (v:Value):V:=.one (.lit v)
omit [bz] in
theorem Md {w:World} {S:Nat->Nat->Prop}:∀{vals us:List Value},aj (bA w S) (vals.map MO) us->us=vals
 |[],[],_=>rfl
 |v::vs,u::us,h=>by have h1:u=v:=h.1.1;rw [h1,Md (vals:=vs) (us:=us) h.2]
 |[],_::_,h=>h.elim
 |_::_,[],h=>h.elim
theorem bR.lits {P:Program} {f:Nat} {vals:List Value} {rs:List V} (hc:dY P f)
  (h:∀(w:World) (Sf:Nat->Nat->Prop),bz.Inv w.heap.size w->(∀b o,w.heap.size<=b->Sf b o)->Calls P f vals.toArray w fun e w'=>∃v,e=.returned v/\lu w' Sf rs v/\Below w.heap.size w w'):bR P f (vals.map MO) rs:=by
 refine ⟨hc,fun S w us hinv hall=>?_⟩
 rw [Md hall];exact h w _ hinv fun b o hb hlt=>absurd hlt (Nat.not_lt.2 hb)
end
mutual
def toC:K->C
 |.i k n=> .lit (.int k n)
 |.b x=> .lit (.bool x)
 |.s l w=> .lit (.string ⟨(strOf l w).toArray⟩)
 |.o v=> .lit v
 |.sl _ rev n=> .slice (XX rev) n
def WW:List K->List C
 |[]=>[]
 |x::xs=>toC x::WW xs
def XX:List (List K)->List C
 |[]=>[]
 |r::rs=>XX rs++WW r
end
mutual
def wfK:K->Bool
 |.i _ _=>true
 |.b _=>true
 |.s l w=>Nat.blt w (256 ^ l)
 |.o _=>true
 |.sl e rev n=>Nat.beq rev.length n && Ta e rev
def UT:List K->Bool
 |[]=>true
 |x::xs=>wfK x && UT xs
def Ta (e:Nat):List (List K)->Bool
 |[]=>true
 |r::rs=>Nat.beq r.length e && (UT r && Ta e rs)
end
mutual
theorem Oe:∀k:K,wfK k=true->RK k (toC k)
 |.i k n,_=>RK.i k n
 |.b x,_=>RK.b x
 |.s l w,h=>by simp only [wfK,Nat.blt_eq] at h;exact RK.s l w _ (by simp) h
 |.o v,_=>RK.o v
 |.sl e rev n,h=>by simp only [wfK,Bool.and_eq_true] at h;exact RK.sl e rev n _ (LD e rev h.2) (Nat.eq_of_beq_eq_true h.1)
theorem KE:∀ks:List K,UT ks=true->nC ks (WW ks)
 |[],_=> .nil
 |x::xs,h=>by simp only [UT,Bool.and_eq_true] at h;exact .cons (Oe x h.1) (KE xs h.2)
theorem LD (e:Nat):∀rs:List (List K),Ta e rs=true->kE e rs (XX rs)
 |[],_=> .nil
 |r::rs,h=>by simp only [Ta,Bool.and_eq_true] at h;exact .cons (KE r h.2.1) (Nat.eq_of_beq_eq_true h.1) (LD e rs h.2.2)
end
def Sb:Value->Value->Bool
 |.int k n,.int k' n'=>decide (k=k') && decide (n=n')
 |.bool a,.bool b=>decide (a=b)
 |.string a,.string b=>decide (a.data.toList=b.data.toList)
 |.nilIface,.nilIface=>true
 |_,_=>false
theorem TD {a b:Value} (h:Sb a b=true):a=b:=by
 unfold Sb at h;split at h
 ·simp only [Bool.and_eq_true,decide_eq_true_eq] at h;rw [h.1,h.2]
 ·rw [of_decide_eq_true h]
 ·rename_i a b;have h1:=of_decide_eq_true h;obtain ⟨⟨a⟩⟩:=a;obtain ⟨⟨b⟩⟩:=b;simp only at h1;rw [h1]
 ·rfl
 ·cases h
mutual
def YB:C->C->Bool
 |.lit a,.lit b=>Sb a b
 |.slice a n,.slice b m=>Nat.beq n m && J9 a b
 |_,_=>false
def J9:List C->List C->Bool
 |[],[]=>true
 |x::xs,y::ys=>YB x y && J9 xs ys
 |_,_=>false
end
mutual
theorem Pj:∀(a b:C),YB a b=true->a=b
 |.lit a,.lit b,h=>by rw [TD (show Sb a b=true from h)]
 |.slice a n,.slice b m,h=>by simp only [YB,Bool.and_eq_true] at h;rw [Nat.eq_of_beq_eq_true h.1,D8 _ _ h.2]
 |.lit _,.slice _ _,h=>by simp [YB] at h
 |.slice _ _,.lit _,h=>by simp [YB] at h
theorem D8:∀(a b:List C),J9 a b=true->a=b
 |[],[],_=>rfl
 |x::xs,y::ys,h=>by simp only [J9,Bool.and_eq_true] at h;rw [Pj _ _ h.1,D8 _ _ h.2]
 |[],_::_,h=>by simp [J9] at h
 |_::_,[],h=>by simp [J9] at h
end
def veq:V->V->Bool
 |.one a,.one b=>YB a b
 |.agg a,.agg b=>J9 a b
 |_,_=>false
def Fj:List V->List V->Bool
 |[],[]=>true
 |x::xs,y::ys=>veq x y && Fj xs ys
 |_,_=>false
theorem WU {a b:V} (h:veq a b=true):a=b:=by
 unfold veq at h;split at h
 ·rw [Pj _ _ h]
 ·rw [D8 _ _ h]
 ·cases h
theorem EE:∀{a b:List V},Fj a b=true->a=b
 |[],[],_=>rfl
 |x::xs,y::ys,h=>by simp only [Fj,Bool.and_eq_true] at h;rw [WU h.1,EE h.2]
 |[],_::_,h=>by simp [Fj] at h
 |_::_,[],h=>by simp [Fj] at h
def YR (r:Option (List V)) (vs:List V):Bool:=match r with
 |some l=>Fj l vs
 |none=>false
theorem DX {r:Option (List V)} {vs:List V} (h:YR r vs=true):r=some vs:=by
 unfold YR at h;split at h
 ·rw [EE h]
 ·cases h
abbrev NT:=List (Nat×List V×List V)
def Ub (f:Nat) (vs:List V):NT->Option (List V)
 |[]=>none
 |e::r=>cond (Nat.beq e.1 f && Fj e.2.1 vs) (some e.2.2) (Ub f vs r)
theorem Gg {f:Nat} {vs rs:List V}:∀{L:NT},Ub f vs L=some rs->(f,vs,rs)∈L
 |[],h=>by cases h
 |e::r,h=>by
  unfold Ub at h;cases hc:(Nat.beq e.1 f && Fj e.2.1 vs) with
  |true=>
   rw [hc,cond_true,Option.some.injEq] at h;simp only [Bool.and_eq_true] at hc;obtain ⟨a,b,c⟩:=e;simp only at hc h;rw [Nat.eq_of_beq_eq_true hc.1,EE hc.2,h];exact List.mem_cons_self
  |false=>
   rw [hc,cond_false] at h;exact List.mem_cons_of_mem _ (Gg h)
def zZ (mask:Nat) (L:NT) (f:Nat) (vs:List V):Option (List V):=cond (Nat.testBit mask f) (Ub f vs L) none
def av [bz] (P:Program) (L:NT):Prop:=∀e∈L,bR P e.1 e.2.1 e.2.2
theorem KX [bz] {P:Program} {mask:Nat} {L:NT} (h:av P L) {f:Nat} {vs rs:List V} (hn:zZ mask L f vs=some rs):bR P f vs rs:=by
 unfold zZ at hn;cases hb:Nat.testBit mask f with
 |true=>rw [hb,cond_true] at hn;exact h _ (Gg hn)
 |false=>rw [hb] at hn;cases hn
theorem av.nil [bz] {P:Program}:av P []:=fun _ h=>by cases h
theorem av.cons [bz] {P:Program} {f:Nat} {vs rs:List V} {L:NT} (h:bR P f vs rs) (hl:av P L):av P ((f,vs,rs)::L):=fun e he=>by
 rcases List.mem_cons.1 he with rfl|he
 ·exact h
 ·exact hl e he
theorem av.append [bz] {P:Program} {L L':NT} (h:av P L) (hl:av P L'):av P (L++L'):=fun e he=>by
 rcases List.mem_append.1 he with he|he
 ·exact h e he
 ·exact hl e he
def Ti (a b:Nat->List V->Option (List V)) (f:Nat) (vs:List V):Option (List V):=match a f vs with
 |some r=>some r
 |none=>b f vs
theorem Tk [bz] {P:Program} {a b:Nat->List V->Option (List V)} (ha:∀f vs rs,a f vs=some rs->bR P f vs rs) (hb:∀f vs rs,b f vs=some rs->bR P f vs rs):∀f vs rs,Ti a b f vs=some rs->bR P f vs rs:=fun f vs rs h=>by
 unfold Ti at h;split at h
 ·rename_i r hr;cases h;exact ha _ _ _ hr
 ·exact hb _ _ _ h
theorem abk [bz] {P:Program} {sh:Nat->Nat} {nat:Nat->List V->Option (List V)} {EX:Nat->Option Z4} (hm:P.follows .mixedOrders=true) (hn:∀f vs rs,nat f vs=some rs->bR P f vs rs)
  (hb:∀f b,EX f=some b->∀ds h k rs h' nx',b ds h k=some (rs,h',nx')->vT P f ds h k rs h' nx') {n f:Nat} {vs rs:List V} (h:YR (fQ ⟨codeOf P sh,nat,EX⟩ n f vs) rs=true):bR P f vs rs:=
 Ho (MB hn hb hm) (DX h)
theorem Ij {m:M} {B:Nat} {S:Nat->Nat->Prop}:∀{vals us:List Value},aj (bu B S m) (vals.map fun v=> .c (.lit v)) us->us=vals
 |[],[],_=>rfl
 |v::vs,u::us,h=>by have h1:u=v:=h.1.1;rw [h1,Ij (vals:=vs) (us:=us) h.2]
 |[],_::_,h=>h.elim
 |_::_,[],h=>h.elim
theorem Kg {m:M} {B:Nat} {S:Nat->Nat->Prop}:∀{vals:List Value},vals.all scalar=true->aj (bu B S m) (vals.map fun v=> .c (.lit v)) vals
 |[],_=>trivial
 |v::vs,h=>by rw [List.all_cons,Bool.and_eq_true] at h;exact ⟨⟨rfl,h.1⟩,Kg h.2⟩
theorem Cu {m:M} {B:Nat} {S:Nat->Nat->Prop}:∀{vals us:List Value},aj (aX B S m) (vals.map fun v=> .c (.lit v)) us->us=vals
 |[],[],_=>rfl
 |v::vs,u::us,h=>by have h1:u=v:=h.1.1;rw [h1,Cu (vals:=vs) (us:=us) h.2]
 |[],_::_,h=>h.elim
 |_::_,[],h=>h.elim
theorem vT.box [bz] {P:Program} {f id k:Nat} {h:Heap} {old new xs:List Value} {v:Value} (hc:dY P f) (hb:af h id=.box (old.map fun v=> .c (.lit v))) (hn:new.all scalar=true) (hl:new.length=old.length) (hv:scalar v=true)
  (hh:∀(b:Nat) (e:TypeId) (w:World),bz.Inv w.heap.size w->w.heap[b]?=some (.cells old.toArray e (0,0))->Calls P f (Value.pointer (some ⟨b,0,none⟩)::xs).toArray w fun e' w'=>e'=.returned v/\w'.heap[b]?=some (.cells new.toArray e (0,0))/\
   w'.os=w.os/\w'.tape=w.tape/\w'.output=w.output/\w.heap.size<=w'.heap.size/\∀k,k < w.heap.size->k≠b->w'.heap[k]?=w.heap[k]?):
  vT P f (.loc id 0::xs.map fun v=> .c (.lit v)) h k [.c (.lit v)] ((id,.box (new.map fun v=> .c (.lit v)))::h) k:=by
 refine ⟨hc,fun B S m us hm hU hk hinv hall=>?_⟩
 match us,hall with
 |u::us,⟨hu,hxs⟩=>
  have hu2:m.U id/\u=.pointer (some ⟨m.β id,0,none⟩):=hu;obtain ⟨hu3,rfl⟩:=hu2;rw [Cu hxs];rw [<-hm] at hb;obtain ⟨hB,vs,e,hw,hvs⟩:=hk.box hb;rw [Ij hvs] at hw;have hlt:m.β id < m.w.heap.size:=hk.lt (id:=id) (by rw [hb];simp)
  refine (hh (m.β id) e m.w (bz.mono hk.base hinv) hw).mono fun e' w' ⟨h1,h2,h3,h4,h5,h6,h7⟩=>?_
  let w1:World:={ m.w with heap:=m.w.heap.set (m.β id) (.cells new.toArray e (0,0)) hlt}
  have hs1:w1.heap.size=m.w.heap.size:=by simp [w1]
  have g1:w1.heap[m.β id]?=some (.cells new.toArray e (0,0)):=by simp [w1]
  have g2:∀k,k≠m.β id->w1.heap[k]?=m.w.heap[k]?:=fun k hk=>by simp only [w1];rw [Array.getElem?_set_ne];exact fun e=>hk e.symm
  have hev:ak B S m (m.upd w1 id (.box (new.map fun v=> .c (.lit v)))):=gF hk hb trivial g2 (fun q u hq=>hq.elim) (by simp only [World.shape?,g1,hw];simp [hl])
  have hk1:bF B S (m.upd w1 id (.box (new.map fun v=> .c (.lit v)))):=oo hk (by rw [hb];simp) hev g2 (by rw [hs1];exact Nat.le_refl _) ⟨hB,new,e,g1,Kg hn⟩
  have hblk:∀k,k < w1.heap.size->w'.heap[k]?=w1.heap[k]?:=fun k hk=>by
   rw [hs1] at hk;by_cases hkb:k=m.β id
   ·rw [hkb,h2,g1]
   ·rw [h7 k hk hkb,g2 k hkb]
  refine ⟨v,(m.upd w1 id (.box (new.map fun v=> .c (.lit v)))).world w',h1,rfl,?_,hU,qW hk1 hblk (by show w1.heap.size<=_;rw [hs1];exact h6),hev.trans (iy hk1 hblk),⟨rfl,hv⟩,⟨h3,h4,h5,h6,fun j hj=>?_⟩,fun d hd=>?_⟩
  ·show (id,_)::m.h=_
   rw [hm]
  ·exact h7 j (by have:=hk.base;omega) (by omega)
  ·rw [List.mem_singleton.1 hd];exact fun q e=>by cases e
theorem R8 [bz] {P:Program} {ji:Nat->Nat} {F:nD} (hT:Table P ji F) {n:Nat} {fn:Func} {c:Code} {ic:bC} (hc:comp P ji fn.ntmps c=some ic) {Bw:List RP} (hres:iR P fn.results.toList=some Bw)
  {e:Env} {h:Heap} {k:Nat} {x:Ex} {s1:St} {ds:List D} (hev:aI F n ic ⟨e,h,k⟩=some (x,s1)) (hx:∀id,x≠.exit id) (hd:oG s1.env s1.heap Bw=some ds)
  {B:Nat} {S:Nat->Nat->Prop} {w0:World} {m:M} {a:Act} (hh:m.h=h) (hU:um m k) (hr:Rel B S w0 fn.ntmps m e a):
  c.wp P (bodyPost P fn fun e w'=>∃(v:Value) (m':M),e=.returned v/\m'.w=w'/\m'.h=s1.heap/\um m' s1.nx/\bF B S m'/\ak B S m m'/\aX B S m' (ko ds) v/\Below B w0 m'.w/\∀d,d∈ds->∀q,d≠.dB q) a m.w:=by
 refine wp_mono ((sound hT n).code c ic fn.ntmps hc B S w0 ⟨e,h,k⟩ x s1 m a hh hU hr hev) fun e' a' w' hp=>?_
 obtain ⟨m',rfl,rfl,q1,q2,q3,q5⟩:=hp;obtain ⟨v,r1,r2,r3⟩:=zY q3 hres (by rw [q1];exact hd)
 have hpost:a'.defers=[]/\∃v,(results fn a'.tmps).run P m'.w=.ok v m'.w/\(∃(v':Value) (m'':M),Ending.returned v=.returned v'/\m''.w=m'.w/\m''.h=s1.heap/\um m'' s1.nx/\bF B S m''/\ak B S m m''/\aX B S m'' (ko ds) v'/\Below B w0 m''.w/\∀d,d∈ds->∀q,d≠.dB q):=
  ⟨q3.defers,v,r1,v,m',rfl,rfl,q1,q2,q3.hok,q5,r2,q3.below,r3⟩
 cases x with
 |exit id=>exact absurd rfl (hx id)
 |normal=>exact hpost
 |ret=>exact hpost
theorem XR [bz] {P:Program} {ji:Nat->Nat} (hm:P.follows .mixedOrders=true):Table P ji ⟨fun _=>none,fun _ _=>none,fun _=>none⟩:=⟨fun _ _ _ h=>(by cases h),fun _ _ h=>(by cases h),fun _ _ h=>(by cases h),hm⟩
def bCl (aa:Nat) (tail:bC):Z4:=fun ds h k=>match ds with
 |[d]=>(bM h aa d).bind fun p=>cond (Nat.beq p.2 0) (some ([.full [] 0],h,k)) ((aI ⟨fun _=>none,fun _ _=>none,fun _=>none⟩ 3 tail ⟨[(0,d)],h,k⟩).bind fun r=>match r.1 with
  |.exit _=>none
  |_=>(oG r.2.env r.2.heap [.tmp 2]).map fun rs=>(rs,r.2.heap,r.2.nx))
 |_=>none
theorem Na {B:Nat} {S:Nat->Nat->Prop} {m:M} {aa:Nat} {d:D} {u:Value} {cs:List C} {n:Nat} (h:bM m.h aa d=some (cs,n)) (he:aa≠1) (hr:bu B S m d u):(u=.slice none 0 0/\n=0)\/∃a c,u=.slice (some a) n c:=by
 unfold bM at h;split at h
 ·split at h
  ·simp only [Option.some.injEq,Prod.mk.injEq] at h;obtain ⟨rfl,rfl⟩:=h;rcases hr with ⟨h1,h2,_⟩|⟨a,h1,_⟩
   ·exact .inl ⟨h1,h2⟩
   ·exact .inr ⟨a,_,h1⟩
  ·cases h
 ·split at h
  ·simp only [Option.some.injEq,Prod.mk.injEq] at h;obtain ⟨rfl,rfl⟩:=h;rcases hr with ⟨h1,h2,_⟩|⟨a,c,h1,_⟩
   ·exact .inl ⟨h1,h2⟩
   ·exact .inr ⟨a,c,h1⟩
  ·cases h
 ·split at h
  ·rename_i h1;exact absurd h1 he
  ·cases h
 ·split at h
  ·split at h
   ·simp only [Option.some.injEq,Prod.mk.injEq] at h;obtain ⟨rfl,rfl⟩:=h;obtain ⟨_,ad,cap,h1,_⟩:=hr;exact .inr ⟨ad,cap,h1⟩
   ·cases h
  ·cases h
 ·cases h
end Go.Ey
namespace Go.Proofs
open Go.RowKit Go.Ey Go.Ey.Pr
theorem Wm (w:World) (a:Option Addr) (n c n' c':Nat):(binOp .eql 46 (.slice a n c) (.slice none n' c')).run PP w=.ok (.bool a.isNone) w:=Lib.run_eql_slice_nil w _ _ a n c n' c' Tryz.underlying46
theorem NF (w:World):Calls PP 134 #[.slice none 0 0] w fun e w'=>e=.returned (.slice none 0 0)/\w'=w:=by have q28:=Wm;go_enter Tryz.func134,Tryz.ntmps134;go_wp2;go_ret;exact ⟨rfl,rfl⟩
theorem IE (a:Addr) (c:Nat) (w:World):Calls PP 134 #[.slice (some a) 0 c] w fun e w'=>∃ad,e=.returned (.slice (some ad) 0 0)/\Below w.heap.size w w':=by have q28:=Wm;go_enter Tryz.func134,Tryz.ntmps134;go_wp2;go_ret;exact ⟨_,rfl,(Below.refl _ w).alloc (Nat.le_refl _) _⟩
noncomputable def clT:bC:=.seq (.region [⟨some 5,.lits 11 37 0 ((zeroOf PP 37).getD []) [],none⟩,⟨some 6,.Mq (.t 0),none⟩,⟨some 7,.app 11 37 176 (.t 5) (.t 6),none⟩,⟨some 2,.Mq (.t 7),none⟩]) .ret
theorem zi:PP.follows .mixedOrders=true:=by kernel_rfl
theorem GA:dY PP 134:=jH (by kernel_rfl)
theorem WV [bz] {ds:List D} {h:Heap} {k:Nat} {rs:List D} {h':Heap} {nx':Nat} (hb:bCl 11 clT ds h k=some (rs,h',nx')):vT PP 134 ds h k rs h' nx':=by
 refine ⟨GA,fun B S m us hm hU hk hinv hall=>?_⟩
 unfold bCl at hb;split at hb
 ·rename_i d
  match us,hall with
  |[u],⟨hu,_⟩=>
   obtain ⟨p,hp,hb⟩:=Option.bind_eq_some_iff.1 hb;obtain ⟨cs,n⟩:=p;rw [<-hm] at hp;have hu2:bu B S m d u:=by
    cases d with
    |dB _=>simp [bM] at hp
    |agg _=>simp [bM] at hp
    |_=>exact hu
   have hval:=Na hp (by decide) hu2
   cases hz:Nat.beq n 0 with
   |true=>
    rw [hz,cond_true] at hb;simp only [Option.some.injEq,Prod.mk.injEq] at hb;obtain ⟨rfl,rfl,rfl⟩:=hb;have hn:=Nat.eq_of_beq_eq_true hz;subst hn;have fin:∀(w':World) (v:Value),(v=.slice none 0 0\/∃ad,v=.slice (some ad) 0 0)->Below m.w.heap.size m.w w'->∃(v':Value) (m':M),Ending.returned v=.returned v'/\m'.w=w'/\m'.h=h/\um m' k/\bF B S m'/\ak B S m m'/\aX B S m' (ko [.full [] 0]) v'/\Below B m.w m'.w/\∀d,d∈[D.full [] 0]->∀q,d≠.dB q:=by
     intro w' v hv h3;have hblk:∀k,k < m.w.heap.size->w'.heap[k]?=m.w.heap[k]?:=h3.block;refine ⟨v,m.world w',rfl,rfl,hm,hU,qW hk hblk h3.size,iy hk hblk,?_,h3.mono hk.base,fun d hd q e=>by rw [List.mem_singleton.1 hd] at e;cases e⟩
     rcases hv with rfl|⟨ad,rfl⟩
     ·exact .inl ⟨rfl,rfl,rfl⟩
     ·exact .inr ⟨ad,rfl,fun h=>absurd rfl h,trivial⟩
    rcases hval with ⟨rfl,_⟩|⟨a,c,rfl⟩
    ·refine (NF m.w).mono fun e w' ⟨h1,h2⟩=>?_
     subst h1 h2;exact fin _ _ (.inl rfl) (Below.refl _ _)
    ·refine (IE a c m.w).mono fun e w' ⟨ad,h1,h2⟩=>?_
     subst h1;exact fin _ _ (.inr ⟨ad,rfl⟩) h2
   |false=>
    rw [hz,cond_false] at hb;obtain ⟨⟨x,s1⟩,hev,hb⟩:=Option.bind_eq_some_iff.1 hb;rcases hval with ⟨_,rfl⟩|⟨a,c,rfl⟩
    ·cases hz
    ·have hx:(∀id,x≠.exit id)/\∃Bw,oG s1.env s1.heap [.tmp 2]=some Bw/\(Bw,s1.heap,s1.nx)=(rs,h',nx'):=by
      cases x with
      |exit id=>cases hb
      |normal=>obtain ⟨Bw,h1,h2⟩:=Option.map_eq_some_iff.1 hb;exact ⟨fun id e=>(by cases e),Bw,h1,h2⟩
      |ret=>obtain ⟨Bw,h1,h2⟩:=Option.map_eq_some_iff.1 hb;exact ⟨fun id e=>(by cases e),Bw,h1,h2⟩
     obtain ⟨hne,Bw,hd,he⟩:=hx;simp only [Prod.mk.injEq] at he;obtain ⟨rfl,rfl,rfl⟩:=he;have q28:=Wm;go_enter Tryz.func134,Tryz.ntmps134;refine wp_seq (wp_mono (Q:=fun e a' w'=>e=.normal/\a'={ tmps:=#[.slice (some a) n c,undef,.slice none 0 0,undef,undef,undef,undef,undef],defers:=[]}/\w'=m.w) ?_ ?_)
     ·go_wp2
     rintro e a' w' ⟨rfl,rfl,rfl⟩;refine wp_seq (wp_mono (Q:=fun e a' w'=>e=.normal/\a'={ tmps:=#[.slice (some a) n c,undef,.slice none 0 0,.slice (some a) n c,.bool false,undef,undef,undef],defers:=[]}/\w'=m.w) ?_ ?_)
     ·go_wp2
     rintro e a' w' ⟨rfl,rfl,rfl⟩;have hrel:Rel B S m.w Tryz.f134.ntmps m [(0,d)] { tmps:=#[.slice (some a) n c,undef,.slice none 0 0,.slice (some a) n c,.bool false,undef,undef,undef],defers:=[]}:=by
      refine ⟨rfl,by rw [Tryz.ntmps134];rfl,fun t=>?_,hk,Below.refl _ _,hinv⟩
      by_cases ht:t=0
      ·subst ht;exact hu
      ·have h0:¬0=t:=fun e=>ht e.symm
       have:bS [(0,d)] t=.fK:=by simp [bS,h0]
       rw [this];trivial
     exact R8 (ji:=fun _=>0) (XR zi) (ic:=clT) (by rw [Tryz.ntmps134];kernel_rfl) (Bw:=[.tmp 2]) (by kernel_rfl) hev hne hd hm hU hrel
 ·cases hb
set_option maxRecDepth 100000
set_option maxHeartbeats 4000000
theorem TP:Tryz.prog.underlying 20=some (.interface (Tryz.prog.methodsAt 20)):=by kernel_rfl
theorem Kb (p:Addr) (w:World):
  CallsD PP 145 #[.pointer (some p)] .returning w fun e u' w'=>e=.returned (.tuple #[])/\u'=.returning/\w'=w:=by
 have hq (w:World):(binOp .eql 20 .nilIface .nilIface).run PP w=.ok (.bool true) w:=run_eql_nil_nil _ 20 TP;refine callsD_of_wpS Tryz.func145 rfl fun c₀ cs hu=>?_
 apply wpS_seq;apply wpS_region;simp [wpOpsS,go_sem,recoverD,hu,Tryz.ntmps145,Exit.thenS];apply wpS_seq;apply wpS_seq;apply wpS_region;simp [wpOpsS,go_sem,Exit.thenS,hq];refine wpS_cond (t:=true) (by simp [Act.eval,Array.replicate]) ?_
 simp only [if_true];refine wpS_of_wp (wp_ret ?_);cases c₀
 simp_all [Exit.thenS,bodyPostS,results,Tryz.results145]
theorem Io (w:World) (x:Obj):(w.alloc x).heap[w.heap.size]?=some x:=by rw [World.alloc];exact Array.getElem?_push_size
theorem Wl (w:World) (x y:Obj):((w.alloc x).alloc y).heap[w.heap.size]?=some x:=(Below.heap_alloc _ _ _ (by simp)).trans (Io _ _)
theorem Wd (w:World) (x y:Obj):((w.alloc x).alloc y).heap[w.heap.size+1]?=some y:=by have h:=Io (w.alloc x) y;simpa using h
theorem u38:PP.underlying 33=some (.slice (PP.elem 33)):=by kernel_rfl
theorem aaL {w:World} {p:Addr} {u:Value} {b o:Nat} (h:b≠p.block):(w.setCell p u).cell? ⟨b,o,none⟩=w.cell? ⟨b,o,none⟩:=World.cell?_of_block (Below.heap_setCell _ _ _ _ h)
theorem IG:dY PP 69:=jH (by kernel_rfl)
theorem Yx [bz] {l cur s at_ o0 o1 o2 o3 o4 o5 o6:C} (h:bR PP 146 [.one l,.one cur,.one s] [.one (.slice [o0,o1,o2,o3,o4,o5,o6] 1),.one (.slice [at_] 1)]):
  bR PP 69 [.one l,.one cur,.one s] [.agg [o0,o1,o2,o3,o4,o5,o6],.agg [.lit (.int .i64 0),.lit (.int .i64 0)]]:=by
 refine ⟨IG,fun S w us hinv hall=>?_⟩
 match us,hall with
 |[u1,u2,u3],hall=>
  have z40:∀w,(zeroValue 35).run PP w=.ok (.agg #[.int .i64 0,.string ⟨#[]⟩,.string ⟨#[]⟩,.string ⟨#[]⟩,.string ⟨#[]⟩,.string ⟨#[]⟩,.slice none 0 0]) w:=Tryz.zeroValue35;have aff:∀w,(zeroValue 96).run PP w=.ok (.agg #[.int .i64 0,.int .i64 0]) w:=Tryz.zeroValue96;have hrun:∀args w,(callFunc 146 args).run PP w=.ok (.enter 146 args) w:=by
   intro args w;obtain ⟨fn,k1,k2,k3⟩:=h.1;have k2':¬fn.body=none:=fun h=>by rw [h] at k2;cases k2
   have k3':¬fn.name= "runtime.NumGoroutine":=by simpa using k3
   simp [callFunc,k1,k2',k3']
  obtain ⟨w1,hw1⟩:∃w1,w1=(w.alloc (.cells #[.int .i64 0,.string ⟨#[]⟩,.string ⟨#[]⟩,.string ⟨#[]⟩,.string ⟨#[]⟩,.string ⟨#[]⟩,.slice none 0 0] 35)).alloc (.cells #[.int .i64 0,.int .i64 0] 96):=⟨_,rfl⟩;have hb1:Below w.heap.size w w1:=by rw [hw1];exact ((Below.refl _ w).alloc (Nat.le_refl _) _).alloc (by simp) _
  have hs1:w1.heap.size=w.heap.size+2:=by rw [hw1];simp
  have aaS:aj (bA w1 fun b o=>b < w.heap.size/\S b o) [.one l,.one cur,.one s] [u1,u2,u3]:=
   aj.mono (fun x u hx=>bA.mono (fun b o u hc hS=>⟨(hb1.cell (World.block_lt_of_cell? _ _ hc)).trans hc,World.block_lt_of_cell? _ _ hc,hS⟩) hx) hall
  have call:=h.2 _ w1 [u1,u2,u3] (bz.mono (by omega) (bz.keep hb1 hinv)) aaS
  have cA:w1.heap[w.heap.size]?=some (.cells #[.int .i64 0,.string ⟨#[]⟩,.string ⟨#[]⟩,.string ⟨#[]⟩,.string ⟨#[]⟩,.string ⟨#[]⟩,.slice none 0 0] 35):=by rw [hw1];exact Wl _ _ _
  have cB:w1.heap[w.heap.size+1]?=some (.cells #[.int .i64 0,.int .i64 0] 96):=by rw [hw1];exact Wd _ _ _
  go_enter_defers Tryz.func69,Tryz.ntmps69;go_wp2;rw [<-hw1];refine call.mono ?_;rintro e w2 ⟨v,rfl,⟨vs,rfl,hvs⟩,hb2⟩
  match vs,hvs with
  |[x,y],⟨hx,hy,_⟩=>
  have hx1:∃b i c,x=.slice (some ⟨b,i,none⟩) 1 c/\bN w2 (fun b o=>b < w1.heap.size->b < w.heap.size/\S b o) [o0,o1,o2,o3,o4,o5,o6] b i:=by
   rcases hx with ⟨_,h,_⟩|⟨⟨b,i,sp⟩,c,h1,_,h2,h3⟩
   ·cases h
   ·have h2:sp=none:=h2 (by simp)
    subst h2;exact ⟨b,i,c,h1,h3⟩
  obtain ⟨b,i,c,rfl,hx2⟩:=hx1
  match hx2 with
  |⟨⟨v0,m0,s0,r0⟩,⟨v1,m1,s1,r1⟩,⟨v2,m2,s2,r2⟩,⟨v3,m3,s3,r3⟩,⟨v4,m4,s4,r4⟩,⟨v5,m5,s5,r5⟩,⟨v6,m6,s6,r6⟩,_⟩=>
  have kA:w2.heap[w.heap.size]?=_:=(hb2.block _ (by omega)).trans cA
  have kB:w2.heap[w.heap.size+1]?=_:=(hb2.block _ (by omega)).trans cB
  have q1:∀(w:World) (a:Option Addr) (n c:Nat),(Builtin.len_ #[33] 3 #[.slice a n c]).run PP w=.ok (.int .i64 n) w:=fun w a n c=>run_len_slice w 33 3 a n c u38
  go_wp2;have j1:w2.cell? ⟨b,i+1,none⟩=some v1:=m1;have j2:w2.cell? ⟨b,i+2,none⟩=some v2:=m2;have j3:w2.cell? ⟨b,i+3,none⟩=some v3:=m3;have j4:w2.cell? ⟨b,i+4,none⟩=some v4:=m4;have j5:w2.cell? ⟨b,i+5,none⟩=some v5:=m5;have j6:w2.cell? ⟨b,i+6,none⟩=some v6:=m6;clear m1 m2 m3 m4 m5 m6;have e0:w2.cell? ⟨w.heap.size+1,0,none⟩=some (.int .i64 0):=by simp only [World.cell?,kB];rfl
  have e1:w2.cell? ⟨w.heap.size+1,1,none⟩=some (.int .i64 0):=by simp only [World.cell?,kB];rfl
  have a0:w2.cell? ⟨w.heap.size,0,none⟩=some (.int .i64 0):=by simp only [World.cell?,kA];rfl
  have a1:w2.cell? ⟨w.heap.size,1,none⟩=some (.string ⟨#[]⟩):=by simp only [World.cell?,kA];rfl
  have a2:w2.cell? ⟨w.heap.size,2,none⟩=some (.string ⟨#[]⟩):=by simp only [World.cell?,kA];rfl
  have a3:w2.cell? ⟨w.heap.size,3,none⟩=some (.string ⟨#[]⟩):=by simp only [World.cell?,kA];rfl
  have a4:w2.cell? ⟨w.heap.size,4,none⟩=some (.string ⟨#[]⟩):=by simp only [World.cell?,kA];rfl
  have a5:w2.cell? ⟨w.heap.size,5,none⟩=some (.string ⟨#[]⟩):=by simp only [World.cell?,kA];rfl
  have a6:w2.cell? ⟨w.heap.size,6,none⟩=some (.slice none 0 0):=by simp only [World.cell?,kA];rfl
  have fA:∀k,w2.frozen? ⟨w.heap.size,k,none⟩=false:=fun k=>by simp only [World.frozen?,kA];rfl
  have fB:∀k,w2.frozen? ⟨w.heap.size+1,k,none⟩=false:=fun k=>by simp only [World.frozen?,kB];rfl
  clear kA kB cA cB;have on:∀{c:C} {u:Value},aJ w2 (fun b o=>b < w1.heap.size->b < w.heap.size/\S b o) c u->∀(a:Addr) (m:Mode) (w:World),(store a u m).run PP w=stored PP w a u m:=fun h a m w=>run_store PP w a _ m (aJ.oneCell h)
  have n0:=on r0;have n1:=on r1;have n2:=on r2;have n3:=on r3;have n4:=on r4;have n5:=on r5;have n6:=on r6;have fin:∀W:World,(∀b o,b≠w.heap.size->b≠w.heap.size+1->W.cell? ⟨b,o,none⟩=w2.cell? ⟨b,o,none⟩)->W.cell? ⟨w.heap.size,0,none⟩=some v0->W.cell? ⟨w.heap.size,1,none⟩=some v1->W.cell? ⟨w.heap.size,2,none⟩=some v2->
    W.cell? ⟨w.heap.size,3,none⟩=some v3->W.cell? ⟨w.heap.size,4,none⟩=some v4->W.cell? ⟨w.heap.size,5,none⟩=some v5->W.cell? ⟨w.heap.size,6,none⟩=some v6->W.cell? ⟨w.heap.size+1,0,none⟩=some (.int .i64 0)->W.cell? ⟨w.heap.size+1,1,none⟩=some (.int .i64 0)->
    Below w.heap.size w2 W->∀tm:Array Value,tm[6]?.getD undef=.pointer (some ⟨w.heap.size,0,none⟩)->tm[7]?.getD undef=.pointer (some ⟨w.heap.size+1,0,none⟩)->
    bodyPostD PP Tryz.f69 (fun e w'=>∃v,e=.returned v/\lu w' (fun b o=>b < w.heap.size->S b o) [.agg [o0,o1,o2,o3,o4,o5,o6],.agg [.lit (.int .i64 0),.lit (.int .i64 0)]] v/\Below w.heap.size w w') .ret
     { tmps:=tm,defers:=[{ target:=.fn (.func 145) #[],args:=#[.pointer (some ⟨w.heap.size+1,0,none⟩)]}]} W:=by
   intro W hW g0 g1 g2 g3 g4 g5 g6 k0 k1 hB tm t6 t7;refine leaves_cons (f:=145) (args:=#[.pointer (some ⟨w.heap.size+1,0,none⟩)]) (by simp) (by simp [go_sem]) ?_
   refine (Kb ⟨w.heap.size+1,0,none⟩ _).mono ?_;rintro e u' w'' ⟨rfl,rfl,rfl⟩;simp [Leaves,settle,results,Tryz.results69,go_sem,t6,t7,g0,g1,g2,g3,g4,g5,g6,k0,k1];have up:∀{c:C} {u:Value},aJ w2 (fun b o=>b < w1.heap.size->b < w.heap.size/\S b o) c u->aJ w'' (fun b o=>b < w.heap.size->S b o) c u:=fun h=>
    aJ.mono (fun b o u hc hS=>⟨(hW b o (fun e=>by have:=(hS (by omega)).1;omega) (fun e=>by have:=(hS (by omega)).1;omega)).trans hc,fun h=>(hS (by omega)).2⟩) _ _ h
   exact ⟨⟨[.agg #[v0,v1,v2,v3,v4,v5,v6],.agg #[.int .i64 0,.int .i64 0]],rfl,⟨[v0,v1,v2,v3,v4,v5,v6],rfl,up r0,up r1,up r2,up r3,up r4,up r5,up r6,trivial⟩,⟨[.int .i64 0,.int .i64 0],rfl,⟨rfl,rfl⟩,⟨rfl,rfl⟩,trivial⟩,trivial⟩,
    (hb1.trans (hb2.mono (by omega))).trans hB⟩
  refine wp_region_noPanic ?_;go_region_law (fail)
  all_goals refine NoPanic.normal ?_
  all_goals simp only [Exit.then]
  all_goals go_wp2
  all_goals refine fin _ (fun b o h1 h2=>?_) ?_ ?_ ?_ ?_ ?_ ?_ ?_ ?_ ?_ ?_ _ ?_ ?_
  all_goals first
   |(simp only [World.cell?_drew,aaL h1,aaL h2];done)
   |(with_reducible rfl)
   |(simp [go_sem,a0,a1,a2,a3,a4,a5,a6,e0,e1];done)
   |(refine Below.drew ?_
     iterate 9 (first|refine Below.setCell ?_ (Nat.le_refl w.heap.size) _|refine Below.setCell ?_ (Nat.le_succ w.heap.size) _)
     exact Below.refl _ _)
theorem UJ {b:Nat} {s:ByteArray} {i:Int} {e:TypeId} {w:World} (h:w.heap[b]?=some (.cells #[.string s,.int .i64 i] e (0,0))):
  Calls PP 342 #[.pointer (some ⟨b,0,none⟩)] w fun e' w'=>e'=.returned (.bool (decide (i < s.size)))/\Below w.heap.size w w':=by
 have c0:w.cell? ⟨b,0,none⟩=some (.string s):=by simp [World.cell?,h]
 have c1:w.cell? ⟨b,1,none⟩=some (.int .i64 i):=by simp [World.cell?,h]
 clear h;go_enter Tryz.func342,Tryz.ntmps342;go_wp2;refine wp_region_noPanic ?_;go_region_law (fail)
 all_goals refine NoPanic.normal ?_
 all_goals simp only [Exit.then]
 all_goals go_wp2
 all_goals go_ret
 all_goals refine ⟨?_,?_⟩
 all_goals first
  |exact Below.drew (Below.refl _ _)
  |exact Below.refl _ _
  |(simp [Act.put];done)
theorem Vy {n:Int} (h0:0<=n) (h1:n<=9223372036854775807):IntKind.i64.wrap n=n:=by
 have h3:n % 2 ^ 64=n:=by omega
 simp only [IntKind.wrap,IntKind.bits,h3];rw [if_neg (by simp [IntKind.signed];omega)]
theorem Tt {c:Nat} {w:World} (h:w.cell? ⟨c,1,none⟩=some (.slice none 0 0)):Calls PP 390 #[.pointer (some ⟨c,0,none⟩)] w fun e w'=>e=.returned (.string ⟨#[]⟩)/\Below w.heap.size w w':=by
 have hUS:∀(W:World) (a b t:TypeId),(Builtin.unsafeString_ #[a,b] t #[.pointer none,.int .i64 0]).run PP W=.ok (.string ⟨#[]⟩) W:=fun W a b t=>Lib.run_unsafeString_none W a b t none
 have hSD:∀(W:World) (a b:TypeId),(Builtin.unsafeSliceData_ #[a] b #[.slice none 0 0]).run PP W=.ok (.pointer none) W:=fun W a b=>rfl
 go_enter Tryz.func390,Tryz.ntmps390;go_wp2;refine wp_region_noPanic ?_;go_region_law (fail)
 all_goals refine NoPanic.normal ?_
 all_goals simp only [Exit.then]
 all_goals go_wp2
 all_goals go_ret
 all_goals refine ⟨?_,?_⟩
 all_goals first
  |exact Below.drew (Below.refl _ _)
  |exact Below.refl _ _
  |(simp [Act.put];done)
structure At1 (b:Nat) (s:ByteArray) (i:Int) (e:TypeId) (w:World):Prop where
 h:w.heap[b]?=some (.cells #[.string s,.int .i64 i] e (0,0))
structure qm (b:Nat) (w w':World):Prop where
 os:w'.os=w.os
 tape:w'.tape=w.tape
 output:w'.output=w.output
 size:w.heap.size<=w'.heap.size
 old:∀k,k < w.heap.size->k≠b->w'.heap[k]?=w.heap[k]?
theorem qm.refl (b:Nat) (w:World):qm b w w:=⟨rfl,rfl,rfl,Nat.le_refl _,fun _ _ _=>rfl⟩
theorem qm.below {b:Nat} {w w1 w2:World} (h:qm b w w1) (hb:Below w1.heap.size w1 w2):qm b w w2:=
 ⟨hb.os.trans h.os,hb.tape.trans h.tape,hb.output.trans h.output,Nat.le_trans h.size hb.size,fun k h1 h2=>(hb.block k (Nat.lt_of_lt_of_le h1 h.size)).trans (h.old k h1 h2)⟩
theorem qm.set {b o:Nat} {w w1:World} {v:Value} (h:qm b w w1):qm b w (w1.setCell ⟨b,o,none⟩ v):=
 ⟨h.os,h.tape,h.output,by simpa using h.size,fun k h1 h2=>(Below.heap_setCell _ _ _ _ h2).trans (h.old k h1 h2)⟩
theorem heap_set {w:World} {b:Nat} {s:ByteArray} {i j:Int} {e:TypeId} (h:w.heap[b]?=some (.cells #[.string s,.int .i64 i] e (0,0))):(w.setCell ⟨b,1,none⟩ (.int .i64 j)).heap[b]?=some (.cells #[.string s,.int .i64 j] e (0,0)):=by
 have hlt:b < w.heap.size:=by
  rcases Nat.lt_or_ge b w.heap.size with h'|h'
  ·exact h'
  ·simp [Array.getElem?_eq_none h'] at h
 have h2:w.heap[b]=.cells #[.string s,.int .i64 i] e (0,0):=by rw [Array.getElem?_eq_getElem hlt] at h;exact Option.some.inj h
 simp [World.setCell,hlt,Array.getElem_modify,h2]
theorem aaz {w:World} {p:Addr} {u:Value} {b o:Nat} (h:b≠p.block):(w.setCell p u).cell? ⟨b,o,none⟩=w.cell? ⟨b,o,none⟩:=World.cell?_of_block (Below.heap_setCell _ _ _ _ h)
theorem Dm (w:World) (x:Go.Obj):(w.alloc x).heap[w.heap.size]?=some x:=by rw [World.alloc];exact Array.getElem?_push_size
theorem XC {b:Nat} {s:ByteArray} {i:Int} {e:TypeId} {w:World} (h:w.heap[b]?=some (.cells #[.string s,.int .i64 i] e (0,0))) (h0:0<=i) (h1:i+1 < s.size) (hs:(s.size:Int)<=100000) (hb:s.data[(i+1).toNat]?=some 34):
  Calls PP 343 #[.pointer (some ⟨b,0,none⟩),.int .u8 34] w fun e' w'=>e'=.returned (.string ⟨#[]⟩)/\w'.heap[b]?=some (.cells #[.string s,.int .i64 (i+2)] e (0,0))/\
   w'.os=w.os/\w'.tape=w.tape/\w'.output=w.output/\w.heap.size<=w'.heap.size/\∀k,k < w.heap.size->k≠b->w'.heap[k]?=w.heap[k]?:=by
 have c0:w.cell? ⟨b,0,none⟩=some (.string s):=by simp [World.cell?,h]
 have c1:w.cell? ⟨b,1,none⟩=some (.int .i64 i):=by simp [World.cell?,h]
 have hlt:b < w.heap.size:=by
  rcases Nat.lt_or_ge b w.heap.size with h'|h'
  ·exact h'
  ·simp [Array.getElem?_eq_none h'] at h
 obtain ⟨w1,hw1⟩:∃w1,w1=w.alloc (.cells #[.pointer none,.slice none 0 0] 415):=⟨_,rfl⟩;have hb1:w1.heap[b]?=some (.cells #[.string s,.int .i64 i] e (0,0)):=by rw [hw1];exact (Below.heap_alloc _ _ _ hlt).trans h
 have hk1:w1.heap[w.heap.size]?=some (.cells #[.pointer none,.slice none 0 0] 415 (0,0)):=by rw [hw1];exact Dm _ _
 have hs1:w1.heap.size=w.heap.size+1:=by rw [hw1];simp
 have d0:w1.cell? ⟨b,0,none⟩=some (.string s):=by simp [World.cell?,hb1]
 have d1:w1.cell? ⟨b,1,none⟩=some (.int .i64 i):=by simp [World.cell?,hb1]
 have df:w1.frozen? ⟨b,1,none⟩=false:=by simp [World.frozen?,hb1]
 clear c0 c1;obtain ⟨w2,hw2⟩:∃w2,w2=(w.setCell ⟨b,1,none⟩ (.int .i64 (i+1))).alloc (.cells #[.pointer none,.slice none 0 0] 415):=⟨_,rfl⟩;have hm:IntKind.i64.wrap (i+1)=i+1:=by have:=hs;exact Vy (by omega) (by omega)
 have hm2:IntKind.i64.wrap (i+1+1)=i+1+1:=by have:=hs;exact Vy (by omega) (by omega)
 have hset:(w.setCell ⟨b,1,none⟩ (.int .i64 (i+1))).heap[b]?=some (.cells #[.string s,.int .i64 (i+1)] e (0,0)):=heap_set h;have hb2:w2.heap[b]?=some (.cells #[.string s,.int .i64 (i+1)] e (0,0)):=by rw [hw2];exact (Below.heap_alloc _ _ _ (by simpa using hlt)).trans hset
 have e0:w2.cell? ⟨b,0,none⟩=some (.string s):=by simp [World.cell?,hb2]
 have e1:w2.cell? ⟨b,1,none⟩=some (.int .i64 (i+1)):=by simp [World.cell?,hb2]
 have ef:w2.frozen? ⟨b,1,none⟩=false:=by simp [World.frozen?,hb2]
 have kp:qm b w w2:=by rw [hw2];exact (qm.refl b w).set.below ((Below.refl _ _).alloc (Nat.le_refl _) _)
 have g1:w2.cell? ⟨w.heap.size,1,none⟩=some (.slice none 0 0):=by
  have g2:=Dm (w.setCell ⟨b,1,none⟩ (.int .i64 (i+1))) (.cells #[.pointer none,.slice none 0 0] 415);rw [<-hw2,show (w.setCell ⟨b,1,none⟩ (.int .i64 (i+1))).heap.size=w.heap.size by simp] at g2
  simp [World.cell?,g2]
 have hs2:w.heap.size < w2.heap.size:=by rw [hw2];simp
 subst hw1;clear h;go_enter Tryz.func343,Tryz.ntmps343;go_wp2;rw [<-hw2];clear hw2 hb1 hk1 hs1 d0 d1 df;go_loopw [] (fun wr=>wr=w2) (fun _=>0)
 case atStart=>rfl
 case round=>
  obtain rfl:=hrel;go_wp2;refine (UJ hb2).mono ?_;rintro e' w3 ⟨rfl,hbel⟩;have kp3:=kp.below hbel;have hlt2:b < wr.heap.size:=Nat.lt_of_lt_of_le hlt kp.size;have hb3:w3.heap[b]?=some (.cells #[.string s,.int .i64 (i+1)] e (0,0)):=(hbel.block _ hlt2).trans hb2;have g3:w3.cell? ⟨w.heap.size,1,none⟩=some (.slice none 0 0):=by rw [World.cell?_of_block (hbel.block _ hs2)];exact g1
  clear hbel e0 e1 ef g1 hb2;have e0:w3.cell? ⟨b,0,none⟩=some (.string s):=by simp [World.cell?,hb3]
  have e1:w3.cell? ⟨b,1,none⟩=some (.int .i64 (i+1)):=by simp [World.cell?,hb3]
  have ef:w3.frozen? ⟨b,1,none⟩=false:=by simp [World.frozen?,hb3]
  have adZ:At1 b s (i+1) e w3:=⟨hb3⟩;clear hb3;have hp:0<=i+1:=by omega
  have hx:∀p:(i+1).toNat < s.size,(s[(i+1).toNat]'p).toNat=34:=fun p=>by
   have h5:s.data[(i+1).toNat]'p=34:=by rw [Array.getElem?_eq_getElem p] at hb;exact Option.some.inj hb
   show (s.data[(i+1).toNat]'p).toNat=34
   rw [h5];rfl
  go_wp2;refine wp_region_noPanic ?_;go_region_law (fail)
  all_goals refine NoPanic.normal ?_
  all_goals simp only [Exit.then]
  all_goals go_wp2
  all_goals
   have g4:(w3.setCell ⟨b,1,none⟩ (.int .i64 (i+1+1))).drew.cell? ⟨w.heap.size,1,none⟩=some (.slice none 0 0):=by rw [World.cell?_drew,aaz (show w.heap.size≠b from Nat.ne_of_gt hlt)];exact g3
   have b4:(w3.setCell ⟨b,1,none⟩ (.int .i64 (i+1+1))).drew.heap[b]?=some (.cells #[.string s,.int .i64 (i+2)] e (0,0)):=by rw [show i+2=i+1+1 by omega];exact heap_set adZ.h
   have kp4:qm b w (w3.setCell ⟨b,1,none⟩ (.int .i64 (i+1+1))).drew:=kp3.set.below (Below.drew (Below.refl _ _));revert g4 b4 kp4;generalize (w3.setCell ⟨b,1,none⟩ (.int .i64 (i+1+1))).drew=w4;intro g4 b4 kp4;refine (Tt g4).mono ?_;rintro e' w5 ⟨rfl,hb5⟩;have ZF:=kp4.below hb5;have b5:w5.heap[b]?=_:=(hb5.block _ (Nat.lt_of_lt_of_le hlt kp4.size)).trans b4;go_wp2;go_ret;exact ⟨rfl,b5,ZF.os,ZF.tape,ZF.output,ZF.size,ZF.old⟩
def q34 (s:ByteArray) (i:Nat):Bool:=Nat.ble s.data.toList.length 100000 && (match s.data.toList[i+1]? with
 |some c=>Nat.beq c.toNat 34
 |none=>false)
def VT:Z4:=fun ds h k=>match ds with
 |[.loc id 0,.c (.lit (.int .u8 34))]=>(match af h id with
  |.box [.c (.lit (.string s)),.c (.lit (.int .i64 (.ofNat i)))]=>cond (q34 s i) (some ([.c (.lit (.string ⟨#[]⟩))],(id,.box [.c (.lit (.string s)),.c (.lit (.int .i64 (.ofNat (i+2))))])::h,k)) none
  |_=>none)
 |_=>none
theorem Xf [bz] {ds:List D} {h:Heap} {k:Nat} {rs:List D} {h':Heap} {nx':Nat} (hb:VT ds h k=some (rs,h',nx')):vT PP 343 ds h k rs h' nx':=by
 unfold VT at hb;split at hb
 ·rename_i id;split at hb
  ·rename_i s i hg;cases hq:q34 s i with
   |false=>rw [hq] at hb;cases hb
   |true=>
    rw [hq] at hb;simp only [cond_true,Option.some.injEq,Prod.mk.injEq] at hb;obtain ⟨rfl,rfl,rfl⟩:=hb;unfold q34 at hq;rw [Bool.and_eq_true,Nat.ble_eq] at hq;obtain ⟨hl,hq⟩:=hq;split at hq
    ·rename_i c hc;have hc34:c=34:=UInt8.toNat_inj.1 (Nat.eq_of_beq_eq_true hq);subst hc34;have hsz:s.data.toList.length=s.size:=rfl;have hlt:i+1 < s.data.toList.length:=(List.getElem?_eq_some_iff.1 hc).1;refine vT.box (old:=[.string s,.int .i64 (.ofNat i)]) (new:=[.string s,.int .i64 (.ofNat (i+2))]) (xs:=[.int .u8 34]) (v:=.string ⟨#[]⟩) (jH (by kernel_rfl)) hg rfl rfl rfl fun b e w _ hw=>?_
     refine (XC (i:=(i:Int)) hw (by omega) (by omega) (by omega) (by rw [show ((i:Int)+1).toNat=i+1 by omega,<-Array.getElem?_toList];exact hc)).mono fun e' w' hp=>?_
     obtain ⟨h1,h2,h3⟩:=hp;exact ⟨h1,h2,h3⟩
    ·cases hq
  ·cases hb
 ·cases hb
end Go.Proofs
