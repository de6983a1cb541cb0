/- A part. -/
import Derived.Test.YtpnjgiplhijhpaaGreatDoorRY20
import Derived.Lib.LaidTab
set_option linter.all false
namespace Go.Ey
open Go
@[reducible] def FW (P:Program) (l:List (String×IntKind×List Int)):bz where
  Inv B w:=∀t∈l,∃g,P.globalNamed t.1=some g/\g < B/\Lib.TabIs P w t.1 t.2.1 t.2.2
  keep:=fun {B w w'} hb h t ht=>by obtain ⟨g,h1,h2,h3⟩:=h t ht;refine ⟨g,h1,h2,?_⟩;unfold Lib.TabIs World.var? at h3 |-;rw [h1] at h3 |-;simp only [Option.bind_some] at h3 |-;rw [hb.block g h2];exact h3
  mono:=fun hB h t ht=>by obtain ⟨g,h1,h2,h3⟩:=h t ht;exact ⟨g,h1,Nat.lt_of_lt_of_le h2 hB,h3⟩
theorem Fu {P:Program} {l:List (String×IntKind×List Int)} {B:Nat} {w:World} (h:(FW P l).Inv B w) {t:String×IntKind×List Int} (ht:t∈l):Lib.TabIs P w t.1 t.2.1 t.2.2:=by obtain ⟨_,_,_,h3⟩:=h t ht;exact h3
end Go.Ey
namespace Go.Ey.Pr
open Go.Ey Go.Ey.Rc
noncomputable def tkE:List (List K):=gK2 0x43207c0301457154149cc129cc119cc109cc0f9cc0e0a1ad0a0a002428644080a07201828cd40146c040a07200c28b52c3000281824ab5c3e9c6e70f5da0ca71a60730c427851da0b8272802a09d7c0a5da09271d44239c8219c8207681f09ca006c276441a7681809f35374139c75104a72041da03c279340c9c59b1cc0b7680809d1601e7200e72009da004279343c098606d4730ee390cc2668832af03009a14af02e8e42d098a008826bdc21af01f8e41e09a4d06426182900623905026bfc13099ad09ac9032bc02a3902426b4826cd4dd01426b5073012390e6707e8dd69b416f0306f02f6f02e6f02d839dbccc25644276f02583824096d4b0c219c24ab5c1f9c2e707a0e06a707d473065bc05e0e05825280120957c045bc03e0e038259340b9c19b1cc0a8380709516019bc009bc0060e000259343b8d9b51cc3a83432091a20c424852bb0babb0b60d0b024280218d94c1cc20aec1e8341d0924d06236a401783413092ff04a0d032369640baec0983408090a001824b50730160d006367d47f0ec2343c3a65438654376543665435654349bc33c602f08d910ba6f0b023cd0dd08023181f8cb26f074236407307195049950442378f18030235f00b654096540865407654069bc05c600108d7c0026f0f0225f03b8d43908b3437433089d20cb160c022852350b8228542a0897c0a4226b822568228d41e08aff074229141cc58128d40f08a58037160323502c22854050895a01235000227443f086450faba0e421182fa1cc388283482833ae832086150b0216842b085ae085a208a0a082ba07c218541d08734004730702178c21181f81fc0a0850f0260a01e0a01aba00c2196001828008283f8243ec503a081910e6090dc20cd87f0a820181fb1cc29824270828409713090206bb1407c205f01e8241c083361fc16081d2056090482045811c4c0f8240ec50080815a01e090102045803c4c3fae43e8d03d07ca00dc1f684368d02e07da20b6b90aeb90aa340a41f23441++tk3
noncomputable def YI:K:=.sl 5 tkE 943
noncomputable def tvW:List KW:=[.c YI,.l 2 [(kn 0),(kn 0)]]
noncomputable def tvK:List KV:=[.one (.k YI),.agg (.lit 2 [.k (kn 0),.k (kn 0)])]
theorem adk:gq VO 400 5000 81 0 4 240 ts0=.stop U9:=by kernel_rfl
theorem adG:gq VO 400 5000 81 0 4 240 U9=.stop ts2:=by kernel_rfl
theorem adh:gq VO 400 5000 81 0 4 240 ts2=.stop ts3:=by kernel_rfl
theorem ab7:(jk VO 2000).hd 81 0 4 ts3=.ret tvW []:=by kernel_rfl
open Go.Ey.Seat
section
variable {nat:Nat->List V->Option (List V)}
theorem Mj:(T nat).jZ 81=some [.one]:=by kernel_rfl
theorem tokens (hn:zo nat):∀c,RK tx c->∃us,aj EW tvW us/\kL (T nat).G 81 [.v (.one c)] []=some (us,[]):=by
 intro c hc;obtain ⟨v0,e0,l0,h0⟩:=xA (wE hn) (p:=[.one]) Mj (ts:=[.v (.one (.v 0))]) rfl (ys:=[.c tx]) (us:=[.v (.one c)]) ⟨hc,trivial⟩ (zs:=[]) (css:=[]) trivial afa;obtain ⟨v1,e1,l1,h1⟩:=dh (wE hn) 240 e0 l0 adk;obtain ⟨v2,e2,l2,h2⟩:=dh (wE hn) 240 e1 l1 adG;obtain ⟨v3,e3,l3,h3⟩:=dh (wE hn) 240 e2 l2 adh;obtain ⟨r,hr,hv,hb⟩:=Dt (wE hn) (f:=81) (h:=0) e3 (by rw [l3];exact ab7)
 have h9:r.2=[]:=by obtain ⟨r1,r2⟩:=r;cases r2 with|nil=>rfl|cons _ _=>exact hb.elim
 refine ⟨r.1,hv,?_⟩;rw [h0,h1,h2,h3,hr,<-h9]
noncomputable def aab:vk:=⟨[none],[],.aY (.eql (.v 0) (.k tx)) (.ite (.v 0) (.ret tvK []) .fail),[]⟩
theorem Mt (hn:zo nat):mQ (T nat).G (T nat).jZ 81 aab:=Np Mj (fun _ _=>rfl) (tokens hn)
noncomputable def R7:KG:=.node 81 aab VO VO
theorem qy (hn:zo nat):nY (T nat).G (T nat).jZ R7:=Oq (wE hn) (Mt hn)
end
end Go.Ey.Pr
namespace Go.Ey.Pr
open Go.Ey Go.Ey.Rc
noncomputable def fm0:List (List K):=[]
noncomputable def Bw:List KW:=[.c (.sl 0 fm0 0),.l 4 [(.sl 2 [[kl,kz]] 1),kl,YI,(kn 0)],.l 2 [(kn 0),(kn 0)]]
theorem rd0:D9 R7 4000 4000 36 0 3 [.c (.sl 2 [[kl,kz]] 1),.c kl,.c tx] []=.stop Bw:=by kernel_rfl
noncomputable def f9:List K:=jl 0x17386d908c594c9d585afd02545251c
noncomputable def f8:List K:=jl 0x76c62e54bd91c
noncomputable def f7:List K:=jl 0x76cc0254b191c
noncomputable def f6:List K:=jl 0x5cdd5ce631769434b5211550240792d50bed1c
noncomputable def f5:List K:=jl 0x573d5d50a9a8b
noncomputable def f4:List K:=jl 0x572242162a148bf11c
noncomputable def f3:List K:=jl 0x5ceda484858c536c7eb4654aa11c
noncomputable def f2:List K:=jl 0x173af984f67250c484cc01fb672135571e76781c6a0d1c
noncomputable def f1:List K:=jl 0x573be4c484cc01fb672135571e7678084b668b
noncomputable def f0:List K:=jl 0x573be613d5545161e06bd1c
noncomputable def fm1:List (List K):=[f9,f8,f7,f6,f5,f4,f3,f2,f1,f0]++fm0
noncomputable def rs1:List KW:=[.c (.sl 7 fm1 10),.l 4 [(.sl 2 [[kl,kz]] 1),kl,YI,(kn 183)],.l 2 [(kn 0),(kn 0)]]
noncomputable def f18:List K:=jl 0x5cd184c41e68856d0d56ece210c0cf54b4354b21161cf54b4354bda2f1a210743507b3b3d41d0d41f68bc6cb87577bc4c4a1c456a09d5848485a1d6cd0d5de491b2fa7adc76a06ab391c
noncomputable def f17:List K:=jl 0x5ce4a2513635256d1c
noncomputable def f16:List K:=jl 0x573a086a457563635252d1c
noncomputable def f15:List K:=jl 0x5ced0f5631b5241d1c
noncomputable def f14:List K:=jl 0x573d5d505dd1c
noncomputable def f13:List K:=jl 0x65dd0cc47921835147678d4252c0bb6f43511c
noncomputable def f12:List K:=jl 0x5cdbe4793152c45653585afd012d51d4992d5066d1c
noncomputable def f11:List K:=jl 0x76c526546d51c
noncomputable def f10:List K:=jl 0x5ceb2cc54b11594d61d02548828b
noncomputable def fm2:List (List K):=[f18,f17,f16,f15,f14,f13,f12,f11,f10]++fm1
noncomputable def R6:List KW:=[.c (.sl 7 fm2 19),.l 4 [(.sl 2 [[kl,kz]] 1),kl,YI,(kn 478)],.l 2 [(kn 0),(kn 0)]]
noncomputable def f26:List K:=jl 0x76185cd825287b0515b0aed211f5434c6ba59b4b4e64463c6d59c39a17532e9526e892d0db04847d51c
noncomputable def f25:List K:=jl 0x65d1e4c5942ef0acd57e0843033c31894314c51e6506799e1142b35502cf19e2d6e8bc46d90a50b56491b2facf1c971e0b1142b004847e11c
noncomputable def f24:List K:=jl 0x1d86cb31217bbcae1f9fb2106a45617678452b87e4092d971475324b434452b8847ed1c
noncomputable def f23:List K:=jl 0x65db2cc5d5b2723147361c67d084daaf49fd1c
noncomputable def f22:List K:=jl 0x1b846144568454c5a1c455a2518625e4359e6da5c51d4c92dc76a06a211cf0928b
noncomputable def f21:List K:=jl 0x19776951e18532f45311c
noncomputable def f20:List K:=jl 0x65dd0cc5790d8719bd252c0bb6f49f91c
noncomputable def f19:List K:=jl 0x197461184c585d0751d5b21107b394756dc66754752c84a68e63152894507da14741dc667547678b5ba10d5250d5dd2d7ad509191c
noncomputable def fm3:List (List K):=[f26,f25,f24,f23,f22,f21,f20,f19]++fm2
noncomputable def rs3:List KW:=[.c (.sl 7 fm3 27),.l 4 [(.sl 2 [[kl,kz]] 1),kl,YI,(kn 877)],.l 2 [(kn 0),(kn 0)]]
noncomputable def f27:List K:=jl 0x761314c428aef0d80145687b0515b0aed212984359e6d89485eef0d8d56dae966d2d399118f1b5670e685d4cba549ba24b25287274450d8d5b04847ea8b
noncomputable def fmE:List (List K):=[f27]++fm3
noncomputable def RQ:K:=.sl 7 fmE 28
noncomputable def rvW:List KW:=[.c RQ,.l 2 [(kn 0),(kn 0)]]
end Go.Ey.Pr
