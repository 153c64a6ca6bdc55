/- Part 2. -/
import Derived.Scope
import Derived.Test.YtnjahnbpnpkmhaaGreatDoorQa

namespace Go.Lw
section
variable {id sz:Nat}{P:Program}{f:FuncId}{args:Array Value}{h:aq}{listed:Array Bool}{vs:List Value}
def child:Nat->Code->Code
 | 0,.seq a _=>a
 |_,.seq _ b=>b
 | 0,.cond _ a _=>a
 |_,.cond _ _ b=>b
 |_,.block _ b=>b
 |_,.loop b=>b
 |_,.scope b=>b
 |_,c=>c
def sub (c:Code):List Nat->Code
 | []=>c
 |d::p=>child d (sub c p)
def ax (fn:Func):Code:=fn.body.getD .skip
inductive It where
 |code (p:List Nat)
 |blk (id:Nat)
 |loop (p:List Nat)
 |scp (p:List Nat)
def aH (c:Code):It->Item
 |.code p=>.code (sub c p)
 |.blk id=>.inBlock id
 |.loop p=>.inLoop (sub c p)
 |.scp p=>.inScope (sub c p)
def opsOf:Code->Array Oper
 |.region _ ops _=>ops
 |_=> #[]
def kind:Code->Nat
 |.skip=>0|.seq .. =>1|.block .. =>2|.loop .. =>3|.ret=>4|.region _ _ d=>bif d then 6 else 5|.cond .. =>7|.exit .. =>8|.scope .. =>10|.label .. =>11|_=>9
def Md:Code->Nat
 |.block id _=>id|.exit id=>id|_=>0
def pG:Code->Operand
 |.cond c _ _=>c|_=>.tmp 0
def qH (id:Nat):List It->Option (List It)
 |.blk id'::k=>if Nat.beq id' id then some k else qH id k
 |_::k=>qH id k
 | []=>none
theorem JK {c:Code}{k k':List It}(h:qH id k=some k'):exitTo id (k.map (aH c))=some (k'.map (aH c)):=by
 induction k with
 |nil=>simp[qH] at h
 |cons x r I =>
  cases x with
  |code p=>simp only[qH] at h;simpa [exitTo,aH] using I h
  |loop p=>simp only[qH] at h;simpa [exitTo,aH] using I h
  |scp p=>simp only[qH] at h;simpa [exitTo,aH] using I h
  |blk j =>
   simp only[qH] at h
   by_cases e:j=id
   · subst e;simp at h;subst h;simp[exitTo,aH]
   · have U:Nat.beq j id=false:=by
      cases U:Nat.beq j id
      · rfl
      · exact absurd (Nat.eq_of_beq_eq_true U) e
     rw[U] at h;have J:(j ==id)=false:=by simpa using e
     simpa [exitTo,aH,J] using I (by simpa using h)
def lift (B:World) (R:Ending->aq->Prop) (e:Ending) (w':World):Prop:=∃h',At B h' w'/\R e h'
def au (P:Program) (f:FuncId) (args:Array Value) (h:aq) (R:Ending->aq->Prop):Prop :=
 ∀B w,At B h w->Calls P f args w (lift B R)
def bK (Φ:Value->aq->Prop) (e:Ending) (h:aq):Prop:=∃v,e= .returned v/\Φ v h
theorem au.mono {P:Program}{f:FuncId}{args:Array Value}{h:aq}{R I:Ending->aq->Prop}(k:au P f args h R) (hr:∀e h',R e h'->I e h'):au P f args h I :=
 λB w J=>(k B w J).mono λ_ _ ⟨h',U,r⟩=>⟨h',U,hr _ _ r⟩
theorem au.ret {Φ Φ':Value->aq->Prop}(k:au P f args h (bK Φ)) (hr:∀v h',Φ v h'->Φ' v h'):au P f args h (bK Φ') :=
 k.mono λ_ _ ⟨v,e,p⟩=>⟨v,e,hr _ _ p⟩
def G (P:Program) (f:FuncId) (fn:Func) (k:List It) (ρ:Env) (h:aq) (R:Ending->aq->Prop):Prop :=
 ∀B a w,Fits fn.ntmps ρ a->At B h w->∀b:Frame,b.fn=f->b.kind= .normal->∀cs,∃e w' fr h',At B h' w'/\R e h' /\
  Comes P (lone (b.at a (k.map (aH (ax fn)))) cs w) (lone fr cs w') e/\fr.fn=f/\fr.leaving P w' e
section
variable {P:Program}{f:FuncId}{fn:Func}{k:List It}{ρ:Env}{h:aq}{R:Ending->aq->Prop}{p:List Nat}
theorem l9 {k':List It}(hs:∀(b:Frame) (a:Act) cs w,Go.step P (lone (b.at a (k.map (aH (ax fn)))) cs w)= .next (lone (b.at a (k'.map (aH (ax fn)))) cs w))
 (next:G P f fn k' ρ h R):G P f fn k ρ h R:=by
 intro B a w I U b J hk cs;obtain⟨e,w',fr,h',h1,h2,h3,Z,Y⟩:=next B a w I U b J hk cs
 exact⟨e,w',fr,h',h1,h2,.of_steps (.one (hs b a cs w)) h3,Z,Y⟩
theorem me (hk:kind (sub (ax fn) p)=0) (next:G P f fn k ρ h R):G P f fn (.code p::k) ρ h R:=by
 refine l9 (λb a cs w=>?_) next
 simp only[List.map_cons,aH];cases hc:sub (ax fn) p<;>simp[hc,kind] at hk
 · exact step_skip
 · rename_i d;cases d<;>simp at hk
theorem Lz (hk:kind (sub (ax fn) p)=10) (next:G P f fn (.code (0::p):: .scp (0::p)::k) ρ h R):G P f fn (.code p::k) ρ h R:=by
 refine l9 (λb a cs w=>?_) next
 simp only[List.map_cons,aH,sub];cases hc:sub (ax fn) p<;>simp[hc,kind] at hk
 · rename_i d;cases d<;>simp at hk
 · exact step_scope
theorem G.Mt {q:List Nat}(next:G P f fn k ρ h R):G P f fn (.scp q::k) ρ h R :=
 l9 (λ_ _ _ _=>step_inScope) next
theorem LA (hk:kind (sub (ax fn) p)=11) (next:G P f fn k ρ h R):G P f fn (.code p::k) ρ h R:=by
 refine l9 (λb a cs w=>?_) next
 simp only[List.map_cons,aH];cases hc:sub (ax fn) p<;>simp[hc,kind] at hk
 · rename_i d;cases d<;>simp at hk
 · exact step_label
theorem G.pL (next:G P f fn k ρ h R):G P f fn (.blk id::k) ρ h R :=
 l9 (λ_ _ _ _=>step_inBlock) next
theorem iC (hk:kind (sub (ax fn) p)=1) (next:G P f fn (.code (0::p):: .code (1::p)::k) ρ h R):G P f fn (.code p::k) ρ h R:=by
 refine l9 (λb a cs w=>?_) next
 simp only[List.map_cons,aH,sub];cases hc:sub (ax fn) p<;>simp[hc,kind] at hk
 · rename_i d;cases d<;>simp at hk
 · exact step_seq
theorem G.block (hk:kind (sub (ax fn) p)=2) (hid:Md (sub (ax fn) p)=id) (next:G P f fn (.code (0::p):: .blk id::k) ρ h R):G P f fn (.code p::k) ρ h R:=by
 subst hid;refine l9 (λb a cs w=>?_) next
 simp only[List.map_cons,aH,sub];cases hc:sub (ax fn) p<;>simp[hc,kind] at hk
 · rename_i d;cases d<;>simp at hk
 · exact step_block
theorem LC (hk:kind (sub (ax fn) p)=3) (next:G P f fn (.code (0::p):: .loop (0::p)::k) ρ h R):G P f fn (.code p::k) ρ h R:=by
 refine l9 (λb a cs w=>?_) next
 simp only[List.map_cons,aH,sub];cases hc:sub (ax fn) p<;>simp[hc,kind] at hk
 · rename_i d;cases d<;>simp at hk
 · exact step_loop
theorem LD (next:G P f fn (.code p:: .loop p::k) ρ h R):G P f fn (.loop p::k) ρ h R :=
 l9 (λ_ _ _ _=>step_inLoop) next
theorem Nc {k':List It}(hk:kind (sub (ax fn) p)=8) (he:qH (Md (sub (ax fn) p)) k=some k') (next:G P f fn k' ρ h R):G P f fn (.code p::k) ρ h R:=by
 refine l9 (λb a cs w=>?_) next
 simp only[List.map_cons,aH];cases hc:sub (ax fn) p<;>simp[hc,kind] at hk
 · rename_i d;cases d<;>simp at hk
 · rw[hc] at he;exact step_exit (JK he)
theorem G.sub {ρ':Env}(hs:Sub ρ' ρ) (next:G P f fn k ρ' h R):G P f fn k ρ h R :=
 λB a w I J=>next B a w (I.sub hs) J
theorem yU {t:Bool}(hk:kind (Lw.sub (ax fn) p)=7) (hc:bp ρ (pG (Lw.sub (ax fn) p))=some (.bool t))
 (ht:t=true->G P f fn (.code (0::p)::k) ρ h R) (hn:t=false->G P f fn (.code (1::p)::k) ρ h R):G P f fn (.code p::k) ρ h R:=by
 intro B a w Y ha b hb J cs
 have I:Go.step P (lone (b.at a ((It.code p::k).map (aH (ax fn)))) cs w)= .next (lone (b.at a ((It.code ((if t then 0 else 1)::p)::k).map (aH (ax fn)))) cs w):=by
  simp only[List.map_cons,aH,Lw.sub];cases U:Lw.sub (ax fn) p<;>simp[U,kind] at hk
  · rename_i d;cases d<;>simp at hk
  · rw[U] at hc;refine(step_cond (P:=P) (b:=b) (a:=a) (k:=k.map (aH (ax fn))) (cs:=cs) (w:=w) (Y.eval hc)).trans ?_;cases t<;>rfl
 cases t with
 |true =>
  obtain⟨e,w',fr,h',h1,h2,h3,h4,Z⟩:=ht rfl B a w Y ha b hb J cs;exact⟨e,w',fr,h',h1,h2,.of_steps (.one I) h3,h4,Z⟩
 |false =>
  obtain⟨e,w',fr,h',h1,h2,h3,h4,Z⟩:=hn rfl B a w Y ha b hb J cs;exact⟨e,w',fr,h',h1,h2,.of_steps (.one I) h3,h4,Z⟩
theorem vk {φ:Prop}[Decidable φ] (hk:kind (Lw.sub (ax fn) p)=7) (hc:bp ρ (pG (Lw.sub (ax fn) p))=some (.bool (decide φ)))
 (I:φ->G P f fn (.code (0::p)::k) ρ h R) (J:¬φ->G P f fn (.code (1::p)::k) ρ h R):G P f fn (.code p::k) ρ h R :=
 yU hk hc (λe=>I (of_decide_eq_true e)) (λe=>J (of_decide_eq_false e))
theorem vY (hw:∀B a w,Fits fn.ntmps ρ a->At B h w->(Lw.sub (ax fn) p).wp P (λe U w'=>match e with
 |.normal=>∃ρ' h',Fits fn.ntmps ρ' U/\At B h' w'/\G P f fn k ρ' h' R
 |.panic Y=>U.defers=[]/\∃h',At B h' w'/\R (.panicked Y) h'
 |_=>False) a w) (ab:P.funcs[f]? =some fn):G P f fn (.code p::k) ρ h R:=by
 intro B a w hf ha b hb aa cs;obtain⟨e,U,w',J,I⟩:=hw B a w hf ha b (k.map (aH (ax fn))) cs;cases e with
 |normal =>
  obtain⟨ρ',h',f',ae,hg⟩:=J;obtain⟨e,Z,fr,ad,h1,h2,h3,h4,h5⟩:=hg B U w' f' ae b hb aa cs;exact⟨e,Z,fr,ad,h1,h2,.of_steps I h3,h4,h5⟩
 |panic Y =>
  obtain⟨hd,h',ac,hr⟩:=J;obtain⟨todo,hs⟩:=I;exact⟨.panicked Y,w',_,h',ac,hr,hs,hb,rfl,hd,fn,by rw[show (({ b.at U todo with mode:=.panicking Y }:Frame)).fn=f from hb];exact ab⟩
 |exit id=>exact J.elim
 |goto l=>exact J.elim
 |ret=>exact J.elim
 |outgrown=>exact J.elim
theorem G.mE (Y:P.funcs[f]? =some fn) (hk:kind (Lw.sub (ax fn) p)=5)
 (next:RW P fn.ntmps (opsOf (Lw.sub (ax fn) p)) 0 ρ h (λρ' h'=>G P f fn k ρ' h' R) (λJ h'=>R (.panicked J) h')):G P f fn (.code p::k) ρ h R:=by
 refine vY (λB a w hf ha=>?_) Y;cases hc:Lw.sub (ax fn) p<;>simp[hc,kind] at hk;rename_i id ops d;cases d<;>simp at hk;refine wp_region ?_;rw[hc] at next
 have:=next B a w hf ha (λe U w'=>match e with
  |.normal=>∃ρ' h',Fits fn.ntmps ρ' U/\At B h' w'/\G P f fn k ρ' h' R
  |.panic J=>U.defers=[]/\∃h',At B h' w'/\R (.panicked J) h'
  |_=>False) (λρ' h' U w' f' I hn=>⟨ρ',h',f',I,hn⟩) (λJ h' U w' hd I Z=>⟨hd,h',I,Z⟩)
 simpa [opsOf] using this
theorem fT {ops:Array Oper}{M:Nat->Prop}{keeps:Nat->Bool}{Q Q':Exit->Act->World->Prop}(hq:∀e a w,Q e a w->Q' e a w):∀(fuel:Nat) (listed:Array Bool) (a:Act) (w:World),
 DU P ops M keeps Q fuel listed a w->DU P ops M keeps Q' fuel listed a w
 | 0,_,_,_,h=>⟨h.1,hq _ _ _ h.2⟩
 |fuel+1,_,_,_,h=>⟨λh0=>hq _ _ _ (h.1 h0),λi hi=>by
  have h1:=h.2 i hi;unfold wpOp at *;split
  · rename_i ho;simp only[ho] at h1;exact⟨h1.1,fT hq fuel _ _ _ h1.2⟩
  · rename_i o ho;simp only[ho] at h1;split
    · rename_i hw;simp only[hw,if_true] at h1
      rcases h1 with h1|⟨h1,a₀,w₀,h2⟩
      · refine .inl ?_;unfold Oper.wp at *;generalize (execOp _ o).run P _=r at *;cases r with
        |ok n w' =>
         cases n<;>simp only[Oper.upon] at h1 ⊢
         case value v=>exact⟨h1.1,fT hq fuel _ _ _ h1.2⟩
         case skip=>exact⟨h1.1,fT hq fuel _ _ _ h1.2⟩
         case defer d=>exact⟨h1.1,fT hq fuel _ _ _ h1.2⟩
         case enter g args =>
          refine h1.mono λe w'' hr=>?_
          cases e with
          |returned v=>exact⟨hr.1,fT hq fuel _ _ _ hr.2⟩
          |panicked c=>exact hq _ _ _ hr
          |outgrown=>obtain⟨a₁,w₁,h3⟩:=hr;exact⟨a₁,w₁,hq _ _ _ h3⟩
         case row row args=>exact h1.mono λv w'' hr=>⟨hr.1,fT hq fuel _ _ _ hr.2⟩
        |halt x w'=>cases x<;>simp only[Oper.upon] at h1 ⊢;exact hq _ _ _ h1
      · exact .inr ⟨h1,a₀,w₀,hq _ _ _ h2⟩
    · rename_i hw;simp only[hw] at h1;exact⟨h1.1,fT hq fuel _ _ _ h1.2⟩⟩
theorem ux (M:Nat->Prop) (keeps:Nat->Bool) (J:P.funcs[f]? =some fn) (hm:P.follows .mixedOrders=true) (hk:kind (Lw.sub (ax fn) p)=6)
 (I:(opsOf (Lw.sub (ax fn) p)).size=sz) (hl:Array.replicate sz false=listed)
 (next:RD P fn.ntmps (opsOf (Lw.sub (ax fn) p)) M keeps sz listed ρ h (λρ' h'=>G P f fn k ρ' h' R) (λZ h'=>R (.panicked Z) h')):G P f fn (.code p::k) ρ h R:=by
 subst hl;subst I;refine vY (λB a w U Y=>?_) J;cases hc:Lw.sub (ax fn) p<;>simp[hc,kind] at hk;rename_i id ops d;cases d with
 |false=>simp at hk
 |true =>
  refine wp_region_any hm ?_;rw[hc] at next
  exact qw _ _ _ _ (next B a { w with drawn:=w.drawn+1 } U Y.drew)
def gq (ρ:Env):List ResultVar->Option (List Value)
 | []=>some []
 |.tmp t::r=>match ρ.at t,gq ρ r with|some v,some vs=>some (v::vs)|_,_=>none
 |.cell _ _::_=>none
def packed:List Value->Value
 | [v]=>v
 |vs=>.tuple vs.toArray
theorem De (g:ResultVar->Sem Value) (J:∀t v,ρ.at t=some v->∀w,(g (.tmp t)).run P w= .ok v w) (w:World):∀(l:List ResultVar) (vs:List Value),gq ρ l=some vs->(l.mapM g).run P w= .ok vs w
 | [],vs,h=>by simp[gq] at h;subst h;rfl
 |.tmp t::r,vs,h=>by
  simp only[gq] at h;cases h1:ρ.at t with
  |none=>simp[h1] at h
  |some v =>
   cases I:gq ρ r with
   |none=>simp[h1,I] at h
   |some us =>
    simp only[h1,I,Option.some.injEq] at h;subst h;have:=De g J w r us I;simp only[List.mapM_cons,Sem.run_bind,Sem.run_pure,Result.andThen_ok,this,J t v h1]
 |.cell _ _::_,vs,h=>by simp[gq] at h
theorem oQ {n:Nat}{a:Act}(J:Fits n ρ a) (w:World) (hr:gq ρ fn.results.toList=some vs):(results fn a.tmps).run P w= .ok (packed vs) w:=by
 unfold results;rw[Sem.run_bind,Array.mapM_eq_mapM_toList,Sem.run_map,De (ρ:=ρ) _ (λt v I w=>by simp[J.ok t v I]) w _ vs hr];simp only[Result.andThen_ok,Sem.run_pure]
 congr 1
 match vs with
 | []=>rfl
 | [v]=>rfl
 |_::_::_=>rfl
theorem G.ret (U:P.funcs[f]? =some fn) (hk:kind (Lw.sub (ax fn) p)=4) (hr:gq ρ fn.results.toList=some vs) (hR:R (.returned (packed vs)) h):G P f fn (.code p::k) ρ h R:=by
 intro B a w Y ha b Z J cs
 have I:Go.step P (lone (b.at a ((It.code p::k).map (aH (ax fn)))) cs w)= .next (lone { b.at a ((It.code p::k).map (aH (ax fn))) with mode:=.returning } cs w):=by
  simp only[List.map_cons,aH];cases hc:Lw.sub (ax fn) p<;>simp[hc,kind] at hk
  · rename_i d;cases d<;>simp at hk
  · exact step_ret
 exact⟨.returned (packed vs),w,_,h,ha,hR,.one I,Z,rfl,Y.nd,J,fn,by rw[show (({ b.at a ((It.code p::k).map (aH (ax fn))) with mode:=.returning }:Frame)).fn=f from Z];exact U,oQ Y w hr⟩
theorem G.P9 (J:P.funcs[f]? =some fn) (hr:gq ρ fn.results.toList=some vs) (hR:R (.returned (packed vs)) h):G P f fn [] ρ h R:=by
 intro B a w U Z b Y I cs;exact⟨.returned (packed vs),w,_,h,Z,hR,.one step_end,Y,rfl,U.nd,I,fn,by rw[show (({ b.at a [] with mode:=.returning }:Frame)).fn=f from Y];exact J,oQ U w hr⟩
theorem uw {σ:Type}(E:σ->Env) (I:σ->aq->Prop) (μ:σ->Nat) (J:σ) (hk:kind (Lw.sub (ax fn) p)=3) (hs:Sub (E J) ρ) (h0:I J h)
 (round:∀s h,I s h->(∀s' h' ρ',Sub (E s') ρ'->I s' h'->μ s' < μ s->G P f fn (.loop (0::p)::k) ρ' h' R)->G P f fn (.code (0::p):: .loop (0::p)::k) (E s) h R):G P f fn (.code p::k) ρ h R:=by
 have key:∀n s h,μ s=n->I s h->G P f fn (.code (0::p):: .loop (0::p)::k) (E s) h R:=by
  intro n
  induction n using Nat.strongRecOn with
  |_ n Z =>
   intro s h hn hI;refine round s h hI λs' h' ρ' U Y hlt=>LD (G.sub U (Z (μ s') (by omega) s' h' rfl Y))
 exact LC hk (G.sub hs (key _ J h rfl h0))
def nV:Nat->List Value->Env
 |_,[]=>[]
 |i,v::r=>(i,v)::nV (i+1) r
theorem uk:∀(vs:List Value) (i j:Nat) (v:Value),(nV i vs).at j=some v->i<=j/\vs[j-i]? =some v
 | [],i,j,v,h=>by simp[nV,Env.at] at h
 |u::r,i,j,v,h=>by
  simp only[nV,Env.fS] at h;split at h
  · rename_i e;subst e;cases h;simp
  · rename_i e;obtain⟨h1,h2⟩:=uk r (i+1) j v h;refine⟨by omega,?_⟩;rw[show j-i=(j-(i+1))+1 from by omega];simpa using h2
theorem au.of (Z:P.funcs[f]? =some fn) (hb:fn.body.isSome=true) (hn:Nat.ble vs.length fn.ntmps=true)
 (next:G P f fn [.code []] (nV 0 vs) h R):au P f vs.toArray h R:=by
 intro B w ha cs;obtain⟨c,hc⟩:=Option.isSome_iff_exists.1 hb;have hle:vs.length<=fn.ntmps:=Nat.le_of_ble_eq_true hn
 let b:Frame:= { (default:Frame) with fn:=f,kind:=.normal }
 have I:Frame.enter P f vs.toArray .normal =
  b.at { tmps:=vs.toArray++Array.replicate (fn.ntmps-vs.toArray.size) undef,defers:=[] } ([It.code []].map (aH (ax fn))):=by
  simp[Frame.enter,Frame.at,Z,hc,b,aH,Lw.sub,ax]
 have J:Fits fn.ntmps (nV 0 vs) { tmps:=vs.toArray++Array.replicate (fn.ntmps-vs.toArray.size) undef,defers:=[] }:=by
  refine⟨by simp;omega,λi v hi=>?_,rfl⟩;obtain⟨_,U⟩:=uk vs 0 i v hi
  have Y:i<vs.length:=by
   rcases Nat.lt_or_ge i vs.length with hl|hl
   · exact hl
   · simp[List.getElem?_eq_none hl] at U
  rw[Array.getElem?_append_left (by simpa using Y)];simpa using U
 obtain⟨e,w',fr,h',h1,U,h3,h4,h5⟩:=next B _ w J ha b rfl rfl cs
 rw[I];exact⟨e,w',fr,⟨h',h1,U⟩,h3,h4,h5⟩
theorem G.NY (ρ1:Env) (I:P.funcs[f]? =some fn) (hk:kind (Lw.sub (ax fn) p)=5)
 (mE:RW P fn.ntmps (opsOf (Lw.sub (ax fn) p)) 0 ρ h (λρ' h'=>h'=h/\Sub ρ1 ρ') (λ_ _=>False))
 (next:G P f fn k ρ1 h R):G P f fn (.code p::k) ρ h R:=by
 refine G.mE I hk ?_;intro B a w Z ha Q hN hX;exact mE B a w Z ha Q (λρ' h' a' w' f' J ⟨Y,hs⟩=>hN ρ' h' a' w' f' J (by subst Y;exact G.sub hs next)) (λ_ _ _ _ _ _ U=>U.elim)
theorem G.IP (new keep:Env) (_:Sub keep ρ) (I:P.funcs[f]? =some fn) (hk:kind (Lw.sub (ax fn) p)=5)
 (mE:RW P fn.ntmps (opsOf (Lw.sub (ax fn) p)) 0 ρ h (λρ' h'=>h'=h/\Sub (new++keep) ρ') (λ_ _=>False))
 (next:G P f fn k (new++keep) h R):G P f fn (.code p::k) ρ h R:=G.NY _ I hk mE next
theorem G.MX (E:aq->Prop) (ρ1:Env) (M:Nat->Prop) (keeps:Nat->Bool) (U:P.funcs[f]? =some fn) (hm:P.follows .mixedOrders=true) (hk:kind (Lw.sub (ax fn) p)=6)
 (I:(opsOf (Lw.sub (ax fn) p)).size=sz) (hl:Array.replicate sz false=listed)
 (mE:RD P fn.ntmps (opsOf (Lw.sub (ax fn) p)) M keeps sz listed ρ h (λρ' h'=>E h'/\Sub ρ1 ρ') (λZ h'=>R (.panicked Z) h'))
 (next:∀h',E h'->G P f fn k ρ1 h' R):G P f fn (.code p::k) ρ h R:=by
 refine ux M keeps U hm hk I hl ?_;intro B a w hf ha;have h1:=mE B a w hf ha
 exact fT (λe a' w' J=>by
  cases e with
  |normal=>obtain⟨ρ',h',f',Y,hE,hs⟩:=J;exact⟨ρ',h',f',Y,G.sub hs (next h' hE)⟩
  |panic Z=>exact J
  |_=>exact J.elim) _ _ _ _ h1
end
section
variable {P:Program}{f:FuncId}{fn:Func}{k:List It}{ρ:Env}{h:aq}{R:Ending->aq->Prop}{p:List Nat}
theorem G.La (new keep:Env) (_:Sub keep ρ) (M:Nat->Prop) (keeps:Nat->Bool) (J:P.funcs[f]? =some fn) (hm:P.follows .mixedOrders=true) (hk:kind (Lw.sub (ax fn) p)=6)
 (I:(opsOf (Lw.sub (ax fn) p)).size=sz) (hl:Array.replicate sz false=listed)
 (mE:RD P fn.ntmps (opsOf (Lw.sub (ax fn) p)) M keeps sz listed ρ h (λρ' h'=>h'=h/\Sub (new++keep) ρ') (λU h'=>R (.panicked U) h'))
 (next:G P f fn k (new++keep) h R):G P f fn (.code p::k) ρ h R :=
 G.MX (λh'=>h'=h) _ M keeps J hm hk I hl mE (λh' e=>by subst e;exact next)
theorem G.K9 {σ:Type}(E:σ->aq->Prop) (new:σ->Env) (keep:Env) (_:Sub keep ρ) (M:Nat->Prop) (keeps:Nat->Bool) (U:P.funcs[f]? =some fn) (hm:P.follows .mixedOrders=true) (hk:kind (Lw.sub (ax fn) p)=6)
 (I:(opsOf (Lw.sub (ax fn) p)).size=sz) (hl:Array.replicate sz false=listed)
 (mE:RD P fn.ntmps (opsOf (Lw.sub (ax fn) p)) M keeps sz listed ρ h (λρ' h'=>∃s,E s h'/\Sub (new s++keep) ρ') (λZ h'=>R (.panicked Z) h'))
 (next:∀s h',E s h'->G P f fn k (new s++keep) h' R):G P f fn (.code p::k) ρ h R:=by
 refine ux M keeps U hm hk I hl ?_;intro B a w hf ha
 exact fT (λe a' w' J=>by
  cases e with
  |normal=>obtain⟨ρ',h',f',Y,s,hE,hs⟩:=J;exact⟨ρ',h',f',Y,G.sub hs (next s h' hE)⟩
  |panic Z=>exact J
  |_=>exact J.elim) _ _ _ _ (mE B a w hf ha)
theorem G.My {σ:Type}(E:σ->aq->Prop) (new:σ->Env) (keep:Env) (_:Sub keep ρ) (I:P.funcs[f]? =some fn) (hk:kind (Lw.sub (ax fn) p)=5)
 (mE:RW P fn.ntmps (opsOf (Lw.sub (ax fn) p)) 0 ρ h (λρ' h'=>∃s,E s h'/\Sub (new s++keep) ρ') (λch h'=>R (.panicked ch) h'))
 (next:∀s h',E s h'->G P f fn k (new s++keep) h' R):G P f fn (.code p::k) ρ h R:=by
 refine G.mE I hk ?_;intro B a w U Y Q hN Z;exact mE B a w U Y Q (λρ' h' a' w' f' J ⟨s,hE,hs⟩=>hN ρ' h' a' w' f' J (G.sub hs (next s h' hE))) Z
end
theorem au.FU {v:Value}(k:∀w,Calls P f args w λe w'=>e= .returned v/\w'=w):au P f args h (bK λr h'=>r=v/\h'=h) :=
 λ_ w I=>(k w).mono λ_ _ ⟨he,hw⟩=>⟨h,by rw[hw];exact I,v,he,rfl,rfl⟩
theorem au.HX {Φ:Value->aq->Prop}{X:List PanicEntry->aq->Prop}(k:au P f args h (bK Φ)) :
 au P f args h (λe h'=>match e with|.returned v=>Φ v h'|.panicked c=>X c h'|.outgrown=>False) :=
 k.mono λ_ _ ⟨_,he,I⟩=>by subst he;exact I
end
end Go.Lw
