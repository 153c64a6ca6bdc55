/- What the proof of the statement leans on (part 2). -/
import Derived.Scope
import Derived.Test.YtckomlgchbkekaaGreatDoorQa

namespace Go.Lw
section
variable {id:Nat}{P:Program}{f:FuncId}{args:Array Value}{h:ai}{vs:List Value}
def child:Nat->Code->Code
 | 0,.seq a _=>a
 |_,.seq _ b=>b
 | 0,.cond _ a _=>a
 |_,.cond _ _ b=>b
 |_,.block _ b=>b
 |_,.loop b=>b
 |_,.scope b=>b
 |_,c=>c
def sub (c:Code):List Nat->Code
 | []=>c
 |d::p=>child d (sub c p)
def aq (fn:Func):Code:=fn.body.getD .skip
inductive It where
 |code (p:List Nat)
 |blk (id:Nat)
 |loop (p:List Nat)
 |scp (p:List Nat)
def aF (c:Code):It->Item
 |.code p=>.code (sub c p)
 |.blk id=>.inBlock id
 |.loop p=>.inLoop (sub c p)
 |.scp p=>.inScope (sub c p)
def opsOf:Code->Array Oper
 |.region _ ops _=>ops
 |_=> #[]
def kind:Code->Nat
 |.skip=>0|.seq .. =>1|.block .. =>2|.loop .. =>3|.ret=>4|.region _ _ d=>bif d then 6 else 5|.cond .. =>7|.exit .. =>8|.scope .. =>10|.label .. =>11|_=>9
def D7:Code->Nat
 |.block id _=>id|.exit id=>id|_=>0
def j8:Code->Operand
 |.cond c _ _=>c|_=>.tmp 0
def mQ (id:Nat):List It->Option (List It)
 |.blk id'::k=>if Nat.beq id' id then some k else mQ id k
 |_::k=>mQ id k
 | []=>none
theorem Hl {c:Code}{k k':List It}(h:mQ id k=some k'):exitTo id (k.map (aF c))=some (k'.map (aF c)):=by
 induction k with
 |nil=>simp[mQ] at h
 |cons x r ih =>
  cases x with
  |code p=>simp only[mQ] at h;simpa [exitTo,aF] using ih h
  |loop p=>simp only[mQ] at h;simpa [exitTo,aF] using ih h
  |scp p=>simp only[mQ] at h;simpa [exitTo,aF] using ih h
  |blk j =>
   simp only[mQ] at h
   by_cases e:j=id
   · subst e;simp at h;subst h;simp[exitTo,aF]
   · have hb:Nat.beq j id=false:=by
      cases hb:Nat.beq j id
      · rfl
      · exact absurd (Nat.eq_of_beq_eq_true hb) e
     rw[hb] at h;have hb':(j ==id)=false:=by simpa using e
     simpa [exitTo,aF,hb'] using ih (by simpa using h)
def lift (B:World) (R:Ending->ai->Prop) (e:Ending) (w':World):Prop:=∃h',At B h' w'/\R e h'
def aj (P:Program) (f:FuncId) (args:Array Value) (h:ai) (R:Ending->ai->Prop):Prop :=
 ∀B w,At B h w->Calls P f args w (lift B R)
def aN (Φ:Value->ai->Prop) (e:Ending) (h:ai):Prop:=∃v,e= .returned v/\Φ v h
theorem aj.mono {P:Program}{f:FuncId}{args:Array Value}{h:ai}{R R':Ending->ai->Prop}(k:aj P f args h R) (hr:∀e h',R e h'->R' e h'):aj P f args h R' :=
 fun B w ha=>(k B w ha).mono fun _ _ ⟨h',a',r⟩=>⟨h',a',hr _ _ r⟩
theorem aj.ret {Φ Φ':Value->ai->Prop}(k:aj P f args h (aN Φ)) (hr:∀v h',Φ v h'->Φ' v h'):aj P f args h (aN Φ') :=
 k.mono fun _ _ ⟨v,e,p⟩=>⟨v,e,hr _ _ p⟩
def G (P:Program) (f:FuncId) (fn:Func) (k:List It) (ρ:Env) (h:ai) (R:Ending->ai->Prop):Prop :=
 ∀B a w,Fits fn.ntmps ρ a->At B h w->∀b:Frame,b.fn=f->b.kind= .normal->∀cs,∃e w' fr h',At B h' w'/\R e h' /\
  Comes P (lone (b.at a (k.map (aF (aq fn)))) cs w) (lone fr cs w') e/\fr.fn=f/\fr.leaving P w' e
section
variable {P:Program}{f:FuncId}{fn:Func}{k:List It}{ρ:Env}{h:ai}{R:Ending->ai->Prop}{p:List Nat}
theorem jk {k':List It}(hs:∀(b:Frame) (a:Act) cs w,Go.step P (lone (b.at a (k.map (aF (aq fn)))) cs w)= .next (lone (b.at a (k'.map (aF (aq fn)))) cs w))
 (next:G P f fn k' ρ h R):G P f fn k ρ h R:=by
 intro B a w hf ha b hb hk cs;obtain⟨e,w',fr,h',h1,h2,h3,h4,h5⟩:=next B a w hf ha b hb hk cs
 exact⟨e,w',fr,h',h1,h2,.of_steps (.one (hs b a cs w)) h3,h4,h5⟩
theorem fR (hk:kind (sub (aq fn) p)=0) (next:G P f fn k ρ h R):G P f fn (.code p::k) ρ h R:=by
 refine jk (fun b a cs w=>?_) next
 simp only[List.map_cons,aF];cases hc:sub (aq fn) p<;>simp[hc,kind] at hk
 · exact step_skip
 · rename_i d;cases d<;>simp at hk
theorem JA (hk:kind (sub (aq fn) p)=10) (next:G P f fn (.code (0::p):: .scp (0::p)::k) ρ h R):G P f fn (.code p::k) ρ h R:=by
 refine jk (fun b a cs w=>?_) next
 simp only[List.map_cons,aF,sub];cases hc:sub (aq fn) p<;>simp[hc,kind] at hk
 · rename_i d;cases d<;>simp at hk
 · exact step_scope
theorem G.KL {q:List Nat}(next:G P f fn k ρ h R):G P f fn (.scp q::k) ρ h R :=
 jk (fun _ _ _ _=>step_inScope) next
theorem JB (hk:kind (sub (aq fn) p)=11) (next:G P f fn k ρ h R):G P f fn (.code p::k) ρ h R:=by
 refine jk (fun b a cs w=>?_) next
 simp only[List.map_cons,aF];cases hc:sub (aq fn) p<;>simp[hc,kind] at hk
 · rename_i d;cases d<;>simp at hk
 · exact step_label
theorem G.gr (next:G P f fn k ρ h R):G P f fn (.blk id::k) ρ h R :=
 jk (fun _ _ _ _=>step_inBlock) next
theorem G.seq (hk:kind (sub (aq fn) p)=1) (next:G P f fn (.code (0::p):: .code (1::p)::k) ρ h R):G P f fn (.code p::k) ρ h R:=by
 refine jk (fun b a cs w=>?_) next
 simp only[List.map_cons,aF,sub];cases hc:sub (aq fn) p<;>simp[hc,kind] at hk
 · rename_i d;cases d<;>simp at hk
 · exact step_seq
theorem G.block (hk:kind (sub (aq fn) p)=2) (hid:D7 (sub (aq fn) p)=id) (next:G P f fn (.code (0::p):: .blk id::k) ρ h R):G P f fn (.code p::k) ρ h R:=by
 subst hid;refine jk (fun b a cs w=>?_) next
 simp only[List.map_cons,aF,sub];cases hc:sub (aq fn) p<;>simp[hc,kind] at hk
 · rename_i d;cases d<;>simp at hk
 · exact step_block
theorem G.enter (hk:kind (sub (aq fn) p)=3) (next:G P f fn (.code (0::p):: .loop (0::p)::k) ρ h R):G P f fn (.code p::k) ρ h R:=by
 refine jk (fun b a cs w=>?_) next
 simp only[List.map_cons,aF,sub];cases hc:sub (aq fn) p<;>simp[hc,kind] at hk
 · rename_i d;cases d<;>simp at hk
 · exact step_loop
theorem JC (next:G P f fn (.code p:: .loop p::k) ρ h R):G P f fn (.loop p::k) ρ h R :=
 jk (fun _ _ _ _=>step_inLoop) next
theorem Ly {k':List It}(hk:kind (sub (aq fn) p)=8) (he:mQ (D7 (sub (aq fn) p)) k=some k') (next:G P f fn k' ρ h R):G P f fn (.code p::k) ρ h R:=by
 refine jk (fun b a cs w=>?_) next
 simp only[List.map_cons,aF];cases hc:sub (aq fn) p<;>simp[hc,kind] at hk
 · rename_i d;cases d<;>simp at hk
 · rw[hc] at he;exact step_exit (Hl he)
theorem G.sub {ρ':Env}(hs:Sub ρ' ρ) (next:G P f fn k ρ' h R):G P f fn k ρ h R :=
 fun B a w hf ha=>next B a w (hf.sub hs) ha
theorem jm {t:Bool}(hk:kind (Lw.sub (aq fn) p)=7) (hc:aT ρ (j8 (Lw.sub (aq fn) p))=some (.bool t))
 (ht:t=true->G P f fn (.code (0::p)::k) ρ h R) (hn:t=false->G P f fn (.code (1::p)::k) ρ h R):G P f fn (.code p::k) ρ h R:=by
 intro B a w hf ha b hb hkk cs
 have hstep:Go.step P (lone (b.at a ((It.code p::k).map (aF (aq fn)))) cs w)= .next (lone (b.at a ((It.code ((if t then 0 else 1)::p)::k).map (aF (aq fn)))) cs w):=by
  simp only[List.map_cons,aF,Lw.sub];cases hcc:Lw.sub (aq fn) p<;>simp[hcc,kind] at hk
  · rename_i d;cases d<;>simp at hk
  · rw[hcc] at hc;refine(step_cond (P:=P) (b:=b) (a:=a) (k:=k.map (aF (aq fn))) (cs:=cs) (w:=w) (hf.eval hc)).trans ?_;cases t<;>rfl
 cases t with
 |true =>
  obtain⟨e,w',fr,h',h1,h2,h3,h4,h5⟩:=ht rfl B a w hf ha b hb hkk cs;exact⟨e,w',fr,h',h1,h2,.of_steps (.one hstep) h3,h4,h5⟩
 |false =>
  obtain⟨e,w',fr,h',h1,h2,h3,h4,h5⟩:=hn rfl B a w hf ha b hb hkk cs;exact⟨e,w',fr,h',h1,h2,.of_steps (.one hstep) h3,h4,h5⟩
theorem wI {φ:Prop}[Decidable φ] (hk:kind (Lw.sub (aq fn) p)=7) (hc:aT ρ (j8 (Lw.sub (aq fn) p))=some (.bool (decide φ)))
 (ht:φ->G P f fn (.code (0::p)::k) ρ h R) (hn:¬φ->G P f fn (.code (1::p)::k) ρ h R):G P f fn (.code p::k) ρ h R :=
 jm hk hc (fun e=>ht (of_decide_eq_true e)) (fun e=>hn (of_decide_eq_false e))
theorem rm (hw:∀B a w,Fits fn.ntmps ρ a->At B h w->(Lw.sub (aq fn) p).wp P (fun e a' w'=>match e with
 |.normal=>∃ρ' h',Fits fn.ntmps ρ' a'/\At B h' w'/\G P f fn k ρ' h' R
 |.panic ch=>a'.defers=[]/\∃h',At B h' w'/\R (.panicked ch) h'
 |_=>False) a w) (hfn:P.funcs[f]? =some fn):G P f fn (.code p::k) ρ h R:=by
 intro B a w hf ha b hb hkk cs;obtain⟨e,a',w',hq,harr⟩:=hw B a w hf ha b (k.map (aF (aq fn))) cs;cases e with
 |normal =>
  obtain⟨ρ',h',f',a'',hg⟩:=hq;obtain⟨e,w'',fr,h'',h1,h2,h3,h4,h5⟩:=hg B a' w' f' a'' b hb hkk cs;exact⟨e,w'',fr,h'',h1,h2,.of_steps harr h3,h4,h5⟩
 |panic ch =>
  obtain⟨hd,h',ha',hr⟩:=hq;obtain⟨todo,hs⟩:=harr;exact⟨.panicked ch,w',_,h',ha',hr,hs,hb,rfl,hd,fn,by rw[show (({ b.at a' todo with mode:=.panicking ch }:Frame)).fn=f from hb];exact hfn⟩
 |exit id=>exact hq.elim
 |goto l=>exact hq.elim
 |ret=>exact hq.elim
 |outgrown=>exact hq.elim
theorem G.eE (hfn:P.funcs[f]? =some fn) (hk:kind (Lw.sub (aq fn) p)=5)
 (next:RW P fn.ntmps (opsOf (Lw.sub (aq fn) p)) 0 ρ h (fun ρ' h'=>G P f fn k ρ' h' R) (fun ch h'=>R (.panicked ch) h')):G P f fn (.code p::k) ρ h R:=by
 refine rm (fun B a w hf ha=>?_) hfn;cases hc:Lw.sub (aq fn) p<;>simp[hc,kind] at hk;rename_i id ops d;cases d<;>simp at hk;refine wp_region ?_;rw[hc] at next
 have:=next B a w hf ha (fun e a' w'=>match e with
  |.normal=>∃ρ' h',Fits fn.ntmps ρ' a'/\At B h' w'/\G P f fn k ρ' h' R
  |.panic ch=>a'.defers=[]/\∃h',At B h' w'/\R (.panicked ch) h'
  |_=>False) (fun ρ' h' a' w' f' a'' hn=>⟨ρ',h',f',a'',hn⟩) (fun ch h' a' w' hd a'' hx=>⟨hd,h',a'',hx⟩)
 simpa [opsOf] using this
theorem fB {ops:Array Oper}{M:Nat->Prop}{keeps:Nat->Bool}{Q Q':Exit->Act->World->Prop}(hq:∀e a w,Q e a w->Q' e a w):∀(fuel:Nat) (listed:Array Bool) (a:Act) (w:World),
 vu P ops M keeps Q fuel listed a w->vu P ops M keeps Q' fuel listed a w
 | 0,_,_,_,h=>⟨h.1,hq _ _ _ h.2⟩
 |fuel+1,_,_,_,h=>⟨fun h0=>hq _ _ _ (h.1 h0),fun i hi=>by
  have h1:=h.2 i hi;unfold wpOp at *;split
  · rename_i ho;simp only[ho] at h1;exact⟨h1.1,fB hq fuel _ _ _ h1.2⟩
  · rename_i o ho;simp only[ho] at h1;split
    · rename_i hw;simp only[hw,if_true] at h1
      rcases h1 with h1|⟨h1,a₀,w₀,h2⟩
      · refine .inl ?_;unfold Oper.wp at *;generalize (execOp _ o).run P _=r at *;cases r with
        |ok n w' =>
         cases n<;>simp only[Oper.upon] at h1 ⊢
         case value v=>exact⟨h1.1,fB hq fuel _ _ _ h1.2⟩
         case skip=>exact⟨h1.1,fB hq fuel _ _ _ h1.2⟩
         case defer d=>exact⟨h1.1,fB hq fuel _ _ _ h1.2⟩
         case enter g args =>
          refine h1.mono fun e w'' hr=>?_
          cases e with
          |returned v=>exact⟨hr.1,fB hq fuel _ _ _ hr.2⟩
          |panicked c=>exact hq _ _ _ hr
          |outgrown=>obtain⟨a₁,w₁,h3⟩:=hr;exact⟨a₁,w₁,hq _ _ _ h3⟩
         case row row args=>exact h1.mono fun v w'' hr=>⟨hr.1,fB hq fuel _ _ _ hr.2⟩
        |halt x w'=>cases x<;>simp only[Oper.upon] at h1 ⊢;exact hq _ _ _ h1
      · exact .inr ⟨h1,a₀,w₀,hq _ _ _ h2⟩
    · rename_i hw;simp only[hw] at h1;exact⟨h1.1,fB hq fuel _ _ _ h1.2⟩⟩
theorem uo (M:Nat->Prop) (keeps:Nat->Bool){listed:Array Bool}{sz:Nat}(hfn:P.funcs[f]? =some fn) (hm:P.follows .mixedOrders=true) (hk:kind (Lw.sub (aq fn) p)=6)
 (hsz:(opsOf (Lw.sub (aq fn) p)).size=sz) (hl:Array.replicate sz false=listed)
 (next:RD P fn.ntmps (opsOf (Lw.sub (aq fn) p)) M keeps sz listed ρ h (fun ρ' h'=>G P f fn k ρ' h' R) (fun ch h'=>R (.panicked ch) h')):G P f fn (.code p::k) ρ h R:=by
 subst hl;subst hsz;refine rm (fun B a w hf ha=>?_) hfn;cases hc:Lw.sub (aq fn) p<;>simp[hc,kind] at hk;rename_i id ops d;cases d with
 |false=>simp at hk
 |true =>
  refine wp_region_any hm ?_;rw[hc] at next
  exact mB _ _ _ _ (next B a { w with drawn:=w.drawn+1 } hf ha.drew)
def eT (ρ:Env):List ResultVar->Option (List Value)
 | []=>some []
 |.tmp t::r=>match ρ.at t,eT ρ r with|some v,some vs=>some (v::vs)|_,_=>none
 |.cell _ _::_=>none
def packed:List Value->Value
 | [v]=>v
 |vs=>.tuple vs.toArray
theorem AJ (g:ResultVar->Sem Value) (hg:∀t v,ρ.at t=some v->∀w,(g (.tmp t)).run P w= .ok v w) (w:World):∀(l:List ResultVar) (vs:List Value),eT ρ l=some vs->(l.mapM g).run P w= .ok vs w
 | [],vs,h=>by simp[eT] at h;subst h;rfl
 |.tmp t::r,vs,h=>by
  simp only[eT] at h;cases h1:ρ.at t with
  |none=>simp[h1] at h
  |some v =>
   cases h2:eT ρ r with
   |none=>simp[h1,h2] at h
   |some us =>
    simp only[h1,h2,Option.some.injEq] at h;subst h;have:=AJ g hg w r us h2;simp only[List.mapM_cons,Sem.run_bind,Sem.run_pure,Result.andThen_ok,this,hg t v h1]
 |.cell _ _::_,vs,h=>by simp[eT] at h
theorem lI {n:Nat}{a:Act}(hf:Fits n ρ a) (w:World) (hr:eT ρ fn.results.toList=some vs):(results fn a.tmps).run P w= .ok (packed vs) w:=by
 unfold results;rw[Sem.run_bind,Array.mapM_eq_mapM_toList,Sem.run_map,AJ (ρ:=ρ) _ (fun t v hv w=>by simp[hf.ok t v hv]) w _ vs hr];simp only[Result.andThen_ok,Sem.run_pure]
 congr 1
 match vs with
 | []=>rfl
 | [v]=>rfl
 |_::_::_=>rfl
theorem G.ret (hfn:P.funcs[f]? =some fn) (hk:kind (Lw.sub (aq fn) p)=4) (hr:eT ρ fn.results.toList=some vs) (hR:R (.returned (packed vs)) h):G P f fn (.code p::k) ρ h R:=by
 intro B a w hf ha b hb hkk cs
 have hstep:Go.step P (lone (b.at a ((It.code p::k).map (aF (aq fn)))) cs w)= .next (lone { b.at a ((It.code p::k).map (aF (aq fn))) with mode:=.returning } cs w):=by
  simp only[List.map_cons,aF];cases hc:Lw.sub (aq fn) p<;>simp[hc,kind] at hk
  · rename_i d;cases d<;>simp at hk
  · exact step_ret
 exact⟨.returned (packed vs),w,_,h,ha,hR,.one hstep,hb,rfl,hf.nd,hkk,fn,by rw[show (({ b.at a ((It.code p::k).map (aF (aq fn))) with mode:=.returning }:Frame)).fn=f from hb];exact hfn,lI hf w hr⟩
theorem G.Pd (hfn:P.funcs[f]? =some fn) (hr:eT ρ fn.results.toList=some vs) (hR:R (.returned (packed vs)) h):G P f fn [] ρ h R:=by
 intro B a w hf ha b hb hkk cs;exact⟨.returned (packed vs),w,_,h,ha,hR,.one step_end,hb,rfl,hf.nd,hkk,fn,by rw[show (({ b.at a [] with mode:=.returning }:Frame)).fn=f from hb];exact hfn,lI hf w hr⟩
theorem nC {σ:Type}(E:σ->Env) (I:σ->ai->Prop) (μ:σ->Nat) (s0:σ) (hk:kind (Lw.sub (aq fn) p)=3) (hs:Sub (E s0) ρ) (h0:I s0 h)
 (round:∀s h,I s h->(∀s' h' ρ',Sub (E s') ρ'->I s' h'->μ s' < μ s->G P f fn (.loop (0::p)::k) ρ' h' R)->G P f fn (.code (0::p):: .loop (0::p)::k) (E s) h R):G P f fn (.code p::k) ρ h R:=by
 have key:∀n s h,μ s=n->I s h->G P f fn (.code (0::p):: .loop (0::p)::k) (E s) h R:=by
  intro n
  induction n using Nat.strongRecOn with
  |_ n ih =>
   intro s h hn hI;refine round s h hI fun s' h' ρ' hs' hI' hlt=>JC (G.sub hs' (ih (μ s') (by omega) s' h' rfl hI'))
 exact G.enter hk (G.sub hs (key _ s0 h rfl h0))
def kE:Nat->List Value->Env
 |_,[]=>[]
 |i,v::r=>(i,v)::kE (i+1) r
theorem pG:∀(vs:List Value) (i j:Nat) (v:Value),(kE i vs).at j=some v->i<=j/\vs[j-i]? =some v
 | [],i,j,v,h=>by simp[kE,Env.at] at h
 |u::r,i,j,v,h=>by
  simp only[kE,Env.dY] at h;split at h
  · rename_i e;subst e;cases h;simp
  · rename_i e;obtain⟨h1,h2⟩:=pG r (i+1) j v h;refine⟨by omega,?_⟩;rw[show j-i=(j-(i+1))+1 from by omega];simpa using h2
theorem aj.of (hfn:P.funcs[f]? =some fn) (hb:fn.body.isSome=true) (hn:Nat.ble vs.length fn.ntmps=true)
 (next:G P f fn [.code []] (kE 0 vs) h R):aj P f vs.toArray h R:=by
 intro B w ha cs;obtain⟨c,hc⟩:=Option.isSome_iff_exists.1 hb;have hle:vs.length<=fn.ntmps:=Nat.le_of_ble_eq_true hn
 let b:Frame:= { (default:Frame) with fn:=f,kind:=.normal }
 have henter:Frame.enter P f vs.toArray .normal =
  b.at { tmps:=vs.toArray++Array.replicate (fn.ntmps-vs.toArray.size) undef,defers:=[] } ([It.code []].map (aF (aq fn))):=by
  simp[Frame.enter,Frame.at,hfn,hc,b,aF,Lw.sub,aq]
 have hfit:Fits fn.ntmps (kE 0 vs) { tmps:=vs.toArray++Array.replicate (fn.ntmps-vs.toArray.size) undef,defers:=[] }:=by
  refine⟨by simp;omega,fun i v hi=>?_,rfl⟩;obtain⟨_,h2⟩:=pG vs 0 i v hi
  have hlt:i<vs.length:=by
   rcases Nat.lt_or_ge i vs.length with hl|hl
   · exact hl
   · simp[List.getElem?_eq_none hl] at h2
  rw[Array.getElem?_append_left (by simpa using hlt)];simpa using h2
 obtain⟨e,w',fr,h',h1,h2,h3,h4,h5⟩:=next B _ w hfit ha b rfl rfl cs
 rw[henter];exact⟨e,w',fr,⟨h',h1,h2⟩,h3,h4,h5⟩
theorem G.MN (ρ1:Env) (hfn:P.funcs[f]? =some fn) (hk:kind (Lw.sub (aq fn) p)=5)
 (eE:RW P fn.ntmps (opsOf (Lw.sub (aq fn) p)) 0 ρ h (fun ρ' h'=>h'=h/\Sub ρ1 ρ') (fun _ _=>False))
 (next:G P f fn k ρ1 h R):G P f fn (.code p::k) ρ h R:=by
 refine G.eE hfn hk ?_;intro B a w hf ha Q hN hX;exact eE B a w hf ha Q (fun ρ' h' a' w' f' a'' ⟨hh,hs⟩=>hN ρ' h' a' w' f' a'' (by subst hh;exact G.sub hs next)) (fun _ _ _ _ _ _ hx=>hx.elim)
theorem G.Gn (new keep:Env) (_:Sub keep ρ) (hfn:P.funcs[f]? =some fn) (hk:kind (Lw.sub (aq fn) p)=5)
 (eE:RW P fn.ntmps (opsOf (Lw.sub (aq fn) p)) 0 ρ h (fun ρ' h'=>h'=h/\Sub (new++keep) ρ') (fun _ _=>False))
 (next:G P f fn k (new++keep) h R):G P f fn (.code p::k) ρ h R:=G.MN _ hfn hk eE next
end
section
variable {P:Program}{f:FuncId}{fn:Func}{k:List It}{ρ:Env}{h:ai}{R:Ending->ai->Prop}{p:List Nat}
theorem G.D3 {σ:Type}(E:σ->ai->Prop) (new:σ->Env) (keep:Env) (_:Sub keep ρ) (M:Nat->Prop) (keeps:Nat->Bool){listed:Array Bool}{sz:Nat}(hfn:P.funcs[f]? =some fn) (hm:P.follows .mixedOrders=true) (hk:kind (Lw.sub (aq fn) p)=6)
 (hsz:(opsOf (Lw.sub (aq fn) p)).size=sz) (hl:Array.replicate sz false=listed)
 (eE:RD P fn.ntmps (opsOf (Lw.sub (aq fn) p)) M keeps sz listed ρ h (fun ρ' h'=>∃s,E s h'/\Sub (new s++keep) ρ') (fun ch h'=>R (.panicked ch) h'))
 (next:∀s h',E s h'->G P f fn k (new s++keep) h' R):G P f fn (.code p::k) ρ h R:=by
 refine uo M keeps hfn hm hk hsz hl ?_;intro B a w hf ha
 exact fB (fun e a' w' hq=>by
  cases e with
  |normal=>obtain⟨ρ',h',f',a'',s,hE,hs⟩:=hq;exact⟨ρ',h',f',a'',G.sub hs (next s h' hE)⟩
  |panic ch=>exact hq
  |_=>exact hq.elim) _ _ _ _ (eE B a w hf ha)
theorem G.Ce {σ:Type}(E:σ->ai->Prop) (new:σ->Env) (keep:Env) (_:Sub keep ρ) (hfn:P.funcs[f]? =some fn) (hk:kind (Lw.sub (aq fn) p)=5)
 (eE:RW P fn.ntmps (opsOf (Lw.sub (aq fn) p)) 0 ρ h (fun ρ' h'=>∃s,E s h'/\Sub (new s++keep) ρ') (fun ch h'=>R (.panicked ch) h'))
 (next:∀s h',E s h'->G P f fn k (new s++keep) h' R):G P f fn (.code p::k) ρ h R:=by
 refine G.eE hfn hk ?_;intro B a w hf ha Q hN hX;exact eE B a w hf ha Q (fun ρ' h' a' w' f' a'' ⟨s,hE,hs⟩=>hN ρ' h' a' w' f' a'' (G.sub hs (next s h' hE))) hX
end
theorem aj.DM {v:Value}(k:∀w,Calls P f args w fun e w'=>e= .returned v/\w'=w):aj P f args h (aN fun r h'=>r=v/\h'=h) :=
 fun _ w ha=>(k w).mono fun _ _ ⟨he,hw⟩=>⟨h,by rw[hw];exact ha,v,he,rfl,rfl⟩
theorem aj.jF {Φ:Value->ai->Prop}{X:List PanicEntry->ai->Prop}(k:aj P f args h (aN Φ)) :
 aj P f args h (fun e h'=>match e with|.returned v=>Φ v h'|.panicked c=>X c h'|.outgrown=>False) :=
 k.mono fun _ _ ⟨_,he,hp⟩=>by subst he;exact hp
end
end Go.Lw
