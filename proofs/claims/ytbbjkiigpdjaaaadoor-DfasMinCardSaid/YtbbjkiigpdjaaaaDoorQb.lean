/- What the proof of the statement leans on (part 2). -/
import Derived.Scope
import Derived.Test.YtbbjkiigpdjaaaaDoorQa

namespace Go.Lw
section
variable {id:Nat}{P:Program}{f:FuncId}{args:Array Value}{h:af}{vs:List Value}
def child:Nat->Code->Code
 | 0,.seq a _=>a
 |_,.seq _ b=>b
 | 0,.cond _ a _=>a
 |_,.cond _ _ b=>b
 |_,.block _ b=>b
 |_,.loop b=>b
 |_,.scope b=>b
 |_,c=>c
def sub (c:Code):List Nat->Code
 | []=>c
 |d::p=>child d (sub c p)
def ai (fn:Func):Code:=fn.body.getD .skip
inductive It where
 |code (p:List Nat)
 |blk (id:Nat)
 |loop (p:List Nat)
 |scp (p:List Nat)
def ay (c:Code):It->Item
 |.code p=>.code (sub c p)
 |.blk id=>.inBlock id
 |.loop p=>.inLoop (sub c p)
 |.scp p=>.inScope (sub c p)
def opsOf:Code->Array Oper
 |.region _ ops _=>ops
 |_=> #[]
def kind:Code->Nat
 |.skip=>0|.seq .. =>1|.block .. =>2|.loop .. =>3|.ret=>4|.region _ _ d=>bif d then 6 else 5|.cond .. =>7|.exit .. =>8|.scope .. =>10|.label .. =>11|_=>9
def CV:Code->Nat
 |.block id _=>id|.exit id=>id|_=>0
def kL:Code->Operand
 |.cond c _ _=>c|_=>.tmp 0
def lY (id:Nat):List It->Option (List It)
 |.blk id'::k=>if Nat.beq id' id then some k else lY id k
 |_::k=>lY id k
 | []=>none
theorem Bi {c:Code}{k k':List It}(h:lY id k=some k'):exitTo id (k.map (ay c))=some (k'.map (ay c)):=by
 induction k with
 |nil=>simp[lY] at h
 |cons x r ih =>
  cases x with
  |code p=>simp only[lY] at h;simpa [exitTo,ay] using ih h
  |loop p=>simp only[lY] at h;simpa [exitTo,ay] using ih h
  |scp p=>simp only[lY] at h;simpa [exitTo,ay] using ih h
  |blk j =>
   simp only[lY] at h
   by_cases e:j=id
   · subst e;simp at h;subst h;simp[exitTo,ay]
   · have hb:Nat.beq j id=false:=by
      cases hb:Nat.beq j id
      · rfl
      · exact absurd (Nat.eq_of_beq_eq_true hb) e
     rw[hb] at h;have hb':(j ==id)=false:=by simpa using e
     simpa [exitTo,ay,hb'] using ih (by simpa using h)
def lift (B:World) (R:Ending->af->Prop) (e:Ending) (w':World):Prop:=∃h',At B h' w'/\R e h'
def an (P:Program) (f:FuncId) (args:Array Value) (h:af) (R:Ending->af->Prop):Prop :=
 ∀B w,At B h w->Calls P f args w (lift B R)
def b8 (Φ:Value->af->Prop) (e:Ending) (h:af):Prop:=∃v,e= .returned v/\Φ v h
theorem an.mono {P:Program}{f:FuncId}{args:Array Value}{h:af}{R R':Ending->af->Prop}(k:an P f args h R) (hr:∀e h',R e h'->R' e h'):an P f args h R' :=
 fun B w ha=>(k B w ha).mono fun _ _ ⟨h',a',r⟩=>⟨h',a',hr _ _ r⟩
theorem an.ret {Φ Φ':Value->af->Prop}(k:an P f args h (b8 Φ)) (hr:∀v h',Φ v h'->Φ' v h'):an P f args h (b8 Φ') :=
 k.mono fun _ _ ⟨v,e,p⟩=>⟨v,e,hr _ _ p⟩
def G (P:Program) (f:FuncId) (fn:Func) (k:List It) (ρ:Env) (h:af) (R:Ending->af->Prop):Prop :=
 ∀B a w,Fits fn.ntmps ρ a->At B h w->∀b:Frame,b.fn=f->b.kind= .normal->∀cs,∃e w' fr h',At B h' w'/\R e h' /\
  Comes P (lone (b.at a (k.map (ay (ai fn)))) cs w) (lone fr cs w') e/\fr.fn=f/\fr.leaving P w' e
section
variable {P:Program}{f:FuncId}{fn:Func}{k:List It}{ρ:Env}{h:af}{R:Ending->af->Prop}{p:List Nat}
theorem G.step {k':List It}(hs:∀(b:Frame) (a:Act) cs w,Go.step P (lone (b.at a (k.map (ay (ai fn)))) cs w)= .next (lone (b.at a (k'.map (ay (ai fn)))) cs w))
 (next:G P f fn k' ρ h R):G P f fn k ρ h R:=by
 intro B a w hf ha b hb hk cs;obtain⟨e,w',fr,h',h1,h2,h3,h4,h5⟩:=next B a w hf ha b hb hk cs
 exact⟨e,w',fr,h',h1,h2,.of_steps (.one (hs b a cs w)) h3,h4,h5⟩
theorem kZ (hk:kind (sub (ai fn) p)=0) (next:G P f fn k ρ h R):G P f fn (.code p::k) ρ h R:=by
 refine G.step (fun b a cs w=>?_) next
 simp only[List.map_cons,ay];cases hc:sub (ai fn) p<;>simp[hc,kind] at hk
 · exact step_skip
 · rename_i d;cases d<;>simp at hk
theorem CB (hk:kind (sub (ai fn) p)=10) (next:G P f fn (.code (0::p):: .scp (0::p)::k) ρ h R):G P f fn (.code p::k) ρ h R:=by
 refine G.step (fun b a cs w=>?_) next
 simp only[List.map_cons,ay,sub];cases hc:sub (ai fn) p<;>simp[hc,kind] at hk
 · rename_i d;cases d<;>simp at hk
 · exact step_scope
theorem G.C9 {q:List Nat}(next:G P f fn k ρ h R):G P f fn (.scp q::k) ρ h R :=
 G.step (fun _ _ _ _=>step_inScope) next
theorem CC (hk:kind (sub (ai fn) p)=11) (next:G P f fn k ρ h R):G P f fn (.code p::k) ρ h R:=by
 refine G.step (fun b a cs w=>?_) next
 simp only[List.map_cons,ay];cases hc:sub (ai fn) p<;>simp[hc,kind] at hk
 · rename_i d;cases d<;>simp at hk
 · exact step_label
theorem G.oK (next:G P f fn k ρ h R):G P f fn (.blk id::k) ρ h R :=
 G.step (fun _ _ _ _=>step_inBlock) next
theorem hU (hk:kind (sub (ai fn) p)=1) (next:G P f fn (.code (0::p):: .code (1::p)::k) ρ h R):G P f fn (.code p::k) ρ h R:=by
 refine G.step (fun b a cs w=>?_) next
 simp only[List.map_cons,ay,sub];cases hc:sub (ai fn) p<;>simp[hc,kind] at hk
 · rename_i d;cases d<;>simp at hk
 · exact step_seq
theorem G.block (hk:kind (sub (ai fn) p)=2) (hid:CV (sub (ai fn) p)=id) (next:G P f fn (.code (0::p):: .blk id::k) ρ h R):G P f fn (.code p::k) ρ h R:=by
 subst hid;refine G.step (fun b a cs w=>?_) next
 simp only[List.map_cons,ay,sub];cases hc:sub (ai fn) p<;>simp[hc,kind] at hk
 · rename_i d;cases d<;>simp at hk
 · exact step_block
theorem G.enter (hk:kind (sub (ai fn) p)=3) (next:G P f fn (.code (0::p):: .loop (0::p)::k) ρ h R):G P f fn (.code p::k) ρ h R:=by
 refine G.step (fun b a cs w=>?_) next
 simp only[List.map_cons,ay,sub];cases hc:sub (ai fn) p<;>simp[hc,kind] at hk
 · rename_i d;cases d<;>simp at hk
 · exact step_loop
theorem CD (next:G P f fn (.code p:: .loop p::k) ρ h R):G P f fn (.loop p::k) ρ h R :=
 G.step (fun _ _ _ _=>step_inLoop) next
theorem DI {k':List It}(hk:kind (sub (ai fn) p)=8) (he:lY (CV (sub (ai fn) p)) k=some k') (next:G P f fn k' ρ h R):G P f fn (.code p::k) ρ h R:=by
 refine G.step (fun b a cs w=>?_) next
 simp only[List.map_cons,ay];cases hc:sub (ai fn) p<;>simp[hc,kind] at hk
 · rename_i d;cases d<;>simp at hk
 · rw[hc] at he;exact step_exit (Bi he)
theorem G.sub {ρ':Env}(hs:Sub ρ' ρ) (next:G P f fn k ρ' h R):G P f fn k ρ h R :=
 fun B a w hf ha=>next B a w (hf.sub hs) ha
theorem u9 {t:Bool}(hk:kind (Lw.sub (ai fn) p)=7) (hc:aO ρ (kL (Lw.sub (ai fn) p))=some (.bool t))
 (ht:t=true->G P f fn (.code (0::p)::k) ρ h R) (hn:t=false->G P f fn (.code (1::p)::k) ρ h R):G P f fn (.code p::k) ρ h R:=by
 intro B a w hf ha b hb hkk cs
 have hstep:Go.step P (lone (b.at a ((It.code p::k).map (ay (ai fn)))) cs w)= .next (lone (b.at a ((It.code ((if t then 0 else 1)::p)::k).map (ay (ai fn)))) cs w):=by
  simp only[List.map_cons,ay,Lw.sub];cases hcc:Lw.sub (ai fn) p<;>simp[hcc,kind] at hk
  · rename_i d;cases d<;>simp at hk
  · rw[hcc] at hc;refine(step_cond (P:=P) (b:=b) (a:=a) (k:=k.map (ay (ai fn))) (cs:=cs) (w:=w) (hf.eval hc)).trans ?_;cases t<;>rfl
 cases t with
 |true =>
  obtain⟨e,w',fr,h',h1,h2,h3,h4,h5⟩:=ht rfl B a w hf ha b hb hkk cs;exact⟨e,w',fr,h',h1,h2,.of_steps (.one hstep) h3,h4,h5⟩
 |false =>
  obtain⟨e,w',fr,h',h1,h2,h3,h4,h5⟩:=hn rfl B a w hf ha b hb hkk cs;exact⟨e,w',fr,h',h1,h2,.of_steps (.one hstep) h3,h4,h5⟩
theorem sM {φ:Prop}[Decidable φ] (hk:kind (Lw.sub (ai fn) p)=7) (hc:aO ρ (kL (Lw.sub (ai fn) p))=some (.bool (decide φ)))
 (ht:φ->G P f fn (.code (0::p)::k) ρ h R) (hn:¬φ->G P f fn (.code (1::p)::k) ρ h R):G P f fn (.code p::k) ρ h R :=
 u9 hk hc (fun e=>ht (of_decide_eq_true e)) (fun e=>hn (of_decide_eq_false e))
theorem qo (hw:∀B a w,Fits fn.ntmps ρ a->At B h w->(Lw.sub (ai fn) p).wp P (fun e a' w'=>match e with
 |.normal=>∃ρ' h',Fits fn.ntmps ρ' a'/\At B h' w'/\G P f fn k ρ' h' R
 |.panic ch=>a'.defers=[]/\∃h',At B h' w'/\R (.panicked ch) h'
 |_=>False) a w) (hfn:P.funcs[f]? =some fn):G P f fn (.code p::k) ρ h R:=by
 intro B a w hf ha b hb hkk cs;obtain⟨e,a',w',hq,harr⟩:=hw B a w hf ha b (k.map (ay (ai fn))) cs;cases e with
 |normal =>
  obtain⟨ρ',h',f',a'',hg⟩:=hq;obtain⟨e,w'',fr,h'',h1,h2,h3,h4,h5⟩:=hg B a' w' f' a'' b hb hkk cs;exact⟨e,w'',fr,h'',h1,h2,.of_steps harr h3,h4,h5⟩
 |panic ch =>
  obtain⟨hd,h',ha',hr⟩:=hq;obtain⟨todo,hs⟩:=harr;exact⟨.panicked ch,w',_,h',ha',hr,hs,hb,rfl,hd,fn,by rw[show (({ b.at a' todo with mode:=.panicking ch }:Frame)).fn=f from hb];exact hfn⟩
 |exit id=>exact hq.elim
 |goto l=>exact hq.elim
 |ret=>exact hq.elim
 |outgrown=>exact hq.elim
theorem G.oA (hfn:P.funcs[f]? =some fn) (hk:kind (Lw.sub (ai fn) p)=5)
 (next:RW P fn.ntmps (opsOf (Lw.sub (ai fn) p)) 0 ρ h (fun ρ' h'=>G P f fn k ρ' h' R) (fun ch h'=>R (.panicked ch) h')):G P f fn (.code p::k) ρ h R:=by
 refine qo (fun B a w hf ha=>?_) hfn;cases hc:Lw.sub (ai fn) p<;>simp[hc,kind] at hk;rename_i id ops d;cases d<;>simp at hk;refine wp_region ?_;rw[hc] at next
 have:=next B a w hf ha (fun e a' w'=>match e with
  |.normal=>∃ρ' h',Fits fn.ntmps ρ' a'/\At B h' w'/\G P f fn k ρ' h' R
  |.panic ch=>a'.defers=[]/\∃h',At B h' w'/\R (.panicked ch) h'
  |_=>False) (fun ρ' h' a' w' f' a'' hn=>⟨ρ',h',f',a'',hn⟩) (fun ch h' a' w' hd a'' hx=>⟨hd,h',a'',hx⟩)
 simpa [opsOf] using this
theorem BI (M:Nat->Prop) (keeps:Nat->Bool){listed:Array Bool}{sz:Nat}(hfn:P.funcs[f]? =some fn) (hm:P.follows .mixedOrders=true) (hk:kind (Lw.sub (ai fn) p)=6)
 (hsz:(opsOf (Lw.sub (ai fn) p)).size=sz) (hl:Array.replicate sz false=listed)
 (next:RD P fn.ntmps (opsOf (Lw.sub (ai fn) p)) M keeps sz listed ρ h (fun ρ' h'=>G P f fn k ρ' h' R) (fun ch h'=>R (.panicked ch) h')):G P f fn (.code p::k) ρ h R:=by
 subst hl;subst hsz;refine qo (fun B a w hf ha=>?_) hfn;cases hc:Lw.sub (ai fn) p<;>simp[hc,kind] at hk;rename_i id ops d;cases d with
 |false=>simp at hk
 |true =>
  refine wp_region_any hm ?_;rw[hc] at next
  exact lN _ _ _ _ (next B a { w with drawn:=w.drawn+1 } hf ha.drew)
def dS (ρ:Env):List ResultVar->Option (List Value)
 | []=>some []
 |.tmp t::r=>match ρ.at t,dS ρ r with|some v,some vs=>some (v::vs)|_,_=>none
 |.cell _ _::_=>none
def packed:List Value->Value
 | [v]=>v
 |vs=>.tuple vs.toArray
theorem vX (g:ResultVar->Sem Value) (hg:∀t v,ρ.at t=some v->∀w,(g (.tmp t)).run P w= .ok v w) (w:World):∀(l:List ResultVar) (vs:List Value),dS ρ l=some vs->(l.mapM g).run P w= .ok vs w
 | [],vs,h=>by simp[dS] at h;subst h;rfl
 |.tmp t::r,vs,h=>by
  simp only[dS] at h;cases h1:ρ.at t with
  |none=>simp[h1] at h
  |some v =>
   cases h2:dS ρ r with
   |none=>simp[h1,h2] at h
   |some us =>
    simp only[h1,h2,Option.some.injEq] at h;subst h;have:=vX g hg w r us h2;simp only[List.mapM_cons,Sem.run_bind,Sem.run_pure,Result.andThen_ok,this,hg t v h1]
 |.cell _ _::_,vs,h=>by simp[dS] at h
theorem kq {n:Nat}{a:Act}(hf:Fits n ρ a) (w:World) (hr:dS ρ fn.results.toList=some vs):(results fn a.tmps).run P w= .ok (packed vs) w:=by
 unfold results;rw[Sem.run_bind,Array.mapM_eq_mapM_toList,Sem.run_map,vX (ρ:=ρ) _ (fun t v hv w=>by simp[hf.ok t v hv]) w _ vs hr];simp only[Result.andThen_ok,Sem.run_pure]
 congr 1
 match vs with
 | []=>rfl
 | [v]=>rfl
 |_::_::_=>rfl
theorem y2 (hfn:P.funcs[f]? =some fn) (hk:kind (Lw.sub (ai fn) p)=4) (hr:dS ρ fn.results.toList=some vs) (hR:R (.returned (packed vs)) h):G P f fn (.code p::k) ρ h R:=by
 intro B a w hf ha b hb hkk cs
 have hstep:Go.step P (lone (b.at a ((It.code p::k).map (ay (ai fn)))) cs w)= .next (lone { b.at a ((It.code p::k).map (ay (ai fn))) with mode:=.returning } cs w):=by
  simp only[List.map_cons,ay];cases hc:Lw.sub (ai fn) p<;>simp[hc,kind] at hk
  · rename_i d;cases d<;>simp at hk
  · exact step_ret
 exact⟨.returned (packed vs),w,_,h,ha,hR,.one hstep,hb,rfl,hf.nd,hkk,fn,by rw[show (({ b.at a ((It.code p::k).map (ay (ai fn))) with mode:=.returning }:Frame)).fn=f from hb];exact hfn,kq hf w hr⟩
theorem G.Ft (hfn:P.funcs[f]? =some fn) (hr:dS ρ fn.results.toList=some vs) (hR:R (.returned (packed vs)) h):G P f fn [] ρ h R:=by
 intro B a w hf ha b hb hkk cs;exact⟨.returned (packed vs),w,_,h,ha,hR,.one step_end,hb,rfl,hf.nd,hkk,fn,by rw[show (({ b.at a [] with mode:=.returning }:Frame)).fn=f from hb];exact hfn,kq hf w hr⟩
theorem G.loop {σ:Type}(E:σ->Env) (I:σ->af->Prop) (μ:σ->Nat) (s0:σ) (hk:kind (Lw.sub (ai fn) p)=3) (hs:Sub (E s0) ρ) (h0:I s0 h)
 (round:∀s h,I s h->(∀s' h' ρ',Sub (E s') ρ'->I s' h'->μ s' < μ s->G P f fn (.loop (0::p)::k) ρ' h' R)->G P f fn (.code (0::p):: .loop (0::p)::k) (E s) h R):G P f fn (.code p::k) ρ h R:=by
 have key:∀n s h,μ s=n->I s h->G P f fn (.code (0::p):: .loop (0::p)::k) (E s) h R:=by
  intro n
  induction n using Nat.strongRecOn with
  |_ n ih =>
   intro s h hn hI;refine round s h hI fun s' h' ρ' hs' hI' hlt=>CD (G.sub hs' (ih (μ s') (by omega) s' h' rfl hI'))
 exact G.enter hk (G.sub hs (key _ s0 h rfl h0))
def jE:Nat->List Value->Env
 |_,[]=>[]
 |i,v::r=>(i,v)::jE (i+1) r
theorem oN:∀(vs:List Value) (i j:Nat) (v:Value),(jE i vs).at j=some v->i<=j/\vs[j-i]? =some v
 | [],i,j,v,h=>by simp[jE,Env.at] at h
 |u::r,i,j,v,h=>by
  simp only[jE,Env.dU] at h;split at h
  · rename_i e;subst e;cases h;simp
  · rename_i e;obtain⟨h1,h2⟩:=oN r (i+1) j v h;refine⟨by omega,?_⟩;rw[show j-i=(j-(i+1))+1 from by omega];simpa using h2
theorem an.of (hfn:P.funcs[f]? =some fn) (hb:fn.body.isSome=true) (hn:Nat.ble vs.length fn.ntmps=true)
 (next:G P f fn [.code []] (jE 0 vs) h R):an P f vs.toArray h R:=by
 intro B w ha cs;obtain⟨c,hc⟩:=Option.isSome_iff_exists.1 hb;have hle:vs.length<=fn.ntmps:=Nat.le_of_ble_eq_true hn
 let b:Frame:= { (default:Frame) with fn:=f,kind:=.normal }
 have henter:Frame.enter P f vs.toArray .normal =
  b.at { tmps:=vs.toArray++Array.replicate (fn.ntmps-vs.toArray.size) undef,defers:=[] } ([It.code []].map (ay (ai fn))):=by
  simp[Frame.enter,Frame.at,hfn,hc,b,ay,Lw.sub,ai]
 have hfit:Fits fn.ntmps (jE 0 vs) { tmps:=vs.toArray++Array.replicate (fn.ntmps-vs.toArray.size) undef,defers:=[] }:=by
  refine⟨by simp;omega,fun i v hi=>?_,rfl⟩;obtain⟨_,h2⟩:=oN vs 0 i v hi
  have hlt:i<vs.length:=by
   rcases Nat.lt_or_ge i vs.length with hl|hl
   · exact hl
   · simp[List.getElem?_eq_none hl] at h2
  rw[Array.getElem?_append_left (by simpa using hlt)];simpa using h2
 obtain⟨e,w',fr,h',h1,h2,h3,h4,h5⟩:=next B _ w hfit ha b rfl rfl cs
 rw[henter];exact⟨e,w',fr,⟨h',h1,h2⟩,h3,h4,h5⟩
theorem G.Ed (ρ1:Env) (hfn:P.funcs[f]? =some fn) (hk:kind (Lw.sub (ai fn) p)=5)
 (oA:RW P fn.ntmps (opsOf (Lw.sub (ai fn) p)) 0 ρ h (fun ρ' h'=>h'=h/\Sub ρ1 ρ') (fun _ _=>False))
 (next:G P f fn k ρ1 h R):G P f fn (.code p::k) ρ h R:=by
 refine G.oA hfn hk ?_;intro B a w hf ha Q hN hX;exact oA B a w hf ha Q (fun ρ' h' a' w' f' a'' ⟨hh,hs⟩=>hN ρ' h' a' w' f' a'' (by subst hh;exact G.sub hs next)) (fun _ _ _ _ _ _ hx=>hx.elim)
theorem G.AJ (new keep:Env) (_:Sub keep ρ) (hfn:P.funcs[f]? =some fn) (hk:kind (Lw.sub (ai fn) p)=5)
 (oA:RW P fn.ntmps (opsOf (Lw.sub (ai fn) p)) 0 ρ h (fun ρ' h'=>h'=h/\Sub (new++keep) ρ') (fun _ _=>False))
 (next:G P f fn k (new++keep) h R):G P f fn (.code p::k) ρ h R:=G.Ed _ hfn hk oA next
end
section
variable {P:Program}{f:FuncId}{fn:Func}{k:List It}{ρ:Env}{h:af}{R:Ending->af->Prop}{p:List Nat}
theorem G.Db {σ:Type}(E:σ->af->Prop) (new:σ->Env) (keep:Env) (_:Sub keep ρ) (hfn:P.funcs[f]? =some fn) (hk:kind (Lw.sub (ai fn) p)=5)
 (oA:RW P fn.ntmps (opsOf (Lw.sub (ai fn) p)) 0 ρ h (fun ρ' h'=>∃s,E s h'/\Sub (new s++keep) ρ') (fun ch h'=>R (.panicked ch) h'))
 (next:∀s h',E s h'->G P f fn k (new s++keep) h' R):G P f fn (.code p::k) ρ h R:=by
 refine G.oA hfn hk ?_;intro B a w hf ha Q hN hX;exact oA B a w hf ha Q (fun ρ' h' a' w' f' a'' ⟨s,hE,hs⟩=>hN ρ' h' a' w' f' a'' (G.sub hs (next s h' hE))) hX
end
theorem an.B4 {v:Value}(k:∀w,Calls P f args w fun e w'=>e= .returned v/\w'=w):an P f args h (b8 fun r h'=>r=v/\h'=h) :=
 fun _ w ha=>(k w).mono fun _ _ ⟨he,hw⟩=>⟨h,by rw[hw];exact ha,v,he,rfl,rfl⟩
theorem an.BN {Φ:Value->af->Prop}{X:List PanicEntry->af->Prop}(k:an P f args h (b8 Φ)) :
 an P f args h (fun e h'=>match e with|.returned v=>Φ v h'|.panicked c=>X c h'|.outgrown=>False) :=
 k.mono fun _ _ ⟨_,he,hp⟩=>by subst he;exact hp
end
end Go.Lw
