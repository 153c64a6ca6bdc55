/- What the proof of the statement leans on (part 13). -/
import Derived.Recover
import Derived.Test.YtfegacfjgjaghaaGreatDoorQl

namespace Go.Lw
open Go.RowKit
section
variable {D:List Deferred}{n d:Nat}{ρ:Env}{a:Act}{P:Program}{o:Oper}{Φ:Value→Heap→Prop}{w:World}{v:Value}{g:FuncId}{fn:Func}
structure FitD (D:List Deferred) (n:Nat) (ρ:Env) (a:Act):Prop where
 size:a.tmps.size=n
 ok:∀i v,ρ.at i=some v→a.tmps[i]? =some v
 nd:a.defers=D
theorem FitD.zero (f:FitD D n ρ a):Fits n ρ { a with defers:=[] }:=⟨f.size,f.ok,rfl⟩
theorem FitD.put {D:List Deferred}{n:Nat}{ρ:Env}{a:Act}(f:FitD D n ρ a){dst:Option Nat}(hd:dstOk n dst=true) (v:Value):FitD D n (ρ.put dst v) (a.put dst v):=by
 have h:=f.zero.put hd v;cases dst with
 |none=>exact⟨h.size,h.ok,f.nd⟩
 |some d=>exact⟨h.size,h.ok,f.nd⟩
theorem FitD.sub {ρ':Env}(f:FitD D n ρ a) (h:Sub ρ' ρ):FitD D n ρ' a:=⟨f.size,fun i v hi=>f.ok i v (h.at i v hi),f.nd⟩
theorem OpX.atD {h:Heap}{X:List PanicEntry→Heap→Prop}(k:OpX P o ρ h Φ X){B:World}(hf:FitD D n ρ a) (ha:At B h w)
 {next:Act→World→Prop}{Q:Exit→Act→World→Prop}(hn:∀v h' w',At B h' w'→Φ v h'→next (a.put o.dst v) w') (hx:∀ch h' w',At B h' w'→X ch h'→Q (.panic ch) a w'):o.wp P a w next Q:=by
 have hput:∀v,({ (({ a with defers:=[] }:Act).put o.dst v) with defers:=a.defers }:Act)=a.put o.dst v:=fun v=>by cases hd:o.dst<;>simp[Act.put]
 have hput0:∀v,(({ a with defers:=[] }:Act).put o.dst v).defers=[]:=fun v=>by cases hd:o.dst<;>simp[Act.put]
 have h0:=k n B { a with defers:=[] } w hf.zero ha (fun a' w'=>a'.defers=[]∧next { a' with defers:=a.defers } w')
  (fun e a' w'=>match e with|.panic ch=>Q (.panic ch) { a' with defers:=a.defers } w'|_=>False)
  (fun v h' w' ha' hv=>⟨hput0 v,by rw[hput v];exact hn v h' w' ha' hv⟩) (fun ch h' w' ha' hv=>hx ch h' w' ha' hv)
 unfold Oper.wp at *;have he:execOp ({ a with defers:=[] }:Act).eval o=execOp a.eval o:=rfl;rw[he] at h0;generalize (execOp a.eval o).run P w=r at *;cases r with
 |ok x w' =>
  cases x<;>simp only[Oper.upon] at h0 ⊢
  case value v=>have:=h0.2;rwa [hput v] at this
  case skip=>have:=h0.2;rwa [hput undef] at this
  case defer d=>have:=h0.1;cases hd:o.dst<;>simp[Act.put,hd] at this
  case enter g args =>
   refine h0.mono fun e w'' hr=>?_
   cases e with
   |returned v=>have:=hr.2;rwa [hput v] at this
   |panicked c=>exact hr
   |outgrown=>obtain⟨a₁,w₁,h3⟩:=hr;exact h3.elim
  case row row args=>exact h0.mono fun v w'' hr=>by have:=hr.2;rwa [hput v] at this
 |halt x w'=>cases x<;>simp only[Oper.upon] at h0 ⊢;exact h0
def RWD (P:Program) (D:List Deferred) (n:Nat) (ops:Array Oper) (i:Nat) (ρ:Env) (h:Heap) (N:Env→Heap→Prop) (X:List PanicEntry→Env→Heap→Prop):Prop :=
 ∀B a w,FitD D n ρ a→At B h w→∀Q:Exit→Act→World→Prop,(∀ρ' h' a' w',FitD D n ρ' a'→At B h' w'→N ρ' h'→Q .normal a' w') →
  (∀ch ρ' h' a' w',FitD D n ρ' a'→At B h' w'→X ch ρ' h'→Q (.panic ch) a' w')→wpOps P ops Q ((List.range ops.size).drop i) a w
section
variable {P:Program}{D:List Deferred}{n:Nat}{ops:Array Oper}{i:Nat}{ρ:Env}{h:Heap}{N:Env→Heap→Prop}{X:List PanicEntry→Env→Heap→Prop}
theorem RWD.op (ho':nth ops.toList i=some o) (hg:o.guard=none){od:Option Nat}(hod:o.dst=od) (hd:dstOk n od=true) (k:OpX P o ρ h Φ (fun ch h'=>X ch ρ h'))
 (next:∀v h',Φ v h'→RWD P D n ops (i+1) (ρ.put od v) h' N X):RWD P D n ops i ρ h N X:=by
 subst hod;have ho:=nth_get ho';intro B a w hf ha Q hN hX;rw[range_drop (lt_of_get ho)];simp only[wpOps,ho];have hw:Region.wanted o (yielded ops a.tmps)=true:=by unfold Region.wanted;rw[hg]
 rw[hw,if_pos rfl];refine .inl (k.atD hf ha (fun v h' w' ha' hv=>?_) (fun ch h' w' ha' hx=>hX ch ρ h' a w' hf ha' hx));exact next v h' hv B _ w' (hf.put hd v) ha' Q hN hX
theorem RWD.opS (ho:nth ops.toList i=some o) (hg:o.guard=none) (hod:o.dst=some d) (hd:Nat.blt d n=true) (k:OpX P o ρ h Φ (fun ch h'=>X ch ρ h'))
 (next:∀v h',Φ v h'→RWD P D n ops (i+1) ((d,v)::ρ) h' N X):RWD P D n ops i ρ h N X:=RWD.op ho hg hod hd k next
theorem RWD.op0 (ho:nth ops.toList i=some o) (hg:o.guard=none) (hod:o.dst=none) (k:OpX P o ρ h Φ (fun ch h'=>X ch ρ h'))
 (next:∀v h',Φ v h'→RWD P D n ops (i+1) ρ h' N X):RWD P D n ops i ρ h N X:=RWD.op ho hg hod rfl k next
theorem RWD.pureS (ho:nth ops.toList i=some o) (hg:o.guard=none) (hod:o.dst=some d) (hd:Nat.blt d n=true) (k:OpP P o ρ h v)
 (next:RWD P D n ops (i+1) ((d,v)::ρ) h N X):RWD P D n ops i ρ h N X:=RWD.opS ho hg hod hd k.toX (fun _ _ ⟨hv,hh⟩=>by subst hv;subst hh;exact next)
theorem RWD.done (hi:Nat.ble ops.size i=true) (next:N ρ h):RWD P D n ops i ρ h N X:=by
 intro B a w hf ha Q hN _;have:ops.size≤i:=Nat.le_of_ble_eq_true hi;rw[List.drop_eq_nil_of_le (by simpa using this)];exact hN ρ h a w hf ha next
end
def GD (P:Program) (D:List Deferred) (f:FuncId) (fn:Func) (k:List It) (ρ:Env) (h:Heap) (R:Ending→Heap→Prop):Prop :=
 ∀B a w,FitD D fn.ntmps ρ a→At B h w→∀b:Frame,b.fn=f→b.kind= .normal→∀cs,∃e w' fr h',At B h' w'∧R e h' ∧
  Comes P (lone (b.at a (k.map (It.item (bodyOf fn)))) cs w) (lone fr cs w') e∧fr.fn=f∧fr.leaving P w' e
def LeavesH (P:Program) (fn:Func) (D:List Deferred) (u:FrameMode) (ρ:Env) (h:Heap) (R:Ending→Heap→Prop):Prop :=
 ∀B a w,FitD D fn.ntmps ρ a→At B h w→Leaves P fn a.tmps (lift B R) D u w
section
variable {P:Program}{D:List Deferred}{f:FuncId}{fn:Func}{k:List It}{ρ:Env}{h:Heap}{R:Ending→Heap→Prop}{p:List Nat}
theorem GD.step {k':List It}(hs:∀(b:Frame) (a:Act) cs w,Go.step P (lone (b.at a (k.map (It.item (bodyOf fn)))) cs w)= .next (lone (b.at a (k'.map (It.item (bodyOf fn)))) cs w))
 (next:GD P D f fn k' ρ h R):GD P D f fn k ρ h R:=by
 intro B a w hf ha b hb hk cs;obtain⟨e,w',fr,h',h1,h2,h3,h4,h5⟩:=next B a w hf ha b hb hk cs
 exact⟨e,w',fr,h',h1,h2,.of_steps (.one (hs b a cs w)) h3,h4,h5⟩
theorem GD.skip (hk:kind (sub (bodyOf fn) p)=0) (next:GD P D f fn k ρ h R):GD P D f fn (.code p::k) ρ h R:=by
 refine GD.step (fun b a cs w=>?_) next
 simp only[List.map_cons,It.item];cases hc:sub (bodyOf fn) p<;>simp[hc,kind] at hk
 · exact step_skip
 · rename_i d;cases d<;>simp at hk
theorem GD.seq (hk:kind (sub (bodyOf fn) p)=1) (next:GD P D f fn (.code (0::p):: .code (1::p)::k) ρ h R):GD P D f fn (.code p::k) ρ h R:=by
 refine GD.step (fun b a cs w=>?_) next
 simp only[List.map_cons,It.item,sub];cases hc:sub (bodyOf fn) p<;>simp[hc,kind] at hk
 · rename_i d;cases d<;>simp at hk
 · exact step_seq
theorem GD.sub {ρ':Env}(hs:Sub ρ' ρ) (next:GD P D f fn k ρ' h R):GD P D f fn k ρ h R :=
 fun B a w hf ha=>next B a w (hf.sub hs) ha
theorem GD.cond {t:Bool}(hk:kind (Lw.sub (bodyOf fn) p)=7) (hc:opd ρ (condOf (Lw.sub (bodyOf fn) p))=some (.bool t))
 (ht:t=true→GD P D f fn (.code (0::p)::k) ρ h R) (hn:t=false→GD P D f fn (.code (1::p)::k) ρ h R):GD P D f fn (.code p::k) ρ h R:=by
 intro B a w hf ha b hb hkk cs
 have hstep:Go.step P (lone (b.at a ((It.code p::k).map (It.item (bodyOf fn)))) cs w)= .next (lone (b.at a ((It.code ((if t then 0 else 1)::p)::k).map (It.item (bodyOf fn)))) cs w):=by
  simp only[List.map_cons,It.item,Lw.sub];cases hcc:Lw.sub (bodyOf fn) p<;>simp[hcc,kind] at hk
  · rename_i d;cases d<;>simp at hk
  · rw[hcc] at hc;refine(step_cond (P:=P) (b:=b) (a:=a) (k:=k.map (It.item (bodyOf fn))) (cs:=cs) (w:=w) (hf.zero.eval hc)).trans ?_;cases t<;>rfl
 cases t with
 |true =>
  obtain⟨e,w',fr,h',h1,h2,h3,h4,h5⟩:=ht rfl B a w hf ha b hb hkk cs;exact⟨e,w',fr,h',h1,h2,.of_steps (.one hstep) h3,h4,h5⟩
 |false =>
  obtain⟨e,w',fr,h',h1,h2,h3,h4,h5⟩:=hn rfl B a w hf ha b hb hkk cs;exact⟨e,w',fr,h',h1,h2,.of_steps (.one hstep) h3,h4,h5⟩
theorem GD.ite {φ:Prop}[Decidable φ] (hk:kind (Lw.sub (bodyOf fn) p)=7) (hc:opd ρ (condOf (Lw.sub (bodyOf fn) p))=some (.bool (decide φ)))
 (ht:φ→GD P D f fn (.code (0::p)::k) ρ h R) (hn:¬φ→GD P D f fn (.code (1::p)::k) ρ h R):GD P D f fn (.code p::k) ρ h R :=
 GD.cond hk hc (fun e=>ht (of_decide_eq_true e)) (fun e=>hn (of_decide_eq_false e))
theorem leave_mode {u:FrameMode}{B:World}(hfn:P.funcs[f]? =some fn) (hf:FitD D fn.ntmps ρ a) (ha:At B h w) (hL:LeavesH P fn D u ρ h R) (b:Frame) (hb:b.fn=f) (hk:b.kind= .normal) (cs:List Frame) (todo:List Item) :
 ∃e w' fr h',At B h' w'∧R e h'∧Comes P (lone { b.at a todo with mode:=u } cs w) (lone fr cs w') e∧fr.fn=f∧fr.leaving P w' e:=by
 obtain⟨e,w',fr,⟨h',h1,h2⟩,h3,h4,h5⟩:=leaves_steps (P:=P) (fn:=fn) (tmps:=a.tmps) (R:=lift B R) D u w { b.at a todo with mode:=u } cs rfl hf.nd rfl (by rw[show ({ b.at a todo with mode:=u }:Frame).fn=f from hb];exact hfn) hk (hL B a w hf ha);exact⟨e,w',fr,h',h1,h2,h3,h4.trans hb,h5⟩
theorem GD.reg (hfn:P.funcs[f]? =some fn) (hk:kind (Lw.sub (bodyOf fn) p)=5)
 (next:RWD P D fn.ntmps (opsOf (Lw.sub (bodyOf fn) p)) 0 ρ h (fun ρ' h'=>GD P D f fn k ρ' h' R) (fun ch ρ' h'=>LeavesH P fn D (.panicking ch) ρ' h' R)):GD P D f fn (.code p::k) ρ h R:=by
 intro B a w hf ha b hb hkk cs;cases hc:Lw.sub (bodyOf fn) p<;>simp[hc,kind] at hk;rename_i id ops d;cases d<;>simp at hk;rw[hc] at next
 let Q:Exit→Act→World→Prop:=fun e a' w'=>match e with
  |.normal=>∃ρ' h',FitD D fn.ntmps ρ' a'∧At B h' w'∧GD P D f fn k ρ' h' R
  |.panic ch=>∃ρ' h',FitD D fn.ntmps ρ' a'∧At B h' w'∧LeavesH P fn D (.panicking ch) ρ' h' R
  |_=>False
 have hw:(Code.region id ops false).wp P Q a w:=wp_region (by
  have:=next B a w hf ha Q (fun ρ' h' a' w' f' a'' hn=>⟨ρ',h',f',a'',hn⟩) (fun ch ρ' h' a' w' f' a'' hx=>⟨ρ',h',f',a'',hx⟩)
  simpa [opsOf] using this)
 obtain⟨e,a',w',hq,harr⟩:=hw b (k.map (It.item (bodyOf fn))) cs;have hit:(It.code p::k).map (It.item (bodyOf fn))=Item.code (Code.region id ops false)::k.map (It.item (bodyOf fn)):=by simp[It.item,hc]
 rw[hit];cases e with
 |normal =>
  obtain⟨ρ',h',f',a'',hg⟩:=hq;obtain⟨e,w'',fr,h'',h1,h2,h3,h4,h5⟩:=hg B a' w' f' a'' b hb hkk cs;exact⟨e,w'',fr,h'',h1,h2,.of_steps harr h3,h4,h5⟩
 |panic ch =>
  obtain⟨ρ',h',f',a'',hl⟩:=hq;obtain⟨todo,hs⟩:=harr;obtain⟨e,w'',fr,h'',h1,h2,h3,h4,h5⟩:=leave_mode hfn f' a'' hl b hb hkk cs todo
  exact⟨e,w'',fr,h'',h1,h2,.of_steps hs h3,h4,h5⟩
 |exit id=>exact hq.elim
 |goto l=>exact hq.elim
 |ret=>exact hq.elim
 |outgrown=>exact hq.elim
theorem GD.ret (hfn:P.funcs[f]? =some fn) (hk:kind (Lw.sub (bodyOf fn) p)=4) (hL:LeavesH P fn D .returning ρ h R):GD P D f fn (.code p::k) ρ h R:=by
 intro B a w hf ha b hb hkk cs
 have hstep:Go.step P (lone (b.at a ((It.code p::k).map (It.item (bodyOf fn)))) cs w)= .next (lone { b.at a ((It.code p::k).map (It.item (bodyOf fn))) with mode:=.returning } cs w):=by
  simp only[List.map_cons,It.item];cases hc:Lw.sub (bodyOf fn) p<;>simp[hc,kind] at hk
  · rename_i d;cases d<;>simp at hk
  · exact step_ret
 obtain⟨e,w'',fr,h'',h1,h2,h3,h4,h5⟩:=leave_mode hfn hf ha hL b hb hkk cs ((It.code p::k).map (It.item (bodyOf fn)));exact⟨e,w'',fr,h'',h1,h2,.of_steps (.one hstep) h3,h4,h5⟩
theorem G.defer1 {o1 o2:Oper}{caps:List Value}{xs:Array Operand}(_hfn:P.funcs[f]? =some fn) (hk:kind (Lw.sub (bodyOf fn) p)=5) (hops:opsOf (Lw.sub (bodyOf fn) p)= #[o1,o2])
 (h1:o1.op= .makeFunc (.func g) #[] xs) (hg1:o1.guard=none) (hd1:o1.dst=some d) (hdn:Nat.blt d fn.ntmps=true) (hx:xs.toList.map (opd ρ)=caps.map some)
 (hnd:ρ.at d=none) (h2:o2.op= .defer ⟨.value (.tmp d),#[],#[]⟩) (hg2:o2.guard=none) (hd2:o2.dst=none)
 (next:GD P [{ target:=.fn (.func g) caps.toArray,args:= #[] }] f fn k ρ h R):G P f fn (.code p::k) ρ h R:=by
 intro B a w hf ha b hb hkk cs;cases hc:Lw.sub (bodyOf fn) p<;>simp[hc,kind] at hk;rename_i id ops dr;cases dr<;>simp at hk;rw[hc] at hops;have hops':ops= #[o1,o2]:=hops;subst hops'
 let D:List Deferred:=[{ target:=.fn (.func g) caps.toArray,args:= #[] }]
 let Q:Exit→Act→World→Prop:=fun e a' w'=>match e with
  |.normal=>FitD D fn.ntmps ρ a'∧At B h w'
  |_=>False
 have hargs:xs.map a.eval=caps.toArray:=by
  apply Array.ext'
  simp only[Array.toList_map]
  have key:∀(l:List Operand) (us:List Value),l.map (opd ρ)=us.map some→l.map a.eval=us:=by
   intro l
   induction l with
   |nil=>intro us hu;cases us<;>simp_all
   |cons x r ih =>
    intro us hu;cases us with
    |nil=>simp at hu
    |cons u us =>
     simp only[List.map_cons,List.cons.injEq] at hu ⊢;exact⟨hf.eval hu.1,ih us hu.2⟩
  exact key _ _ hx
 have hlt:d<a.tmps.size:=by rw[hf.size];exact Nat.blt_eq.mp hdn
 have hget:∀v,(a.tmps.setIfInBounds d v).getD d undef=v:=fun v=>by
  rw[Array.getD_eq_getD_getElem?,Array.getElem?_setIfInBounds_self_of_lt hlt];rfl
 have hw:(Code.region id #[o1,o2] false).wp P Q a w:=wp_region (by
  show wpOps P #[o1,o2] Q [0,1] a w
  simp only[wpOps,List.getElem?_toArray,List.getElem?_cons_zero,List.getElem?_cons_succ];rw[show Region.wanted o1 (yielded #[o1,o2] a.tmps)=true by unfold Region.wanted;rw[hg1],if_pos rfl];refine .inl ?_;unfold Oper.wp;rw[show (execOp a.eval o1).run P w= .ok (.value (.func (.func g) #[] caps.toArray)) w by simp[execOp,h1,Instr.makeFunc,hargs]];simp only[Oper.upon,hd1,Act.put];rw[show ∀t,Region.wanted o2 (yielded #[o1,o2] t)=true from fun t=>by unfold Region.wanted;rw[hg2],if_pos rfl];refine .inl ?_
  try unfold Oper.wp
  rw[show (execOp (Act.eval { a with tmps:=a.tmps.setIfInBounds d (.func (.func g) #[] caps.toArray) }) o2).run P w= .ok (.defer { target:=.fn (.func g) caps.toArray,args:= #[] }) w by
   simp[execOp,h2,resolve,Act.eval,hget,Deferred.ofValue]]
  simp only[hd2];have hput:=hf.put (dst:=some d) hdn (.func (.func g) #[] caps.toArray)
  exact⟨⟨hput.size,fun i v hi=>by
   by_cases e:d=i
   · subst e;rw[hnd] at hi;cases hi
   · have:=hf.ok i v hi;rw[Array.getElem?_setIfInBounds_ne e];exact this,by rw[hf.nd]⟩,ha⟩)
 obtain⟨e,a',w',hq,harr⟩:=hw b (k.map (It.item (bodyOf fn))) cs;have hit:(It.code p::k).map (It.item (bodyOf fn))=Item.code (Code.region id #[o1,o2] false)::k.map (It.item (bodyOf fn)):=by simp[It.item,hc]
 rw[hit];cases e with
 |normal =>
  obtain⟨f',a''⟩:=hq;obtain⟨e,w'',fr,h'',h1,h2,h3,h4,h5⟩:=next B a' w' f' a'' b hb hkk cs
  exact⟨e,w'',fr,h'',h1,h2,.of_steps harr h3,h4,h5⟩
 |panic ch=>exact hq.elim
 |exit id=>exact hq.elim
 |goto l=>exact hq.elim
 |ret=>exact hq.elim
 |outgrown=>exact hq.elim
end
theorem fits_enter (vs:List Value) (hle:vs.length≤fn.ntmps):Fits fn.ntmps (argEnv 0 vs) { tmps:=vs.toArray++Array.replicate (fn.ntmps-vs.toArray.size) undef,defers:=[] }:=by
 refine⟨by simp;omega,fun i v hi=>?_,rfl⟩;obtain⟨_,h2⟩:=argEnv_at vs 0 i v hi
 have hlt:i<vs.length:=by
  rcases Nat.lt_or_ge i vs.length with hl|hl
  · exact hl
  · simp[List.getElem?_eq_none hl] at h2
 rw[Array.getElem?_append_left (by simpa using hlt)];simpa using h2
theorem callsD_recover {vs:List Value}{id:Nat}{o1 o2:Oper}{rest:Code}{u u':FrameMode}{d1 d2:Nat}{ts:Array TypeId}{R:Ending→FrameMode→World→Prop}
 (hfn:P.funcs[g]? =some fn) (hb:fn.body=some (.seq (.region id #[o1,o2] false) rest)) (hn:Nat.ble vs.length fn.ntmps=true)
 (h1:o1.op= .call ⟨.builtin .recover,#[],ts⟩) (hg1:o1.guard=none) (hd1:o1.dst=some d1) (hl1:Nat.blt d1 fn.ntmps=true)
 (h2:o2.op= .assign (.tmp d1)) (hg2:o2.guard=none) (hd2:o2.dst=some d2) (hl2:Nat.blt d2 fn.ntmps=true)
 (hrec:∀(c₀ : Frame) (cs:List Frame),c₀.mode=u→recoverD (c₀::cs)=some (v,{ c₀ with mode:=u' }::cs)∨(recoverD (c₀::cs)=none∧v= .nilIface∧u'=u))
 (hw:∀a,Fits fn.ntmps ((d2,v)::(d1,v)::argEnv 0 vs) a→rest.wp P (fun e a' w'=>match e with
  |.normal|.ret=>a'.defers=[]∧∃r,(results fn a'.tmps).run P w'= .ok r w'∧R (.returned r) u' w'
  |_=>False) a w):CallsD P g vs.toArray u w R:=by
 refine callsD_of_wpS hfn hb fun c₀ cs hu=>?_
 have hf0:=fits_enter (fn:=fn) vs (Nat.le_of_ble_eq_true hn);generalize ({ tmps:=vs.toArray++Array.replicate (fn.ntmps-vs.toArray.size) undef,defers:=[] }:Act)=a0 at hf0;refine wpS_seq (wpS_region ?_)
 show wpOpsS P #[o1,o2] _ [0,1] a0 (c₀::cs) w
 simp only[wpOpsS,List.getElem?_toArray,List.getElem?_cons_zero,List.getElem?_cons_succ];rw[show Region.wanted o1 (yielded #[o1,o2] a0.tmps)=true by unfold Region.wanted;rw[hg1],if_pos rfl];rw[show (execOp a0.eval o1).run P w= .ok .recover w by simp[execOp,h1,resolve,invoke,builtin]];have hf1:=hf0.put (dst:=some d1) hl1 v;have hf2:=hf1.put (dst:=some d2) hl2 v;have hwf:=hw _ hf2
 have hrun:(execOp (a0.put (some d1) v).eval o2).run P w= .ok (.value v) w:=by
  have he:(a0.put (some d1) v).eval (.tmp d1)=v:=hf1.eval (x:=.tmp d1) (by simp[opd,Env.put,Env.at_cons]);simp[execOp,h2,he]
 have fin:∀(cs':List Frame),cs'= { c₀ with mode:=u' }::cs→rest.wpS P (bodyPostS P fn c₀ cs R) ((a0.put (some d1) v).put (some d2) v) cs' w:=by
  intro cs' hcs;refine wpS_of_wp ?_;intro b k cs2;obtain⟨e,a',w',hq,harr⟩:=hwf b k cs2;refine⟨e,a',w',?_,harr⟩;cases e with
  |normal=>obtain⟨q1,r,q2,q3⟩:=hq;exact⟨q1,u',hcs,r,q2,q3⟩
  |ret=>obtain⟨q1,r,q2,q3⟩:=hq;exact⟨q1,u',hcs,r,q2,q3⟩
  |panic ch=>exact hq.elim
  |exit id=>exact hq.elim
  |goto l=>exact hq.elim
  |outgrown=>exact hq.elim
 rcases hrec c₀ cs hu with hr|⟨hr,rfl,rfl⟩
 · simp only[hr,hd1];rw[show ∀t,Region.wanted o2 (yielded #[o1,o2] t)=true from fun t=>by unfold Region.wanted;rw[hg2],if_pos rfl];rw[hrun];simp only[Oper.upon,hd2];exact fin _ rfl
 · simp only[hr,hd1];rw[show ∀t,Region.wanted o2 (yielded #[o1,o2] t)=true from fun t=>by unfold Region.wanted;rw[hg2],if_pos rfl];rw[hrun];simp only[Oper.upon,hd2];refine fin _ ?_;cases c₀;simp only at hu;subst hu;rfl
theorem run_invoke_fn {caps:Array Value}(hfn:P.funcs[g]? =some fn) (hb:fn.body.isSome=true) (hnm:(fn.name == "runtime.NumGoroutine")=false):(invoke (.fn (.func g) caps) #[]).run P w= .ok (.enter g caps) w:=by
 have hb':fn.body≠none:=by intro hbb;simp[hbb] at hb
 have hnm':¬fn.name= "runtime.NumGoroutine" :=by simpa using hnm
 simp[invoke,callFunc,hfn,hnm',hb']
theorem OpP.typeAssertHit {h:Heap}{dst:Option Nat}{ty:TypeId}{pos:String}{after:Array Edge}{guard:Option (Nat×Bool)}{t xt:TypeId}{fs:Array Field}{x:Operand}(hu:P.underlying t=some (.struct fs)) (hx:opd ρ x=some (.iface t v)) :
 OpP P ⟨dst,.typeAssert x xt t false,ty,pos,after,guard⟩ ρ h v:=by
 intro n B a w hf ha;simp[execOp,Instr.typeAssert,run_underlying hu,hf.eval hx]
end
end Go.Lw
namespace Go.Proofs.YtfegacfjgjaghaaGreatDoor
open Go Go.Lw Go.RowKit
set_option maxRecDepth 20000
section
variable {h:Heap}{nb eb:Nat}
abbrev zeroN:List Value:=ndC 0 0 (.slice none 0 0)
theorem catch_none {cs:List Value}{v0:Value}(hcs:cs.length=6) (hk:Blk h nb 81 cs) (he:Blk h eb 54 [v0]) (hne:nb≠eb) (B w:World) (ha:At B h w) :
 CallsD Tryz.prog 60 #[.pointer (some ⟨nb,0,none⟩),.pointer (some ⟨eb,0,none⟩)] (.panicking [{ v:=noneV,recovered:=false }]) w fun e u' w' =>
  (∃r,e= .returned r)∧u'= .panicking [{ v:=noneV,recovered:=true }]∧∃h',At B h' w'∧Blk h' nb 81 zeroN∧Blk h' eb 54 [.int .i64 10]∧Ext (fun b=>b=nb∨b=eb) h h':=by
 refine callsD_recover (v:=noneV) (vs:=[.pointer (some ⟨nb,0,none⟩),.pointer (some ⟨eb,0,none⟩)]) (u':=.panicking [{ v:=noneV,recovered:=true }]) Tryz.func60 rfl rfl rfl rfl rfl rfl rfl rfl rfl rfl (fun c₀ cs hu=>.inl (by simp[recoverD,hu])) (fun a hf=>?_);refine wp_seq (wp_region ?_);refine(show RW Tryz.prog Tryz.f60.ntmps _ 0 _ h (fun ρ' h'=>h'=h∧Sub [(5,.bool true),(2,noneV),(0,.pointer (some ⟨nb,0,none⟩)),(1,.pointer (some ⟨eb,0,none⟩))] ρ') (fun _ _=>False) from ?_) B a w hf ha _ ?_ (fun _ _ _ _ _ _ k=>k.elim)
 · refine xqp 1 rfl rfl (OpP.neqIface Tryz.underlying20 rfl (.inr ⟨_,_,rfl⟩)) ?_;exact RW.done rfl ⟨rfl,rfl,rfl,rfl,rfl,trivial⟩
 rintro ρ' h' a1 w1 hf1 ha1 ⟨rfl,hsub⟩;have hf1:=hf1.sub hsub;refine wp_cond_true (hf1.eval (x:=.tmp 5) rfl) ?_;refine wp_seq (wp_region ?_);refine(show RW Tryz.prog Tryz.f60.ntmps _ 0 _ h' (fun ρ' g=>g=h'∧Sub [(0,.pointer (some ⟨nb,0,none⟩)),(1,.pointer (some ⟨eb,0,none⟩))] ρ') (fun _ _=>False) from ?_) B a1 w1 hf1 ha1 _ ?_ (fun _ _ _ _ _ _ k=>k.elim)
 · refine xqp 1 rfl rfl (OpP.typeAssertHit Tryz.underlying122 rfl) ?_;exact RW.done rfl ⟨rfl,rfl,rfl,trivial⟩
 rintro ρ'' h'' a2 w2 hf2 ha2 ⟨rfl,hsub2⟩;have hf2:=hf2.sub hsub2;refine wp_region ?_;refine(show RW Tryz.prog Tryz.f60.ntmps _ 0 _ h'' (fun _ g=>Blk g nb 81 zeroN∧Blk g eb 54 [.int .i64 10]∧Ext (fun b=>b=nb∨b=eb) h'' g) (fun _ _=>False) from ?_) B a2 w2 hf2 ha2 _ ?_ (fun _ _ _ _ _ _ k=>k.elim)
 · refine xp rfl (OpP.build (H.bd81_ ) rfl) ?_;refine RW.op0 rfl rfl rfl (OpX.storeBlk H.sz81 rfl rfl hk rfl (by rw[hcs];decide) (by first|decide|simp[Value.oneCell'])) ?_;rintro _ h3 ⟨rfl,hk3,hx3,hz3⟩
   have hk3:Blk h3 nb 81 zeroN:=by
    rw[over_all (by rw[hcs];rfl)] at hk3;exact hk3
   refine RW.op0 rfl rfl rfl (OpX.storeOne H.sz54 rfl rfl (he.ext hx3 (fun e=>hne e.symm)) (by simp) rfl) ?_;rintro _ h4 ⟨rfl,hk4,hx4,hz4⟩;exact RW.done rfl ⟨hk3.ext hx4 (fun e=>hne e),hk4,(hx3.mono fun _ _ k=>.inl k).trans (hx4.mono fun _ _ k=>.inr k)⟩
 rintro _ h5 a5 w5 hf5 ha5 ⟨hq1,hq2,hq3⟩;exact⟨hf5.nd,_,results_all hf5 ha5 .nil,⟨_,rfl⟩,rfl,h5,ha5,hq1,hq2,hq3⟩
theorem catch_idle (B w:World) (ha:At B h w) :
 CallsD Tryz.prog 60 #[.pointer (some ⟨nb,0,none⟩),.pointer (some ⟨eb,0,none⟩)] .returning w fun e u' w'=>(∃r,e= .returned r)∧u'= .returning∧At B h w':=by
 refine callsD_recover (v:=.nilIface) (vs:=[.pointer (some ⟨nb,0,none⟩),.pointer (some ⟨eb,0,none⟩)]) (u':=.returning) Tryz.func60 rfl rfl rfl rfl rfl rfl rfl rfl rfl rfl (fun c₀ cs hu=>.inr ⟨by simp[recoverD,hu],rfl,rfl⟩) (fun a hf=>?_);refine wp_seq (wp_region ?_);refine(show RW Tryz.prog Tryz.f60.ntmps _ 0 _ h (fun ρ' h'=>h'=h∧Sub [(5,.bool false)] ρ') (fun _ _=>False) from ?_) B a w hf ha _ ?_ (fun _ _ _ _ _ _ k=>k.elim)
 · refine xqp 1 rfl rfl (OpP.neqIface Tryz.underlying20 rfl (.inl rfl)) ?_;exact RW.done rfl ⟨rfl,rfl,trivial⟩
 rintro ρ' h' a1 w1 hf1 ha1 ⟨rfl,hsub⟩;have hf1:=hf1.sub hsub;refine wp_cond_false (hf1.eval (x:=.tmp 5) rfl) (wp_skip ?_);exact⟨hf1.nd,_,results_all hf1 ha1 .nil,⟨_,rfl⟩,rfl,ha1⟩
theorem leave_none {cs:List Value}{v0:Value}{ρ:Env}{R:Ending→Heap→Prop}(h2:ρ.at 2=some (.pointer (some ⟨nb,0,none⟩))) (h3:ρ.at 3=some (.pointer (some ⟨eb,0,none⟩))) (hcs:cs.length=6) (hk:Blk h nb 81 cs) (he:Blk h eb 54 [v0]) (hne:nb≠eb)
 (hR:∀h',Ext (fun b=>b=nb∨b=eb) h h'→R (.returned (.tuple #[.agg zeroN.toArray,.int .i64 10])) h') :
 LeavesH Tryz.prog Tryz.f33 [{ target:=.fn (.func 60) #[.pointer (some ⟨nb,0,none⟩),.pointer (some ⟨eb,0,none⟩)],args:= #[] }] (.panicking [{ v:=noneV,recovered:=false }]) ρ h R:=by
 intro B a w hf ha;refine leaves_cons (f:=60) (args:= #[.pointer (some ⟨nb,0,none⟩),.pointer (some ⟨eb,0,none⟩)]) (by simp) (run_invoke_fn Tryz.func60 rfl (by decide +kernel)) ?_;refine(catch_none hcs hk he hne B w ha).mono ?_;rintro e u' w' ⟨⟨r,rfl⟩,rfl,h',ha',hk',he',hx'⟩;refine⟨_,results_all hf.zero ha' (.cons (ResOk.rowN H.ag81 H.sz81 h2 hk'.row rfl) (.cons (ResOk.cell H.ag54 h3 (he'.cell (i:=0) rfl)) .nil)),h',ha',hR h' hx'⟩
theorem leave_idle {x:Nd}{w0:Value}{e0:Int}{ρ:Env}{R:Ending→Heap→Prop}(h2:ρ.at 2=some (.pointer (some ⟨nb,0,none⟩))) (h3:ρ.at 3=some (.pointer (some ⟨eb,0,none⟩))) (hk:Blk h nb 81 (ndC x.kind x.set w0)) (he:Blk h eb 54 [.int .i64 e0])
 (hR:R (.returned (.tuple #[.agg (ndC x.kind x.set w0).toArray,.int .i64 e0])) h) :
 LeavesH Tryz.prog Tryz.f33 [{ target:=.fn (.func 60) #[.pointer (some ⟨nb,0,none⟩),.pointer (some ⟨eb,0,none⟩)],args:= #[] }] .returning ρ h R:=by
 intro B a w hf ha;refine leaves_cons (f:=60) (args:= #[.pointer (some ⟨nb,0,none⟩),.pointer (some ⟨eb,0,none⟩)]) (by simp) (run_invoke_fn Tryz.func60 rfl (by decide +kernel)) ?_;refine(catch_idle B w ha).mono ?_;rintro e u' w' ⟨⟨r,rfl⟩,rfl,ha'⟩;refine⟨_,results_all hf.zero ha' (.cons (ResOk.rowN H.ag81 H.sz81 h2 hk.row rfl) (.cons (ResOk.cell H.ag54 h3 (he.cell (i:=0) rfl)) .nil)),h,ha',hR⟩
def ParseV (h h':Heap) (s:By) (r:Value):Prop:=∃w,r= .tuple #[.agg (ndC (parseE s).1.kind (parseE s).1.set w).toArray,.int .i64 (parseE s).2]∧NdAt h' (blw h.size) (ndC (parseE s).1.kind (parseE s).1.set w) (parseE s).1
theorem parse_calls {lim:Nat}(hg:Sg h lim) (hlim:lim≤h.size) (s:By) (hs:s.length≤1000000):CallsH Tryz.prog 33 #[.string (bs s)] h (Ret fun r h'=>ParseV h h' s r∧Ext0 h h'):=by
 have hsz:=bs_size s;refine CallsH.of Tryz.func33 rfl rfl ?_;refine xr Tryz.func33 rfl ?_;refine xo rfl (OpX.allocN H.zr81) ?_;rintro _ h1 ⟨rfl,hk1,he1,hz1⟩;refine xo rfl (OpX.allocN H.zr54) ?_;rintro _ h2 ⟨rfl,hk2,he2,hz2⟩;refine xd [0,2,3] rfl ?_;refine G.seq rfl ?_;refine xra Tryz.func33 1 rfl ?_;refine xp rfl (OpP.lenString Tryz.underlying9 rfl) ?_;refine xqd 1 [0,2,3,7] rfl ?_;have hk1:Blk h1 h.size 81 zeroN:=hk1;have hk2:Blk h2 h1.size 54 [.int .i64 0]:=hk2;have hk12:=hk1.ext0 he2;have e2:=he1.trans he2;refine G.ite rfl rfl (fun hbig=>?_) (fun hbig=>?_)
 · have hE:parseE s=(emptyNd,3):=by unfold parseE;rw[if_pos (by omega)]
   refine xr Tryz.func33 rfl ?_;refine xp rfl (OpP.build (H.bd81_ ) rfl) ?_;refine RW.op0 rfl rfl rfl (OpX.storeBlk H.sz81 rfl rfl hk12 (by first|rfl|(simp;done)|(simp;omega)) (by first|decide|exact of_decide_eq_true rfl|(simp;done)|(simp;omega)) (by first|decide|simp[Value.oneCell'])) ?_;rintro _ h3 ⟨rfl,hk3,hx3,hz3⟩;refine RW.op0 rfl rfl rfl (OpX.storeOne H.sz54 rfl rfl (hk2.ext hx3 (by show ¬_=_;omega)) (by first|decide|exact of_decide_eq_true rfl|(simp;done)|(simp;omega)) rfl) ?_;rintro _ h4 ⟨rfl,hk4,hx4,hz4⟩;refine xd [0,2,3,7] rfl ?_;have hk3:Blk h3 h.size 81 zeroN:=hk3;have hk4:Blk h4 h1.size 54 [.int .i64 3]:=hk4;refine G.retC Tryz.func33 rfl (.cons (ResOk.rowN H.ag81 H.sz81 rfl ((hk3.ext hx4 (by show ¬_=_;omega)).row) (by first|rfl|(simp;done)|(simp;omega))) (.cons (ResOk.cell H.ag54 rfl (hk4.cell (i:=0) rfl)) (.nil))) ?_;refine⟨_,rfl,⟨.slice none 0 0,by rw[hE];rfl,by rw[hE];exact NdAt.leaf _ _ 0 0⟩,Ext0.only (Ext0.only e2 hx3 (Nat.le_refl _)) hx4 (by omega)⟩
 · refine G.skip rfl ?_;refine G.seq rfl ?_;refine G.defer1 (caps:=[.pointer (some ⟨h.size,0,none⟩),.pointer (some ⟨h1.size,0,none⟩)]) Tryz.func33 rfl rfl rfl rfl rfl rfl rfl rfl rfl rfl rfl ?_;have hE:parseE s=match parseP s with|some x=>(x,0)|none=>(emptyNd,10):=by unfold parseE;rw[if_neg (by omega)];rfl
   refine GD.seq rfl ?_;refine GD.reg Tryz.func33 rfl ?_;refine RWD.pureS rfl rfl rfl rfl (OpP.move rfl) ?_;refine RWD.pureS rfl rfl rfl rfl (OpP.build (H.bd125_0 _) rfl) ?_;refine RWD.opS rfl rfl rfl rfl (OpX.boxN rfl) ?_;rintro _ h3 ⟨rfl,hk3,he3,hz3⟩;refine RWD.pureS rfl rfl rfl rfl (OpP.assign rfl) ?_;refine RWD.done rfl ?_;refine GD.sub (ρ':=[(0,_),(2,_),(3,_),(4,_),(7,_)]) ⟨rfl,rfl,rfl,rfl,rfl,trivial⟩ ?_;refine GD.seq rfl ?_;refine GD.reg Tryz.func33 rfl ?_;refine RWD.pureS rfl rfl rfl rfl (OpP.move rfl) ?_;have hk3:Blk h3 h2.size 125 [.string (bs s)]:=hk3;have hg3:Sg h3 lim:=hg.ext (e2.trans he3) (fun _ k=>k.elim);have hrows:=rows_ok lim (s.length+1) h3 h2.size s hg3 (by omega) hk3 (Nat.lt_succ_self _) hs;have hk13:=hk12.ext0 he3;have hk23:=hk2.ext0 he3;have e3:=e2.trans he3;refine RWD.opS rfl rfl rfl rfl (OpX.call (vs:=[_]) Tryz.func61 rfl H.nm61 rfl (CallsH.toXP (hrows) ((fun _ h' ⟨hc,hp,hx⟩=>by rw[hc];exact leave_none rfl rfl rfl (hk13.ext hx (by show ¬_=_;omega)) (hk23.ext hx (by show ¬_=_;omega)) (by omega) (fun h'' hx2=>⟨_,rfl,⟨.slice none 0 0,by rw[hE];unfold parseP;rw[hp];rfl,by rw[hE];unfold parseP;rw[hp];exact NdAt.leaf _ _ 0 0⟩,⟨by have:=hx.size;have:=hx2.size;have:=e3.size;omega,fun b hb _=>by rw[hx2.block b (by have:=hx.size;omega) (by omega),hx.block b (by omega) (by show ¬_=_;omega)];exact e3.block b hb (fun k=>k)⟩⟩))))) ?_;rintro _ h4 ⟨x,r,hp,⟨w,rfl,hnd⟩,hs4,hx4⟩;have hz4:=hx4.size;have hk14:=hk13.ext hx4 (by show ¬_=_;omega);have hk24:=hk23.ext hx4 (by show ¬_=_;omega);have e4:Ext0 h h4:=Ext0.only e3 hx4 (by omega);refine RWD.op0 rfl rfl rfl (OpX.storeBlk H.sz81 rfl rfl hk14 (by first|rfl|(simp;done)|(simp;omega)) (by first|decide|exact of_decide_eq_true rfl|(simp;done)|(simp;omega)) (NdAt.one hnd)) ?_;rintro _ h5 ⟨rfl,hk5,hx5,hz5⟩;refine RWD.done rfl ?_;refine GD.sub (ρ':=[(0,_),(2,_),(3,_),(4,_),(7,_)]) ⟨rfl,rfl,rfl,rfl,rfl,trivial⟩ ?_;refine GD.seq rfl ?_;refine GD.seq rfl ?_;refine GD.reg Tryz.func33 rfl ?_;refine RWD.pureS rfl rfl rfl rfl (OpP.move rfl) ?_;refine RWD.pureS rfl rfl rfl rfl (OpP.nilCheck rfl) ?_;refine RWD.pureS rfl rfl rfl rfl (OpP.fieldAddr (off:=0) Tryz.underlying125 rfl rfl H.sz9 rfl) ?_;have hk5:Blk h5 h.size 81 (ndC x.kind x.set w):=hk5;have hk25:=hk24.ext hx5 (by show ¬_=_;omega);have hs5:St h5 h2.size r:=Blk.ext hs4 hx5 (by show ¬_=_;omega);have hnd5:NdAt h5 (blw h3.size) (ndC x.kind x.set w) x:=NdAt.low hnd (Nat.le_refl _) hx5 (fun b _ (hb:b=h.size)=>by omega);have e5:=Ext0.only e4 hx5 (Nat.le_refl _);refine RWD.pureS rfl rfl rfl rfl (OpP.load H.ag9 rfl hs5.cell) ?_;refine RWD.pureS rfl rfl rfl rfl (OpP.neqStr rfl rfl) ?_;refine RWD.done rfl ?_;refine GD.sub (ρ':=[(0,_),(2,_),(3,_),(4,_),(7,_),(19,_)]) ⟨rfl,rfl,rfl,rfl,rfl,rfl,trivial⟩ ?_;refine GD.ite rfl rfl (fun hr=>?_) (fun hr=>?_)
   · have hr:r≠[]:=fun e=>hr (by rw[e];rfl)
     have hpn:parseP s=none:=by
      unfold parseP;rw[hp];cases r with
      |nil=>exact absurd rfl hr
      |cons c t=>rfl
     refine GD.reg Tryz.func33 rfl ?_;refine RWD.pureS rfl rfl rfl rfl (OpP.build (H.bd122_ ) rfl) ?_;refine RWD.pureS rfl rfl rfl rfl (OpP.makeInterface H.cn122 rfl) ?_;refine RWD.op0 rfl rfl rfl (OpX.panic (Φ:=fun _ _=>False) rfl (leave_none rfl rfl rfl hk5 hk25 (by omega) (fun h'' hx2=>⟨_,rfl,⟨.slice none 0 0,by rw[hE,hpn];rfl,by rw[hE,hpn];exact NdAt.leaf _ _ 0 0⟩,⟨by have:=hx2.size;have:=e5.size;omega,fun b hb _=>by rw[hx2.block b (by have:=e5.size;omega) (by omega)];exact e5.block b hb (fun k=>k)⟩⟩))) ?_;rintro _ _ hpn;exact hpn.elim
   · obtain rfl:r=[]:=bs_inj (Classical.not_not.1 hr);have hpn:parseP s=some x:=by unfold parseP;rw[hp]
     refine GD.skip rfl ?_;refine GD.seq rfl ?_;refine GD.reg Tryz.func33 rfl ?_;refine RWD.pureS rfl rfl rfl rfl (OpP.loadRowN H.ag81 H.sz81 rfl hk5.row (by first|rfl|(simp;done)|(simp;omega))) ?_;refine RWD.op0 rfl rfl rfl (OpX.storeBlk H.sz81 rfl rfl hk5 (by first|rfl|(simp;done)|(simp;omega)) (by first|decide|exact of_decide_eq_true rfl|(simp;done)|(simp;omega)) (NdAt.one hnd5)) ?_;rintro _ h6 ⟨rfl,hk6,hx6,hz6⟩;refine RWD.op0 rfl rfl rfl (OpX.storeOne H.sz54 rfl rfl (hk25.ext hx6 (by show ¬_=_;omega)) (by first|decide|exact of_decide_eq_true rfl|(simp;done)|(simp;omega)) rfl) ?_;rintro _ h7 ⟨rfl,hk7,hx7,hz7⟩;refine RWD.done rfl ?_;refine GD.sub (ρ':=[(0,_),(2,_),(3,_),(4,_),(7,_),(19,_)]) ⟨rfl,rfl,rfl,rfl,rfl,rfl,trivial⟩ ?_;have hk6:Blk h6 h.size 81 (ndC x.kind x.set w):=hk6;have hk7:Blk h7 h1.size 54 [.int .i64 0]:=hk7;have hk17:=hk6.ext hx7 (by show ¬_=_;omega);have e7:=Ext0.only (Ext0.only e5 hx6 (Nat.le_refl _)) hx7 (by omega);have hnd7:NdAt h7 (blw h.size) (ndC x.kind x.set w) x:=NdAt.low (NdAt.low hnd5 (Nat.le_refl _) hx6 (fun b _ (hb:b=h.size)=>by omega)) (by omega) hx7 (fun b _ (hb:b=h1.size)=>by omega);refine GD.ret Tryz.func33 rfl ?_;exact leave_idle rfl rfl hk17 hk7 ⟨_,rfl,⟨w,by rw[hE,hpn],by rw[hE,hpn];exact hnd7⟩,e7⟩
end
end Go.Proofs.YtfegacfjgjaghaaGreatDoor
namespace Go.Proofs.YtfegacfjgjaghaaGreatDoor
section
variable {l:List Nd}{s:By}{x:Nd}{i:Nat}
structure Ste where
 kind:Nat
 set:Nat
 to:List Nat
 rule:Nat
end
mutual
def lay:Nd→List Ste→Nat→List Ste×Nat
 |.mk k s kids,ss,to =>
  if k=1 then (ss++[⟨1,s,[to],0⟩],ss.length)
  else if k=2 then layCat kids ss to
  else if k=3 then ((layAlt kids ss to).1++[⟨0,0,(layAlt kids ss to).2,0⟩],(layAlt kids ss to).1.length)
  else if k=6 then ((layOne kids ss to).1++[⟨0,0,[(layOne kids ss to).2,to],0⟩],(layOne kids ss to).1.length)
  else if k=4∨k=5 then
   ((layOne kids (ss++[⟨0,0,[],0⟩]) ss.length).1.set ss.length ⟨0,0,[(layOne kids (ss++[⟨0,0,[],0⟩]) ss.length).2,to],0⟩,
    if k=5 then (layOne kids (ss++[⟨0,0,[],0⟩]) ss.length).2 else ss.length)
  else (ss,to)
def layCat:List Nd→List Ste→Nat→List Ste×Nat
 | [],ss,to=>(ss,to)
 |x::r,ss,to=>lay x (layCat r ss to).1 (layCat r ss to).2
def layAlt:List Nd→List Ste→Nat→List Ste×List Nat
 | [],ss,_=>(ss,[])
 |x::r,ss,to=>((layAlt r (lay x ss to).1 to).1,(lay x ss to).2::(layAlt r (lay x ss to).1 to).2)
def layOne:List Nd→List Ste→Nat→List Ste×Nat
 | [],ss,to=>(ss,to)
 |x::_,ss,to=>lay x ss to
end
mutual
def szN:Nd→Nat
 |.mk _ _ kids=>szL kids+1
def szL:List Nd→Nat
 | []=>0
 |x::r=>szN x+szL r
end
mutual
def wfN:Nd→Bool
 |.mk k _ kids=>(!(k ==4 ||k ==5 ||k ==6) ||kids.length ==1) && wfL kids
def wfL:List Nd→Bool
 | []=>true
 |x::r=>wfN x && wfL r
end
section
variable {l:List Nd}{s:By}{x:Nd}{i:Nat}
theorem szN_pos (x:Nd):0<szN x:=by cases x;simp[szN]
theorem szL_append:∀(l m:List Nd),szL (l++m)=szL l+szL m
 | [],m=>by simp[szL]
 |x::l,m=>by simp only[List.cons_append,szL];rw[szL_append l m];omega
theorem wfL_append:∀(l m:List Nd),wfL (l++m)=(wfL l && wfL m)
 | [],m=>by simp[wfL]
 |x::l,m=>by simp only[List.cons_append,wfL];rw[wfL_append l m,Bool.and_assoc]
theorem wfL_mem:∀{l:List Nd}{i:Nat}{x:Nd},wfL l=true→l[i]? =some x→wfN x=true
 | [],i,x,_,h=>by simp at h
 |y::l,0,x,hw,h=>by simp at h;subst h;simp only[wfL,Bool.and_eq_true] at hw;exact hw.1
 |y::l,i+1,x,hw,h=>by simp only[wfL,Bool.and_eq_true] at hw;exact wfL_mem hw.2 (by simpa using h)
end
mutual
theorem lay_len:∀(x:Nd) (ss:List Ste) (to:Nat),ss.length≤(lay x ss to).1.length∧(lay x ss to).1.length≤ss.length+szN x
 |.mk k s kids,ss,to=>by
  rw[lay];simp only[szN];split
  · simp
  · split
    · have:=layCat_len kids ss to;omega
    · split
      · have:=layAlt_len kids ss to;simp only[List.length_append,List.length_singleton];omega
      · split
        · have:=layOne_len kids ss to;simp only[List.length_append,List.length_singleton];omega
        · split
          · have:=layOne_len kids (ss++[⟨0,0,[],0⟩]) ss.length;simp only[List.length_append,List.length_singleton] at this;simp only[List.length_set];omega
          · simp
theorem layCat_len:∀(l:List Nd) (ss:List Ste) (to:Nat),ss.length≤(layCat l ss to).1.length∧(layCat l ss to).1.length≤ss.length+szL l
 | [],ss,to=>by simp[layCat,szL]
 |x::r,ss,to=>by
  rw[layCat];have h1:=layCat_len r ss to;have h2:=lay_len x (layCat r ss to).1 (layCat r ss to).2;simp only[szL];omega
theorem layAlt_len:∀(l:List Nd) (ss:List Ste) (to:Nat),ss.length≤(layAlt l ss to).1.length∧(layAlt l ss to).1.length≤ss.length+szL l
 | [],ss,to=>by simp[layAlt,szL]
 |x::r,ss,to=>by
  rw[layAlt];have h1:=lay_len x ss to;have h2:=layAlt_len r (lay x ss to).1 to;simp only[szL];omega
theorem layOne_len:∀(l:List Nd) (ss:List Ste) (to:Nat),ss.length≤(layOne l ss to).1.length∧(layOne l ss to).1.length≤ss.length+szL l
 | [],ss,to=>by simp[layOne,szL]
 |x::r,ss,to=>by
  rw[layOne];have h1:=lay_len x ss to;simp only[szL];omega
end
section
variable {l:List Nd}{s:By}{x:Nd}{i:Nat}
def Small (s:By) (p:Option (Nd×By)):Prop:=∀x r,p=some (x,r)→szN x+2*r.length≤2*s.length+1∧wfN x=true
theorem sz_join (k:Nat) (l:List Nd):szN (joinNd k l)≤szL l+1:=by
 unfold joinNd;split
 · simp[emptyNd,szN,szL]
 · simp[szL]
 · simp[szN]
theorem wf_join {k:Nat}(hk:k=2∨k=3) (h:wfL l=true):wfN (joinNd k l)=true:=by
 unfold joinNd;split
 · rfl
 · simp only[wfL,Bool.and_eq_true] at h;exact h.1
 · simp only[wfN,h,Bool.and_true];rcases hk with rfl|rfl<;>rfl
theorem signs_small:∀(s:By) (n:Nd),wfN n=true→szN (signsP n s).1+2*(signsP n s).2.length≤szN n+2*s.length∧wfN (signsP n s).1=true
 | [],n,hw=>by simp[signsP,hw]
 |c::r,n,hw=>by
  rw[signsP];split
  · simp[hw]
  · rename_i hs;have hw':wfN (.mk (signOf c) 0 [n])=true:=by simp[wfN,wfL,hw]
    have h:=signs_small r (.mk (signOf c) 0 [n]) hw';refine⟨?_,h.2⟩;have h1:=h.1;simp only[szN,szL,List.length_cons] at h1 ⊢;omega
theorem piece_small {rows:By→Option (Nd×By)}(hr:∀s,Small s (rows s)){r:By}(h:pieceP rows s=some (x,r)):szN x+2*r.length+1≤2*s.length∧wfN x=true:=by
 have leaf:∀k st,(k=0∨k=1)→wfN (.mk k st [])=true:=fun k st hk=>by rcases hk with rfl|rfl<;>rfl
 have key:∀y t,atomP rows s=some (y,t)→szN y+2*t.length+1≤2*s.length∧wfN y=true:=by
  intro y t ha;have hlen:∀(k st:Nat),y= .mk k st []→t.length<s.length→szN y+2*t.length+1≤2*s.length:=fun k st hy ht=>by subst hy;simp only[szN,szL];omega
  unfold atomP at ha;split at ha
  · cases ha
  · rename_i c u;split at ha
    · split at ha
      · cases ha
      · rename_i n t' ht;split at ha
        · rename_i t'' _;cases ha;have:=hr _ _ _ ht;simp only[List.length_cons] at this ⊢;exact⟨by omega,this.2⟩
        · cases ha
    · split at ha
      · have hb:=bracketP_len ha
        have hy:∃st,y= .mk 1 st []:=by
         unfold bracketP at ha;split at ha<;>(simp only[Option.map_eq_some_iff] at ha;obtain⟨⟨m,r'⟩,_,h2⟩:=ha;cases h2;exact⟨_,rfl⟩)
        obtain⟨st,rfl⟩:=hy;exact⟨hlen _ _ rfl (by simp only[List.length_cons];omega),leaf _ _ (.inr rfl)⟩
      · split at ha
        · cases ha;exact⟨hlen _ _ rfl (by simp),leaf _ _ (.inr rfl)⟩
        · split at ha
          · simp only[Option.map_eq_some_iff] at ha;obtain⟨⟨b,r'⟩,h1,h2⟩:=ha;have:=escP_len h1;cases h2;exact⟨hlen _ _ rfl (by simp only[List.length_cons];omega),leaf _ _ (.inr rfl)⟩
          · split at ha
            · cases ha
            · cases ha;exact⟨hlen _ _ rfl (by simp),leaf _ _ (.inr rfl)⟩
 unfold pieceP at h;simp only[Option.map_eq_some_iff] at h;obtain⟨⟨n,t⟩,h1,h2⟩:=h;have h3:=key n t h1;have h4:=signs_small t n h3.2;rw[h2] at h4;simp only at h4;exact⟨by omega,h4.2⟩
theorem rowsG_small {rows:By→Option (Nd×By)}(hr:∀s,Small s (rows s)):∀(n:Nat) (all row:List Nd) (s:By) (x:Nd) (r:By),wfL all=true→wfL row=true→rowsG rows n all row s=some (x,r) →
 szN x+2*r.length≤2*s.length+1+szL all+szL row+(if all=[] then 0 else 1)∧wfN x=true
 | 0,_,_,_,_,_,_,_,h=>by cases h
 |n+1,all,row,s,x,r,hwa,hwr,h=>by
  rw[rowsG] at h;split at h
  · split at h
    · rename_i hbar;have hs:s.tail.length+1=s.length:=by cases s with|nil=>cases hbar|cons a b=>simp
      have hw':wfL (all++[joinNd 2 row])=true:=by rw[wfL_append,hwa];simp[wfL,wf_join (.inl rfl) hwr]
      have ih:=rowsG_small hr n _ _ _ _ _ hw' (by rfl) h;have hj:=sz_join 2 row;have ha:szL (all++[joinNd 2 row])=szL all+szN (joinNd 2 row):=by rw[szL_append];simp[szL]
      rw[ha] at ih;refine⟨?_,ih.2⟩;have h1:=ih.1;rw[if_neg (by simp)] at h1;simp only[szL] at h1;omega
    · cases h;have hj:=sz_join 2 row;have hj3:=sz_join 3 (all++[joinNd 2 row]);have ha:szL (all++[joinNd 2 row])=szL all+szN (joinNd 2 row):=by rw[szL_append];simp[szL]
      refine⟨?_,wf_join (.inr rfl) (by rw[wfL_append,hwa];simp[wfL,wf_join (.inl rfl) hwr])⟩;split
      · rename_i he;subst he;have:joinNd 3 ([]++[joinNd 2 row])=joinNd 2 row:=rfl;rw[this];simp only[szL] at *;omega
      · rw[ha] at hj3;omega
  · split at h
    · cases h
    · rename_i y t ht;have h1:=piece_small hr ht;have ih:=rowsG_small hr n all (row++[y]) t x r hwa (by rw[wfL_append,hwr];simp[wfL,h1.2]) h;have ha:szL (row++[y])=szL row+szN y:=by rw[szL_append];simp[szL]
      rw[ha] at ih;exact⟨by have:=ih.1;omega,ih.2⟩
theorem rowsP_small:∀(d:Nat) (s:By),Small s (rowsP d s)
 | 0,s=>fun x r h=>by cases h
 |d+1,s=>fun x r h=>by
  have:=rowsG_small (fun s=>rowsP_small d s) _ _ _ _ _ _ rfl rfl h;simpa [szL] using this
theorem parseP_small (h:parseP s=some x):szN x≤2*s.length+1∧wfN x=true:=by
 unfold parseP at h;split at h
 · rename_i n hn;cases h;have:=rowsP_small _ _ _ _ hn;simpa using this
 · cases h
theorem layCat_drop (hx:l[i]? =some x) (ss:List Ste) (to:Nat):layCat (l.drop i) ss to=lay x (layCat (l.drop (i+1)) ss to).1 (layCat (l.drop (i+1)) ss to).2:=by
 obtain⟨hi,rfl⟩:=List.getElem?_eq_some_iff.1 hx;rw[List.drop_eq_getElem_cons hi,layCat]
theorem layAlt_len2:∀(l:List Nd) (ss:List Ste) (to:Nat),(layAlt l ss to).2.length=l.length
 | [],ss,to=>by simp[layAlt]
 |x::r,ss,to=>by rw[layAlt];simp[layAlt_len2 r]
end
mutual
theorem lay_pre:∀(x:Nd) (ss:List Ste) (to i:Nat),i<ss.length→(lay x ss to).1[i]? =ss[i]?
 |.mk k s kids,ss,to,i,hi=>by
  rw[lay];split
  · simp[List.getElem?_append_left hi]
  · split
    · exact layCat_pre kids ss to i hi
    · split
      · have:=layAlt_len kids ss to;simp only;rw[List.getElem?_append_left (by omega)];exact layAlt_pre kids ss to i hi
      · split
        · have:=layOne_len kids ss to;simp only;rw[List.getElem?_append_left (by omega)];exact layOne_pre kids ss to i hi
        · split
          · simp only;rw[List.getElem?_set_ne (by omega),layOne_pre kids (ss++[(⟨0,0,[],0⟩:Ste)]) ss.length i (by simp;omega),List.getElem?_append_left hi]
          · rfl
theorem layCat_pre:∀(l:List Nd) (ss:List Ste) (to i:Nat),i<ss.length→(layCat l ss to).1[i]? =ss[i]?
 | [],ss,to,i,hi=>by simp[layCat]
 |x::r,ss,to,i,hi=>by
  rw[layCat];have h1:=layCat_len r ss to;rw[lay_pre x _ _ i (by omega),layCat_pre r ss to i hi]
theorem layAlt_pre:∀(l:List Nd) (ss:List Ste) (to i:Nat),i<ss.length→(layAlt l ss to).1[i]? =ss[i]?
 | [],ss,to,i,hi=>by simp[layAlt]
 |x::r,ss,to,i,hi=>by
  rw[layAlt];have h1:=lay_len x ss to;simp only;rw[layAlt_pre r _ _ i (by omega),lay_pre x ss to i hi]
theorem layOne_pre:∀(l:List Nd) (ss:List Ste) (to i:Nat),i<ss.length→(layOne l ss to).1[i]? =ss[i]?
 | [],ss,to,i,hi=>by simp[layOne]
 |x::r,ss,to,i,hi=>by
  rw[layOne];exact lay_pre x ss to i hi
end
section
variable {l:List Nd}{s:By}{x:Nd}{i:Nat}
theorem szL_take (hx:l[i]? =some x):szL (l.take i)+szN x≤szL l:=by
 obtain⟨hi,rfl⟩:=List.getElem?_eq_some_iff.1 hx;have h:szL (l.take i++l.drop i)=szL l:=by rw[List.take_append_drop]
 rw[szL_append,List.drop_eq_getElem_cons hi,szL] at h;omega
theorem szL_drop (hx:l[i]? =some x):szL (l.drop (i+1))+szN x≤szL l:=by
 obtain⟨hi,rfl⟩:=List.getElem?_eq_some_iff.1 hx;have h:szL (l.take i++l.drop i)=szL l:=by rw[List.take_append_drop]
 rw[szL_append,List.drop_eq_getElem_cons hi,szL] at h;omega
theorem szL_len:∀l:List Nd,l.length≤szL l
 | []=>by simp[szL]
 |x::l=>by have:=szL_len l;have:=szN_pos x;simp only[List.length_cons,szL];omega
def pot:List Ste→List Bool→Nat
 |x::r,b::s=>(if b then 0 else x.to.length+1)+pot r s
 |_,_=>0
def closG (ss:List Ste):Nat→List Nat→List Bool→List Bool
 | 0,_,seen=>seen
 |n+1,todo,seen =>
  match todo.getLast? with
  |none=>seen
  |some i =>
   if seen[i]? =some true then closG ss n todo.dropLast seen
   else closG ss n (match ss[i]? with|some x=>if x.kind=0 then todo.dropLast++x.to else todo.dropLast|none=>todo.dropLast) (seen.set i true)
def closed (ss:List Ste) (todo:List Nat):List Nat :=
 if todo.length=0 then []
 else ((List.range ss.length).filter fun i=>(closG ss (todo.length+pot ss (List.replicate ss.length false)) todo (List.replicate ss.length false))[i]? ==some true && (ss[i]?.map (·.kind)) !=some 0)
theorem pot_set:∀(ss:List Ste) (seen:List Bool) (i:Nat) (x:Ste),ss[i]? =some x→seen[i]? =some false→pot ss (seen.set i true)+(x.to.length+1)=pot ss seen
 | [],_,_,_,h,_=>by simp at h
 |_::_,[],_,_,_,h=>by simp at h
 |y::r,b::s,0,x,h1,h2=>by
  simp at h1 h2;subst h1 h2;simp[pot];omega
 |y::r,b::s,i+1,x,h1,h2=>by
  have:=pot_set r s i x (by simpa using h1) (by simpa using h2);simp only[List.set_cons_succ,pot];omega
def Good (ss:List Ste):Prop:=∀x∈ss,∀j∈x.to,j<ss.length
def startP (ss:List Ste) (st:Nat):List Nat:=if ss.length=0 then [] else closed ss [st]
def accOk (x:Ste) (b:Int):Bool:=decide (x.kind=2∧(b<0∨(x.rule:Int)<b))
def accG (ss:List Ste):List Nat→Int→Int
 | [],b=>b
 |j::r,b=>accG ss r (match ss[j]? with|some x=>if accOk x b then x.rule else b|none=>b)
def acceptsP (ss:List Ste) (now:List Nat):Int:=if ss.length=0 then -1 else accG ss now (-1)
def stepOk (x:Ste) (c:UInt8):Bool:=decide (x.kind=1) && x.set.testBit c.toNat
def stepG (ss:List Ste) (c:UInt8):List Nat→List Nat→List Nat
 | [],a=>a
 |j::r,a=>stepG ss c r (match ss[j]? with|some x=>if stepOk x c then a++x.to else a|none=>a)
def stepP (ss:List Ste) (c:UInt8) (now:List Nat):List Nat:=if ss.length=0 then [] else closed ss (stepG ss c now [])
theorem stepG_len (ss:List Ste) (c:UInt8):∀(l a:List Nat),a.length≤(stepG ss c l a).length
 | [],a=>Nat.le_refl _
 |j::r,a=>by
  rw[stepG];refine Nat.le_trans ?_ (stepG_len ss c r _);split
  · split<;>simp
  · exact Nat.le_refl _
def matchG (ss:List Ste):List UInt8→List Nat→Nat→Int×Int→Int×Int
 |l,now,k,b =>
  if now.length=0 then b
  else match l with
   | []=>if 0≤acceptsP ss now then ((k:Int),acceptsP ss now) else b
   |c::r=>matchG ss r (stepP ss c now) (k+1) (if 0≤acceptsP ss now then ((k:Int),acceptsP ss now) else b)
def matchP (ss:List Ste) (st:Nat) (l:List UInt8):Int×Int:=if ss.length=0 then (0,-1) else matchG ss l (startP ss st) 0 (0,-1)
def matchA (ss:List Ste) (st:Nat) (s:By) (a:Int):Int×Int:=if ss.length=0∨a<0∨(s.length:Int)<a then (0,-1) else matchP ss st (s.drop a.toNat)
theorem matchG_nil {ss:List Ste}{l:List UInt8}{now:List Nat}{k:Nat}{b:Int×Int}(h:now.length=0):matchG ss l now k b=b:=by cases l<;>(rw[matchG];exact if_pos h)
theorem startP_sub (ss:List Ste) (st:Nat):(startP ss st).Sublist (List.range ss.length):=by
 unfold startP closed;split
 · exact List.nil_sublist _
 · split
   · exact List.nil_sublist _
   · exact List.filter_sublist
theorem stepP_sub (ss:List Ste) (c:UInt8) (now:List Nat):(stepP ss c now).Sublist (List.range ss.length):=by
 unfold stepP closed;split
 · exact List.nil_sublist _
 · split
   · exact List.nil_sublist _
   · exact List.filter_sublist
def makeG:Nat→List By→List Ste→List Nat→Int ⊕ (List Ste×List Nat)
 |_,[],ss,t=>.inr (ss,t)
 |i,s::r,ss,t=>if (parseE s).2≠0 then .inl (parseE s).2 else makeG (i+1) r (lay (parseE s).1 (ss++[⟨2,0,[],i⟩]) ss.length).1 (t++[(lay (parseE s).1 (ss++[⟨2,0,[],i⟩]) ss.length).2])
def totL (l:List By):Nat:=(l.map List.length).sum
def makeP (rules:List By):Int ⊕ (List Ste×Nat) :=
 if rules.length=0∨64<rules.length then .inl 2
 else match makeG 0 rules [] [] with
  |.inl e=>.inl e
  |.inr (ss,t)=>if 2000<totL rules then .inl 70 else .inr (ss++[⟨0,0,t,0⟩],ss.length)
theorem parseE_small (h0:(parseE s).2=0):szN (parseE s).1≤401∧wfN (parseE s).1=true∧s.length≤200:=by
 unfold parseE at *;split at h0
 · cases h0
 · rename_i hl;rw[if_neg hl];split at h0
   · rename_i x hx;have:=parseP_small hx;exact⟨by show szN x≤401;omega,this.2,by omega⟩
   · cases h0
theorem totL_take {l:List By}(hx:l[i]? =some s):totL (l.take (i+1))=totL (l.take i)+s.length:=by
 rw[List.take_add_one,hx,Option.toList_some];simp[totL]
end
end Go.Proofs.YtfegacfjgjaghaaGreatDoor
