/- What the proof of the statement leans on (part 16). -/
import Derived.RangeFuncSeq
import Derived.RangeFuncRecord
import Derived.RangeFuncLeaves
import Derived.TacticsIn
import Derived.Test.YtckomlgchbkekaaGreatDoorQo

namespace Go.Lw
open Go.RowKit
section
variable {h:ai}{l n:Nat}{o:Oper}{r:Loop}{ro:Option Nat}{P:Program}{ρ:Env}{Φ:Value->ai->Prop}
def bA (h:ai) (l:Nat) (o:Obj):ai:=h.setIfInBounds l o
theorem At.bA {B:World}{h:ai}{w:World}(k:At B h w) (l:Nat) (o:Obj):At B (Lw.bA h l o) (w.putObj l o):=⟨by rw[<-k.heap];rfl,k.os,k.tape,k.output⟩
theorem EJ (h:ai) (l:Nat) (o:Obj):(bA h l o).size=h.size:=by simp[bA]
theorem gi {o:Obj}(hl:l<h.size):(bA h l o)[l]? =some o:=by simp[bA,hl]
theorem Ext.bA {M:Nat->Prop}(h:ai) (l:Nat) (o:Obj) (hm:M l):Ext M h (Lw.bA h l o) :=
 ⟨by simp[EJ],fun b _ hb=>by
  have hne:¬l=b:=fun e=>hb (e▸hm)
  simp[Lw.bA,Array.getElem?_setIfInBounds_ne hne]⟩
def bY (h:ai) (l:Nat) (r:Loop):Prop:=h[l]? =some (.loop r)
theorem bY.lt (k:bY h l r):l<h.size:=(Array.getElem?_eq_some_iff.1 k).1
theorem bY.ext {M:Nat->Prop}{h':ai}(k:bY h l r) (e:Ext M h h') (hm:¬M l):bY h' l r:=(e.block l k.lt hm).trans k
def FW (ro:Option Nat):Fence:= { Fence.wide with round:=ro }
theorem E1 (ro:Option Nat) (P:Program) (m:Machine):m.fenced P (FW ro):=fenced_wide P m
theorem s6 {m m':Machine}(h:Steps P m m'):StepsIn (Machine.fenced P (FW ro)) P m m':=(StepsIn.of_steps h).mono fun m _=>E1 ro P m
theorem G8 {m m':Machine}{e:Ending}(h:Comes P m m' e):ComesIn (Machine.fenced P (FW ro)) P m m' e:=by
 cases e with
 |returned v=>exact s6 h
 |panicked c=>exact s6 h
 |outgrown=>exact h
theorem s8 {f:FuncId}{args:Array Value}{w:World}{R:Ending->World->Prop}(h:Calls P f args w R):CallsIn (FW ro) n P f args w R :=
 ⟨trivial,fun cs _=>let ⟨e,w',fr,r,s,x⟩:=h cs;⟨e,w',fr,r,G8 s,x⟩⟩
theorem aH.O9 {X:List PanicEntry->ai->Prop}(k:aH P o ρ h Φ X) (hnd:∀c,o.op≠ .defer c){m:Nat}{B:World}{a:Act}{w:World}(hf:Fits n ρ a) (ha:At B h w)
 {next:Act->World->Prop}{Q:Exit->Act->World->Prop}(hn:∀v h' w',At B h' w'->Φ v h'->next (a.put o.dst v) w') (hx:∀ch h' w',At B h' w'->X ch h'->Q (.panic ch) a w'):o.wpIn (FW ro) m P a w next Q:=by
 have h0:=k n B a w hf ha next (fun e a' w'=>match e with|.panic ch=>Q (.panic ch) a' w'|_=>False) hn (fun ch h' w' ha' hv=>hx ch h' w' ha' hv)
 refine⟨fun _ _=>trivial,?_⟩;rw[Oper.semAt_eq _ _ _ hnd];unfold Oper.wp at h0;generalize (execOp a.eval o).run P w=r at *;have hdep:(FW ro).depth.isSome=true->1<=m:=fun h=>by simp[FW,Fence.wide] at h
 cases r with
 |ok x w' =>
  cases x<;>simp only[Oper.upon] at h0<;>simp only[Oper.uponIn]
  case value v=>exact h0
  case skip=>exact h0
  case defer d=>exact h0
  case enter g args =>
   refine⟨hdep,s8 (h0.mono fun e w'' hr=>?_)⟩;cases e with
   |returned v=>exact hr
   |panicked c=>exact hr
   |outgrown=>obtain⟨a₁,w₁,h3⟩:=hr;exact h3.elim
  case row row args =>
   refine⟨hdep,fun c cs _=>?_⟩;obtain⟨v,w'',r,s⟩:=h0 c cs;exact⟨v,w'',r,s6 s⟩
 |halt x w'=>cases x<;>simp only[Oper.upon] at h0<;>simp only[Oper.uponIn];exact h0
def aV (P:Program) (ro:Option Nat) (n:Nat) (ops:Array Oper) (i:Nat) (ρ:Env) (h:ai) (N:Env->ai->Prop) (X:List PanicEntry->ai->Prop):Prop :=
 ∀m B a w,Fits n ρ a->At B h w->∀Q:Exit->Act->World->Prop,(∀ρ' h' a' w',Fits n ρ' a'->At B h' w'->N ρ' h'->Q .normal a' w') ->
  (∀ch h' a' w',a'.defers=[]->At B h' w'->X ch h'->Q (.panic ch) a' w')->wpOpsIn (FW ro) m P ops Q ((List.range ops.size).drop i) a w
def gH (o:Oper):Bool:=match o.op with|.defer _=>false|_=>true
theorem jU (h:gH o=true):∀c,o.op≠ .defer c:=fun c e=>by simp[gH,e] at h
def cV (P:Program) (l:Nat) (args:Array Value) (h:ai) (R:Ending->ai->Prop):Prop:=∀m B w,At B h w->YieldAt (FW none) m P l args w (lift B R)
section
variable {P:Program}{ro:Option Nat}{n:Nat}{ops:Array Oper}{i:Nat}{ρ:Env}{h:ai}{N:Env->ai->Prop}{X:List PanicEntry->ai->Prop}
theorem aV.op (ho':nth ops.toList i=some o) (hg:o.guard=none) (hnd:gH o=true){od:Option Nat}(hod:o.dst=od) (hd:iG n od=true) (k:aH P o ρ h Φ X)
 (next:∀v h',Φ v h'->aV P ro n ops (i+1) (ρ.put od v) h' N X):aV P ro n ops i ρ h N X:=by
 subst hod;have ho:=dV ho';intro m B a w hf ha Q hN hX;rw[fh (gj ho)];simp only[wpOpsIn,ho];have hw:Region.wanted o (yielded ops a.tmps)=true:=by unfold Region.wanted;rw[hg]
 rw[hw,if_pos rfl];exact k.O9 (jU hnd) hf ha (fun v h' w' ha' hv=>next v h' hv m B _ w' (hf.put hd v) ha' Q hN hX) (fun ch h' w' ha' hx=>hX ch h' a w' hf.nd ha' hx)
theorem aV.r9 {d:Nat}(ho:nth ops.toList i=some o) (hg:o.guard=none) (hnd:gH o=true) (hod:o.dst=some d) (hd:Nat.blt d n=true) (k:aH P o ρ h Φ X)
 (next:∀v h',Φ v h'->aV P ro n ops (i+1) ((d,v)::ρ) h' N X):aV P ro n ops i ρ h N X:=aV.op ho hg hnd hod hd k next
theorem aV.mL (ho:nth ops.toList i=some o) (hg:o.guard=none) (hnd:gH o=true) (hod:o.dst=none) (k:aH P o ρ h Φ X)
 (next:∀v h',Φ v h'->aV P ro n ops (i+1) ρ h' N X):aV P ro n ops i ρ h N X:=aV.op ho hg hnd hod rfl k next
theorem aV.aB {v:Value}{d:Nat}(ho:nth ops.toList i=some o) (hg:o.guard=none) (hnd:gH o=true) (hod:o.dst=some d) (hd:Nat.blt d n=true) (k:an P o ρ h v)
 (next:aV P ro n ops (i+1) ((d,v)::ρ) h N X):aV P ro n ops i ρ h N X:=aV.r9 ho hg hnd hod hd k.jF (fun _ _ ⟨hv,hh⟩=>by subst hv;subst hh;exact next)
theorem aX (hi:Nat.ble ops.size i=true) (next:N ρ h):aV P ro n ops i ρ h N X:=by
 intro m B a w hf ha Q hN _;have:ops.size<=i:=Nat.le_of_ble_eq_true hi;rw[List.drop_eq_nil_of_le (by simpa using this)];exact hN ρ h a w hf ha next
theorem aV.yield {o:Oper}{Φ:Value->ai->Prop}{d l:Nat}{xf:Operand}{xs:Array Operand}{ts:Array TypeId}{vs:List Value}(ho':nth ops.toList i=some o) (hg:o.guard=none) (hop:o.op= .call ⟨.value xf,xs,ts⟩) (hod:o.dst=some d) (hd:Nat.blt d n=true)
 (hxf:aT ρ xf=some (.func (.yield l) #[] #[])) (hvs:xs.toList.map (aT ρ)=vs.map some) (k:cV P l vs.toArray h (aN Φ))
 (next:∀v h',Φ v h'->aV P none n ops (i+1) ((d,v)::ρ) h' N X):aV P none n ops i ρ h N X:=by
 have ho:=dV ho';intro m B a w hf ha Q hN hX;rw[fh (gj ho)];simp only[wpOpsIn,ho];have hw:Region.wanted o (yielded ops a.tmps)=true:=by unfold Region.wanted;rw[hg]
 rw[hw,if_pos rfl];refine⟨fun _ _=>trivial,?_⟩
 have hargs:xs.map a.eval=vs.toArray:=by
  apply Array.ext'
  simp only[Array.toList_map]
  have key:∀(l:List Operand) (us:List Value),l.map (aT ρ)=us.map some->l.map a.eval=us:=by
   intro l
   induction l with
   |nil=>intro us hu;cases us<;>simp_all
   |cons x r ih =>
    intro us hu;cases us with
    |nil=>simp at hu
    |cons u us =>
     simp only[List.map_cons,List.cons.injEq] at hu ⊢;exact⟨hf.eval hu.1,ih us hu.2⟩
  exact key _ _ hvs
 obtain⟨fn,tmps,assign,body,hy,hR⟩:=k (m-1) B w ha;rw[Oper.semAt_eq _ _ _ (fun c e=>by rw[hop] at e;cases e)]
 rw[show (execOp a.eval o).run P w= .ok (.round l fn tmps assign body) w by
  have h1:(invoke (.fn (.yield l) #[]) vs.toArray).run P w= .ok (.round l fn tmps assign body) w:=by rw[<-hy];rfl
  simp[execOp,hop,resolve,hf.eval hxf,Deferred.ofValue,hargs,h1]]
 simp only[Oper.uponIn];refine⟨fun h=>by simp[FW,Fence.wide] at h,hR.mono fun e w' ⟨h',ha',v,he,hp⟩=>?_⟩;subst he;exact next v h' hp m B _ w' (by rw[hod];exact hf.put (dst:=some d) hd v) ha' Q hN hX
end
theorem cV.of {args:Array Value}{id1 id2 idb:Nat}{ops1 ops2:Array Oper}(hl:bY h l r) (hst:r.state= .ready) (hsz:args.size=r.params.size)
 (ht:Fits n ρ { tmps:=(r.params.zip args).foldl (fun tmps (t,a)=>tmps.setIfInBounds t a) r.tmps,defers:=[] }) (ha1:r.assign= .region id1 ops1 false) (hb1:r.body= .block idb (.region id2 ops2 false))
 (walk:aV P (some l) n ops1 0 ρ h (fun ρ1 h1=>bY h1 l r/\aV P (some l) n ops2 0 ρ1 (bA h1 l (.loop { r with state:=.busy })) (fun _ h2=>∃r2,bY h2 l r2/\Φ (.bool true) (bA h2 l (.loop { r2 with state:=.ready,pending:=none }))) (fun _ _=>False)) (fun _ _=>False)) :
 cV P l args h (aN Φ):=by
 intro m B w ha;have hlw:w.heap[l]? =some (.loop r):=by rw[ha.heap];exact hl
 refine⟨_,_,_,_,run_yield hlw hsz,roundIn_of_wpIn trivial ?_⟩;rw[ha1,hb1];refine wpIn_region ?_;refine walk m B _ w ht ha _ ?_ (fun _ _ _ _ _ _ k=>k.elim);rintro ρ1 h1 a1 w1 hf1 hw1 ⟨hl1,walk2⟩;have hlw1:w1.heap[l]? =some (.loop r):=by rw[hw1.heap];exact hl1
 refine⟨_,run_beginRound hlw1 hst,?_⟩;refine wpIn_block (wpIn_region ?_);refine walk2 m B a1 _ hf1 (hw1.bA l _) _ ?_ (fun _ _ _ _ _ _ k=>k.elim);rintro ρ2 h2 a2 w2 hf2 hw2 ⟨r2,hl2,hΦ⟩;have hlw2:w2.heap[l]? =some (.loop r2):=by rw[hw2.heap];exact hl2
 exact⟨_,_,run_endRound none hlw2,_,hw2.bA l _,_,rfl,hΦ⟩
theorem A5 {tmps:Array Value}{p1 p2:Nat}{v1 v2:Value}(hf:Fits n ρ { tmps:=tmps,defers:=[] }) (h1:Nat.blt p1 n=true) (h2:Nat.blt p2 n=true) :
 Fits n ((p2,v2)::(p1,v1)::ρ) { tmps:=((#[p1,p2]:Array Nat).zip #[v1,v2]).foldl (fun tmps (t,a)=>tmps.setIfInBounds t a) tmps,defers:=[] }:=by
 have:=(hf.put (dst:=some p1) h1 v1).put (dst:=some p2) h2 v2;simpa [Act.put,Env.put] using this
section
variable {P:Program}{f:FuncId}{fn:Func}{k:List It}{ρ:Env}{h:ai}{R:Ending->ai->Prop}{p:List Nat}
theorem G.Cf (hfn:P.funcs[f]? =some fn) (hk:kind (Lw.sub (aq fn) p)=5)
 (next:aV P none fn.ntmps (opsOf (Lw.sub (aq fn) p)) 0 ρ h (fun ρ' h'=>G P f fn k ρ' h' R) (fun ch h'=>R (.panicked ch) h')):G P f fn (.code p::k) ρ h R:=by
 refine rm (fun B a w hf ha=>?_) hfn;cases hc:Lw.sub (aq fn) p<;>simp[hc,kind] at hk;rename_i id ops d;cases d<;>simp at hk;rw[hc] at next
 refine(wpIn_wide (n:=0)).1 (wpIn_region ?_)
 have:=next 0 B a w hf ha (fun e a' w'=>match e with
  |.normal=>∃ρ' h',Fits fn.ntmps ρ' a'/\At B h' w'/\G P f fn k ρ' h' R
  |.panic ch=>a'.defers=[]/\∃h',At B h' w'/\R (.panicked ch) h'
  |_=>False) (fun ρ' h' a' w' f' a'' hn=>⟨ρ',h',f',a'',hn⟩) (fun ch h' a' w' hd a'' hx=>⟨hd,h',a'',hx⟩)
 rw[List.drop_zero] at this;exact this
abbrev dF (b:Nat):List Deferred:=[{ target:=.collected b,args:= #[] }]
def bK (fid:FuncId) (tmps:Array Value) (ps:Array Tmp) (assign body:Code) (b:Nat):Loop:= { state:=.ready,pending:=none,fn:=fid,tmps:=tmps,params:=ps,assign:=assign,body:=body,defers:=b }
theorem G.rangeFunc {g:Operand}{ps:Array Tmp}{assign body:Code}{f':FuncId}{fn':Func}{caps:Array Value}(hk:Lw.sub (aq fn) p= .rangeFunc g ps assign body) (hg:aT ρ g=some (.func (.func f') #[] caps))
 (hfn':P.funcs[f']? =some fn') (hb':fn'.body.isSome=true) (hnm':(fn'.name == "runtime.NumGoroutine")=false)
 (hcall:∀fid tmps,Fits fn.ntmps ρ { tmps:=tmps,defers:=[] }->aj P f' (#[.func (.yield (h.size+1)) #[] #[]]++caps) ((h.push (.deferred (some []))).push (.loop (bK fid tmps ps assign body h.size)))
  (aN fun _ h'=>∃r,bY h' (h.size+1) r/\r.state≠ .busy/\r.pending=none/\GD P (dF h.size) f fn k ρ (bA h' (h.size+1) (.loop { r with state:=.exhausted })) R)):G P f fn (.code p::k) ρ h R:=by
 intro B a w hf ha b hb hkk cs
 let Q:Exit->Act->World->Prop:=fun e a' w'=>match e with
  |.normal=>∃h',iN (dF h.size) fn.ntmps ρ a'/\At B h' w'/\GD P (dF h.size) f fn k ρ h' R
  |_=>False
 have hw:(Code.rangeFunc g ps assign body).wp P Q a w:=by
  refine(wpIn_wide (n:=0)).1 (wpIn_rangeFunc fun fid _=>?_);have hb2:fn'.body≠none:=by intro hbb;simp[hbb] at hb'
  have hnm2:¬fn'.name= "runtime.NumGoroutine" :=by simpa using hnm'
  have hf0:Fits fn.ntmps ρ { tmps:=a.tmps,defers:=[] }:=⟨hf.size,hf.ok,rfl⟩
  have ha2:At B ((h.push (.deferred (some []))).push (.loop (bK fid a.tmps ps assign body h.size))) ((w.alloc (.deferred (some []))).alloc (.loop (bK fid a.tmps ps assign body w.heap.size))):=by
   refine⟨?_,ha.os,ha.tape,ha.output⟩
   show ((w.heap.push _).push _)=_
   rw[ha.heap]
  let W1:World:=(w.alloc (.deferred (some []))).alloc (.loop (bK fid a.tmps ps assign body w.heap.size))
  refine⟨w.heap.size+1,dF w.heap.size,W1,{ target:=.fn (.func f') caps,args:= #[.func (.yield (w.heap.size+1)) #[] #[]] },W1,f',#[.func (.yield (w.heap.size+1)) #[] #[]]++caps,W1,run_enterLoop_outer fid a.tmps ps assign body,?_,fun _ _=>trivial,?_,fun h=>by simp[Fence.wide] at h,?_⟩
  · have hge:a.eval g= .func (.func f') #[] caps:=hf.eval hg;have hec:∀v,a.eval (.const v)=v:=fun _=>rfl
    simp[resolve,hge,Deferred.ofValue,hec]
  · simp[invoke,callFunc,hfn',hnm2,hb2]
  · refine s8 (ro:=none) ((?_:Calls P f' (#[.func (.yield (w.heap.size+1)) #[] #[]]++caps) ((w.alloc (.deferred (some []))).alloc (.loop (bK fid a.tmps ps assign body w.heap.size))) _));have hc:=hcall fid a.tmps hf0 B _ ha2;rw[<-ha.heap] at hc;refine hc.mono fun e w3 he=>?_
    obtain⟨h3,ha3,v,rfl,r,hl,hnb,hpd,hgd⟩:=he;have hl3:w3.heap[w.heap.size+1]? =some (.loop r):=by rw[ha3.heap];exact hl
    refine⟨r.pending,_,run_endLoop hl3 hnb,?_⟩;split
    · refine⟨_,⟨hf.size,hf.ok,?_⟩,ha3.bA _ _,by rw[<-ha.heap];exact hgd⟩
      show dF w.heap.size++a.defers=dF h.size
      rw[hf.nd,ha.heap];rfl
    · rename_i hc;rw[hpd] at hc;cases hc
 obtain⟨e,a',w',hq,harr⟩:=hw b (k.map (aF (aq fn))) cs;have hit:(It.code p::k).map (aF (aq fn))=Item.code (Code.rangeFunc g ps assign body)::k.map (aF (aq fn)):=by simp[aF,hk]
 rw[hit];cases e with
 |normal =>
  obtain⟨h',f'',a'',hgd⟩:=hq;obtain⟨e,w'',fr,h'',h1,h2,h3,h4,h5⟩:=hgd B a' w' f'' a'' b hb hkk cs;exact⟨e,w'',fr,h'',h1,h2,.of_steps harr h3,h4,h5⟩
 |panic ch=>exact hq.elim
 |exit id=>exact hq.elim
 |goto l=>exact hq.elim
 |ret=>exact hq.elim
 |outgrown=>exact hq.elim
theorem GD.DH {b0:Nat}{vs:List Value}(hfn:P.funcs[f]? =some fn) (hk:kind (Lw.sub (aq fn) p)=4) (hm:h[b0]? =some (.deferred (some []))) (hr:eT ρ fn.results.toList=some vs) (hR:R (.returned (packed vs)) (bA h b0 (.deferred none))):GD P (dF b0) f fn (.code p::k) ρ h R:=by
 intro B a w hf ha b hb hkk cs
 have hstep:Go.step P (lone (b.at a ((It.code p::k).map (aF (aq fn)))) cs w)= .next (lone { b.at a ((It.code p::k).map (aF (aq fn))) with mode:=.returning } cs w):=by
  simp only[List.map_cons,aF];cases hc:Lw.sub (aq fn) p<;>simp[hc,kind] at hk
  · rename_i d;cases d<;>simp at hk
  · exact step_ret
 have htake:(Instr.takeDeferred b0).run P w= .ok [] (w.putObj b0 (.deferred none)):=run_takeDeferred (by rw[ha.heap];exact hm);have h2:=step_collected (P:=P) (fr:= { b.at a ((It.code p::k).map (aF (aq fn))) with mode:=.returning }) (cs:=cs) (by simp) (hf.nd:_=_) rfl htake;have hz:=hf.zero;exact⟨.returned (packed vs),_,_,_,ha.bA b0 _,hR,.head hstep (.one h2),hb,rfl,rfl,hkk,fn,(show P.funcs[b.fn]? =some fn by rw[hb];exact hfn),lI hz _ hr⟩
end
theorem GD.gr {D:List Deferred}{f:FuncId}{fn:Func}{k:List It}{R:Ending->ai->Prop}{id:Nat}(next:GD P D f fn k ρ h R):GD P D f fn (.blk id::k) ρ h R :=
 zw (fun _ _ _ _=>step_inBlock) next
def FG:Code->Code|.rangeFunc _ _ a _=>a|c=>c
def FF:Code->Code|.rangeFunc _ _ _ b=>b|c=>c
theorem suff {p q:Prop}(h:p) (k:p->q):q:=k h
theorem an.makeFunc {P:Program}{ρ:Env}{h:ai}{dst:Option Nat}{ty:TypeId}{pos:String}{after:Array Edge}{guard:Option (Nat×Bool)}{g:Fn}{xs:Array Operand}{vs:List Value}(hvs:xs.toList.map (aT ρ)=vs.map some) :
 an P ⟨dst,.makeFunc g #[] xs,ty,pos,after,guard⟩ ρ h (.func g #[] vs.toArray):=by
 intro _ B a w hf _
 have hargs:xs.map a.eval=vs.toArray:=by
  apply Array.ext'
  simp only[Array.toList_map]
  have key:∀(l:List Operand) (us:List Value),l.map (aT ρ)=us.map some->l.map a.eval=us:=by
   intro l
   induction l with
   |nil=>intro us hu;cases us<;>simp_all
   |cons x r ih =>
    intro us hu;cases us with
    |nil=>simp at hu
    |cons u us =>
     simp only[List.map_cons,List.cons.injEq] at hu ⊢;exact⟨hf.eval hu.1,ih us hu.2⟩
  exact key _ _ hvs
 simp[execOp,Instr.makeFunc,hargs]
end
end Go.Lw
