/- What the proof of the statement leans on (part 25). -/
import Derived.Lib.MakeNoZero
import Derived.Laws.CopyOwn
import Derived.Test.YtedocgkapmeceaaGreatDoorQx

namespace Go.Lw
open Go.RowKit
section
variable {P:Program}{ρ:Env}{h:aD}{dst:Option Nat}{ty:TypeId}{pos:String}{after:Array Edge}{guard:Option (Nat×Bool)}{X:List PanicEntry→aD→Prop}
theorem aj.Be {t e:TypeId}{x:Operand}{oa:Option Addr}{n c:Nat}(hu:P.underlying t=some (.slice e)) (hx:bW ρ x=some (.slice oa n c)) :
 aj P ⟨dst,.call ⟨.builtin .cap,#[x],#[t]⟩,ty,pos,after,guard⟩ ρ h (.int .i64 c):=by
 intro _ B a w hf _;simp[execOp,resolve,invoke,builtin,Builtin.cap_,run_underlying hu,hf.eval hx,goInt]
theorem aj.Gn {t t' e:TypeId}{x y:Operand}{oa ob:Option Addr}{n c m d:Nat}(hu:P.underlying t=some (.slice e)) (hs:(P.info? e).map (·.size)=some 1) (hx:bW ρ x=some (.slice oa n c)) (hy:bW ρ y=some (.slice ob m d)) (h0:Nat.min m n=0) :
 aj P ⟨dst,.call ⟨.builtin .copy,#[x,y],#[t,t']⟩,ty,pos,after,guard⟩ ρ h (.int .i64 0):=by
 intro _ B a w hf _;have hrun:=run_copy_none (P:=P) w t t' ty e oa ob n c m d hu hs h0;simp[execOp,resolve,invoke,builtin,hf.eval hx,hf.eval hy,hrun,goInt]
theorem vP {f:FuncId}{fn:Func}{x:Operand}{ts ps:Array TypeId}{t e:TypeId}{i:Int}(hf:P.funcs[f]? =some fn) (hname:(fn.name == "runtime.NumGoroutine")=false)
 (hb:fn.body.isNone=true) (hn:Extern.findNext fn=none) (he:Extern.find fn=some (Extern.BytealgMakeNoZero.makeNoZero ps #[t])) (ht:P.underlying t=some (.slice e)) (hx:bW ρ x=some (.int .i64 i)) (n:Nat) (hi:i=n) (hle:n≤1000000000) :
 aC P ⟨dst,.call ⟨.value (.func f),#[x],ts⟩,ty,pos,after,guard⟩ ρ h (fun v g=>∃cs:Array Value,v= .slice (some ⟨h.size,0,none⟩) n cs.size∧g=h.push (.cells cs e)∧n≤cs.size∧cs.size≤maxLen) X:=by
 intro nn B a w hfit ha next Q hq _
 subst hi;obtain⟨cs,hr,h1,h2⟩:=Lib.run_makeNoZero (P:=P) w ps t e ht n (by omega);have hc:=run_callFunc_extern (P:=P) hf hname hb hn he #[.int .i64 n] w;rw[hr] at hc
 have hrun:(execOp a.eval ⟨dst,.call ⟨.value (.func f),#[x],ts⟩,ty,pos,after,guard⟩).run P w= .ok (.value (.slice (some ⟨w.heap.size,0,none⟩) n cs.size)) (w.drew.drew.alloc (.cells cs e)):=by
  simp only[execOp,resolve,Act.eval,Deferred.ofValue,invoke];simp[hfit.eval hx,hc]
 unfold Oper.wp;rw[hrun];refine hq _ (w.heap.push (.cells cs e)) _ ⟨rfl,ha.os,ha.tape,ha.output⟩ ⟨cs,by rw[ha.heap],by rw[ha.heap],h1,h2 (by simp only[maxLen];omega)⟩
end
end Go.Lw
namespace Go.Proofs.YtedocgkapmeceaaGreatDoor
open Go.Proofs.Tryz
open Go Go.Lw
set_option maxRecDepth 20000
section
variable {h:aD}
theorem Ds:(Tryz.prog.info? 5).map (·.size)=some 1:=by kernel_rfl
theorem Ch {b:Nat}{p:Value}(hk:bq h b 178 [p,.slice none 0 0]) (n:Nat) (hn:n≤1000000000) :
 ai Tryz.prog 141 #[.pointer (some ⟨b,0,none⟩),.int .i64 (n:Nat)] h (cL fun _ h'=>(∃v,bq h' b 178 [p,v]∧CD h' (b+1) 5 v [])∧Ext (fun x=>x=b) h h'∧h.size≤h'.size):=by
 have hkl:=hk.lt;have hc1:=hk.cell (i:=1) rfl;refine ai.of func141 rfl rfl ?_;refine av rfl ?_;refine bV (fun x=>Array.size h≤x) (fun i=>Nat.blt i 16) (sz:=16) (listed:= #[false,false,false,false,false,false,false,false,false,false,false,false,false,false,false,false]) func141 H.mixed rfl rfl rfl ?_;refine b9 0 1 (by kernel_rfl) rfl ?_;refine b9 1 3 (by kernel_rfl) rfl ?_;refine bI 2 7 (by kernel_rfl) rfl (fun h' e=>af (off:=1) underlying178 rfl rfl H.oC rfl) ?_;refine bI 3 15 (by kernel_rfl) rfl (fun h' e=>ah H.zg rfl (e.cell (show ¬Array.size h≤b by omega) hc1)) ?_;refine bI 4 31 (by kernel_rfl) rfl (fun h' e=>aj.Be underlying56 rfl) ?_;refine bI 5 63 (by kernel_rfl) rfl (fun h' e=>aj.Ix rfl rfl ⟨by omega,by omega⟩) ?_;refine b9 6 127 (by kernel_rfl) rfl ?_;refine bI 7 255 (by kernel_rfl) rfl (fun h' e=>aj.bA rfl rfl ⟨by omega,by omega⟩) ?_;refine b9 9 767 (by kernel_rfl) rfl ?_;refine b9 10 1791 (by kernel_rfl) rfl ?_;refine bI 11 3839 (by kernel_rfl) rfl (fun h' e=>af (off:=1) underlying178 rfl rfl H.oC rfl) ?_;refine bI 12 7935 (by kernel_rfl) rfl (fun h' e=>ah H.zg rfl (e.cell (show ¬Array.size h≤b by omega) hc1)) ?_;refine bI 13 16127 (by kernel_rfl) rfl (fun h' e=>aj.aJ underlying56 rfl) ?_;refine cU 8 16383 (by kernel_rfl) rfl (vP (ps:=_) (t:=56) func159 (by decide +kernel) (by kernel_rfl) (by kernel_rfl) rfl underlying56 rfl n (by omega) hn) ?_;rintro _ h1 ⟨cs,rfl,hh1,hn1,hn2⟩;refine⟨fun _=>by rw[hh1];exact Ext.push _ _ _,?_⟩;refine bI 14 32767 (by kernel_rfl) rfl (fun h' e=>aj.lg underlying56 H.Jt rfl rfl 0 rfl (Nat.zero_le _)) ?_;refine b9 15 65535 (by kernel_rfl) rfl ?_;refine bg (by kernel_rfl) ?_;refine xu [0,1,4] rfl ?_;refine br func141 3 rfl ?_;refine xp rfl (af (off:=1) underlying178 rfl rfl H.oC rfl) ?_;have e1:aF h h1:=by rw[hh1];exact Ext.push _ _ _
 have k1:=hk.ax e1
 have ho:CD h1 (b+1) 5 (.slice (cX (some ⟨h.size,0,none⟩) 0 1 cs.size) 0 cs.size) []:=by
  have hp:cX (some ⟨h.size,0,none⟩) 0 1 cs.size=some ⟨h.size,0,none⟩:=by
   unfold cX;split
   · rfl
   · rfl
  rw[hp];exact⟨rfl,.inr ⟨h.size,cs.size,cs,rfl,hkl,by rw[hh1];simp,Nat.zero_le _,hn2,by simp,by simp⟩⟩
 refine xp rfl (ah H.zg rfl (k1.cell (i:=1) rfl)) ?_;refine xp rfl (aj.Gn underlying56 Ds rfl rfl rfl) ?_;refine xd [0,1,4] rfl ?_;refine G.bT func141 rfl ?_;refine bP 3 rfl rfl (af (off:=1) underlying178 rfl rfl H.oC rfl) ?_;refine RW.bZ rfl rfl rfl (aC.bF H.oC rfl rfl k1 (by first|decide|exact of_decide_eq_true rfl|(simp;done)|(simp;omega)) rfl) ?_;rintro _ h2 ⟨rfl,k2,x2,z2⟩;refine xd [0,1,4] rfl ?_;refine G.u6 func141 rfl ?_;have z1:=e1.size;refine⟨_,rfl,⟨_,k2,aS.ext x2 ho (fun g hg=>?_)⟩,?_,by omega⟩
 · have:=(aS.lt ho hg).1;omega
 · exact(e1.mono (fun _ _ k=>k.elim)).trans x2
theorem CI {b:Nat}(hk:bq h b 178 [.pointer none,.slice none 0 0]) (n:Nat) (hn:n≤1000000000) :
 ai Tryz.prog 108 #[.pointer (some ⟨b,0,none⟩),.int .i64 (n:Nat)] h (cL fun _ h'=>jY h' b 178 5 []∧Ext (fun x=>x=b) h h'):=by
 refine ai.of func108 rfl rfl ?_;refine br func108 1 rfl ?_;refine xo rfl (aq (vs:=[_]) func140 rfl H.FG rfl (ai.bw (iA hk (.inl rfl)))) ?_;rintro _ h1 ⟨k1,x1,z1⟩;refine xd [0,1] rfl ?_;refine av rfl ?_;refine aW func108 2 [0,1,7] rfl ?_;refine aI rfl rfl (fun hc=>absurd hc (by simp)) (fun _=>?_);refine aE rfl ?_;refine av rfl ?_;refine bV (fun _=>False) (fun i=>Nat.blt i 13) (sz:=13) (listed:= #[false,false,false,false,false,false,false,false,false,false,false,false,false]) func108 H.mixed rfl rfl rfl ?_;refine b9 0 1 (by kernel_rfl) rfl ?_;refine b9 1 3 (by kernel_rfl) rfl ?_;refine bI 2 7 (by kernel_rfl) rfl (fun h' e=>af (off:=1) underlying178 rfl rfl H.oC rfl) ?_;refine bI 3 15 (by kernel_rfl) rfl (fun h' e=>ah H.zg rfl (e.cell (fun q=>q) (k1.cell (i:=1) rfl))) ?_;refine bI 4 31 (by kernel_rfl) rfl (fun h' e=>aj.Be underlying56 rfl) ?_;refine b9 5 63 (by kernel_rfl) rfl ?_;refine b9 6 127 (by kernel_rfl) rfl ?_;refine bI 7 255 (by kernel_rfl) rfl (fun h' e=>af (off:=1) underlying178 rfl rfl H.oC rfl) ?_;refine bI 8 511 (by kernel_rfl) rfl (fun h' e=>ah H.zg rfl (e.cell (fun q=>q) (k1.cell (i:=1) rfl))) ?_;refine bI 9 1023 (by kernel_rfl) rfl (fun h' e=>aj.aJ underlying56 rfl) ?_;refine bI 10 2047 (by kernel_rfl) rfl (fun h' e=>aj.iF rfl rfl ⟨by omega,by omega⟩) ?_;refine b9 11 4095 (by kernel_rfl) rfl ?_;refine b9 12 8191 (by kernel_rfl) rfl ?_;refine bg (by kernel_rfl) ?_;refine xu [0,1,7,21] rfl ?_;refine aL rfl rfl (fun hlt=>?_) (fun hlt=>?_)
 · refine G.bT func108 rfl ?_;refine aT 2 rfl ?_;refine xo rfl (aq (vs:=[_,_]) func141 rfl H.Ki rfl (ai.bw (Ch k1 n hn))) ?_;rintro _ h2 ⟨⟨v,k2,ho⟩,x2,z2⟩;refine xd [0,1,7,21] rfl ?_;refine G.u6 func108 rfl ?_;exact⟨_,rfl,⟨_,_,k2,.inr rfl,ho⟩,x1.trans x2⟩
 · refine aE rfl ?_;refine G.u6 func108 rfl ?_;exact⟨_,rfl,⟨_,_,k1,.inr rfl,cK.nil _ _ _ _⟩,x1⟩
def ko (ws:List By):Nat:=(ws.map List.length).sum
theorem DB {ws:List By}{i:Nat}{w:By}(h:ws[i]? =some w):ko (ws.take (i+1))=ko (ws.take i)+w.length:=by
 unfold ko;rw[List.take_add_one,h];simp
theorem gP (x:By):∀l:List By,dP (x::l)=x++l.flatMap fun y=>(59:UInt8)::32::y
 | []=>by simp[dP]
 |y::l=>by rw[dP,gP y l,List.flatMap_cons];rfl
theorem nI:∀ws:List By,(dP ws).length=ko ws+2*(ws.length-1)
 | []=>rfl
 |x::xs=>by
  have:∀l:List By,(l.flatMap fun y=>(59:UInt8)::32::y).length=ko l+2*l.length:=by
   intro l
   induction l with
   |nil=>rfl
   |cons y l ih=>rw[List.flatMap_cons,List.length_append,ih];simp[ko];omega
  rw[gP,List.length_append,this];simp[ko];omega
theorem tn (ws:List By) (i:Nat):ko (ws.take i)≤ko ws:=by
 have:ko (ws.take i++ws.drop i)=ko (ws.take i)+ko (ws.drop i):=by unfold ko;rw[List.map_append,List.sum_append]
 rw[List.take_append_drop] at this;omega
theorem CH {O:Nat→Prop}{v:Value}{ws:List By}(hv:bU mV h O v ws) (hb:(dP ws).length≤100000000) :
 ai Tryz.prog 60 #[v,.string (bs [59,32])] h (cL fun r h'=>r= .string (bs (dP ws))∧aF h h'):=by
 obtain⟨oa,n,c,rfl,hsl⟩:=hv.open;have hn:=hsl.len;subst hn;have hjl:=nI ws;have h32:(bs [59,32]).size=2:=rfl;refine ai.of func60 rfl rfl ?_;refine aW func60 1 [0,1,4] rfl ?_;refine av rfl ?_;refine br func60 1 rfl ?_;refine xp rfl (aj.aJ underlying93 rfl) ?_;refine xd [0,1,4,12] rfl ?_;refine G.block rfl rfl ?_;refine aW func60 2 [0,1,4,12,13] rfl ?_;refine aL rfl rfl (fun h0=>?_) (fun h0=>?_)
 · have:ws=[]:=List.eq_nil_of_length_eq_zero (by omega);subst this;refine aW func60 1 [0,1,4,12,13] rfl ?_;refine G.ret func60 rfl rfl ?_;exact⟨_,rfl,rfl,Ext.refl _ _⟩
 · refine aW func60 2 [0,1,4,12,13,15] rfl ?_;refine aL rfl rfl (fun h1=>?_) (fun h1=>?_)
   · obtain⟨x,rfl⟩:∃x,ws=[x]:=List.length_eq_one_iff.1 (by omega);obtain⟨b,o,y,ha,_,hy,hc⟩:=hsl.at (show 0 < [x].length from Nat.one_pos);cases hy;refine br func60 1 rfl ?_;refine xp rfl (aj.ay underlying93 H.dA rfl rfl 0 rfl ha Nat.one_pos) ?_;refine xp rfl (ah H.dO rfl hc) ?_;refine aQ 1 [0,1,4,12,13,15] rfl ?_;refine G.ret func60 rfl rfl ?_;exact⟨_,rfl,rfl,Ext.refl _ _⟩
   · refine aE rfl ?_;refine G.aN ?_;refine aW func60 1 [0,1,4,5,12,13,15] rfl ?_;refine av rfl ?_;refine br func60 1 rfl ?_;refine xp rfl (aj.bG underlying9 rfl) ?_;refine aQ 1 [0,1,4,5,12,13,15,22] rfl ?_;refine aI rfl rfl (fun _=>?_) (fun hc=>absurd hc (by decide))
     have hq:((9223372036854775807:Int).tdiv ((ws.length:Int)-1))≥3:=by
      rw[Int.tdiv_eq_ediv_of_nonneg (by decide)];exact(Int.le_ediv_iff_mul_le (by omega)).2 (by omega)
     have hq2:((9223372036854775807:Int).tdiv ((ws.length:Int)-1))≤9223372036854775807:=by
      rw[Int.tdiv_eq_ediv_of_nonneg (by decide)];exact Int.ediv_le_self _ (by decide)
     have hq3:IntKind.i64.wrap ((9223372036854775807:Int).tdiv ((ws.length:Int)-1))=((9223372036854775807:Int).tdiv ((ws.length:Int)-1)):=wrap_i64 ⟨by omega,by omega⟩;refine av rfl ?_;refine br func60 1 rfl ?_;refine xp rfl (aj.bG underlying9 rfl) ?_;refine bP 1 rfl rfl (aj.aJ underlying93 rfl) ?_;refine xp rfl (aj.iF rfl rfl ⟨by omega,by omega⟩) ?_;refine xp rfl (zl rfl rfl (by omega)) ?_;refine aQ 1 [0,1,4,5,12,13,15,22,29] rfl ?_;refine aI rfl rfl (fun hc=>absurd hc (by rw[hq3];simp;omega)) (fun _=>?_);refine aE rfl ?_;refine G.bT func60 rfl ?_;refine bP 2 rfl rfl (aj.bG underlying9 rfl) ?_;refine bP 1 rfl rfl (aj.aJ underlying93 rfl) ?_;refine xp rfl (aj.iF rfl rfl ⟨by omega,by omega⟩) ?_;refine xp rfl (aj.Ix rfl rfl ⟨by rw[h32];omega,by rw[h32];omega⟩) ?_;refine xp rfl (aj.bA rfl rfl ⟨by rw[h32];omega,by rw[h32];omega⟩) ?_;refine aQ 1 [0,1,4,5,12,13,15,22,29] rfl ?_;refine av rfl ?_;refine br func60 1 rfl ?_;refine xp rfl (aj.aJ underlying93 rfl) ?_;refine aQ 1 [0,1,4,5,12,13,15,22,29,39,40,41] rfl ?_;refine G.block rfl rfl ?_;rw[show (0:Int)+((bs [59,32]).size:Int)*((ws.length:Int)-1)=((2*(ws.length-1)+ko (ws.take 0):Nat):Int) by rw[h32,List.take_zero];show _=((2*(ws.length-1)+0:Nat):Int);omega];refine bE (σ:=Nat) (fun i=>[(0,.slice oa ws.length c),(1,.string (bs [59,32])),(5,.int .i64 ((2*(ws.length-1)+ko (ws.take i):Nat):Int)),(39,.slice oa ws.length c),(40,.int .i64 (ws.length:Nat)),(41,.int .i64 (i:Nat))]) (fun i h'=>i≤ws.length∧h'=h) (fun i=>ws.length-i) (0) rfl ⟨rfl,rfl,rfl,rfl,rfl,rfl,trivial⟩ ⟨Nat.zero_le _,rfl⟩ ?_;rintro i g ⟨hi,hg⟩ ih;subst hg;have hsle:=tn ws (i+1);refine aW func60 1 [0,1,5,39,40,41,42] rfl ?_;refine av rfl ?_;refine aL rfl rfl (fun hlt=>?_) (fun hlt=>?_)
     · have hil:i<ws.length:=by omega
       obtain⟨w,hw⟩:∃w,ws[i]? =some w:=⟨_,List.getElem?_eq_getElem hil⟩
       have hst:=DB hw;have hwz:=bp w;obtain⟨b,o,y,ha,_,hy,hc⟩:=hsl.at hil;rw[hw] at hy;cases hy;refine aE rfl ?_;refine av rfl ?_;refine G.block rfl rfl ?_;refine xr func60 rfl ?_;refine xp rfl (aj.ay underlying93 H.dA rfl rfl i rfl ha (by omega)) ?_;refine xp rfl (ah H.dO rfl hc) ?_;refine aQ 1 [0,1,5,7,39,40,41,42] rfl ?_;refine av rfl ?_;refine br func60 1 rfl ?_;refine xp rfl (aj.bG underlying9 rfl) ?_;refine bP 1 rfl rfl (aj.iF rfl rfl ⟨by omega,by omega⟩) ?_;refine aQ 1 [0,1,5,7,39,40,41,42,49] rfl ?_;refine aI rfl rfl (fun hc=>absurd hc (by simp;omega)) (fun _=>?_);refine aE rfl ?_;refine G.bT func60 rfl ?_;refine bP 2 rfl rfl (aj.bG underlying9 rfl) ?_;refine xp rfl (aj.bA rfl rfl ⟨by omega,by omega⟩) ?_;refine aQ 1 [0,1,5,7,39,40,41,42,49] rfl ?_;refine G.aN ?_;refine G.bT func60 rfl ?_;refine xp rfl (aj.bA rfl rfl ⟨by omega,by omega⟩) ?_;refine aQ 1 [0,1,5,7,39,40,41,42,49] rfl ?_;exact ih (i+1) _ _ ⟨rfl,rfl,congrArg (fun x:Int=>some (Value.int .i64 x)) (by rw[hst,hwz];omega),rfl,rfl,rfl,trivial⟩ ⟨by omega,rfl⟩ (by omega)
     · have hie:ws.take i=ws:=List.take_of_length_le (by omega);rw[hie];refine bz rfl rfl ?_;refine xr func60 rfl ?_;refine xo rfl (aC.aR H.EM) ?_;rintro _ h1 ⟨rfl,k1,e1,z1⟩;refine xd [0,1,5,8,39,40,41,42] rfl ?_;refine br func60 1 rfl ?_;have k1:bq h1 g.size 178 [.pointer none,.slice none 0 0]:=k1;obtain⟨x,tl,rfl⟩:∃x tl,ws=x::tl:=by cases ws with|nil=>simp at h0|cons x tl=>exact⟨x,tl,rfl⟩
       refine xo rfl (aq (vs:=[_,_]) func108 rfl H.Ku rfl (ai.bw (CI k1 _ (by omega)))) ?_;rintro _ h2 ⟨hb2,x2⟩;refine xd [0,1,5,8,39,40,41,42] rfl ?_;refine br func60 1 rfl ?_;have e02:=aF.only e1 x2 (Nat.le_refl _);have hxz:=bp x;have hxl:x.length≤ko (x::tl):=by simp[ko]
       obtain⟨b,o,y,ha,_,hy,hc⟩:=(hsl.mv (Mv.ax e02)).at (show 0<(x::tl).length by simp);cases hy;refine xp rfl (aj.ay underlying93 H.dA rfl rfl 0 rfl ha (by simp)) ?_;refine xp rfl (ah H.dO rfl hc) ?_;refine xo rfl (aq (vs:=[_,_]) func106 rfl H.Ay rfl (ai.bw (dU (bs x) hb2 (by rw[hxz];simp only[List.length_nil];omega)))) ?_;rintro _ h3 ⟨rfl,hb3,x3⟩;refine xd [0,1,5,8,39,40,41,42] rfl ?_;refine av rfl ?_;refine br func60 1 rfl ?_;rw[gC,List.nil_append] at hb3;have e03:=eP e02 x3 (Nat.le_refl _);have hpart:=hsl.part (i:=1) (j:=(x::tl).length) (by simp) (Nat.le_refl _);rw[List.take_length,List.drop_one,List.tail_cons] at hpart;refine xp rfl (aj.pO underlying93 H.dA rfl rfl 1 rfl (by simp)) ?_;refine xp rfl (aj.aJ underlying93 rfl) ?_;refine aQ 1 [0,1,5,8,39,40,41,42,63,64,65] rfl ?_;refine G.block rfl rfl ?_;refine bE (σ:=Nat) (fun i=>[(1,.string (bs [59,32])),(8,.pointer (some ⟨g.size,0,none⟩)),(63,.slice (cX oa 1 1 c) ((x::tl).length-1) (c-1)),(64,.int .i64 (((x::tl).length-1:Nat):Int)),(65,.int .i64 (i:Nat))]) (fun i h'=>i≤tl.length∧jY h' g.size 178 5 (dP (x::tl.take i))∧aF g h') (fun i=>tl.length-i) (0) rfl ⟨rfl,rfl,rfl,rfl,rfl,trivial⟩ ⟨Nat.zero_le _,by rw[List.take_zero,dP];exact hb3,e03⟩ ?_;rintro i g4 ⟨hi,hb4,e04⟩ ih;have hjt:=nI (x::tl.take i);have hst:=tn (x::tl) (i+1);rw[List.take_succ_cons] at hst;simp only[List.length_cons,List.length_take] at hjt;simp only[List.length_cons] at hb hjl;have hlc:(x::tl).length-1=tl.length:=rfl;refine aW func60 1 [1,8,63,64,65,66] rfl ?_;refine av rfl ?_;refine aL rfl rfl (fun hlt4=>?_) (fun hlt4=>?_)
       · have hil:i<tl.length:=by omega
         obtain⟨w,hw⟩:∃w,tl[i]? =some w:=⟨_,List.getElem?_eq_getElem hil⟩
         have hwz:=bp w;have hst2:=tn (x::tl) (i+2);rw[List.take_succ_cons] at hst2;have htk:tl.take (i+1)=tl.take i++[w]:=by rw[List.take_add_one,hw];rfl
         have hs2:ko (x::tl.take (i+1))=ko (x::tl.take i)+w.length:=by rw[htk];simp[ko];omega
         have hjn:dP (x::tl.take (i+1))=(dP (x::tl.take i)++[59,32])++w:=by rw[htk,gP,gP];simp
         obtain⟨b5,o5,y5,ha5,_,hy5,hc5⟩:=(hpart.mv (Mv.ax e04)).at (show i<(x::tl).length-1 by omega);rw[hw] at hy5;cases hy5;refine aE rfl ?_;refine av rfl ?_;refine G.block rfl rfl ?_;refine xr func60 rfl ?_;refine xp rfl (aj.ay underlying93 H.dA rfl rfl i rfl ha5 (by omega)) ?_;refine xp rfl (ah H.dO rfl hc5) ?_;refine aQ 1 [1,8,10,63,64,65,66] rfl ?_;refine br func60 1 rfl ?_;refine xo rfl (aq (vs:=[_,_]) func106 rfl H.Ay rfl (ai.bw (dU (bs [59,32]) hb4 (by rw[h32];omega)))) ?_;rintro _ h5 ⟨rfl,hb5,x5⟩;refine xd [1,8,10,63,64,65,66] rfl ?_;refine G.bT func60 rfl ?_;refine aT 1 rfl ?_;rw[gC] at hb5;refine xo rfl (aq (vs:=[_,_]) func106 rfl H.Ay rfl (ai.bw (dU (bs w) hb5 (by rw[hwz,List.length_append];simp only[List.length_cons,List.length_nil];omega)))) ?_;rintro _ h6 ⟨rfl,hb6,x6⟩;refine xd [1,8,10,63,64,65,66] rfl ?_;refine G.aN ?_;refine G.bT func60 rfl ?_;refine xp rfl (aj.bA rfl rfl ⟨by omega,by omega⟩) ?_;refine aQ 1 [1,8,10,63,64,65,66] rfl ?_;rw[gC,←hjn] at hb6;exact ih (i+1) _ _ ⟨rfl,rfl,rfl,rfl,rfl,trivial⟩ ⟨by omega,hb6,eP (eP e04 x5 (Nat.le_refl _)) x6 (Nat.le_refl _)⟩ (by omega)
       · have hie:tl.take i=tl:=List.take_of_length_le (by omega);rw[hie] at hb4;refine bz rfl rfl ?_;refine xr func60 rfl ?_;refine xo rfl (aq (vs:=[_]) func107 rfl H.FK rfl (ai.bw (jW hb4 (by omega)))) ?_;rintro _ h5 ⟨rfl,x5⟩;refine aQ 1 [1,4,8,63,64,65,66] rfl ?_;refine G.ret func60 rfl rfl ?_;exact⟨_,rfl,rfl,eP e04 x5 (Nat.le_refl _)⟩
end
end Go.Proofs.YtedocgkapmeceaaGreatDoor
