/- What the proof of the statement leans on (part 24). -/
import Derived.LaidLaws
import Derived.LaidMore
import Derived.OpenShut
import Derived.Stop.Joined
import Derived.ChangeMaps5
import Derived.Lay
import Derived.Test.YtdihgdeciopfpaaGreatDoorQw

namespace Go.Proofs.YtdihgdeciopfpaaGreatDoor
open Go.Proofs.Tryz
open Go Go.Lw Go.ChangeShapes Go.WideShapes Go.ChangeAt Go.RowKit
set_option maxRecDepth 20000
theorem own:ownKnob Tryz.prog.godebug=none:=by kernel_rfl
theorem laidOut:laidOutB Tryz.prog=true:=by kernel_rfl
theorem EC (c:UInt8):((ju (c.toNat:Int) [((42:Int),(4:Int)),(43,5),(63,6)]).map (Value.int .i64)).getD (Value.int .i64 0)=Value.int .i64 (cP c:Nat):=by
 have hc:∀n:Nat,n<256->(c.toNat=n↔c=UInt8.ofNat n):=fun n hn=>by
  rw[<-UInt8.toNat_inj];simp;rw[Nat.mod_eq_of_lt hn]
 simp only[ju,cP]
 by_cases h1:c=42
 · subst h1;rfl
 by_cases h2:c=43
 · subst h2;rfl
 by_cases h3:c=63
 · subst h3;rfl
 have n1:¬(c.toNat:Int)=42:=fun e=>h1 ((hc 42 (by decide)).1 (by omega))
 have n2:¬(c.toNat:Int)=43:=fun e=>h2 ((hc 43 (by decide)).1 (by omega))
 have n3:¬(c.toNat:Int)=63:=fun e=>h3 ((hc 63 (by decide)).1 (by omega))
 simp[h1,h2,h3,n1,n2,n3]
theorem Fo {W:World}{g t:Nat}{cs:Array Value}{fuel:Nat}{pl:List MemPlace}{sp:Nat->Bool}{held:Bool}{enc:TypeId×Value->Unit}(hg:Tryz.prog.globalNamed "limner/regs.signs" =some g) (ht:(Tryz.prog.globals[g]?).map (·.type)=some t) (hv:W.var? Tryz.prog "limner/regs.signs" =some cs)
 (hd:DataW.trod enc Tryz.prog W 0 sp held fuel t cs.toList=some (Rows.laid_limner_regs_signs,pl)):Sg W.heap W.heap.size:=by
 have gT:Tryz.prog.globalNamed "limner/regs.signs" =some 12:=by kernel_rfl
 have tT:(Tryz.prog.globals[12]?).map (·.type)=some 429:=by kernel_rfl
 obtain rfl:=Option.some.inj (gT.symm.trans hg);obtain rfl:=Option.some.inj (tT.symm.trans ht);obtain⟨b,hcs,l,hm,hp⟩:=F4 (kk:=.u8) (kd:=.i64) underlying429 underlying5 underlying3 hd
 have hcell:W.cell? ⟨12,0,none⟩=some (.map (some b)):=by
  have:=World.var?_cell hg hv 0;obtain⟨l1⟩:=cs;simp only at hcs;subst hcs;simpa using this
 have hc2:cellAt W.heap ⟨12,0,none⟩=some (.map (some b)):=(At.refl W).cell _▸hcell
 have hperm:l.Perm [((42:Int),(4:Int)),(43,5),(63,6)]:=by
  have hinj:∀p q:Int×Int,((.int .u8 p.1,.lit (.int .i64 p.2)):Lit×DataW Unit)=(.int .u8 q.1,.lit (.int .i64 q.2))->p=q:=by
   intro p q h;simp only[Prod.mk.injEq,Lit.int.injEq,DataW.lit.injEq,true_and] at h;exact Prod.ext h.1 h.2
  have hp':(l.map fun p=>((.int .u8 p.1,.lit (.int .i64 p.2)):Lit×DataW Unit)).Perm ([((42:Int),(4:Int)),(43,5),(63,6)].map fun p=>((.int .u8 p.1,.lit (.int .i64 p.2)):Lit×DataW Unit)):=hp
  have hback:∀m:List (Int×Int),(m.map fun p=>((.int .u8 p.1,.lit (.int .i64 p.2)):Lit×DataW Unit)).map (fun y=>match y with|(.int _ a,.lit (.int _ b))=>(a,b)|_=>((0:Int),(0:Int)))=m:=by
   intro m;rw[List.map_map];have:((fun y=>match y with|(.int _ a,.lit (.int _ b))=>(a,b)|_=>((0:Int),(0:Int)))∘fun p=>((.int .u8 p.1,.lit (.int .i64 p.2)):Lit×DataW Unit))=id:=by funext p;rfl
   rw[this,List.map_id]
  have:=hp'.map (fun y=>match y with|(.int _ a,.lit (.int _ b))=>(a,b)|_=>((0:Int),(0:Int)))
  rwa [hback,hback] at this
 refine⟨b,cL hc2,hm.lt,hc2,l,hm,fun c=>?_⟩;rw[G1 hperm (by decide)];exact EC c
end Go.Proofs.YtdihgdeciopfpaaGreatDoor
namespace Go.Proofs.YtdihgdeciopfpaaGreatDoor
open Go.Proofs.Tryz
open Go Go.Lw
set_option maxRecDepth 20000
section
variable {h h' g3 g4:au}{b db n:Nat}{v v3:Value}{l:List UInt8}{O:Nat->Prop}{d:cV}{live:List Bool}{cls:List Int}
theorem bInfo:∃j,Tryz.prog.info? 112=some j/\j.size≠0:=⟨_,rfl,by decide⟩
theorem E6:∃i,Tryz.prog.info? 5=some i/\i.zero=some (.int .u8 0)/\i.size=1/\i.bytes=1:=⟨_,rfl,rfl,rfl,rfl⟩
theorem Nh:liesAt Tryz.prog Tryz.prog.depth 112 (2 / Tryz.prog.cellsOf 112) 0 112 1=true:=by kernel_rfl
theorem CD:Tryz.prog.cellsOf 5=1:=by kernel_rfl
theorem qf (hb:aL h b 112 [.pointer none,v]) :
 af Tryz.prog 91 #[.pointer (some ⟨b,0,none⟩)] h (bC fun _ h'=>aL h' b 112 [.pointer (some ⟨b,0,none⟩),v]/\Ext (fun i=>i=b) h h'/\h'.size=h.size):=by
 obtain⟨j,hj,hj0⟩:=bInfo;refine af.of func91 rfl rfl ?_;refine bg func91 2 rfl ?_;refine xp rfl (aa (off:=0) underlying112 rfl rfl H.lX rfl) ?_;refine xp rfl (ah H.vE rfl (hb.cell (i:=0) rfl)) ?_;refine xp rfl (ai.fN underlying109 rfl rfl) ?_;refine xd [0,6] rfl ?_;refine ay rfl rfl (fun _=>?_) (fun hc=>absurd hc (by decide));refine G.bB func91 rfl ?_;refine bO 2 rfl rfl (ai.yw underlying109 underlying247 hj hj0 hb (by simp) rfl) ?_;refine xp rfl (ai.zi func145 (by decide +kernel) (by kernel_rfl) (by kernel_rfl) (by kernel_rfl) rfl) ?_;refine xp rfl (ai.sE underlying247 underlying109 hj hb Nh rfl) ?_;refine bO 1 rfl rfl (aa (off:=0) underlying112 rfl rfl H.lX rfl) ?_;refine RW.bT rfl rfl rfl (ax.aH H.lX rfl rfl hb (by first|decide|exact of_decide_eq_true rfl|(simp;done)|(simp;omega)) rfl) ?_;rintro _ h1 ⟨rfl,hb1,hx1,hs1⟩;refine xd [0,6] rfl ?_;refine G.gN func91 rfl ?_;exact⟨_,rfl,hb1,hx1,hs1⟩
theorem sW (hb:aL h b 112 [.pointer (some ⟨b,0,none⟩),v]) :
 af Tryz.prog 91 #[.pointer (some ⟨b,0,none⟩)] h (bC fun _ h'=>aL h' b 112 [.pointer (some ⟨b,0,none⟩),v]/\Ext (fun i=>i=b) h h'/\h'.size=h.size):=by
 obtain⟨j,hj,hj0⟩:=bInfo;refine af.of func91 rfl rfl ?_;refine bg func91 2 rfl ?_;refine xp rfl (aa (off:=0) underlying112 rfl rfl H.lX rfl) ?_;refine xp rfl (ah H.vE rfl (hb.cell (i:=0) rfl)) ?_;refine xp rfl (ai.fN underlying109 rfl rfl) ?_;refine xd [0,6] rfl ?_;refine ay rfl rfl (fun hc=>absurd hc Bool.false_ne_true) (fun _=>?_);refine bg func91 2 rfl ?_;refine xp rfl (aa (off:=0) underlying112 rfl rfl H.lX rfl) ?_;refine xp rfl (ah H.vE rfl (hb.cell (i:=0) rfl)) ?_;refine bO 1 rfl rfl (ai.rO underlying109 hj rfl rfl) ?_;refine xd [0,6,19] rfl ?_;refine ay rfl rfl (fun hc=>absurd hc Bool.false_ne_true) (fun _=>?_);refine az rfl ?_;refine G.gN func91 rfl ?_;exact⟨_,rfl,hb,Ext.refl _ _,rfl⟩
theorem j7 {p:Value}(hb:aL h b 112 [p,v]) (hp:p= .pointer none\/p= .pointer (some ⟨b,0,none⟩)) :
 af Tryz.prog 91 #[.pointer (some ⟨b,0,none⟩)] h (bC fun _ h'=>aL h' b 112 [.pointer (some ⟨b,0,none⟩),v]/\Ext (fun i=>i=b) h h'/\h'.size=h.size):=by
 rcases hp with rfl|rfl
 · exact qf hb
 · exact sW hb
theorem cW (s:ByteArray) (hb:iz h b 112 5 l) (hl:l.length+s.size<=140737488355328) :
 af Tryz.prog 44 #[.pointer (some ⟨b,0,none⟩),.string s] h (bC fun r h'=>r= .tuple #[.int .i64 s.size,.nilIface]/\iz h' b 112 5 (l++s.data.toList)/\Ext (fun i=>b<=i) h h'):=by
 obtain⟨i,hi,hi0,hi1,hi2⟩:=E6;obtain⟨p,v,hk,hp,hv⟩:=hb;have hlt:=hk.lt;refine af.of func44 rfl rfl ?_;refine aQ func44 2 [0,1,4,5] rfl ?_;refine bg func44 1 rfl ?_;refine xo rfl (aj (vs:=[_]) func91 rfl H.Kz rfl (af.aX (j7 hk hp))) ?_;rintro _ h1 ⟨hk1,hx1,hs1⟩;refine xd [0,1,4,5] rfl ?_;refine bg func44 3 rfl ?_;refine xp rfl (aa (off:=1) underlying112 rfl rfl H.iE rfl) ?_;have hv1:EP h1 (b+1) 5 v l:=aC.ext hx1 hv (fun g hg=>by have:=fJ hv g hg.symm;omega);refine xp rfl (ah H.pX rfl (hk1.cell (i:=1) rfl)) ?_;refine br 1 rfl ?_;refine xo rfl (ax.vB underlying110 underlying9 hi hi0 hi1 hi2 rfl rfl hv1 hl (by omega)) ?_;rintro v2 h2 ⟨ho2,hx2⟩;refine bO 1 rfl rfl (aa (off:=1) underlying112 rfl rfl H.iE rfl) ?_;have hk2:=hk1.ext hx2 (fun hm=>by have:=fJ hv1 b hm;omega);obtain⟨oa2,c2,rfl,-⟩:=aC.open ho2;refine RW.bT rfl rfl rfl (ax.aH H.iE rfl rfl hk2 (by first|decide|exact of_decide_eq_true rfl|(simp;done)|(simp;omega)) rfl) ?_;rintro _ h3 ⟨rfl,hk3,hx3,hs3⟩;refine xd [0,1,4,5] rfl ?_;refine bg func44 1 rfl ?_;refine xp rfl (ai.aU underlying9 rfl) ?_;refine aM 2 [0,1,4,5] rfl ?_;refine G.ret func44 rfl rfl ?_;have ho3:EP h3 (b+1) 5 _ (l++s.data.toList):=aC.ext hx3 ho2 (fun g hg=>by have:=fJ ho2 g hg.symm;omega);exact⟨_,rfl,rfl,⟨_,_,hk3,.inr rfl,ho3⟩,((hx1.mono (fun _ _ k=>by show b<=_;omega)).trans (hx2.mono (fun g _ k=>by have:=fJ hv1 g k;show b<=g;omega))).trans (hx3.mono (fun _ _ k=>by show b<=_;omega))⟩
theorem iz.aq {h h':au}{b:Nat}{l:List UInt8}(k:iz h b 112 5 l) (e:av h h'):iz h' b 112 5 l:=by
 obtain⟨p,v,hk,hp,hv⟩:=k;exact⟨p,v,hk.aq e,hp,cj.aq hv e⟩
theorem iY (hb:iz h b 112 5 l) (hl:l.length<=140737488355328) :
 af Tryz.prog 46 #[.pointer (some ⟨b,0,none⟩)] h (bC fun r h'=>r= .string ⟨l.toArray⟩/\Ext (fun i=>b<=i) h h'):=by
 obtain⟨p,v,hk,hp,hv⟩:=hb;obtain⟨oa,c,rfl,hw⟩:=aC.open hv;have hc1:=hk.cell (i:=1) rfl;refine af.of func46 rfl rfl ?_;refine aQ func46 1 [0,2] rfl ?_;refine ak rfl ?_;refine bK (fun i=>b+1<=i) (fun i=>Nat.blt i 12) (sz:=12) (listed:= #[false,false,false,false,false,false,false,false,false,false,false,false]) func46 H.mixed rfl rfl rfl ?_;refine bu 0 1 (by kernel_rfl) rfl ?_;refine bu 1 3 (by kernel_rfl) rfl ?_;refine bn 2 7 (by kernel_rfl) rfl (fun h' e=>aa (off:=1) underlying112 rfl rfl H.iE rfl) ?_;refine bn 3 15 (by kernel_rfl) rfl (fun h' e=>ah H.pX rfl (e.cell (by show ¬b+1<=b;omega) hc1)) ?_;refine bu 5 47 (by kernel_rfl) rfl ?_;refine bu 6 111 (by kernel_rfl) rfl ?_;refine bn 7 239 (by kernel_rfl) rfl (fun h' e=>aa (off:=1) underlying112 rfl rfl H.iE rfl) ?_;refine bn 8 495 (by kernel_rfl) rfl (fun h' e=>ah H.pX rfl (e.cell (by show ¬b+1<=b;omega) hc1)) ?_;refine bn 9 1007 (by kernel_rfl) rfl (fun h' e=>ai.aI underlying110 rfl) ?_;refine cE 4 1023 (by kernel_rfl) rfl (ax.uO underlying172 rfl hv) ?_;rintro u h1 ⟨⟨q,rfl,hs⟩,he⟩;refine⟨fun _=>he.of,?_⟩;refine cE 10 2047 (by kernel_rfl) rfl (jr underlying172 CD rfl rfl hs hl) ?_;rintro _ h2 ⟨rfl,hx2⟩;refine⟨fun _=>hx2,?_⟩;refine bu 11 4095 (by kernel_rfl) rfl ?_;refine RD.done (by kernel_rfl) ?_;refine xu [0,2] rfl ?_;refine G.ret func46 rfl rfl ?_;exact⟨_,rfl,rfl,(av.of he).trans (hx2.mono (fun g _ k=>by have:b+1<=g:=k;show b<=g;omega))⟩
def lE (h:au):Prop:=yj Tryz.prog h "internal/strconv.uint64pow10" =some (Lib.pow10Tab.map fun z=>Value.int .u64 z).toArray
theorem lE.aq (k:lE h) (e:av h h'):lE h':=A9 e k
theorem eV (hg:lE h) (n:Int) (hn : -9223372036854775808<=n/\n<=9223372036854775807) :
 af Tryz.prog 70 #[.int .i64 n] h (bC fun r h'=>r= .string (bs (Lib.itoa n))/\av h h'):=by
 refine af.qp fun w hw=>?_
 subst hw;refine(Tryz.strconv_Itoa n hn.1 hn.2 w hg).mono ?_;rintro e w' ⟨rfl,k,os,rfl⟩;refine⟨_,rfl,⟨rfl,?_⟩,rfl,rfl,rfl⟩;refine⟨by simp[Go.Sort.grow],fun b hb _=>?_⟩;simp[Go.Sort.grow,Array.getElem?_append_left hb]
theorem p8 (c:UInt8) (hb:iz h b 112 5 l) (hl:l.length<=900000000) :
 af Tryz.prog 147 #[.pointer (some ⟨b,0,none⟩),.int .u8 (c.toNat:Nat)] h (bC fun _ h'=>iz h' b 112 5 (l++[c])/\Ext (fun g=>b<=g) h h'):=by
 obtain⟨p,v,hk,hp,hv⟩:=hb;have hlt:=hk.lt;refine af.of func147 rfl rfl ?_;refine aQ func147 1 [0,1,4] rfl ?_;refine bg func147 1 rfl ?_;refine xo rfl (aj (vs:=[_]) func91 rfl H.Kz rfl (af.aX (j7 hk hp))) ?_;rintro _ h1 ⟨hk1,hx1,hs1⟩;refine xd [0,1,4] rfl ?_;refine bg func147 3 rfl ?_;refine xp rfl (aa (off:=1) underlying112 rfl rfl H.iE rfl) ?_;have hv1:EP h1 (b+1) 5 v l:=aC.ext hx1 hv (fun g hg=>by have:=fJ hv g hg.symm;omega);refine xp rfl (ah H.pX rfl (hk1.cell (i:=1) rfl)) ?_;refine br 1 rfl ?_;refine xo rfl (ax.bA (us:=[_]) underlying110 H.Ht rfl rfl (by decide) (by simp[Value.oneCell'])) ?_;rintro _ _ ⟨rfl,rfl⟩;refine xo rfl (ax.bN underlying110 H.Ht rfl rfl (hv1) rfl rfl (by first|decide|simp[Value.oneCell']) (by omega) (by decide) (by omega)) ?_;rintro v2 h2 ⟨ho2,hx2,hx2',hv2⟩;have hk2:=hk1.ext hx2 (fun hm=>by have:=fJ hv1 b hm;omega);have ho2':EP h2 (b+1) 5 v2 (l++[c]):=cj.of (ys:=[c]) ho2 rfl rfl rfl;obtain⟨oa2,c2,rfl,-⟩:=ho2.open;refine bO 1 rfl rfl (aa (off:=1) underlying112 rfl rfl H.iE rfl) ?_;refine RW.bT rfl rfl rfl (ax.aH H.iE rfl rfl hk2 (by first|decide|exact of_decide_eq_true rfl|(simp;done)|(simp;omega)) rfl) ?_;rintro _ h3 ⟨rfl,hk3,hx3,hs3⟩;refine xd [0,1,4] rfl ?_;refine aQ func147 1 [0,1,4] rfl ?_;refine G.ret func147 rfl rfl ?_;exact⟨_,rfl,⟨_,_,hk3,.inr rfl,aC.ext hx3 ho2' (fun g hg=>by have:=fJ ho2' g hg.symm;omega)⟩,((hx1.mono (fun _ _ k=>by show b<=_;omega)).trans (hx2.mono (fun g _ k=>by have:=fJ hv1 g k;show b<=g;omega))).trans (hx3.mono (fun _ _ k=>by show b<=_;omega))⟩
theorem ox (hg:lE h){l:List Int}(hv:bF (.int .i64) h O v l) (hl:l.length<=1000000) (hb:∀n∈l,-9223372036854775808<=n/\n<=9223372036854775807) :
 af Tryz.prog 190 #[v] h (bC fun r h'=>r= .string (bs (fk l))/\av h h'):=by
 obtain⟨oa,n,c,rfl,hsl⟩:=hv.open;have hn:=hsl.len;refine af.of func190 rfl rfl ?_;refine aQ func190 1 [0,2] rfl ?_;refine xr func190 rfl ?_;refine xo rfl (ax.aO H.EY) ?_;rintro _ h0 ⟨rfl,hk0,he0,hs0⟩;refine xd [0,2,3] rfl ?_;refine ak rfl ?_;refine bg func190 1 rfl ?_;refine xp rfl (ai.aI underlying101 rfl) ?_;refine aM 1 [0,2,3,6,7,8] rfl ?_;refine G.block rfl rfl ?_;have hb0:iz h0 h.size 112 5 []:=mV hk0;refine bf (σ:=Nat) (fun i=>[(3,.pointer (some ⟨h.size,0,none⟩)),(6,.slice oa n c),(7,.int .i64 (n:Nat)),(8,.int .i64 (i:Nat))]) (fun i h'=>i<=n/\av h h'/\iz h' h.size 112 5 (fk (l.take i))/\h0.size<=h'.size) (fun i=>n-i) (0) rfl ⟨rfl,rfl,rfl,rfl,trivial⟩ ⟨Nat.zero_le _,he0,hb0,Nat.le_refl _⟩ ?_;rintro i g ⟨hi,eg,hbg,hgz⟩ ih;have hlen:=wN (l.take i) (fun x hx=>hb x (List.mem_of_mem_take hx));rw[List.length_take] at hlen;refine aQ func190 1 [3,6,7,8,9] rfl ?_;refine ak rfl ?_;refine aN rfl rfl (fun hlt=>?_) (fun hlt=>?_)
 · obtain⟨b1,o1,x,hoa,_,hx,hcx⟩:=(hsl.mv (Mv.aq eg)).at (show i<n by omega);have hbx:=hb x (List.mem_of_getElem? hx);have hil:=Lib.itoa_length_le x hbx.1 hbx.2;have hbsz:=aR (Lib.itoa x);have hbl:(bs (Lib.itoa x)).data.toList=Lib.itoa x:=by simp[bs]
   have hnx:fk (l.take (i+1))=fk (l.take i)++(bs (Lib.itoa x)).data.toList++[32]:=by rw[List.take_add_one,hx,Option.toList_some,F5,hbl]
   refine az rfl ?_;refine ak rfl ?_;refine G.block rfl rfl ?_;refine xr func190 rfl ?_;refine xp rfl (ai.aA underlying101 H.bG rfl rfl i rfl hoa (by omega)) ?_;refine xp rfl (ah H.bU rfl hcx) ?_;refine aM 1 [3,5,6,7,8,9] rfl ?_;refine bg func190 1 rfl ?_;refine xo rfl (aj (vs:=[_]) func70 rfl H.BB rfl (af.aX (eV (hg.aq eg) x hbx))) ?_;rintro _ g1 ⟨rfl,e1⟩;refine xo rfl (aj (vs:=[_,_]) func44 rfl H.zj rfl (af.aX (cW (bs (Lib.itoa x)) (iz.aq hbg e1) (by omega)))) ?_;rintro _ g2 ⟨rfl,hb2,hx2⟩;refine xd [3,5,6,7,8,9] rfl ?_;refine G.bB func190 rfl ?_;refine xo rfl (aj (vs:=[_,_]) func147 rfl H.Mz rfl (af.aX (p8 32 hb2 (by rw[List.length_append,hbl];omega)))) ?_;rintro _ g3 ⟨hb3,hx3⟩;refine xd [3,5,6,7,8,9] rfl ?_;refine G.aJ ?_;refine G.bB func190 rfl ?_;refine xp rfl (ai.aT rfl rfl ⟨by omega,by omega⟩) ?_;refine aM 1 [3,5,6,7,8,9] rfl ?_;have z1:=e1.size;have z2:=hx2.size;have z3:=hx3.size;rw[<-hnx] at hb3
   have e3:av h g3:=⟨by have:=eg.size;omega,fun b hb k=>by
    rw[hx3.block b (by have:=eg.size;omega) (by show ¬_<=_;omega),hx2.block b (by have:=eg.size;omega) (by show ¬_<=_;omega),e1.block b (by have:=eg.size;omega) (fun k=>k)];exact eg.block b hb k⟩
   exact ih (i+1) _ _ ⟨rfl,rfl,rfl,rfl,trivial⟩ ⟨by omega,e3,hb3,by omega⟩ (by omega)
 · have hie:l.take i=l:=List.take_of_length_le (by omega);rw[hie] at hbg;have hkl:=wN l hb;refine aW rfl rfl ?_;refine xr func190 rfl ?_;refine xo rfl (aj (vs:=[_]) func46 rfl H.HR rfl (af.aX (iY hbg (by omega)))) ?_;rintro _ g1 ⟨rfl,hx1⟩;refine aM 1 [2,3,6,7,8,9] rfl ?_;refine G.ret func190 rfl rfl ?_;exact⟨_,rfl,rfl,⟨by have:=hx1.size;have:=eg.size;omega,fun b hb k=>by rw[hx1.block b (by have:=eg.size;omega) (by show ¬_<=_;omega)];exact eg.block b hb k⟩⟩
def bX (r:Row):List Value:=r.v.map (.int .i64)
@[simp] theorem jJ (r:Row):(bX r).length=256:=by simp[bX,r.len]
def De:fF Row:=.record 256 (by decide) bX jJ (fun r v hv=>by simp[bX] at hv;obtain⟨_,_,rfl⟩:=hv;rfl)
def pY (h:au) (db:Nat) (d:cV):Prop :=
 ∃vn vr,aL h db 308 [vn,vr]/\bF De h (fun _=>False) vn d.next/\bF (.int .i64) h (fun _=>False) vr d.rule
theorem pY.aq {h h':au}{db:Nat}{d:cV}(k:pY h db d) (e:av h h'):pY h' db d:=by
 obtain⟨vn,vr,h1,h2,h3⟩:=k;exact⟨vn,vr,h1.aq e,h2.mv (Mv.aq e),h3.mv (Mv.aq e)⟩
theorem GB (k:pY h db d):af Tryz.prog 193 #[.pointer (some ⟨db,0,none⟩)] h (bC fun r h'=>r= .bool (decide (d.next.length=0))/\h'=h):=by
 obtain⟨vn,vr,hk,⟨na,nn,nc,rfl,hnl,_⟩,h2⟩:=k;refine af.of func193 rfl rfl ?_;refine aQ func193 1 [0,2] rfl ?_;refine ak rfl ?_;refine G.bH [(2,.bool (decide (d.next.length=0)))] [(0,_)] ⟨rfl,trivial⟩ func193 rfl ?_ ?_
 · refine bO 1 rfl rfl (ai.fN underlying227 rfl rfl) ?_;refine br 1 rfl ?_;refine RW.b7 (d:=5) (b':=false) rfl (rfl) ?_;refine bO 2 rfl rfl (aa (off:=0) underlying308 rfl rfl H.jS rfl) ?_;refine xp rfl (ah H.pW rfl (hk.cell (i:=0) rfl)) ?_;refine xp rfl (ai.aI underlying306 rfl) ?_;refine br 3 rfl ?_;refine RW.done rfl ?_;exact⟨rfl,aK rfl (by simp only[decide_eq_decide];omega),rfl,trivial⟩
 · refine G.ret func193 rfl rfl ?_;exact⟨_,rfl,rfl,rfl⟩
def Nt (h:au) (O:Nat->Prop) (cs:List Value) (x:List Nat):Prop:=∃v,cs=[v]/\bF gj h O v x
def BZ:fF (List Nat):=⟨1,by decide,Nt,fun h=>by obtain⟨v,rfl,_⟩:=h;rfl,fun h=>by
 obtain⟨v,rfl,hv⟩:=h;intro u hu;simp at hu;subst hu;exact bF.JJ hv,fun h m=>by
 obtain⟨v,hc,hv⟩:=h;exact⟨v,hc,hv.mv m⟩⟩
def kN:Nat->List (List Nat)->List (ByteArray×Int)
 |_,[]=>[]
 |i,x::r=>(bs (wO x),(i:Int))::kN (i+1) r
theorem uQ:∀(ls:List (List Nat)) (i:Nat) (l:List Nat),kN i (ls++[l])=kN i ls++[(bs (wO l),((i+ls.length:Nat):Int))]
 | [],i,l=>by simp[kN]
 |x::r,i,l=>by
  simp only[List.cons_append,kN];rw[uQ r (i+1) l,List.length_cons,show i+1+r.length=i+(r.length+1) by omega]
theorem tD:∀(ls:List (List Nat)) (i:Nat) (l:List Nat),ju (bs (wO l)) (kN i ls)=(mg i ls l).map fun j=>(j:Int)
 | [],i,l=>rfl
 |x::r,i,l=>by
  rw[kN,ju,mg]
  by_cases h:l=x
  · subst h;rw[if_pos rfl,if_pos rfl];rfl
  · have hk:¬bs (wO l)=bs (wO x):=fun e=>h (F6 (ef e))
    rw[if_neg hk,if_neg h];exact tD r (i+1) l
theorem AW {l:List Nat}(k:bF gj h O v l):bF (.int .i64) h O v (l.map Int.ofNat):=by
 obtain⟨oa,n,c,rfl,hl,hnc,hc,hg⟩:=k;refine⟨oa,n,c,rfl,by simpa using hl,hnc,hc,fun i x hx=>?_⟩;rw[List.getElem?_map] at hx;cases hs:l[i]? with
 |none=>rw[hs] at hx;cases hx
 |some s =>
  rw[hs] at hx;simp only[Option.map_some,Option.some.injEq] at hx;subst hx;obtain⟨b,o,cs,h1,h2,h3,h4⟩:=hg i s hs;exact⟨b,o,cs,h1,h2,h3,h4⟩
structure gD (h0 h:au) (C:Nat->Prop) (db mb:Nat) (vl vn vr:Value) (lists:List (List Nat)) (next:List Row) (rule:List Int):Prop where
 ext:av h0 h
 dblk:aL h db 308 [vn,vr]
 nx:dw 256 bX h h0.size 312 vn next
 ru:cj (Value.int .i64) h h0.size 3 vr rule
 mp:eu Value.string (Value.int .i64) h mb (kN 0 lists)
 ls:eM BZ (fun b=>¬C b) h h0.size 101 vl lists
 cty:∀b,C b->cu h b 3
 cr:∀b,vr.ownBlock=some b->¬C b
 dge:h0.size<=db
 mge:h0.size<=mb
section
variable {h0 h:au}{C:Nat->Prop}{db mb:Nat}{vl vn vr:Value}{lists:List (List Nat)}{next:List Row}{rule:List Int}
theorem gD.FP (k:gD h0 h C db mb vl vn vr lists next rule):∀b,vl.ownBlock=some b->cu h b 101:=fun b hb=>by
 obtain⟨css,_,h2,_⟩:=k.ls;exact h2.ty hb
theorem gD.DX (k:gD h0 h C db mb vl vn vr lists next rule):∀b,vn.ownBlock=some b->cu h b 312:=fun _ hb=>aC.ty k.nx hb
theorem gD.CT (k:gD h0 h C db mb vl vn vr lists next rule):∀b,vr.ownBlock=some b->cu h b 3:=fun _ hb=>aC.ty k.ru hb
theorem gD.O3 (k:gD h0 h C db mb vl vn vr lists next rule):∀b,vl.ownBlock=some b->h0.size<=b:=fun b hb=>by
 obtain⟨css,_,h2,_⟩:=k.ls;exact(h2.lt hb).1
theorem gD.aq {h':au}(k:gD h0 h C db mb vl vn vr lists next rule) (e:av h h'):gD h0 h' C db mb vl vn vr lists next rule :=
 ⟨k.ext.trans e,k.dblk.aq e,dw.aq k.nx e,cj.aq k.ru e,k.mp.ext e (fun k=>k),k.ls.aq e,fun b hb=>(k.cty b hb).ext e (fun k=>k),k.cr,k.dge,k.mge⟩
theorem gD.put {x:Nat}(k:gD h0 h C db mb vl vn vr lists next rule) (e:Ext (fun b=>b=x) h h') (hx:cu h x 312) (hn:vn.ownBlock≠some x) (hge:h0.size<=x):gD h0 h' C db mb vl vn vr lists next rule:=by
 have hd:¬db=x:=k.dblk.ty.ne hx (by decide);have hm:¬mb=x:=k.mp.ne hx;have hl:∀b,vl.ownBlock=some b->¬b=x:=fun b hb=>(k.FP b hb).ne hx (by decide)
 have hr:∀b,vr.ownBlock=some b->¬b=x:=fun b hb=>(k.CT b hb).ne hx (by decide)
 have hc:∀b,C b->¬b=x:=fun b hb=>(k.cty b hb).ne hx (by decide)
 exact⟨av.only k.ext e hge,k.dblk.ext e hd,aC.ext e k.nx (fun b hb hbx=>hn (by subst hbx;exact hb)),aC.ext e k.ru hr,k.mp.ext e hm,
  k.ls.DZ e hl (fun b _ hb hC=>hc b hC hb) (fun _ _ k=>k),fun b hb=>(k.cty b hb).ext e (hc b hb),k.cr,k.dge,k.mge⟩
end
section
variable {h0 h:au}{C:Nat->Prop}{db mb:Nat}{vl vn vr:Value}{lists:List (List Nat)}{next:List Row}{rule:List Int}
theorem gD.Ku {r:Row}(k:gD h0 h C db mb vl vn vr lists next rule) (hn:n=next.length) (ho:aC g3 h0.size 312 256 v3 (n+1) (next.flatMap bX++bX r)) (hx:Ext (cC vn.ownBlock) h g3) (hd:aL g4 db 308 [v3,vr]) (x4:Ext (fun b=>b=db) g3 g4) :
 gD h0 g4 C db mb vl v3 vr lists (next++[r]) rule:=by
 have nne:∀{b:Nat}{t:TypeId},cu h b t->312≠t->¬cC vn.ownBlock b:=fun kt ht e=>(k.DX _ e.symm).ne kt ht rfl
 have d3:=k.dblk.ext hx (nne k.dblk.ty (by decide));have dne:∀{b:Nat}{t:TypeId},cu g3 b t->308≠t->¬b=db:=fun kt ht e=>by subst e;exact d3.ty.ne kt ht rfl
 have mne:¬cC vn.ownBlock mb:=fun e=>k.mp.ne (k.DX _ e.symm) rfl
 have hm3:=k.mp.ext hx mne;have hdlt:=k.dblk.lt;have ru3:=aC.ext hx k.ru (fun b hb=>nne (k.CT b hb) (by decide));have ls3:eM BZ (fun b=>¬C b) g3 h0.size 101 vl lists:=k.ls.DZ hx (fun b hb=>nne (k.FP b hb) (by decide)) (fun b _ hb hC=>nne (k.cty b hC) (by decide) hb) (fun _ _ k=>k);have lty3:∀b,vl.ownBlock=some b->cu g3 b 101:=fun b hb=>(k.FP b hb).ext hx (nne (k.FP b hb) (by decide))
 have cty3:∀b,C b->cu g3 b 3:=fun b hb=>(k.cty b hb).ext hx (nne (k.cty b hb) (by decide))
 refine⟨⟨by have:=k.ext.size;have:=hx.size;have:=x4.size;omega,fun b hb kk=>?_⟩,hd,?_,aC.ext x4 ru3 (fun b hb=>dne (aC.ty ru3 hb) (by decide)),hm3.ext x4 (hm3.ne d3.ty),ls3.DZ x4 (fun b hb=>dne (lty3 b hb) (by decide)) (fun b _ hb hC=>dne (cty3 b hC) (by decide) hb) (fun _ _ k=>k),fun b hb=>(cty3 b hb).ext x4 (dne (cty3 b hb) (by decide)),k.cr,k.dge,k.mge⟩
 · rw[x4.block b (by have:=k.ext.size;have:=hx.size;omega) (by have:=k.dge;omega),hx.block b (by have:=k.ext.size;omega) (fun e=>by have:=(aC.lt k.nx e.symm).1;omega)];exact k.ext.block b hb kk
 · exact aC.ext x4 (dw.of ho hn rfl) (fun b hb=>dne (aC.ty ho hb) (by decide))
theorem gD.Kt {x:Int}(k:gD h0 h C db mb vl vn vr lists next rule) (hn:n=rule.length) (ho:aC g3 h0.size 3 1 v3 (n+1) (rule.map (Value.int .i64)++[.int .i64 x])) (hx:Ext (cC vr.ownBlock) h g3) (hv:∀b,v3.ownBlock=some b->vr.ownBlock=some b\/h.size<=b) (hd:aL g4 db 308 [vn,v3]) (x4:Ext (fun b=>b=db) g3 g4) :
 gD h0 g4 C db mb vl vn v3 lists next (rule++[x]):=by
 have nne:∀{b:Nat}{t:TypeId},cu h b t->3≠t->¬cC vr.ownBlock b:=fun kt ht e=>(k.CT _ e.symm).ne kt ht rfl
 have cne:∀{b:Nat},C b->¬cC vr.ownBlock b:=fun hC e=>k.cr _ e.symm hC
 have d3:=k.dblk.ext hx (nne k.dblk.ty (by decide));have dne:∀{b:Nat}{t:TypeId},cu g3 b t->308≠t->¬b=db:=fun kt ht e=>by subst e;exact d3.ty.ne kt ht rfl
 have mne:¬cC vr.ownBlock mb:=fun e=>k.mp.ne (k.CT _ e.symm) rfl
 have hm3:=k.mp.ext hx mne;have nx3:=aC.ext hx k.nx (fun b hb=>nne (k.DX b hb) (by decide));have ls3:eM BZ (fun b=>¬C b) g3 h0.size 101 vl lists:=k.ls.DZ hx (fun b hb=>nne (k.FP b hb) (by decide)) (fun b _ hb hC=>cne hC hb) (fun _ _ k=>k);have lty3:∀b,vl.ownBlock=some b->cu g3 b 101:=fun b hb=>(k.FP b hb).ext hx (nne (k.FP b hb) (by decide))
 have cty3:∀b,C b->cu g3 b 3:=fun b hb=>(k.cty b hb).ext hx (cne hb)
 refine⟨⟨by have:=k.ext.size;have:=hx.size;have:=x4.size;omega,fun b hb kk=>?_⟩,hd,aC.ext x4 nx3 (fun b hb=>dne (aC.ty nx3 hb) (by decide)),?_,hm3.ext x4 (hm3.ne d3.ty),ls3.DZ x4 (fun b hb=>dne (lty3 b hb) (by decide)) (fun b _ hb hC=>dne (cty3 b hC) (by decide) hb) (fun _ _ k=>k),fun b hb=>(cty3 b hb).ext x4 (dne (cty3 b hb) (by decide)),fun b hb hC=>?_,k.dge,k.mge⟩
 · rw[x4.block b (by have:=k.ext.size;have:=hx.size;omega) (by have:=k.dge;omega),hx.block b (by have:=k.ext.size;omega) (fun e=>by have:=(aC.lt k.ru e.symm).1;omega)];exact k.ext.block b hb kk
 · exact aC.ext x4 (cj.of (ys:=[x]) ho hn rfl rfl) (fun b hb=>dne (aC.ty ho hb) (by decide))
 · rcases hv b hb with e|e
   · exact k.cr b e hC
   · have:=(k.cty b hC).lt;omega
end
def xX (res:Int ⊕ cV) (h':au) (r:Value):Prop:=match res with
 |.inl e=>r= .tuple #[.pointer none,.int .i64 e]
 |.inr d=>∃db,r= .tuple #[.pointer (some ⟨db,0,none⟩),.int .i64 0]/\pY h' db d
theorem Ad {nb:Nat}{ss:List bM}{st:Nat}(htens:lE h) (hn:b6 h O nb v ss st) (hgood:Good ss) (hss:ss.length<=30000) (hst:st<ss.length) (hpot1:1+o7 ss (List.replicate ss.length false)<=1000000)
 (hpot:∀c now,List.Sublist now (List.range ss.length)->(stepG ss c now []).length+o7 ss (List.replicate ss.length false)<=1000000) :
 af Tryz.prog 121 #[.pointer (some ⟨nb,0,none⟩)] h (bC fun r h'=>xX (eY ss st) h' r/\av h h'):=by
 generalize hres:eY ss st=res
 have hint:∀l:List Nat,l.Sublist (List.range ss.length)->(l.map Int.ofNat).length<=1000000/\∀n∈l.map Int.ofNat,-9223372036854775808<=n/\n<=9223372036854775807:=fun l hl=>by
  have h1:=hl.length_le;rw[List.length_range] at h1;refine⟨by rw[List.length_map];omega,fun n hn=>?_⟩;obtain⟨j,hj,rfl⟩:=List.mem_map.1 hn;have:=List.mem_range.1 (hl.subset hj);simp only[Int.ofNat_eq_natCast];omega
 refine af.of func121 rfl rfl ?_;refine aQ func121 2 [0,2,3] rfl ?_;refine bg func121 1 rfl ?_;refine xo rfl (aj (vs:=[_]) func189 rfl H.Mk rfl (af.aX (yE hn hgood (by omega) (.inr hst) hpot1))) ?_;rintro w4 h1 ⟨ho1,e1⟩;have hsub0:=Bj ss st;generalize hl0:cg ss st=l0 at *;have hi0:=hint l0 hsub0;obtain⟨wa,wc,rfl,_⟩:=(show aC h1 h.size 3 1 w4 l0.length (l0.map cT) from ho1).open;refine aM 1 [0,2,3,4] rfl ?_;refine ak rfl ?_;refine bg func121 1 rfl ?_;refine xp rfl (ai.aI underlying101 rfl) ?_;refine aM 1 [0,2,3,4,18] rfl ?_;refine aN rfl rfl (fun hz=>?_) (fun hz=>?_)
 · refine aQ func121 2 [0,2,3,4,18] rfl ?_;refine G.ret func121 rfl rfl ?_;have:res= .inl 1:=by rw[<-hres,eY,hl0,if_pos (by omega)]
   subst this;exact⟨_,rfl,rfl,e1⟩
 · have hres':res=match iV ss 2002 0 [l0] [] [] with|none=>.inl 70|some d=>.inr d:=by rw[<-hres,eY,hl0,if_neg (by omega)]<;>rfl
   refine az rfl ?_;refine xr func121 rfl ?_;refine xp rfl (aE (H.GX ) rfl) ?_;refine xo rfl (ax.cq rfl) ?_;rintro _ h2 ⟨rfl,k2,e2,z2⟩;refine aM 1 [0,2,3,4,5,18] rfl ?_;refine xr func121 rfl ?_;refine xo rfl (lF (ek:=Value.string) (ev:=Value.int .i64)) ?_;rintro _ h3 ⟨rfl,hm3,e3,z3⟩;have k2:aL h2 h1.size 308 [.slice none 0 0,.slice none 0 0]:=k2;have e13:=e2.trans e3;have hz1:=e1.size;refine br 1 rfl ?_;refine xo rfl (aj (vs:=[_]) func190 rfl H.C0 rfl (af.aX (ox ((htens.aq e1).aq e13) (AW (bF.mv (cj.read (O:=fun _=>False) (h1:=fun _=>rfl) ho1 (fun _ _ k=>k)) (Mv.aq e13))) hi0.1 hi0.2))) ?_;rintro _ h4 ⟨rfl,e4⟩;have hm4:=hm3.ext e4 (fun k=>k);have z4:=e4.size;refine RW.bT rfl rfl rfl (tR (v:=(0:Int)) iu underlying310 underlying9 rfl rfl rfl rfl rfl hm4 (rfl:ju (bs (fk (l0.map Int.ofNat))) []=none)) ?_;rintro _ h5 ⟨rfl,hm5,x5,z5⟩;have hm5:eu Value.string (Value.int .i64) h5 h2.size (kN 0 [l0]):=hm5;have e05:av h h5:=av.only ((e1.trans e13).trans e4) x5 (by omega);have ho5:cj cT h5 h.size 3 (.slice wa l0.length wc) l0:=aC.ext x5 (cj.aq (cj.aq ho1 e13) e4) (fun b hb (e:b=h2.size)=>by have:=(aC.lt ho1 hb).2;omega);have k5:aL h5 h1.size 308 [.slice none 0 0,.slice none 0 0]:=((k2.aq e3).aq e4).ext x5 (by show ¬_=_;omega);refine aM 2 [0,2,3,4,5,6,18] rfl ?_;refine bg func121 1 rfl ?_;refine xo rfl (ax.bA (us:=[_]) underlying311 H.Gz rfl rfl (by decide) (by simp[Value.oneCell'])) ?_;rintro _ _ ⟨rfl,rfl⟩;refine aM 1 [0,2,3,4,5,6,7,18] rfl ?_;refine ak rfl ?_;refine aQ func121 1 [0,2,3,4,5,6,7,8,18] rfl ?_;refine G.block rfl rfl ?_;have e56:av h5 (h5.push (.cells #[.slice wa l0.length wc] 101)):=Ext.push _ _ _
   have ls6:eM BZ (fun b=>¬cC (Value.slice wa l0.length wc).ownBlock b) (h5.push (.cells #[.slice wa l0.length wc] 101)) h.size 101 (.slice (some ⟨h5.size,0,none⟩) 1 1) [l0] :=
    eM.jn (e:=BZ) (cs:=[.slice wa l0.length wc]) ⟨_,rfl,aC.Ja (h1:=fun _=>rfl) ho5 (fun b hb k=>k hb.symm)⟩ e05.size
   generalize h5.push (.cells #[.slice wa l0.length wc] 101)=h6 at *
   have mk6:gD h h6 (cC (Value.slice wa l0.length wc).ownBlock) h1.size h2.size (.slice (some ⟨h5.size,0,none⟩) 1 1) (.slice none 0 0) (.slice none 0 0) [l0] [] [] :=
    ⟨e05.trans e56,k5.aq e56,dw.nil _ _ _ _ _,cj.nil _ _ _ _,hm5.ext e56 (fun k=>k),ls6,fun b hb=>cu.ext (aC.ty ho5 hb.symm) e56 (fun k=>k),fun b hb=>(by cases hb),hz1,by omega⟩
   refine bf (σ:=Nat×Value) (fun q=>[(0,.pointer (some ⟨nb,0,none⟩)),(5,.pointer (some ⟨h1.size,0,none⟩)),(6,.map (some h2.size)),(7,q.2),(8,.int .i64 (q.1:Nat))]) (fun q h'=>∃C vn vr lists next rule,gD h h' C h1.size h2.size q.2 vn vr lists next rule/\q.1<=lists.length/\lists.length<=2000/\(next.length=q.1/\rule.length=q.1)/\(∀l∈lists,l.Sublist (List.range ss.length))/\res=(match iV ss (2002-q.1) q.1 lists next rule with|none=>.inl 70|some d=>.inr d)) (fun q=>2002-q.1) ((0,.slice (some ⟨h5.size,0,none⟩) 1 1)) rfl ⟨rfl,rfl,rfl,rfl,rfl,trivial⟩ ⟨_,_,_,[l0],[],[],mk6,Nat.zero_le _,by simp,⟨rfl,rfl⟩,fun l hl=>by simp at hl;subst hl;exact hsub0,hres'⟩ ?_;rintro⟨i,vl⟩ g ⟨C,vn,vr,lists,next,rule,mk,hi,hl2,⟨hnl,hrl⟩,hsl,hcon⟩ ih
   try dsimp only
   dsimp only at mk hi hnl hrl hcon;obtain⟨css,hc1,hc2,hc3⟩:=id mk.ls;obtain⟨la,lc,rfl,_⟩:=hc2.open;have hng:b6 g O nb v ss st:=hn.aq mk.ext (fun _ _ k=>k);have mkg:=mk;refine ak rfl ?_;refine bg func121 2 rfl ?_;refine xp rfl (ai.aI underlying311 rfl) ?_;refine aM 1 [0,5,6,7,8,30] rfl ?_;refine aN rfl rfl (fun hlt=>?_) (fun hlt=>?_)
   · have hil:i<lists.length:=by omega
     obtain⟨cur,hcur⟩:∃cur,lists[i]? =some cur:=⟨_,List.getElem?_eq_getElem hil⟩
     have hcsub:=hsl cur (List.mem_of_getElem? hcur);obtain⟨n,hnn⟩:∃n,2002-i=n+1:=⟨2001-i,by omega⟩
     rw[hnn,iV,hcur] at hcon;simp only at hcon;generalize hrow:jA ss cur 256 0 lists []=tgt at hcon;refine az rfl ?_;refine ak rfl ?_;refine G.block rfl rfl ?_;refine xr func121 rfl ?_;refine xo rfl (ax.aO H.CB) ?_;rintro _ g1 ⟨rfl,kz,ez,zz⟩;have kz:aL g1 g.size 312 (([]:List Int).map (Value.int .i64)++List.replicate (256-0) (Value.int .i64 0)):=kz;have Hr:=mk.aq ez;have hvz:vn.ownBlock≠some g.size:=fun e=>by have:=(mk.DX _ e).lt;omega
     refine xd [0,5,6,7,8,9,30] rfl ?_;refine ak rfl ?_;refine aQ func121 1 [0,5,6,7,8,9,30,33] rfl ?_;refine G.block rfl rfl ?_;refine bf (σ:=Nat×Value) (fun q=>[(0,.pointer (some ⟨nb,0,none⟩)),(5,.pointer (some ⟨h1.size,0,none⟩)),(6,.map (some h2.size)),(7,q.2),(8,.int .i64 (i:Nat)),(9,.pointer (some ⟨g.size,0,none⟩)),(33,.int .i64 (q.1:Nat))]) (fun q h'=>∃C lists' row,gD h h' C h1.size h2.size q.2 vn vr lists' next rule/\(q.1<=256/\row.length=q.1/\lists'.length<=2000+q.1)/\aL h' g.size 312 (row.map (Value.int .i64)++List.replicate (256-q.1) (Value.int .i64 0))/\lists'[i]? =some cur/\(∀l∈lists',l.Sublist (List.range ss.length))/\jA ss cur (256-q.1) q.1 lists' row=tgt) (fun q=>256-q.1) ((0,.slice la lists.length lc)) rfl ⟨rfl,rfl,rfl,rfl,rfl,rfl,rfl,trivial⟩ ⟨C,lists,[],Hr,⟨Nat.zero_le _,rfl,by simp;omega⟩,kz,hcur,hsl,hrow⟩ ?_;rintro⟨b,vl⟩ g2 ⟨C,lists,row,mk,⟨hb,hrlen,hlb⟩,kz,hcur,hsl,hrow⟩ ih2
     try dsimp only
     dsimp only at mk hb hrlen hlb kz hrow;have hng:b6 g2 O nb v ss st:=hn.aq mk.ext (fun _ _ k=>k);refine aQ func121 1 [0,5,6,7,8,9,33,34] rfl ?_;refine ak rfl ?_;refine aN rfl rfl (fun hb256=>?_) (fun hb256=>?_)
     · obtain⟨m,hm⟩:∃m,256-b=m+1:=⟨255-b,by omega⟩
       rw[hm,jA] at hrow;obtain⟨g',c',cs,hv',_,_,hrowv,_,⟨w,rfl,hw⟩,_⟩:=mk.ls.put hcur;subst hv';have hnlt:∀j∈cur,j<ss.length:=fun j hj=>List.mem_range.1 (hcsub.subset hj)
       have hcl:=hcsub.length_le;rw[List.length_range] at hcl;have hub:(UInt8.ofNat b).toNat=b:=by simp;omega
       have hwr:bF gj g2 (fun _=>False) w cur:=tL hw (fun _ k=>k.elim);have hstep:=Bi (UInt8.ofNat b) hng hgood (by omega) hwr hnlt (by omega) (hpot _ _ hcsub);rw[hub] at hstep;have hlsub:=DD ss (UInt8.ofNat b) cur;refine az rfl ?_;refine ak rfl ?_;refine G.block rfl rfl ?_;refine aQ func121 2 [0,5,6,7,8,9,10,33,34] rfl ?_;refine bg func121 3 rfl ?_;refine xp rfl (ai.aA underlying311 H.eC rfl rfl i rfl rfl (by have:=(List.getElem?_eq_some_iff.1 hcur).1;omega)) ?_;refine xp rfl (ah H.iL rfl (hrowv 0 _ rfl)) ?_;refine bO 1 rfl rfl (ai.fP underlying3 underlying5 rfl (wrap_u8 ⟨by omega,by omega⟩)) ?_;refine xo rfl (aj (vs:=[_,_,_]) func191 rfl H.Mj rfl (af.aX (hstep))) ?_;rintro w11 g3 ⟨ho3,e3⟩;generalize hl:cz ss (UInt8.ofNat b) cur=l at *;have hsN:cS ss cur lists b=if l.length=0 then (lists,-1) else match mg 0 lists l with|some i=>(lists,(i:Int))|none=>(lists++[l],(lists.length:Int)):=by unfold cS;rw[hl]<;>rfl
       have hil:=hint l hlsub;obtain⟨l11a,l11c,rfl,_⟩:=(show aC g3 g2.size 3 1 w11 l.length (l.map cT) from ho3).open;have mk3:=mk.aq e3;have kz3:=kz.aq e3;have hkey:∀{gg:au},av g3 gg->af Tryz.prog 190 #[.slice l11a l.length l11c] gg (bC fun r h'=>r= .string (bs (wO l))/\av gg h'):=fun e=>ox (htens.aq (mk3.ext.trans e)) (AW (bF.mv (cj.read (O:=fun _=>False) (h1:=fun _=>rfl) ho3 (fun _ _ k=>k)) (Mv.aq e))) hil.1 hil.2
       refine aM 1 [0,5,6,7,8,9,10,11,33,34] rfl ?_;refine bg func121 2 rfl ?_;refine xo rfl (aj (vs:=[_]) func190 rfl H.C0 rfl (af.aX (hkey (Ext.refl _ _)))) ?_;rintro _ g4 ⟨rfl,e4⟩;have mk4:=mk3.aq e4;have kz4:=kz3.aq e4;refine xp rfl (ai.rV (z:=.int .i64 0) iu underlying310 underlying9 (by kernel_rfl) rfl rfl rfl mk4.mp) ?_;rw[tD];refine aM 5 [0,5,6,7,8,9,10,11,12,13,33,34] rfl ?_;refine ak rfl ?_;refine G.block rfl rfl ?_;refine bg func121 1 rfl ?_;refine xp rfl (ai.aI underlying101 rfl) ?_;refine aM 2 [0,5,6,7,8,9,10,11,12,13,33,34,51] rfl ?_
       have fin:∀(to:Int) (vl2:Value) (h':au) (ρ':Env),Sub [(0,.pointer (some ⟨nb,0,none⟩)),(5,.pointer (some ⟨h1.size,0,none⟩)),(6,.map (some h2.size)),(7,vl2),(8,.int .i64 (i:Nat)),(9,.pointer (some ⟨g.size,0,none⟩)),(10,.int .i64 (b:Nat)),(12,.int .i64 to),(33,.int .i64 (b:Nat))] ρ'->(∃C2,gD h h' C2 h1.size h2.size vl2 vn vr (cS ss cur lists b).1 next rule)->to=(cS ss cur lists b).2->aL h' g.size 312 (row.map (Value.int .i64)++List.replicate (256-b) (Value.int .i64 0))->G Tryz.prog 121 f121 [.code [1,1,1,1,0,0,1,1,0,0,1,0,1,0,0,1,0,0,1,0,1,1,1,1,1,1],.blk 3,.code [1,1,1,0,0,1,0,1,0,0,1,0,0,1,0,1,1,1,1,1,1],.loop [0,0,1,0,1,0,0,1,0,0,1,0,1,1,1,1,1,1],.blk 2,.code [1,1,0,0,1,0,0,1,0,1,1,1,1,1,1],.blk 1,.code [1,1,0,0,1,0,1,1,1,1,1,1],.loop [0,0,1,0,1,1,1,1,1,1],.blk 0,.code [1,1,1,1,1,1,1]] ρ' h' (bC fun r h'=>xX res h' r/\av h h'):=by
        rintro to vl2 g5 ρ' hsub ⟨C2,mk5⟩ hto kz5;refine G.sub (ρ':=[(0,.pointer (some ⟨nb,0,none⟩)),(5,.pointer (some ⟨h1.size,0,none⟩)),(6,.map (some h2.size)),(7,vl2),(8,.int .i64 (i:Nat)),(9,.pointer (some ⟨g.size,0,none⟩)),(10,.int .i64 (b:Nat)),(12,.int .i64 to),(33,.int .i64 (b:Nat))]) hsub ?_
        have hrs:(cS ss cur lists b).1.length<=lists.length+1/\(cS ss cur lists b).1[i]? =some cur/\∀x∈(cS ss cur lists b).1,x.Sublist (List.range ss.length):=by
         rw[hsN];split
         · exact⟨Nat.le_succ _,hcur,hsl⟩
         · split
           · exact⟨Nat.le_succ _,hcur,hsl⟩
           · refine⟨by simp,by rw[List.getElem?_append_left (List.getElem?_eq_some_iff.1 hcur).1];exact hcur,fun x hx=>?_⟩
             rcases List.mem_append.1 hx with k|k
             · exact hsl x k
             · have:x=l:=by simpa using k
               rw[this];exact hlsub
        have hcells:(row.map (Value.int .i64)++List.replicate (256-b) (Value.int .i64 0)).length=256:=by simp[hrlen];omega
        have hset:(row.map (Value.int .i64)++List.replicate (256-b) (Value.int .i64 0)).set (0+b*1) (.int .i64 to)=(row++[to]).map (Value.int .i64)++List.replicate (256-(b+1)) (Value.int .i64 0):=by
         rw[Nat.zero_add,Nat.mul_one,List.set_append_right _ _ (by simp;omega),show 256-b=(256-(b+1))+1 by omega,List.replicate_succ];have:b-(row.map (Value.int .i64)).length=0:=by simp;omega
         rw[this,List.set_cons_zero];simp
        have hblt:0+b*1<(row.map (Value.int .i64)++List.replicate (256-b) (Value.int .i64 0)).length:=by rw[hcells];omega
        refine G.bB func121 rfl ?_;refine bO 2 rfl rfl (ai.dZ underlying312 H.bG rfl rfl b rfl (by omega)) ?_;refine RW.bT rfl rfl rfl (cB H.bG rfl rfl rfl (kz5.cell (List.getElem?_eq_getElem hblt)) kz5.nf) ?_;rintro _ g6 ⟨rfl,hg6⟩;have k6:=kz5.set (0+b*1) (.int .i64 to);rw[<-hg6,hset] at k6;have x6:Ext (fun y=>y=g.size) g5 g6:=by rw[hg6];exact Ext.dP _ _ _ rfl
        have hzge:h.size<=g.size:=mkg.ext.size;have mk6:=mk5.put x6 kz5.ty hvz hzge;refine xd [0,5,6,7,8,9,10,12,33] rfl ?_;refine G.aJ ?_;refine G.bB func121 rfl ?_;refine xp rfl (ai.aT rfl rfl ⟨by omega,by omega⟩) ?_;refine aM 1 [0,5,6,7,8,9,10,12,33] rfl ?_;exact ih2 (b+1,vl2) _ _ ⟨rfl,rfl,rfl,rfl,rfl,rfl,rfl,trivial⟩ ⟨C2,_,row++[to],mk6,⟨by show b+1<=256;omega,by simp[hrlen],by show _<=2000+(b+1);omega⟩,k6,hrs.2.1,hrs.2.2,by show jA ss cur (256-(b+1)) (b+1) _ _=tgt;rw[show 256-(b+1)=m by omega,hto];exact hrow⟩ (by show 256-(b+1)<256-b;omega)
       refine aN rfl rfl (fun hz11=>?_) (fun hz11=>?_)
       · have hl0':l.length=0:=by omega
         refine G.bB func121 rfl ?_;refine aM 1 [0,5,6,7,8,9,10,11,12,13,33,34,51] rfl ?_;refine G.aJ ?_;exact fin (-1) _ _ _ ⟨rfl,rfl,rfl,rfl,rfl,rfl,rfl,rfl,rfl,trivial⟩ (by rw[hsN,if_pos hl0'];exact⟨C,mk4⟩) (by rw[hsN,if_pos hl0']) kz4
       · have hl0':¬l.length=0:=by omega
         rcases hfind:mg 0 lists l with _|j
         · refine aQ func121 3 [0,5,6,7,8,9,10,11,12,13,33,34,51,55] rfl ?_;refine ay rfl rfl (fun _=>?_) (fun hc=>absurd hc (by simp));refine bg func121 1 rfl ?_;refine xp rfl (ai.aI underlying311 rfl) ?_;refine aM 1 [0,5,6,7,8,9,10,11,12,13,33,34,51,55] rfl ?_;refine bg func121 2 rfl ?_;refine xo rfl (aj (vs:=[_]) func190 rfl H.C0 rfl (af.aX (hkey e4))) ?_;rintro _ g5 ⟨rfl,e5⟩;have mk5:=mk4.aq e5;have hnone:ju (bs (wO l)) (kN 0 lists)=none:=by rw[tD,hfind];rfl
           refine br 1 rfl ?_;refine RW.bT rfl rfl rfl (ax.mapUpdate (v:=(lists.length:Int)) iu underlying310 underlying9 rfl rfl rfl rfl rfl mk5.mp hnone) ?_;rintro _ g6 ⟨rfl,hm6,x6,z6⟩;have hm6:eu Value.string (Value.int .i64) g6 h2.size (kN 0 (lists++[l])):=by rw[uQ,Nat.zero_add];exact hm6
           have mapne:∀{b:Nat}{t:TypeId},cu g5 b t->¬b=h2.size:=fun k e=>mk5.mp.ne k e.symm
           have e35:=e4.trans e5;have ho5w:cj cT g5 g2.size 3 (.slice l11a l.length l11c) l:=cj.aq ho3 e35;have kz5:=kz4.aq e5;have kz6:=kz5.ext x6 (mapne kz5.ty);have d6:=mk5.dblk.ext x6 (mapne mk5.dblk.ty);have nx6:=aC.ext x6 mk5.nx (fun b hb=>mapne (mk5.DX b hb));have ru6:=aC.ext x6 mk5.ru (fun b hb=>mapne (mk5.CT b hb));have ho6w:cj cT g6 g2.size 3 (.slice l11a l.length l11c) l:=aC.ext x6 ho5w (fun b hb=>mapne (aC.ty ho5w hb))
           have ls6:eM BZ (fun b=>¬(C b\/cC (Value.slice l11a l.length l11c).ownBlock b)) g6 h.size 101 (.slice (some ⟨g',0,none⟩) lists.length c') lists :=
            mk5.ls.DZ x6 (fun b hb=>mapne (mk5.FP b hb)) (fun b _ hb hC=>mapne (mk5.cty b hC) hb) (fun b _ hb hC=>hb (.inl hC))
           have lty6:cu g6 g' 101:=(mk5.FP g' rfl).ext x6 (mapne (mk5.FP g' rfl));obtain⟨css,hc1,hc2,hc3⟩:=id ls6;have hz5:=mk5.ext.size;have hz2g:=mk.ext.size;refine xd [0,5,6,7,8,9,10,11,12,13,33,34,51,55] rfl ?_;refine G.bB func121 rfl ?_;refine br 2 rfl ?_;refine xo rfl (ax.bA (us:=[_]) underlying311 H.Gz rfl rfl (by decide) (by simp[Value.oneCell'])) ?_;rintro _ _ ⟨rfl,rfl⟩;refine xo rfl (ax.bN underlying311 H.Gz rfl rfl (hc2) rfl rfl (by first|decide|simp[Value.oneCell']) (by omega) (by decide) (by omega)) ?_;rintro v7 g7 ⟨ho7,hx7,hx7',hv7⟩
           have lne:∀{b:Nat}{t:TypeId},cu g6 b t->101≠t->¬cC (Value.slice (some ⟨g',0,none⟩) lists.length c').ownBlock b:=fun k ht e=>by
            simp only[cC,Value.ownBlock,Option.some.injEq] at e;subst e;exact lty6.ne k ht rfl
           have hsz3:=e3.size;have hsz35:=e35.size;have ty6:∀{b:Nat}{t:TypeId},cu g5 b t->cu g6 b t:=fun k=>k.ext x6 (mapne k)
           have hls7:eM BZ (fun b=>¬(C b\/cC (Value.slice l11a l.length l11c).ownBlock b)) g7 h.size 101 v7 (lists++[l]) :=
            eM.mB (h:=g6) (v:=.slice (some ⟨g',0,none⟩) lists.length c') (css:=css) (cs:=[.slice l11a l.length l11c]) hc1 hc3 ho7 hx7 hv7 ⟨_,rfl,aC.Ja (h1:=fun _=>rfl) ho6w (fun b hb k=>by
             rcases k with k|k
             · exact lne (aC.ty ho6w hb) (by decide) k
             · exact k (.inr hb.symm))⟩
           have hmb6:¬cC (Value.slice (some ⟨g',0,none⟩) lists.length c').ownBlock h2.size:=fun e=>by
            simp only[cC,Value.ownBlock,Option.some.injEq] at e;exact hm6.ne (e▸lty6) rfl
           have hext7:av h g7:=⟨by have:=hx7.size;omega,fun b hb k=>by
            rw[hx7.block b (by omega) (fun e=>by
             simp only[cC,Value.ownBlock,Option.some.injEq] at e;have:=mk5.O3 g' rfl;omega),x6.block b (by omega) (by have:=mk5.mge;omega)]
            exact mk5.ext.block b hb k⟩
           have mk7:gD h g7 (fun b=>C b\/cC (Value.slice l11a l.length l11c).ownBlock b) h1.size h2.size v7 vn vr (lists++[l]) next rule :=
            ⟨hext7,d6.ext hx7 (lne d6.ty (by decide)),aC.ext hx7 nx6 (fun b hb=>lne (aC.ty nx6 hb) (by decide)),aC.ext hx7 ru6 (fun b hb=>lne (aC.ty ru6 hb) (by decide)),hm6.ext hx7 hmb6,hls7,
             fun b hb=>by
              rcases hb with hb|hb
              · exact cu.ext (ty6 (mk5.cty b hb)) hx7 (lne (ty6 (mk5.cty b hb)) (by decide))
              · exact cu.ext (aC.ty ho6w hb.symm) hx7 (lne (aC.ty ho6w hb.symm) (by decide)),
             fun b hb hC=>by
              rcases hC with hC|hC
              · exact mk5.cr b hb hC
              · have h1':=(mk.CT b hb).lt;have h2':=(aC.lt ho6w hC.symm).1;omega,mk5.dge,mk5.mge⟩
           obtain⟨v7a,v7c,rfl,_⟩:=ho7.open;refine aM 1 [0,5,6,7,8,9,10,11,12,13,33,34,51,55] rfl ?_;refine G.aJ ?_;exact fin (lists.length:Int) _ _ _ ⟨rfl,rfl,rfl,rfl,rfl,rfl,rfl,rfl,rfl,trivial⟩ (by rw[hsN,if_neg hl0',hfind];exact⟨_,mk7⟩) (by rw[hsN,if_neg hl0',hfind]) (kz6.ext hx7 (lne kz6.ty (by decide)))
         · have hj:=mK lists 0 j l hfind;refine aQ func121 3 [0,5,6,7,8,9,10,11,12,13,33,34,51,55] rfl ?_;refine ay rfl rfl (fun hc=>absurd hc (by simp)) (fun _=>?_);refine az rfl ?_;refine G.aJ ?_;exact fin (j:Int) _ _ _ ⟨rfl,rfl,rfl,rfl,rfl,rfl,rfl,rfl,rfl,trivial⟩ (by rw[hsN,if_neg hl0',hfind];exact⟨C,mk4⟩) (by rw[hsN,if_neg hl0',hfind]) kz4
     · obtain rfl:b=256:=by omega
       rw[Nat.sub_self,jA] at hrow;subst hrow;simp only at hcon;obtain⟨css2,hd1,hd2,hd3⟩:=id mk.ls;obtain⟨la2,lc2,rfl,_⟩:=hd2.open;have hencr:bX (iI row)=row.map (Value.int .i64):=by rw[bX,wH hrlen]
       rw[Nat.sub_self,List.replicate_zero,List.append_nil,<-hencr] at kz;refine aW rfl rfl ?_;refine ak rfl ?_;refine bg func121 1 rfl ?_;refine xp rfl (ai.aI underlying311 rfl) ?_;refine aM 1 [0,5,6,7,8,9,33,34,74] rfl ?_;refine aN rfl rfl (fun hbigl=>?_) (fun hbigl=>?_)
       · rw[if_pos (by omega)] at hcon;refine aQ func121 2 [0,2,3,5,6,7,8,9,33,34,74] rfl ?_;refine G.ret func121 rfl rfl ?_;exact⟨_,rfl,by rw[hcon];rfl,mk.ext⟩
       · rw[if_neg (by omega)] at hcon
         have nne:∀{b:Nat}{t:TypeId},cu g2 b t->312≠t->¬(cC vn.ownBlock b\/Array.size g2<=b):=fun kt ht e=>by
          rcases e with e|e
          · exact(mk.DX _ e.symm).ne kt ht rfl
          · have:=kt.lt;omega
         have hzM:¬(cC vn.ownBlock g.size\/Array.size g2<=g.size):=by
          rintro(e|e)
          · exact hvz e.symm
          · have:=kz.lt;omega
         have hdM:=nne mk.dblk.ty (by decide);have hnx:aC g2 h.size 312 256 vn next.length (next.flatMap bX):=mk.nx
         have hone:∀u∈bX (iI row),u.oneCell'=true:=fun u hu=>by simp[bX] at hu;obtain⟨_,_,rfl⟩:=hu;rfl
         have hg2:=mk.ext.size;refine az rfl ?_;refine ak rfl ?_;refine bK (fun b=>cC vn.ownBlock b\/Array.size g2<=b) (fun i=>Nat.blt i 10) (sz:=11) (listed:= #[false,false,false,false,false,false,false,false,false,false,false]) func121 H.mixed rfl rfl rfl ?_;refine bu 0 1 (by kernel_rfl) rfl ?_;refine bu 1 3 (by kernel_rfl) rfl ?_;refine bu 2 7 (by kernel_rfl) rfl ?_;refine bn 3 15 (by kernel_rfl) rfl (fun h' e=>aa (off:=0) underlying308 rfl rfl H.jS rfl) ?_;refine bn 4 31 (by kernel_rfl) rfl (fun h' e=>ah H.pW rfl (e.cell hdM (mk.dblk.cell (i:=0) rfl))) ?_;refine bn 5 63 (by kernel_rfl) rfl (fun h' e=>ai.aD H.tF H.jR rfl (e.rowAt hzM kz.row) (by first|rfl|(simp;done)|(simp;omega))) ?_;refine cE 6 127 (by kernel_rfl) rfl (ax.cA (cs:=bX (iI row)) underlying306 H.Dc rfl (jJ _) (by decide)) ?_;rintro _ _ ⟨rfl,rfl⟩;refine⟨fun _=>(Ext.push _ _ _),?_⟩;refine cE 7 255 (by kernel_rfl) rfl (ax.vC underlying306 H.Dc rfl rfl hnx rfl (by simp) hone (by simp only[maxLen];omega) (by omega) hg2) ?_;rintro v3 g3 ⟨ho3,hx3,hx3',hv3⟩;refine⟨fun _=>hx3'.mono (fun _ _ k=>.inl k),?_⟩;obtain⟨a3,c3,rfl,_⟩:=ho3.open;refine cE 8 511 (by kernel_rfl) rfl (ai.aX (aV rfl)) ?_;rintro _ hq_ ⟨rfl,hqe_⟩;replace hqe_:=hqe_.symm;subst hqe_;refine⟨fun _=>Ext.refl _ _,?_⟩;refine bn 9 1023 (by kernel_rfl) rfl (fun h' e=>aa (off:=0) underlying308 rfl rfl H.jS rfl) ?_;refine jP 10 2047 (by kernel_rfl) rfl (ax.aH H.jS rfl rfl (mk.dblk.ext hx3 (fun e=>hdM (.inl e))) (by first|decide|exact of_decide_eq_true rfl|(simp;done)|(simp;omega)) rfl) ?_;rintro _ g4 ⟨rfl,k4,x4,z4⟩;refine⟨fun hk=>(nomatch hk),?_⟩;have mk4:=mk.Ku (r:=iI row) rfl ho3 hx3 k4 x4;obtain⟨g',c',cs,hv',_,_,hrowv,_,⟨w,rfl,hw⟩,_⟩:=mk4.ls.put hcur;cases hv';have hng4:b6 g4 O nb v ss st:=hn.aq mk4.ext (fun _ _ k=>k);have hwr:bF gj g4 (fun _=>False) w cur:=tL hw (fun _ k=>k.elim);have hnlt:∀j∈cur,j<ss.length:=fun j hj=>List.mem_range.1 (hcsub.subset hj)
         have hcl:=hcsub.length_le;rw[List.length_range] at hcl
         have rne:∀{b:Nat}{t:TypeId},cu g4 b t->3≠t->¬(cC vr.ownBlock b\/Array.size g4<=b):=fun kt ht e=>by
          rcases e with e|e
          · exact(mk4.CT _ e.symm).ne kt ht rfl
          · have:=kt.lt;omega
         have hdM4:=rne mk4.dblk.ty (by decide);have hlM4:=rne (mk4.FP g' rfl) (by decide);have hru:aC g4 h.size 3 1 vr rule.length (rule.map (Value.int .i64)):=mk4.ru;have hg4s:=mk4.ext.size;have hli:i<lists.length:=(List.getElem?_eq_some_iff.1 hcur).1;refine RD.done (by kernel_rfl) ?_;refine xu [0,5,6,7,8,9,33,34,74] rfl ?_;refine bK (fun b=>cC vr.ownBlock b\/Array.size g4<=b) (fun i=>Nat.blt i 15) (sz:=16) (listed:= #[false,false,false,false,false,false,false,false,false,false,false,false,false,false,false,false]) func121 H.mixed rfl rfl rfl ?_;refine bu 0 1 (by kernel_rfl) rfl ?_;refine bu 1 3 (by kernel_rfl) rfl ?_;refine bu 2 7 (by kernel_rfl) rfl ?_;refine bn 3 15 (by kernel_rfl) rfl (fun h' e=>aa (off:=1) underlying308 rfl rfl H.eC rfl) ?_;refine bn 4 31 (by kernel_rfl) rfl (fun h' e=>ah H.iL rfl (e.cell hdM4 (mk4.dblk.cell (i:=1) rfl))) ?_;refine bu 5 63 (by kernel_rfl) rfl ?_;refine bu 6 127 (by kernel_rfl) rfl ?_;refine bu 7 255 (by kernel_rfl) rfl ?_;refine bn 8 511 (by kernel_rfl) rfl (fun h' e=>ai.aA underlying311 H.eC rfl rfl i rfl rfl (by omega)) ?_;refine bn 9 1023 (by kernel_rfl) rfl (fun h' e=>ah H.iL rfl (e.cell hlM4 (hrowv 0 _ rfl))) ?_;refine cE 10 2047 (by kernel_rfl) rfl (aj (vs:=[_,_]) func192 rfl H.Mi rfl (af.aX (uA hng4 (by omega) hwr hnlt (by omega)))) ?_;rintro _ g5 ⟨rfl,hg5⟩;refine⟨fun _=>by subst hg5;exact Ext.refl _ _,?_⟩;subst hg5;refine cE 11 4095 (by kernel_rfl) rfl (ax.bA (us:=[_]) underlying101 H.lR rfl rfl (by decide) (by simp[Value.oneCell'])) ?_;rintro _ _ ⟨rfl,rfl⟩;refine⟨fun _=>by first|exact Ext.push _ _ _|assumption,?_⟩;refine cE 12 8191 (by kernel_rfl) rfl (ax.bN underlying101 H.lR rfl rfl (hru) rfl rfl (by first|decide|simp[Value.oneCell']) (by omega) (by decide) (by omega)) ?_;rintro v6 g6 ⟨ho6,hx6,hx6',hv6⟩;refine⟨fun _=>hx6'.mono (fun _ _ k=>.inl k),?_⟩;obtain⟨a6,c6,rfl,_⟩:=ho6.open;refine cE 13 16383 (by kernel_rfl) rfl (ai.aX (aV rfl)) ?_;rintro _ hq_ ⟨rfl,hqe_⟩;replace hqe_:=hqe_.symm;subst hqe_;refine⟨fun _=>Ext.refl _ _,?_⟩;refine bn 14 32767 (by kernel_rfl) rfl (fun h' e=>aa (off:=1) underlying308 rfl rfl H.eC rfl) ?_;refine jP 15 65535 (by kernel_rfl) rfl (ax.aH H.eC rfl rfl (mk4.dblk.ext hx6 (fun e=>hdM4 (.inl e))) (by first|decide|exact of_decide_eq_true rfl|(simp;done)|(simp;omega)) rfl) ?_;rintro _ g7 ⟨rfl,k7,x7,z7⟩;refine⟨fun hk=>(nomatch hk),?_⟩;have mk7:=mk4.Kt (x:=bz ss cur) rfl ho6 hx6 hv6 k7 x7;refine RD.done (by kernel_rfl) ?_;refine xu [0,5,6,7,8,9,33,34,74] rfl ?_;refine G.aJ ?_;refine G.bB func121 rfl ?_;refine bO 1 rfl rfl (ai.aT rfl rfl ⟨by omega,by omega⟩) ?_;refine aM 1 [0,5,6,7,8,9,33,34,74] rfl ?_;exact ih (i+1,_) _ _ ⟨rfl,rfl,rfl,rfl,rfl,trivial⟩ ⟨C,_,_,lists,next++[iI row],rule++[bz ss cur],mk7,by show i+1<=lists.length;omega,by omega,⟨by simp[hnl],by simp[hrl]⟩,hsl,by rw[hcon,show 2002-(i+1)=n by omega]⟩ (by show 2002-(i+1)<2002-i;omega)
   · have hie:i=lists.length:=by omega
     have hnone:lists[i]? =none:=List.getElem?_eq_none (by omega);obtain⟨n,hnn⟩:∃n,2002-i=n+1:=⟨2001-i,by omega⟩
     rw[hnn,iV,hnone] at hcon;simp only at hcon;refine aW rfl rfl ?_;refine aQ func121 3 [0,2,3,5,6,7,8,30] rfl ?_;refine G.ret func121 rfl rfl ?_;refine⟨_,rfl,?_,mk.ext⟩;rw[hcon];exact⟨h1.size,rfl,vn,vr,mk.dblk,dw.read mk.nx (fun _ _ k=>k),cj.read (h1:=fun _=>rfl) mk.ru (fun _ _ k=>k)⟩
theorem zb (r:Row):over (List.replicate 256 (Value.int .i64 0)) 0 (bX r)=bX r:=by
 unfold over;rw[List.take_zero,List.nil_append,jJ,List.drop_of_length_le (by simp),List.append_nil]
theorem BL (k:pY h db d) (hok:d.Ok) :
 af Tryz.prog 194 #[.pointer (some ⟨db,0,none⟩)] h (bC fun r h'=>cj Value.bool h' h.size 4 r (pq d)/\av h h'):=by
 obtain⟨vn,vr,hk,⟨na,nn,nc,rfl,hnl,hnc,hnm,hgetn⟩,⟨ra,rn,rc,rfl,hrl,hrc,hrm,hgetr⟩⟩:=k;have hlen:=hok.len;have hsize:=hok.size;have hslN:bF De h (fun _=>False) (.slice na nn nc) d.next:=⟨_,_,_,rfl,hnl,hnc,hnm,hgetn⟩
 have hslR:bF (.int .i64) h (fun _=>False) (.slice ra rn rc) d.rule:=⟨_,_,_,rfl,hrl,hrc,hrm,hgetr⟩
 subst hnl;generalize htgt:pq d=tgt;refine af.of func194 rfl rfl ?_;refine aQ func194 1 [0,2] rfl ?_;refine bg func194 2 rfl ?_;refine xp rfl (aa (off:=0) underlying308 rfl rfl H.jS rfl) ?_;refine xp rfl (ah H.pW rfl (hk.cell (i:=0) rfl)) ?_;refine xp rfl (ai.aI underlying306 rfl) ?_;refine xo rfl (ax.nA underlying142 H.OH H.Ny rfl rfl rfl (by omega) (by decide)) ?_;rintro _ h1 ⟨rfl,k1,e1⟩;have k1:cj Value.bool h1 h.size 4 (.slice (some ⟨h.size,0,none⟩) d.next.length d.next.length) (List.replicate d.next.length false):=by unfold cj;simpa using k1
 have hf0:gx (List.replicate d.next.length false)<=d.next.length:=by unfold gx;exact Nat.le_trans (List.length_filter_le _ _) (by simp)
 refine aM 1 [0,2,3] rfl ?_;refine ak rfl ?_;refine aQ func194 1 [0,2,3,4] rfl ?_;refine G.block rfl rfl ?_;refine bf (σ:=Nat×Bool×List Bool) (fun q=>[(0,.pointer (some ⟨db,0,none⟩)),(3,.slice (some ⟨h.size,0,none⟩) d.next.length d.next.length),(4,.bool q.2.1)]) (fun q h'=>av h h'/\cj Value.bool h' h.size 4 (.slice (some ⟨h.size,0,none⟩) d.next.length d.next.length) q.2.2/\q.2.2.length=d.next.length/\(q.2.1=true->gx q.2.2<q.1/\u9 d q.1 q.2.2=tgt)/\(q.2.1=false->q.2.2=tgt)) (fun q=>q.1+(if q.2.1 then 1 else 0)) ((d.next.length+1,true,List.replicate d.next.length false)) rfl ⟨rfl,rfl,rfl,trivial⟩ ⟨e1,k1,by simp,fun _=>⟨Nat.lt_succ_of_le hf0,htgt⟩,fun k=>(by cases k)⟩ ?_;rintro⟨n,ag,out⟩ g ⟨eg,ho,hol,hT,hF⟩ ih
 try dsimp only
 dsimp only at ho hol hT hF;refine ak rfl ?_;refine aQ func194 1 [0,3,4,15] rfl ?_;refine ay rfl rfl (fun hag=>?_) (fun hag=>?_)
 · subst hag;obtain⟨hfn,hcon⟩:=hT rfl;obtain⟨n,rfl⟩:∃m,n=m+1:=⟨n-1,by omega⟩
   rw[u9] at hcon;have hless:=iT d d.next.length 0 out false (by omega)
   generalize hps:cG d d.next.length 0 out false=ps at hcon hless
   refine az rfl ?_;refine G.block rfl rfl ?_;refine aQ func194 1 [0,3,4,15] rfl ?_;refine bg func194 2 rfl ?_;refine xp rfl (aa (off:=0) underlying308 rfl rfl H.jS rfl) ?_;refine xp rfl (ah H.pW rfl ((hk.aq eg).cell (i:=0) rfl)) ?_;refine xp rfl (ai.aI underlying306 rfl) ?_;refine aM 1 [0,3,4,15,19,20,21] rfl ?_;refine G.block rfl rfl ?_;refine bf (σ:=Nat×Bool×List Bool) (fun q=>[(0,.pointer (some ⟨db,0,none⟩)),(3,.slice (some ⟨h.size,0,none⟩) d.next.length d.next.length),(4,.bool q.2.1),(19,.slice na d.next.length nc),(20,.int .i64 (d.next.length:Nat)),(21,.int .i64 (q.1:Nat))]) (fun q h'=>av h h'/\cj Value.bool h' h.size 4 (.slice (some ⟨h.size,0,none⟩) d.next.length d.next.length) q.2.2/\q.2.2.length=d.next.length/\q.1<=d.next.length/\cG d (d.next.length-q.1) q.1 q.2.2 q.2.1=ps) (fun q=>d.next.length-q.1) ((0,false,out)) rfl ⟨rfl,rfl,rfl,rfl,rfl,rfl,trivial⟩ ⟨eg,ho,hol,Nat.zero_le _,hps⟩ ?_;rintro⟨k,ag,out⟩ g2 ⟨eg2,ho,hol,hkl,hcon2⟩ ih2
   try dsimp only
   dsimp only at ho hol hkl hcon2;refine aQ func194 1 [0,3,4,19,20,21,22] rfl ?_;refine ak rfl ?_;refine aN rfl rfl (fun hlt=>?_) (fun hlt=>?_)
   · have hkN:k<d.next.length:=by omega
     obtain⟨m,hm⟩:∃m,d.next.length-k=m+1:=⟨d.next.length-k-1,by omega⟩
     rw[hm,cG] at hcon2;obtain⟨r,hr⟩:∃r,d.next[k]? =some r:=⟨_,List.getElem?_eq_getElem hkN⟩
     obtain⟨oa',n',c',hv',_,_,_,hgetn⟩:=id (hslN.mv (Mv.aq eg2));cases hv';obtain⟨b1,o1,cs1,ha1,_,hrow1,rfl⟩:=hgetn k r hr;have hone:∀u∈bX r,u.oneCell'=true:=fun u hu=>by simp[bX] at hu;obtain⟨_,_,rfl⟩:=hu;rfl
     obtain⟨bx,hbx⟩:∃bx,out[k]? =some bx:=⟨_,List.getElem?_eq_getElem (by omega)⟩
     have hgd:out.getD k false=bx:=by rw[List.getD_eq_getElem?_getD,hbx];rfl
     rw[hgd] at hcon2;refine az rfl ?_;refine ak rfl ?_;refine G.block rfl rfl ?_;refine bg func194 1 rfl ?_;refine xp rfl (ai.aA underlying306 H.jR rfl rfl k rfl ha1 (by omega)) ?_;refine xp rfl (ai.aD H.tF H.jR rfl hrow1 (by first|rfl|(simp;done)|(simp;omega))) ?_;refine xo rfl (ax.aO H.CB) ?_;rintro _ g3 ⟨rfl,k6,e3,z3⟩;have k6:aL g3 g2.size 312 (List.replicate 256 (Value.int .i64 0)):=k6;refine br 1 rfl ?_;refine RW.bT rfl rfl rfl (ax.aB H.jR rfl rfl k6 (by first|rfl|(simp;done)|(simp;omega)) (by first|decide|exact of_decide_eq_true rfl|(simp;done)|(simp;omega)) (hone)) ?_;rintro _ g4 ⟨rfl,k7,x7,z7⟩;have k7:aL g4 g2.size 312 (bX r):=by rw[<-zb r];exact k7
     have e4:av g2 g4:=av.only e3 x7 (Nat.le_refl _);have eg4:=eg2.trans e4;have ho4:=cj.aq ho e4;obtain⟨gg,c4,hv4,hgb,hglt,hcell,hfz,hset⟩:=ho4.at hbx;rw[hol] at hv4;cases hv4;refine xd [0,3,4,5,6,19,20,21,22] rfl ?_;refine ak rfl ?_;refine bg func194 2 rfl ?_;refine xp rfl (ai.aA underlying142 H.qo rfl rfl k rfl rfl (by omega)) ?_;refine xp rfl (ah H.Hv rfl hcell) ?_;refine xd [0,3,4,5,6,19,20,21,22,29] rfl ?_;refine ay rfl rfl (fun hb=>?_) (fun hb=>?_)
     · subst hb;rw[if_pos rfl] at hcon2;refine aW rfl rfl ?_;refine G.bB func194 rfl ?_;refine xp rfl (ai.aT rfl rfl ⟨by omega,by omega⟩) ?_;refine aM 1 [0,3,4,5,6,19,20,21,22,29] rfl ?_;exact ih2 (k+1,ag,out) _ _ ⟨rfl,rfl,rfl,rfl,rfl,rfl,trivial⟩ ⟨eg4,ho4,hol,hkN,by show cG d (d.next.length-(k+1)) _ _ _=ps;rw[show d.next.length-(k+1)=m by omega];exact hcon2⟩ (by show d.next.length-(k+1)<d.next.length-k;omega)
     · subst hb;rw[if_neg (by decide)] at hcon2;obtain⟨x,hx⟩:∃x,d.rule[k]? =some x:=⟨_,List.getElem?_eq_getElem (by omega)⟩
       have hru:d.ru k=x:=by unfold cV.ru;rw[List.getD_eq_getElem?_getD,hx];rfl
       have hrow:d.row k=r.v:=by unfold cV.row;rw[hr]
       obtain⟨oa',n',c',hv',_,_,_,hgetr⟩:=id (hslR.mv (Mv.aq eg4));cases hv';obtain⟨b2,o2,cs2,ha2,_,hrow2,rfl⟩:=hgetr k x hx;refine az rfl ?_;refine bg func194 4 rfl ?_;refine xp rfl (aa (off:=1) underlying308 rfl rfl H.eC rfl) ?_;refine xp rfl (ah H.iL rfl ((hk.aq eg4).cell (i:=1) rfl)) ?_;refine bO 1 rfl rfl (ai.aA underlying101 H.bG rfl rfl k rfl ha2 (by omega)) ?_;refine xp rfl (ah H.bU rfl (hrow2 0 _ rfl)) ?_;refine bO 1 rfl rfl (ai.aA underlying142 H.qo rfl rfl k rfl rfl (by omega)) ?_;refine RW.bT rfl rfl rfl (cB H.qo rfl rfl rfl hcell hfz) ?_;rintro _ g5 ⟨rfl,hg5⟩;have hset:=hset (decide (0<=x));rw[<-hg5] at hset;have x5:Ext (fun b=>b=h.size) g4 g5:=by rw[hg5];exact Ext.dP _ _ _ rfl
       have e5:av h g5:=av.only eg4 x5 (Nat.le_refl _);have hz2:=eg2.size;have hlt2:h.size<g2.size:=(aC.lt ho rfl).2;have k8:=k7.ext x5 (by show ¬_=_;omega);refine xd [0,3,4,5,6,19,20,21,22,29] rfl ?_;refine ak rfl ?_;refine xr func194 rfl ?_;refine xp rfl (ai.aD H.tF H.jR rfl k8.row (by first|rfl|(simp;done)|(simp;omega))) ?_;refine aM 1 [0,3,4,5,6,19,20,21,22,29,41,42] rfl ?_;refine G.block rfl rfl ?_;refine bf (σ:=Nat) (fun j=>[(0,.pointer (some ⟨db,0,none⟩)),(3,.slice (some ⟨h.size,0,none⟩) d.next.length d.next.length),(4,.bool ag),(5,.int .i64 (k:Nat)),(19,.slice na d.next.length nc),(20,.int .i64 (d.next.length:Nat)),(21,.int .i64 (k:Nat)),(41,.agg (bX r).toArray),(42,.int .i64 (j:Nat))]) (fun j h'=>av h h'/\cj Value.bool h' h.size 4 (.slice (some ⟨h.size,0,none⟩) d.next.length d.next.length) (out.set k (decide (0<=x) ||(r.v.take j).any (fL out)))/\j<=256) (fun j=>256-j) (0) rfl ⟨rfl,rfl,rfl,rfl,rfl,rfl,rfl,rfl,rfl,trivial⟩ ⟨e5,by simpa using hset,Nat.zero_le _⟩ ?_;rintro j g6 ⟨eg6,ho6,hj⟩ ih3;refine aQ func194 1 [0,3,4,5,19,20,21,41,42,43] rfl ?_;refine ak rfl ?_;refine aN rfl rfl (fun hlt3=>?_) (fun hlt3=>?_)
       · have hj2:j<256:=by omega
         obtain⟨t,ht⟩:∃t,r.v[j]? =some t:=⟨_,List.getElem?_eq_getElem (by rw[r.len];exact hj2)⟩
         have htr:(r.v.take (j+1)).any (fL out)=((r.v.take j).any (fL out) ||fL out t):=by rw[List.take_add_one,ht,List.any_append];simp
         have htm:=hok.to r (List.mem_of_getElem? hr) t (List.mem_of_getElem? ht);generalize hc:(decide (0<=x) ||(r.v.take j).any (fL out))=cb at ho6;have hcell6:(out.set k cb)[k]? =some cb:=by rw[List.getElem?_set_self (by rw[hol];exact hkN)]
         obtain⟨gg,c6,hv6,_,_,hcc6,hfz6,hset6⟩:=ho6.at hcell6;rw[List.length_set,hol] at hv6;cases hv6
         have fin:∀y g7,y=(decide (0<=x) ||(r.v.take (j+1)).any (fL out))->g7=dP g6 ⟨h.size,0+k*1,none⟩ (.bool y)->av h g7/\cj Value.bool g7 h.size 4 (.slice (some ⟨h.size,0,none⟩) d.next.length d.next.length) (out.set k (decide (0<=x) ||(r.v.take (j+1)).any (fL out)))/\j+1<=256:=by
          rintro y g7 rfl rfl;have k9:=hset6 (decide (0<=x) ||(r.v.take (j+1)).any (fL out));rw[List.set_set] at k9;exact⟨av.only eg6 (Ext.dP (M:=fun b=>b=h.size) g6 _ _ rfl) (Nat.le_refl _),k9,hj2⟩
         refine az rfl ?_;refine ak rfl ?_;refine G.block rfl rfl ?_;refine xr func194 rfl ?_;refine xp rfl (ai.sy underlying312 H.bG H.bU rfl rfl j rfl hj2 (show (bX r).toArray[j]? =some (Value.int .i64 t) by simp[bX,ht])) ?_;refine aM 1 [0,3,4,5,8,19,20,21,41,42,43] rfl ?_;refine G.bB func194 rfl ?_;refine bO 4 rfl rfl (ai.aA underlying142 H.qo rfl rfl k rfl rfl (by omega)) ?_;refine xp rfl (ah H.Hv rfl hcc6) ?_;refine br 1 rfl ?_;refine bI (d:=51) rfl (fun hg=>?_) (fun hg=>?_)
         · refine bO 9 rfl rfl (ai.aA underlying142 H.qo rfl rfl k rfl rfl (by omega)) ?_;refine RW.bT rfl rfl rfl (cB H.qo rfl rfl rfl hcc6 hfz6) ?_;rintro _ g7 ⟨rfl,hg7⟩;refine xd [0,3,4,5,8,19,20,21,41,42,43] rfl ?_;refine G.aJ ?_;refine G.bB func194 rfl ?_;refine xp rfl (ai.aT rfl rfl ⟨by omega,by omega⟩) ?_;refine aM 1 [0,3,4,5,8,19,20,21,41,42,43] rfl ?_;exact ih3 (j+1) _ _ ⟨rfl,rfl,rfl,rfl,rfl,rfl,rfl,rfl,rfl,trivial⟩ (fin true g7 (by rw[htr,<-Bool.or_assoc,hc,hg];rfl) hg7) (by omega)
         · refine br 3 rfl ?_;refine bI (d:=54) rfl (fun hg2=>?_) (fun hg2=>?_)
           · have hg2':=of_decide_eq_true hg2;obtain⟨t2,rfl⟩:=Int.eq_ofNat_of_zero_le hg2';obtain⟨bt,hbt⟩:∃bt,(out.set k cb)[t2]? =some bt:=⟨_,List.getElem?_eq_getElem (by rw[List.length_set,hol];omega)⟩
             obtain⟨gg,c6,hv6,_,_,hct,_,_⟩:=ho6.at hbt;rw[List.length_set,hol] at hv6;cases hv6
             have hlt2:fL out (t2:Nat)=bt:=by
              unfold fL;rw[decide_eq_true (show (0:Int)<=(t2:Nat) by omega),Bool.true_and,Int.toNat_natCast,List.getD_eq_getElem?_getD]
              by_cases e:k=t2
              · subst e;rw[hcell6] at hbt;cases hbt;rw[hbx,hg];rfl
              · rw[List.getElem?_set_ne e] at hbt;rw[hbt];rfl
             refine bO 2 rfl rfl (ai.aA underlying142 H.qo rfl rfl t2 rfl rfl (by omega)) ?_;refine xp rfl (ah H.Hv rfl hct) ?_;refine bO 2 rfl rfl (ai.aA underlying142 H.qo rfl rfl k rfl rfl (by omega)) ?_;refine RW.bT rfl rfl rfl (cB H.qo rfl rfl rfl hcc6 hfz6) ?_;rintro _ g7 ⟨rfl,hg7⟩;refine xd [0,3,4,5,8,19,20,21,41,42,43] rfl ?_;refine G.aJ ?_;refine G.bB func194 rfl ?_;refine xp rfl (ai.aT rfl rfl ⟨by omega,by omega⟩) ?_;refine aM 1 [0,3,4,5,8,19,20,21,41,42,43] rfl ?_;exact ih3 (j+1) _ _ ⟨rfl,rfl,rfl,rfl,rfl,rfl,rfl,rfl,rfl,trivial⟩ (fin bt g7 (by rw[htr,<-Bool.or_assoc,hc,hg,hlt2,Bool.false_or]) hg7) (by omega)
           · have hg2':=of_decide_eq_false hg2;refine bO 6 rfl rfl (ai.aA underlying142 H.qo rfl rfl k rfl rfl (by omega)) ?_;refine RW.bT rfl rfl rfl (cB H.qo rfl rfl rfl hcc6 hfz6) ?_;rintro _ g7 ⟨rfl,hg7⟩;refine xd [0,3,4,5,8,19,20,21,41,42,43] rfl ?_;refine G.aJ ?_;refine G.bB func194 rfl ?_;refine xp rfl (ai.aT rfl rfl ⟨by omega,by omega⟩) ?_;refine aM 1 [0,3,4,5,8,19,20,21,41,42,43] rfl ?_;exact ih3 (j+1) _ _ ⟨rfl,rfl,rfl,rfl,rfl,rfl,rfl,rfl,rfl,trivial⟩ (fin false g7 (by rw[htr,<-Bool.or_assoc,hc,hg];unfold fL;rw[decide_eq_false hg2'];rfl) hg7) (by omega)
       · have hje:j=256:=by omega
         have hla:(decide (0<=x) ||(r.v.take j).any (fL out))=fM d out k:=by
          unfold fM;rw[hru,hrow,hje,List.take_of_length_le (by rw[r.len];exact Nat.le_refl _)]
         rw[hla] at ho6;have hcell6:(out.set k (fM d out k))[k]? =some (fM d out k):=by rw[List.getElem?_set_self (by rw[hol];exact hkN)]
         obtain⟨gg,c6,hv6,_,_,hcc6,hfz6,_⟩:=ho6.at hcell6;rw[List.length_set,hol] at hv6;cases hv6;refine aW rfl rfl ?_;refine G.bH [(4,.bool (ag ||fM d out k))] [(0,_),(3,_),(5,_),(19,_),(20,_),(21,_),(41,_),(42,_),(43,_)] ⟨rfl,rfl,rfl,rfl,rfl,rfl,rfl,rfl,rfl,trivial⟩ func194 rfl ?_ ?_
         · refine br 2 rfl ?_;refine bI (d:=64) rfl (fun hg=>?_) (fun hg=>?_)
           · refine br 6 rfl ?_;refine RW.done rfl ?_;exact⟨rfl,aK rfl (by rw[hg];rfl),rfl,rfl,rfl,rfl,rfl,rfl,rfl,rfl,rfl,trivial⟩
           · refine bO 2 rfl rfl (ai.aA underlying142 H.qo rfl rfl k rfl rfl (by omega)) ?_;refine xp rfl (ah H.Hv rfl hcc6) ?_;refine br 2 rfl ?_;refine RW.done rfl ?_;exact⟨rfl,aK rfl (by rw[hg];rfl),rfl,rfl,rfl,rfl,rfl,rfl,rfl,rfl,rfl,trivial⟩
         · refine G.aJ ?_;refine G.bB func194 rfl ?_;refine xp rfl (ai.aT rfl rfl ⟨by omega,by omega⟩) ?_;refine aM 1 [0,3,4,5,19,20,21,41,42,43] rfl ?_;exact ih2 (k+1,ag ||fM d out k,out.set k (fM d out k)) _ _ ⟨rfl,rfl,rfl,rfl,rfl,rfl,trivial⟩ ⟨eg6,ho6,by show (out.set k _).length=_;rw[List.length_set];exact hol,hkN,by show cG d (d.next.length-(k+1)) _ _ _=ps;rw[show d.next.length-(k+1)=m by omega];exact hcon2⟩ (by show d.next.length-(k+1)<d.next.length-k;omega)
   · have hke:d.next.length-k=0:=by omega
     rw[hke,cG] at hcon2;subst hcon2;simp only at hcon hless;refine aW rfl rfl ?_;refine G.aJ ?_
     exact ih (n,ag,out) _ _ ⟨rfl,rfl,rfl,trivial⟩ ⟨eg2,ho,hol,fun ht=>by
      subst ht;rw[if_pos rfl] at hcon
      rcases hless.2 rfl with k|k
      · cases k
      · exact⟨by show gx out<n;omega,hcon⟩,fun hf=>by
      subst hf;rw[if_neg (by decide)] at hcon;exact hcon⟩ (by show n+(if ag=true then 1 else 0)<n+1+(if true=true then 1 else 0);rw[if_pos rfl];split<;>omega)
 · subst hag;have hcon:=hF rfl;refine aW rfl rfl ?_;refine aQ func194 2 [0,2,3,4,15] rfl ?_;refine G.ret func194 rfl rfl ?_;exact⟨_,rfl,by rw[<-hcon];unfold cj at ho ⊢;rw[hol] at ho ⊢;exact ho,eg⟩
def fD:Nat->List (List Int)->List (ByteArray×Int)
 |_,[]=>[]
 |i,x::r=>(bs (fk x),(i:Int))::fD (i+1) r
theorem rf:∀(ls:List (List Int)) (i:Nat) (l:List Int),fD i (ls++[l])=fD i ls++[(bs (fk l),((i+ls.length:Nat):Int))]
 | [],i,l=>by simp[fD]
 |x::r,i,l=>by
  simp only[List.cons_append,fD];rw[rf r (i+1) l,List.length_cons,show i+1+r.length=i+(r.length+1) by omega]
theorem og:∀(ls:List (List Int)) (i:Nat),(fD i ls).length=ls.length
 | [],_=>rfl
 |x::r,i=>by rw[fD,List.length_cons,List.length_cons,og r (i+1)]
theorem jq:∀(ls:List (List Int)) (i:Nat) (l:List Int),ju (bs (fk l)) (fD i ls)=(jZ i ls l).map fun j=>(j:Int)
 | [],i,l=>rfl
 |x::r,i,l=>by
  rw[fD,ju,jZ]
  by_cases h:l=x
  · subst h;rw[if_pos rfl,if_pos rfl];rfl
  · have hk:¬bs (fk l)=bs (fk x):=fun e=>h (key_inj (ef e))
    rw[if_neg hk,if_neg h];exact jq r (i+1) l
theorem tA {t:Int}(h:t<0\/live.getD t.toNat false=false):dm live cls t= -2:=if_pos h
theorem Ci {t:Int}(h:¬(t<0\/live.getD t.toNat false=false)):dm live cls t=cls.getD t.toNat 0:=if_neg h
theorem pJ (hcb:∀x∈cls,-1<=x/\x<=1000000) (k:Nat) : -1<=cls.getD k 0/\cls.getD k 0<=1000000:=by
 rw[List.getD_eq_getElem?_getD];cases hk:cls[k]? with
 |none=>simp
 |some x=>exact hcb x (List.mem_of_getElem? hk)
theorem wh (hcb:∀x∈cls,-1<=x/\x<=1000000) (k:Nat):∀x∈ni d live cls k,-9223372036854775808<=x/\x<=9223372036854775807:=by
 intro x hx
 rcases List.mem_cons.1 hx with e|e
 · have:=pJ hcb k;omega
 · obtain⟨t,_,rfl⟩:=List.mem_map.1 e;unfold dm;split
   · omega
   · have:=pJ hcb t.toNat;omega
theorem sL:∀(ls:List (List Int)) (i:Nat) (l:List Int),jZ i ls l=none->jZ i (ls++[l]) l=some (i+ls.length)
 | [],i,l,_=>by simp[jZ]
 |x::r,i,l,h=>by
  rw[jZ] at h;split at h
  · cases h
  · rename_i hn;rw[List.cons_append,jZ,if_neg hn,sL r (i+1) l h,List.length_cons]
    congr 1;omega
theorem um {lv:Value}(htens:lE h) (k:pY h db d) (hok:d.Ok) (hlv:bF .bool h (fun _=>False) lv live) (hll:live.length=d.next.length) :
 af Tryz.prog 195 #[.pointer (some ⟨db,0,none⟩),lv] h (bC fun r h'=>cj (Value.int .i64) h' h.size 3 r (tf d live)/\av h h'):=by
 obtain⟨vn,vr,hk,⟨na,nn,nc,rfl,hnl,hnc,hnm,hgetn⟩,⟨ra,rn,rc,rfl,hrl,hrc,hrm,hgetr⟩⟩:=k;obtain⟨va,vm,vc,rfl,hvl,hvc,hvm,hgetv⟩:=hlv;have hlen:=hok.len;have hsize:=hok.size;have hslN:bF De h (fun _=>False) (.slice na nn nc) d.next:=⟨_,_,_,rfl,hnl,hnc,hnm,hgetn⟩
 have hslR:bF (.int .i64) h (fun _=>False) (.slice ra rn rc) d.rule:=⟨_,_,_,rfl,hrl,hrc,hrm,hgetr⟩
 have hslV:bF .bool h (fun _=>False) (.slice va vm vc) live:=⟨_,_,_,rfl,hvl,hvc,hvm,hgetv⟩
 subst hnl;generalize htgt:tf d live=tgt;refine af.of func195 rfl rfl ?_;refine aQ func195 1 [0,1,4] rfl ?_;refine bg func195 2 rfl ?_;refine xp rfl (aa (off:=0) underlying308 rfl rfl H.jS rfl) ?_;refine xp rfl (ah H.pW rfl (hk.cell (i:=0) rfl)) ?_;refine xp rfl (ai.aI underlying306 rfl) ?_;refine xo rfl (ax.nA underlying101 H.lR H.NQ rfl rfl rfl (by omega) (by decide)) ?_;rintro _ h1 ⟨rfl,k1,e1⟩;have k1:cj (Value.int .i64) h1 h.size 3 (.slice (some ⟨h.size,0,none⟩) d.next.length d.next.length) (List.replicate d.next.length 0):=by unfold cj;simpa using k1
 refine aM 1 [0,1,4,5] rfl ?_;refine ak rfl ?_;refine bg func195 1 rfl ?_;refine xp rfl (ai.aI underlying101 rfl) ?_;refine aM 1 [0,1,4,5,25,26] rfl ?_;refine G.block rfl rfl ?_;refine bf (σ:=Nat) (fun i=>[(0,.pointer (some ⟨db,0,none⟩)),(1,.slice va vm vc),(5,.slice (some ⟨h.size,0,none⟩) d.next.length d.next.length),(25,.int .i64 (d.next.length:Nat)),(26,.int .i64 (i:Nat))]) (fun i h'=>av h h'/\cj (Value.int .i64) h' h.size 3 (.slice (some ⟨h.size,0,none⟩) d.next.length d.next.length) (d.rule.take i++List.replicate (d.next.length-i) 0)/\i<=d.next.length) (fun i=>d.next.length-i) (0) rfl ⟨rfl,rfl,rfl,rfl,rfl,trivial⟩ ⟨e1,by simpa using k1,Nat.zero_le _⟩ ?_;rintro i g ⟨eg,ho,hi⟩ ih;refine aQ func195 1 [0,1,5,25,26,27] rfl ?_;refine ak rfl ?_;refine aN rfl rfl (fun hlt=>?_) (fun hlt=>?_)
 · have hiN:i<d.next.length:=by omega
   obtain⟨x,hx⟩:∃x,d.rule[i]? =some x:=⟨_,List.getElem?_eq_getElem (by omega)⟩
   have hxe:d.rule[i]'(by omega)=x:=(List.getElem?_eq_some_iff.1 hx).2;obtain⟨oa',n',c',hv',_,_,_,hgetr⟩:=id (hslR.mv (Mv.aq eg));cases hv';obtain⟨b2,o2,cs2,ha2,_,hrow2,rfl⟩:=hgetr i x hx;obtain⟨gg,c4,hv4,hgb,hglt,hcell,hfz,hset⟩:=ho.at (Gp (z:=(0:Int)) hlen hiN);rw[Gn hlen hi] at hv4;cases hv4;refine az rfl ?_;refine ak rfl ?_;refine G.block rfl rfl ?_;refine aQ func195 2 [0,1,5,6,25,26,27] rfl ?_;refine G.bB func195 rfl ?_;refine bO 4 rfl rfl (aa (off:=1) underlying308 rfl rfl H.eC rfl) ?_;refine xp rfl (ah H.iL rfl ((hk.aq eg).cell (i:=1) rfl)) ?_;refine bO 1 rfl rfl (ai.aA underlying101 H.bG rfl rfl i rfl ha2 (by omega)) ?_;refine xp rfl (ah H.bU rfl (hrow2 0 _ rfl)) ?_;refine xp rfl (ai.aA underlying101 H.bG rfl rfl i rfl rfl (by omega)) ?_;refine RW.bT rfl rfl rfl (cB H.bG rfl rfl rfl hcell hfz) ?_;rintro _ g2 ⟨rfl,hg2⟩;have hset:=hset x;rw[<-hg2,<-hxe,Gm hlen hiN] at hset;have x2:Ext (fun b=>b=h.size) g g2:=by rw[hg2];exact Ext.dP _ _ _ rfl
   have e2:av h g2:=av.only eg x2 (Nat.le_refl _);refine xd [0,1,5,6,25,26,27] rfl ?_;refine G.aJ ?_;refine G.bB func195 rfl ?_;refine xp rfl (ai.aT rfl rfl ⟨by omega,by omega⟩) ?_;refine aM 1 [0,1,5,6,25,26,27] rfl ?_;exact ih (i+1) _ _ ⟨rfl,rfl,rfl,rfl,rfl,trivial⟩ ⟨e2,hset,hiN⟩ (by show d.next.length-(i+1)<d.next.length-i;omega)
 · obtain rfl:i=d.next.length:=by omega
   rw[Nat.sub_self,List.replicate_zero,List.append_nil,List.take_of_length_le (by omega)] at ho;refine aW rfl rfl ?_;refine aQ func195 1 [0,1,5,7,25,26,27] rfl ?_;refine G.block rfl rfl ?_;refine bf (σ:=Nat×Nat×Value×List Int) (fun q=>[(0,.pointer (some ⟨db,0,none⟩)),(1,.slice va vm vc),(5,q.2.2.1),(7,.int .i64 (q.2.1:Nat))]) (fun q h'=>av h h'/\cj (Value.int .i64) h' h.size 3 q.2.2.1 q.2.2.2/\q.2.2.2.length=d.next.length/\(∀x∈q.2.2.2,-1<=x/\x<=1000000)/\(q.2.1<=d.next.length/\oN q.2.1 q.2.2.2/\d.next.length+1<=q.1+q.2.1)/\oC d live q.1 q.2.1 q.2.2.2=tgt) (fun q=>q.1) ((d.next.length+1,0,.slice (some ⟨h.size,0,none⟩) d.next.length d.next.length,d.rule)) rfl ⟨rfl,rfl,rfl,rfl,trivial⟩ ⟨eg,ho,hlen,hok.ru,⟨Nat.zero_le _,fun i hi=>absurd hi (Nat.not_lt_zero _),by simp⟩,htgt⟩ ?_;rintro⟨n,many,vcl,cls⟩ g ⟨eg,ho,hcl,hcb,⟨hmN,hcov,hfuel⟩,hcon⟩ ih
   try dsimp only
   dsimp only at ho hcl hcb hmN hcov hfuel hcon;obtain⟨n,rfl⟩:∃m,n=m+1:=⟨n-1,by omega⟩
   rw[oC] at hcon;have hmore:=s8 (d:=d) (live:=live) hcov hcl;have hend:=fW d live cls;generalize hps:cm d live cls d.next.length 0 [] []=ps at hcon hmore hend
   obtain⟨la,lc,rfl,_⟩:=(show aC g h.size 3 1 vcl cls.length (cls.map (Value.int .i64)) from ho).open;rw[hcl] at ho;have hown:∀b,(Value.slice la d.next.length lc).ownBlock=some b->b<g.size:=fun b hb=>(aC.lt ho hb).2
   rw[hcl];refine G.block rfl rfl ?_;refine xr func195 rfl ?_;refine xo rfl (lF (ek:=Value.string) (ev:=Value.int .i64)) ?_;rintro _ g1 ⟨rfl,hm1,e1',z1⟩;refine aM 1 [0,1,5,7,8] rfl ?_;refine bg func195 1 rfl ?_;refine xp rfl (ai.aI underlying101 rfl) ?_;refine xo rfl (ax.nA underlying101 H.lR H.NQ rfl rfl rfl (by omega) (by decide)) ?_;rintro _ g2 ⟨rfl,k2,e2⟩;have k2:cj (Value.int .i64) g2 g1.size 3 (.slice (some ⟨g1.size,0,none⟩) d.next.length d.next.length) (List.replicate d.next.length 0):=by unfold cj;simpa using k2
   have hm2:=hm1.ext e2 (fun k=>k);have e12:=e1'.trans e2;refine aM 1 [0,1,5,7,8,9] rfl ?_;refine ak rfl ?_;refine bg func195 2 rfl ?_;refine xp rfl (aa (off:=0) underlying308 rfl rfl H.jS rfl) ?_;refine xp rfl (ah H.pW rfl ((hk.aq (eg.trans e12)).cell (i:=0) rfl)) ?_;refine xp rfl (ai.aI underlying306 rfl) ?_;refine aM 1 [0,1,5,7,8,9,47,48,49] rfl ?_;refine G.block rfl rfl ?_;refine bf (σ:=Nat×List (List Int)×List Int) (fun q=>[(0,.pointer (some ⟨db,0,none⟩)),(1,.slice va vm vc),(5,.slice la d.next.length lc),(7,.int .i64 (many:Nat)),(8,.map (some g.size)),(9,.slice (some ⟨g1.size,0,none⟩) d.next.length d.next.length),(47,.slice na d.next.length nc),(48,.int .i64 (d.next.length:Nat)),(49,.int .i64 (q.1:Nat))]) (fun q h'=>av g h'/\eu Value.string (Value.int .i64) h' g.size (fD 0 q.2.1)/\cj (Value.int .i64) h' g1.size 3 (.slice (some ⟨g1.size,0,none⟩) d.next.length d.next.length) (q.2.2++List.replicate (d.next.length-q.1) 0)/\(q.1<=d.next.length/\q.2.2.length=q.1/\q.2.1.length<=q.1)/\cm d live cls (d.next.length-q.1) q.1 q.2.1 q.2.2=ps) (fun q=>d.next.length-q.1) ((0,[],[])) rfl ⟨rfl,rfl,rfl,rfl,rfl,rfl,rfl,rfl,rfl,trivial⟩ ⟨e12,hm2,k2,⟨Nat.zero_le _,rfl,Nat.le_refl _⟩,hps⟩ ?_;rintro⟨k,seen,after⟩ g3 ⟨e3,hmp,haf,⟨hkN,hal,hsl⟩,hcon2⟩ ih2
   try dsimp only
   dsimp only at hmp haf hkN hal hsl hcon2;have eg3:=eg.trans e3;have ho3:=cj.aq ho e3;refine aQ func195 1 [0,1,5,7,8,9,47,48,49,50] rfl ?_;refine ak rfl ?_;refine aN rfl rfl (fun hlt=>?_) (fun hlt=>?_)
   · have hkN:k<d.next.length:=by omega
     obtain⟨m,hm⟩:∃m,d.next.length-k=m+1:=⟨d.next.length-k-1,by omega⟩
     rw[hm,cm] at hcon2;obtain⟨r,hr⟩:∃r,d.next[k]? =some r:=⟨_,List.getElem?_eq_getElem hkN⟩
     obtain⟨oa',n',c',hv',_,_,_,hgetn⟩:=id (hslN.mv (Mv.aq eg3));cases hv';obtain⟨b1,o1,cs1,ha1,_,hrow1,rfl⟩:=hgetn k r hr;have hone:∀u∈bX r,u.oneCell'=true:=fun u hu=>by simp[bX] at hu;obtain⟨_,_,rfl⟩:=hu;rfl
     have hrow:d.row k=r.v:=by unfold cV.row;rw[hr]
     refine az rfl ?_;refine ak rfl ?_;refine G.block rfl rfl ?_;refine bg func195 1 rfl ?_;refine xp rfl (ai.aA underlying306 H.jR rfl rfl k rfl ha1 (by omega)) ?_;refine xp rfl (ai.aD H.tF H.jR rfl hrow1 (by first|rfl|(simp;done)|(simp;omega))) ?_;refine xo rfl (ax.aO H.CB) ?_;rintro _ g4 ⟨rfl,k4,e4,z4⟩;have k4:aL g4 g3.size 312 (List.replicate 256 (Value.int .i64 0)):=k4;refine br 1 rfl ?_;refine RW.bT rfl rfl rfl (ax.aB H.jR rfl rfl k4 (by first|rfl|(simp;done)|(simp;omega)) (by first|decide|exact of_decide_eq_true rfl|(simp;done)|(simp;omega)) (hone)) ?_;rintro _ g5 ⟨rfl,k5,x5,z5⟩;have k5:aL g5 g3.size 312 (bX r):=by rw[<-zb r];exact k5
     have e5:av g3 g5:=av.only e4 x5 (Nat.le_refl _);have ho5:=cj.aq ho3 e5;obtain⟨c,hc⟩:∃c,cls[k]? =some c:=⟨_,List.getElem?_eq_getElem (by omega)⟩
     have hgd:cls.getD k 0=c:=by rw[List.getD_eq_getElem?_getD,hc];rfl
     obtain⟨gg,c4,hv4,hgb,hglt,hcell,hfz,hset⟩:=ho5.at hc;rw[hcl] at hv4;have hla:la=some ⟨gg,0,none⟩:=by cases hv4;rfl
     refine xd [0,1,5,7,8,9,10,11,47,48,49,50] rfl ?_;refine bg func195 2 rfl ?_;refine xp rfl (ai.aA underlying101 H.bG rfl rfl k rfl hla (by omega)) ?_;refine xp rfl (ah H.bU rfl hcell) ?_;have e56:av g5 (g5.push (.cells #[.int .i64 c] 3)):=Ext.push _ _ _;have hl6:cj (Value.int .i64) (g5.push (.cells #[.int .i64 c] 3)) g5.size 3 (.slice (some ⟨g5.size,0,none⟩) 1 1) [c]:=tQ (Value.int .i64) g5 3 [c] 1 rfl (by decide) g5.size (Nat.le_refl _) rfl;refine xo rfl (ax.bA (us:=[_]) underlying101 H.lR rfl rfl (by decide) (by simp[Value.oneCell'])) ?_;rintro _ _ ⟨rfl,rfl⟩;refine aM 1 [0,1,5,7,8,9,10,11,12,47,48,49,50] rfl ?_;refine ak rfl ?_;refine xr func195 rfl ?_;generalize g5.push (.cells #[.int .i64 c] 3)=g6 at *;have k6:=k5.aq e56;have e36:av g3 g6:=e5.trans e56;have ho6:=cj.aq ho5 e56;have hz5:=e5.size;refine xp rfl (ai.aD H.tF H.jR rfl k6.row (by first|rfl|(simp;done)|(simp;omega))) ?_;refine aM 1 [0,1,5,7,8,9,10,11,12,47,48,49,50,59,60] rfl ?_;refine G.block rfl rfl ?_;refine bf (σ:=Nat×Value) (fun q=>[(0,.pointer (some ⟨db,0,none⟩)),(1,.slice va vm vc),(5,.slice la d.next.length lc),(7,.int .i64 (many:Nat)),(8,.map (some g.size)),(9,.slice (some ⟨g1.size,0,none⟩) d.next.length d.next.length),(10,.int .i64 (k:Nat)),(12,q.2),(47,.slice na d.next.length nc),(48,.int .i64 (d.next.length:Nat)),(49,.int .i64 (k:Nat)),(59,.agg (bX r).toArray),(60,.int .i64 (q.1:Nat))]) (fun q h'=>av g3 h'/\cj (Value.int .i64) h' g5.size 3 q.2 (c::(r.v.take q.1).map (dm live cls))/\q.1<=256/\g5.size<=h'.size) (fun q=>256-q.1) ((0,.slice (some ⟨g5.size,0,none⟩) 1 1)) rfl ⟨rfl,rfl,rfl,rfl,rfl,rfl,rfl,rfl,rfl,rfl,rfl,rfl,rfl,trivial⟩ ⟨e36,hl6,Nat.zero_le _,e56.size⟩ ?_;rintro⟨j,vl⟩ g7 ⟨e7,hl7,hj,hz7⟩ ih3
     try dsimp only
     dsimp only at hl7 hj;have eg7:=eg3.trans e7;have ho7:=cj.aq ho3 e7;have hlen7:(c::(r.v.take j).map (dm live cls)).length=j+1:=by simp[r.len];omega
     refine aQ func195 1 [0,1,5,7,8,9,10,12,47,48,49,59,60,61] rfl ?_;refine ak rfl ?_;refine aN rfl rfl (fun hlt3=>?_) (fun hlt3=>?_)
     · have hj2:j<256:=by omega
       obtain⟨t,ht⟩:∃t,r.v[j]? =some t:=⟨_,List.getElem?_eq_getElem (by rw[r.len];exact hj2)⟩
       have htm:=hok.to r (List.mem_of_getElem? hr) t (List.mem_of_getElem? ht);have htr:c::(r.v.take (j+1)).map (dm live cls)=(c::(r.v.take j).map (dm live cls))++[dm live cls t]:=by rw[List.take_add_one,ht];simp
       have hlo:aC g7 g5.size 3 1 vl (c::(r.v.take j).map (dm live cls)).length ((c::(r.v.take j).map (dm live cls)).map (Value.int .i64)):=hl7;have hlo2:=hlo;rw[hlen7] at hlo2;obtain⟨wa,wc,rfl,_⟩:=hlo2.open;have hl8:cj (Value.int .i64) g7 g5.size 3 (.slice wa (j+1) wc) (c::(r.v.take j).map (dm live cls)):=hl7
       have fin:∀v8 g8 x,aC g8 g5.size 3 1 v8 (j+1+1) ((c::(r.v.take j).map (dm live cls)).map (Value.int .i64)++[.int .i64 x])->Ext (cC (Value.slice wa (j+1) wc).ownBlock) g7 g8->x=dm live cls t->av g3 g8/\cj (Value.int .i64) g8 g5.size 3 v8 (c::(r.v.take (j+1)).map (dm live cls))/\j+1<=256/\g5.size<=g8.size:=by
        rintro v8 g8 x ho hx rfl;refine⟨cj.grown e7 hl8 hz5 hx,?_,hj2,Nat.le_trans hz7 hx.size⟩;rw[htr];exact cj.of ho hlen7.symm rfl rfl
       refine az rfl ?_;refine ak rfl ?_;refine G.block rfl rfl ?_;refine xr func195 rfl ?_;refine xp rfl (ai.sy underlying312 H.bG H.bU rfl rfl j rfl hj2 (show (bX r).toArray[j]? =some (Value.int .i64 t) by simp[bX,ht])) ?_;refine aM 1 [0,1,5,7,8,9,10,12,14,47,48,49,59,60,61] rfl ?_;refine bg func195 3 rfl ?_;refine bI (d:=65) rfl (fun hg=>?_) (fun hg=>?_)
       · have hg':=of_decide_eq_true hg;refine aM 6 [0,1,5,7,8,9,10,12,14,47,48,49,59,60,61,71] rfl ?_;refine ay rfl rfl (fun _=>?_) (fun hc=>absurd hc (by simp));refine G.bB func195 rfl ?_;refine br 1 rfl ?_;refine xo rfl (ax.bA (us:=[_]) underlying101 H.lR rfl rfl (by decide) (by simp[Value.oneCell'])) ?_;rintro _ _ ⟨rfl,rfl⟩;refine xo rfl (ax.bN underlying101 H.lR rfl rfl (hlo2) rfl rfl (by first|decide|simp[Value.oneCell']) (by omega) (by decide) (by omega)) ?_;rintro v8 g8 ⟨ho8,hx8,hx8',hv8⟩;have ff:=fin v8 g8 (-2) ho8 hx8 (tA (.inl hg')).symm;obtain⟨v8a,v8c,rfl,_⟩:=ho8.open;refine aM 1 [0,1,5,7,8,9,10,12,14,47,48,49,59,60,61,71] rfl ?_;refine G.aJ ?_;refine G.bB func195 rfl ?_;refine xp rfl (ai.aT rfl rfl ⟨by omega,by omega⟩) ?_;refine aM 1 [0,1,5,7,8,9,10,12,14,47,48,49,59,60,61,71] rfl ?_;exact ih3 (j+1,_) _ _ ⟨rfl,rfl,rfl,rfl,rfl,rfl,rfl,rfl,rfl,rfl,rfl,rfl,rfl,trivial⟩ ff (by show 256-(j+1)<256-j;omega)
       · have hg':=of_decide_eq_false hg;obtain⟨t2,rfl⟩:=Int.eq_ofNat_of_zero_le (show 0<=t by omega);obtain⟨bt,hbt⟩:∃bt,live[t2]? =some bt:=⟨_,List.getElem?_eq_getElem (by omega)⟩
         have hlt2:live.getD t2 false=bt:=by rw[List.getD_eq_getElem?_getD,hbt];rfl
         obtain⟨oa',n',c',hv',_,_,_,hgetv⟩:=id (hslV.mv (Mv.aq eg7));cases hv';obtain⟨b3,o3,cs3,ha3,_,hrow3,rfl⟩:=hgetv t2 bt hbt;refine bO 2 rfl rfl (ai.aA underlying142 H.qo rfl rfl t2 rfl ha3 (by omega)) ?_;refine xp rfl (ah H.Hv rfl (hrow3 0 _ rfl)) ?_;refine aM 2 [0,1,5,7,8,9,10,12,14,47,48,49,59,60,61,71] rfl ?_;refine ay rfl rfl (fun hb=>?_) (fun hb=>?_)
         · have hb':bt=false:=by simpa using hb
           refine G.bB func195 rfl ?_;refine br 1 rfl ?_;refine xo rfl (ax.bA (us:=[_]) underlying101 H.lR rfl rfl (by decide) (by simp[Value.oneCell'])) ?_;rintro _ _ ⟨rfl,rfl⟩;refine xo rfl (ax.bN underlying101 H.lR rfl rfl (hlo2) rfl rfl (by first|decide|simp[Value.oneCell']) (by omega) (by decide) (by omega)) ?_;rintro v8 g8 ⟨ho8,hx8,hx8',hv8⟩;have ff:=fin v8 g8 (-2) ho8 hx8 (tA (.inr (by show live.getD t2 false=false;rw[hlt2,hb']))).symm;obtain⟨v8a,v8c,rfl,_⟩:=ho8.open;refine aM 1 [0,1,5,7,8,9,10,12,14,47,48,49,59,60,61,71] rfl ?_;refine G.aJ ?_;refine G.bB func195 rfl ?_;refine xp rfl (ai.aT rfl rfl ⟨by omega,by omega⟩) ?_;refine aM 1 [0,1,5,7,8,9,10,12,14,47,48,49,59,60,61,71] rfl ?_;exact ih3 (j+1,_) _ _ ⟨rfl,rfl,rfl,rfl,rfl,rfl,rfl,rfl,rfl,rfl,rfl,rfl,rfl,trivial⟩ ff (by show 256-(j+1)<256-j;omega)
         · have hb':bt=true:=by simpa using hb
           obtain⟨c2,hc2⟩:∃c2,cls[t2]? =some c2:=⟨_,List.getElem?_eq_getElem (by omega)⟩
           have hgd2:cls.getD t2 0=c2:=by rw[List.getD_eq_getElem?_getD,hc2];rfl
           obtain⟨gg2,c42,hv42,hgb2,hglt2,hcell2,hfz2,hset2⟩:=ho7.at hc2;rw[hcl] at hv42;have hla2:la=some ⟨gg2,0,none⟩:=by cases hv42;rfl
           refine G.bB func195 rfl ?_;refine bO 3 rfl rfl (ai.aA underlying101 H.bG rfl rfl t2 rfl hla2 (by omega)) ?_;refine xp rfl (ah H.bU rfl hcell2) ?_;refine xo rfl (ax.bA (us:=[_]) underlying101 H.lR rfl rfl (by decide) (by simp[Value.oneCell'])) ?_;rintro _ _ ⟨rfl,rfl⟩;refine xo rfl (ax.bN underlying101 H.lR rfl rfl (hlo2) rfl rfl (by first|decide|simp[Value.oneCell']) (by omega) (by decide) (by omega)) ?_;rintro v8 g8 ⟨ho8,hx8,hx8',hv8⟩
           have ff:=fin v8 g8 c2 ho8 hx8 (by
            rw[Ci (by
             rintro(e|e)
             · exact hg' e
             · rw[Int.toNat_natCast,hlt2,hb'] at e;cases e),Int.toNat_natCast,hgd2])
           obtain⟨v8a,v8c,rfl,_⟩:=ho8.open;refine aM 1 [0,1,5,7,8,9,10,12,14,47,48,49,59,60,61,71] rfl ?_;refine G.aJ ?_;refine G.bB func195 rfl ?_;refine xp rfl (ai.aT rfl rfl ⟨by omega,by omega⟩) ?_;refine aM 1 [0,1,5,7,8,9,10,12,14,47,48,49,59,60,61,71] rfl ?_;exact ih3 (j+1,_) _ _ ⟨rfl,rfl,rfl,rfl,rfl,rfl,rfl,rfl,rfl,rfl,rfl,rfl,rfl,trivial⟩ ff (by show 256-(j+1)<256-j;omega)
     · obtain rfl:j=256:=by omega
       have hkey:c::(r.v.take 256).map (dm live cls)=ni d live cls k:=by unfold ni;rw[hgd,hrow,List.take_of_length_le (by rw[r.len];exact Nat.le_refl _)]
       have hkb:=wh (d:=d) (live:=live) hcb k;have hkl:(ni d live cls k).length<=1000000:=by rw[<-hkey,hlen7];decide
       rw[hkey] at hl7;generalize hkk:ni d live cls k=key at *;refine aW rfl rfl ?_;refine bg func195 1 rfl ?_;refine xo rfl (aj (vs:=[_]) func190 rfl H.C0 rfl (af.aX (ox (O:=fun _=>False) (htens.aq eg7) (cj.read (h1:=fun _=>rfl) hl7 (fun _ _ k=>k)) hkl hkb))) ?_;rintro _ g8 ⟨rfl,e8⟩;have e38:av g3 g8:=e7.trans e8;have eg8:av g g8:=e3.trans e38;have mp8:=hmp.ext e38 (fun k=>k);have haf8:=cj.aq haf e38
       have hk0:(after++List.replicate (d.next.length-k) (0:Int))[k]? =some 0:=by
        rw[List.getElem?_append_right (by omega),List.getElem?_replicate,if_pos (by omega)]
       have hl0:(after++List.replicate (d.next.length-k) (0:Int)).length=d.next.length:=by simp;omega
       have hsetA:∀y:Int,(after++List.replicate (d.next.length-k) (0:Int)).set k y=(after++[y])++List.replicate (d.next.length-(k+1)) 0:=fun y=>by
        rw[List.set_append_right _ _ (by omega),hal,Nat.sub_self,show d.next.length-k=(d.next.length-(k+1))+1 by omega,List.replicate_succ,List.set_cons_zero];simp
       have hz12:=e1'.size
       have fin2:∀(gA gB:au) (seen':List (List Int)) (y:Int),av g gA->eu Value.string (Value.int .i64) gA g.size (fD 0 seen')->cj (Value.int .i64) gB g1.size 3 (.slice (some ⟨g1.size,0,none⟩) d.next.length d.next.length) ((after++List.replicate (d.next.length-k) (0:Int)).set k y)->gB=dP gA ⟨g1.size,0+k*1,none⟩ (.int .i64 y)->cm d live cls m (k+1) seen' (after++[y])=ps->seen'.length<=k+1->av g gB/\eu Value.string (Value.int .i64) gB g.size (fD 0 seen')/\cj (Value.int .i64) gB g1.size 3 (.slice (some ⟨g1.size,0,none⟩) d.next.length d.next.length) ((after++[y])++List.replicate (d.next.length-(k+1)) 0)/\(k+1<=d.next.length/\(after++[y]).length=k+1/\seen'.length<=k+1)/\cm d live cls (d.next.length-(k+1)) (k+1) seen' (after++[y])=ps:=by
        rintro gA gB seen' y eA mA hB hgB hcp hsl';have xB:Ext (fun b=>b=g1.size) gA gB:=by rw[hgB];exact Ext.dP _ _ _ rfl
        refine⟨av.only eA xB hz12,mA.ext xB (by show ¬_=_;omega),?_,⟨hkN,by simp[hal],hsl'⟩,?_⟩
        · rw[<-hsetA];exact hB
        · rw[show d.next.length-(k+1)=m by omega];exact hcp
       refine aM 1 [0,1,5,7,8,9,10,12,15,47,48,49,59,60,61] rfl ?_;refine ak rfl ?_;refine bg func195 2 rfl ?_;refine xp rfl (ai.rV (z:=.int .i64 0) iu underlying310 underlying9 (by kernel_rfl) rfl rfl rfl mp8) ?_;rw[jq]
       rcases hfind:jZ 0 seen key with _|i0
       · rw[hfind] at hcon2;simp only at hcon2;have hnone:ju (bs (fk key)) (fD 0 seen)=none:=by rw[jq,hfind];rfl
         refine aM 5 [0,1,5,7,8,9,10,12,15,17,47,48,49,59,60,61] rfl ?_;refine aQ func195 2 [0,1,5,7,8,9,10,12,15,17,47,48,49,59,60,61,92] rfl ?_;refine ay rfl rfl (fun _=>?_) (fun hc=>absurd hc (by simp));refine G.bB func195 rfl ?_;refine bO 3 rfl rfl (ai.BO underlying310 rfl (mp8)) ?_;refine RW.bT rfl rfl rfl (ax.mapUpdate (v:=((fD 0 seen).length:Int)) iu underlying310 underlying9 rfl rfl rfl rfl rfl mp8 hnone) ?_;rintro _ g9 ⟨rfl,mp9,x9,z9⟩;have mp9:eu Value.string (Value.int .i64) g9 g.size (fD 0 (seen++[key])):=by rw[rf,Nat.zero_add,<-og seen 0];exact mp9
         have hsz8:=eg8.size;have e9:av g g9:=av.only eg8 x9 (Nat.le_refl _);have haf9:cj (Value.int .i64) g9 g1.size 3 (.slice (some ⟨g1.size,0,none⟩) d.next.length d.next.length) (after++List.replicate (d.next.length-k) (0:Int)):=aC.ext x9 haf8 (fun b hb (e:b=g.size)=>by have:=(aC.lt haf8 hb).1;omega);obtain⟨gg3,c3,hv3,_,_,hcell3,hfz3,hset3⟩:=haf9.at hk0;rw[hl0] at hv3;cases hv3;have hasc:ju (bs (fk key)) (fD 0 (seen++[key]))=some ((seen.length:Nat):Int):=by rw[jq,sL seen 0 key hfind,Nat.zero_add];rfl
         refine xd [0,1,5,7,8,9,10,12,15,17,47,48,49,59,60,61,92] rfl ?_;refine G.bB func195 rfl ?_;refine bO 4 rfl rfl (ai.lookup (z:=.int .i64 0) iu underlying310 underlying9 (by kernel_rfl) rfl rfl rfl mp9) ?_;rw[hasc,Option.map_some,Option.getD_some];refine xp rfl (ai.aA underlying101 H.bG rfl rfl k rfl rfl (by omega)) ?_;refine RW.bT rfl rfl rfl (cB H.bG rfl rfl rfl hcell3 hfz3) ?_;rintro _ g10 ⟨rfl,hg10⟩;have hg10:g10=dP g9 ⟨g1.size,0+k*1,none⟩ (.int .i64 ((seen.length:Nat):Int)):=hg10;have hB:=hset3 ((seen.length:Nat):Int);rw[<-hg10] at hB;refine xd [0,1,5,7,8,9,10,12,15,17,47,48,49,59,60,61,92] rfl ?_;refine G.aJ ?_;refine G.bB func195 rfl ?_;refine xp rfl (ai.aT rfl rfl ⟨by omega,by omega⟩) ?_;refine aM 1 [0,1,5,7,8,9,10,12,15,17,47,48,49,59,60,61,92] rfl ?_;exact ih2 (k+1,seen++[key],after++[((seen.length:Nat):Int)]) _ _ ⟨rfl,rfl,rfl,rfl,rfl,rfl,rfl,rfl,rfl,trivial⟩ (fin2 g9 g10 _ _ e9 mp9 hB hg10 hcon2 (by simp;omega)) (by show d.next.length-(k+1)<d.next.length-k;omega)
       · rw[hfind] at hcon2;simp only at hcon2;refine aM 5 [0,1,5,7,8,9,10,12,15,17,47,48,49,59,60,61] rfl ?_;refine aQ func195 2 [0,1,5,7,8,9,10,12,15,17,47,48,49,59,60,61,92] rfl ?_;refine ay rfl rfl (fun hc=>absurd hc (by simp)) (fun _=>?_);obtain⟨gg3,c3,hv3,_,_,hcell3,hfz3,hset3⟩:=haf8.at hk0;rw[hl0] at hv3;cases hv3;have hasc:ju (bs (fk key)) (fD 0 seen)=some ((i0:Nat):Int):=by rw[jq,hfind];rfl
         refine az rfl ?_;refine G.bB func195 rfl ?_;refine bO 4 rfl rfl (ai.lookup (z:=.int .i64 0) iu underlying310 underlying9 (by kernel_rfl) rfl rfl rfl mp8) ?_;rw[hasc,Option.map_some,Option.getD_some];refine xp rfl (ai.aA underlying101 H.bG rfl rfl k rfl rfl (by omega)) ?_;refine RW.bT rfl rfl rfl (cB H.bG rfl rfl rfl hcell3 hfz3) ?_;rintro _ g10 ⟨rfl,hg10⟩;have hg10:g10=dP g8 ⟨g1.size,0+k*1,none⟩ (.int .i64 ((i0:Nat):Int)):=hg10;have hB:=hset3 ((i0:Nat):Int);rw[<-hg10] at hB;refine xd [0,1,5,7,8,9,10,12,15,17,47,48,49,59,60,61,92] rfl ?_;refine G.aJ ?_;refine G.bB func195 rfl ?_;refine xp rfl (ai.aT rfl rfl ⟨by omega,by omega⟩) ?_;refine aM 1 [0,1,5,7,8,9,10,12,15,17,47,48,49,59,60,61,92] rfl ?_;exact ih2 (k+1,seen,after++[((i0:Nat):Int)]) _ _ ⟨rfl,rfl,rfl,rfl,rfl,rfl,rfl,rfl,rfl,trivial⟩ (fin2 g8 g10 _ _ eg8 mp8 hB hg10 hcon2 (Nat.le_succ_of_le hsl)) (by show d.next.length-(k+1)<d.next.length-k;omega)
   · obtain rfl:k=d.next.length:=by omega
     rw[Nat.sub_self,List.replicate_zero,List.append_nil] at haf;rw[Nat.sub_self,cm] at hcon2;subst hcon2;dsimp only at hcon hmore hend;have hm:=hend.size;have hsl':(fD 0 seen).length=seen.length:=og seen 0
     have ha':cj (Value.int .i64) g3 h.size 3 (.slice (some ⟨g1.size,0,none⟩) d.next.length d.next.length) after:=Cy (show aC g3 g1.size 3 1 _ after.length (after.map (Value.int .i64)) from haf) (fun b hb=>by
      cases hb;have:=eg.size;have:=e1'.size
      show h.size<=g1.size
      omega)
     refine aW rfl rfl ?_;refine aQ func195 2 [0,1,5,7,8,9,47,48,49,50] rfl ?_;refine ak rfl ?_;refine bg func195 1 rfl ?_;refine xp rfl (ai.BO underlying310 rfl (hmp)) ?_;rw[hsl'];refine aM 2 [0,1,5,7,8,9,47,48,49,50,108] rfl ?_;refine aN rfl rfl (fun heq=>?_) (fun heq=>?_)
     · rw[if_pos (by omega)] at hcon;refine aQ func195 2 [0,1,4,5,7,8,9,47,48,49,50,108] rfl ?_;refine G.ret func195 rfl rfl ?_;exact⟨_,rfl,by rw[<-hcon];exact ha',eg3⟩
     · rw[if_neg (by omega)] at hcon;refine az rfl ?_;refine G.bB func195 rfl ?_;refine bO 1 rfl rfl (ai.BO underlying310 rfl (hmp)) ?_;rw[hsl'];refine aM 1 [0,1,5,7,8,9,47,48,49,50,108] rfl ?_;refine G.aJ ?_;exact ih (n,seen.length,_,after) _ _ ⟨rfl,rfl,rfl,rfl,trivial⟩ ⟨eg3,ha',hal,fun x hx=>by have:=hend.bound x hx;omega,⟨by show seen.length<=_;omega,hend.nums,by show _<=n+seen.length;omega⟩,hcon⟩ (by show n<n+1;omega)
def ji (cls:List Int):Nat->List Nat->List (Int×Int)
 |_,[]=>[]
 |i,x::r=>(cls.getD x 0,(i:Int))::ji cls (i+1) r
theorem ri (cls:List Int):∀(ls:List Nat) (i:Nat) (l:Nat),ji cls i (ls++[l])=ji cls i ls++[(cls.getD l 0,((i+ls.length:Nat):Int))]
 | [],i,l=>by simp[ji]
 |x::r,i,l=>by
  simp only[List.cons_append,ji];rw[ri cls r (i+1) l,List.length_cons,show i+1+r.length=i+(r.length+1) by omega]
theorem oF (cls:List Int):∀(ls:List Nat) (i:Nat) (c:Int),ju c (ji cls i ls)=(pL cls i ls c).map fun j=>(j:Int)
 | [],i,c=>rfl
 |x::r,i,c=>by
  rw[ji,ju,pL]
  by_cases h:c=cls.getD x 0
  · rw[if_pos h,if_pos h];rfl
  · rw[if_neg h,if_neg h];exact oF cls r (i+1) c
structure dA (h0 h:au) (cls:List Int) (db mb:Nat) (vo vn vr:Value) (of:List Nat) (next:List Row) (rule:List Int):Prop where
 ext:av h0 h
 dblk:aL h db 308 [vn,vr]
 nx:dw 256 bX h h0.size 312 vn next
 ru:cj (Value.int .i64) h h0.size 3 vr rule
 ol:cj cT h h0.size 3 vo of
 mp:eu (Value.int .i64) (Value.int .i64) h mb (ji cls 0 of)
 ne:∀b,vo.ownBlock=some b->vr.ownBlock≠some b
 dge:h0.size<=db
 mge:h0.size<=mb
section
variable {h0 h:au}{cls:List Int}{db mb:Nat}{vo vn vr:Value}{of:List Nat}{next:List Row}{rule:List Int}
theorem dA.DX (k:dA h0 h cls db mb vo vn vr of next rule):∀b,vn.ownBlock=some b->cu h b 312:=fun _ hb=>aC.ty k.nx hb
theorem dA.CT (k:dA h0 h cls db mb vo vn vr of next rule):∀b,vr.ownBlock=some b->cu h b 3:=fun _ hb=>aC.ty k.ru hb
theorem dA.LJ (k:dA h0 h cls db mb vo vn vr of next rule):∀b,vo.ownBlock=some b->cu h b 3:=fun _ hb=>aC.ty k.ol hb
theorem dA.aq {h':au}(k:dA h0 h cls db mb vo vn vr of next rule) (e:av h h'):dA h0 h' cls db mb vo vn vr of next rule :=
 ⟨k.ext.trans e,k.dblk.aq e,dw.aq k.nx e,cj.aq k.ru e,cj.aq k.ol e,k.mp.ext e (fun k=>k),k.ne,k.dge,k.mge⟩
theorem dA.put {x:Nat}(k:dA h0 h cls db mb vo vn vr of next rule) (e:Ext (fun b=>b=x) h h') (hx:cu h x 312) (hn:vn.ownBlock≠some x) (hge:h0.size<=x):dA h0 h' cls db mb vo vn vr of next rule:=by
 have hd:¬db=x:=k.dblk.ty.ne hx (by decide);have hm:¬mb=x:=k.mp.ne hx;exact⟨av.only k.ext e hge,k.dblk.ext e hd,aC.ext e k.nx (fun b hb hbx=>hn (by subst hbx;exact hb)),aC.ext e k.ru (fun b hb=>(k.CT b hb).ne hx (by decide)),aC.ext e k.ol (fun b hb=>(k.LJ b hb).ne hx (by decide)),k.mp.ext e hm,k.ne,k.dge,k.mge⟩
theorem dA.Ku {r:Row}(k:dA h0 h cls db mb vo vn vr of next rule) (hn:n=next.length) (ho:aC g3 h0.size 312 256 v3 (n+1) (next.flatMap bX++bX r)) (hx:Ext (cC vn.ownBlock) h g3) (hd:aL g4 db 308 [v3,vr]) (x4:Ext (fun b=>b=db) g3 g4) :
 dA h0 g4 cls db mb vo v3 vr of (next++[r]) rule:=by
 have nne:∀{b:Nat}{t:TypeId},cu h b t->312≠t->¬cC vn.ownBlock b:=fun kt ht e=>(k.DX _ e.symm).ne kt ht rfl
 have d3:=k.dblk.ext hx (nne k.dblk.ty (by decide));have dne:∀{b:Nat}{t:TypeId},cu g3 b t->308≠t->¬b=db:=fun kt ht e=>by subst e;exact d3.ty.ne kt ht rfl
 have mne:¬cC vn.ownBlock mb:=fun e=>k.mp.ne (k.DX _ e.symm) rfl
 have hm3:=k.mp.ext hx mne;have ru3:=aC.ext hx k.ru (fun b hb=>nne (k.CT b hb) (by decide));have of3:=aC.ext hx k.ol (fun b hb=>nne (k.LJ b hb) (by decide));refine⟨⟨by have:=k.ext.size;have:=hx.size;have:=x4.size;omega,fun b hb kk=>?_⟩,hd,?_,aC.ext x4 ru3 (fun b hb=>dne (aC.ty ru3 hb) (by decide)),aC.ext x4 of3 (fun b hb=>dne (aC.ty of3 hb) (by decide)),hm3.ext x4 (hm3.ne d3.ty),k.ne,k.dge,k.mge⟩
 · rw[x4.block b (by have:=k.ext.size;have:=hx.size;omega) (by have:=k.dge;omega),hx.block b (by have:=k.ext.size;omega) (fun e=>by have:=(aC.lt k.nx e.symm).1;omega)];exact k.ext.block b hb kk
 · exact aC.ext x4 (dw.of ho hn rfl) (fun b hb=>dne (aC.ty ho hb) (by decide))
theorem dA.Kt {x:Int}(k:dA h0 h cls db mb vo vn vr of next rule) (hn:n=rule.length) (ho:aC g3 h0.size 3 1 v3 (n+1) (rule.map (Value.int .i64)++[.int .i64 x])) (hx:Ext (cC vr.ownBlock) h g3) (hv:∀b,v3.ownBlock=some b->vr.ownBlock=some b\/h.size<=b) (hd:aL g4 db 308 [vn,v3]) (x4:Ext (fun b=>b=db) g3 g4) :
 dA h0 g4 cls db mb vo vn v3 of next (rule++[x]):=by
 have nne:∀{b:Nat}{t:TypeId},cu h b t->3≠t->¬cC vr.ownBlock b:=fun kt ht e=>(k.CT _ e.symm).ne kt ht rfl
 have d3:=k.dblk.ext hx (nne k.dblk.ty (by decide));have dne:∀{b:Nat}{t:TypeId},cu g3 b t->308≠t->¬b=db:=fun kt ht e=>by subst e;exact d3.ty.ne kt ht rfl
 have mne:¬cC vr.ownBlock mb:=fun e=>k.mp.ne (k.CT _ e.symm) rfl
 have hm3:=k.mp.ext hx mne;have nx3:=aC.ext hx k.nx (fun b hb=>nne (k.DX b hb) (by decide));have of3:=aC.ext hx k.ol (fun b hb e=>k.ne b hb e.symm);refine⟨⟨by have:=k.ext.size;have:=hx.size;have:=x4.size;omega,fun b hb kk=>?_⟩,hd,aC.ext x4 nx3 (fun b hb=>dne (aC.ty nx3 hb) (by decide)),?_,aC.ext x4 of3 (fun b hb=>dne (aC.ty of3 hb) (by decide)),hm3.ext x4 (hm3.ne d3.ty),fun b hb e=>?_,k.dge,k.mge⟩
 · rw[x4.block b (by have:=k.ext.size;have:=hx.size;omega) (by have:=k.dge;omega),hx.block b (by have:=k.ext.size;omega) (fun e=>by have:=(aC.lt k.ru e.symm).1;omega)];exact k.ext.block b hb kk
 · exact aC.ext x4 (cj.of (ys:=[x]) ho hn rfl rfl) (fun b hb=>dne (aC.ty ho hb) (by decide))
 · rcases hv b e with e|e
   · exact k.ne b hb e
   · have:=(k.LJ b hb).lt;omega
theorem dA.more {g1 g2:au}{t:Nat}(k:dA h0 h cls db mb vo vn vr of next rule) (x1:Ext (fun b=>b=mb) h g1) (hm:eu (Value.int .i64) (Value.int .i64) g1 mb (ji cls 0 (of++[t]))) (hn:n=of.length) (ho:aC g2 h0.size 3 1 v3 (n+1) (of.map cT++[cT t])) (hx:Ext (cC vo.ownBlock) g1 g2) (hv:∀b,v3.ownBlock=some b->vo.ownBlock=some b\/g1.size<=b) :
 dA h0 g2 cls db mb v3 vn vr (of++[t]) next rule:=by
 have mne:∀{b:Nat}{t:TypeId},cu h b t->¬b=mb:=fun kt e=>k.mp.ne kt e.symm
 have d1:=k.dblk.ext x1 (mne k.dblk.ty);have nx1:=aC.ext x1 k.nx (fun b hb=>mne (k.DX b hb));have ru1:=aC.ext x1 k.ru (fun b hb=>mne (k.CT b hb));have of1:=aC.ext x1 k.ol (fun b hb=>mne (k.LJ b hb));have one:∀{b:Nat}{t:TypeId},cu g1 b t->3≠t->¬cC vo.ownBlock b:=fun kt ht e=>(show cu g1 _ 3 from aC.ty of1 e.symm).ne kt ht rfl
 refine⟨⟨by have:=k.ext.size;have:=hx.size;have:=x1.size;omega,fun b hb kk=>?_⟩,d1.ext hx (one d1.ty (by decide)),aC.ext hx nx1 (fun b hb=>one (aC.ty nx1 hb) (by decide)),aC.ext hx ru1 (fun b hb e=>k.ne b e.symm hb),cj.of (ys:=[t]) ho hn rfl rfl,hm.ext hx (fun e=>hm.ne (aC.ty of1 e.symm) rfl),fun b hb e=>?_,k.dge,k.mge⟩
 · rw[hx.block b (by have:=k.ext.size;have:=x1.size;omega) (fun e=>by have:=(aC.lt k.ol e.symm).1;omega),x1.block b (by have:=k.ext.size;omega) (by have:=k.mge;omega)];exact k.ext.block b hb kk
 · rcases hv b hb with e'|e'
   · exact k.ne b e' e
   · have:=(show cu g1 _ 3 from aC.ty ru1 e).lt;omega
end
theorem u7 (d:cV):∀(n:Nat) (out:List Bool),(u9 d n out).length=out.length
 | 0,_=>rfl
 |n+1,out=>by
  rw[u9];split
  · rw[u7 d n,gM]
  · rw[gM]
theorem D1 (d:cV):(pq d).length=d.next.length:=by rw[pq,u7];simp
theorem th (d:cV) (live:List Bool):∀(n many:Nat) (cls:List Int),cls.length=d.next.length->(oC d live n many cls).length=d.next.length
 | 0,_,_,h=>h
 |n+1,many,cls,h=>by
  rw[oC];split
  · exact(fW d live cls).len
  · exact th d live n _ _ (fW d live cls).len
theorem Ca (d:cV) (live:List Bool) (h:d.rule.length=d.next.length):(tf d live).length=d.next.length:=th d live _ _ _ h
def oL (h:au) (O:Nat->Prop) (db:Nat) (d:cV):Prop :=
 ∃vn vr,¬O db/\aL h db 308 [vn,vr]/\bF De h O vn d.next/\bF (.int .i64) h O vr d.rule
theorem oL.mv {h h':au}{O O':Nat->Prop}{db:Nat}{d:cV}(k:oL h O db d) (m:Mv O O' h h'):oL h' O' db d:=by
 obtain⟨vn,vr,ho,hk,h1,h2⟩:=k;have hm:=m.block db hk.lt ho;exact⟨vn,vr,hm.2,hm.1.trans hk,h1.mv m,h2.mv m⟩
theorem GC (htens:lE h) (k:pY h db d) (hok:d.Ok) (hd0:0<d.next.length) :
 af Tryz.prog 122 #[.pointer (some ⟨db,0,none⟩)] h (bC fun r h'=>(∃b,r= .pointer (some ⟨b,0,none⟩)/\oL h' (fun g=>g<h.size) b (BG d))/\av h h'):=by
 have hlen:=hok.len;have hsize:=hok.size;generalize hres:BG d=res;refine af.of func122 rfl rfl ?_;refine aQ func122 1 [0,2] rfl ?_;refine ak rfl ?_;refine bg func122 1 rfl ?_;refine xo rfl (aj (vs:=[_]) func193 rfl H.Mh rfl (af.aX (GB k))) ?_;rintro _ h0 ⟨rfl,hh0⟩;subst hh0;refine xd [0,2,15] rfl ?_;refine aN rfl rfl (fun hz=>?_) (fun hz=>?_)
 · refine aQ func122 1 [0,2,15] rfl ?_;refine G.ret func122 rfl rfl ?_;exfalso;omega
 · rw[BG,if_neg hz] at hres;have hll:=D1 d;have hcl:=Ca d (pq d) hlen;refine az rfl ?_;refine bg func122 1 rfl ?_;refine xo rfl (aj (vs:=[_]) func194 rfl H.Mg rfl (af.aX (BL k hok))) ?_;rintro w3 h1 ⟨ho1,e1⟩;generalize pq d=live at *;obtain⟨la,lc,rfl,_⟩:=(show aC h1 h0.size 4 1 w3 live.length (live.map Value.bool) from ho1).open;refine aM 1 [0,2,3,15] rfl ?_;refine bg func122 2 rfl ?_;refine xo rfl (aj (vs:=[_,_]) func195 rfl H.Mf rfl (af.aX (um (htens.aq e1) (k.aq e1) hok (cj.read (O:=fun _=>False) (h1:=fun _=>rfl) ho1 (fun _ _ k=>k)) hll))) ?_;rintro w4 h2 ⟨ho2,e2⟩;generalize tf d live=cls at *;obtain⟨ca,cc,rfl,_⟩:=(show aC h2 h1.size 3 1 w4 cls.length (cls.map (Value.int .i64)) from ho2).open;have ho1:=cj.aq ho1 e2;have k2:=(k.aq e1).aq e2;have hsV:bF .bool h2 (fun _=>False) (.slice la live.length lc) live:=cj.read (h1:=fun _=>rfl) ho1 (fun _ _ k=>k);have hsC:bF (.int .i64) h2 (fun _=>False) (.slice ca cls.length cc) cls:=cj.read (h1:=fun _=>rfl) ho2 (fun _ _ k=>k);rw[hll] at hsV;rw[hcl] at hsC;rw[hll,hcl];obtain⟨c0,hc0⟩:∃c0,cls[0]? =some c0:=⟨_,List.getElem?_eq_getElem (by omega)⟩
   have hcd0:cls.getD 0 0=c0:=by rw[List.getD_eq_getElem?_getD,hc0];rfl
   refine aM 1 [0,2,3,4,15] rfl ?_;refine xr func122 rfl ?_;refine xp rfl (aE (H.GX ) rfl) ?_;refine xo rfl (ax.cq rfl) ?_;rintro _ h3 ⟨rfl,kd3,e3,z3⟩;refine aM 1 [0,2,3,4,5,15] rfl ?_;refine xr func122 rfl ?_;refine xo rfl (lF (ek:=Value.int .i64) (ev:=Value.int .i64)) ?_;rintro _ h4 ⟨rfl,hm4,e4,z4⟩;have kd3:aL h3 h2.size 308 [.slice none 0 0,.slice none 0 0]:=kd3;have e34:=e3.trans e4;obtain⟨oa',n',c',hv',_,_,_,hgetc⟩:=id (hsC.mv (Mv.aq e34));cases hv';obtain⟨b3,o3,cs3,ha3,_,hrow3,rfl⟩:=hgetc 0 c0 hc0;refine bO 1 rfl rfl (ai.aA underlying101 H.bG rfl rfl 0 rfl ha3 (by omega)) ?_;refine xp rfl (ah H.bU rfl (hrow3 0 _ rfl)) ?_;refine RW.bT rfl rfl rfl (tR (v:=(0:Int)) (iw.int .i64) underlying317 underlying3 rfl rfl rfl rfl rfl hm4 (rfl:ju c0 []=none)) ?_;rintro _ h5 ⟨rfl,hm5,x5,z5⟩;have hm5:eu (Value.int .i64) (Value.int .i64) h5 h3.size (ji cls 0 [0]):=by rw[ji,hcd0];exact hm5
   have hz3:=e3.size;have e25:av h2 h5:=av.only e34 x5 hz3;have kd5:aL h5 h2.size 308 [.slice none 0 0,.slice none 0 0]:=(kd3.aq e4).ext x5 (by show ¬_=_;omega);refine aM 2 [0,2,3,4,5,6,15] rfl ?_;refine xr func122 rfl ?_;refine xo rfl (ax.bA (us:=[_]) underlying101 H.lR rfl rfl (by decide) (by simp[Value.oneCell'])) ?_;rintro _ _ ⟨rfl,rfl⟩;refine aM 1 [0,2,3,4,5,6,7,15] rfl ?_;refine ak rfl ?_;refine aQ func122 1 [0,2,3,4,5,6,7,8,15] rfl ?_;refine G.block rfl rfl ?_;have e56:av h5 (h5.push (.cells #[.int .i64 0] 3)):=Ext.push _ _ _;have ol6:cj cT (h5.push (.cells #[.int .i64 0] 3)) h2.size 3 (.slice (some ⟨h5.size,0,none⟩) 1 1) [0]:=tQ cT h5 3 [0] 1 rfl (by decide) h2.size e25.size rfl;generalize h5.push (.cells #[.int .i64 0] 3)=h6 at *
   have mk6:dA h2 h6 cls h2.size h3.size (.slice (some ⟨h5.size,0,none⟩) 1 1) (.slice none 0 0) (.slice none 0 0) [0] [] [] :=
    ⟨e25.trans e56,kd5.aq e56,dw.nil _ _ _ _ _,cj.nil _ _ _ _,ol6,hm5.ext e56 (fun k=>k),fun b _ hb=>(by cases hb),Nat.le_refl _,hz3⟩
   refine bf (σ:=Nat×Value) (fun q=>[(0,.pointer (some ⟨db,0,none⟩)),(3,.slice la d.next.length lc),(4,.slice ca d.next.length cc),(5,.pointer (some ⟨h2.size,0,none⟩)),(6,.map (some h3.size)),(7,q.2),(8,.int .i64 (q.1:Nat))]) (fun q h'=>∃vn vr of next rule,dA h2 h' cls h2.size h3.size q.2 vn vr of next rule/\q.1<=of.length/\AX d.next.length of/\(next.length=q.1/\rule.length=q.1)/\FM d live cls (d.next.length+1-q.1) q.1 of next rule=res) (fun q=>d.next.length+1-q.1) ((0,.slice (some ⟨h5.size,0,none⟩) 1 1)) rfl ⟨rfl,rfl,rfl,rfl,rfl,rfl,rfl,trivial⟩ ⟨_,_,[0],[],[],mk6,Nat.zero_le _,⟨by simp,fun x hx=>by simp at hx;omega⟩,⟨rfl,rfl⟩,hres⟩ ?_;rintro⟨i,vl⟩ g ⟨vn,vr,of,next,rule,mk,hi,hok2,⟨hnl,hrl⟩,hcon⟩ ih
   try dsimp only
   dsimp only at mk hi hnl hrl hcon;have hofl:=hok2.len;obtain⟨oa,oc,rfl,_⟩:=(show aC g h2.size 3 1 vl of.length (of.map cT) from mk.ol).open;have mkg:=mk;refine ak rfl ?_;refine bg func122 2 rfl ?_;refine xp rfl (ai.aI underlying101 rfl) ?_;refine aM 1 [0,3,4,5,6,7,8,32] rfl ?_;refine aN rfl rfl (fun hlt=>?_) (fun hlt=>?_)
   · have hil:i<of.length:=by omega
     obtain⟨kk,hcur⟩:∃kk,of[i]? =some kk:=⟨_,List.getElem?_eq_getElem hil⟩
     have hkN:=hok2.lt kk (List.mem_of_getElem? hcur);obtain⟨n,hnn⟩:∃n,d.next.length+1-i=n+1:=⟨d.next.length-i,by omega⟩
     rw[hnn,FM,hcur] at hcon;simp only at hcon;obtain⟨r,hr⟩:∃r,d.next[kk]? =some r:=⟨_,List.getElem?_eq_getElem hkN⟩
     have hrow:d.row kk=r.v:=by unfold cV.row;rw[hr]
     rw[hrow] at hcon;generalize htgt:kT live cls r.v of []=tgt at hcon;refine az rfl ?_;refine ak rfl ?_;refine G.block rfl rfl ?_;refine xr func122 rfl ?_;refine xo rfl (ax.aO H.CB) ?_;rintro _ g1 ⟨rfl,kz,ez,zz⟩;have kz:aL g1 g.size 312 (([]:List Int).map (Value.int .i64)++List.replicate (256-0) (Value.int .i64 0)):=kz;have Hr:=mk.aq ez;have hvz:vn.ownBlock≠some g.size:=fun e=>by have:=(mk.DX _ e).lt;omega
     obtain⟨vn0,vr0,kd,⟨na,nn,nc,rfl,hnl0,hnc,hnm,hgetn⟩,hsR⟩:=id (k2.aq Hr.ext);subst hnl0;obtain⟨b1,o1,cs1,ha1,_,hrow1,rfl⟩:=hgetn kk r hr;obtain⟨gg,c4,hv4,_,_,hcell,_,_⟩:=Hr.ol.at hcur;have hoa:oa=some ⟨gg,0,none⟩:=by cases hv4;rfl
     refine xd [0,3,4,5,6,7,8,9,32] rfl ?_;refine ak rfl ?_;refine ak rfl ?_;refine G.gG func122 H.mixed rfl (by kernel_rfl) ?_;refine RQ.an rfl rfl rfl rfl (aF rfl) ?_;refine RQ.an rfl rfl rfl rfl (aV rfl) ?_;refine RQ.an rfl rfl rfl rfl (aa (off:=0) underlying308 rfl rfl H.jS rfl) ?_;refine RQ.an rfl rfl rfl rfl (ah H.pW rfl (kd.cell (i:=0) rfl)) ?_;refine RQ.an rfl rfl rfl rfl (aF rfl) ?_;refine RQ.an rfl rfl rfl rfl (aF rfl) ?_;refine RQ.an rfl rfl rfl rfl (ai.aA underlying101 H.bG rfl rfl i rfl hoa (by omega)) ?_;refine RQ.an rfl rfl rfl rfl (ah H.bU rfl hcell) ?_;refine RQ.an rfl rfl rfl rfl (ai.aA underlying306 H.jR rfl rfl kk rfl ha1 (by omega)) ?_;refine RQ.an rfl rfl rfl rfl (ai.aD H.tF H.jR rfl hrow1 (by first|rfl|(simp;done)|(simp;omega))) ?_;refine RQ.an rfl rfl rfl rfl (aF rfl) ?_;refine RQ.done rfl ?_;refine xu [0,3,4,5,6,7,8,9,32,44,45] rfl ?_;refine G.block rfl rfl ?_;refine bf (σ:=Nat×Value) (fun q=>[(0,.pointer (some ⟨db,0,none⟩)),(3,.slice la d.next.length lc),(4,.slice ca d.next.length cc),(5,.pointer (some ⟨h2.size,0,none⟩)),(6,.map (some h3.size)),(7,q.2),(8,.int .i64 (i:Nat)),(9,.pointer (some ⟨g.size,0,none⟩)),(44,.agg (bX r).toArray),(45,.int .i64 (q.1:Nat))]) (fun q h'=>∃of' row,dA h2 h' cls h2.size h3.size q.2 vn vr of' next rule/\(q.1<=256/\row.length=q.1)/\aL h' g.size 312 (row.map (Value.int .i64)++List.replicate (256-q.1) (Value.int .i64 0))/\of'[i]? =some kk/\AX d.next.length of'/\kT live cls (r.v.drop q.1) of' row=tgt) (fun q=>256-q.1) ((0,.slice oa of.length oc)) rfl ⟨rfl,rfl,rfl,rfl,rfl,rfl,rfl,rfl,rfl,rfl,trivial⟩ ⟨of,[],Hr,⟨Nat.zero_le _,rfl⟩,kz,hcur,hok2,htgt⟩ ?_;rintro⟨b,vl⟩ g2 ⟨of,row,mk,⟨hb,hrlen⟩,kz,hcur,hok2,hrow⟩ ih2
     try dsimp only
     dsimp only at mk hb hrlen kz hrow;have hofl:=hok2.len;obtain⟨oa,oc,rfl,_⟩:=(show aC g2 h2.size 3 1 vl of.length (of.map cT) from mk.ol).open;refine aQ func122 1 [0,3,4,5,6,7,8,9,44,45,46] rfl ?_;refine ak rfl ?_;refine aN rfl rfl (fun hb256=>?_) (fun hb256=>?_)
     · have hb2:b<256:=by omega
       obtain⟨t,ht⟩:∃t,r.v[b]? =some t:=⟨_,List.getElem?_eq_getElem (by rw[r.len];exact hb2)⟩
       have htm:=hok.to r (List.mem_of_getElem? hr) t (List.mem_of_getElem? ht);have hdrop:r.v.drop b=t::r.v.drop (b+1):=by rw[List.drop_eq_getElem_cons (by rw[r.len];exact hb2),(List.getElem?_eq_some_iff.1 ht).2]
       rw[hdrop,kT] at hrow;have hso:=BE (live:=live) (cls:=cls) (t:=t) hok2 htm.2;have hsg:=(BF (live:=live) (cls:=cls) (of:=of) (t:=t)).2 i kk hcur;have hcells:(row.map (Value.int .i64)++List.replicate (256-b) (Value.int .i64 0)).length=256:=by simp[hrlen];omega
       have hset:∀to:Int,(row.map (Value.int .i64)++List.replicate (256-b) (Value.int .i64 0)).set (0+b*1) (.int .i64 to)=(row++[to]).map (Value.int .i64)++List.replicate (256-(b+1)) (Value.int .i64 0):=fun to=>by
        rw[Nat.zero_add,Nat.mul_one,List.set_append_right _ _ (by simp;omega),show 256-b=(256-(b+1))+1 by omega,List.replicate_succ];have:b-(row.map (Value.int .i64)).length=0:=by simp;omega
        rw[this,List.set_cons_zero];simp
       have hblt:0+b*1<(row.map (Value.int .i64)++List.replicate (256-b) (Value.int .i64 0)).length:=by rw[hcells];omega
       have hzge:h2.size<=g.size:=mkg.ext.size
       have fin:∀(gA gB:au) (vA:Value) (ofA:List Nat) (to:Int),dA h2 gA cls h2.size h3.size vA vn vr ofA next rule->aL gA g.size 312 (row.map (Value.int .i64)++List.replicate (256-b) (Value.int .i64 0))->gB=dP gA ⟨g.size,0+b*1,none⟩ (.int .i64 to)->eF live cls of t=(ofA,to)->∃of' row,dA h2 gB cls h2.size h3.size vA vn vr of' next rule/\(b+1<=256/\row.length=b+1)/\aL gB g.size 312 (row.map (Value.int .i64)++List.replicate (256-(b+1)) (Value.int .i64 0))/\of'[i]? =some kk/\AX d.next.length of'/\kT live cls (r.v.drop (b+1)) of' row=tgt:=by
        rintro gA gB vA ofA to mA kA hgB hst;have k6:=kA.set (0+b*1) (.int .i64 to);rw[<-hgB,hset] at k6;have x6:Ext (fun y=>y=g.size) gA gB:=by rw[hgB];exact Ext.dP _ _ _ rfl
        rw[hst] at hso hsg hrow;exact⟨ofA,row++[to],mA.put x6 kA.ty hvz hzge,⟨hb2,by simp[hrlen]⟩,k6,hsg,hso,hrow⟩
       refine az rfl ?_;refine ak rfl ?_;refine G.block rfl rfl ?_;refine bg func122 1 rfl ?_;refine xp rfl (ai.sy underlying312 H.bG H.bU rfl rfl b rfl hb2 (show (bX r).toArray[b]? =some (Value.int .i64 t) by simp[bX,ht])) ?_;refine aM 2 [0,3,4,5,6,7,8,9,10,11,44,45,46] rfl ?_;refine ak rfl ?_;refine bg func122 3 rfl ?_;refine bI (d:=51) rfl (fun hg=>?_) (fun hg=>?_)
       · have hg':=of_decide_eq_true hg;refine aM 6 [0,3,4,5,6,7,8,9,10,11,44,45,46,57] rfl ?_;refine ay rfl rfl (fun _=>?_) (fun hc=>absurd hc (by simp));refine bg func122 1 rfl ?_;refine xp rfl (ai.dZ underlying312 H.bG rfl rfl b rfl (by omega)) ?_;refine RW.bT rfl rfl rfl (cB H.bG rfl rfl rfl (kz.cell (List.getElem?_eq_getElem hblt)) kz.nf) ?_;rintro _ g6 ⟨rfl,hg6⟩;have ff:=fin g2 g6 _ of (-1) mk kz hg6 (by rw[eF,if_pos (.inl hg')]);refine xd [0,3,4,5,6,7,8,9,10,11,44,45,46,57] rfl ?_;refine aW rfl rfl ?_;refine G.bB func122 rfl ?_;refine xp rfl (ai.aT rfl rfl ⟨by omega,by omega⟩) ?_;refine aM 1 [0,3,4,5,6,7,8,9,10,11,44,45,46,57] rfl ?_;exact ih2 (b+1,_) _ _ ⟨rfl,rfl,rfl,rfl,rfl,rfl,rfl,rfl,rfl,rfl,trivial⟩ ff (by show 256-(b+1)<256-b;omega)
       · have hg':=of_decide_eq_false hg;obtain⟨t2,rfl⟩:=Int.eq_ofNat_of_zero_le (show 0<=t by omega);obtain⟨bt,hbt⟩:∃bt,live[t2]? =some bt:=⟨_,List.getElem?_eq_getElem (by omega)⟩
         have hlt2:live.getD t2 false=bt:=by rw[List.getD_eq_getElem?_getD,hbt];rfl
         obtain⟨oa',n',c',hv',_,_,_,hgetv⟩:=id (hsV.mv (Mv.aq mk.ext));cases hv';obtain⟨b3,o3,cs3,ha3,_,hrow3,rfl⟩:=hgetv t2 bt hbt;refine bO 2 rfl rfl (ai.aA underlying142 H.qo rfl rfl t2 rfl ha3 (by omega)) ?_;refine xp rfl (ah H.Hv rfl (hrow3 0 _ rfl)) ?_;refine aM 2 [0,3,4,5,6,7,8,9,10,11,44,45,46,57] rfl ?_;refine ay rfl rfl (fun hb=>?_) (fun hb=>?_)
         · have hb':bt=false:=by simpa using hb
           refine bg func122 1 rfl ?_;refine xp rfl (ai.dZ underlying312 H.bG rfl rfl b rfl (by omega)) ?_;refine RW.bT rfl rfl rfl (cB H.bG rfl rfl rfl (kz.cell (List.getElem?_eq_getElem hblt)) kz.nf) ?_;rintro _ g6 ⟨rfl,hg6⟩;have ff:=fin g2 g6 _ of (-1) mk kz hg6 (by rw[eF,if_pos (.inr (by show live.getD t2 false=false;rw[hlt2,hb']))]);refine xd [0,3,4,5,6,7,8,9,10,11,44,45,46,57] rfl ?_;refine aW rfl rfl ?_;refine G.bB func122 rfl ?_;refine xp rfl (ai.aT rfl rfl ⟨by omega,by omega⟩) ?_;refine aM 1 [0,3,4,5,6,7,8,9,10,11,44,45,46,57] rfl ?_;exact ih2 (b+1,_) _ _ ⟨rfl,rfl,rfl,rfl,rfl,rfl,rfl,rfl,rfl,rfl,trivial⟩ ff (by show 256-(b+1)<256-b;omega)
         · have hb':bt=true:=by simpa using hb
           obtain⟨c2,hc2⟩:∃c2,cls[t2]? =some c2:=⟨_,List.getElem?_eq_getElem (by omega)⟩
           have hgd2:cls.getD t2 0=c2:=by rw[List.getD_eq_getElem?_getD,hc2];rfl
           have hneg:¬(((t2:Nat):Int)<0\/live.getD ((t2:Nat):Int).toNat false=false):=by
            rintro(e|e)
            · exact hg' e
            · rw[Int.toNat_natCast,hlt2,hb'] at e;cases e
           have hstep:eF live cls of ((t2:Nat):Int)=match pL cls 0 of c2 with|some i=>(of,(i:Int))|none=>(of++[t2],(of.length:Int)):=by
            rw[eF,if_neg hneg,Int.toNat_natCast,hgd2]<;>rfl
           obtain⟨oa',n',c',hv',_,_,_,hgetc⟩:=id (hsC.mv (Mv.aq mk.ext));cases hv';obtain⟨b4,o4,cs4,ha4,_,hrow4,rfl⟩:=hgetc t2 c2 hc2;refine az rfl ?_;refine bg func122 3 rfl ?_;refine xp rfl (ai.aA underlying101 H.bG rfl rfl t2 rfl ha4 (by omega)) ?_;refine xp rfl (ah H.bU rfl (hrow4 0 _ rfl)) ?_;refine xp rfl (ai.rV (z:=.int .i64 0) (iw.int .i64) underlying317 underlying3 (by kernel_rfl) rfl rfl rfl mk.mp) ?_;rw[oF]
           rcases hfind:pL cls 0 of c2 with _|i0
           · rw[hfind] at hstep;simp only at hstep;have hnone:ju c2 (ji cls 0 of)=none:=by rw[oF,hfind];rfl
             refine aM 5 [0,3,4,5,6,7,8,9,10,11,12,13,44,45,46,57] rfl ?_;refine ak rfl ?_;refine aQ func122 2 [0,3,4,5,6,7,8,9,10,11,12,13,44,45,46,57,70] rfl ?_;refine ay rfl rfl (fun _=>?_) (fun hc=>absurd hc (by simp));refine bg func122 1 rfl ?_;refine xp rfl (ai.aI underlying101 rfl) ?_;refine aM 1 [0,3,4,5,6,7,8,9,10,11,12,13,44,45,46,57,70] rfl ?_;refine bg func122 3 rfl ?_;refine xp rfl (ai.aA underlying101 H.bG rfl rfl t2 rfl ha4 (by omega)) ?_;refine xp rfl (ah H.bU rfl (hrow4 0 _ rfl)) ?_;refine br 1 rfl ?_;refine RW.bT rfl rfl rfl (ax.mapUpdate (v:=((of.length:Nat):Int)) (iw.int .i64) underlying317 underlying3 rfl rfl rfl rfl rfl mk.mp hnone) ?_;rintro _ g3 ⟨rfl,hm3,x3,z3'⟩;have hm3:eu (Value.int .i64) (Value.int .i64) g3 h3.size (ji cls 0 (of++[t2])):=by rw[ri,Nat.zero_add,hgd2];exact hm3
             have mne:∀{b:Nat}{t:TypeId},cu g2 b t->¬b=h3.size:=fun kt e=>mk.mp.ne kt e.symm
             have ol3:aC g3 h2.size 3 1 (.slice oa of.length oc) of.length (of.map cT):=aC.ext x3 mk.ol (fun b hb=>mne (mk.LJ b hb));have kz3:=kz.ext x3 (mne kz.ty);have hz2g:=mk.ext.size;refine xd [0,3,4,5,6,7,8,9,10,11,12,13,44,45,46,57,70] rfl ?_;refine G.bB func122 rfl ?_;refine br 2 rfl ?_;refine xo rfl (ax.bA (us:=[_]) underlying101 H.lR rfl rfl (by decide) (by simp[Value.oneCell'])) ?_;rintro _ _ ⟨rfl,rfl⟩;refine xo rfl (ax.bN underlying101 H.lR rfl rfl (ol3) rfl rfl (by first|decide|simp[Value.oneCell']) (by omega) (by decide) (by omega)) ?_;rintro v7 g4 ⟨ho4,hx4,hx4',hv4⟩;have mk4:=mk.more (t:=t2) x3 hm3 rfl ho4 hx4 hv4;have kz4:=kz3.ext hx4 (fun e=>(show cu g3 _ 3 from aC.ty ol3 e.symm).ne kz3.ty (by decide) rfl);obtain⟨v7a,v7c,rfl,_⟩:=ho4.open;refine aM 1 [0,3,4,5,6,7,8,9,10,11,12,13,44,45,46,57,70] rfl ?_;refine G.bB func122 rfl ?_;refine bO 2 rfl rfl (ai.dZ underlying312 H.bG rfl rfl b rfl (by omega)) ?_;refine RW.bT rfl rfl rfl (cB H.bG rfl rfl rfl (kz4.cell (List.getElem?_eq_getElem hblt)) kz4.nf) ?_;rintro _ g6 ⟨rfl,hg6⟩;have ff:=fin g4 g6 _ (of++[t2]) (of.length:Nat) mk4 kz4 hg6 hstep;refine xd [0,3,4,5,6,7,8,9,10,11,12,13,44,45,46,57,70] rfl ?_;refine G.aJ ?_;refine G.bB func122 rfl ?_;refine xp rfl (ai.aT rfl rfl ⟨by omega,by omega⟩) ?_;refine aM 1 [0,3,4,5,6,7,8,9,10,11,12,13,44,45,46,57,70] rfl ?_;exact ih2 (b+1,_) _ _ ⟨rfl,rfl,rfl,rfl,rfl,rfl,rfl,rfl,rfl,rfl,trivial⟩ ff (by show 256-(b+1)<256-b;omega)
           · rw[hfind] at hstep;simp only at hstep;refine aM 5 [0,3,4,5,6,7,8,9,10,11,12,13,44,45,46,57] rfl ?_;refine ak rfl ?_;refine aQ func122 2 [0,3,4,5,6,7,8,9,10,11,12,13,44,45,46,57,70] rfl ?_;refine ay rfl rfl (fun hc=>absurd hc (by simp)) (fun _=>?_);refine az rfl ?_;refine G.bB func122 rfl ?_;refine bO 2 rfl rfl (ai.dZ underlying312 H.bG rfl rfl b rfl (by omega)) ?_;refine RW.bT rfl rfl rfl (cB H.bG rfl rfl rfl (kz.cell (List.getElem?_eq_getElem hblt)) kz.nf) ?_;rintro _ g6 ⟨rfl,hg6⟩;have ff:=fin g2 g6 _ of (i0:Nat) mk kz hg6 hstep;refine xd [0,3,4,5,6,7,8,9,10,11,12,13,44,45,46,57,70] rfl ?_;refine G.aJ ?_;refine G.bB func122 rfl ?_;refine xp rfl (ai.aT rfl rfl ⟨by omega,by omega⟩) ?_;refine aM 1 [0,3,4,5,6,7,8,9,10,11,12,13,44,45,46,57,70] rfl ?_;exact ih2 (b+1,_) _ _ ⟨rfl,rfl,rfl,rfl,rfl,rfl,rfl,rfl,rfl,rfl,trivial⟩ ff (by show 256-(b+1)<256-b;omega)
     · obtain rfl:b=256:=by omega
       rw[List.drop_of_length_le (by rw[r.len];exact Nat.le_refl _),kT] at hrow;subst hrow;simp only at hcon;have hencr:bX (iI row)=row.map (Value.int .i64):=by rw[bX,wH hrlen]
       rw[Nat.sub_self,List.replicate_zero,List.append_nil,<-hencr] at kz;have hil2:i<of.length:=(List.getElem?_eq_some_iff.1 hcur).1
       have nne:∀{b:Nat}{t:TypeId},cu g2 b t->312≠t->¬(cC vn.ownBlock b\/Array.size g2<=b):=fun kt ht e=>by
        rcases e with e|e
        · exact(mk.DX _ e.symm).ne kt ht rfl
        · have:=kt.lt;omega
       have hzM:¬(cC vn.ownBlock g.size\/Array.size g2<=g.size):=by
        rintro(e|e)
        · exact hvz e.symm
        · have:=kz.lt;omega
       have hdM:=nne mk.dblk.ty (by decide);have hnx:aC g2 h2.size 312 256 vn next.length (next.flatMap bX):=mk.nx
       have hone:∀u∈bX (iI row),u.oneCell'=true:=fun u hu=>by simp[bX] at hu;obtain⟨_,_,rfl⟩:=hu;rfl
       have hg2:=mk.ext.size;refine aW rfl rfl ?_;refine ak rfl ?_;refine bK (fun b=>cC vn.ownBlock b\/Array.size g2<=b) (fun i=>Nat.blt i 10) (sz:=11) (listed:= #[false,false,false,false,false,false,false,false,false,false,false]) func122 H.mixed rfl rfl rfl ?_;refine bu 0 1 (by kernel_rfl) rfl ?_;refine bu 1 3 (by kernel_rfl) rfl ?_;refine bu 2 7 (by kernel_rfl) rfl ?_;refine bn 3 15 (by kernel_rfl) rfl (fun h' e=>aa (off:=0) underlying308 rfl rfl H.jS rfl) ?_;refine bn 4 31 (by kernel_rfl) rfl (fun h' e=>ah H.pW rfl (e.cell hdM (mk.dblk.cell (i:=0) rfl))) ?_;refine bn 5 63 (by kernel_rfl) rfl (fun h' e=>ai.aD H.tF H.jR rfl (e.rowAt hzM kz.row) (by first|rfl|(simp;done)|(simp;omega))) ?_;refine cE 6 127 (by kernel_rfl) rfl (ax.cA (cs:=bX (iI row)) underlying306 H.Dc rfl (jJ _) (by decide)) ?_;rintro _ _ ⟨rfl,rfl⟩;refine⟨fun _=>(Ext.push _ _ _),?_⟩;refine cE 7 255 (by kernel_rfl) rfl (ax.vC underlying306 H.Dc rfl rfl hnx rfl (by simp) hone (by simp only[maxLen];omega) (by omega) hg2) ?_;rintro v3 g3 ⟨ho3,hx3,hx3',hv3⟩;refine⟨fun _=>hx3'.mono (fun _ _ k=>.inl k),?_⟩;obtain⟨a3,c3,rfl,_⟩:=ho3.open;refine cE 8 511 (by kernel_rfl) rfl (ai.aX (aV rfl)) ?_;rintro _ hq_ ⟨rfl,hqe_⟩;replace hqe_:=hqe_.symm;subst hqe_;refine⟨fun _=>Ext.refl _ _,?_⟩;refine bn 9 1023 (by kernel_rfl) rfl (fun h' e=>aa (off:=0) underlying308 rfl rfl H.jS rfl) ?_;refine jP 10 2047 (by kernel_rfl) rfl (ax.aH H.jS rfl rfl (mk.dblk.ext hx3 (fun e=>hdM (.inl e))) (by first|decide|exact of_decide_eq_true rfl|(simp;done)|(simp;omega)) rfl) ?_;rintro _ g4 ⟨rfl,k4,x4,z4⟩;refine⟨fun hk=>(nomatch hk),?_⟩;have mk4:=mk.Ku (r:=iI row) rfl ho3 hx3 k4 x4;obtain⟨vn0,vr0,kd4,_,⟨ra,rn,rc,rfl,hrl0,hrc,hrm,hgetr⟩⟩:=id k2;obtain⟨x,hx⟩:∃x,d.rule[kk]? =some x:=⟨_,List.getElem?_eq_getElem (by omega)⟩
       have hru0:d.ru kk=x:=by unfold cV.ru;rw[List.getD_eq_getElem?_getD,hx];rfl
       obtain⟨b5,o5,cs5,ha5,hO5,hrow5,rfl⟩:=hgetr kk x hx;obtain⟨gg5,c5,hv5,_,_,hcell5,_,_⟩:=mk4.ol.at hcur;have hoa5:oa=some ⟨gg5,0,none⟩:=by cases hv5;rfl
       have rne:∀{b:Nat}{t:TypeId},cu g4 b t->3≠t->¬(cC vr.ownBlock b\/Array.size g4<=b):=fun kt ht e=>by
        rcases e with e|e
        · exact(mk4.CT _ e.symm).ne kt ht rfl
        · have:=kt.lt;omega
       have hdM4:=rne mk4.dblk.ty (by decide);have hru:aC g4 h2.size 3 1 vr rule.length (rule.map (Value.int .i64)):=mk4.ru;have hg4s:=mk4.ext.size
       have olb:∀{b:Nat},b<h2.size->¬(cC vr.ownBlock b\/Array.size g4<=b):=fun kb e=>by
        rcases e with e|e
        · have:=(aC.lt mk4.ru e.symm).1;omega
        · omega
       have hc4:=kd4.cell (i:=1) rfl;have hd4:=olb (cL hc4);have hc5:cellAt h2 _=some (Value.int .i64 x):=hrow5 0 _ rfl;have hd5:=olb (cL hc5)
       have hd6:¬(cC vr.ownBlock gg5\/Array.size g4<=gg5):=fun e=>by
        rcases e with e|e
        · exact mk4.ne gg5 (by rw[hoa5];rfl) e.symm
        · have:=cL hcell5;simp only at this;omega
       refine RD.done (by kernel_rfl) ?_;refine xu [0,3,4,5,6,7,8,9,44,45,46] rfl ?_;refine bK (fun b=>cC vr.ownBlock b\/Array.size g4<=b) (fun i=>Nat.blt i 19) (sz:=20) (listed:= #[false,false,false,false,false,false,false,false,false,false,false,false,false,false,false,false,false,false,false,false]) func122 H.mixed rfl rfl rfl ?_;refine bu 0 1 (by kernel_rfl) rfl ?_;refine bu 1 3 (by kernel_rfl) rfl ?_;refine bu 2 7 (by kernel_rfl) rfl ?_;refine bn 3 15 (by kernel_rfl) rfl (fun h' e=>aa (off:=1) underlying308 rfl rfl H.eC rfl) ?_;refine bn 4 31 (by kernel_rfl) rfl (fun h' e=>ah H.iL rfl (e.cell hdM4 (mk4.dblk.cell (i:=1) rfl))) ?_;refine bu 5 63 (by kernel_rfl) rfl ?_;refine bu 6 127 (by kernel_rfl) rfl ?_;refine bn 7 255 (by kernel_rfl) rfl (fun h' e=>aa (off:=1) underlying308 rfl rfl H.eC rfl) ?_;refine bn 8 511 (by kernel_rfl) rfl (fun h' e=>ah H.iL rfl (e.cell hd4 (mk4.ext.cell (fun k=>k) hc4))) ?_;refine bu 9 1023 (by kernel_rfl) rfl ?_;refine bu 10 2047 (by kernel_rfl) rfl ?_;refine bn 11 4095 (by kernel_rfl) rfl (fun h' e=>ai.aA underlying101 H.bG rfl rfl i rfl hoa5 (by omega)) ?_;refine bn 12 8191 (by kernel_rfl) rfl (fun h' e=>ah H.bU rfl (e.cell hd6 hcell5)) ?_;refine bn 13 16383 (by kernel_rfl) rfl (fun h' e=>ai.aA underlying101 H.bG rfl rfl kk rfl ha5 (by omega)) ?_;refine bn 14 32767 (by kernel_rfl) rfl (fun h' e=>ah H.bU rfl (e.cell hd5 (mk4.ext.cell (fun k=>k) hc5))) ?_;refine cE 15 65535 (by kernel_rfl) rfl (ax.bA (us:=[_]) underlying101 H.lR rfl rfl (by decide) (by simp[Value.oneCell'])) ?_;rintro _ _ ⟨rfl,rfl⟩;refine⟨fun _=>by first|exact Ext.push _ _ _|assumption,?_⟩;refine cE 16 131071 (by kernel_rfl) rfl (ax.bN underlying101 H.lR rfl rfl (hru) rfl rfl (by first|decide|simp[Value.oneCell']) (by omega) (by decide) (by omega)) ?_;rintro v6 g6 ⟨ho6,hx6,hx6',hv6⟩;refine⟨fun _=>hx6'.mono (fun _ _ k=>.inl k),?_⟩;obtain⟨a6,c6,rfl,_⟩:=ho6.open;refine cE 17 262143 (by kernel_rfl) rfl (ai.aX (aV rfl)) ?_;rintro _ hq_ ⟨rfl,hqe_⟩;replace hqe_:=hqe_.symm;subst hqe_;refine⟨fun _=>Ext.refl _ _,?_⟩;refine bn 18 524287 (by kernel_rfl) rfl (fun h' e=>aa (off:=1) underlying308 rfl rfl H.eC rfl) ?_;refine jP 19 1048575 (by kernel_rfl) rfl (ax.aH H.eC rfl rfl (mk4.dblk.ext hx6 (fun e=>hdM4 (.inl e))) (by first|decide|exact of_decide_eq_true rfl|(simp;done)|(simp;omega)) rfl) ?_;rintro _ g7 ⟨rfl,k7,x7,z7⟩;refine⟨fun hk=>(nomatch hk),?_⟩;have mk7:=mk4.Kt (x:=x) rfl ho6 hx6 hv6 k7 x7;refine RD.done (by kernel_rfl) ?_;refine xu [0,3,4,5,6,7,8,9,44,45,46] rfl ?_;refine G.aJ ?_;refine G.bB func122 rfl ?_;refine bO 1 rfl rfl (ai.aT rfl rfl ⟨by omega,by omega⟩) ?_;refine aM 1 [0,3,4,5,6,7,8,9,44,45,46] rfl ?_;exact ih (i+1,_) _ _ ⟨rfl,rfl,rfl,rfl,rfl,rfl,rfl,trivial⟩ ⟨_,_,of,next++[iI row],rule++[x],mk7,hil2,hok2,⟨by simp[hnl],by simp[hrl]⟩,by rw[<-hru0,show d.next.length+1-(i+1)=n by omega];exact hcon⟩ (by show d.next.length+1-(i+1)<d.next.length+1-i;omega)
   · obtain rfl:i=of.length:=by omega
     obtain⟨n,hnn⟩:∃n,d.next.length+1-of.length=n+1:=⟨d.next.length-of.length,by omega⟩
     rw[hnn,FM,List.getElem?_eq_none (Nat.le_refl _)] at hcon;simp only at hcon;refine aW rfl rfl ?_;refine aQ func122 2 [0,2,3,4,5,6,7,8,32] rfl ?_;refine G.ret func122 rfl rfl ?_;have hz02:=(e1.trans e2).size;refine⟨_,rfl,⟨h2.size,rfl,?_⟩,(e1.trans e2).trans mk.ext⟩;rw[<-hcon];exact⟨vn,vr,by omega,mk.dblk,dw.read mk.nx (fun b hb k=>by omega),cj.read (h1:=fun _=>rfl) mk.ru (fun b hb k=>by omega)⟩
end
end Go.Proofs.YtdihgdeciopfpaaGreatDoor
namespace Go.Proofs.YtdihgdeciopfpaaGreatDoor
open Go
def gI (B:Nat) (ss:List bM):Prop:=∀x∈ss,x.rule<=B
theorem gI.snoc {B:Nat}{ss:List bM}(k:gI B ss){x:bM}(h:x.rule<=B):gI B (ss++[x]):=fun y hy=>by
 rcases List.mem_append.1 hy with e|e
 · exact k y e
 · have:y=x:=by simpa using e
   rw[this];exact h
theorem gI.set {B:Nat}{ss:List bM}(k:gI B ss){x:bM}(h:x.rule<=B) (i:Nat):gI B (ss.set i x):=fun y hy=>by
 rcases List.mem_or_eq_of_mem_set hy with e|e
 · exact k y e
 · rw[e];exact h
mutual
theorem wM (B:Nat):∀(x:Nd) (ss:List bM) (to:Nat),gI B ss->gI B (lay x ss to).1
 |.mk k s kids,ss,to,h=>by
  rw[lay];split
  · exact h.snoc (Nat.zero_le _)
  · split
    · exact vg B kids ss to h
    · split
      · exact(vh B kids ss to h).snoc (Nat.zero_le _)
      · split
        · exact(vf B kids ss to h).snoc (Nat.zero_le _)
        · split
          · exact(vf B kids _ _ (h.snoc (Nat.zero_le _))).set (Nat.zero_le _) _
          · exact h
theorem vg (B:Nat):∀(l:List Nd) (ss:List bM) (to:Nat),gI B ss->gI B (bJ l ss to).1
 | [],ss,to,h=>by rw[bJ];exact h
 |x::r,ss,to,h=>by rw[bJ];exact wM B x _ _ (vg B r ss to h)
theorem vh (B:Nat):∀(l:List Nd) (ss:List bM) (to:Nat),gI B ss->gI B (bq l ss to).1
 | [],ss,to,h=>by rw[bq];exact h
 |x::r,ss,to,h=>by rw[bq];exact vh B r _ to (wM B x ss to h)
theorem vf (B:Nat):∀(l:List Nd) (ss:List bM) (to:Nat),gI B ss->gI B (b8 l ss to).1
 | [],ss,to,h=>by rw[b8];exact h
 |x::r,ss,to,h=>by rw[b8];exact wM B x ss to h
end
theorem zw (B:Nat):∀(i:Nat) (rules:List By) (ss:List bM) (t:List Nat) (ss':List bM) (t':List Nat),i+rules.length<=B->gI B ss->jm i rules ss t= .inr (ss',t')->gI B ss'
 |i,[],ss,t,ss',t',_,h,hm=>by
  rw[jm] at hm;cases hm;exact h
 |i,s::r,ss,t,ss',t',hB,h,hm=>by
  rw[List.length_cons] at hB;rw[jm] at hm;split at hm
  · cases hm
  · exact zw B (i+1) r _ _ ss' t' (by omega) (wM B _ _ _ (h.snoc (by show i<=B;omega))) hm
theorem FN {rules:List By}{ss:List bM}{st:Nat}(h:dV rules= .inr (ss,st)):∀x∈ss,x.rule<=1000000:=by
 unfold dV at h;split at h
 · cases h
 · rename_i hn;split at h
   · cases h
   · rename_i ss1 t1 hg;split at h
     · cases h
     · cases h;have:=zw 64 0 rules [] [] ss1 t1 (by omega) (fun x hx=>(by cases hx)) hg;intro x hx;have:=(this.snoc (x:=⟨0,0,t1,0⟩) (Nat.zero_le _)) x hx;omega
end Go.Proofs.YtdihgdeciopfpaaGreatDoor
namespace Go.Proofs.YtdihgdeciopfpaaGreatDoor
open Go Go.Lw
set_option maxRecDepth 20000
def mM (rules:List By):Int ⊕ cV:=match dV rules with
 |.inl e=>.inl e
 |.inr (ss,st)=>eY ss st
theorem El {rules:List By}{d:cV}(h:mM rules= .inr d):d.Ok/\0<d.next.length:=by
 unfold mM at h;split at h
 · cases h
 · rename_i ss st hm;refine⟨Ek h (FN hm),?_⟩;obtain⟨_,L,_,h2,h3⟩:=gQ h;omega
end Go.Proofs.YtdihgdeciopfpaaGreatDoor
