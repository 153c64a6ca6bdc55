/- What the proof of the statement leans on (part 25). -/
import Derived.LaidLaws
import Derived.LaidMore
import Derived.OpenShut
import Derived.Stop.Joined
import Derived.ChangeMaps5
import Derived.Lay
import Derived.Test.YtdihgdeciopfpaaGreatDoorQx

namespace Go.Proofs.YtdihgdeciopfpaaGreatDoor
open Go.Proofs.Tryz
open Go Go.Lw Go.ChangeShapes Go.WideShapes Go.ChangeAt Go.RowKit
set_option maxRecDepth 20000
theorem own:ownKnob Tryz.prog.godebug=none:=by kernel_rfl
theorem laidOut:laidOutB Tryz.prog=true:=by kernel_rfl
theorem Hx (c:UInt8):((kO (c.toNat:Int) [((42:Int),(4:Int)),(43,5),(63,6)]).map (Value.int .i64)).getD (Value.int .i64 0)=Value.int .i64 (de c:Nat):=by
  have hc:∀n:Nat,n<256->(c.toNat=n↔c=UInt8.ofNat n):=fun n hn=>by
    rw[<-UInt8.toNat_inj];simp;rw[Nat.mod_eq_of_lt hn]
  simp only[kO,de]
  by_cases h1:c=42
  · subst h1;rfl
  by_cases h2:c=43
  · subst h2;rfl
  by_cases h3:c=63
  · subst h3;rfl
  have n1:¬(c.toNat:Int)=42:=fun e=>h1 ((hc 42 (by decide)).1 (by omega))
  have n2:¬(c.toNat:Int)=43:=fun e=>h2 ((hc 43 (by decide)).1 (by omega))
  have n3:¬(c.toNat:Int)=63:=fun e=>h3 ((hc 63 (by decide)).1 (by omega))
  simp[h1,h2,h3,n1,n2,n3]
theorem Im {W:World}{g t:Nat}{cs:Array Value}{fuel:Nat}{pl:List MemPlace}{sp:Nat->Bool}{held:Bool}{enc:TypeId×Value->Unit}(hg:Tryz.prog.globalNamed "limner/regs.signs" =some g) (ht:(Tryz.prog.globals[g]?).map (·.type)=some t) (hv:W.var? Tryz.prog "limner/regs.signs" =some cs)
    (hd:DataW.trod enc Tryz.prog W 0 sp held fuel t cs.toList=some (Rows.laid_limner_regs_signs,pl)):Sg W.heap W.heap.size:=by
  have gT:Tryz.prog.globalNamed "limner/regs.signs" =some 12:=by kernel_rfl
  have tT:(Tryz.prog.globals[12]?).map (·.type)=some 429:=by kernel_rfl
  obtain rfl:=Option.some.inj (gT.symm.trans hg);obtain rfl:=Option.some.inj (tT.symm.trans ht);obtain⟨b,hcs,l,hm,hp⟩:=Jf (kk:=.u8) (kd:=.i64) underlying429 underlying5 underlying3 hd
  have hcell:W.cell? ⟨12,0,none⟩=some (.map (some b)):=by
    have:=World.var?_cell hg hv 0;obtain⟨l1⟩:=cs;simp only at hcs;subst hcs;simpa using this
  have hc2:cellAt W.heap ⟨12,0,none⟩=some (.map (some b)):=(At.refl W).cell _▸hcell
  have hperm:l.Perm [((42:Int),(4:Int)),(43,5),(63,6)]:=by
    have hinj:∀p q:Int×Int,((.int .u8 p.1,.lit (.int .i64 p.2)):Lit×DataW Unit)=(.int .u8 q.1,.lit (.int .i64 q.2))->p=q:=by
      intro p q h;simp only[Prod.mk.injEq,Lit.int.injEq,DataW.lit.injEq,true_and] at h;exact Prod.ext h.1 h.2
    have hp':(l.map fun p=>((.int .u8 p.1,.lit (.int .i64 p.2)):Lit×DataW Unit)).Perm ([((42:Int),(4:Int)),(43,5),(63,6)].map fun p=>((.int .u8 p.1,.lit (.int .i64 p.2)):Lit×DataW Unit)):=hp
    have hback:∀m:List (Int×Int),(m.map fun p=>((.int .u8 p.1,.lit (.int .i64 p.2)):Lit×DataW Unit)).map (fun y=>match y with|(.int _ a,.lit (.int _ b))=>(a,b)|_=>((0:Int),(0:Int)))=m:=by
      intro m;rw[List.map_map];have:((fun y=>match y with|(.int _ a,.lit (.int _ b))=>(a,b)|_=>((0:Int),(0:Int)))∘fun p=>((.int .u8 p.1,.lit (.int .i64 p.2)):Lit×DataW Unit))=id:=by funext p;rfl
      rw[this,List.map_id]
    have:=hp'.map (fun y=>match y with|(.int _ a,.lit (.int _ b))=>(a,b)|_=>((0:Int),(0:Int)))
    rwa [hback,hback] at this
  refine⟨b,dJ hc2,hm.lt,hc2,l,hm,fun c=>?_⟩;rw[JW hperm (by decide)];exact Hx c
end Go.Proofs.YtdihgdeciopfpaaGreatDoor
namespace Go.Proofs.YtdihgdeciopfpaaGreatDoor
open Go.Proofs.Tryz
open Go Go.Lw
set_option maxRecDepth 20000 set_option maxHeartbeats 4000000
section
variable {h:aj}{b:Nat}{v p:Value}{l:List UInt8}{d:bP}
theorem bInfo:∃j,Tryz.prog.info? 112=some j/\j.size≠0:=⟨_,rfl,by decide⟩
theorem HV:∃i,Tryz.prog.info? 5=some i/\i.zero=some (.int .u8 0)/\i.size=1/\i.bytes=1:=⟨_,rfl,rfl,rfl,rfl⟩
theorem QG:liesAt Tryz.prog Tryz.prog.depth 112 (2 / Tryz.prog.cellsOf 112) 0 112 1=true:=by kernel_rfl
theorem E5:Tryz.prog.cellsOf 5=1:=by kernel_rfl
theorem tA (hb:aH h b 112 [.pointer none,v]) :
 af Tryz.prog 91 #[.pointer (some ⟨b,0,none⟩)] h (bf fun _ h'=>aH h' b 112 [.pointer (some ⟨b,0,none⟩),v]/\Ext (fun i=>i=b) h h'/\h'.size=h.size):=by
 obtain⟨j,hj,hj0⟩:=bInfo;refine eV ?_;refine ax ?_;refine xp rfl (bJ rfl (hb.cell (i:=0) rfl)) ?_;refine xp rfl (ai.cJ underlying109 rfl rfl) ?_;refine ax ?_;refine tf rfl (by decide) ?_;refine fE ?_
 iterate 2 refine cG ?_
 refine xp rfl (ai.BE underlying109 underlying247 hj hj0 hb (by simp) rfl) ?_;refine xp rfl (ai.Ck func145 (by decide +kernel) (by kernel_rfl) (by kernel_rfl) (by kernel_rfl) rfl) ?_;refine xp rfl (ai.vX underlying247 underlying109 hj hb QG rfl) ?_;refine ax ?_;refine dD rfl (qY rfl rfl hb) ?_;rintro _ h1 ⟨rfl,hb1,hx1,hs1⟩;refine ax ?_;refine M9 ?_;exact⟨_,rfl,hb1,hx1,hs1⟩
theorem wD (hb:aH h b 112 [.pointer (some ⟨b,0,none⟩),v]) :
 af Tryz.prog 91 #[.pointer (some ⟨b,0,none⟩)] h (bf fun _ h'=>aH h' b 112 [.pointer (some ⟨b,0,none⟩),v]/\Ext (fun i=>i=b) h h'/\h'.size=h.size):=by
 obtain⟨j,hj,hj0⟩:=bInfo;refine eV ?_;refine ax ?_;refine xp rfl (bJ rfl (hb.cell (i:=0) rfl)) ?_;refine xp rfl (ai.cJ underlying109 rfl rfl) ?_;refine ax ?_;refine qT rfl Bool.false_ne_true ?_;refine ax ?_;refine xp rfl (bJ rfl (hb.cell (i:=0) rfl)) ?_;refine cG ?_;refine xp rfl (ai.vv underlying109 hj rfl rfl) ?_;refine ax ?_;refine qT rfl Bool.false_ne_true ?_;refine ax ?_;refine M9 ?_;exact⟨_,rfl,hb,Ext.refl _ _,rfl⟩
theorem l9 (hb:aH h b 112 [p,v]) (hp:p= .pointer none\/p= .pointer (some ⟨b,0,none⟩)) :
 af Tryz.prog 91 #[.pointer (some ⟨b,0,none⟩)] h (bf fun _ h'=>aH h' b 112 [.pointer (some ⟨b,0,none⟩),v]/\Ext (fun i=>i=b) h h'/\h'.size=h.size):=by
 rcases hp with rfl|rfl
 · exact tA hb
 · exact wD hb
theorem jv (s:ByteArray) (hb:nE h b 112 5 l) (hl:l.length+s.size<=140737488355328) :
 af Tryz.prog 44 #[.pointer (some ⟨b,0,none⟩),.string s] h (bf fun r h'=>r= .tuple #[.int .i64 s.size,.nilIface]/\nE h' b 112 5 (l++s.data.toList)/\Ext (fun i=>b<=i) h h'):=by
 obtain⟨i,hi,hi0,hi1,hi2⟩:=HV;obtain⟨p,v,hk,hp,hv⟩:=hb;have hlt:=hk.lt;refine eV ?_;refine ax ?_;refine xo rfl (dz rfl (l9 hk hp)) ?_;rintro _ h1 ⟨hk1,hx1,hs1⟩;refine ax ?_;have hv1:HM h1 (b+1) 5 v l:=az.ext hx1 hv (fun g hg=>by have:=fc hv g hg.symm;omega);refine xp rfl (bJ rfl (hk1.cell (i:=1) rfl)) ?_;refine ax ?_;refine xo rfl (aB.zI underlying110 underlying9 hi hi0 hi1 hi2 rfl rfl hv1 hl (by omega)) ?_;rintro v2 h2 ⟨ho2,hx2⟩;refine ax ?_;have hk2:=hk1.ext hx2 (fun hm=>by have:=fc hv1 b hm;omega);obtain⟨oa2,c2,rfl,-⟩:=az.open ho2;refine dD rfl (qY rfl rfl hk2) ?_;rintro _ h3 ⟨rfl,hk3,hx3,hs3⟩;refine ax ?_;refine dS ?_;have ho3:HM h3 (b+1) 5 _ (l++s.data.toList):=az.ext hx3 ho2 (fun g hg=>by have:=fc ho2 g hg.symm;omega);exact⟨_,rfl,rfl,⟨_,_,hk3,.inr rfl,ho3⟩,((hx1.mono (fun _ _ k=>by show b<=_;omega)).trans (hx2.mono (fun g _ k=>by have:=fc hv1 g k;show b<=g;omega))).trans (hx3.mono (fun _ _ k=>by show b<=_;omega))⟩
theorem nE.ak {h h':aj}{b:Nat}{l:List UInt8}(k:nE h b 112 5 l) (e:aq h h'):nE h' b 112 5 l:=by
 obtain⟨p,v,hk,hp,hv⟩:=k;exact⟨p,v,hk.ak e,hp,b7.ak hv e⟩
theorem oA (hb:nE h b 112 5 l) (hl:l.length<=140737488355328) :
 af Tryz.prog 46 #[.pointer (some ⟨b,0,none⟩)] h (bf fun r h'=>r= .string ⟨l.toArray⟩/\Ext (fun i=>b<=i) h h'):=by
 obtain⟨p,v,hk,hp,hv⟩:=hb;obtain⟨oa,c,rfl,hw⟩:=az.open hv;have hc1:=hk.cell (i:=1) rfl;refine eV ?_;refine ax ?_;refine Bt 12 (fun i=>b+1<=i) (fun i=>Nat.blt i 12) ?_;refine cS 0 ?_;refine cS 1 ?_;refine cS 2 ?_;refine eO 3 rfl (fun h' e=>bJ rfl (e.cell (by show ¬b+1<=b;omega) hc1)) ?_;refine cS 5 ?_;refine cS 6 ?_;refine cS 7 ?_;refine eO 8 rfl (fun h' e=>bJ rfl (e.cell (by show ¬b+1<=b;omega) hc1)) ?_;refine cS 9 ?_;refine nG 4 rfl (aB.yY underlying172 rfl hv) ?_;rintro u h1 ⟨⟨q,rfl,hs⟩,he⟩;refine⟨fun _=>he.of,?_⟩;refine nG 10 rfl (kR underlying172 E5 rfl rfl hs hl) ?_;rintro _ h2 ⟨rfl,hx2⟩;refine⟨fun _=>hx2,?_⟩;refine cS 11 ?_;refine xM ?_;refine dS ?_;exact⟨_,rfl,rfl,(aq.of he).trans (hx2.mono (fun g _ k=>by have:b+1<=g:=k;show b<=g;omega))⟩
def rQ (h:aj):Prop:=Bx Tryz.prog h "internal/strconv.uint64pow10" =some (Lib.pow10Tab.map fun z=>Value.int .u64 z).toArray
theorem rQ.ak {h':aj}(k:rQ h) (e:aq h h'):rQ h':=DC e k
theorem oS (hg:rQ h) (n:Int) (hn : -9223372036854775808<=n/\n<=9223372036854775807) :
 af Tryz.prog 70 #[.int .i64 n] h (bf fun r h'=>r= .string (bs (Lib.itoa n))/\aq h h'):=by
 refine af.qj fun w hw=>?_
 subst hw;refine(Tryz.strconv_Itoa n hn.1 hn.2 w hg).mono ?_;rintro e w' ⟨rfl,k,os,rfl⟩;refine⟨_,rfl,⟨rfl,?_⟩,rfl,rfl,rfl⟩;refine⟨by simp[Go.Sort.grow],fun b hb _=>?_⟩;simp[Go.Sort.grow,Array.getElem?_append_left hb]
theorem th (c:UInt8) (hb:nE h b 112 5 l) (hl:l.length<=900000000) :
 af Tryz.prog 147 #[.pointer (some ⟨b,0,none⟩),.int .u8 (c.toNat:Nat)] h (bf fun _ h'=>nE h' b 112 5 (l++[c])/\Ext (fun g=>b<=g) h h'):=by
 obtain⟨p,v,hk,hp,hv⟩:=hb;have hlt:=hk.lt;refine eV ?_;refine ax ?_;refine xo rfl (dz rfl (l9 hk hp)) ?_;rintro _ h1 ⟨hk1,hx1,hs1⟩;refine ax ?_;have hv1:HM h1 (b+1) 5 v l:=az.ext hx1 hv (fun g hg=>by have:=fc hv g hg.symm;omega);refine xp rfl (bJ rfl (hk1.cell (i:=1) rfl)) ?_;refine ax ?_;refine xo rfl (xI [_]) ?_;rintro _ _ ⟨rfl,rfl⟩;refine xo rfl (F9 rfl rfl hv1 rfl rfl) ?_;rintro v2 h2 ⟨ho2,hx2,hx2',hv2⟩;have hk2:=hk1.ext hx2 (fun hm=>by have:=fc hv1 b hm;omega);have ho2':HM h2 (b+1) 5 v2 (l++[c]):=b7.of (ys:=[c]) ho2 rfl rfl rfl;obtain⟨oa2,c2,rfl,-⟩:=ho2.open;refine ax ?_;refine dD rfl (qY rfl rfl hk2) ?_;rintro _ h3 ⟨rfl,hk3,hx3,hs3⟩;refine ax ?_;refine dS ?_;exact⟨_,rfl,⟨_,_,hk3,.inr rfl,az.ext hx3 ho2' (fun g hg=>by have:=fc ho2' g hg.symm;omega)⟩,((hx1.mono (fun _ _ k=>by show b<=_;omega)).trans (hx2.mono (fun g _ k=>by have:=fc hv1 g k;show b<=g;omega))).trans (hx3.mono (fun _ _ k=>by show b<=_;omega))⟩
theorem rG {O:Nat->Prop}(hg:rQ h){l:List Int}(hv:bB (.int .i64) h O v l) (hl:l.length<=1000000) (hb:∀n∈l,-9223372036854775808<=n/\n<=9223372036854775807) :
 af Tryz.prog 190 #[v] h (bf fun r h'=>r= .string (bs (gq l))/\aq h h'):=by
 obtain⟨oa,n,c,rfl,hsl⟩:=hv.open;have hn:=hsl.len;refine eV ?_;refine ax ?_;refine xo rfl (pI) ?_;rintro _ h0 ⟨rfl,hk0,he0,hs0⟩;refine ax ?_;have hb0:nE h0 h.size 112 5 []:=xG hk0;refine qS (σ:=Nat) (fun i=>[(8,.int .i64 (i:Nat))]) (fun i h'=>i<=n/\aq h h'/\nE h' h.size 112 5 (gq (l.take i))/\h0.size<=h'.size) (fun i=>n-i) (0) ⟨Nat.zero_le _,he0,hb0,Nat.le_refl _⟩ rfl ?_;rintro i g ⟨hi,eg,hbg,hgz⟩ ih;have hlen:=AU (l.take i) (fun x hx=>hb x (List.mem_of_mem_take hx));rw[List.length_take] at hlen;refine ax ?_;refine dM (fun hlt=>?_) (fun hlt=>?_)
 · obtain⟨b1,o1,x,hoa,_,hx,hcx⟩:=(hsl.mv (Mv.ak eg)).at (show i<n by omega);have hbx:=hb x (List.mem_of_getElem? hx);have hil:=Lib.itoa_length_le x hbx.1 hbx.2;have hbsz:=aR (Lib.itoa x);have hbl:(bs (Lib.itoa x)).data.toList=Lib.itoa x:=by simp[bs]
   have hnx:gq (l.take (i+1))=gq (l.take i)++(bs (Lib.itoa x)).data.toList++[32]:=by rw[List.take_add_one,hx,Option.toList_some,Jh,hbl]
   iterate 4 refine dc ?_
   refine fE ?_;refine xp rfl (fN rfl rfl i rfl hoa) ?_;refine xp rfl (bJ rfl hcx) ?_;refine ax ?_;refine xo rfl (dz rfl (oS (hg.ak eg) x hbx)) ?_;rintro _ g1 ⟨rfl,e1⟩;refine xo rfl (dz rfl (jv (bs (Lib.itoa x)) (nE.ak hbg e1) (by omega))) ?_;rintro _ g2 ⟨rfl,hb2,hx2⟩;refine ax ?_;refine xo rfl (dz rfl (th 32 hb2 (by rw[List.length_append,hbl];omega))) ?_;rintro _ g3 ⟨hb3,hx3⟩;refine ax ?_;have z1:=e1.size;have z2:=hx2.size;have z3:=hx3.size;rw[<-hnx] at hb3
   have e3:aq h g3:=⟨by have:=eg.size;omega,fun b hb k=>by
    rw[hx3.block b (by have:=eg.size;omega) (by show ¬_<=_;omega),hx2.block b (by have:=eg.size;omega) (by show ¬_<=_;omega),e1.block b (by have:=eg.size;omega) (fun k=>k)];exact eg.block b hb k⟩
   exact ih (i+1) ⟨by omega,e3,hb3,by omega⟩
 · have hie:l.take i=l:=List.take_of_length_le (by omega);rw[hie] at hbg;have hkl:=AU l hb;refine ax ?_;refine xo rfl (dz rfl (oA hbg (by omega))) ?_;rintro _ g1 ⟨rfl,hx1⟩;refine ax ?_;refine dS ?_;exact⟨_,rfl,rfl,⟨by have:=hx1.size;have:=eg.size;omega,fun b hb k=>by rw[hx1.block b (by have:=eg.size;omega) (by show ¬_<=_;omega)];exact eg.block b hb k⟩⟩
def bX (r:Row):List Value:=r.v.map (.int .i64)
@[simp] theorem lI (r:Row):(bX r).length=256:=by simp[bX,r.len]
def FF:gH Row:=.record 256 (by decide) bX lI (fun r v hv=>by simp[bX] at hv;obtain⟨_,_,rfl⟩:=hv;rfl)
def oC (h:aj) (db:Nat) (d:bP):Prop :=
 ∃vn vr,aH h db 308 [vn,vr]/\bB FF h (fun _=>False) vn d.next/\bB (.int .i64) h (fun _=>False) vr d.rule
theorem oC.ak {h h':aj}{db:Nat}{d:bP}(k:oC h db d) (e:aq h h'):oC h' db d:=by
 obtain⟨vn,vr,h1,h2,h3⟩:=k;exact⟨vn,vr,h1.ak e,h2.mv (Mv.ak e),h3.mv (Mv.ak e)⟩
def M3 (h:aj) (p:Value) (d:bP):Prop:=(p= .pointer none/\d=⟨[],[]⟩)\/∃db,p= .pointer (some ⟨db,0,none⟩)/\oC h db d
theorem Hf:af Tryz.prog 193 #[.pointer none] h (bf fun r h'=>r= .bool true/\h'=h):=by
 refine eV ?_;refine dc ?_;refine fE ?_;refine cG ?_;refine iF ?_;refine dc ?_;refine rV [(2,.bool true)] rfl ?_ ?_
 · refine cG ?_;refine xp rfl (ai.cJ underlying227 rfl rfl) ?_;refine ax ?_;refine RW.bH (d:=5) (b':=true) rfl (rfl) ?_;refine ax ?_;exact cY rfl ⟨aC rfl (rfl),sb rfl⟩
 · refine dS ?_;exact⟨_,rfl,rfl,rfl⟩
theorem CX {db:Nat}(k:oC h db d):af Tryz.prog 193 #[.pointer (some ⟨db,0,none⟩)] h (bf fun r h'=>r= .bool (decide (d.next.length=0))/\h'=h):=by
 obtain⟨vn,vr,hk,⟨na,nn,nc,rfl,hnl,_⟩,h2⟩:=k;refine eV ?_;refine dc ?_;refine fE ?_;refine cG ?_;refine iF ?_;refine dc ?_;refine rV [(2,.bool (decide (d.next.length=0)))] rfl ?_ ?_
 · refine cG ?_;refine xp rfl (ai.cJ underlying227 rfl rfl) ?_;refine ax ?_;refine RW.bH (d:=5) (b':=false) rfl (rfl) ?_;refine ax ?_;refine xp rfl (bJ rfl (hk.cell (i:=0) rfl)) ?_;refine ax ?_;exact cY rfl ⟨aC rfl (by simp only[decide_eq_decide];omega),sb rfl⟩
 · refine dS ?_;exact⟨_,rfl,rfl,rfl⟩
theorem CW (k:M3 h p d):af Tryz.prog 193 #[p] h (bf fun r h'=>r= .bool (decide (d.next.length=0))/\h'=h):=by
 rcases k with ⟨rfl,rfl⟩|⟨db,rfl,k⟩
 · exact Hf
 · exact CX k
theorem A8 {s:By}{a:Int}(k:M3 h p d) (hok:d.Ok) (hs:s.length<=1000000) :
 af Tryz.prog 283 #[p,.string (bs s),.int .i64 a] h (bf fun r h'=>r= .tuple #[.int .i64 (cW d s a).1,.int .i64 (cW d s a).2.1,.int .i64 (cW d s a).2.2]/\h'=h):=by
 have hbs:=aR s;refine eV ?_;refine dc ?_;refine fE ?_
 iterate 3 refine cG ?_
 refine iF ?_;refine dc ?_;refine fE ?_;refine cG ?_;refine iF ?_
 iterate 2 refine dc ?_
 refine rV [(22,.bool (decide (d.next.length=0\/a<0\/(s.length:Int)<a)))] rfl ?_ ?_
 · refine ax ?_;refine xo rfl (dz rfl (CW k)) ?_;rintro _ h0 ⟨rfl,hh0⟩;subst hh0;refine ax ?_;refine qV 13 (fun hg=>?_) (fun hg=>?_)
   · have hg':=of_decide_eq_true hg;refine ax ?_;exact cY rfl ⟨aC rfl (by simp[hg']),sb rfl⟩
   · have hg':=of_decide_eq_false hg;refine ax ?_;refine qV 17 (fun hg2=>?_) (fun hg2=>?_)
     · have hg2':=of_decide_eq_true hg2;refine ax ?_;exact cY rfl ⟨aC rfl (by simp[hg2']),sb rfl⟩
     · have hg2':=of_decide_eq_false hg2;refine ax ?_;exact cY rfl ⟨aC rfl (by simp only[decide_eq_decide];omega),sb rfl⟩
 · refine dM (fun hz=>?_) (fun hz=>?_)
   · refine ax ?_;refine dS ?_;rw[cW,if_pos hz];exact⟨_,rfl,rfl,rfl⟩
   · obtain⟨k0,rfl⟩:=Int.eq_ofNat_of_zero_le (show 0<=a by omega);have hk0:k0<=s.length:=by omega
     have hma:cW d s (k0:Nat)=aP d (s.drop k0) 0 0 (0,-1):=by rw[cW,if_neg hz];rfl
     rw[hma];generalize htgt:aP d (s.drop k0) 0 0 (0,-1)=tgt
     rcases k with ⟨_,rfl⟩|⟨db,rfl,vn,vr,hk,⟨na,nn,nc,rfl,hnl,_,_,hgetn⟩,⟨ra,rn,rc,rfl,hrl,_,_,hgetr⟩⟩
     exact absurd (.inl rfl) hz;have hlen:=hok.len;have hsize:=hok.size;refine ax ?_;refine OJ (σ:=Int×Nat×Int×Int) (fun q=>[(0,.pointer (some ⟨db,0,none⟩)),(1,.string (bs s)),(2,.int .i64 (k0:Nat)),(6,.int .i64 q.2.2.1),(7,.int .i64 q.2.2.2),(8,.int .i64 (q.2.1:Nat)),(9,.int .i64 q.1)]) (fun q h'=>h'=h/\k0+q.2.1<=s.length/\(0<=q.1->q.1<d.next.length/\aP d (s.drop (k0+q.2.1)) q.1.toNat q.2.1 q.2.2=tgt)/\(q.1<0->(q.2.2.1,q.2.2.2,(q.2.1:Int))=tgt)) (fun q=>2*(s.length-(k0+q.2.1))+(if 0<=q.1 then 1 else 0)) ((0,0,0,-1)) ⟨rfl,by simpa using hk0,fun _=>⟨by show (0:Int)<_;omega,by simpa using htgt⟩,fun k=>absurd k (by decide)⟩ ?_;rintro⟨st,i,b1,b2⟩ g ⟨rfl,hki,hpos,hneg⟩ ih
     try dsimp only
     dsimp only at hki hpos hneg;refine ax ?_;refine dM (fun hst=>?_) (fun hst=>?_)
     · obtain⟨hlt,hcon⟩:=hpos hst;obtain⟨j,rfl⟩:=Int.eq_ofNat_of_zero_le hst;have hcon:aP d (s.drop (k0+i)) j i (b1,b2)=tgt:=hcon;obtain⟨x,hx⟩:∃x,d.rule[j]? =some x:=⟨_,List.getElem?_eq_getElem (by omega)⟩
       have hru:d.ru j=x:=by unfold bP.ru;rw[List.getD_eq_getElem?_getD,hx];rfl
       obtain⟨b,o,cs,ha,_,hrow,rfl⟩:=hgetr j x hx;refine ax ?_;refine xp rfl (bJ rfl (hk.cell (i:=1) rfl)) ?_;refine cG ?_;refine xp rfl (fN rfl rfl j rfl ha) ?_;refine xp rfl (bJ rfl (hrow 0 _ rfl)) ?_;refine ax ?_
       have fin:∀(c1 c2:Int) (h':aj) (ρ':Env),Sub [(0,.pointer (some ⟨db,0,none⟩)),(1,.string (bs s)),(2,.int .i64 (k0:Nat)),(6,.int .i64 c1),(7,.int .i64 c2),(8,.int .i64 (i:Nat)),(9,.int .i64 (j:Nat))] ρ'->h'=g->(c1,c2)=(if 0<=d.ru j then ((i:Int),d.ru j) else (b1,b2))->G Tryz.prog 283 Tryz.f283 [.code [1,0,1,0,0,1,0,1,1,1],.blk 1,.loop [0,0,1,0,1,1,1],.blk 0,.code [1,1,1,1]] ρ' h' (bf fun r h'=>r= .tuple #[.int .i64 tgt.1,.int .i64 tgt.2.1,.int .i64 tgt.2.2]/\h'=g):=by
        rintro c1 c2 g1 ρ' hsub rfl hc;refine G.sub (ρ':=[(0,.pointer (some ⟨db,0,none⟩)),(1,.string (bs s)),(2,.int .i64 (k0:Nat)),(6,.int .i64 c1),(7,.int .i64 c2),(8,.int .i64 (i:Nat)),(9,.int .i64 (j:Nat))]) hsub ?_;refine ax ?_;refine dM (fun hend=>?_) (fun hend=>?_)
        · have hd:s.drop (k0+i)=[]:=List.drop_of_length_le (by omega);rw[hd,aP] at hcon
          have hcon:(c1,c2,(i:Int))=tgt:=by
           rw[<-hcon]
           by_cases h0:0<=d.ru j
           · rw[if_pos h0] at hc ⊢;cases hc;rfl
           · rw[if_neg h0] at hc ⊢;cases hc;rfl
          refine ax ?_;refine dS ?_;exact⟨_,rfl,by rw[<-hcon];rfl,rfl⟩
        · have hki2:k0+i<s.length:=by omega
          have hd:s.drop (k0+i)=s[k0+i]::s.drop (k0+i+1):=List.drop_eq_getElem_cons hki2;rw[hd,aP,<-hc] at hcon;obtain⟨r,hr⟩:∃r,d.next[j]? =some r:=⟨_,List.getElem?_eq_getElem (by omega)⟩
          obtain⟨b3,o3,cs3,ha3,_,hrow3,rfl⟩:=hgetn j r hr;obtain⟨y,hy,he,_⟩:=r.at s[k0+i];have hc8:=s[k0+i].toNat_lt;have hto:d.to j s[k0+i]=y:=by unfold bP.to;rw[hr];exact he
          have hb:=bP.pS hok (s:=j) s[k0+i];rw[hto] at hcon hb;have hcell:cellAt g1 ⟨b3,o3+j*256+s[k0+i].toNat*1,none⟩=some (.int .i64 y):=by rw[Nat.mul_one];exact hrow3 _ _ (by simp[bX,hy])
          refine ax ?_;refine rU rfl (bJ rfl (hk.cell (i:=0) rfl)) ?_;refine ax ?_;refine rU rfl (Oj rfl rfl (k0+i) (by omega) (mc (List.getElem?_eq_getElem hki2))) ?_;refine rU rfl (fN rfl rfl j rfl ha3) ?_;refine rU rfl (Dt rfl rfl s[k0+i].toNat rfl (by omega)) ?_;refine rU rfl (bJ rfl hcell) ?_;refine ax ?_;refine dM (fun hy0=>?_) (fun hy0=>?_)
          · rw[if_pos hy0] at hcon;obtain⟨j2,rfl⟩:=Int.eq_ofNat_of_zero_le hy0;refine ax ?_;exact ih ((j2:Int),i+1,c1,c2) ⟨rfl,by show k0+(i+1)<=s.length;omega,fun _=>⟨hb.2,by show aP d (s.drop (k0+(i+1))) _ _ _=tgt;rw[show k0+(i+1)=k0+i+1 by omega];exact hcon⟩,fun k=>absurd k (by show ¬(j2:Int)<0;omega)⟩ (by show 2*(s.length-(k0+(i+1)))+(if (0:Int)<=(j2:Nat) then 1 else 0)<2*(s.length-(k0+i))+(if (0:Int)<=(j:Nat) then 1 else 0);rw[if_pos (by omega),if_pos (by omega)];omega)
          · rw[if_neg hy0] at hcon;refine ax ?_;exact ih (y,i,c1,c2) ⟨rfl,hki,fun k=>absurd k hy0,fun _=>by show (c1,c2,(i:Int))=tgt;rw[<-hcon];by_cases h0:0<=d.ru j;(rw[if_pos h0] at hc ⊢;cases hc;rfl);(rw[if_neg h0] at hc ⊢;cases hc;rfl)⟩ (by show 2*(s.length-(k0+i))+(if (0:Int)<=y then 1 else 0)<2*(s.length-(k0+i))+(if (0:Int)<=(j:Nat) then 1 else 0);rw[if_neg hy0,if_pos (by omega)];omega)
       refine dM (fun hr=>?_) (fun hr=>?_)
       · refine fE ?_
         iterate 4 refine cG ?_
         refine iF ?_;exact fin _ _ _ _ (by exact sb rfl) rfl (by rw[hru,if_pos hr])
       · refine dc ?_;exact fin _ _ _ _ (by exact sb rfl) rfl (by rw[hru,if_neg hr])
     · have hcon:=hneg (by omega);refine ax ?_;refine dS ?_;exact⟨_,rfl,by rw[<-hcon];rfl,rfl⟩
end
end Go.Proofs.YtdihgdeciopfpaaGreatDoor
namespace Go.Proofs.YtdihgdeciopfpaaGreatDoor
open Go Go.Lw
set_option maxRecDepth 20000
def Q3 (h:aj) (O:Nat->Prop) (cs:List Value) (x:List Nat):Prop:=∃v,cs=[v]/\bB ia h O v x
def Ex:gH (List Nat):=⟨1,by decide,Q3,fun h=>by obtain⟨v,rfl,_⟩:=h;rfl,fun h=>by
    obtain⟨v,rfl,hv⟩:=h;intro u hu;simp at hu;subst hu;exact bB.Mu hv,fun h m=>by
    obtain⟨v,hc,hv⟩:=h;exact⟨v,hc,hv.mv m⟩⟩
def mJ:Nat->List (List Nat)->List (ByteArray×Int)
  |_,[]=>[]
  |i,x::r=>(bs (AV x),(i:Int))::mJ (i+1) r
theorem y8:∀(ls:List (List Nat)) (i:Nat) (l:List Nat),mJ i (ls++[l])=mJ i ls++[(bs (AV l),((i+ls.length:Nat):Int))]
  | [],i,l=>by simp[mJ]
  |x::r,i,l=>by
    simp only[List.cons_append,mJ];rw[y8 r (i+1) l,List.length_cons,show i+1+r.length=i+(r.length+1) by omega]
theorem wP:∀(ls:List (List Nat)) (i:Nat) (l:List Nat),kO (bs (AV l)) (mJ i ls)=(oq i ls l).map fun j=>(j:Int)
  | [],i,l=>rfl
  |x::r,i,l=>by
    rw[mJ,kO,oq]
    by_cases h:l=x
    · subst h;rw[if_pos rfl,if_pos rfl];rfl
    · have hk:¬bs (AV l)=bs (AV x):=fun e=>h (Ji (jj e))
      rw[if_neg hk,if_neg h];exact wP r (i+1) l
theorem Dm {h:aj}{O:Nat->Prop}{v:Value}{l:List Nat}(k:bB ia h O v l):bB (.int .i64) h O v (l.map Int.ofNat):=by
  obtain⟨oa,n,c,rfl,hl,hnc,hc,hg⟩:=k;refine⟨oa,n,c,rfl,by simpa using hl,hnc,hc,fun i x hx=>?_⟩;rw[List.getElem?_map] at hx;cases hs:l[i]? with
  |none=>rw[hs] at hx;cases hx
  |some s =>
    rw[hs] at hx;simp only[Option.map_some,Option.some.injEq] at hx;subst hx;obtain⟨b,o,cs,h1,h2,h3,h4⟩:=hg i s hs;exact⟨b,o,cs,h1,h2,h3,h4⟩
structure iw (h0 h:aj) (C:Nat->Prop) (db mb:Nat) (vl vn vr:Value) (lists:List (List Nat)) (next:List Row) (rule:List Int):Prop where
  ext:aq h0 h
  dblk:aH h db 308 [vn,vr]
  nx:fZ 256 bX h h0.size 312 vn next
  ru:b7 (Value.int .i64) h h0.size 3 vr rule
  mp:fy Value.string (Value.int .i64) h mb (mJ 0 lists)
  ls:fB Ex (fun b=>¬C b) h h0.size 101 vl lists
  cty:∀b,C b->bR h b 3
  cr:∀b,vr.ownBlock=some b->¬C b
  dge:h0.size<=db
  mge:h0.size<=mb
section
variable {h0 h:aj}{C:Nat->Prop}{db mb:Nat}{vl vn vr:Value}{lists:List (List Nat)}{next:List Row}{rule:List Int}
theorem iw.I1 (k:iw h0 h C db mb vl vn vr lists next rule):∀b,vl.ownBlock=some b->bR h b 101:=fun b hb=>by
  obtain⟨css,_,h2,_⟩:=k.ls;exact h2.ty hb
theorem iw.GL (k:iw h0 h C db mb vl vn vr lists next rule):∀b,vn.ownBlock=some b->bR h b 312:=fun _ hb=>az.ty k.nx hb
theorem iw.Fk (k:iw h0 h C db mb vl vn vr lists next rule):∀b,vr.ownBlock=some b->bR h b 3:=fun _ hb=>az.ty k.ru hb
theorem iw.S2 (k:iw h0 h C db mb vl vn vr lists next rule):∀b,vl.ownBlock=some b->h0.size<=b:=fun b hb=>by
  obtain⟨css,_,h2,_⟩:=k.ls;exact(h2.lt hb).1
theorem iw.ak {h':aj}(k:iw h0 h C db mb vl vn vr lists next rule) (e:aq h h'):iw h0 h' C db mb vl vn vr lists next rule :=
  ⟨k.ext.trans e,k.dblk.ak e,fZ.ak k.nx e,b7.ak k.ru e,k.mp.ext e (fun k=>k),k.ls.ak e,fun b hb=>(k.cty b hb).ext e (fun k=>k),k.cr,k.dge,k.mge⟩
theorem iw.put {h':aj}{x:Nat}(k:iw h0 h C db mb vl vn vr lists next rule) (e:Ext (fun b=>b=x) h h') (hx:bR h x 312) (hn:vn.ownBlock≠some x) (hge:h0.size<=x):iw h0 h' C db mb vl vn vr lists next rule:=by
  have hd:¬db=x:=k.dblk.ty.ne hx (by decide);have hm:¬mb=x:=k.mp.ne hx;have hl:∀b,vl.ownBlock=some b->¬b=x:=fun b hb=>(k.I1 b hb).ne hx (by decide)
  have hr:∀b,vr.ownBlock=some b->¬b=x:=fun b hb=>(k.Fk b hb).ne hx (by decide)
  have hc:∀b,C b->¬b=x:=fun b hb=>(k.cty b hb).ne hx (by decide)
  exact⟨aq.only k.ext e hge,k.dblk.ext e hd,az.ext e k.nx (fun b hb hbx=>hn (by subst hbx;exact hb)),az.ext e k.ru hr,k.mp.ext e hm,
    k.ls.Fv e hl (fun b _ hb hC=>hc b hC hb) (fun _ _ k=>k),fun b hb=>(k.cty b hb).ext e (hc b hb),k.cr,k.dge,k.mge⟩
end
section
variable {h0 h:aj}{C:Nat->Prop}{db mb:Nat}{vl vn vr:Value}{lists:List (List Nat)}{next:List Row}{rule:List Int}
theorem iw.Nl {g3 g4:aj}{v3:Value}{r:Row}{n:Nat}(k:iw h0 h C db mb vl vn vr lists next rule) (hn:n=next.length) (ho:az g3 h0.size 312 256 v3 (n+1) (next.flatMap bX++bX r)) (hx:Ext (cj vn.ownBlock) h g3) (hd:aH g4 db 308 [v3,vr]) (x4:Ext (fun b=>b=db) g3 g4) :
    iw h0 g4 C db mb vl v3 vr lists (next++[r]) rule:=by
  have nne:∀{b:Nat}{t:TypeId},bR h b t->312≠t->¬cj vn.ownBlock b:=fun kt ht e=>(k.GL _ e.symm).ne kt ht rfl
  have d3:=k.dblk.ext hx (nne k.dblk.ty (by decide));have dne:∀{b:Nat}{t:TypeId},bR g3 b t->308≠t->¬b=db:=fun kt ht e=>by subst e;exact d3.ty.ne kt ht rfl
  have mne:¬cj vn.ownBlock mb:=fun e=>k.mp.ne (k.GL _ e.symm) rfl
  have hm3:=k.mp.ext hx mne;have hdlt:=k.dblk.lt;have ru3:=az.ext hx k.ru (fun b hb=>nne (k.Fk b hb) (by decide));have ls3:fB Ex (fun b=>¬C b) g3 h0.size 101 vl lists:=k.ls.Fv hx (fun b hb=>nne (k.I1 b hb) (by decide)) (fun b _ hb hC=>nne (k.cty b hC) (by decide) hb) (fun _ _ k=>k);have lty3:∀b,vl.ownBlock=some b->bR g3 b 101:=fun b hb=>(k.I1 b hb).ext hx (nne (k.I1 b hb) (by decide))
  have cty3:∀b,C b->bR g3 b 3:=fun b hb=>(k.cty b hb).ext hx (nne (k.cty b hb) (by decide))
  refine⟨⟨by have:=k.ext.size;have:=hx.size;have:=x4.size;omega,fun b hb kk=>?_⟩,hd,?_,az.ext x4 ru3 (fun b hb=>dne (az.ty ru3 hb) (by decide)),hm3.ext x4 (hm3.ne d3.ty),ls3.Fv x4 (fun b hb=>dne (lty3 b hb) (by decide)) (fun b _ hb hC=>dne (cty3 b hC) (by decide) hb) (fun _ _ k=>k),fun b hb=>(cty3 b hb).ext x4 (dne (cty3 b hb) (by decide)),k.cr,k.dge,k.mge⟩
  · rw[x4.block b (by have:=k.ext.size;have:=hx.size;omega) (by have:=k.dge;omega),hx.block b (by have:=k.ext.size;omega) (fun e=>by have:=(az.lt k.nx e.symm).1;omega)];exact k.ext.block b hb kk
  · exact az.ext x4 (fZ.of ho hn rfl) (fun b hb=>dne (az.ty ho hb) (by decide))
theorem iw.Nk {g3 g4:aj}{v3:Value}{x:Int}{n:Nat}(k:iw h0 h C db mb vl vn vr lists next rule) (hn:n=rule.length) (ho:az g3 h0.size 3 1 v3 (n+1) (rule.map (Value.int .i64)++[.int .i64 x])) (hx:Ext (cj vr.ownBlock) h g3) (hv:∀b,v3.ownBlock=some b->vr.ownBlock=some b\/h.size<=b) (hd:aH g4 db 308 [vn,v3]) (x4:Ext (fun b=>b=db) g3 g4) :
    iw h0 g4 C db mb vl vn v3 lists next (rule++[x]):=by
  have nne:∀{b:Nat}{t:TypeId},bR h b t->3≠t->¬cj vr.ownBlock b:=fun kt ht e=>(k.Fk _ e.symm).ne kt ht rfl
  have cne:∀{b:Nat},C b->¬cj vr.ownBlock b:=fun hC e=>k.cr _ e.symm hC
  have d3:=k.dblk.ext hx (nne k.dblk.ty (by decide));have dne:∀{b:Nat}{t:TypeId},bR g3 b t->308≠t->¬b=db:=fun kt ht e=>by subst e;exact d3.ty.ne kt ht rfl
  have mne:¬cj vr.ownBlock mb:=fun e=>k.mp.ne (k.Fk _ e.symm) rfl
  have hm3:=k.mp.ext hx mne;have nx3:=az.ext hx k.nx (fun b hb=>nne (k.GL b hb) (by decide));have ls3:fB Ex (fun b=>¬C b) g3 h0.size 101 vl lists:=k.ls.Fv hx (fun b hb=>nne (k.I1 b hb) (by decide)) (fun b _ hb hC=>cne hC hb) (fun _ _ k=>k);have lty3:∀b,vl.ownBlock=some b->bR g3 b 101:=fun b hb=>(k.I1 b hb).ext hx (nne (k.I1 b hb) (by decide))
  have cty3:∀b,C b->bR g3 b 3:=fun b hb=>(k.cty b hb).ext hx (cne hb)
  refine⟨⟨by have:=k.ext.size;have:=hx.size;have:=x4.size;omega,fun b hb kk=>?_⟩,hd,az.ext x4 nx3 (fun b hb=>dne (az.ty nx3 hb) (by decide)),?_,hm3.ext x4 (hm3.ne d3.ty),ls3.Fv x4 (fun b hb=>dne (lty3 b hb) (by decide)) (fun b _ hb hC=>dne (cty3 b hC) (by decide) hb) (fun _ _ k=>k),fun b hb=>(cty3 b hb).ext x4 (dne (cty3 b hb) (by decide)),fun b hb hC=>?_,k.dge,k.mge⟩
  · rw[x4.block b (by have:=k.ext.size;have:=hx.size;omega) (by have:=k.dge;omega),hx.block b (by have:=k.ext.size;omega) (fun e=>by have:=(az.lt k.ru e.symm).1;omega)];exact k.ext.block b hb kk
  · exact az.ext x4 (b7.of (ys:=[x]) ho hn rfl rfl) (fun b hb=>dne (az.ty ho hb) (by decide))
  · rcases hv b hb with e|e
    · exact k.cr b e hC
    · have:=(k.cty b hC).lt;omega
end
def Br (res:Int ⊕ bP) (h':aj) (r:Value):Prop:=match res with
  |.inl e=>r= .tuple #[.pointer none,.int .i64 e]
  |.inr d=>∃db,r= .tuple #[.pointer (some ⟨db,0,none⟩),.int .i64 0]/\oC h' db d
end Go.Proofs.YtdihgdeciopfpaaGreatDoor
namespace Go.Proofs.YtdihgdeciopfpaaGreatDoor
open Go.Proofs.Tryz
open Go Go.Lw
set_option maxRecDepth 20000 set_option maxHeartbeats 4000000
section
variable {h:aj}{d:bP}{live:List Bool}{cls:List Int}
theorem CY {O:Nat->Prop}{nb:Nat}{v:Value}{ss:List bC}{st:Nat}(htens:rQ h) (hn:bV h O nb v ss st) (hgood:Good ss) (hss:ss.length<=30000) (hst:st<ss.length) (hpot1:1+sy ss (List.replicate ss.length false)<=1000000)
 (hpot:∀c now,List.Sublist now (List.range ss.length)->(stepG ss c now []).length+sy ss (List.replicate ss.length false)<=1000000) :
 af Tryz.prog 121 #[.pointer (some ⟨nb,0,none⟩)] h (bf fun r h'=>Br (fX ss st) h' r/\aq h h'):=by
 generalize hres:fX ss st=res
 have hint:∀l:List Nat,l.Sublist (List.range ss.length)->(l.map Int.ofNat).length<=1000000/\∀n∈l.map Int.ofNat,-9223372036854775808<=n/\n<=9223372036854775807:=fun l hl=>by
  have h1:=hl.length_le;rw[List.length_range] at h1;refine⟨by rw[List.length_map];omega,fun n hn=>?_⟩;obtain⟨j,hj,rfl⟩:=List.mem_map.1 hn;have:=List.mem_range.1 (hl.subset hj);simp only[Int.ofNat_eq_natCast];omega
 refine eV ?_;refine ax ?_;refine xo rfl (dz rfl (BU hn hgood (by omega) (.inr hst) hpot1)) ?_;rintro w4 h1 ⟨ho1,e1⟩;have hsub0:=DQ ss st;generalize hl0:cg ss st=l0 at *;have hi0:=hint l0 hsub0;obtain⟨wa,wc,rfl,_⟩:=(show az h1 h.size 3 1 w4 l0.length (l0.map dA) from ho1).open;refine ax ?_;refine dM (fun hz=>?_) (fun hz=>?_)
 · refine ax ?_;refine dS ?_;have:res= .inl 1:=by rw[<-hres,fX,hl0,if_pos (by omega)]
   subst this;exact⟨_,rfl,rfl,e1⟩
 · have hres':res=match jL ss 2002 0 [l0] [] [] with|none=>.inl 70|some d=>.inr d:=by rw[<-hres,fX,hl0,if_neg (by omega)]<;>rfl
   refine ax ?_;refine xp rfl (aE (H.JR ) rfl) ?_;refine xo rfl (Bu) ?_;rintro _ h2 ⟨rfl,k2,e2,z2⟩;refine ax ?_;refine xo rfl (nB (ek:=Value.string) (ev:=Value.int .i64)) ?_;rintro _ h3 ⟨rfl,hm3,e3,z3⟩;have k2:aH h2 h1.size 308 [.slice none 0 0,.slice none 0 0]:=k2;have e13:=e2.trans e3;have hz1:=e1.size;refine ax ?_;refine xo rfl (dz rfl (rG ((htens.ak e1).ak e13) (Dm (bB.mv (b7.read (O:=fun _=>False) (h1:=fun _=>rfl) ho1 (fun _ _ k=>k)) (Mv.ak e13))) hi0.1 hi0.2)) ?_;rintro _ h4 ⟨rfl,e4⟩;have hm4:=hm3.ext e4 (fun k=>k);have z4:=e4.size;refine dD rfl (xl (v:=(0:Int)) jn underlying310 underlying9 rfl rfl rfl rfl rfl hm4 (rfl:kO (bs (gq (l0.map Int.ofNat))) []=none)) ?_;rintro _ h5 ⟨rfl,hm5,x5,z5⟩;have hm5:fy Value.string (Value.int .i64) h5 h2.size (mJ 0 [l0]):=hm5;have e05:aq h h5:=aq.only ((e1.trans e13).trans e4) x5 (by omega);have ho5:b7 dA h5 h.size 3 (.slice wa l0.length wc) l0:=az.ext x5 (b7.ak (b7.ak ho1 e13) e4) (fun b hb (e:b=h2.size)=>by have:=(az.lt ho1 hb).2;omega);have k5:aH h5 h1.size 308 [.slice none 0 0,.slice none 0 0]:=((k2.ak e3).ak e4).ext x5 (by show ¬_=_;omega);refine ax ?_;refine xo rfl (xI [_]) ?_;rintro _ _ ⟨rfl,rfl⟩;refine ax ?_;have e56:aq h5 (h5.push (.cells #[.slice wa l0.length wc] 101)):=Ext.push _ _ _
   have ls6:fB Ex (fun b=>¬cj (Value.slice wa l0.length wc).ownBlock b) (h5.push (.cells #[.slice wa l0.length wc] 101)) h.size 101 (.slice (some ⟨h5.size,0,none⟩) 1 1) [l0] :=
    fB.lW (e:=Ex) (cs:=[.slice wa l0.length wc]) ⟨_,rfl,az.Ip (h1:=fun _=>rfl) ho5 (fun b hb k=>k hb.symm)⟩ e05.size
   generalize h5.push (.cells #[.slice wa l0.length wc] 101)=h6 at *
   have mk6:iw h h6 (cj (Value.slice wa l0.length wc).ownBlock) h1.size h2.size (.slice (some ⟨h5.size,0,none⟩) 1 1) (.slice none 0 0) (.slice none 0 0) [l0] [] [] :=
    ⟨e05.trans e56,k5.ak e56,fZ.nil _ _ _ _ _,b7.nil _ _ _ _,hm5.ext e56 (fun k=>k),ls6,fun b hb=>bR.ext (az.ty ho5 hb.symm) e56 (fun k=>k),fun b hb=>(by cases hb),hz1,by omega⟩
   refine OJ (σ:=Nat×Value) (fun q=>[(0,.pointer (some ⟨nb,0,none⟩)),(5,.pointer (some ⟨h1.size,0,none⟩)),(6,.map (some h2.size)),(7,q.2),(8,.int .i64 (q.1:Nat))]) (fun q h'=>∃C vn vr lists next rule,iw h h' C h1.size h2.size q.2 vn vr lists next rule/\q.1<=lists.length/\lists.length<=2000/\(next.length=q.1/\rule.length=q.1)/\(∀l∈lists,l.Sublist (List.range ss.length))/\res=(match jL ss (2002-q.1) q.1 lists next rule with|none=>.inl 70|some d=>.inr d)) (fun q=>2002-q.1) ((0,.slice (some ⟨h5.size,0,none⟩) 1 1)) ⟨_,_,_,[l0],[],[],mk6,Nat.zero_le _,by simp,⟨rfl,rfl⟩,fun l hl=>by simp at hl;subst hl;exact hsub0,hres'⟩ ?_;rintro⟨i,vl⟩ g ⟨C,vn,vr,lists,next,rule,mk,hi,hl2,⟨hnl,hrl⟩,hsl,hcon⟩ ih
   try dsimp only
   dsimp only at mk hi hnl hrl hcon;obtain⟨css,hc1,hc2,hc3⟩:=id mk.ls;obtain⟨la,lc,rfl,_⟩:=hc2.open;have hng:bV g O nb v ss st:=hn.ak mk.ext (fun _ _ k=>k);have mkg:=mk;refine ax ?_;refine dM (fun hlt=>?_) (fun hlt=>?_)
   · have hil:i<lists.length:=by omega
     obtain⟨cur,hcur⟩:∃cur,lists[i]? =some cur:=⟨_,List.getElem?_eq_getElem hil⟩
     have hcsub:=hsl cur (List.mem_of_getElem? hcur);obtain⟨n,hnn⟩:∃n,2002-i=n+1:=⟨2001-i,by omega⟩
     rw[hnn,jL,hcur] at hcon;simp only at hcon;generalize hrow:lg ss cur 256 0 lists []=tgt at hcon;refine ax ?_;refine xo rfl (pI) ?_;rintro _ g1 ⟨rfl,kz,ez,zz⟩;have kz:aH g1 g.size 312 (([]:List Int).map (Value.int .i64)++List.replicate (256-0) (Value.int .i64 0)):=kz;have Kg:=mk.ak ez;have hvz:vn.ownBlock≠some g.size:=fun e=>by have:=(mk.GL _ e).lt;omega
     refine ax ?_;refine OJ (σ:=Nat×Value) (fun q=>[(0,.pointer (some ⟨nb,0,none⟩)),(5,.pointer (some ⟨h1.size,0,none⟩)),(6,.map (some h2.size)),(7,q.2),(8,.int .i64 (i:Nat)),(9,.pointer (some ⟨g.size,0,none⟩)),(33,.int .i64 (q.1:Nat))]) (fun q h'=>∃C lists' row,iw h h' C h1.size h2.size q.2 vn vr lists' next rule/\(q.1<=256/\row.length=q.1/\lists'.length<=2000+q.1)/\aH h' g.size 312 (row.map (Value.int .i64)++List.replicate (256-q.1) (Value.int .i64 0))/\lists'[i]? =some cur/\(∀l∈lists',l.Sublist (List.range ss.length))/\lg ss cur (256-q.1) q.1 lists' row=tgt) (fun q=>256-q.1) ((0,.slice la lists.length lc)) ⟨C,lists,[],Kg,⟨Nat.zero_le _,rfl,by simp;omega⟩,kz,hcur,hsl,hrow⟩ ?_;rintro⟨b,vl⟩ g2 ⟨C,lists,row,mk,⟨hb,hrlen,hlb⟩,kz,hcur,hsl,hrow⟩ ih2
     try dsimp only
     dsimp only at mk hb hrlen hlb kz hrow;have hng:bV g2 O nb v ss st:=hn.ak mk.ext (fun _ _ k=>k);refine ax ?_;refine dM (fun hb256=>?_) (fun hb256=>?_)
     · obtain⟨m,hm⟩:∃m,256-b=m+1:=⟨255-b,by omega⟩
       rw[hm,lg] at hrow;obtain⟨g',c',cs,hv',_,_,hrowv,_,⟨w,rfl,hw⟩,_⟩:=mk.ls.put hcur;subst hv';have hnlt:∀j∈cur,j<ss.length:=fun j hj=>List.mem_range.1 (hcsub.subset hj)
       have hcl:=hcsub.length_le;rw[List.length_range] at hcl;have hub:(UInt8.ofNat b).toNat=b:=by simp;omega
       have hwr:bB ia g2 (fun _=>False) w cur:=nA hw (fun _ k=>k.elim);have hstep:=DP (UInt8.ofNat b) hng hgood (by omega) hwr hnlt (by omega) (hpot _ _ hcsub);rw[hub] at hstep;have hlsub:=Gh ss (UInt8.ofNat b) cur
       iterate 4 refine dc ?_
       refine fE ?_
       iterate 2 refine cG ?_
       refine iF ?_;refine dc ?_;refine fE ?_
       iterate 3 refine cG ?_
       refine xp rfl (fN rfl rfl i rfl rfl (by have:=(List.getElem?_eq_some_iff.1 hcur).1;omega)) ?_;refine xp rfl (bJ rfl (hrowv 0 _ rfl)) ?_;refine cG ?_;refine xp rfl (OI rfl (wrap_u8 ⟨by omega,by omega⟩)) ?_;refine xo rfl (dz rfl hstep) ?_;rintro w11 g3 ⟨ho3,e3⟩;generalize hl:cz ss (UInt8.ofNat b) cur=l at *;have hsN:dw ss cur lists b=if l.length=0 then (lists,-1) else match oq 0 lists l with|some i=>(lists,(i:Int))|none=>(lists++[l],(lists.length:Int)):=by unfold dw;rw[hl]<;>rfl
       have hil:=hint l hlsub;obtain⟨l11a,l11c,rfl,_⟩:=(show az g3 g2.size 3 1 w11 l.length (l.map dA) from ho3).open;have mk3:=mk.ak e3;have kz3:=kz.ak e3;have hkey:∀{gg:aj},aq g3 gg->af Tryz.prog 190 #[.slice l11a l.length l11c] gg (bf fun r h'=>r= .string (bs (AV l))/\aq gg h'):=fun e=>rG (htens.ak (mk3.ext.trans e)) (Dm (bB.mv (b7.read (O:=fun _=>False) (h1:=fun _=>rfl) ho3 (fun _ _ k=>k)) (Mv.ak e))) hil.1 hil.2
       refine ax ?_;refine xo rfl (dz rfl (hkey (Ext.refl _ _))) ?_;rintro _ g4 ⟨rfl,e4⟩;have mk4:=mk3.ak e4;have kz4:=kz3.ak e4;refine xp rfl (ai.vF (z:=.int .i64 0) jn underlying310 underlying9 (by kernel_rfl) rfl rfl rfl mk4.mp) ?_;rw[wP];refine ax ?_
       have fin:∀(to:Int) (vl2:Value) (h':aj) (ρ':Env),Sub [(0,.pointer (some ⟨nb,0,none⟩)),(5,.pointer (some ⟨h1.size,0,none⟩)),(6,.map (some h2.size)),(7,vl2),(8,.int .i64 (i:Nat)),(9,.pointer (some ⟨g.size,0,none⟩)),(10,.int .i64 (b:Nat)),(12,.int .i64 to),(33,.int .i64 (b:Nat))] ρ'->(∃C2,iw h h' C2 h1.size h2.size vl2 vn vr (dw ss cur lists b).1 next rule)->to=(dw ss cur lists b).2->aH h' g.size 312 (row.map (Value.int .i64)++List.replicate (256-b) (Value.int .i64 0))->G Tryz.prog 121 f121 [.code [1,1,1,1,0,0,1,1,0,0,1,0,1,0,0,1,0,0,1,0,1,1,1,1,1,1],.blk 3,.code [1,1,1,0,0,1,0,1,0,0,1,0,0,1,0,1,1,1,1,1,1],.loop [0,0,1,0,1,0,0,1,0,0,1,0,1,1,1,1,1,1],.blk 2,.code [1,1,0,0,1,0,0,1,0,1,1,1,1,1,1],.blk 1,.code [1,1,0,0,1,0,1,1,1,1,1,1],.loop [0,0,1,0,1,1,1,1,1,1],.blk 0,.code [1,1,1,1,1,1,1]] ρ' h' (bf fun r h'=>Br res h' r/\aq h h'):=by
        rintro to vl2 g5 ρ' hsub ⟨C2,mk5⟩ hto kz5;refine G.sub (ρ':=[(0,.pointer (some ⟨nb,0,none⟩)),(5,.pointer (some ⟨h1.size,0,none⟩)),(6,.map (some h2.size)),(7,vl2),(8,.int .i64 (i:Nat)),(9,.pointer (some ⟨g.size,0,none⟩)),(10,.int .i64 (b:Nat)),(12,.int .i64 to),(33,.int .i64 (b:Nat))]) hsub ?_
        have hrs:(dw ss cur lists b).1.length<=lists.length+1/\(dw ss cur lists b).1[i]? =some cur/\∀x∈(dw ss cur lists b).1,x.Sublist (List.range ss.length):=by
         rw[hsN];split
         · exact⟨Nat.le_succ _,hcur,hsl⟩
         · split
           · exact⟨Nat.le_succ _,hcur,hsl⟩
           · refine⟨by simp,by rw[List.getElem?_append_left (List.getElem?_eq_some_iff.1 hcur).1];exact hcur,fun x hx=>?_⟩
             rcases List.mem_append.1 hx with k|k
             · exact hsl x k
             · have:x=l:=by simpa using k
               rw[this];exact hlsub
        have hcells:(row.map (Value.int .i64)++List.replicate (256-b) (Value.int .i64 0)).length=256:=by simp[hrlen];omega
        have hset:(row.map (Value.int .i64)++List.replicate (256-b) (Value.int .i64 0)).set (0+b*1) (.int .i64 to)=(row++[to]).map (Value.int .i64)++List.replicate (256-(b+1)) (Value.int .i64 0):=by
         rw[Nat.zero_add,Nat.mul_one,List.set_append_right _ _ (by simp;omega),show 256-b=(256-(b+1))+1 by omega,List.replicate_succ];have:b-(row.map (Value.int .i64)).length=0:=by simp;omega
         rw[this,List.set_cons_zero];simp
        have hblt:0+b*1<(row.map (Value.int .i64)++List.replicate (256-b) (Value.int .i64 0)).length:=by rw[hcells];omega
        refine fE ?_
        iterate 2 refine cG ?_
        refine xp rfl (Dt rfl rfl b rfl (by omega)) ?_;refine dD rfl (ct H.bL rfl rfl rfl (kz5.cell (List.getElem?_eq_getElem hblt)) kz5.nf) ?_;rintro _ g6 ⟨rfl,hg6⟩;have k6:=kz5.set (0+b*1) (.int .i64 to);rw[<-hg6,hset] at k6;have x6:Ext (fun y=>y=g.size) g5 g6:=by rw[hg6];exact Ext.eo _ _ _ rfl
        have hzge:h.size<=g.size:=mkg.ext.size;have mk6:=mk5.put x6 kz5.ty hvz hzge;refine ax ?_;exact ih2 (b+1,vl2) ⟨C2,_,row++[to],mk6,⟨by show b+1<=256;omega,by simp[hrlen],by show _<=2000+(b+1);omega⟩,k6,hrs.2.1,hrs.2.2,by show lg ss cur (256-(b+1)) (b+1) _ _=tgt;rw[show 256-(b+1)=m by omega,hto];exact hrow⟩
       refine dM (fun hz11=>?_) (fun hz11=>?_)
       · have hl0':l.length=0:=by omega
         refine fE ?_;refine cG ?_;refine iF ?_;refine dc ?_;exact fin (-1) _ _ _ (by exact sb rfl) (by rw[hsN,if_pos hl0'];exact⟨C,mk4⟩) (by rw[hsN,if_pos hl0']) kz4
       · have hl0':¬l.length=0:=by omega
         rcases hfind:oq 0 lists l with _|j
         · refine ax ?_;refine tf rfl (by simp) ?_;refine ax ?_;refine xo rfl (dz rfl (hkey e4)) ?_;rintro _ g5 ⟨rfl,e5⟩;have mk5:=mk4.ak e5;have hnone:kO (bs (AV l)) (mJ 0 lists)=none:=by rw[wP,hfind];rfl
           refine ax ?_;refine dD rfl (aB.mapUpdate (v:=(lists.length:Int)) jn underlying310 underlying9 rfl rfl rfl rfl rfl mk5.mp hnone) ?_;rintro _ g6 ⟨rfl,hm6,x6,z6⟩;have hm6:fy Value.string (Value.int .i64) g6 h2.size (mJ 0 (lists++[l])):=by rw[y8,Nat.zero_add];exact hm6
           have mapne:∀{b:Nat}{t:TypeId},bR g5 b t->¬b=h2.size:=fun k e=>mk5.mp.ne k e.symm
           have e35:=e4.trans e5;have ho5w:b7 dA g5 g2.size 3 (.slice l11a l.length l11c) l:=b7.ak ho3 e35;have kz5:=kz4.ak e5;have kz6:=kz5.ext x6 (mapne kz5.ty);have d6:=mk5.dblk.ext x6 (mapne mk5.dblk.ty);have nx6:=az.ext x6 mk5.nx (fun b hb=>mapne (mk5.GL b hb));have ru6:=az.ext x6 mk5.ru (fun b hb=>mapne (mk5.Fk b hb));have ho6w:b7 dA g6 g2.size 3 (.slice l11a l.length l11c) l:=az.ext x6 ho5w (fun b hb=>mapne (az.ty ho5w hb))
           have ls6:fB Ex (fun b=>¬(C b\/cj (Value.slice l11a l.length l11c).ownBlock b)) g6 h.size 101 (.slice (some ⟨g',0,none⟩) lists.length c') lists :=
            mk5.ls.Fv x6 (fun b hb=>mapne (mk5.I1 b hb)) (fun b _ hb hC=>mapne (mk5.cty b hC) hb) (fun b _ hb hC=>hb (.inl hC))
           have lty6:bR g6 g' 101:=(mk5.I1 g' rfl).ext x6 (mapne (mk5.I1 g' rfl));obtain⟨css,hc1,hc2,hc3⟩:=id ls6;have hz5:=mk5.ext.size;have hz2g:=mk.ext.size;refine ax ?_;refine xo rfl (xI [_]) ?_;rintro _ _ ⟨rfl,rfl⟩;refine xo rfl (F9 rfl rfl hc2 rfl rfl) ?_;rintro v7 g7 ⟨ho7,hx7,hx7',hv7⟩
           have lne:∀{b:Nat}{t:TypeId},bR g6 b t->101≠t->¬cj (Value.slice (some ⟨g',0,none⟩) lists.length c').ownBlock b:=fun k ht e=>by
            simp only[cj,Value.ownBlock,Option.some.injEq] at e;subst e;exact lty6.ne k ht rfl
           have hsz3:=e3.size;have hsz35:=e35.size;have ty6:∀{b:Nat}{t:TypeId},bR g5 b t->bR g6 b t:=fun k=>k.ext x6 (mapne k)
           have hls7:fB Ex (fun b=>¬(C b\/cj (Value.slice l11a l.length l11c).ownBlock b)) g7 h.size 101 v7 (lists++[l]) :=
            fB.mN (h:=g6) (v:=.slice (some ⟨g',0,none⟩) lists.length c') (css:=css) (cs:=[.slice l11a l.length l11c]) hc1 hc3 ho7 hx7 hv7 ⟨_,rfl,az.Ip (h1:=fun _=>rfl) ho6w (fun b hb k=>by
             rcases k with k|k
             · exact lne (az.ty ho6w hb) (by decide) k
             · exact k (.inr hb.symm))⟩
           have hmb6:¬cj (Value.slice (some ⟨g',0,none⟩) lists.length c').ownBlock h2.size:=fun e=>by
            simp only[cj,Value.ownBlock,Option.some.injEq] at e;exact hm6.ne (e▸lty6) rfl
           have hext7:aq h g7:=⟨by have:=hx7.size;omega,fun b hb k=>by
            rw[hx7.block b (by omega) (fun e=>by
             simp only[cj,Value.ownBlock,Option.some.injEq] at e;have:=mk5.S2 g' rfl;omega),x6.block b (by omega) (by have:=mk5.mge;omega)]
            exact mk5.ext.block b hb k⟩
           have mk7:iw h g7 (fun b=>C b\/cj (Value.slice l11a l.length l11c).ownBlock b) h1.size h2.size v7 vn vr (lists++[l]) next rule :=
            ⟨hext7,d6.ext hx7 (lne d6.ty (by decide)),az.ext hx7 nx6 (fun b hb=>lne (az.ty nx6 hb) (by decide)),az.ext hx7 ru6 (fun b hb=>lne (az.ty ru6 hb) (by decide)),hm6.ext hx7 hmb6,hls7,
             fun b hb=>by
              rcases hb with hb|hb
              · exact bR.ext (ty6 (mk5.cty b hb)) hx7 (lne (ty6 (mk5.cty b hb)) (by decide))
              · exact bR.ext (az.ty ho6w hb.symm) hx7 (lne (az.ty ho6w hb.symm) (by decide)),
             fun b hb hC=>by
              rcases hC with hC|hC
              · exact mk5.cr b hb hC
              · have h1':=(mk.Fk b hb).lt;have h2':=(az.lt ho6w hC.symm).1;omega,mk5.dge,mk5.mge⟩
           obtain⟨v7a,v7c,rfl,_⟩:=ho7.open;refine cG ?_;refine iF ?_;refine dc ?_;exact fin (lists.length:Int) _ _ _ (by exact sb rfl) (by rw[hsN,if_neg hl0',hfind];exact⟨_,mk7⟩) (by rw[hsN,if_neg hl0',hfind]) (kz6.ext hx7 (lne kz6.ty (by decide)))
         · have hj:=oX lists 0 j l hfind;refine ax ?_;refine qT rfl (by simp) ?_
           iterate 2 refine dc ?_
           exact fin (j:Int) _ _ _ (by exact sb rfl) (by rw[hsN,if_neg hl0',hfind];exact⟨C,mk4⟩) (by rw[hsN,if_neg hl0',hfind]) kz4
     · obtain rfl:b=256:=by omega
       rw[Nat.sub_self,lg] at hrow;subst hrow;simp only at hcon;obtain⟨css2,hd1,hd2,hd3⟩:=id mk.ls;obtain⟨la2,lc2,rfl,_⟩:=hd2.open;have hencr:bX (jA row)=row.map (Value.int .i64):=by rw[bX,tJ hrlen]
       rw[Nat.sub_self,List.replicate_zero,List.append_nil,<-hencr] at kz;refine ax ?_;refine dM (fun hbigl=>?_) (fun hbigl=>?_)
       · rw[if_pos (by omega)] at hcon;refine ax ?_;refine dS ?_;exact⟨_,rfl,by rw[hcon];rfl,mk.ext⟩
       · rw[if_neg (by omega)] at hcon
         have nne:∀{b:Nat}{t:TypeId},bR g2 b t->312≠t->¬(cj vn.ownBlock b\/Array.size g2<=b):=fun kt ht e=>by
          rcases e with e|e
          · exact(mk.GL _ e.symm).ne kt ht rfl
          · have:=kt.lt;omega
         have hzM:¬(cj vn.ownBlock g.size\/Array.size g2<=g.size):=by
          rintro(e|e)
          · exact hvz e.symm
          · have:=kz.lt;omega
         have hdM:=nne mk.dblk.ty (by decide);have hnx:az g2 h.size 312 256 vn next.length (next.flatMap bX):=mk.nx
         have hone:∀u∈bX (jA row),u.oneCell'=true:=fun u hu=>by simp[bX] at hu;obtain⟨_,_,rfl⟩:=hu;rfl
         have hg2:=mk.ext.size;refine ax ?_;refine Bt 11 (fun b=>cj vn.ownBlock b\/Array.size g2<=b) (fun i=>Nat.blt i 10) ?_;refine cS 0 ?_;refine cS 1 ?_;refine cS 2 ?_;refine cS 3 ?_;refine eO 4 rfl (fun h' e=>bJ rfl (e.cell hdM (mk.dblk.cell (i:=0) rfl))) ?_;refine eO 5 rfl (fun h' e=>jT rfl (e.rowAt hzM kz.row)) ?_;refine nG 6 rfl (aB.cv (cs:=bX (jA row)) underlying306 H.FE rfl (lI _) (by decide)) ?_;rintro _ _ ⟨rfl,rfl⟩;refine⟨fun _=>(Ext.push _ _ _),?_⟩;refine nG 7 rfl (aB.zJ underlying306 H.FE rfl rfl hnx rfl (by simp) hone (by simp only[maxLen];omega) (by omega) hg2) ?_;rintro v3 g3 ⟨ho3,hx3,hx3',hv3⟩;refine⟨fun _=>hx3'.mono (fun _ _ k=>.inl k),?_⟩;obtain⟨a3,c3,rfl,_⟩:=ho3.open;refine LM 8 ?_;refine cS 9 ?_;refine zS 10 rfl (qY rfl rfl ((mk.dblk.ext hx3 (fun e=>hdM (.inl e))))) ?_;rintro _ g4 ⟨rfl,k4,x4,z4⟩;refine⟨nofun,?_⟩;have mk4:=mk.Nl (r:=jA row) rfl ho3 hx3 k4 x4;obtain⟨g',c',cs,hv',_,_,hrowv,_,⟨w,rfl,hw⟩,_⟩:=mk4.ls.put hcur;cases hv';have hng4:bV g4 O nb v ss st:=hn.ak mk4.ext (fun _ _ k=>k);have hwr:bB ia g4 (fun _=>False) w cur:=nA hw (fun _ k=>k.elim);have hnlt:∀j∈cur,j<ss.length:=fun j hj=>List.mem_range.1 (hcsub.subset hj)
         have hcl:=hcsub.length_le;rw[List.length_range] at hcl
         have rne:∀{b:Nat}{t:TypeId},bR g4 b t->3≠t->¬(cj vr.ownBlock b\/Array.size g4<=b):=fun kt ht e=>by
          rcases e with e|e
          · exact(mk4.Fk _ e.symm).ne kt ht rfl
          · have:=kt.lt;omega
         have hdM4:=rne mk4.dblk.ty (by decide);have hlM4:=rne (mk4.I1 g' rfl) (by decide);have hru:az g4 h.size 3 1 vr rule.length (rule.map (Value.int .i64)):=mk4.ru;have hg4s:=mk4.ext.size;have hli:i<lists.length:=(List.getElem?_eq_some_iff.1 hcur).1;refine xM ?_;refine Bt 16 (fun b=>cj vr.ownBlock b\/Array.size g4<=b) (fun i=>Nat.blt i 15) ?_;refine cS 0 ?_;refine cS 1 ?_;refine cS 2 ?_;refine cS 3 ?_;refine eO 4 rfl (fun h' e=>bJ rfl (e.cell hdM4 (mk4.dblk.cell (i:=1) rfl))) ?_;refine cS 5 ?_;refine cS 6 ?_;refine cS 7 ?_;refine eO 8 rfl (fun h' e=>fN rfl rfl i rfl rfl) ?_;refine eO 9 rfl (fun h' e=>bJ rfl (e.cell hlM4 (hrowv 0 _ rfl))) ?_;refine nG 10 rfl (dz rfl (yK hng4 (by omega) hwr hnlt (by omega))) ?_;rintro _ g5 ⟨rfl,hg5⟩;refine⟨fun _=>by subst hg5;exact Ext.refl _ _,?_⟩;subst hg5;refine nG 11 rfl (xI [_]) ?_;rintro _ _ ⟨rfl,rfl⟩;refine⟨fun _=>by first|exact Ext.push _ _ _|assumption,?_⟩;refine nG 12 rfl (F9 rfl rfl hru rfl rfl) ?_;rintro v6 g6 ⟨ho6,hx6,hx6',hv6⟩;refine⟨fun _=>hx6'.mono (fun _ _ k=>.inl k),?_⟩;obtain⟨a6,c6,rfl,_⟩:=ho6.open;refine LM 13 ?_;refine cS 14 ?_;refine zS 15 rfl (qY rfl rfl ((mk4.dblk.ext hx6 (fun e=>hdM4 (.inl e))))) ?_;rintro _ g7 ⟨rfl,k7,x7,z7⟩;refine⟨nofun,?_⟩;have mk7:=mk4.Nk (x:=bn ss cur) rfl ho6 hx6 hv6 k7 x7;refine xM ?_;refine ax ?_;exact ih (i+1,_) ⟨C,_,_,lists,next++[jA row],rule++[bn ss cur],mk7,by show i+1<=lists.length;omega,by omega,⟨by simp[hnl],by simp[hrl]⟩,hsl,by rw[hcon,show 2002-(i+1)=n by omega]⟩
   · have hie:i=lists.length:=by omega
     have hnone:lists[i]? =none:=List.getElem?_eq_none (by omega);obtain⟨n,hnn⟩:∃n,2002-i=n+1:=⟨2001-i,by omega⟩
     rw[hnn,jL,hnone] at hcon;simp only at hcon;refine ax ?_;refine dS ?_;refine⟨_,rfl,?_,mk.ext⟩;rw[hcon];exact⟨h1.size,rfl,vn,vr,mk.dblk,fZ.read mk.nx (fun _ _ k=>k),b7.read (h1:=fun _=>rfl) mk.ru (fun _ _ k=>k)⟩
theorem Ch (r:Row):over (List.replicate 256 (Value.int .i64 0)) 0 (bX r)=bX r:=by
 unfold over;rw[List.take_zero,List.nil_append,lI,List.drop_of_length_le (by simp),List.append_nil]
theorem Eg {db:Nat}(k:oC h db d) (hok:d.Ok) :
 af Tryz.prog 194 #[.pointer (some ⟨db,0,none⟩)] h (bf fun r h'=>b7 Value.bool h' h.size 4 r (bz d)/\aq h h'):=by
 obtain⟨vn,vr,hk,⟨na,nn,nc,rfl,hnl,hnc,hnm,hgetn⟩,⟨ra,rn,rc,rfl,hrl,hrc,hrm,hgetr⟩⟩:=k;have hlen:=hok.len;have hsize:=hok.size;have hslN:bB FF h (fun _=>False) (.slice na nn nc) d.next:=⟨_,_,_,rfl,hnl,hnc,hnm,hgetn⟩
 have hslR:bB (.int .i64) h (fun _=>False) (.slice ra rn rc) d.rule:=⟨_,_,_,rfl,hrl,hrc,hrm,hgetr⟩
 subst hnl;generalize htgt:bz d=tgt;refine eV ?_;refine ax ?_;refine xp rfl (bJ rfl (hk.cell (i:=0) rfl)) ?_;refine ax ?_;refine xo rfl (aB.qk underlying142 H.Re H.Q6 rfl rfl rfl (by omega) (by decide)) ?_;rintro _ h1 ⟨rfl,k1,e1⟩;have k1:b7 Value.bool h1 h.size 4 (.slice (some ⟨h.size,0,none⟩) d.next.length d.next.length) (List.replicate d.next.length false):=by unfold b7;simpa using k1
 have hf0:fW (List.replicate d.next.length false)<=d.next.length:=by unfold fW;exact Nat.le_trans (List.length_filter_le _ _) (by simp)
 refine ax ?_;refine qS (σ:=Nat×Bool×List Bool) (fun q=>[(4,.bool q.2.1)]) (fun q h'=>aq h h'/\b7 Value.bool h' h.size 4 (.slice (some ⟨h.size,0,none⟩) d.next.length d.next.length) q.2.2/\q.2.2.length=d.next.length/\(q.2.1=true->fW q.2.2<q.1/\ql d q.1 q.2.2=tgt)/\(q.2.1=false->q.2.2=tgt)) (fun q=>q.1+(if q.2.1 then 1 else 0)) ((d.next.length+1,true,List.replicate d.next.length false)) ⟨e1,k1,by simp,fun _=>⟨Nat.lt_succ_of_le hf0,htgt⟩,fun k=>(by cases k)⟩ rfl ?_;rintro⟨n,ag,out⟩ g ⟨eg,ho,hol,hT,hF⟩ ih
 try dsimp only
 dsimp only at ho hol hT hF;refine ax ?_;refine E4 (fun hag=>?_) (fun hag=>?_)
 · subst hag;obtain⟨hfn,hcon⟩:=hT rfl;obtain⟨n,rfl⟩:∃m,n=m+1:=⟨n-1,by omega⟩
   rw[ql] at hcon;have hless:=gX d d.next.length 0 out false (by omega)
   generalize hps:bY d d.next.length 0 out false=ps at hcon hless
   refine ax ?_;refine xp rfl (bJ rfl ((hk.ak eg).cell (i:=0) rfl)) ?_;refine ax ?_;refine qS (σ:=Nat×Bool×List Bool) (fun q=>[(4,.bool q.2.1),(21,.int .i64 (q.1:Nat))]) (fun q h'=>aq h h'/\b7 Value.bool h' h.size 4 (.slice (some ⟨h.size,0,none⟩) d.next.length d.next.length) q.2.2/\q.2.2.length=d.next.length/\q.1<=d.next.length/\bY d (d.next.length-q.1) q.1 q.2.2 q.2.1=ps) (fun q=>d.next.length-q.1) ((0,false,out)) ⟨eg,ho,hol,Nat.zero_le _,hps⟩ rfl ?_;rintro⟨k,ag,out⟩ g2 ⟨eg2,ho,hol,hkl,hcon2⟩ ih2
   try dsimp only
   dsimp only at ho hol hkl hcon2;refine ax ?_;refine dM (fun hlt=>?_) (fun hlt=>?_)
   · have hkN:k<d.next.length:=by omega
     obtain⟨m,hm⟩:∃m,d.next.length-k=m+1:=⟨d.next.length-k-1,by omega⟩
     rw[hm,bY] at hcon2;obtain⟨r,hr⟩:∃r,d.next[k]? =some r:=⟨_,List.getElem?_eq_getElem hkN⟩
     obtain⟨oa',n',c',hv',_,_,_,hgetn⟩:=id (hslN.mv (Mv.ak eg2));cases hv';obtain⟨b1,o1,cs1,ha1,_,hrow1,rfl⟩:=hgetn k r hr;have hone:∀u∈bX r,u.oneCell'=true:=fun u hu=>by simp[bX] at hu;obtain⟨_,_,rfl⟩:=hu;rfl
     obtain⟨bx,hbx⟩:∃bx,out[k]? =some bx:=⟨_,List.getElem?_eq_getElem (by omega)⟩
     have hgd:out.getD k false=bx:=by rw[List.getD_eq_getElem?_getD,hbx];rfl
     rw[hgd] at hcon2
     iterate 4 refine dc ?_
     refine fE ?_;refine cG ?_;refine xp rfl (fN rfl rfl k rfl ha1) ?_;refine xp rfl (jT rfl hrow1) ?_;refine xo rfl (pI) ?_;rintro _ g3 ⟨rfl,k6,e3,z3⟩;have k6:aH g3 g2.size 312 (List.replicate 256 (Value.int .i64 0)):=k6;refine ax ?_;refine dD rfl (iV rfl rfl k6 hone) ?_;rintro _ g4 ⟨rfl,k7,x7,z7⟩;have k7:aH g4 g2.size 312 (bX r):=by rw[<-Ch r];exact k7
     have e4:aq g2 g4:=aq.only e3 x7 (Nat.le_refl _);have eg4:=eg2.trans e4;have ho4:=b7.ak ho e4;obtain⟨gg,c4,hv4,hgb,hglt,hcell,hfz,hset⟩:=ho4.at hbx;rw[hol] at hv4;cases hv4;refine iF ?_
     iterate 2 refine dc ?_
     refine fE ?_
     iterate 2 refine cG ?_
     refine xp rfl (fN rfl rfl k rfl rfl) ?_;refine xp rfl (bJ rfl hcell) ?_;refine ax ?_;refine E4 (fun hb=>?_) (fun hb=>?_)
     · subst hb;rw[if_pos rfl] at hcon2;refine ax ?_;exact ih2 (k+1,ag,out) ⟨eg4,ho4,hol,hkN,by show bY d (d.next.length-(k+1)) _ _ _=ps;rw[show d.next.length-(k+1)=m by omega];exact hcon2⟩
     · subst hb;rw[if_neg (by decide)] at hcon2;obtain⟨x,hx⟩:∃x,d.rule[k]? =some x:=⟨_,List.getElem?_eq_getElem (by omega)⟩
       have hru:d.ru k=x:=by unfold bP.ru;rw[List.getD_eq_getElem?_getD,hx];rfl
       have hrow:d.row k=r.v:=by unfold bP.row;rw[hr]
       obtain⟨oa',n',c',hv',_,_,_,hgetr⟩:=id (hslR.mv (Mv.ak eg4));cases hv';obtain⟨b2,o2,cs2,ha2,_,hrow2,rfl⟩:=hgetr k x hx;refine ax ?_;refine xp rfl (bJ rfl ((hk.ak eg4).cell (i:=1) rfl)) ?_;refine cG ?_;refine xp rfl (fN rfl rfl k rfl ha2) ?_;refine xp rfl (bJ rfl (hrow2 0 _ rfl)) ?_;refine cG ?_;refine xp rfl (fN rfl rfl k rfl rfl) ?_;refine dD rfl (ct H.Fb rfl rfl rfl hcell hfz) ?_;rintro _ g5 ⟨rfl,hg5⟩;have hset:=hset (decide (0<=x));rw[<-hg5] at hset;have x5:Ext (fun b=>b=h.size) g4 g5:=by rw[hg5];exact Ext.eo _ _ _ rfl
       have e5:aq h g5:=aq.only eg4 x5 (Nat.le_refl _);have hz2:=eg2.size;have hlt2:h.size<g2.size:=(az.lt ho rfl).2;have k8:=k7.ext x5 (by show ¬_=_;omega);refine ax ?_;refine xp rfl (jT rfl k8.row) ?_;refine ax ?_;refine qS (σ:=Nat) (fun j=>[(42,.int .i64 (j:Nat))]) (fun j h'=>aq h h'/\b7 Value.bool h' h.size 4 (.slice (some ⟨h.size,0,none⟩) d.next.length d.next.length) (out.set k (decide (0<=x) ||(r.v.take j).any (fT out)))/\j<=256) (fun j=>256-j) (0) ⟨e5,by simpa using hset,Nat.zero_le _⟩ rfl ?_;rintro j g6 ⟨eg6,ho6,hj⟩ ih3;refine ax ?_;refine dM (fun hlt3=>?_) (fun hlt3=>?_)
       · have hj2:j<256:=by omega
         obtain⟨t,ht⟩:∃t,r.v[j]? =some t:=⟨_,List.getElem?_eq_getElem (by rw[r.len];exact hj2)⟩
         have htr:(r.v.take (j+1)).any (fT out)=((r.v.take j).any (fT out) ||fT out t):=by rw[List.take_add_one,ht,List.any_append];simp
         have htm:=hok.to r (List.mem_of_getElem? hr) t (List.mem_of_getElem? ht);generalize hc:(decide (0<=x) ||(r.v.take j).any (fT out))=cb at ho6;have hcell6:(out.set k cb)[k]? =some cb:=by rw[List.getElem?_set_self (by rw[hol];exact hkN)]
         obtain⟨gg,c6,hv6,_,_,hcc6,hfz6,hset6⟩:=ho6.at hcell6;rw[List.length_set,hol] at hv6;cases hv6
         have fin:∀y g7,y=(decide (0<=x) ||(r.v.take (j+1)).any (fT out))->g7=eo g6 ⟨h.size,0+k*1,none⟩ (.bool y)->aq h g7/\b7 Value.bool g7 h.size 4 (.slice (some ⟨h.size,0,none⟩) d.next.length d.next.length) (out.set k (decide (0<=x) ||(r.v.take (j+1)).any (fT out)))/\j+1<=256:=by
          rintro y g7 rfl rfl;have k9:=hset6 (decide (0<=x) ||(r.v.take (j+1)).any (fT out));rw[List.set_set] at k9;exact⟨aq.only eg6 (Ext.eo (M:=fun b=>b=h.size) g6 _ _ rfl) (Nat.le_refl _),k9,hj2⟩
         refine ax ?_;refine xp rfl (ai.vU underlying312 H.bL H.cC rfl rfl j rfl hj2 (show (bX r).toArray[j]? =some (Value.int .i64 t) by simp[bX,ht])) ?_;refine cG ?_;refine iF ?_;refine fE ?_
         iterate 4 refine cG ?_
         refine xp rfl (fN rfl rfl k rfl rfl) ?_;refine xp rfl (bJ rfl hcc6) ?_;refine ax ?_;refine qV 51 (fun hg=>?_) (fun hg=>?_)
         · iterate 8 refine Sm ?_
           refine cG ?_;refine xp rfl (fN rfl rfl k rfl rfl) ?_;refine dD rfl (ct H.Fb rfl rfl rfl hcc6 hfz6) ?_;rintro _ g7 ⟨rfl,hg7⟩;refine ax ?_;exact ih3 (j+1) (fin true g7 (by rw[htr,<-Bool.or_assoc,hc,hg];rfl) hg7)
         · refine ax ?_;refine qV 54 (fun hg2=>?_) (fun hg2=>?_)
           · have hg2':=of_decide_eq_true hg2;obtain⟨t2,rfl⟩:=Int.eq_ofNat_of_zero_le hg2';obtain⟨bt,hbt⟩:∃bt,(out.set k cb)[t2]? =some bt:=⟨_,List.getElem?_eq_getElem (by rw[List.length_set,hol];omega)⟩
             obtain⟨gg,c6,hv6,_,_,hct,_,_⟩:=ho6.at hbt;rw[List.length_set,hol] at hv6;cases hv6
             have hlt2:fT out (t2:Nat)=bt:=by
              unfold fT;rw[decide_eq_true (show (0:Int)<=(t2:Nat) by omega),Bool.true_and,Int.toNat_natCast,List.getD_eq_getElem?_getD]
              by_cases e:k=t2
              · subst e;rw[hcell6] at hbt;cases hbt;rw[hbx,hg];rfl
              · rw[List.getElem?_set_ne e] at hbt;rw[hbt];rfl
             iterate 2 refine cG ?_
             refine xp rfl (fN rfl rfl t2 rfl rfl) ?_;refine xp rfl (bJ rfl hct) ?_
             iterate 2 refine cG ?_
             refine xp rfl (fN rfl rfl k rfl rfl) ?_;refine dD rfl (ct H.Fb rfl rfl rfl hcc6 hfz6) ?_;rintro _ g7 ⟨rfl,hg7⟩;refine ax ?_;exact ih3 (j+1) (fin bt g7 (by rw[htr,<-Bool.or_assoc,hc,hg,hlt2,Bool.false_or]) hg7)
           · have hg2':=of_decide_eq_false hg2
             iterate 4 refine Sm ?_
             iterate 2 refine cG ?_
             refine xp rfl (fN rfl rfl k rfl rfl) ?_;refine dD rfl (ct H.Fb rfl rfl rfl hcc6 hfz6) ?_;rintro _ g7 ⟨rfl,hg7⟩;refine ax ?_;exact ih3 (j+1) (fin false g7 (by rw[htr,<-Bool.or_assoc,hc,hg];unfold fT;rw[decide_eq_false hg2'];rfl) hg7)
       · have hje:j=256:=by omega
         have hla:(decide (0<=x) ||(r.v.take j).any (fT out))=dh d out k:=by
          unfold dh;rw[hru,hrow,hje,List.take_of_length_le (by rw[r.len];exact Nat.le_refl _)]
         rw[hla] at ho6;have hcell6:(out.set k (dh d out k))[k]? =some (dh d out k):=by rw[List.getElem?_set_self (by rw[hol];exact hkN)]
         obtain⟨gg,c6,hv6,_,_,hcc6,hfz6,_⟩:=ho6.at hcell6;rw[List.length_set,hol] at hv6;cases hv6;refine dc ?_;refine rV [(4,.bool (ag ||dh d out k))] rfl ?_ ?_
         · refine ax ?_;refine qV 64 (fun hg=>?_) (fun hg=>?_)
           · refine ax ?_;exact cY rfl ⟨aC rfl (by rw[hg];rfl),sb rfl⟩
           · iterate 2 refine cG ?_
             refine xp rfl (fN rfl rfl k rfl rfl) ?_;refine xp rfl (bJ rfl hcc6) ?_;refine ax ?_;exact cY rfl ⟨aC rfl (by rw[hg];rfl),sb rfl⟩
         · refine ax ?_;exact ih2 (k+1,ag ||dh d out k,out.set k (dh d out k)) ⟨eg6,ho6,by show (out.set k _).length=_;rw[List.length_set];exact hol,hkN,by show bY d (d.next.length-(k+1)) _ _ _=ps;rw[show d.next.length-(k+1)=m by omega];exact hcon2⟩
   · have hke:d.next.length-k=0:=by omega
     rw[hke,bY] at hcon2;subst hcon2;simp only at hcon hless;refine ax ?_
     exact ih (n,ag,out) ⟨eg2,ho,hol,fun ht=>by
      subst ht;rw[if_pos rfl] at hcon
      rcases hless.2 rfl with k|k
      · cases k
      · exact⟨by show fW out<n;omega,hcon⟩,fun hf=>by
      subst hf;rw[if_neg (by decide)] at hcon;exact hcon⟩ (by show n+(if ag=true then 1 else 0)<n+1+(if true=true then 1 else 0);rw[if_pos rfl];split<;>omega)
 · subst hag;have hcon:=hF rfl;refine ax ?_;refine dS ?_;exact⟨_,rfl,by rw[<-hcon];unfold b7 at ho ⊢;rw[hol] at ho ⊢;exact ho,eg⟩
def gI:Nat->List (List Int)->List (ByteArray×Int)
 |_,[]=>[]
 |i,x::r=>(bs (gq x),(i:Int))::gI (i+1) r
theorem uS:∀(ls:List (List Int)) (i:Nat) (l:List Int),gI i (ls++[l])=gI i ls++[(bs (gq l),((i+ls.length:Nat):Int))]
 | [],i,l=>by simp[gI]
 |x::r,i,l=>by
  simp only[List.cons_append,gI];rw[uS r (i+1) l,List.length_cons,show i+1+r.length=i+(r.length+1) by omega]
theorem ry:∀(ls:List (List Int)) (i:Nat),(gI i ls).length=ls.length
 | [],_=>rfl
 |x::r,i=>by rw[gI,List.length_cons,List.length_cons,ry r (i+1)]
theorem kN:∀(ls:List (List Int)) (i:Nat) (l:List Int),kO (bs (gq l)) (gI i ls)=(jB i ls l).map fun j=>(j:Int)
 | [],i,l=>rfl
 |x::r,i,l=>by
  rw[gI,kO,jB]
  by_cases h:l=x
  · subst h;rw[if_pos rfl,if_pos rfl];rfl
  · have hk:¬bs (gq l)=bs (gq x):=fun e=>h (key_inj (jj e))
    rw[if_neg hk,if_neg h];exact kN r (i+1) l
theorem wM {t:Int}(h:t<0\/live.getD t.toNat false=false):b9 live cls t= -2:=if_pos h
theorem EL {t:Int}(h:¬(t<0\/live.getD t.toNat false=false)):b9 live cls t=cls.getD t.toNat 0:=if_neg h
theorem sJ (hcb:∀x∈cls,-1<=x/\x<=1000000) (k:Nat) : -1<=cls.getD k 0/\cls.getD k 0<=1000000:=by
 rw[List.getD_eq_getElem?_getD];cases hk:cls[k]? with
 |none=>simp
 |some x=>exact hcb x (List.mem_of_getElem? hk)
theorem Ao (hcb:∀x∈cls,-1<=x/\x<=1000000) (k:Nat):∀x∈eY d live cls k,-9223372036854775808<=x/\x<=9223372036854775807:=by
 intro x hx
 rcases List.mem_cons.1 hx with e|e
 · have:=sJ hcb k;omega
 · obtain⟨t,_,rfl⟩:=List.mem_map.1 e;unfold b9;split
   · omega
   · have:=sJ hcb t.toNat;omega
theorem wk:∀(ls:List (List Int)) (i:Nat) (l:List Int),jB i ls l=none->jB i (ls++[l]) l=some (i+ls.length)
 | [],i,l,_=>by simp[jB]
 |x::r,i,l,h=>by
  rw[jB] at h;split at h
  · cases h
  · rename_i hn;rw[List.cons_append,jB,if_neg hn,wk r (i+1) l h,List.length_cons]
    congr 1;omega
theorem yC {db:Nat}{lv:Value}(htens:rQ h) (k:oC h db d) (hok:d.Ok) (hlv:bB .bool h (fun _=>False) lv live) (hll:live.length=d.next.length) :
 af Tryz.prog 195 #[.pointer (some ⟨db,0,none⟩),lv] h (bf fun r h'=>b7 (Value.int .i64) h' h.size 3 r (dN d live)/\aq h h'):=by
 obtain⟨vn,vr,hk,⟨na,nn,nc,rfl,hnl,hnc,hnm,hgetn⟩,⟨ra,rn,rc,rfl,hrl,hrc,hrm,hgetr⟩⟩:=k;obtain⟨va,vm,vc,rfl,hvl,hvc,hvm,hgetv⟩:=hlv;have hlen:=hok.len;have hsize:=hok.size;have hslN:bB FF h (fun _=>False) (.slice na nn nc) d.next:=⟨_,_,_,rfl,hnl,hnc,hnm,hgetn⟩
 have hslR:bB (.int .i64) h (fun _=>False) (.slice ra rn rc) d.rule:=⟨_,_,_,rfl,hrl,hrc,hrm,hgetr⟩
 have hslV:bB .bool h (fun _=>False) (.slice va vm vc) live:=⟨_,_,_,rfl,hvl,hvc,hvm,hgetv⟩
 subst hnl;generalize htgt:dN d live=tgt;refine eV ?_;refine ax ?_;refine xp rfl (bJ rfl (hk.cell (i:=0) rfl)) ?_;refine ax ?_;refine xo rfl (aB.qk underlying101 H.NR H.Sn rfl rfl rfl (by omega) (by decide)) ?_;rintro _ h1 ⟨rfl,k1,e1⟩;have k1:b7 (Value.int .i64) h1 h.size 3 (.slice (some ⟨h.size,0,none⟩) d.next.length d.next.length) (List.replicate d.next.length 0):=by unfold b7;simpa using k1
 refine ax ?_;refine qS (σ:=Nat) (fun i=>[(26,.int .i64 (i:Nat))]) (fun i h'=>aq h h'/\b7 (Value.int .i64) h' h.size 3 (.slice (some ⟨h.size,0,none⟩) d.next.length d.next.length) (d.rule.take i++List.replicate (d.next.length-i) 0)/\i<=d.next.length) (fun i=>d.next.length-i) (0) ⟨e1,by simpa using k1,Nat.zero_le _⟩ rfl ?_;rintro i g ⟨eg,ho,hi⟩ ih;refine ax ?_;refine dM (fun hlt=>?_) (fun hlt=>?_)
 · have hiN:i<d.next.length:=by omega
   obtain⟨x,hx⟩:∃x,d.rule[i]? =some x:=⟨_,List.getElem?_eq_getElem (by omega)⟩
   have hxe:d.rule[i]'(by omega)=x:=(List.getElem?_eq_some_iff.1 hx).2;obtain⟨oa',n',c',hv',_,_,_,hgetr⟩:=id (hslR.mv (Mv.ak eg));cases hv';obtain⟨b2,o2,cs2,ha2,_,hrow2,rfl⟩:=hgetr i x hx;obtain⟨gg,c4,hv4,hgb,hglt,hcell,hfz,hset⟩:=ho.at (Jv (z:=(0:Int)) hlen hiN);rw[Ju hlen hi] at hv4;cases hv4;refine ax ?_;refine xp rfl (bJ rfl ((hk.ak eg).cell (i:=1) rfl)) ?_;refine cG ?_;refine xp rfl (fN rfl rfl i rfl ha2) ?_;refine xp rfl (bJ rfl (hrow2 0 _ rfl)) ?_;refine xp rfl (fN rfl rfl i rfl rfl) ?_;refine dD rfl (ct H.bL rfl rfl rfl hcell hfz) ?_;rintro _ g2 ⟨rfl,hg2⟩;have hset:=hset x;rw[<-hg2,<-hxe,Jt hlen hiN] at hset;have x2:Ext (fun b=>b=h.size) g g2:=by rw[hg2];exact Ext.eo _ _ _ rfl
   have e2:aq h g2:=aq.only eg x2 (Nat.le_refl _);refine ax ?_;exact ih (i+1) ⟨e2,hset,hiN⟩
 · obtain rfl:i=d.next.length:=by omega
   rw[Nat.sub_self,List.replicate_zero,List.append_nil,List.take_of_length_le (by omega)] at ho;refine ax ?_;refine qS (σ:=Nat×Nat×Value×List Int) (fun q=>[(5,q.2.2.1),(7,.int .i64 (q.2.1:Nat))]) (fun q h'=>aq h h'/\b7 (Value.int .i64) h' h.size 3 q.2.2.1 q.2.2.2/\q.2.2.2.length=d.next.length/\(∀x∈q.2.2.2,-1<=x/\x<=1000000)/\(q.2.1<=d.next.length/\jr q.2.1 q.2.2.2/\d.next.length+1<=q.1+q.2.1)/\jP d live q.1 q.2.1 q.2.2.2=tgt) (fun q=>q.1) ((d.next.length+1,0,.slice (some ⟨h.size,0,none⟩) d.next.length d.next.length,d.rule)) ⟨eg,ho,hlen,hok.ru,⟨Nat.zero_le _,fun i hi=>absurd hi (Nat.not_lt_zero _),by simp⟩,htgt⟩ rfl ?_;rintro⟨n,many,vcl,cls⟩ g ⟨eg,ho,hcl,hcb,⟨hmN,hcov,hfuel⟩,hcon⟩ ih
   try dsimp only
   dsimp only at ho hcl hcb hmN hcov hfuel hcon;obtain⟨n,rfl⟩:∃m,n=m+1:=⟨n-1,by omega⟩
   rw[jP] at hcon;have hmore:=nh (d:=d) (live:=live) hcov hcl;have hend:=eG d live cls;generalize hps:bg d live cls d.next.length 0 [] []=ps at hcon hmore hend
   obtain⟨la,lc,rfl,_⟩:=(show az g h.size 3 1 vcl cls.length (cls.map (Value.int .i64)) from ho).open;rw[hcl] at ho;have hown:∀b,(Value.slice la d.next.length lc).ownBlock=some b->b<g.size:=fun b hb=>(az.lt ho hb).2
   rw[hcl];refine ax ?_;refine xo rfl (nB (ek:=Value.string) (ev:=Value.int .i64)) ?_;rintro _ g1 ⟨rfl,hm1,e1',z1⟩;refine ax ?_;refine xo rfl (aB.qk underlying101 H.NR H.Sn rfl rfl rfl (by omega) (by decide)) ?_;rintro _ g2 ⟨rfl,k2,e2⟩;have k2:b7 (Value.int .i64) g2 g1.size 3 (.slice (some ⟨g1.size,0,none⟩) d.next.length d.next.length) (List.replicate d.next.length 0):=by unfold b7;simpa using k2
   have hm2:=hm1.ext e2 (fun k=>k);have e12:=e1'.trans e2;refine ax ?_;refine xp rfl (bJ rfl ((hk.ak (eg.trans e12)).cell (i:=0) rfl)) ?_;refine ax ?_;refine qS (σ:=Nat×List (List Int)×List Int) (fun q=>[(49,.int .i64 (q.1:Nat))]) (fun q h'=>aq g h'/\fy Value.string (Value.int .i64) h' g.size (gI 0 q.2.1)/\b7 (Value.int .i64) h' g1.size 3 (.slice (some ⟨g1.size,0,none⟩) d.next.length d.next.length) (q.2.2++List.replicate (d.next.length-q.1) 0)/\(q.1<=d.next.length/\q.2.2.length=q.1/\q.2.1.length<=q.1)/\bg d live cls (d.next.length-q.1) q.1 q.2.1 q.2.2=ps) (fun q=>d.next.length-q.1) ((0,[],[])) ⟨e12,hm2,k2,⟨Nat.zero_le _,rfl,Nat.le_refl _⟩,hps⟩ rfl ?_;rintro⟨k,seen,after⟩ g3 ⟨e3,hmp,haf,⟨hkN,hal,hsl⟩,hcon2⟩ ih2
   try dsimp only
   dsimp only at hmp haf hkN hal hsl hcon2;have eg3:=eg.trans e3;have ho3:=b7.ak ho e3;refine ax ?_;refine dM (fun hlt=>?_) (fun hlt=>?_)
   · have hkN:k<d.next.length:=by omega
     obtain⟨m,hm⟩:∃m,d.next.length-k=m+1:=⟨d.next.length-k-1,by omega⟩
     rw[hm,bg] at hcon2;obtain⟨r,hr⟩:∃r,d.next[k]? =some r:=⟨_,List.getElem?_eq_getElem hkN⟩
     obtain⟨oa',n',c',hv',_,_,_,hgetn⟩:=id (hslN.mv (Mv.ak eg3));cases hv';obtain⟨b1,o1,cs1,ha1,_,hrow1,rfl⟩:=hgetn k r hr;have hone:∀u∈bX r,u.oneCell'=true:=fun u hu=>by simp[bX] at hu;obtain⟨_,_,rfl⟩:=hu;rfl
     have hrow:d.row k=r.v:=by unfold bP.row;rw[hr]
     iterate 4 refine dc ?_
     refine fE ?_;refine cG ?_;refine xp rfl (fN rfl rfl k rfl ha1) ?_;refine xp rfl (jT rfl hrow1) ?_;refine xo rfl (pI) ?_;rintro _ g4 ⟨rfl,k4,e4,z4⟩;have k4:aH g4 g3.size 312 (List.replicate 256 (Value.int .i64 0)):=k4;refine ax ?_;refine dD rfl (iV rfl rfl k4 hone) ?_;rintro _ g5 ⟨rfl,k5,x5,z5⟩;have k5:aH g5 g3.size 312 (bX r):=by rw[<-Ch r];exact k5
     have e5:aq g3 g5:=aq.only e4 x5 (Nat.le_refl _);have ho5:=b7.ak ho3 e5;obtain⟨c,hc⟩:∃c,cls[k]? =some c:=⟨_,List.getElem?_eq_getElem (by omega)⟩
     have hgd:cls.getD k 0=c:=by rw[List.getD_eq_getElem?_getD,hc];rfl
     obtain⟨gg,c4,hv4,hgb,hglt,hcell,hfz,hset⟩:=ho5.at hc;rw[hcl] at hv4;have hla:la=some ⟨gg,0,none⟩:=by cases hv4;rfl
     refine iF ?_;refine dc ?_;refine fE ?_
     iterate 2 refine cG ?_
     refine xp rfl (fN rfl rfl k rfl hla) ?_;refine xp rfl (bJ rfl hcell) ?_;have e56:aq g5 (g5.push (.cells #[.int .i64 c] 3)):=Ext.push _ _ _;have hl6:b7 (Value.int .i64) (g5.push (.cells #[.int .i64 c] 3)) g5.size 3 (.slice (some ⟨g5.size,0,none⟩) 1 1) [c]:=xj (Value.int .i64) g5 3 [c] 1 rfl (by decide) g5.size (Nat.le_refl _) rfl;refine xo rfl (xI [_]) ?_;rintro _ _ ⟨rfl,rfl⟩;refine ax ?_;generalize g5.push (.cells #[.int .i64 c] 3)=g6 at *;have k6:=k5.ak e56;have e36:aq g3 g6:=e5.trans e56;have ho6:=b7.ak ho5 e56;have hz5:=e5.size;refine xp rfl (jT rfl k6.row) ?_;refine ax ?_;refine qS (σ:=Nat×Value) (fun q=>[(12,q.2),(60,.int .i64 (q.1:Nat))]) (fun q h'=>aq g3 h'/\b7 (Value.int .i64) h' g5.size 3 q.2 (c::(r.v.take q.1).map (b9 live cls))/\q.1<=256/\g5.size<=h'.size) (fun q=>256-q.1) ((0,.slice (some ⟨g5.size,0,none⟩) 1 1)) ⟨e36,hl6,Nat.zero_le _,e56.size⟩ rfl ?_;rintro⟨j,vl⟩ g7 ⟨e7,hl7,hj,hz7⟩ ih3
     try dsimp only
     dsimp only at hl7 hj;have eg7:=eg3.trans e7;have ho7:=b7.ak ho3 e7;have hlen7:(c::(r.v.take j).map (b9 live cls)).length=j+1:=by simp[r.len];omega
     refine ax ?_;refine dM (fun hlt3=>?_) (fun hlt3=>?_)
     · have hj2:j<256:=by omega
       obtain⟨t,ht⟩:∃t,r.v[j]? =some t:=⟨_,List.getElem?_eq_getElem (by rw[r.len];exact hj2)⟩
       have htm:=hok.to r (List.mem_of_getElem? hr) t (List.mem_of_getElem? ht);have htr:c::(r.v.take (j+1)).map (b9 live cls)=(c::(r.v.take j).map (b9 live cls))++[b9 live cls t]:=by rw[List.take_add_one,ht];simp
       have hlo:az g7 g5.size 3 1 vl (c::(r.v.take j).map (b9 live cls)).length ((c::(r.v.take j).map (b9 live cls)).map (Value.int .i64)):=hl7;have hlo2:=hlo;rw[hlen7] at hlo2;obtain⟨wa,wc,rfl,_⟩:=hlo2.open;have hl8:b7 (Value.int .i64) g7 g5.size 3 (.slice wa (j+1) wc) (c::(r.v.take j).map (b9 live cls)):=hl7
       have fin:∀v8 g8 x,az g8 g5.size 3 1 v8 (j+1+1) ((c::(r.v.take j).map (b9 live cls)).map (Value.int .i64)++[.int .i64 x])->Ext (cj (Value.slice wa (j+1) wc).ownBlock) g7 g8->x=b9 live cls t->aq g3 g8/\b7 (Value.int .i64) g8 g5.size 3 v8 (c::(r.v.take (j+1)).map (b9 live cls))/\j+1<=256/\g5.size<=g8.size:=by
        rintro v8 g8 x ho hx rfl;refine⟨b7.grown e7 hl8 hz5 hx,?_,hj2,Nat.le_trans hz7 hx.size⟩;rw[htr];exact b7.of ho hlen7.symm rfl rfl
       refine ax ?_;refine xp rfl (ai.vU underlying312 H.bL H.cC rfl rfl j rfl hj2 (show (bX r).toArray[j]? =some (Value.int .i64 t) by simp[bX,ht])) ?_;refine cG ?_;refine iF ?_;refine dc ?_;refine fE ?_
       iterate 3 refine cG ?_
       refine qV 65 (fun hg=>?_) (fun hg=>?_)
       · have hg':=of_decide_eq_true hg;refine ax ?_;refine tf rfl (by simp) ?_;refine ax ?_;refine xo rfl (xI [_]) ?_;rintro _ _ ⟨rfl,rfl⟩;refine xo rfl (F9 rfl rfl hlo2 rfl rfl) ?_;rintro v8 g8 ⟨ho8,hx8,hx8',hv8⟩;have ff:=fin v8 g8 (-2) ho8 hx8 (wM (.inl hg')).symm;obtain⟨v8a,v8c,rfl,_⟩:=ho8.open;refine ax ?_;exact ih3 (j+1,_) ff
       · have hg':=of_decide_eq_false hg;obtain⟨t2,rfl⟩:=Int.eq_ofNat_of_zero_le (show 0<=t by omega);obtain⟨bt,hbt⟩:∃bt,live[t2]? =some bt:=⟨_,List.getElem?_eq_getElem (by omega)⟩
         have hlt2:live.getD t2 false=bt:=by rw[List.getD_eq_getElem?_getD,hbt];rfl
         obtain⟨oa',n',c',hv',_,_,_,hgetv⟩:=id (hslV.mv (Mv.ak eg7));cases hv';obtain⟨b3,o3,cs3,ha3,_,hrow3,rfl⟩:=hgetv t2 bt hbt
         iterate 2 refine cG ?_
         refine xp rfl (fN rfl rfl t2 rfl ha3) ?_;refine xp rfl (bJ rfl (hrow3 0 _ rfl)) ?_;refine ax ?_;refine E4 (fun hb=>?_) (fun hb=>?_)
         · have hb':bt=false:=by simpa using hb
           refine ax ?_;refine xo rfl (xI [_]) ?_;rintro _ _ ⟨rfl,rfl⟩;refine xo rfl (F9 rfl rfl hlo2 rfl rfl) ?_;rintro v8 g8 ⟨ho8,hx8,hx8',hv8⟩;have ff:=fin v8 g8 (-2) ho8 hx8 (wM (.inr (by show live.getD t2 false=false;rw[hlt2,hb']))).symm;obtain⟨v8a,v8c,rfl,_⟩:=ho8.open;refine ax ?_;exact ih3 (j+1,_) ff
         · have hb':bt=true:=by simpa using hb
           obtain⟨c2,hc2⟩:∃c2,cls[t2]? =some c2:=⟨_,List.getElem?_eq_getElem (by omega)⟩
           have hgd2:cls.getD t2 0=c2:=by rw[List.getD_eq_getElem?_getD,hc2];rfl
           obtain⟨gg2,c42,hv42,hgb2,hglt2,hcell2,hfz2,hset2⟩:=ho7.at hc2;rw[hcl] at hv42;have hla2:la=some ⟨gg2,0,none⟩:=by cases hv42;rfl
           refine fE ?_
           iterate 3 refine cG ?_
           refine xp rfl (fN rfl rfl t2 rfl hla2) ?_;refine xp rfl (bJ rfl hcell2) ?_;refine xo rfl (xI [_]) ?_;rintro _ _ ⟨rfl,rfl⟩;refine xo rfl (F9 rfl rfl hlo2 rfl rfl) ?_;rintro v8 g8 ⟨ho8,hx8,hx8',hv8⟩
           have ff:=fin v8 g8 c2 ho8 hx8 (by
            rw[EL (by
             rintro(e|e)
             · exact hg' e
             · rw[Int.toNat_natCast,hlt2,hb'] at e;cases e),Int.toNat_natCast,hgd2])
           obtain⟨v8a,v8c,rfl,_⟩:=ho8.open;refine ax ?_;exact ih3 (j+1,_) ff
     · obtain rfl:j=256:=by omega
       have hkey:c::(r.v.take 256).map (b9 live cls)=eY d live cls k:=by unfold eY;rw[hgd,hrow,List.take_of_length_le (by rw[r.len];exact Nat.le_refl _)]
       have hkb:=Ao (d:=d) (live:=live) hcb k;have hkl:(eY d live cls k).length<=1000000:=by rw[<-hkey,hlen7];decide
       rw[hkey] at hl7;generalize hkk:eY d live cls k=key at *;refine ax ?_;refine xo rfl (dz rfl (rG (O:=fun _=>False) (htens.ak eg7) (b7.read (h1:=fun _=>rfl) hl7 (fun _ _ k=>k)) hkl hkb)) ?_;rintro _ g8 ⟨rfl,e8⟩;have e38:aq g3 g8:=e7.trans e8;have eg8:aq g g8:=e3.trans e38;have mp8:=hmp.ext e38 (fun k=>k);have haf8:=b7.ak haf e38
       have hk0:(after++List.replicate (d.next.length-k) (0:Int))[k]? =some 0:=by
        rw[List.getElem?_append_right (by omega),List.getElem?_replicate,if_pos (by omega)]
       have hl0:(after++List.replicate (d.next.length-k) (0:Int)).length=d.next.length:=by simp;omega
       have hsetA:∀y:Int,(after++List.replicate (d.next.length-k) (0:Int)).set k y=(after++[y])++List.replicate (d.next.length-(k+1)) 0:=fun y=>by
        rw[List.set_append_right _ _ (by omega),hal,Nat.sub_self,show d.next.length-k=(d.next.length-(k+1))+1 by omega,List.replicate_succ,List.set_cons_zero];simp
       have hz12:=e1'.size
       have fin2:∀(gA gB:aj) (seen':List (List Int)) (y:Int),aq g gA->fy Value.string (Value.int .i64) gA g.size (gI 0 seen')->b7 (Value.int .i64) gB g1.size 3 (.slice (some ⟨g1.size,0,none⟩) d.next.length d.next.length) ((after++List.replicate (d.next.length-k) (0:Int)).set k y)->gB=eo gA ⟨g1.size,0+k*1,none⟩ (.int .i64 y)->bg d live cls m (k+1) seen' (after++[y])=ps->seen'.length<=k+1->aq g gB/\fy Value.string (Value.int .i64) gB g.size (gI 0 seen')/\b7 (Value.int .i64) gB g1.size 3 (.slice (some ⟨g1.size,0,none⟩) d.next.length d.next.length) ((after++[y])++List.replicate (d.next.length-(k+1)) 0)/\(k+1<=d.next.length/\(after++[y]).length=k+1/\seen'.length<=k+1)/\bg d live cls (d.next.length-(k+1)) (k+1) seen' (after++[y])=ps:=by
        rintro gA gB seen' y eA mA hB hgB hcp hsl';have xB:Ext (fun b=>b=g1.size) gA gB:=by rw[hgB];exact Ext.eo _ _ _ rfl
        refine⟨aq.only eA xB hz12,mA.ext xB (by show ¬_=_;omega),?_,⟨hkN,by simp[hal],hsl'⟩,?_⟩
        · rw[<-hsetA];exact hB
        · rw[show d.next.length-(k+1)=m by omega];exact hcp
       refine ax ?_;refine xp rfl (ai.vF (z:=.int .i64 0) jn underlying310 underlying9 (by kernel_rfl) rfl rfl rfl mp8) ?_;rw[kN]
       rcases hfind:jB 0 seen key with _|i0
       · rw[hfind] at hcon2;simp only at hcon2;have hnone:kO (bs (gq key)) (gI 0 seen)=none:=by rw[kN,hfind];rfl
         refine ax ?_;refine tf rfl (by simp) ?_;refine ax ?_;refine xp rfl (ai.Ei underlying310 rfl (mp8)) ?_;refine dD rfl (aB.mapUpdate (v:=((gI 0 seen).length:Int)) jn underlying310 underlying9 rfl rfl rfl rfl rfl mp8 hnone) ?_;rintro _ g9 ⟨rfl,mp9,x9,z9⟩;have mp9:fy Value.string (Value.int .i64) g9 g.size (gI 0 (seen++[key])):=by rw[uS,Nat.zero_add,<-ry seen 0];exact mp9
         have hsz8:=eg8.size;have e9:aq g g9:=aq.only eg8 x9 (Nat.le_refl _);have haf9:b7 (Value.int .i64) g9 g1.size 3 (.slice (some ⟨g1.size,0,none⟩) d.next.length d.next.length) (after++List.replicate (d.next.length-k) (0:Int)):=az.ext x9 haf8 (fun b hb (e:b=g.size)=>by have:=(az.lt haf8 hb).1;omega);obtain⟨gg3,c3,hv3,_,_,hcell3,hfz3,hset3⟩:=haf9.at hk0;rw[hl0] at hv3;cases hv3;have hasc:kO (bs (gq key)) (gI 0 (seen++[key]))=some ((seen.length:Nat):Int):=by rw[kN,wk seen 0 key hfind,Nat.zero_add];rfl
         refine ax ?_;refine xp rfl (ai.lookup (z:=.int .i64 0) jn underlying310 underlying9 (by kernel_rfl) rfl rfl rfl mp9) ?_;rw[hasc,Option.map_some,Option.getD_some];refine xp rfl (fN rfl rfl k rfl rfl) ?_;refine dD rfl (ct H.bL rfl rfl rfl hcell3 hfz3) ?_;rintro _ g10 ⟨rfl,hg10⟩;have hg10:g10=eo g9 ⟨g1.size,0+k*1,none⟩ (.int .i64 ((seen.length:Nat):Int)):=hg10;have hB:=hset3 ((seen.length:Nat):Int);rw[<-hg10] at hB;refine ax ?_;exact ih2 (k+1,seen++[key],after++[((seen.length:Nat):Int)]) (fin2 g9 g10 _ _ e9 mp9 hB hg10 hcon2 (by simp;omega))
       · rw[hfind] at hcon2;simp only at hcon2;refine ax ?_;refine qT rfl (by simp) ?_;obtain⟨gg3,c3,hv3,_,_,hcell3,hfz3,hset3⟩:=haf8.at hk0;rw[hl0] at hv3;cases hv3;have hasc:kO (bs (gq key)) (gI 0 seen)=some ((i0:Nat):Int):=by rw[kN,hfind];rfl
         refine ax ?_;refine xp rfl (ai.lookup (z:=.int .i64 0) jn underlying310 underlying9 (by kernel_rfl) rfl rfl rfl mp8) ?_;rw[hasc,Option.map_some,Option.getD_some];refine xp rfl (fN rfl rfl k rfl rfl) ?_;refine dD rfl (ct H.bL rfl rfl rfl hcell3 hfz3) ?_;rintro _ g10 ⟨rfl,hg10⟩;have hg10:g10=eo g8 ⟨g1.size,0+k*1,none⟩ (.int .i64 ((i0:Nat):Int)):=hg10;have hB:=hset3 ((i0:Nat):Int);rw[<-hg10] at hB;refine ax ?_;exact ih2 (k+1,seen,after++[((i0:Nat):Int)]) (fin2 g8 g10 _ _ eg8 mp8 hB hg10 hcon2 (Nat.le_succ_of_le hsl))
   · obtain rfl:k=d.next.length:=by omega
     rw[Nat.sub_self,List.replicate_zero,List.append_nil] at haf;rw[Nat.sub_self,bg] at hcon2;subst hcon2;dsimp only at hcon hmore hend;have hm:=hend.size;have hsl':(gI 0 seen).length=seen.length:=ry seen 0
     have ha':b7 (Value.int .i64) g3 h.size 3 (.slice (some ⟨g1.size,0,none⟩) d.next.length d.next.length) after:=EZ (show az g3 g1.size 3 1 _ after.length (after.map (Value.int .i64)) from haf) (fun b hb=>by
      cases hb;have:=eg.size;have:=e1'.size
      show h.size<=g1.size
      omega)
     refine ax ?_;refine xp rfl (ai.Ei underlying310 rfl (hmp)) ?_;rw[hsl'];refine ax ?_;refine dM (fun heq=>?_) (fun heq=>?_)
     · rw[if_pos (by omega)] at hcon;refine ax ?_;refine dS ?_;exact⟨_,rfl,by rw[<-hcon];exact ha',eg3⟩
     · rw[if_neg (by omega)] at hcon;refine ax ?_;refine xp rfl (ai.Ei underlying310 rfl (hmp)) ?_;rw[hsl'];refine ax ?_;exact ih (n,seen.length,_,after) ⟨eg3,ha',hal,fun x hx=>by have:=hend.bound x hx;omega,⟨by show seen.length<=_;omega,hend.nums,by show _<=n+seen.length;omega⟩,hcon⟩
end
end Go.Proofs.YtdihgdeciopfpaaGreatDoor
namespace Go.Proofs.YtdihgdeciopfpaaGreatDoor
open Go Go.Lw
set_option maxRecDepth 20000
section
variable {v3:Value}{n:Nat}
def j7 (cls:List Int):Nat->List Nat->List (Int×Int)
  |_,[]=>[]
  |i,x::r=>(cls.getD x 0,(i:Int))::j7 cls (i+1) r
theorem uT (cls:List Int):∀(ls:List Nat) (i:Nat) (l:Nat),j7 cls i (ls++[l])=j7 cls i ls++[(cls.getD l 0,((i+ls.length:Nat):Int))]
  | [],i,l=>by simp[j7]
  |x::r,i,l=>by
    simp only[List.cons_append,j7];rw[uT cls r (i+1) l,List.length_cons,show i+1+r.length=i+(r.length+1) by omega]
theorem rO (cls:List Int):∀(ls:List Nat) (i:Nat) (c:Int),kO c (j7 cls i ls)=(ou cls i ls c).map fun j=>(j:Int)
  | [],i,c=>rfl
  |x::r,i,c=>by
    rw[j7,kO,ou]
    by_cases h:c=cls.getD x 0
    · rw[if_pos h,if_pos h];rfl
    · rw[if_neg h,if_neg h];exact rO cls r (i+1) c
structure eu (h0 h:aj) (cls:List Int) (db mb:Nat) (vo vn vr:Value) (of:List Nat) (next:List Row) (rule:List Int):Prop where
  ext:aq h0 h
  dblk:aH h db 308 [vn,vr]
  nx:fZ 256 bX h h0.size 312 vn next
  ru:b7 (Value.int .i64) h h0.size 3 vr rule
  ol:b7 dA h h0.size 3 vo of
  mp:fy (Value.int .i64) (Value.int .i64) h mb (j7 cls 0 of)
  ne:∀b,vo.ownBlock=some b->vr.ownBlock≠some b
  dge:h0.size<=db
  mge:h0.size<=mb
section
variable {h0 h:aj}{cls:List Int}{db mb:Nat}{vo vn vr:Value}{of:List Nat}{next:List Row}{rule:List Int}
theorem eu.GL (k:eu h0 h cls db mb vo vn vr of next rule):∀b,vn.ownBlock=some b->bR h b 312:=fun _ hb=>az.ty k.nx hb
theorem eu.Fk (k:eu h0 h cls db mb vo vn vr of next rule):∀b,vr.ownBlock=some b->bR h b 3:=fun _ hb=>az.ty k.ru hb
theorem eu.Pf (k:eu h0 h cls db mb vo vn vr of next rule):∀b,vo.ownBlock=some b->bR h b 3:=fun _ hb=>az.ty k.ol hb
theorem eu.ak {h':aj}(k:eu h0 h cls db mb vo vn vr of next rule) (e:aq h h'):eu h0 h' cls db mb vo vn vr of next rule :=
  ⟨k.ext.trans e,k.dblk.ak e,fZ.ak k.nx e,b7.ak k.ru e,b7.ak k.ol e,k.mp.ext e (fun k=>k),k.ne,k.dge,k.mge⟩
theorem eu.put {h':aj}{x:Nat}(k:eu h0 h cls db mb vo vn vr of next rule) (e:Ext (fun b=>b=x) h h') (hx:bR h x 312) (hn:vn.ownBlock≠some x) (hge:h0.size<=x):eu h0 h' cls db mb vo vn vr of next rule:=by
  have hd:¬db=x:=k.dblk.ty.ne hx (by decide);have hm:¬mb=x:=k.mp.ne hx;exact⟨aq.only k.ext e hge,k.dblk.ext e hd,az.ext e k.nx (fun b hb hbx=>hn (by subst hbx;exact hb)),az.ext e k.ru (fun b hb=>(k.Fk b hb).ne hx (by decide)),az.ext e k.ol (fun b hb=>(k.Pf b hb).ne hx (by decide)),k.mp.ext e hm,k.ne,k.dge,k.mge⟩
theorem eu.Nl {g3 g4:aj}{r:Row}(k:eu h0 h cls db mb vo vn vr of next rule) (hn:n=next.length) (ho:az g3 h0.size 312 256 v3 (n+1) (next.flatMap bX++bX r)) (hx:Ext (cj vn.ownBlock) h g3) (hd:aH g4 db 308 [v3,vr]) (x4:Ext (fun b=>b=db) g3 g4) :
    eu h0 g4 cls db mb vo v3 vr of (next++[r]) rule:=by
  have nne:∀{b:Nat}{t:TypeId},bR h b t->312≠t->¬cj vn.ownBlock b:=fun kt ht e=>(k.GL _ e.symm).ne kt ht rfl
  have d3:=k.dblk.ext hx (nne k.dblk.ty (by decide));have dne:∀{b:Nat}{t:TypeId},bR g3 b t->308≠t->¬b=db:=fun kt ht e=>by subst e;exact d3.ty.ne kt ht rfl
  have mne:¬cj vn.ownBlock mb:=fun e=>k.mp.ne (k.GL _ e.symm) rfl
  have hm3:=k.mp.ext hx mne;have ru3:=az.ext hx k.ru (fun b hb=>nne (k.Fk b hb) (by decide));have of3:=az.ext hx k.ol (fun b hb=>nne (k.Pf b hb) (by decide));refine⟨⟨by have:=k.ext.size;have:=hx.size;have:=x4.size;omega,fun b hb kk=>?_⟩,hd,?_,az.ext x4 ru3 (fun b hb=>dne (az.ty ru3 hb) (by decide)),az.ext x4 of3 (fun b hb=>dne (az.ty of3 hb) (by decide)),hm3.ext x4 (hm3.ne d3.ty),k.ne,k.dge,k.mge⟩
  · rw[x4.block b (by have:=k.ext.size;have:=hx.size;omega) (by have:=k.dge;omega),hx.block b (by have:=k.ext.size;omega) (fun e=>by have:=(az.lt k.nx e.symm).1;omega)];exact k.ext.block b hb kk
  · exact az.ext x4 (fZ.of ho hn rfl) (fun b hb=>dne (az.ty ho hb) (by decide))
theorem eu.Nk {g3 g4:aj}{x:Int}(k:eu h0 h cls db mb vo vn vr of next rule) (hn:n=rule.length) (ho:az g3 h0.size 3 1 v3 (n+1) (rule.map (Value.int .i64)++[.int .i64 x])) (hx:Ext (cj vr.ownBlock) h g3) (hv:∀b,v3.ownBlock=some b->vr.ownBlock=some b\/h.size<=b) (hd:aH g4 db 308 [vn,v3]) (x4:Ext (fun b=>b=db) g3 g4) :
    eu h0 g4 cls db mb vo vn v3 of next (rule++[x]):=by
  have nne:∀{b:Nat}{t:TypeId},bR h b t->3≠t->¬cj vr.ownBlock b:=fun kt ht e=>(k.Fk _ e.symm).ne kt ht rfl
  have d3:=k.dblk.ext hx (nne k.dblk.ty (by decide));have dne:∀{b:Nat}{t:TypeId},bR g3 b t->308≠t->¬b=db:=fun kt ht e=>by subst e;exact d3.ty.ne kt ht rfl
  have mne:¬cj vr.ownBlock mb:=fun e=>k.mp.ne (k.Fk _ e.symm) rfl
  have hm3:=k.mp.ext hx mne;have nx3:=az.ext hx k.nx (fun b hb=>nne (k.GL b hb) (by decide));have of3:=az.ext hx k.ol (fun b hb e=>k.ne b hb e.symm);refine⟨⟨by have:=k.ext.size;have:=hx.size;have:=x4.size;omega,fun b hb kk=>?_⟩,hd,az.ext x4 nx3 (fun b hb=>dne (az.ty nx3 hb) (by decide)),?_,az.ext x4 of3 (fun b hb=>dne (az.ty of3 hb) (by decide)),hm3.ext x4 (hm3.ne d3.ty),fun b hb e=>?_,k.dge,k.mge⟩
  · rw[x4.block b (by have:=k.ext.size;have:=hx.size;omega) (by have:=k.dge;omega),hx.block b (by have:=k.ext.size;omega) (fun e=>by have:=(az.lt k.ru e.symm).1;omega)];exact k.ext.block b hb kk
  · exact az.ext x4 (b7.of (ys:=[x]) ho hn rfl rfl) (fun b hb=>dne (az.ty ho hb) (by decide))
  · rcases hv b e with e|e
    · exact k.ne b hb e
    · have:=(k.Pf b hb).lt;omega
theorem eu.more {g1 g2:aj}{t:Nat}(k:eu h0 h cls db mb vo vn vr of next rule) (x1:Ext (fun b=>b=mb) h g1) (hm:fy (Value.int .i64) (Value.int .i64) g1 mb (j7 cls 0 (of++[t]))) (hn:n=of.length) (ho:az g2 h0.size 3 1 v3 (n+1) (of.map dA++[dA t])) (hx:Ext (cj vo.ownBlock) g1 g2) (hv:∀b,v3.ownBlock=some b->vo.ownBlock=some b\/g1.size<=b) :
    eu h0 g2 cls db mb v3 vn vr (of++[t]) next rule:=by
  have mne:∀{b:Nat}{t:TypeId},bR h b t->¬b=mb:=fun kt e=>k.mp.ne kt e.symm
  have d1:=k.dblk.ext x1 (mne k.dblk.ty);have nx1:=az.ext x1 k.nx (fun b hb=>mne (k.GL b hb));have ru1:=az.ext x1 k.ru (fun b hb=>mne (k.Fk b hb));have of1:=az.ext x1 k.ol (fun b hb=>mne (k.Pf b hb));have one:∀{b:Nat}{t:TypeId},bR g1 b t->3≠t->¬cj vo.ownBlock b:=fun kt ht e=>(show bR g1 _ 3 from az.ty of1 e.symm).ne kt ht rfl
  refine⟨⟨by have:=k.ext.size;have:=hx.size;have:=x1.size;omega,fun b hb kk=>?_⟩,d1.ext hx (one d1.ty (by decide)),az.ext hx nx1 (fun b hb=>one (az.ty nx1 hb) (by decide)),az.ext hx ru1 (fun b hb e=>k.ne b e.symm hb),b7.of (ys:=[t]) ho hn rfl rfl,hm.ext hx (fun e=>hm.ne (az.ty of1 e.symm) rfl),fun b hb e=>?_,k.dge,k.mge⟩
  · rw[hx.block b (by have:=k.ext.size;have:=x1.size;omega) (fun e=>by have:=(az.lt k.ol e.symm).1;omega),x1.block b (by have:=k.ext.size;omega) (by have:=k.mge;omega)];exact k.ext.block b hb kk
  · rcases hv b hb with e'|e'
    · exact k.ne b e' e
    · have:=(show bR g1 _ 3 from az.ty ru1 e).lt;omega
end
end
end Go.Proofs.YtdihgdeciopfpaaGreatDoor
namespace Go.Proofs.YtdihgdeciopfpaaGreatDoor
open Go.Proofs.Tryz
open Go Go.Lw
set_option maxRecDepth 20000 set_option maxHeartbeats 4000000
theorem zm (d:bP):∀(n:Nat) (out:List Bool),(ql d n out).length=out.length
 | 0,_=>rfl
 |n+1,out=>by
  rw[ql];split
  · rw[zm d n,gD]
  · rw[gD]
theorem GP (d:bP):(bz d).length=d.next.length:=by rw[bz,zm];simp
theorem wH (d:bP) (live:List Bool):∀(n many:Nat) (cls:List Int),cls.length=d.next.length->(jP d live n many cls).length=d.next.length
 | 0,_,_,h=>h
 |n+1,many,cls,h=>by
  rw[jP];split
  · exact(eG d live cls).len
  · exact wH d live n _ _ (eG d live cls).len
theorem EE (d:bP) (live:List Bool) (h:d.rule.length=d.next.length):(dN d live).length=d.next.length:=wH d live _ _ _ h
def ny (h:aj) (O:Nat->Prop) (db:Nat) (d:bP):Prop :=
 ∃vn vr,¬O db/\aH h db 308 [vn,vr]/\bB FF h O vn d.next/\bB (.int .i64) h O vr d.rule
theorem ny.mv {h h':aj}{O O':Nat->Prop}{db:Nat}{d:bP}(k:ny h O db d) (m:Mv O O' h h'):ny h' O' db d:=by
 obtain⟨vn,vr,ho,hk,h1,h2⟩:=k;have hm:=m.block db hk.lt ho;exact⟨vn,vr,hm.2,hm.1.trans hk,h1.mv m,h2.mv m⟩
theorem ny.rd {h:aj}{O:Nat->Prop}{db:Nat}{d:bP}(k:ny h O db d):oC h db d:=by
 obtain⟨vn,vr,ho,hk,h1,h2⟩:=k;exact⟨vn,vr,hk,nA h1 (fun _ k=>k.elim),nA h2 (fun _ k=>k.elim)⟩
theorem JF {h:aj}{db:Nat}{d:bP}(htens:rQ h) (k:oC h db d) (hok:d.Ok) (hd0:0<d.next.length) :
 af Tryz.prog 122 #[.pointer (some ⟨db,0,none⟩)] h (bf fun r h'=>(∃b,r= .pointer (some ⟨b,0,none⟩)/\ny h' (fun g=>g<h.size) b (kF d))/\aq h h'):=by
 have hlen:=hok.len;have hsize:=hok.size;generalize hres:kF d=res;refine eV ?_;refine ax ?_;refine xo rfl (dz rfl (CX k)) ?_;rintro _ h0 ⟨rfl,hh0⟩;subst hh0;refine ax ?_;refine dM (fun hz=>?_) (fun hz=>?_)
 · refine ax ?_;refine dS ?_;exfalso;omega
 · rw[kF,if_neg hz] at hres;have hll:=GP d;have hcl:=EE d (bz d) hlen;refine ax ?_;refine xo rfl (dz rfl (Eg k hok)) ?_;rintro w3 h1 ⟨ho1,e1⟩;generalize bz d=live at *;obtain⟨la,lc,rfl,_⟩:=(show az h1 h0.size 4 1 w3 live.length (live.map Value.bool) from ho1).open;refine ax ?_;refine xo rfl (dz rfl (yC (htens.ak e1) (k.ak e1) hok (b7.read (O:=fun _=>False) (h1:=fun _=>rfl) ho1 (fun _ _ k=>k)) hll)) ?_;rintro w4 h2 ⟨ho2,e2⟩;generalize dN d live=cls at *;obtain⟨ca,cc,rfl,_⟩:=(show az h2 h1.size 3 1 w4 cls.length (cls.map (Value.int .i64)) from ho2).open;have ho1:=b7.ak ho1 e2;have k2:=(k.ak e1).ak e2;have hsV:bB .bool h2 (fun _=>False) (.slice la live.length lc) live:=b7.read (h1:=fun _=>rfl) ho1 (fun _ _ k=>k);have hsC:bB (.int .i64) h2 (fun _=>False) (.slice ca cls.length cc) cls:=b7.read (h1:=fun _=>rfl) ho2 (fun _ _ k=>k);rw[hll] at hsV;rw[hcl] at hsC;rw[hll,hcl];obtain⟨c0,hc0⟩:∃c0,cls[0]? =some c0:=⟨_,List.getElem?_eq_getElem (by omega)⟩
   have hcd0:cls.getD 0 0=c0:=by rw[List.getD_eq_getElem?_getD,hc0];rfl
   refine ax ?_;refine xp rfl (aE (H.JR ) rfl) ?_;refine xo rfl (Bu) ?_;rintro _ h3 ⟨rfl,kd3,e3,z3⟩;refine ax ?_;refine xo rfl (nB (ek:=Value.int .i64) (ev:=Value.int .i64)) ?_;rintro _ h4 ⟨rfl,hm4,e4,z4⟩;have kd3:aH h3 h2.size 308 [.slice none 0 0,.slice none 0 0]:=kd3;have e34:=e3.trans e4;obtain⟨oa',n',c',hv',_,_,_,hgetc⟩:=id (hsC.mv (Mv.ak e34));cases hv';obtain⟨b3,o3,cs3,ha3,_,hrow3,rfl⟩:=hgetc 0 c0 hc0;refine cG ?_;refine xp rfl (fN rfl rfl 0 rfl ha3) ?_;refine xp rfl (bJ rfl (hrow3 0 _ rfl)) ?_;refine dD rfl (xl (v:=(0:Int)) (jo.int .i64) underlying317 underlying3 rfl rfl rfl rfl rfl hm4 (rfl:kO c0 []=none)) ?_;rintro _ h5 ⟨rfl,hm5,x5,z5⟩;have hm5:fy (Value.int .i64) (Value.int .i64) h5 h3.size (j7 cls 0 [0]):=by rw[j7,hcd0];exact hm5
   have hz3:=e3.size;have e25:aq h2 h5:=aq.only e34 x5 hz3;have kd5:aH h5 h2.size 308 [.slice none 0 0,.slice none 0 0]:=(kd3.ak e4).ext x5 (by show ¬_=_;omega);refine ax ?_;refine xo rfl (xI [_]) ?_;rintro _ _ ⟨rfl,rfl⟩;refine ax ?_;have e56:aq h5 (h5.push (.cells #[.int .i64 0] 3)):=Ext.push _ _ _;have ol6:b7 dA (h5.push (.cells #[.int .i64 0] 3)) h2.size 3 (.slice (some ⟨h5.size,0,none⟩) 1 1) [0]:=xj dA h5 3 [0] 1 rfl (by decide) h2.size e25.size rfl;generalize h5.push (.cells #[.int .i64 0] 3)=h6 at *
   have mk6:eu h2 h6 cls h2.size h3.size (.slice (some ⟨h5.size,0,none⟩) 1 1) (.slice none 0 0) (.slice none 0 0) [0] [] [] :=
    ⟨e25.trans e56,kd5.ak e56,fZ.nil _ _ _ _ _,b7.nil _ _ _ _,ol6,hm5.ext e56 (fun k=>k),fun b _ hb=>(by cases hb),Nat.le_refl _,hz3⟩
   refine qS (σ:=Nat×Value) (fun q=>[(7,q.2),(8,.int .i64 (q.1:Nat))]) (fun q h'=>∃vn vr of next rule,eu h2 h' cls h2.size h3.size q.2 vn vr of next rule/\q.1<=of.length/\Dn d.next.length of/\(next.length=q.1/\rule.length=q.1)/\Cu d live cls (d.next.length+1-q.1) q.1 of next rule=res) (fun q=>d.next.length+1-q.1) ((0,.slice (some ⟨h5.size,0,none⟩) 1 1)) ⟨_,_,[0],[],[],mk6,Nat.zero_le _,⟨by simp,fun x hx=>by simp at hx;omega⟩,⟨rfl,rfl⟩,hres⟩ rfl ?_;rintro⟨i,vl⟩ g ⟨vn,vr,of,next,rule,mk,hi,hok2,⟨hnl,hrl⟩,hcon⟩ ih
   try dsimp only
   dsimp only at mk hi hnl hrl hcon;have hofl:=hok2.len;obtain⟨oa,oc,rfl,_⟩:=(show az g h2.size 3 1 vl of.length (of.map dA) from mk.ol).open;have mkg:=mk;refine ax ?_;refine dM (fun hlt=>?_) (fun hlt=>?_)
   · have hil:i<of.length:=by omega
     obtain⟨kk,hcur⟩:∃kk,of[i]? =some kk:=⟨_,List.getElem?_eq_getElem hil⟩
     have hkN:=hok2.lt kk (List.mem_of_getElem? hcur);obtain⟨n,hnn⟩:∃n,d.next.length+1-i=n+1:=⟨d.next.length-i,by omega⟩
     rw[hnn,Cu,hcur] at hcon;simp only at hcon;obtain⟨r,hr⟩:∃r,d.next[kk]? =some r:=⟨_,List.getElem?_eq_getElem hkN⟩
     have hrow:d.row kk=r.v:=by unfold bP.row;rw[hr]
     rw[hrow] at hcon;generalize htgt:fD live cls r.v of []=tgt at hcon;refine ax ?_;refine xo rfl (pI) ?_;rintro _ g1 ⟨rfl,kz,ez,zz⟩;have kz:aH g1 g.size 312 (([]:List Int).map (Value.int .i64)++List.replicate (256-0) (Value.int .i64 0)):=kz;have Kg:=mk.ak ez;have hvz:vn.ownBlock≠some g.size:=fun e=>by have:=(mk.GL _ e).lt;omega
     obtain⟨vn0,vr0,kd,⟨na,nn,nc,rfl,hnl0,hnc,hnm,hgetn⟩,hsR⟩:=id (k2.ak Kg.ext);subst hnl0;obtain⟨b1,o1,cs1,ha1,_,hrow1,rfl⟩:=hgetn kk r hr;obtain⟨gg,c4,hv4,_,_,hcell,_,_⟩:=Kg.ol.at hcur;have hoa:oa=some ⟨gg,0,none⟩:=by cases hv4;rfl
     refine ax ?_;refine rU rfl (bJ rfl (kd.cell (i:=0) rfl)) ?_
     iterate 2 refine OH ?_
     refine rU rfl (fN rfl rfl i rfl hoa) ?_;refine rU rfl (bJ rfl hcell) ?_;refine rU rfl (fN rfl rfl kk rfl ha1) ?_;refine rU rfl (jT rfl hrow1) ?_;refine ax ?_;refine qS (σ:=Nat×Value) (fun q=>[(7,q.2),(45,.int .i64 (q.1:Nat))]) (fun q h'=>∃of' row,eu h2 h' cls h2.size h3.size q.2 vn vr of' next rule/\(q.1<=256/\row.length=q.1)/\aH h' g.size 312 (row.map (Value.int .i64)++List.replicate (256-q.1) (Value.int .i64 0))/\of'[i]? =some kk/\Dn d.next.length of'/\fD live cls (r.v.drop q.1) of' row=tgt) (fun q=>256-q.1) ((0,.slice oa of.length oc)) ⟨of,[],Kg,⟨Nat.zero_le _,rfl⟩,kz,hcur,hok2,htgt⟩ rfl ?_;rintro⟨b,vl⟩ g2 ⟨of,row,mk,⟨hb,hrlen⟩,kz,hcur,hok2,hrow⟩ ih2
     try dsimp only
     dsimp only at mk hb hrlen kz hrow;have hofl:=hok2.len;obtain⟨oa,oc,rfl,_⟩:=(show az g2 h2.size 3 1 vl of.length (of.map dA) from mk.ol).open;refine ax ?_;refine dM (fun hb256=>?_) (fun hb256=>?_)
     · have hb2:b<256:=by omega
       obtain⟨t,ht⟩:∃t,r.v[b]? =some t:=⟨_,List.getElem?_eq_getElem (by rw[r.len];exact hb2)⟩
       have htm:=hok.to r (List.mem_of_getElem? hr) t (List.mem_of_getElem? ht);have hdrop:r.v.drop b=t::r.v.drop (b+1):=by rw[List.drop_eq_getElem_cons (by rw[r.len];exact hb2),(List.getElem?_eq_some_iff.1 ht).2]
       rw[hdrop,fD] at hrow;have hso:=vB (live:=live) (cls:=cls) (t:=t) hok2 htm.2;have hsg:=(Ea (live:=live) (cls:=cls) (of:=of) (t:=t)).2 i kk hcur;have hcells:(row.map (Value.int .i64)++List.replicate (256-b) (Value.int .i64 0)).length=256:=by simp[hrlen];omega
       have hset:∀to:Int,(row.map (Value.int .i64)++List.replicate (256-b) (Value.int .i64 0)).set (0+b*1) (.int .i64 to)=(row++[to]).map (Value.int .i64)++List.replicate (256-(b+1)) (Value.int .i64 0):=fun to=>by
        rw[Nat.zero_add,Nat.mul_one,List.set_append_right _ _ (by simp;omega),show 256-b=(256-(b+1))+1 by omega,List.replicate_succ];have:b-(row.map (Value.int .i64)).length=0:=by simp;omega
        rw[this,List.set_cons_zero];simp
       have hblt:0+b*1<(row.map (Value.int .i64)++List.replicate (256-b) (Value.int .i64 0)).length:=by rw[hcells];omega
       have hzge:h2.size<=g.size:=mkg.ext.size
       have fin:∀(gA gB:aj) (vA:Value) (ofA:List Nat) (to:Int),eu h2 gA cls h2.size h3.size vA vn vr ofA next rule->aH gA g.size 312 (row.map (Value.int .i64)++List.replicate (256-b) (Value.int .i64 0))->gB=eo gA ⟨g.size,0+b*1,none⟩ (.int .i64 to)->cM live cls of t=(ofA,to)->∃of' row,eu h2 gB cls h2.size h3.size vA vn vr of' next rule/\(b+1<=256/\row.length=b+1)/\aH gB g.size 312 (row.map (Value.int .i64)++List.replicate (256-(b+1)) (Value.int .i64 0))/\of'[i]? =some kk/\Dn d.next.length of'/\fD live cls (r.v.drop (b+1)) of' row=tgt:=by
        rintro gA gB vA ofA to mA kA hgB hst;have k6:=kA.set (0+b*1) (.int .i64 to);rw[<-hgB,hset] at k6;have x6:Ext (fun y=>y=g.size) gA gB:=by rw[hgB];exact Ext.eo _ _ _ rfl
        rw[hst] at hso hsg hrow;exact⟨ofA,row++[to],mA.put x6 kA.ty hvz hzge,⟨hb2,by simp[hrlen]⟩,k6,hsg,hso,hrow⟩
       refine ax ?_;refine xp rfl (ai.vU underlying312 H.bL H.cC rfl rfl b rfl hb2 (show (bX r).toArray[b]? =some (Value.int .i64 t) by simp[bX,ht])) ?_
       iterate 2 refine cG ?_
       refine iF ?_
       iterate 2 refine dc ?_
       refine fE ?_
       iterate 3 refine cG ?_
       refine qV 51 (fun hg=>?_) (fun hg=>?_)
       · have hg':=of_decide_eq_true hg;refine ax ?_;refine tf rfl (by simp) ?_;refine dc ?_;refine fE ?_;refine cG ?_;refine xp rfl (Dt rfl rfl b rfl (by omega)) ?_;refine dD rfl (ct H.bL rfl rfl rfl (kz.cell (List.getElem?_eq_getElem hblt)) kz.nf) ?_;rintro _ g6 ⟨rfl,hg6⟩;have ff:=fin g2 g6 _ of (-1) mk kz hg6 (by rw[cM,if_pos (.inl hg')]);refine ax ?_;exact ih2 (b+1,_) ff
       · have hg':=of_decide_eq_false hg;obtain⟨t2,rfl⟩:=Int.eq_ofNat_of_zero_le (show 0<=t by omega);obtain⟨bt,hbt⟩:∃bt,live[t2]? =some bt:=⟨_,List.getElem?_eq_getElem (by omega)⟩
         have hlt2:live.getD t2 false=bt:=by rw[List.getD_eq_getElem?_getD,hbt];rfl
         obtain⟨oa',n',c',hv',_,_,_,hgetv⟩:=id (hsV.mv (Mv.ak mk.ext));cases hv';obtain⟨b3,o3,cs3,ha3,_,hrow3,rfl⟩:=hgetv t2 bt hbt
         iterate 2 refine cG ?_
         refine xp rfl (fN rfl rfl t2 rfl ha3) ?_;refine xp rfl (bJ rfl (hrow3 0 _ rfl)) ?_;refine ax ?_;refine E4 (fun hb=>?_) (fun hb=>?_)
         · have hb':bt=false:=by simpa using hb
           refine dc ?_;refine fE ?_;refine cG ?_;refine xp rfl (Dt rfl rfl b rfl (by omega)) ?_;refine dD rfl (ct H.bL rfl rfl rfl (kz.cell (List.getElem?_eq_getElem hblt)) kz.nf) ?_;rintro _ g6 ⟨rfl,hg6⟩;have ff:=fin g2 g6 _ of (-1) mk kz hg6 (by rw[cM,if_pos (.inr (by show live.getD t2 false=false;rw[hlt2,hb']))]);refine ax ?_;exact ih2 (b+1,_) ff
         · have hb':bt=true:=by simpa using hb
           obtain⟨c2,hc2⟩:∃c2,cls[t2]? =some c2:=⟨_,List.getElem?_eq_getElem (by omega)⟩
           have hgd2:cls.getD t2 0=c2:=by rw[List.getD_eq_getElem?_getD,hc2];rfl
           have hneg:¬(((t2:Nat):Int)<0\/live.getD ((t2:Nat):Int).toNat false=false):=by
            rintro(e|e)
            · exact hg' e
            · rw[Int.toNat_natCast,hlt2,hb'] at e;cases e
           have hstep:cM live cls of ((t2:Nat):Int)=match ou cls 0 of c2 with|some i=>(of,(i:Int))|none=>(of++[t2],(of.length:Int)):=by
            rw[cM,if_neg hneg,Int.toNat_natCast,hgd2]<;>rfl
           obtain⟨oa',n',c',hv',_,_,_,hgetc⟩:=id (hsC.mv (Mv.ak mk.ext));cases hv';obtain⟨b4,o4,cs4,ha4,_,hrow4,rfl⟩:=hgetc t2 c2 hc2
           iterate 2 refine dc ?_
           refine fE ?_
           iterate 3 refine cG ?_
           refine xp rfl (fN rfl rfl t2 rfl ha4) ?_;refine xp rfl (bJ rfl (hrow4 0 _ rfl)) ?_;refine xp rfl (ai.vF (z:=.int .i64 0) (jo.int .i64) underlying317 underlying3 (by kernel_rfl) rfl rfl rfl mk.mp) ?_;rw[rO]
           rcases hfind:ou cls 0 of c2 with _|i0
           · rw[hfind] at hstep;simp only at hstep;have hnone:kO c2 (j7 cls 0 of)=none:=by rw[rO,hfind];rfl
             refine ax ?_;refine tf rfl (by simp) ?_;refine dc ?_;refine fE ?_
             iterate 3 refine cG ?_
             refine iF ?_;refine dc ?_;refine fE ?_
             iterate 3 refine cG ?_
             refine xp rfl (fN rfl rfl t2 rfl ha4) ?_;refine xp rfl (bJ rfl (hrow4 0 _ rfl)) ?_;refine ax ?_;refine dD rfl (aB.mapUpdate (v:=((of.length:Nat):Int)) (jo.int .i64) underlying317 underlying3 rfl rfl rfl rfl rfl mk.mp hnone) ?_;rintro _ g3 ⟨rfl,hm3,x3,z3'⟩;have hm3:fy (Value.int .i64) (Value.int .i64) g3 h3.size (j7 cls 0 (of++[t2])):=by rw[uT,Nat.zero_add,hgd2];exact hm3
             have mne:∀{b:Nat}{t:TypeId},bR g2 b t->¬b=h3.size:=fun kt e=>mk.mp.ne kt e.symm
             have ol3:az g3 h2.size 3 1 (.slice oa of.length oc) of.length (of.map dA):=az.ext x3 mk.ol (fun b hb=>mne (mk.Pf b hb));have kz3:=kz.ext x3 (mne kz.ty);have hz2g:=mk.ext.size;refine ax ?_;refine xo rfl (xI [_]) ?_;rintro _ _ ⟨rfl,rfl⟩;refine xo rfl (F9 rfl rfl ol3 rfl rfl) ?_;rintro v7 g4 ⟨ho4,hx4,hx4',hv4⟩;have mk4:=mk.more (t:=t2) x3 hm3 rfl ho4 hx4 hv4;have kz4:=kz3.ext hx4 (fun e=>(show bR g3 _ 3 from az.ty ol3 e.symm).ne kz3.ty (by decide) rfl);obtain⟨v7a,v7c,rfl,_⟩:=ho4.open;refine cG ?_;refine iF ?_;refine fE ?_
             iterate 2 refine cG ?_
             refine xp rfl (Dt rfl rfl b rfl (by omega)) ?_;refine dD rfl (ct H.bL rfl rfl rfl (kz4.cell (List.getElem?_eq_getElem hblt)) kz4.nf) ?_;rintro _ g6 ⟨rfl,hg6⟩;have ff:=fin g4 g6 _ (of++[t2]) (of.length:Nat) mk4 kz4 hg6 hstep;refine ax ?_;exact ih2 (b+1,_) ff
           · rw[hfind] at hstep;simp only at hstep;refine ax ?_;refine qT rfl (by simp) ?_;refine dc ?_;refine fE ?_
             iterate 2 refine cG ?_
             refine xp rfl (Dt rfl rfl b rfl (by omega)) ?_;refine dD rfl (ct H.bL rfl rfl rfl (kz.cell (List.getElem?_eq_getElem hblt)) kz.nf) ?_;rintro _ g6 ⟨rfl,hg6⟩;have ff:=fin g2 g6 _ of (i0:Nat) mk kz hg6 hstep;refine ax ?_;exact ih2 (b+1,_) ff
     · obtain rfl:b=256:=by omega
       rw[List.drop_of_length_le (by rw[r.len];exact Nat.le_refl _),fD] at hrow;subst hrow;simp only at hcon;have hencr:bX (jA row)=row.map (Value.int .i64):=by rw[bX,tJ hrlen]
       rw[Nat.sub_self,List.replicate_zero,List.append_nil,<-hencr] at kz;have hil2:i<of.length:=(List.getElem?_eq_some_iff.1 hcur).1
       have nne:∀{b:Nat}{t:TypeId},bR g2 b t->312≠t->¬(cj vn.ownBlock b\/Array.size g2<=b):=fun kt ht e=>by
        rcases e with e|e
        · exact(mk.GL _ e.symm).ne kt ht rfl
        · have:=kt.lt;omega
       have hzM:¬(cj vn.ownBlock g.size\/Array.size g2<=g.size):=by
        rintro(e|e)
        · exact hvz e.symm
        · have:=kz.lt;omega
       have hdM:=nne mk.dblk.ty (by decide);have hnx:az g2 h2.size 312 256 vn next.length (next.flatMap bX):=mk.nx
       have hone:∀u∈bX (jA row),u.oneCell'=true:=fun u hu=>by simp[bX] at hu;obtain⟨_,_,rfl⟩:=hu;rfl
       have hg2:=mk.ext.size;refine ax ?_;refine Bt 11 (fun b=>cj vn.ownBlock b\/Array.size g2<=b) (fun i=>Nat.blt i 10) ?_;refine cS 0 ?_;refine cS 1 ?_;refine cS 2 ?_;refine cS 3 ?_;refine eO 4 rfl (fun h' e=>bJ rfl (e.cell hdM (mk.dblk.cell (i:=0) rfl))) ?_;refine eO 5 rfl (fun h' e=>jT rfl (e.rowAt hzM kz.row)) ?_;refine nG 6 rfl (aB.cv (cs:=bX (jA row)) underlying306 H.FE rfl (lI _) (by decide)) ?_;rintro _ _ ⟨rfl,rfl⟩;refine⟨fun _=>(Ext.push _ _ _),?_⟩;refine nG 7 rfl (aB.zJ underlying306 H.FE rfl rfl hnx rfl (by simp) hone (by simp only[maxLen];omega) (by omega) hg2) ?_;rintro v3 g3 ⟨ho3,hx3,hx3',hv3⟩;refine⟨fun _=>hx3'.mono (fun _ _ k=>.inl k),?_⟩;obtain⟨a3,c3,rfl,_⟩:=ho3.open;refine LM 8 ?_;refine cS 9 ?_;refine zS 10 rfl (qY rfl rfl ((mk.dblk.ext hx3 (fun e=>hdM (.inl e))))) ?_;rintro _ g4 ⟨rfl,k4,x4,z4⟩;refine⟨nofun,?_⟩;have mk4:=mk.Nl (r:=jA row) rfl ho3 hx3 k4 x4;obtain⟨vn0,vr0,kd4,_,⟨ra,rn,rc,rfl,hrl0,hrc,hrm,hgetr⟩⟩:=id k2;obtain⟨x,hx⟩:∃x,d.rule[kk]? =some x:=⟨_,List.getElem?_eq_getElem (by omega)⟩
       have hru0:d.ru kk=x:=by unfold bP.ru;rw[List.getD_eq_getElem?_getD,hx];rfl
       obtain⟨b5,o5,cs5,ha5,hO5,hrow5,rfl⟩:=hgetr kk x hx;obtain⟨gg5,c5,hv5,_,_,hcell5,_,_⟩:=mk4.ol.at hcur;have hoa5:oa=some ⟨gg5,0,none⟩:=by cases hv5;rfl
       have rne:∀{b:Nat}{t:TypeId},bR g4 b t->3≠t->¬(cj vr.ownBlock b\/Array.size g4<=b):=fun kt ht e=>by
        rcases e with e|e
        · exact(mk4.Fk _ e.symm).ne kt ht rfl
        · have:=kt.lt;omega
       have hdM4:=rne mk4.dblk.ty (by decide);have hru:az g4 h2.size 3 1 vr rule.length (rule.map (Value.int .i64)):=mk4.ru;have hg4s:=mk4.ext.size
       have olb:∀{b:Nat},b<h2.size->¬(cj vr.ownBlock b\/Array.size g4<=b):=fun kb e=>by
        rcases e with e|e
        · have:=(az.lt mk4.ru e.symm).1;omega
        · omega
       have hc4:=kd4.cell (i:=1) rfl;have hd4:=olb (dJ hc4);have hc5:cellAt h2 _=some (Value.int .i64 x):=hrow5 0 _ rfl;have hd5:=olb (dJ hc5)
       have hd6:¬(cj vr.ownBlock gg5\/Array.size g4<=gg5):=fun e=>by
        rcases e with e|e
        · exact mk4.ne gg5 (by rw[hoa5];rfl) e.symm
        · have:=dJ hcell5;simp only at this;omega
       refine xM ?_;refine Bt 20 (fun b=>cj vr.ownBlock b\/Array.size g4<=b) (fun i=>Nat.blt i 19) ?_;refine cS 0 ?_;refine cS 1 ?_;refine cS 2 ?_;refine cS 3 ?_;refine eO 4 rfl (fun h' e=>bJ rfl (e.cell hdM4 (mk4.dblk.cell (i:=1) rfl))) ?_;refine cS 5 ?_;refine cS 6 ?_;refine cS 7 ?_;refine eO 8 rfl (fun h' e=>bJ rfl (e.cell hd4 (mk4.ext.cell (fun k=>k) hc4))) ?_;refine cS 9 ?_;refine cS 10 ?_;refine eO 11 rfl (fun h' e=>fN rfl rfl i rfl hoa5) ?_;refine eO 12 rfl (fun h' e=>bJ rfl (e.cell hd6 hcell5)) ?_;refine eO 13 rfl (fun h' e=>fN rfl rfl kk rfl ha5) ?_;refine eO 14 rfl (fun h' e=>bJ rfl (e.cell hd5 (mk4.ext.cell (fun k=>k) hc5))) ?_;refine nG 15 rfl (xI [_]) ?_;rintro _ _ ⟨rfl,rfl⟩;refine⟨fun _=>by first|exact Ext.push _ _ _|assumption,?_⟩;refine nG 16 rfl (F9 rfl rfl hru rfl rfl) ?_;rintro v6 g6 ⟨ho6,hx6,hx6',hv6⟩;refine⟨fun _=>hx6'.mono (fun _ _ k=>.inl k),?_⟩;obtain⟨a6,c6,rfl,_⟩:=ho6.open;refine LM 17 ?_;refine cS 18 ?_;refine zS 19 rfl (qY rfl rfl ((mk4.dblk.ext hx6 (fun e=>hdM4 (.inl e))))) ?_;rintro _ g7 ⟨rfl,k7,x7,z7⟩;refine⟨nofun,?_⟩;have mk7:=mk4.Nk (x:=x) rfl ho6 hx6 hv6 k7 x7;refine xM ?_;refine ax ?_;exact ih (i+1,_) ⟨_,_,of,next++[jA row],rule++[x],mk7,hil2,hok2,⟨by simp[hnl],by simp[hrl]⟩,by rw[<-hru0,show d.next.length+1-(i+1)=n by omega];exact hcon⟩
   · obtain rfl:i=of.length:=by omega
     obtain⟨n,hnn⟩:∃n,d.next.length+1-of.length=n+1:=⟨d.next.length-of.length,by omega⟩
     rw[hnn,Cu,List.getElem?_eq_none (Nat.le_refl _)] at hcon;simp only at hcon;refine ax ?_;refine dS ?_;have hz02:=(e1.trans e2).size;refine⟨_,rfl,⟨h2.size,rfl,?_⟩,(e1.trans e2).trans mk.ext⟩;rw[<-hcon];exact⟨vn,vr,by omega,mk.dblk,fZ.read mk.nx (fun b hb k=>by omega),b7.read (h1:=fun _=>rfl) mk.ru (fun b hb k=>by omega)⟩
end Go.Proofs.YtdihgdeciopfpaaGreatDoor
namespace Go.Proofs.YtdihgdeciopfpaaGreatDoor
open Go
def iE (B:Nat) (ss:List bC):Prop:=∀x∈ss,x.rule<=B
theorem iE.snoc {B:Nat}{ss:List bC}(k:iE B ss){x:bC}(h:x.rule<=B):iE B (ss++[x]):=fun y hy=>by
  rcases List.mem_append.1 hy with e|e
  · exact k y e
  · have:y=x:=by simpa using e
    rw[this];exact h
theorem iE.set {B:Nat}{ss:List bC}(k:iE B ss){x:bC}(h:x.rule<=B) (i:Nat):iE B (ss.set i x):=fun y hy=>by
  rcases List.mem_or_eq_of_mem_set hy with e|e
  · exact k y e
  · rw[e];exact h
mutual
theorem AS (B:Nat):∀(x:Nd) (ss:List bC) (to:Nat),iE B ss->iE B (lay x ss to).1
  |.mk k s kids,ss,to,h=>by
    rw[lay];split
    · exact h.snoc (Nat.zero_le _)
    · split
      · exact zq B kids ss to h
      · split
        · exact(zu B kids ss to h).snoc (Nat.zero_le _)
        · split
          · exact(zo B kids ss to h).snoc (Nat.zero_le _)
          · split
            · exact(zo B kids _ _ (h.snoc (Nat.zero_le _))).set (Nat.zero_le _) _
            · exact h
theorem zq (B:Nat):∀(l:List Nd) (ss:List bC) (to:Nat),iE B ss->iE B (bA l ss to).1
  | [],ss,to,h=>by rw[bA];exact h
  |x::r,ss,to,h=>by rw[bA];exact AS B x _ _ (zq B r ss to h)
theorem zu (B:Nat):∀(l:List Nd) (ss:List bC) (to:Nat),iE B ss->iE B (aW l ss to).1
  | [],ss,to,h=>by rw[aW];exact h
  |x::r,ss,to,h=>by rw[aW];exact zu B r _ to (AS B x ss to h)
theorem zo (B:Nat):∀(l:List Nd) (ss:List bC) (to:Nat),iE B ss->iE B (bZ l ss to).1
  | [],ss,to,h=>by rw[bZ];exact h
  |x::r,ss,to,h=>by rw[bZ];exact AS B x ss to h
end
theorem Cy (B:Nat):∀(i:Nat) (rules:List By) (ss:List bC) (t:List Nat) (ss':List bC) (t':List Nat),i+rules.length<=B->iE B ss->kH i rules ss t= .inr (ss',t')->iE B ss'
  |i,[],ss,t,ss',t',_,h,hm=>by
    rw[kH] at hm;cases hm;exact h
  |i,s::r,ss,t,ss',t',hB,h,hm=>by
    rw[List.length_cons] at hB;rw[kH] at hm;split at hm
    · cases hm
    · exact Cy B (i+1) r _ _ ss' t' (by omega) (AS B _ _ _ (h.snoc (by show i<=B;omega))) hm
theorem IZ {rules:List By}{ss:List bC}{st:Nat}(h:eR rules= .inr (ss,st)):∀x∈ss,x.rule<=1000000:=by
  unfold eR at h;split at h
  · cases h
  · rename_i hn;split at h
    · cases h
    · rename_i ss1 t1 hg;split at h
      · cases h
      · cases h;have:=Cy 64 0 rules [] [] ss1 t1 (by omega) (fun x hx=>(by cases hx)) hg;intro x hx;have:=(this.snoc (x:=⟨0,0,t1,0⟩) (Nat.zero_le _)) x hx;omega
end Go.Proofs.YtdihgdeciopfpaaGreatDoor
namespace Go.Proofs.YtdihgdeciopfpaaGreatDoor
open Go Go.Lw
set_option maxRecDepth 20000
def lM (rules:List By):Int ⊕ bP:=match eR rules with
  |.inl e=>.inl e
  |.inr (ss,st)=>fX ss st
theorem kM {rules:List By}{d:bP}(h:lM rules= .inr d):d.Ok/\0<d.next.length:=by
  unfold lM at h;split at h
  · cases h
  · rename_i ss st hm;refine⟨Hg h (IZ hm),?_⟩;obtain⟨_,L,_,h2,h3⟩:=iO h;omega
theorem BK {rules:List By}{d:bP}(h:lM rules= .inr d) (s:By) (a:Int):((cW d s a).1,(cW d s a).2.1)=AN rules s a:=by
  have hd:=(kM h).2;unfold lM at h;split at h
  · cases h
  · rename_i ss st hm;have hst:=(fe hm).stl;unfold AN Ec cW;rw[hm];simp only
    by_cases ha:a<0\/(s.length:Int)<a
    · rw[if_pos (.inr ha),if_pos (.inr ha)]
    · rw[if_neg (by omega),if_neg (by omega)];exact lK h (by omega) _
end Go.Proofs.YtdihgdeciopfpaaGreatDoor
