/- What the proof of the statement leans on (part 26). -/
import Derived.LaidLaws
import Derived.LaidMore
import Derived.OpenShut
import Derived.Stop.Joined
import Derived.ChangeMaps5
import Derived.Lay
import Derived.Test.YtpjgdgdnbkjoiaaGreatDoorQy

namespace Go.Proofs.YtpjgdgdnbkjoiaaGreatDoor
open Go.Proofs.Tryz
open Go Go.Lw Go.ChangeShapes Go.WideShapes Go.ChangeAt Go.RowKit
set_option maxRecDepth 20000
theorem own:ownKnob Tryz.prog.godebug=none:=by kernel_rfl
theorem laidOut:laidOutB Tryz.prog=true:=by kernel_rfl
theorem Hr (c:UInt8):((lM (c.toNat:Int) [((42:Int),(4:Int)),(43,5),(63,6)]).map (Value.int .i64)).getD (Value.int .i64 0)=Value.int .i64 (dD c:Nat):=by
  have hc:∀n:Nat,n<256->(c.toNat=n↔c=UInt8.ofNat n):=fun n hn=>by
    rw[<-UInt8.toNat_inj];simp;rw[Nat.mod_eq_of_lt hn]
  simp only[lM,dD]
  by_cases h1:c=42
  · subst h1;rfl
  by_cases h2:c=43
  · subst h2;rfl
  by_cases h3:c=63
  · subst h3;rfl
  have n1:¬(c.toNat:Int)=42:=fun e=>h1 ((hc 42 (by decide)).1 (by omega))
  have n2:¬(c.toNat:Int)=43:=fun e=>h2 ((hc 43 (by decide)).1 (by omega))
  have n3:¬(c.toNat:Int)=63:=fun e=>h3 ((hc 63 (by decide)).1 (by omega))
  simp[h1,h2,h3,n1,n2,n3]
theorem Ii {W:World}{g t:Nat}{cs:Array Value}{fuel:Nat}{pl:List MemPlace}{sp:Nat->Bool}{held:Bool}{enc:TypeId×Value->Unit}(hg:Tryz.prog.globalNamed "limner/regs.signs" =some g) (ht:(Tryz.prog.globals[g]?).map (·.type)=some t) (hv:W.var? Tryz.prog "limner/regs.signs" =some cs)
    (hd:DataW.trod enc Tryz.prog W 0 sp held fuel t cs.toList=some (Rows.laid_limner_regs_signs,pl)):Sg W.heap W.heap.size:=by
  have gT:Tryz.prog.globalNamed "limner/regs.signs" =some 4:=by kernel_rfl
  have tT:(Tryz.prog.globals[4]?).map (·.type)=some 272:=by kernel_rfl
  obtain rfl:=Option.some.inj (gT.symm.trans hg);obtain rfl:=Option.some.inj (tT.symm.trans ht);obtain⟨b,hcs,l,hm,hp⟩:=I3 (kk:=.u8) (kd:=.i64) underlying272 underlying5 underlying3 hd
  have hcell:W.cell? ⟨4,0,none⟩=some (.map (some b)):=by
    have:=World.var?_cell hg hv 0;obtain⟨l1⟩:=cs;simp only at hcs;subst hcs;simpa using this
  have hc2:cellAt W.heap ⟨4,0,none⟩=some (.map (some b)):=(At.refl W).cell _▸hcell
  have hperm:l.Perm [((42:Int),(4:Int)),(43,5),(63,6)]:=by
    have hinj:∀p q:Int×Int,((.int .u8 p.1,.lit (.int .i64 p.2)):Lit×DataW Unit)=(.int .u8 q.1,.lit (.int .i64 q.2))->p=q:=by
      intro p q h;simp only[Prod.mk.injEq,Lit.int.injEq,DataW.lit.injEq,true_and] at h;exact Prod.ext h.1 h.2
    have hp':(l.map fun p=>((.int .u8 p.1,.lit (.int .i64 p.2)):Lit×DataW Unit)).Perm ([((42:Int),(4:Int)),(43,5),(63,6)].map fun p=>((.int .u8 p.1,.lit (.int .i64 p.2)):Lit×DataW Unit)):=hp
    have hback:∀m:List (Int×Int),(m.map fun p=>((.int .u8 p.1,.lit (.int .i64 p.2)):Lit×DataW Unit)).map (fun y=>match y with|(.int _ a,.lit (.int _ b))=>(a,b)|_=>((0:Int),(0:Int)))=m:=by
      intro m;rw[List.map_map];have:((fun y=>match y with|(.int _ a,.lit (.int _ b))=>(a,b)|_=>((0:Int),(0:Int)))∘fun p=>((.int .u8 p.1,.lit (.int .i64 p.2)):Lit×DataW Unit))=id:=by funext p;rfl
      rw[this,List.map_id]
    have:=hp'.map (fun y=>match y with|(.int _ a,.lit (.int _ b))=>(a,b)|_=>((0:Int),(0:Int)))
    rwa [hback,hback] at this
  refine⟨b,cY hc2,hm.lt,hc2,l,hm,fun c=>?_⟩;rw[JK hperm (by decide)];exact Hr c
end Go.Proofs.YtpjgdgdnbkjoiaaGreatDoor
namespace Go.Proofs.YtpjgdgdnbkjoiaaGreatDoor
open Go.Proofs.Tryz
open Go Go.Lw
set_option maxRecDepth 20000 set_option maxHeartbeats 4000000
section
variable {h:ai}{b:Nat}{v p:Value}{l:List UInt8}{d:bK}
theorem bInfo:∃j,Tryz.prog.info? 218=some j/\j.size≠0:=⟨_,rfl,by decide⟩
theorem Ma:∃i,Tryz.prog.info? 5=some i/\i.zero=some (.int .u8 0)/\i.size=1/\i.bytes=1:=⟨_,rfl,rfl,rfl,rfl⟩
theorem OC:liesAt Tryz.prog Tryz.prog.depth 218 (2 / Tryz.prog.cellsOf 218) 0 218 1=true:=by kernel_rfl
theorem Kl:Tryz.prog.cellsOf 5=1:=by kernel_rfl
theorem uM (hb:aE h b 218 [.pointer none,v]) :
 af Tryz.prog 182 #[.pointer (some ⟨b,0,none⟩)] h (aX fun _ h'=>aE h' b 218 [.pointer (some ⟨b,0,none⟩),v]/\Ext (fun i=>i=b) h h'/\h'.size=h.size):=by
 obtain⟨j,hj,hj0⟩:=bInfo;refine cu ?_;refine ah ?_;refine xp rfl (aM rfl (hb.cell (i:=0) rfl)) ?_;refine xp rfl (an.eH underlying215 rfl rfl) ?_;refine ah ?_;refine mX rfl (by decide) ?_;refine eu ?_
 iterate 2 refine b7 ?_
 refine xp rfl (an.HS underlying215 underlying263 hj hj0 hb (by simp) rfl) ?_;refine xp rfl (an.IK func202 (by decide +kernel) (by kernel_rfl) (by kernel_rfl) (by kernel_rfl) rfl) ?_;refine xp rfl (an.El underlying263 underlying215 hj hb OC rfl) ?_;refine ah ?_;refine bQ rfl (gq rfl rfl hb) ?_;rintro _ h1 ⟨rfl,hb1,hx1,hs1⟩;refine ah ?_;refine J7 ?_;exact⟨_,rfl,hb1,hx1,hs1⟩
theorem xE (hb:aE h b 218 [.pointer (some ⟨b,0,none⟩),v]) :
 af Tryz.prog 182 #[.pointer (some ⟨b,0,none⟩)] h (aX fun _ h'=>aE h' b 218 [.pointer (some ⟨b,0,none⟩),v]/\Ext (fun i=>i=b) h h'/\h'.size=h.size):=by
 obtain⟨j,hj,hj0⟩:=bInfo;refine cu ?_;refine ah ?_;refine xp rfl (aM rfl (hb.cell (i:=0) rfl)) ?_;refine xp rfl (an.eH underlying215 rfl rfl) ?_;refine ah ?_;refine mQ rfl Bool.false_ne_true ?_;refine ah ?_;refine xp rfl (aM rfl (hb.cell (i:=0) rfl)) ?_;refine b7 ?_;refine xp rfl (an.DZ underlying215 hj rfl rfl) ?_;refine ah ?_;refine mQ rfl Bool.false_ne_true ?_;refine ah ?_;refine J7 ?_;exact⟨_,rfl,hb,Ext.refl _ _,rfl⟩
theorem iX (hb:aE h b 218 [p,v]) (hp:p= .pointer none\/p= .pointer (some ⟨b,0,none⟩)) :
 af Tryz.prog 182 #[.pointer (some ⟨b,0,none⟩)] h (aX fun _ h'=>aE h' b 218 [.pointer (some ⟨b,0,none⟩),v]/\Ext (fun i=>i=b) h h'/\h'.size=h.size):=by
 rcases hp with rfl|rfl
 · exact uM hb
 · exact xE hb
theorem eZ (s:ByteArray) (hb:pM h b 218 5 l) (hl:l.length+s.size<=140737488355328) :
 af Tryz.prog 134 #[.pointer (some ⟨b,0,none⟩),.string s] h (aX fun r h'=>r= .tuple #[.int .i64 s.size,.nilIface]/\pM h' b 218 5 (l++s.data.toList)/\Ext (fun i=>b<=i) h h'):=by
 obtain⟨i,hi,hi0,hi1,hi2⟩:=Ma;obtain⟨p,v,hk,hp,hv⟩:=hb;have hlt:=hk.lt;refine cu ?_;refine ah ?_;refine xo rfl (bl rfl (iX hk hp)) ?_;rintro _ h1 ⟨hk1,hx1,hs1⟩;refine ah ?_;have hv1:JY h1 (b+1) 5 v l:=ax.ext hx1 hv (fun g hg=>by have:=iC hv g hg.symm;omega);refine xp rfl (aM rfl (hk1.cell (i:=1) rfl)) ?_;refine ah ?_;refine xo rfl (az.Hs underlying216 underlying9 hi hi0 hi1 hi2 rfl rfl hv1 hl (by omega)) ?_;rintro v2 h2 ⟨ho2,hx2⟩;refine ah ?_;have hk2:=hk1.ext hx2 (fun hm=>by have:=iC hv1 b hm;omega);obtain⟨oa2,c2,rfl,-⟩:=ax.open ho2;refine bQ rfl (gq rfl rfl hk2) ?_;rintro _ h3 ⟨rfl,hk3,hx3,hs3⟩;refine ah ?_;refine bE ?_;have ho3:JY h3 (b+1) 5 _ (l++s.data.toList):=ax.ext hx3 ho2 (fun g hg=>by have:=iC ho2 g hg.symm;omega);exact⟨_,rfl,rfl,⟨_,_,hk3,.inr rfl,ho3⟩,((hx1.mono (fun _ _ k=>by show b<=_;omega)).trans (hx2.mono (fun g _ k=>by have:=iC hv1 g k;show b<=g;omega))).trans (hx3.mono (fun _ _ k=>by show b<=_;omega))⟩
theorem pM.aj {h h':ai}{b:Nat}{l:List UInt8}(k:pM h b 218 5 l) (e:ak h h'):pM h' b 218 5 l:=by
 obtain⟨p,v,hk,hp,hv⟩:=k;exact⟨p,v,hk.aj e,hp,cg.aj hv e⟩
theorem qi (hb:pM h b 218 5 l) (hl:l.length<=140737488355328) :
 af Tryz.prog 137 #[.pointer (some ⟨b,0,none⟩)] h (aX fun r h'=>r= .string ⟨l.toArray⟩/\Ext (fun i=>b<=i) h h'):=by
 obtain⟨p,v,hk,hp,hv⟩:=hb;obtain⟨oa,c,rfl,hw⟩:=ax.open hv;have hc1:=hk.cell (i:=1) rfl;refine cu ?_;refine ah ?_;refine vi 12 (fun i=>b+1<=i) (fun i=>Nat.blt i 12) ?_;refine aZ 0 ?_;refine aZ 1 ?_;refine aZ 2 ?_;refine cA 3 rfl (fun h' e=>aM rfl (e.cell (by show ¬b+1<=b;omega) hc1)) ?_;refine aZ 5 ?_;refine aZ 6 ?_;refine aZ 7 ?_;refine cA 8 rfl (fun h' e=>aM rfl (e.cell (by show ¬b+1<=b;omega) hc1)) ?_;refine aZ 9 ?_;refine iL 4 rfl (az.Ge underlying253 rfl hv) ?_;rintro u h1 ⟨⟨q,rfl,hs⟩,he⟩;refine⟨fun _=>he.of,?_⟩;refine iL 10 rfl (tI underlying253 Kl rfl rfl hs hl) ?_;rintro _ h2 ⟨rfl,hx2⟩;refine⟨fun _=>hx2,?_⟩;refine aZ 11 ?_;refine pQ ?_;refine bE ?_;exact⟨_,rfl,rfl,(ak.of he).trans (hx2.mono (fun g _ k=>by have:b+1<=g:=k;show b<=g;omega))⟩
def tH (h:ai):Prop:=BA Tryz.prog h "internal/strconv.uint64pow10" =some (Lib.pow10Tab.map fun z=>Value.int .u64 z).toArray
theorem tH.aj {h':ai}(k:tH h) (e:ak h h'):tH h':=Ds e k
theorem Ei (hg:tH h) (n:Int) (hn : -9223372036854775808<=n/\n<=9223372036854775807) :
 af Tryz.prog 135 #[.int .i64 n] h (aX fun r h'=>r= .string (bs (Lib.itoa n))/\ak h h'):=by
 refine af.oY fun w hw=>?_
 subst hw;refine(Tryz.strconv_Itoa n hn.1 hn.2 w hg).mono ?_;rintro e w' ⟨rfl,k,os,rfl⟩;refine⟨_,rfl,⟨rfl,?_⟩,rfl,rfl,rfl⟩;refine⟨by simp[Go.Sort.grow],fun b hb _=>?_⟩;simp[Go.Sort.grow,Array.getElem?_append_left hb]
theorem uG (c:UInt8) (hb:pM h b 218 5 l) (hl:l.length<=900000000) :
 af Tryz.prog 136 #[.pointer (some ⟨b,0,none⟩),.int .u8 (c.toNat:Nat)] h (aX fun _ h'=>pM h' b 218 5 (l++[c])/\Ext (fun g=>b<=g) h h'):=by
 obtain⟨p,v,hk,hp,hv⟩:=hb;have hlt:=hk.lt;refine cu ?_;refine ah ?_;refine xo rfl (bl rfl (iX hk hp)) ?_;rintro _ h1 ⟨hk1,hx1,hs1⟩;refine ah ?_;have hv1:JY h1 (b+1) 5 v l:=ax.ext hx1 hv (fun g hg=>by have:=iC hv g hg.symm;omega);refine xp rfl (aM rfl (hk1.cell (i:=1) rfl)) ?_;refine ah ?_;refine xo rfl (sO [_]) ?_;rintro _ _ ⟨rfl,rfl⟩;refine xo rfl (E1 rfl rfl hv1 rfl rfl) ?_;rintro v2 h2 ⟨ho2,hx2,hx2',hv2⟩;have hk2:=hk1.ext hx2 (fun hm=>by have:=iC hv1 b hm;omega);have ho2':JY h2 (b+1) 5 v2 (l++[c]):=cg.of (ys:=[c]) ho2 rfl rfl rfl;obtain⟨oa2,c2,rfl,-⟩:=ho2.open;refine ah ?_;refine bQ rfl (gq rfl rfl hk2) ?_;rintro _ h3 ⟨rfl,hk3,hx3,hs3⟩;refine ah ?_;refine bE ?_;exact⟨_,rfl,⟨_,_,hk3,.inr rfl,ax.ext hx3 ho2' (fun g hg=>by have:=iC ho2' g hg.symm;omega)⟩,((hx1.mono (fun _ _ k=>by show b<=_;omega)).trans (hx2.mono (fun g _ k=>by have:=iC hv1 g k;show b<=g;omega))).trans (hx3.mono (fun _ _ k=>by show b<=_;omega))⟩
theorem tj {O:Nat->Prop}(hg:tH h){l:List Int}(hv:bC (.int .i64) h O v l) (hl:l.length<=1000000) (hb:∀n∈l,-9223372036854775808<=n/\n<=9223372036854775807) :
 af Tryz.prog 79 #[v] h (aX fun r h'=>r= .string (bs (gQ l))/\ak h h'):=by
 obtain⟨oa,n,c,rfl,hsl⟩:=hv.open;have hn:=hsl.len;refine cu ?_;refine ah ?_;refine xo rfl (iT) ?_;rintro _ h0 ⟨rfl,hk0,he0,hs0⟩;refine ah ?_;have hb0:pM h0 h.size 218 5 []:=E0 hk0;refine nq (σ:=Nat) (fun i=>[(8,.int .i64 (i:Nat))]) (fun i h'=>i<=n/\ak h h'/\pM h' h.size 218 5 (gQ (l.take i))/\h0.size<=h'.size) (fun i=>n-i) (0) ⟨Nat.zero_le _,he0,hb0,Nat.le_refl _⟩ rfl ?_;rintro i g ⟨hi,eg,hbg,hgz⟩ ih;have hlen:=AT (l.take i) (fun x hx=>hb x (List.mem_of_mem_take hx));rw[List.length_take] at hlen;refine ah ?_;refine bN (fun hlt=>?_) (fun hlt=>?_)
 · obtain⟨b1,o1,x,hoa,_,hx,hcx⟩:=(hsl.mv (Mv.aj eg)).at (show i<n by omega);have hbx:=hb x (List.mem_of_getElem? hx);have hil:=Lib.itoa_length_le x hbx.1 hbx.2;have hbsz:=aF (Lib.itoa x);have hbl:(bs (Lib.itoa x)).data.toList=Lib.itoa x:=by simp[bs]
   have hnx:gQ (l.take (i+1))=gQ (l.take i)++(bs (Lib.itoa x)).data.toList++[32]:=by rw[List.take_add_one,hx,Option.toList_some,I4,hbl]
   iterate 4 refine bZ ?_
   refine eu ?_;refine xp rfl (eK rfl rfl i rfl hoa) ?_;refine xp rfl (aM rfl hcx) ?_;refine ah ?_;refine xo rfl (bl rfl (Ei (hg.aj eg) x hbx)) ?_;rintro _ g1 ⟨rfl,e1⟩;refine xo rfl (bl rfl (eZ (bs (Lib.itoa x)) (pM.aj hbg e1) (by omega))) ?_;rintro _ g2 ⟨rfl,hb2,hx2⟩;refine ah ?_;refine xo rfl (bl rfl (uG 32 hb2 (by rw[List.length_append,hbl];omega))) ?_;rintro _ g3 ⟨hb3,hx3⟩;refine ah ?_;have z1:=e1.size;have z2:=hx2.size;have z3:=hx3.size;rw[<-hnx] at hb3
   have e3:ak h g3:=⟨by have:=eg.size;omega,fun b hb k=>by
    rw[hx3.block b (by have:=eg.size;omega) (by show ¬_<=_;omega),hx2.block b (by have:=eg.size;omega) (by show ¬_<=_;omega),e1.block b (by have:=eg.size;omega) (fun k=>k)];exact eg.block b hb k⟩
   exact ih (i+1) ⟨by omega,e3,hb3,by omega⟩
 · have hie:l.take i=l:=List.take_of_length_le (by omega);rw[hie] at hbg;have hkl:=AT l hb;refine ah ?_;refine xo rfl (bl rfl (qi hbg (by omega))) ?_;rintro _ g1 ⟨rfl,hx1⟩;refine ah ?_;refine bE ?_;exact⟨_,rfl,rfl,⟨by have:=hx1.size;have:=eg.size;omega,fun b hb k=>by rw[hx1.block b (by have:=eg.size;omega) (by show ¬_<=_;omega)];exact eg.block b hb k⟩⟩
def bP (r:Row):List Value:=r.v.map (.int .i64)
@[simp] theorem mB (r:Row):(bP r).length=256:=by simp[bP,r.len]
def FB:iS Row:=.record 256 (by decide) bP mB (fun r v hv=>by simp[bP] at hv;obtain⟨_,_,rfl⟩:=hv;rfl)
def qj (h:ai) (db:Nat) (d:bK):Prop :=
 ∃vn vr,aE h db 167 [vn,vr]/\bC FB h (fun _=>False) vn d.next/\bC (.int .i64) h (fun _=>False) vr d.rule
theorem qj.aj {h h':ai}{db:Nat}{d:bK}(k:qj h db d) (e:ak h h'):qj h' db d:=by
 obtain⟨vn,vr,h1,h2,h3⟩:=k;exact⟨vn,vr,h1.aj e,h2.mv (Mv.aj e),h3.mv (Mv.aj e)⟩
def L5 (h:ai) (p:Value) (d:bK):Prop:=(p= .pointer none/\d=⟨[],[]⟩)\/∃db,p= .pointer (some ⟨db,0,none⟩)/\qj h db d
theorem G8:af Tryz.prog 82 #[.pointer none] h (aX fun r h'=>r= .bool true/\h'=h):=by
 refine cu ?_;refine bZ ?_;refine eu ?_;refine b7 ?_;refine fu ?_;refine bZ ?_;refine jR [(2,.bool true)] rfl ?_ ?_
 · refine b7 ?_;refine xp rfl (an.eH underlying103 rfl rfl) ?_;refine ah ?_;refine RW.dK (d:=5) (b':=true) rfl (rfl) ?_;refine ah ?_;exact bq rfl ⟨aq rfl (rfl),sb rfl⟩
 · refine bE ?_;exact⟨_,rfl,rfl,rfl⟩
theorem CR {db:Nat}(k:qj h db d):af Tryz.prog 82 #[.pointer (some ⟨db,0,none⟩)] h (aX fun r h'=>r= .bool (decide (d.next.length=0))/\h'=h):=by
 obtain⟨vn,vr,hk,⟨na,nn,nc,rfl,hnl,_⟩,h2⟩:=k;refine cu ?_;refine bZ ?_;refine eu ?_;refine b7 ?_;refine fu ?_;refine bZ ?_;refine jR [(2,.bool (decide (d.next.length=0)))] rfl ?_ ?_
 · refine b7 ?_;refine xp rfl (an.eH underlying103 rfl rfl) ?_;refine ah ?_;refine RW.dK (d:=5) (b':=false) rfl (rfl) ?_;refine ah ?_;refine xp rfl (aM rfl (hk.cell (i:=0) rfl)) ?_;refine ah ?_;exact bq rfl ⟨aq rfl (by simp only[decide_eq_decide];omega),sb rfl⟩
 · refine bE ?_;exact⟨_,rfl,rfl,rfl⟩
theorem CQ (k:L5 h p d):af Tryz.prog 82 #[p] h (aX fun r h'=>r= .bool (decide (d.next.length=0))/\h'=h):=by
 rcases k with ⟨rfl,rfl⟩|⟨db,rfl,k⟩
 · exact G8
 · exact CR k
theorem Bc {s:By}{a:Int}(k:L5 h p d) (hok:d.Ok) (hs:s.length<=1000000) :
 af Tryz.prog 174 #[p,.string (bs s),.int .i64 a] h (aX fun r h'=>r= .tuple #[.int .i64 (de d s a).1,.int .i64 (de d s a).2.1,.int .i64 (de d s a).2.2]/\h'=h):=by
 have hbs:=aF s;refine cu ?_;refine bZ ?_;refine eu ?_
 iterate 3 refine b7 ?_
 refine fu ?_;refine bZ ?_;refine eu ?_;refine b7 ?_;refine fu ?_
 iterate 2 refine bZ ?_
 refine jR [(22,.bool (decide (d.next.length=0\/a<0\/(s.length:Int)<a)))] rfl ?_ ?_
 · refine ah ?_;refine xo rfl (bl rfl (CQ k)) ?_;rintro _ h0 ⟨rfl,hh0⟩;subst hh0;refine ah ?_;refine gU 13 (fun hg=>?_) (fun hg=>?_)
   · have hg':=of_decide_eq_true hg;refine ah ?_;exact bq rfl ⟨aq rfl (by simp[hg']),sb rfl⟩
   · have hg':=of_decide_eq_false hg;refine ah ?_;refine gU 17 (fun hg2=>?_) (fun hg2=>?_)
     · have hg2':=of_decide_eq_true hg2;refine ah ?_;exact bq rfl ⟨aq rfl (by simp[hg2']),sb rfl⟩
     · have hg2':=of_decide_eq_false hg2;refine ah ?_;exact bq rfl ⟨aq rfl (by simp only[decide_eq_decide];omega),sb rfl⟩
 · refine bN (fun hz=>?_) (fun hz=>?_)
   · refine ah ?_;refine bE ?_;rw[de,if_pos hz];exact⟨_,rfl,rfl,rfl⟩
   · obtain⟨k0,rfl⟩:=Int.eq_ofNat_of_zero_le (show 0<=a by omega);have hk0:k0<=s.length:=by omega
     have hma:de d s (k0:Nat)=aL d (s.drop k0) 0 0 (0,-1):=by rw[de,if_neg hz];rfl
     rw[hma];generalize htgt:aL d (s.drop k0) 0 0 (0,-1)=tgt
     rcases k with ⟨_,rfl⟩|⟨db,rfl,vn,vr,hk,⟨na,nn,nc,rfl,hnl,_,_,hgetn⟩,⟨ra,rn,rc,rfl,hrl,_,_,hgetr⟩⟩
     exact absurd (.inl rfl) hz;have hlen:=hok.len;have hsize:=hok.size;refine ah ?_;refine Nt (σ:=Int×Nat×Int×Int) (fun q=>[(0,.pointer (some ⟨db,0,none⟩)),(1,.string (bs s)),(2,.int .i64 (k0:Nat)),(6,.int .i64 q.2.2.1),(7,.int .i64 q.2.2.2),(8,.int .i64 (q.2.1:Nat)),(9,.int .i64 q.1)]) (fun q h'=>h'=h/\k0+q.2.1<=s.length/\(0<=q.1->q.1<d.next.length/\aL d (s.drop (k0+q.2.1)) q.1.toNat q.2.1 q.2.2=tgt)/\(q.1<0->(q.2.2.1,q.2.2.2,(q.2.1:Int))=tgt)) (fun q=>2*(s.length-(k0+q.2.1))+(if 0<=q.1 then 1 else 0)) ((0,0,0,-1)) ⟨rfl,by simpa using hk0,fun _=>⟨by show (0:Int)<_;omega,by simpa using htgt⟩,fun k=>absurd k (by decide)⟩ ?_;rintro⟨st,i,b1,b2⟩ g ⟨rfl,hki,hpos,hneg⟩ ih
     try dsimp only
     dsimp only at hki hpos hneg;refine ah ?_;refine bN (fun hst=>?_) (fun hst=>?_)
     · obtain⟨hlt,hcon⟩:=hpos hst;obtain⟨j,rfl⟩:=Int.eq_ofNat_of_zero_le hst;have hcon:aL d (s.drop (k0+i)) j i (b1,b2)=tgt:=hcon;obtain⟨x,hx⟩:∃x,d.rule[j]? =some x:=⟨_,List.getElem?_eq_getElem (by omega)⟩
       have hru:d.ru j=x:=by unfold bK.ru;rw[List.getD_eq_getElem?_getD,hx];rfl
       obtain⟨b,o,cs,ha,_,hrow,rfl⟩:=hgetr j x hx;refine ah ?_;refine xp rfl (aM rfl (hk.cell (i:=1) rfl)) ?_;refine b7 ?_;refine xp rfl (eK rfl rfl j rfl ha) ?_;refine xp rfl (aM rfl (hrow 0 _ rfl)) ?_;refine ah ?_
       have fin:∀(c1 c2:Int) (h':ai) (ρ':Env),Sub [(0,.pointer (some ⟨db,0,none⟩)),(1,.string (bs s)),(2,.int .i64 (k0:Nat)),(6,.int .i64 c1),(7,.int .i64 c2),(8,.int .i64 (i:Nat)),(9,.int .i64 (j:Nat))] ρ'->h'=g->(c1,c2)=(if 0<=d.ru j then ((i:Int),d.ru j) else (b1,b2))->G Tryz.prog 174 f174 [.code [1,0,1,0,0,1,0,1,1,1],.blk 1,.loop [0,0,1,0,1,1,1],.blk 0,.code [1,1,1,1]] ρ' h' (aX fun r h'=>r= .tuple #[.int .i64 tgt.1,.int .i64 tgt.2.1,.int .i64 tgt.2.2]/\h'=g):=by
        rintro c1 c2 g1 ρ' hsub rfl hc;refine G.sub (ρ':=[(0,.pointer (some ⟨db,0,none⟩)),(1,.string (bs s)),(2,.int .i64 (k0:Nat)),(6,.int .i64 c1),(7,.int .i64 c2),(8,.int .i64 (i:Nat)),(9,.int .i64 (j:Nat))]) hsub ?_;refine ah ?_;refine bN (fun hend=>?_) (fun hend=>?_)
        · have hd:s.drop (k0+i)=[]:=List.drop_of_length_le (by omega);rw[hd,aL] at hcon
          have hcon:(c1,c2,(i:Int))=tgt:=by
           rw[<-hcon]
           by_cases h0:0<=d.ru j
           · rw[if_pos h0] at hc ⊢;cases hc;rfl
           · rw[if_neg h0] at hc ⊢;cases hc;rfl
          refine ah ?_;refine bE ?_;exact⟨_,rfl,by rw[<-hcon];rfl,rfl⟩
        · have hki2:k0+i<s.length:=by omega
          have hd:s.drop (k0+i)=s[k0+i]::s.drop (k0+i+1):=List.drop_eq_getElem_cons hki2;rw[hd,aL,<-hc] at hcon;obtain⟨r,hr⟩:∃r,d.next[j]? =some r:=⟨_,List.getElem?_eq_getElem (by omega)⟩
          obtain⟨b3,o3,cs3,ha3,_,hrow3,rfl⟩:=hgetn j r hr;obtain⟨y,hy,he,_⟩:=r.at s[k0+i];have hc8:=s[k0+i].toNat_lt;have hto:d.to j s[k0+i]=y:=by unfold bK.to;rw[hr];exact he
          have hb:=bK.rq hok (s:=j) s[k0+i];rw[hto] at hcon hb;have hcell:cellAt g1 ⟨b3,o3+j*256+s[k0+i].toNat*1,none⟩=some (.int .i64 y):=by rw[Nat.mul_one];exact hrow3 _ _ (by simp[bP,hy])
          refine ah ?_;refine nj rfl (aM rfl (hk.cell (i:=0) rfl)) ?_;refine ah ?_;refine nj rfl (Lp rfl rfl (k0+i) (by omega) (iq (List.getElem?_eq_getElem hki2))) ?_;refine nj rfl (eK rfl rfl j rfl ha3) ?_;refine nj rfl (Dl rfl rfl s[k0+i].toNat rfl (by omega)) ?_;refine nj rfl (aM rfl hcell) ?_;refine ah ?_;refine bN (fun hy0=>?_) (fun hy0=>?_)
          · rw[if_pos hy0] at hcon;obtain⟨j2,rfl⟩:=Int.eq_ofNat_of_zero_le hy0;refine ah ?_;exact ih ((j2:Int),i+1,c1,c2) ⟨rfl,by show k0+(i+1)<=s.length;omega,fun _=>⟨hb.2,by show aL d (s.drop (k0+(i+1))) _ _ _=tgt;rw[show k0+(i+1)=k0+i+1 by omega];exact hcon⟩,fun k=>absurd k (by show ¬(j2:Int)<0;omega)⟩ (by show 2*(s.length-(k0+(i+1)))+(if (0:Int)<=(j2:Nat) then 1 else 0)<2*(s.length-(k0+i))+(if (0:Int)<=(j:Nat) then 1 else 0);rw[if_pos (by omega),if_pos (by omega)];omega)
          · rw[if_neg hy0] at hcon;refine ah ?_;exact ih (y,i,c1,c2) ⟨rfl,hki,fun k=>absurd k hy0,fun _=>by show (c1,c2,(i:Int))=tgt;rw[<-hcon];by_cases h0:0<=d.ru j;(rw[if_pos h0] at hc ⊢;cases hc;rfl);(rw[if_neg h0] at hc ⊢;cases hc;rfl)⟩ (by show 2*(s.length-(k0+i))+(if (0:Int)<=y then 1 else 0)<2*(s.length-(k0+i))+(if (0:Int)<=(j:Nat) then 1 else 0);rw[if_neg hy0,if_pos (by omega)];omega)
       refine bN (fun hr=>?_) (fun hr=>?_)
       · refine eu ?_
         iterate 4 refine b7 ?_
         refine fu ?_;exact fin _ _ _ _ (by exact sb rfl) rfl (by rw[hru,if_pos hr])
       · refine bZ ?_;exact fin _ _ _ _ (by exact sb rfl) rfl (by rw[hru,if_neg hr])
     · have hcon:=hneg (by omega);refine ah ?_;refine bE ?_;exact⟨_,rfl,by rw[<-hcon];rfl,rfl⟩
end
end Go.Proofs.YtpjgdgdnbkjoiaaGreatDoor
namespace Go.Proofs.YtpjgdgdnbkjoiaaGreatDoor
open Go Go.Lw
set_option maxRecDepth 20000
def OV (h:ai) (O:Nat->Prop) (cs:List Value) (x:List Nat):Prop:=∃v,cs=[v]/\bC ic h O v x
def Es:iS (List Nat):=⟨1,by decide,OV,fun h=>by obtain⟨v,rfl,_⟩:=h;rfl,fun h=>by
    obtain⟨v,rfl,hv⟩:=h;intro u hu;simp at hu;subst hu;exact bC.LJ hv,fun h m=>by
    obtain⟨v,hc,hv⟩:=h;exact⟨v,hc,hv.mv m⟩⟩
def nK:Nat->List (List Nat)->List (ByteArray×Int)
  |_,[]=>[]
  |i,x::r=>(bs (AU x),(i:Int))::nK (i+1) r
theorem y9:∀(ls:List (List Nat)) (i:Nat) (l:List Nat),nK i (ls++[l])=nK i ls++[(bs (AU l),((i+ls.length:Nat):Int))]
  | [],i,l=>by simp[nK]
  |x::r,i,l=>by
    simp only[List.cons_append,nK];rw[y9 r (i+1) l,List.length_cons,show i+1+r.length=i+(r.length+1) by omega]
theorem xP:∀(ls:List (List Nat)) (i:Nat) (l:List Nat),lM (bs (AU l)) (nK i ls)=(p8 i ls l).map fun j=>(j:Int)
  | [],i,l=>rfl
  |x::r,i,l=>by
    rw[nK,lM,p8]
    by_cases h:l=x
    · subst h;rw[if_pos rfl,if_pos rfl];rfl
    · have hk:¬bs (AU l)=bs (AU x):=fun e=>h (I6 (gX e))
      rw[if_neg hk,if_neg h];exact xP r (i+1) l
theorem Df {h:ai}{O:Nat->Prop}{v:Value}{l:List Nat}(k:bC ic h O v l):bC (.int .i64) h O v (l.map Int.ofNat):=by
  obtain⟨oa,n,c,rfl,hl,hnc,hc,hg⟩:=k;refine⟨oa,n,c,rfl,by simpa using hl,hnc,hc,fun i x hx=>?_⟩;rw[List.getElem?_map] at hx;cases hs:l[i]? with
  |none=>rw[hs] at hx;cases hx
  |some s =>
    rw[hs] at hx;simp only[Option.map_some,Option.some.injEq] at hx;subst hx;obtain⟨b,o,cs,h1,h2,h3,h4⟩:=hg i s hs;exact⟨b,o,cs,h1,h2,h3,h4⟩
structure ja (h0 h:ai) (C:Nat->Prop) (db mb:Nat) (vl vn vr:Value) (lists:List (List Nat)) (next:List Row) (rule:List Int):Prop where
  ext:ak h0 h
  dblk:aE h db 167 [vn,vr]
  nx:gP 256 bP h h0.size 171 vn next
  ru:cg (Value.int .i64) h h0.size 3 vr rule
  mp:fP Value.string (Value.int .i64) h mb (nK 0 lists)
  ls:fm Es (fun b=>¬C b) h h0.size 78 vl lists
  cty:∀b,C b->bD h b 3
  cr:∀b,vr.ownBlock=some b->¬C b
  dge:h0.size<=db
  mge:h0.size<=mb
section
variable {h0 h:ai}{C:Nat->Prop}{db mb:Nat}{vl vn vr:Value}{lists:List (List Nat)}{next:List Row}{rule:List Int}
theorem ja.IT (k:ja h0 h C db mb vl vn vr lists next rule):∀b,vl.ownBlock=some b->bD h b 78:=fun b hb=>by
  obtain⟨css,_,h2,_⟩:=k.ls;exact h2.ty hb
theorem ja.Gy (k:ja h0 h C db mb vl vn vr lists next rule):∀b,vn.ownBlock=some b->bD h b 171:=fun _ hb=>ax.ty k.nx hb
theorem ja.Fa (k:ja h0 h C db mb vl vn vr lists next rule):∀b,vr.ownBlock=some b->bD h b 3:=fun _ hb=>ax.ty k.ru hb
theorem ja.QS (k:ja h0 h C db mb vl vn vr lists next rule):∀b,vl.ownBlock=some b->h0.size<=b:=fun b hb=>by
  obtain⟨css,_,h2,_⟩:=k.ls;exact(h2.lt hb).1
theorem ja.aj {h':ai}(k:ja h0 h C db mb vl vn vr lists next rule) (e:ak h h'):ja h0 h' C db mb vl vn vr lists next rule :=
  ⟨k.ext.trans e,k.dblk.aj e,gP.aj k.nx e,cg.aj k.ru e,k.mp.ext e (fun k=>k),k.ls.aj e,fun b hb=>(k.cty b hb).ext e (fun k=>k),k.cr,k.dge,k.mge⟩
theorem ja.put {h':ai}{x:Nat}(k:ja h0 h C db mb vl vn vr lists next rule) (e:Ext (fun b=>b=x) h h') (hx:bD h x 171) (hn:vn.ownBlock≠some x) (hge:h0.size<=x):ja h0 h' C db mb vl vn vr lists next rule:=by
  have hd:¬db=x:=k.dblk.ty.ne hx (by decide);have hm:¬mb=x:=k.mp.ne hx;have hl:∀b,vl.ownBlock=some b->¬b=x:=fun b hb=>(k.IT b hb).ne hx (by decide)
  have hr:∀b,vr.ownBlock=some b->¬b=x:=fun b hb=>(k.Fa b hb).ne hx (by decide)
  have hc:∀b,C b->¬b=x:=fun b hb=>(k.cty b hb).ne hx (by decide)
  exact⟨ak.only k.ext e hge,k.dblk.ext e hd,ax.ext e k.nx (fun b hb hbx=>hn (by subst hbx;exact hb)),ax.ext e k.ru hr,k.mp.ext e hm,
    k.ls.Fm e hl (fun b _ hb hC=>hc b hC hb) (fun _ _ k=>k),fun b hb=>(k.cty b hb).ext e (hc b hb),k.cr,k.dge,k.mge⟩
end
section
variable {h0 h:ai}{C:Nat->Prop}{db mb:Nat}{vl vn vr:Value}{lists:List (List Nat)}{next:List Row}{rule:List Int}
theorem ja.Mj {g3 g4:ai}{v3:Value}{r:Row}{n:Nat}(k:ja h0 h C db mb vl vn vr lists next rule) (hn:n=next.length) (ho:ax g3 h0.size 171 256 v3 (n+1) (next.flatMap bP++bP r)) (hx:Ext (bV vn.ownBlock) h g3) (hd:aE g4 db 167 [v3,vr]) (x4:Ext (fun b=>b=db) g3 g4) :
    ja h0 g4 C db mb vl v3 vr lists (next++[r]) rule:=by
  have nne:∀{b:Nat}{t:TypeId},bD h b t->171≠t->¬bV vn.ownBlock b:=fun kt ht e=>(k.Gy _ e.symm).ne kt ht rfl
  have d3:=k.dblk.ext hx (nne k.dblk.ty (by decide));have dne:∀{b:Nat}{t:TypeId},bD g3 b t->167≠t->¬b=db:=fun kt ht e=>by subst e;exact d3.ty.ne kt ht rfl
  have mne:¬bV vn.ownBlock mb:=fun e=>k.mp.ne (k.Gy _ e.symm) rfl
  have hm3:=k.mp.ext hx mne;have hdlt:=k.dblk.lt;have ru3:=ax.ext hx k.ru (fun b hb=>nne (k.Fa b hb) (by decide));have ls3:fm Es (fun b=>¬C b) g3 h0.size 78 vl lists:=k.ls.Fm hx (fun b hb=>nne (k.IT b hb) (by decide)) (fun b _ hb hC=>nne (k.cty b hC) (by decide) hb) (fun _ _ k=>k);have lty3:∀b,vl.ownBlock=some b->bD g3 b 78:=fun b hb=>(k.IT b hb).ext hx (nne (k.IT b hb) (by decide))
  have cty3:∀b,C b->bD g3 b 3:=fun b hb=>(k.cty b hb).ext hx (nne (k.cty b hb) (by decide))
  refine⟨⟨by have:=k.ext.size;have:=hx.size;have:=x4.size;omega,fun b hb kk=>?_⟩,hd,?_,ax.ext x4 ru3 (fun b hb=>dne (ax.ty ru3 hb) (by decide)),hm3.ext x4 (hm3.ne d3.ty),ls3.Fm x4 (fun b hb=>dne (lty3 b hb) (by decide)) (fun b _ hb hC=>dne (cty3 b hC) (by decide) hb) (fun _ _ k=>k),fun b hb=>(cty3 b hb).ext x4 (dne (cty3 b hb) (by decide)),k.cr,k.dge,k.mge⟩
  · rw[x4.block b (by have:=k.ext.size;have:=hx.size;omega) (by have:=k.dge;omega),hx.block b (by have:=k.ext.size;omega) (fun e=>by have:=(ax.lt k.nx e.symm).1;omega)];exact k.ext.block b hb kk
  · exact ax.ext x4 (gP.of ho hn rfl) (fun b hb=>dne (ax.ty ho hb) (by decide))
theorem ja.Mi {g3 g4:ai}{v3:Value}{x:Int}{n:Nat}(k:ja h0 h C db mb vl vn vr lists next rule) (hn:n=rule.length) (ho:ax g3 h0.size 3 1 v3 (n+1) (rule.map (Value.int .i64)++[.int .i64 x])) (hx:Ext (bV vr.ownBlock) h g3) (hv:∀b,v3.ownBlock=some b->vr.ownBlock=some b\/h.size<=b) (hd:aE g4 db 167 [vn,v3]) (x4:Ext (fun b=>b=db) g3 g4) :
    ja h0 g4 C db mb vl vn v3 lists next (rule++[x]):=by
  have nne:∀{b:Nat}{t:TypeId},bD h b t->3≠t->¬bV vr.ownBlock b:=fun kt ht e=>(k.Fa _ e.symm).ne kt ht rfl
  have cne:∀{b:Nat},C b->¬bV vr.ownBlock b:=fun hC e=>k.cr _ e.symm hC
  have d3:=k.dblk.ext hx (nne k.dblk.ty (by decide));have dne:∀{b:Nat}{t:TypeId},bD g3 b t->167≠t->¬b=db:=fun kt ht e=>by subst e;exact d3.ty.ne kt ht rfl
  have mne:¬bV vr.ownBlock mb:=fun e=>k.mp.ne (k.Fa _ e.symm) rfl
  have hm3:=k.mp.ext hx mne;have nx3:=ax.ext hx k.nx (fun b hb=>nne (k.Gy b hb) (by decide));have ls3:fm Es (fun b=>¬C b) g3 h0.size 78 vl lists:=k.ls.Fm hx (fun b hb=>nne (k.IT b hb) (by decide)) (fun b _ hb hC=>cne hC hb) (fun _ _ k=>k);have lty3:∀b,vl.ownBlock=some b->bD g3 b 78:=fun b hb=>(k.IT b hb).ext hx (nne (k.IT b hb) (by decide))
  have cty3:∀b,C b->bD g3 b 3:=fun b hb=>(k.cty b hb).ext hx (cne hb)
  refine⟨⟨by have:=k.ext.size;have:=hx.size;have:=x4.size;omega,fun b hb kk=>?_⟩,hd,ax.ext x4 nx3 (fun b hb=>dne (ax.ty nx3 hb) (by decide)),?_,hm3.ext x4 (hm3.ne d3.ty),ls3.Fm x4 (fun b hb=>dne (lty3 b hb) (by decide)) (fun b _ hb hC=>dne (cty3 b hC) (by decide) hb) (fun _ _ k=>k),fun b hb=>(cty3 b hb).ext x4 (dne (cty3 b hb) (by decide)),fun b hb hC=>?_,k.dge,k.mge⟩
  · rw[x4.block b (by have:=k.ext.size;have:=hx.size;omega) (by have:=k.dge;omega),hx.block b (by have:=k.ext.size;omega) (fun e=>by have:=(ax.lt k.ru e.symm).1;omega)];exact k.ext.block b hb kk
  · exact ax.ext x4 (cg.of (ys:=[x]) ho hn rfl rfl) (fun b hb=>dne (ax.ty ho hb) (by decide))
  · rcases hv b hb with e|e
    · exact k.cr b e hC
    · have:=(k.cty b hC).lt;omega
end
def Bv (res:Int ⊕ bK) (h':ai) (r:Value):Prop:=match res with
  |.inl e=>r= .tuple #[.pointer none,.int .i64 e]
  |.inr d=>∃db,r= .tuple #[.pointer (some ⟨db,0,none⟩),.int .i64 0]/\qj h' db d
end Go.Proofs.YtpjgdgdnbkjoiaaGreatDoor
namespace Go.Proofs.YtpjgdgdnbkjoiaaGreatDoor
open Go.Proofs.Tryz
open Go Go.Lw
set_option maxRecDepth 20000 set_option maxHeartbeats 4000000
section
variable {h:ai}{d:bK}{live:List Bool}{cls:List Int}
theorem CS {O:Nat->Prop}{nb:Nat}{v:Value}{ss:List bA}{st:Nat}(htens:tH h) (hn:bO h O nb v ss st) (hgood:Good ss) (hss:ss.length<=30000) (hst:st<ss.length) (hpot1:1+tR ss (List.replicate ss.length false)<=1000000)
 (hpot:∀c now,List.Sublist now (List.range ss.length)->(stepG ss c now []).length+tR ss (List.replicate ss.length false)<=1000000) :
 af Tryz.prog 39 #[.pointer (some ⟨nb,0,none⟩)] h (aX fun r h'=>Bv (gI ss st) h' r/\ak h h'):=by
 generalize hres:gI ss st=res
 have hint:∀l:List Nat,l.Sublist (List.range ss.length)->(l.map Int.ofNat).length<=1000000/\∀n∈l.map Int.ofNat,-9223372036854775808<=n/\n<=9223372036854775807:=fun l hl=>by
  have h1:=hl.length_le;rw[List.length_range] at h1;refine⟨by rw[List.length_map];omega,fun n hn=>?_⟩;obtain⟨j,hj,rfl⟩:=List.mem_map.1 hn;have:=List.mem_range.1 (hl.subset hj);simp only[Int.ofNat_eq_natCast];omega
 refine cu ?_;refine ah ?_;refine xo rfl (bl rfl (BL hn hgood (by omega) (.inr hst) hpot1)) ?_;rintro w4 h1 ⟨ho1,e1⟩;have hsub0:=DG ss st;generalize hl0:bX ss st=l0 at *;have hi0:=hint l0 hsub0;obtain⟨wa,wc,rfl,_⟩:=(show ax h1 h.size 3 1 w4 l0.length (l0.map cN) from ho1).open;refine ah ?_;refine bN (fun hz=>?_) (fun hz=>?_)
 · refine ah ?_;refine bE ?_;have:res= .inl 1:=by rw[<-hres,gI,hl0,if_pos (by omega)]
   subst this;exact⟨_,rfl,rfl,e1⟩
 · have hres':res=match kN ss 2002 0 [l0] [] [] with|none=>.inl 70|some d=>.inr d:=by rw[<-hres,gI,hl0,if_neg (by omega)]<;>rfl
   refine ah ?_;refine xp rfl (aB (H.JI ) rfl) ?_;refine xo rfl (nk) ?_;rintro _ h2 ⟨rfl,k2,e2,z2⟩;refine ah ?_;refine xo rfl (oN (ek:=Value.string) (ev:=Value.int .i64)) ?_;rintro _ h3 ⟨rfl,hm3,e3,z3⟩;have k2:aE h2 h1.size 167 [.slice none 0 0,.slice none 0 0]:=k2;have e13:=e2.trans e3;have hz1:=e1.size;refine ah ?_;refine xo rfl (bl rfl (tj ((htens.aj e1).aj e13) (Df (bC.mv (cg.read (O:=fun _=>False) (h1:=fun _=>rfl) ho1 (fun _ _ k=>k)) (Mv.aj e13))) hi0.1 hi0.2)) ?_;rintro _ h4 ⟨rfl,e4⟩;have hm4:=hm3.ext e4 (fun k=>k);have z4:=e4.size;refine bQ rfl (yh (v:=(0:Int)) jN.str underlying169 underlying9 rfl rfl rfl rfl rfl hm4 (rfl:lM (bs (gQ (l0.map Int.ofNat))) []=none)) ?_;rintro _ h5 ⟨rfl,hm5,x5,z5⟩;have hm5:fP Value.string (Value.int .i64) h5 h2.size (nK 0 [l0]):=hm5;have e05:ak h h5:=ak.only ((e1.trans e13).trans e4) x5 (by omega);have ho5:cg cN h5 h.size 3 (.slice wa l0.length wc) l0:=ax.ext x5 (cg.aj (cg.aj ho1 e13) e4) (fun b hb (e:b=h2.size)=>by have:=(ax.lt ho1 hb).2;omega);have k5:aE h5 h1.size 167 [.slice none 0 0,.slice none 0 0]:=((k2.aj e3).aj e4).ext x5 (by show ¬_=_;omega);refine ah ?_;refine xo rfl (sO [_]) ?_;rintro _ _ ⟨rfl,rfl⟩;refine ah ?_;have e56:ak h5 (h5.push (.cells #[.slice wa l0.length wc] 78)):=Ext.push _ _ _
   have ls6:fm Es (fun b=>¬bV (Value.slice wa l0.length wc).ownBlock b) (h5.push (.cells #[.slice wa l0.length wc] 78)) h.size 78 (.slice (some ⟨h5.size,0,none⟩) 1 1) [l0] :=
    fm.mT (e:=Es) (cs:=[.slice wa l0.length wc]) ⟨_,rfl,ax.Ij (h1:=fun _=>rfl) ho5 (fun b hb k=>k hb.symm)⟩ e05.size
   generalize h5.push (.cells #[.slice wa l0.length wc] 78)=h6 at *
   have mk6:ja h h6 (bV (Value.slice wa l0.length wc).ownBlock) h1.size h2.size (.slice (some ⟨h5.size,0,none⟩) 1 1) (.slice none 0 0) (.slice none 0 0) [l0] [] [] :=
    ⟨e05.trans e56,k5.aj e56,gP.nil _ _ _ _ _,cg.nil _ _ _ _,hm5.ext e56 (fun k=>k),ls6,fun b hb=>bD.ext (ax.ty ho5 hb.symm) e56 (fun k=>k),fun b hb=>(by cases hb),hz1,by omega⟩
   refine Nt (σ:=Nat×Value) (fun q=>[(0,.pointer (some ⟨nb,0,none⟩)),(5,.pointer (some ⟨h1.size,0,none⟩)),(6,.map (some h2.size)),(7,q.2),(8,.int .i64 (q.1:Nat))]) (fun q h'=>∃C vn vr lists next rule,ja h h' C h1.size h2.size q.2 vn vr lists next rule/\q.1<=lists.length/\lists.length<=2000/\(next.length=q.1/\rule.length=q.1)/\(∀l∈lists,l.Sublist (List.range ss.length))/\res=(match kN ss (2002-q.1) q.1 lists next rule with|none=>.inl 70|some d=>.inr d)) (fun q=>2002-q.1) ((0,.slice (some ⟨h5.size,0,none⟩) 1 1)) ⟨_,_,_,[l0],[],[],mk6,Nat.zero_le _,by simp,⟨rfl,rfl⟩,fun l hl=>by simp at hl;subst hl;exact hsub0,hres'⟩ ?_;rintro⟨i,vl⟩ g ⟨C,vn,vr,lists,next,rule,mk,hi,hl2,⟨hnl,hrl⟩,hsl,hcon⟩ ih
   try dsimp only
   dsimp only at mk hi hnl hrl hcon;obtain⟨css,hc1,hc2,hc3⟩:=id mk.ls;obtain⟨la,lc,rfl,_⟩:=hc2.open;have hng:bO g O nb v ss st:=hn.aj mk.ext (fun _ _ k=>k);have mkg:=mk;refine ah ?_;refine bN (fun hlt=>?_) (fun hlt=>?_)
   · have hil:i<lists.length:=by omega
     obtain⟨cur,hcur⟩:∃cur,lists[i]? =some cur:=⟨_,List.getElem?_eq_getElem hil⟩
     have hcsub:=hsl cur (List.mem_of_getElem? hcur);obtain⟨n,hnn⟩:∃n,2002-i=n+1:=⟨2001-i,by omega⟩
     rw[hnn,kN,hcur] at hcon;simp only at hcon;generalize hrow:lZ ss cur 256 0 lists []=tgt at hcon;refine ah ?_;refine xo rfl (iT) ?_;rintro _ g1 ⟨rfl,kz,ez,zz⟩;have kz:aE g1 g.size 171 (([]:List Int).map (Value.int .i64)++List.replicate (256-0) (Value.int .i64 0)):=kz;have Kb:=mk.aj ez;have hvz:vn.ownBlock≠some g.size:=fun e=>by have:=(mk.Gy _ e).lt;omega
     refine ah ?_;refine Nt (σ:=Nat×Value) (fun q=>[(0,.pointer (some ⟨nb,0,none⟩)),(5,.pointer (some ⟨h1.size,0,none⟩)),(6,.map (some h2.size)),(7,q.2),(8,.int .i64 (i:Nat)),(9,.pointer (some ⟨g.size,0,none⟩)),(33,.int .i64 (q.1:Nat))]) (fun q h'=>∃C lists' row,ja h h' C h1.size h2.size q.2 vn vr lists' next rule/\(q.1<=256/\row.length=q.1/\lists'.length<=2000+q.1)/\aE h' g.size 171 (row.map (Value.int .i64)++List.replicate (256-q.1) (Value.int .i64 0))/\lists'[i]? =some cur/\(∀l∈lists',l.Sublist (List.range ss.length))/\lZ ss cur (256-q.1) q.1 lists' row=tgt) (fun q=>256-q.1) ((0,.slice la lists.length lc)) ⟨C,lists,[],Kb,⟨Nat.zero_le _,rfl,by simp;omega⟩,kz,hcur,hsl,hrow⟩ ?_;rintro⟨b,vl⟩ g2 ⟨C,lists,row,mk,⟨hb,hrlen,hlb⟩,kz,hcur,hsl,hrow⟩ ih2
     try dsimp only
     dsimp only at mk hb hrlen hlb kz hrow;have hng:bO g2 O nb v ss st:=hn.aj mk.ext (fun _ _ k=>k);refine ah ?_;refine bN (fun hb256=>?_) (fun hb256=>?_)
     · obtain⟨m,hm⟩:∃m,256-b=m+1:=⟨255-b,by omega⟩
       rw[hm,lZ] at hrow;obtain⟨g',c',cs,hv',_,_,hrowv,_,⟨w,rfl,hw⟩,_⟩:=mk.ls.put hcur;subst hv';have hnlt:∀j∈cur,j<ss.length:=fun j hj=>List.mem_range.1 (hcsub.subset hj)
       have hcl:=hcsub.length_le;rw[List.length_range] at hcl;have hub:(UInt8.ofNat b).toNat=b:=by simp;omega
       have hwr:bC ic g2 (fun _=>False) w cur:=oM hw (fun _ k=>k.elim);have hstep:=DF (UInt8.ofNat b) hng hgood (by omega) hwr hnlt (by omega) (hpot _ _ hcsub);rw[hub] at hstep;have hlsub:=F8 ss (UInt8.ofNat b) cur
       iterate 4 refine bZ ?_
       refine eu ?_
       iterate 2 refine b7 ?_
       refine fu ?_;refine bZ ?_;refine eu ?_
       iterate 3 refine b7 ?_
       refine xp rfl (eK rfl rfl i rfl rfl (by have:=(List.getElem?_eq_some_iff.1 hcur).1;omega)) ?_;refine xp rfl (aM rfl (hrowv 0 _ rfl)) ?_;refine b7 ?_;refine xp rfl (Ns rfl (wrap_u8 ⟨by omega,by omega⟩)) ?_;refine xo rfl (bl rfl hstep) ?_;rintro w11 g3 ⟨ho3,e3⟩;generalize hl:cB ss (UInt8.ofNat b) cur=l at *;have hsN:dI ss cur lists b=if l.length=0 then (lists,-1) else match p8 0 lists l with|some i=>(lists,(i:Int))|none=>(lists++[l],(lists.length:Int)):=by unfold dI;rw[hl]<;>rfl
       have hil:=hint l hlsub;obtain⟨l11a,l11c,rfl,_⟩:=(show ax g3 g2.size 3 1 w11 l.length (l.map cN) from ho3).open;have mk3:=mk.aj e3;have kz3:=kz.aj e3;have hkey:∀{gg:ai},ak g3 gg->af Tryz.prog 79 #[.slice l11a l.length l11c] gg (aX fun r h'=>r= .string (bs (AU l))/\ak gg h'):=fun e=>tj (htens.aj (mk3.ext.trans e)) (Df (bC.mv (cg.read (O:=fun _=>False) (h1:=fun _=>rfl) ho3 (fun _ _ k=>k)) (Mv.aj e))) hil.1 hil.2
       refine ah ?_;refine xo rfl (bl rfl (hkey (Ext.refl _ _))) ?_;rintro _ g4 ⟨rfl,e4⟩;have mk4:=mk3.aj e4;have kz4:=kz3.aj e4;refine xp rfl (an.wo (z:=.int .i64 0) jN.str underlying169 underlying9 (by kernel_rfl) rfl rfl rfl mk4.mp) ?_;rw[xP];refine ah ?_
       have fin:∀(to:Int) (vl2:Value) (h':ai) (ρ':Env),Sub [(0,.pointer (some ⟨nb,0,none⟩)),(5,.pointer (some ⟨h1.size,0,none⟩)),(6,.map (some h2.size)),(7,vl2),(8,.int .i64 (i:Nat)),(9,.pointer (some ⟨g.size,0,none⟩)),(10,.int .i64 (b:Nat)),(12,.int .i64 to),(33,.int .i64 (b:Nat))] ρ'->(∃C2,ja h h' C2 h1.size h2.size vl2 vn vr (dI ss cur lists b).1 next rule)->to=(dI ss cur lists b).2->aE h' g.size 171 (row.map (Value.int .i64)++List.replicate (256-b) (Value.int .i64 0))->G Tryz.prog 39 f39 [.code [1,1,1,1,0,0,1,1,0,0,1,0,1,0,0,1,0,0,1,0,1,1,1,1,1,1],.blk 3,.code [1,1,1,0,0,1,0,1,0,0,1,0,0,1,0,1,1,1,1,1,1],.loop [0,0,1,0,1,0,0,1,0,0,1,0,1,1,1,1,1,1],.blk 2,.code [1,1,0,0,1,0,0,1,0,1,1,1,1,1,1],.blk 1,.code [1,1,0,0,1,0,1,1,1,1,1,1],.loop [0,0,1,0,1,1,1,1,1,1],.blk 0,.code [1,1,1,1,1,1,1]] ρ' h' (aX fun r h'=>Bv res h' r/\ak h h'):=by
        rintro to vl2 g5 ρ' hsub ⟨C2,mk5⟩ hto kz5;refine G.sub (ρ':=[(0,.pointer (some ⟨nb,0,none⟩)),(5,.pointer (some ⟨h1.size,0,none⟩)),(6,.map (some h2.size)),(7,vl2),(8,.int .i64 (i:Nat)),(9,.pointer (some ⟨g.size,0,none⟩)),(10,.int .i64 (b:Nat)),(12,.int .i64 to),(33,.int .i64 (b:Nat))]) hsub ?_
        have hrs:(dI ss cur lists b).1.length<=lists.length+1/\(dI ss cur lists b).1[i]? =some cur/\∀x∈(dI ss cur lists b).1,x.Sublist (List.range ss.length):=by
         rw[hsN];split
         · exact⟨Nat.le_succ _,hcur,hsl⟩
         · split
           · exact⟨Nat.le_succ _,hcur,hsl⟩
           · refine⟨by simp,by rw[List.getElem?_append_left (List.getElem?_eq_some_iff.1 hcur).1];exact hcur,fun x hx=>?_⟩
             rcases List.mem_append.1 hx with k|k
             · exact hsl x k
             · have:x=l:=by simpa using k
               rw[this];exact hlsub
        have hcells:(row.map (Value.int .i64)++List.replicate (256-b) (Value.int .i64 0)).length=256:=by simp[hrlen];omega
        have hset:(row.map (Value.int .i64)++List.replicate (256-b) (Value.int .i64 0)).set (0+b*1) (.int .i64 to)=(row++[to]).map (Value.int .i64)++List.replicate (256-(b+1)) (Value.int .i64 0):=by
         rw[Nat.zero_add,Nat.mul_one,List.set_append_right _ _ (by simp;omega),show 256-b=(256-(b+1))+1 by omega,List.replicate_succ];have:b-(row.map (Value.int .i64)).length=0:=by simp;omega
         rw[this,List.set_cons_zero];simp
        have hblt:0+b*1<(row.map (Value.int .i64)++List.replicate (256-b) (Value.int .i64 0)).length:=by rw[hcells];omega
        refine eu ?_
        iterate 2 refine b7 ?_
        refine xp rfl (Dl rfl rfl b rfl (by omega)) ?_;refine bQ rfl (bU H.ck rfl rfl rfl (kz5.cell (List.getElem?_eq_getElem hblt)) kz5.nf) ?_;rintro _ g6 ⟨rfl,hg6⟩;have k6:=kz5.set (0+b*1) (.int .i64 to);rw[<-hg6,hset] at k6;have x6:Ext (fun y=>y=g.size) g5 g6:=by rw[hg6];exact Ext.ey _ _ _ rfl
        have hzge:h.size<=g.size:=mkg.ext.size;have mk6:=mk5.put x6 kz5.ty hvz hzge;refine ah ?_;exact ih2 (b+1,vl2) ⟨C2,_,row++[to],mk6,⟨by show b+1<=256;omega,by simp[hrlen],by show _<=2000+(b+1);omega⟩,k6,hrs.2.1,hrs.2.2,by show lZ ss cur (256-(b+1)) (b+1) _ _=tgt;rw[show 256-(b+1)=m by omega,hto];exact hrow⟩
       refine bN (fun hz11=>?_) (fun hz11=>?_)
       · have hl0':l.length=0:=by omega
         refine eu ?_;refine b7 ?_;refine fu ?_;refine bZ ?_;exact fin (-1) _ _ _ (by exact sb rfl) (by rw[hsN,if_pos hl0'];exact⟨C,mk4⟩) (by rw[hsN,if_pos hl0']) kz4
       · have hl0':¬l.length=0:=by omega
         rcases hfind:p8 0 lists l with _|j
         · refine ah ?_;refine mX rfl (by simp) ?_;refine ah ?_;refine xo rfl (bl rfl (hkey e4)) ?_;rintro _ g5 ⟨rfl,e5⟩;have mk5:=mk4.aj e5;have hnone:lM (bs (AU l)) (nK 0 lists)=none:=by rw[xP,hfind];rfl
           refine ah ?_;refine bQ rfl (az.mapUpdate (v:=(lists.length:Int)) jN.str underlying169 underlying9 rfl rfl rfl rfl rfl mk5.mp hnone) ?_;rintro _ g6 ⟨rfl,hm6,x6,z6⟩;have hm6:fP Value.string (Value.int .i64) g6 h2.size (nK 0 (lists++[l])):=by rw[y9,Nat.zero_add];exact hm6
           have mapne:∀{b:Nat}{t:TypeId},bD g5 b t->¬b=h2.size:=fun k e=>mk5.mp.ne k e.symm
           have e35:=e4.trans e5;have ho5w:cg cN g5 g2.size 3 (.slice l11a l.length l11c) l:=cg.aj ho3 e35;have kz5:=kz4.aj e5;have kz6:=kz5.ext x6 (mapne kz5.ty);have d6:=mk5.dblk.ext x6 (mapne mk5.dblk.ty);have nx6:=ax.ext x6 mk5.nx (fun b hb=>mapne (mk5.Gy b hb));have ru6:=ax.ext x6 mk5.ru (fun b hb=>mapne (mk5.Fa b hb));have ho6w:cg cN g6 g2.size 3 (.slice l11a l.length l11c) l:=ax.ext x6 ho5w (fun b hb=>mapne (ax.ty ho5w hb))
           have ls6:fm Es (fun b=>¬(C b\/bV (Value.slice l11a l.length l11c).ownBlock b)) g6 h.size 78 (.slice (some ⟨g',0,none⟩) lists.length c') lists :=
            mk5.ls.Fm x6 (fun b hb=>mapne (mk5.IT b hb)) (fun b _ hb hC=>mapne (mk5.cty b hC) hb) (fun b _ hb hC=>hb (.inl hC))
           have lty6:bD g6 g' 78:=(mk5.IT g' rfl).ext x6 (mapne (mk5.IT g' rfl));obtain⟨css,hc1,hc2,hc3⟩:=id ls6;have hz5:=mk5.ext.size;have hz2g:=mk.ext.size;refine ah ?_;refine xo rfl (sO [_]) ?_;rintro _ _ ⟨rfl,rfl⟩;refine xo rfl (E1 rfl rfl hc2 rfl rfl) ?_;rintro v7 g7 ⟨ho7,hx7,hx7',hv7⟩
           have lne:∀{b:Nat}{t:TypeId},bD g6 b t->78≠t->¬bV (Value.slice (some ⟨g',0,none⟩) lists.length c').ownBlock b:=fun k ht e=>by
            simp only[bV,Value.ownBlock,Option.some.injEq] at e;subst e;exact lty6.ne k ht rfl
           have hsz3:=e3.size;have hsz35:=e35.size;have ty6:∀{b:Nat}{t:TypeId},bD g5 b t->bD g6 b t:=fun k=>k.ext x6 (mapne k)
           have hls7:fm Es (fun b=>¬(C b\/bV (Value.slice l11a l.length l11c).ownBlock b)) g7 h.size 78 v7 (lists++[l]) :=
            fm.nR (h:=g6) (v:=.slice (some ⟨g',0,none⟩) lists.length c') (css:=css) (cs:=[.slice l11a l.length l11c]) hc1 hc3 ho7 hx7 hv7 ⟨_,rfl,ax.Ij (h1:=fun _=>rfl) ho6w (fun b hb k=>by
             rcases k with k|k
             · exact lne (ax.ty ho6w hb) (by decide) k
             · exact k (.inr hb.symm))⟩
           have hmb6:¬bV (Value.slice (some ⟨g',0,none⟩) lists.length c').ownBlock h2.size:=fun e=>by
            simp only[bV,Value.ownBlock,Option.some.injEq] at e;exact hm6.ne (e▸lty6) rfl
           have hext7:ak h g7:=⟨by have:=hx7.size;omega,fun b hb k=>by
            rw[hx7.block b (by omega) (fun e=>by
             simp only[bV,Value.ownBlock,Option.some.injEq] at e;have:=mk5.QS g' rfl;omega),x6.block b (by omega) (by have:=mk5.mge;omega)]
            exact mk5.ext.block b hb k⟩
           have mk7:ja h g7 (fun b=>C b\/bV (Value.slice l11a l.length l11c).ownBlock b) h1.size h2.size v7 vn vr (lists++[l]) next rule :=
            ⟨hext7,d6.ext hx7 (lne d6.ty (by decide)),ax.ext hx7 nx6 (fun b hb=>lne (ax.ty nx6 hb) (by decide)),ax.ext hx7 ru6 (fun b hb=>lne (ax.ty ru6 hb) (by decide)),hm6.ext hx7 hmb6,hls7,
             fun b hb=>by
              rcases hb with hb|hb
              · exact bD.ext (ty6 (mk5.cty b hb)) hx7 (lne (ty6 (mk5.cty b hb)) (by decide))
              · exact bD.ext (ax.ty ho6w hb.symm) hx7 (lne (ax.ty ho6w hb.symm) (by decide)),
             fun b hb hC=>by
              rcases hC with hC|hC
              · exact mk5.cr b hb hC
              · have h1':=(mk.Fa b hb).lt;have h2':=(ax.lt ho6w hC.symm).1;omega,mk5.dge,mk5.mge⟩
           obtain⟨v7a,v7c,rfl,_⟩:=ho7.open;refine b7 ?_;refine fu ?_;refine bZ ?_;exact fin (lists.length:Int) _ _ _ (by exact sb rfl) (by rw[hsN,if_neg hl0',hfind];exact⟨_,mk7⟩) (by rw[hsN,if_neg hl0',hfind]) (kz6.ext hx7 (lne kz6.ty (by decide)))
         · have hj:=qH lists 0 j l hfind;refine ah ?_;refine mQ rfl (by simp) ?_
           iterate 2 refine bZ ?_
           exact fin (j:Int) _ _ _ (by exact sb rfl) (by rw[hsN,if_neg hl0',hfind];exact⟨C,mk4⟩) (by rw[hsN,if_neg hl0',hfind]) kz4
     · obtain rfl:b=256:=by omega
       rw[Nat.sub_self,lZ] at hrow;subst hrow;simp only at hcon;obtain⟨css2,hd1,hd2,hd3⟩:=id mk.ls;obtain⟨la2,lc2,rfl,_⟩:=hd2.open;have hencr:bP (j8 row)=row.map (Value.int .i64):=by rw[bP,uT hrlen]
       rw[Nat.sub_self,List.replicate_zero,List.append_nil,<-hencr] at kz;refine ah ?_;refine bN (fun hbigl=>?_) (fun hbigl=>?_)
       · rw[if_pos (by omega)] at hcon;refine ah ?_;refine bE ?_;exact⟨_,rfl,by rw[hcon];rfl,mk.ext⟩
       · rw[if_neg (by omega)] at hcon
         have nne:∀{b:Nat}{t:TypeId},bD g2 b t->171≠t->¬(bV vn.ownBlock b\/Array.size g2<=b):=fun kt ht e=>by
          rcases e with e|e
          · exact(mk.Gy _ e.symm).ne kt ht rfl
          · have:=kt.lt;omega
         have hzM:¬(bV vn.ownBlock g.size\/Array.size g2<=g.size):=by
          rintro(e|e)
          · exact hvz e.symm
          · have:=kz.lt;omega
         have hdM:=nne mk.dblk.ty (by decide);have hnx:ax g2 h.size 171 256 vn next.length (next.flatMap bP):=mk.nx
         have hone:∀u∈bP (j8 row),u.oneCell'=true:=fun u hu=>by simp[bP] at hu;obtain⟨_,_,rfl⟩:=hu;rfl
         have hg2:=mk.ext.size;refine ah ?_;refine vi 11 (fun b=>bV vn.ownBlock b\/Array.size g2<=b) (fun i=>Nat.blt i 10) ?_;refine aZ 0 ?_;refine aZ 1 ?_;refine aZ 2 ?_;refine aZ 3 ?_;refine cA 4 rfl (fun h' e=>aM rfl (e.cell hdM (mk.dblk.cell (i:=0) rfl))) ?_;refine cA 5 rfl (fun h' e=>eN rfl (e.rowAt hzM kz.row)) ?_;refine iL 6 rfl (az.cy (cs:=bP (j8 row)) underlying165 H.FA rfl (mB _) (by decide)) ?_;rintro _ _ ⟨rfl,rfl⟩;refine⟨fun _=>(Ext.push _ _ _),?_⟩;refine iL 7 rfl (az.zT underlying165 H.FA rfl rfl hnx rfl (by simp) hone (by simp only[maxLen];omega) (by omega) hg2) ?_;rintro v3 g3 ⟨ho3,hx3,hx3',hv3⟩;refine⟨fun _=>hx3'.mono (fun _ _ k=>.inl k),?_⟩;obtain⟨a3,c3,rfl,_⟩:=ho3.open;refine J8 8 ?_;refine aZ 9 ?_;refine pO 10 rfl (gq rfl rfl ((mk.dblk.ext hx3 (fun e=>hdM (.inl e))))) ?_;rintro _ g4 ⟨rfl,k4,x4,z4⟩;refine⟨nofun,?_⟩;have mk4:=mk.Mj (r:=j8 row) rfl ho3 hx3 k4 x4;obtain⟨g',c',cs,hv',_,_,hrowv,_,⟨w,rfl,hw⟩,_⟩:=mk4.ls.put hcur;cases hv';have hng4:bO g4 O nb v ss st:=hn.aj mk4.ext (fun _ _ k=>k);have hwr:bC ic g4 (fun _=>False) w cur:=oM hw (fun _ k=>k.elim);have hnlt:∀j∈cur,j<ss.length:=fun j hj=>List.mem_range.1 (hcsub.subset hj)
         have hcl:=hcsub.length_le;rw[List.length_range] at hcl
         have rne:∀{b:Nat}{t:TypeId},bD g4 b t->3≠t->¬(bV vr.ownBlock b\/Array.size g4<=b):=fun kt ht e=>by
          rcases e with e|e
          · exact(mk4.Fa _ e.symm).ne kt ht rfl
          · have:=kt.lt;omega
         have hdM4:=rne mk4.dblk.ty (by decide);have hlM4:=rne (mk4.IT g' rfl) (by decide);have hru:ax g4 h.size 3 1 vr rule.length (rule.map (Value.int .i64)):=mk4.ru;have hg4s:=mk4.ext.size;have hli:i<lists.length:=(List.getElem?_eq_some_iff.1 hcur).1;refine pQ ?_;refine vi 16 (fun b=>bV vr.ownBlock b\/Array.size g4<=b) (fun i=>Nat.blt i 15) ?_;refine aZ 0 ?_;refine aZ 1 ?_;refine aZ 2 ?_;refine aZ 3 ?_;refine cA 4 rfl (fun h' e=>aM rfl (e.cell hdM4 (mk4.dblk.cell (i:=1) rfl))) ?_;refine aZ 5 ?_;refine aZ 6 ?_;refine aZ 7 ?_;refine cA 8 rfl (fun h' e=>eK rfl rfl i rfl rfl) ?_;refine cA 9 rfl (fun h' e=>aM rfl (e.cell hlM4 (hrowv 0 _ rfl))) ?_;refine iL 10 rfl (bl rfl (yP hng4 (by omega) hwr hnlt (by omega))) ?_;rintro _ g5 ⟨rfl,hg5⟩;refine⟨fun _=>by subst hg5;exact Ext.refl _ _,?_⟩;subst hg5;refine iL 11 rfl (sO [_]) ?_;rintro _ _ ⟨rfl,rfl⟩;refine⟨fun _=>by first|exact Ext.push _ _ _|assumption,?_⟩;refine iL 12 rfl (E1 rfl rfl hru rfl rfl) ?_;rintro v6 g6 ⟨ho6,hx6,hx6',hv6⟩;refine⟨fun _=>hx6'.mono (fun _ _ k=>.inl k),?_⟩;obtain⟨a6,c6,rfl,_⟩:=ho6.open;refine J8 13 ?_;refine aZ 14 ?_;refine pO 15 rfl (gq rfl rfl ((mk4.dblk.ext hx6 (fun e=>hdM4 (.inl e))))) ?_;rintro _ g7 ⟨rfl,k7,x7,z7⟩;refine⟨nofun,?_⟩;have mk7:=mk4.Mi (x:=bh ss cur) rfl ho6 hx6 hv6 k7 x7;refine pQ ?_;refine ah ?_;exact ih (i+1,_) ⟨C,_,_,lists,next++[j8 row],rule++[bh ss cur],mk7,by show i+1<=lists.length;omega,by omega,⟨by simp[hnl],by simp[hrl]⟩,hsl,by rw[hcon,show 2002-(i+1)=n by omega]⟩
   · have hie:i=lists.length:=by omega
     have hnone:lists[i]? =none:=List.getElem?_eq_none (by omega);obtain⟨n,hnn⟩:∃n,2002-i=n+1:=⟨2001-i,by omega⟩
     rw[hnn,kN,hnone] at hcon;simp only at hcon;refine ah ?_;refine bE ?_;refine⟨_,rfl,?_,mk.ext⟩;rw[hcon];exact⟨h1.size,rfl,vn,vr,mk.dblk,gP.read mk.nx (fun _ _ k=>k),cg.read (h1:=fun _=>rfl) mk.ru (fun _ _ k=>k)⟩
theorem B7 (r:Row):over (List.replicate 256 (Value.int .i64 0)) 0 (bP r)=bP r:=by
 unfold over;rw[List.take_zero,List.nil_append,mB,List.drop_of_length_le (by simp),List.append_nil]
theorem D8 {db:Nat}(k:qj h db d) (hok:d.Ok) :
 af Tryz.prog 83 #[.pointer (some ⟨db,0,none⟩)] h (aX fun r h'=>cg Value.bool h' h.size 4 r (br d)/\ak h h'):=by
 obtain⟨vn,vr,hk,⟨na,nn,nc,rfl,hnl,hnc,hnm,hgetn⟩,⟨ra,rn,rc,rfl,hrl,hrc,hrm,hgetr⟩⟩:=k;have hlen:=hok.len;have hsize:=hok.size;have hslN:bC FB h (fun _=>False) (.slice na nn nc) d.next:=⟨_,_,_,rfl,hnl,hnc,hnm,hgetn⟩
 have hslR:bC (.int .i64) h (fun _=>False) (.slice ra rn rc) d.rule:=⟨_,_,_,rfl,hrl,hrc,hrm,hgetr⟩
 subst hnl;generalize htgt:br d=tgt;refine cu ?_;refine ah ?_;refine xp rfl (aM rfl (hk.cell (i:=0) rfl)) ?_;refine ah ?_;refine xo rfl (az.rQ underlying29 H.No H.Qe rfl rfl rfl (by omega) (by decide)) ?_;rintro _ h1 ⟨rfl,k1,e1⟩;have k1:cg Value.bool h1 h.size 4 (.slice (some ⟨h.size,0,none⟩) d.next.length d.next.length) (List.replicate d.next.length false):=by unfold cg;simpa using k1
 have hf0:gH (List.replicate d.next.length false)<=d.next.length:=by unfold gH;exact Nat.le_trans (List.length_filter_le _ _) (by simp)
 refine ah ?_;refine nq (σ:=Nat×Bool×List Bool) (fun q=>[(4,.bool q.2.1)]) (fun q h'=>ak h h'/\cg Value.bool h' h.size 4 (.slice (some ⟨h.size,0,none⟩) d.next.length d.next.length) q.2.2/\q.2.2.length=d.next.length/\(q.2.1=true->gH q.2.2<q.1/\rR d q.1 q.2.2=tgt)/\(q.2.1=false->q.2.2=tgt)) (fun q=>q.1+(if q.2.1 then 1 else 0)) ((d.next.length+1,true,List.replicate d.next.length false)) ⟨e1,k1,by simp,fun _=>⟨Nat.lt_succ_of_le hf0,htgt⟩,fun k=>(by cases k)⟩ rfl ?_;rintro⟨n,ag,out⟩ g ⟨eg,ho,hol,hT,hF⟩ ih
 try dsimp only
 dsimp only at ho hol hT hF;refine ah ?_;refine Dm (fun hag=>?_) (fun hag=>?_)
 · subst hag;obtain⟨hfn,hcon⟩:=hT rfl;obtain⟨n,rfl⟩:∃m,n=m+1:=⟨n-1,by omega⟩
   rw[rR] at hcon;have hless:=iJ d d.next.length 0 out false (by omega)
   generalize hps:bR d d.next.length 0 out false=ps at hcon hless
   refine ah ?_;refine xp rfl (aM rfl ((hk.aj eg).cell (i:=0) rfl)) ?_;refine ah ?_;refine nq (σ:=Nat×Bool×List Bool) (fun q=>[(4,.bool q.2.1),(21,.int .i64 (q.1:Nat))]) (fun q h'=>ak h h'/\cg Value.bool h' h.size 4 (.slice (some ⟨h.size,0,none⟩) d.next.length d.next.length) q.2.2/\q.2.2.length=d.next.length/\q.1<=d.next.length/\bR d (d.next.length-q.1) q.1 q.2.2 q.2.1=ps) (fun q=>d.next.length-q.1) ((0,false,out)) ⟨eg,ho,hol,Nat.zero_le _,hps⟩ rfl ?_;rintro⟨k,ag,out⟩ g2 ⟨eg2,ho,hol,hkl,hcon2⟩ ih2
   try dsimp only
   dsimp only at ho hol hkl hcon2;refine ah ?_;refine bN (fun hlt=>?_) (fun hlt=>?_)
   · have hkN:k<d.next.length:=by omega
     obtain⟨m,hm⟩:∃m,d.next.length-k=m+1:=⟨d.next.length-k-1,by omega⟩
     rw[hm,bR] at hcon2;obtain⟨r,hr⟩:∃r,d.next[k]? =some r:=⟨_,List.getElem?_eq_getElem hkN⟩
     obtain⟨oa',n',c',hv',_,_,_,hgetn⟩:=id (hslN.mv (Mv.aj eg2));cases hv';obtain⟨b1,o1,cs1,ha1,_,hrow1,rfl⟩:=hgetn k r hr;have hone:∀u∈bP r,u.oneCell'=true:=fun u hu=>by simp[bP] at hu;obtain⟨_,_,rfl⟩:=hu;rfl
     obtain⟨bx,hbx⟩:∃bx,out[k]? =some bx:=⟨_,List.getElem?_eq_getElem (by omega)⟩
     have hgd:out.getD k false=bx:=by rw[List.getD_eq_getElem?_getD,hbx];rfl
     rw[hgd] at hcon2
     iterate 4 refine bZ ?_
     refine eu ?_;refine b7 ?_;refine xp rfl (eK rfl rfl k rfl ha1) ?_;refine xp rfl (eN rfl hrow1) ?_;refine xo rfl (iT) ?_;rintro _ g3 ⟨rfl,k6,e3,z3⟩;have k6:aE g3 g2.size 171 (List.replicate 256 (Value.int .i64 0)):=k6;refine ah ?_;refine bQ rfl (er rfl rfl k6 hone) ?_;rintro _ g4 ⟨rfl,k7,x7,z7⟩;have k7:aE g4 g2.size 171 (bP r):=by rw[<-B7 r];exact k7
     have e4:ak g2 g4:=ak.only e3 x7 (Nat.le_refl _);have eg4:=eg2.trans e4;have ho4:=cg.aj ho e4;obtain⟨gg,c4,hv4,hgb,hglt,hcell,hfz,hset⟩:=ho4.at hbx;rw[hol] at hv4;cases hv4;refine fu ?_
     iterate 2 refine bZ ?_
     refine eu ?_
     iterate 2 refine b7 ?_
     refine xp rfl (eK rfl rfl k rfl rfl) ?_;refine xp rfl (aM rfl hcell) ?_;refine ah ?_;refine Dm (fun hb=>?_) (fun hb=>?_)
     · subst hb;rw[if_pos rfl] at hcon2;refine ah ?_;exact ih2 (k+1,ag,out) ⟨eg4,ho4,hol,hkN,by show bR d (d.next.length-(k+1)) _ _ _=ps;rw[show d.next.length-(k+1)=m by omega];exact hcon2⟩
     · subst hb;rw[if_neg (by decide)] at hcon2;obtain⟨x,hx⟩:∃x,d.rule[k]? =some x:=⟨_,List.getElem?_eq_getElem (by omega)⟩
       have hru:d.ru k=x:=by unfold bK.ru;rw[List.getD_eq_getElem?_getD,hx];rfl
       have hrow:d.row k=r.v:=by unfold bK.row;rw[hr]
       obtain⟨oa',n',c',hv',_,_,_,hgetr⟩:=id (hslR.mv (Mv.aj eg4));cases hv';obtain⟨b2,o2,cs2,ha2,_,hrow2,rfl⟩:=hgetr k x hx;refine ah ?_;refine xp rfl (aM rfl ((hk.aj eg4).cell (i:=1) rfl)) ?_;refine b7 ?_;refine xp rfl (eK rfl rfl k rfl ha2) ?_;refine xp rfl (aM rfl (hrow2 0 _ rfl)) ?_;refine b7 ?_;refine xp rfl (eK rfl rfl k rfl rfl) ?_;refine bQ rfl (bU H.Ko rfl rfl rfl hcell hfz) ?_;rintro _ g5 ⟨rfl,hg5⟩;have hset:=hset (decide (0<=x));rw[<-hg5] at hset;have x5:Ext (fun b=>b=h.size) g4 g5:=by rw[hg5];exact Ext.ey _ _ _ rfl
       have e5:ak h g5:=ak.only eg4 x5 (Nat.le_refl _);have hz2:=eg2.size;have hlt2:h.size<g2.size:=(ax.lt ho rfl).2;have k8:=k7.ext x5 (by show ¬_=_;omega);refine ah ?_;refine xp rfl (eN rfl k8.row) ?_;refine ah ?_;refine nq (σ:=Nat) (fun j=>[(42,.int .i64 (j:Nat))]) (fun j h'=>ak h h'/\cg Value.bool h' h.size 4 (.slice (some ⟨h.size,0,none⟩) d.next.length d.next.length) (out.set k (decide (0<=x) ||(r.v.take j).any (gE out)))/\j<=256) (fun j=>256-j) (0) ⟨e5,by simpa using hset,Nat.zero_le _⟩ rfl ?_;rintro j g6 ⟨eg6,ho6,hj⟩ ih3;refine ah ?_;refine bN (fun hlt3=>?_) (fun hlt3=>?_)
       · have hj2:j<256:=by omega
         obtain⟨t,ht⟩:∃t,r.v[j]? =some t:=⟨_,List.getElem?_eq_getElem (by rw[r.len];exact hj2)⟩
         have htr:(r.v.take (j+1)).any (gE out)=((r.v.take j).any (gE out) ||gE out t):=by rw[List.take_add_one,ht,List.any_append];simp
         have htm:=hok.to r (List.mem_of_getElem? hr) t (List.mem_of_getElem? ht);generalize hc:(decide (0<=x) ||(r.v.take j).any (gE out))=cb at ho6;have hcell6:(out.set k cb)[k]? =some cb:=by rw[List.getElem?_set_self (by rw[hol];exact hkN)]
         obtain⟨gg,c6,hv6,_,_,hcc6,hfz6,hset6⟩:=ho6.at hcell6;rw[List.length_set,hol] at hv6;cases hv6
         have fin:∀y g7,y=(decide (0<=x) ||(r.v.take (j+1)).any (gE out))->g7=ey g6 ⟨h.size,0+k*1,none⟩ (.bool y)->ak h g7/\cg Value.bool g7 h.size 4 (.slice (some ⟨h.size,0,none⟩) d.next.length d.next.length) (out.set k (decide (0<=x) ||(r.v.take (j+1)).any (gE out)))/\j+1<=256:=by
          rintro y g7 rfl rfl;have k9:=hset6 (decide (0<=x) ||(r.v.take (j+1)).any (gE out));rw[List.set_set] at k9;exact⟨ak.only eg6 (Ext.ey (M:=fun b=>b=h.size) g6 _ _ rfl) (Nat.le_refl _),k9,hj2⟩
         refine ah ?_;refine xp rfl (an.wQ underlying171 H.ck H.gS rfl rfl j rfl hj2 (show (bP r).toArray[j]? =some (Value.int .i64 t) by simp[bP,ht])) ?_;refine b7 ?_;refine fu ?_;refine eu ?_
         iterate 4 refine b7 ?_
         refine xp rfl (eK rfl rfl k rfl rfl) ?_;refine xp rfl (aM rfl hcc6) ?_;refine ah ?_;refine gU 51 (fun hg=>?_) (fun hg=>?_)
         · iterate 8 refine Qd ?_
           refine b7 ?_;refine xp rfl (eK rfl rfl k rfl rfl) ?_;refine bQ rfl (bU H.Ko rfl rfl rfl hcc6 hfz6) ?_;rintro _ g7 ⟨rfl,hg7⟩;refine ah ?_;exact ih3 (j+1) (fin true g7 (by rw[htr,<-Bool.or_assoc,hc,hg];rfl) hg7)
         · refine ah ?_;refine gU 54 (fun hg2=>?_) (fun hg2=>?_)
           · have hg2':=of_decide_eq_true hg2;obtain⟨t2,rfl⟩:=Int.eq_ofNat_of_zero_le hg2';obtain⟨bt,hbt⟩:∃bt,(out.set k cb)[t2]? =some bt:=⟨_,List.getElem?_eq_getElem (by rw[List.length_set,hol];omega)⟩
             obtain⟨gg,c6,hv6,_,_,hct,_,_⟩:=ho6.at hbt;rw[List.length_set,hol] at hv6;cases hv6
             have hlt2:gE out (t2:Nat)=bt:=by
              unfold gE;rw[decide_eq_true (show (0:Int)<=(t2:Nat) by omega),Bool.true_and,Int.toNat_natCast,List.getD_eq_getElem?_getD]
              by_cases e:k=t2
              · subst e;rw[hcell6] at hbt;cases hbt;rw[hbx,hg];rfl
              · rw[List.getElem?_set_ne e] at hbt;rw[hbt];rfl
             iterate 2 refine b7 ?_
             refine xp rfl (eK rfl rfl t2 rfl rfl) ?_;refine xp rfl (aM rfl hct) ?_
             iterate 2 refine b7 ?_
             refine xp rfl (eK rfl rfl k rfl rfl) ?_;refine bQ rfl (bU H.Ko rfl rfl rfl hcc6 hfz6) ?_;rintro _ g7 ⟨rfl,hg7⟩;refine ah ?_;exact ih3 (j+1) (fin bt g7 (by rw[htr,<-Bool.or_assoc,hc,hg,hlt2,Bool.false_or]) hg7)
           · have hg2':=of_decide_eq_false hg2
             iterate 4 refine Qd ?_
             iterate 2 refine b7 ?_
             refine xp rfl (eK rfl rfl k rfl rfl) ?_;refine bQ rfl (bU H.Ko rfl rfl rfl hcc6 hfz6) ?_;rintro _ g7 ⟨rfl,hg7⟩;refine ah ?_;exact ih3 (j+1) (fin false g7 (by rw[htr,<-Bool.or_assoc,hc,hg];unfold gE;rw[decide_eq_false hg2'];rfl) hg7)
       · have hje:j=256:=by omega
         have hla:(decide (0<=x) ||(r.v.take j).any (gE out))=dG d out k:=by
          unfold dG;rw[hru,hrow,hje,List.take_of_length_le (by rw[r.len];exact Nat.le_refl _)]
         rw[hla] at ho6;have hcell6:(out.set k (dG d out k))[k]? =some (dG d out k):=by rw[List.getElem?_set_self (by rw[hol];exact hkN)]
         obtain⟨gg,c6,hv6,_,_,hcc6,hfz6,_⟩:=ho6.at hcell6;rw[List.length_set,hol] at hv6;cases hv6;refine bZ ?_;refine jR [(4,.bool (ag ||dG d out k))] rfl ?_ ?_
         · refine ah ?_;refine gU 64 (fun hg=>?_) (fun hg=>?_)
           · refine ah ?_;exact bq rfl ⟨aq rfl (by rw[hg];rfl),sb rfl⟩
           · iterate 2 refine b7 ?_
             refine xp rfl (eK rfl rfl k rfl rfl) ?_;refine xp rfl (aM rfl hcc6) ?_;refine ah ?_;exact bq rfl ⟨aq rfl (by rw[hg];rfl),sb rfl⟩
         · refine ah ?_;exact ih2 (k+1,ag ||dG d out k,out.set k (dG d out k)) ⟨eg6,ho6,by show (out.set k _).length=_;rw[List.length_set];exact hol,hkN,by show bR d (d.next.length-(k+1)) _ _ _=ps;rw[show d.next.length-(k+1)=m by omega];exact hcon2⟩
   · have hke:d.next.length-k=0:=by omega
     rw[hke,bR] at hcon2;subst hcon2;simp only at hcon hless;refine ah ?_
     exact ih (n,ag,out) ⟨eg2,ho,hol,fun ht=>by
      subst ht;rw[if_pos rfl] at hcon
      rcases hless.2 rfl with k|k
      · cases k
      · exact⟨by show gH out<n;omega,hcon⟩,fun hf=>by
      subst hf;rw[if_neg (by decide)] at hcon;exact hcon⟩ (by show n+(if ag=true then 1 else 0)<n+1+(if true=true then 1 else 0);rw[if_pos rfl];split<;>omega)
 · subst hag;have hcon:=hF rfl;refine ah ?_;refine bE ?_;exact⟨_,rfl,by rw[<-hcon];unfold cg at ho ⊢;rw[hol] at ho ⊢;exact ho,eg⟩
def ig:Nat->List (List Int)->List (ByteArray×Int)
 |_,[]=>[]
 |i,x::r=>(bs (gQ x),(i:Int))::ig (i+1) r
theorem vH:∀(ls:List (List Int)) (i:Nat) (l:List Int),ig i (ls++[l])=ig i ls++[(bs (gQ l),((i+ls.length:Nat):Int))]
 | [],i,l=>by simp[ig]
 |x::r,i,l=>by
  simp only[List.cons_append,ig];rw[vH r (i+1) l,List.length_cons,show i+1+r.length=i+(r.length+1) by omega]
theorem sY:∀(ls:List (List Int)) (i:Nat),(ig i ls).length=ls.length
 | [],_=>rfl
 |x::r,i=>by rw[ig,List.length_cons,List.length_cons,sY r (i+1)]
theorem lK:∀(ls:List (List Int)) (i:Nat) (l:List Int),lM (bs (gQ l)) (ig i ls)=(ke i ls l).map fun j=>(j:Int)
 | [],i,l=>rfl
 |x::r,i,l=>by
  rw[ig,lM,ke]
  by_cases h:l=x
  · subst h;rw[if_pos rfl,if_pos rfl];rfl
  · have hk:¬bs (gQ l)=bs (gQ x):=fun e=>h (key_inj (gX e))
    rw[if_neg hk,if_neg h];exact lK r (i+1) l
theorem xM {t:Int}(h:t<0\/live.getD t.toNat false=false):bW live cls t= -2:=if_pos h
theorem EF {t:Int}(h:¬(t<0\/live.getD t.toNat false=false)):bW live cls t=cls.getD t.toNat 0:=if_neg h
theorem uh (hcb:∀x∈cls,-1<=x/\x<=1000000) (k:Nat) : -1<=cls.getD k 0/\cls.getD k 0<=1000000:=by
 rw[List.getD_eq_getElem?_getD];cases hk:cls[k]? with
 |none=>simp
 |some x=>exact hcb x (List.mem_of_getElem? hk)
theorem Ap (hcb:∀x∈cls,-1<=x/\x<=1000000) (k:Nat):∀x∈fA d live cls k,-9223372036854775808<=x/\x<=9223372036854775807:=by
 intro x hx
 rcases List.mem_cons.1 hx with e|e
 · have:=uh hcb k;omega
 · obtain⟨t,_,rfl⟩:=List.mem_map.1 e;unfold bW;split
   · omega
   · have:=uh hcb t.toNat;omega
theorem xb:∀(ls:List (List Int)) (i:Nat) (l:List Int),ke i ls l=none->ke i (ls++[l]) l=some (i+ls.length)
 | [],i,l,_=>by simp[ke]
 |x::r,i,l,h=>by
  rw[ke] at h;split at h
  · cases h
  · rename_i hn;rw[List.cons_append,ke,if_neg hn,xb r (i+1) l h,List.length_cons]
    congr 1;omega
theorem yI {db:Nat}{lv:Value}(htens:tH h) (k:qj h db d) (hok:d.Ok) (hlv:bC .bool h (fun _=>False) lv live) (hll:live.length=d.next.length) :
 af Tryz.prog 84 #[.pointer (some ⟨db,0,none⟩),lv] h (aX fun r h'=>cg (Value.int .i64) h' h.size 3 r (dS d live)/\ak h h'):=by
 obtain⟨vn,vr,hk,⟨na,nn,nc,rfl,hnl,hnc,hnm,hgetn⟩,⟨ra,rn,rc,rfl,hrl,hrc,hrm,hgetr⟩⟩:=k;obtain⟨va,vm,vc,rfl,hvl,hvc,hvm,hgetv⟩:=hlv;have hlen:=hok.len;have hsize:=hok.size;have hslN:bC FB h (fun _=>False) (.slice na nn nc) d.next:=⟨_,_,_,rfl,hnl,hnc,hnm,hgetn⟩
 have hslR:bC (.int .i64) h (fun _=>False) (.slice ra rn rc) d.rule:=⟨_,_,_,rfl,hrl,hrc,hrm,hgetr⟩
 have hslV:bC .bool h (fun _=>False) (.slice va vm vc) live:=⟨_,_,_,rfl,hvl,hvc,hvm,hgetv⟩
 subst hnl;generalize htgt:dS d live=tgt;refine cu ?_;refine ah ?_;refine xp rfl (aM rfl (hk.cell (i:=0) rfl)) ?_;refine ah ?_;refine xo rfl (az.rQ underlying78 H.Ol H.Qf rfl rfl rfl (by omega) (by decide)) ?_;rintro _ h1 ⟨rfl,k1,e1⟩;have k1:cg (Value.int .i64) h1 h.size 3 (.slice (some ⟨h.size,0,none⟩) d.next.length d.next.length) (List.replicate d.next.length 0):=by unfold cg;simpa using k1
 refine ah ?_;refine nq (σ:=Nat) (fun i=>[(26,.int .i64 (i:Nat))]) (fun i h'=>ak h h'/\cg (Value.int .i64) h' h.size 3 (.slice (some ⟨h.size,0,none⟩) d.next.length d.next.length) (d.rule.take i++List.replicate (d.next.length-i) 0)/\i<=d.next.length) (fun i=>d.next.length-i) (0) ⟨e1,by simpa using k1,Nat.zero_le _⟩ rfl ?_;rintro i g ⟨eg,ho,hi⟩ ih;refine ah ?_;refine bN (fun hlt=>?_) (fun hlt=>?_)
 · have hiN:i<d.next.length:=by omega
   obtain⟨x,hx⟩:∃x,d.rule[i]? =some x:=⟨_,List.getElem?_eq_getElem (by omega)⟩
   have hxe:d.rule[i]'(by omega)=x:=(List.getElem?_eq_some_iff.1 hx).2;obtain⟨oa',n',c',hv',_,_,_,hgetr⟩:=id (hslR.mv (Mv.aj eg));cases hv';obtain⟨b2,o2,cs2,ha2,_,hrow2,rfl⟩:=hgetr i x hx;obtain⟨gg,c4,hv4,hgb,hglt,hcell,hfz,hset⟩:=ho.at (Jl (z:=(0:Int)) hlen hiN);rw[Jk hlen hi] at hv4;cases hv4;refine ah ?_;refine xp rfl (aM rfl ((hk.aj eg).cell (i:=1) rfl)) ?_;refine b7 ?_;refine xp rfl (eK rfl rfl i rfl ha2) ?_;refine xp rfl (aM rfl (hrow2 0 _ rfl)) ?_;refine xp rfl (eK rfl rfl i rfl rfl) ?_;refine bQ rfl (bU H.ck rfl rfl rfl hcell hfz) ?_;rintro _ g2 ⟨rfl,hg2⟩;have hset:=hset x;rw[<-hg2,<-hxe,Jj hlen hiN] at hset;have x2:Ext (fun b=>b=h.size) g g2:=by rw[hg2];exact Ext.ey _ _ _ rfl
   have e2:ak h g2:=ak.only eg x2 (Nat.le_refl _);refine ah ?_;exact ih (i+1) ⟨e2,hset,hiN⟩
 · obtain rfl:i=d.next.length:=by omega
   rw[Nat.sub_self,List.replicate_zero,List.append_nil,List.take_of_length_le (by omega)] at ho;refine ah ?_;refine nq (σ:=Nat×Nat×Value×List Int) (fun q=>[(5,q.2.2.1),(7,.int .i64 (q.2.1:Nat))]) (fun q h'=>ak h h'/\cg (Value.int .i64) h' h.size 3 q.2.2.1 q.2.2.2/\q.2.2.2.length=d.next.length/\(∀x∈q.2.2.2,-1<=x/\x<=1000000)/\(q.2.1<=d.next.length/\jO q.2.1 q.2.2.2/\d.next.length+1<=q.1+q.2.1)/\kQ d live q.1 q.2.1 q.2.2.2=tgt) (fun q=>q.1) ((d.next.length+1,0,.slice (some ⟨h.size,0,none⟩) d.next.length d.next.length,d.rule)) ⟨eg,ho,hlen,hok.ru,⟨Nat.zero_le _,fun i hi=>absurd hi (Nat.not_lt_zero _),by simp⟩,htgt⟩ rfl ?_;rintro⟨n,many,vcl,cls⟩ g ⟨eg,ho,hcl,hcb,⟨hmN,hcov,hfuel⟩,hcon⟩ ih
   try dsimp only
   dsimp only at ho hcl hcb hmN hcov hfuel hcon;obtain⟨n,rfl⟩:∃m,n=m+1:=⟨n-1,by omega⟩
   rw[kQ] at hcon;have hmore:=oC (d:=d) (live:=live) hcov hcl;have hend:=eT d live cls;generalize hps:bg d live cls d.next.length 0 [] []=ps at hcon hmore hend
   obtain⟨la,lc,rfl,_⟩:=(show ax g h.size 3 1 vcl cls.length (cls.map (Value.int .i64)) from ho).open;rw[hcl] at ho;have hown:∀b,(Value.slice la d.next.length lc).ownBlock=some b->b<g.size:=fun b hb=>(ax.lt ho hb).2
   rw[hcl];refine ah ?_;refine xo rfl (oN (ek:=Value.string) (ev:=Value.int .i64)) ?_;rintro _ g1 ⟨rfl,hm1,e1',z1⟩;refine ah ?_;refine xo rfl (az.rQ underlying78 H.Ol H.Qf rfl rfl rfl (by omega) (by decide)) ?_;rintro _ g2 ⟨rfl,k2,e2⟩;have k2:cg (Value.int .i64) g2 g1.size 3 (.slice (some ⟨g1.size,0,none⟩) d.next.length d.next.length) (List.replicate d.next.length 0):=by unfold cg;simpa using k2
   have hm2:=hm1.ext e2 (fun k=>k);have e12:=e1'.trans e2;refine ah ?_;refine xp rfl (aM rfl ((hk.aj (eg.trans e12)).cell (i:=0) rfl)) ?_;refine ah ?_;refine nq (σ:=Nat×List (List Int)×List Int) (fun q=>[(49,.int .i64 (q.1:Nat))]) (fun q h'=>ak g h'/\fP Value.string (Value.int .i64) h' g.size (ig 0 q.2.1)/\cg (Value.int .i64) h' g1.size 3 (.slice (some ⟨g1.size,0,none⟩) d.next.length d.next.length) (q.2.2++List.replicate (d.next.length-q.1) 0)/\(q.1<=d.next.length/\q.2.2.length=q.1/\q.2.1.length<=q.1)/\bg d live cls (d.next.length-q.1) q.1 q.2.1 q.2.2=ps) (fun q=>d.next.length-q.1) ((0,[],[])) ⟨e12,hm2,k2,⟨Nat.zero_le _,rfl,Nat.le_refl _⟩,hps⟩ rfl ?_;rintro⟨k,seen,after⟩ g3 ⟨e3,hmp,haf,⟨hkN,hal,hsl⟩,hcon2⟩ ih2
   try dsimp only
   dsimp only at hmp haf hkN hal hsl hcon2;have eg3:=eg.trans e3;have ho3:=cg.aj ho e3;refine ah ?_;refine bN (fun hlt=>?_) (fun hlt=>?_)
   · have hkN:k<d.next.length:=by omega
     obtain⟨m,hm⟩:∃m,d.next.length-k=m+1:=⟨d.next.length-k-1,by omega⟩
     rw[hm,bg] at hcon2;obtain⟨r,hr⟩:∃r,d.next[k]? =some r:=⟨_,List.getElem?_eq_getElem hkN⟩
     obtain⟨oa',n',c',hv',_,_,_,hgetn⟩:=id (hslN.mv (Mv.aj eg3));cases hv';obtain⟨b1,o1,cs1,ha1,_,hrow1,rfl⟩:=hgetn k r hr;have hone:∀u∈bP r,u.oneCell'=true:=fun u hu=>by simp[bP] at hu;obtain⟨_,_,rfl⟩:=hu;rfl
     have hrow:d.row k=r.v:=by unfold bK.row;rw[hr]
     iterate 4 refine bZ ?_
     refine eu ?_;refine b7 ?_;refine xp rfl (eK rfl rfl k rfl ha1) ?_;refine xp rfl (eN rfl hrow1) ?_;refine xo rfl (iT) ?_;rintro _ g4 ⟨rfl,k4,e4,z4⟩;have k4:aE g4 g3.size 171 (List.replicate 256 (Value.int .i64 0)):=k4;refine ah ?_;refine bQ rfl (er rfl rfl k4 hone) ?_;rintro _ g5 ⟨rfl,k5,x5,z5⟩;have k5:aE g5 g3.size 171 (bP r):=by rw[<-B7 r];exact k5
     have e5:ak g3 g5:=ak.only e4 x5 (Nat.le_refl _);have ho5:=cg.aj ho3 e5;obtain⟨c,hc⟩:∃c,cls[k]? =some c:=⟨_,List.getElem?_eq_getElem (by omega)⟩
     have hgd:cls.getD k 0=c:=by rw[List.getD_eq_getElem?_getD,hc];rfl
     obtain⟨gg,c4,hv4,hgb,hglt,hcell,hfz,hset⟩:=ho5.at hc;rw[hcl] at hv4;have hla:la=some ⟨gg,0,none⟩:=by cases hv4;rfl
     refine fu ?_;refine bZ ?_;refine eu ?_
     iterate 2 refine b7 ?_
     refine xp rfl (eK rfl rfl k rfl hla) ?_;refine xp rfl (aM rfl hcell) ?_;have e56:ak g5 (g5.push (.cells #[.int .i64 c] 3)):=Ext.push _ _ _;have hl6:cg (Value.int .i64) (g5.push (.cells #[.int .i64 c] 3)) g5.size 3 (.slice (some ⟨g5.size,0,none⟩) 1 1) [c]:=yg (Value.int .i64) g5 3 [c] 1 rfl (by decide) g5.size (Nat.le_refl _) rfl;refine xo rfl (sO [_]) ?_;rintro _ _ ⟨rfl,rfl⟩;refine ah ?_;generalize g5.push (.cells #[.int .i64 c] 3)=g6 at *;have k6:=k5.aj e56;have e36:ak g3 g6:=e5.trans e56;have ho6:=cg.aj ho5 e56;have hz5:=e5.size;refine xp rfl (eN rfl k6.row) ?_;refine ah ?_;refine nq (σ:=Nat×Value) (fun q=>[(12,q.2),(60,.int .i64 (q.1:Nat))]) (fun q h'=>ak g3 h'/\cg (Value.int .i64) h' g5.size 3 q.2 (c::(r.v.take q.1).map (bW live cls))/\q.1<=256/\g5.size<=h'.size) (fun q=>256-q.1) ((0,.slice (some ⟨g5.size,0,none⟩) 1 1)) ⟨e36,hl6,Nat.zero_le _,e56.size⟩ rfl ?_;rintro⟨j,vl⟩ g7 ⟨e7,hl7,hj,hz7⟩ ih3
     try dsimp only
     dsimp only at hl7 hj;have eg7:=eg3.trans e7;have ho7:=cg.aj ho3 e7;have hlen7:(c::(r.v.take j).map (bW live cls)).length=j+1:=by simp[r.len];omega
     refine ah ?_;refine bN (fun hlt3=>?_) (fun hlt3=>?_)
     · have hj2:j<256:=by omega
       obtain⟨t,ht⟩:∃t,r.v[j]? =some t:=⟨_,List.getElem?_eq_getElem (by rw[r.len];exact hj2)⟩
       have htm:=hok.to r (List.mem_of_getElem? hr) t (List.mem_of_getElem? ht);have htr:c::(r.v.take (j+1)).map (bW live cls)=(c::(r.v.take j).map (bW live cls))++[bW live cls t]:=by rw[List.take_add_one,ht];simp
       have hlo:ax g7 g5.size 3 1 vl (c::(r.v.take j).map (bW live cls)).length ((c::(r.v.take j).map (bW live cls)).map (Value.int .i64)):=hl7;have hlo2:=hlo;rw[hlen7] at hlo2;obtain⟨wa,wc,rfl,_⟩:=hlo2.open;have hl8:cg (Value.int .i64) g7 g5.size 3 (.slice wa (j+1) wc) (c::(r.v.take j).map (bW live cls)):=hl7
       have fin:∀v8 g8 x,ax g8 g5.size 3 1 v8 (j+1+1) ((c::(r.v.take j).map (bW live cls)).map (Value.int .i64)++[.int .i64 x])->Ext (bV (Value.slice wa (j+1) wc).ownBlock) g7 g8->x=bW live cls t->ak g3 g8/\cg (Value.int .i64) g8 g5.size 3 v8 (c::(r.v.take (j+1)).map (bW live cls))/\j+1<=256/\g5.size<=g8.size:=by
        rintro v8 g8 x ho hx rfl;refine⟨cg.grown e7 hl8 hz5 hx,?_,hj2,Nat.le_trans hz7 hx.size⟩;rw[htr];exact cg.of ho hlen7.symm rfl rfl
       refine ah ?_;refine xp rfl (an.wQ underlying171 H.ck H.gS rfl rfl j rfl hj2 (show (bP r).toArray[j]? =some (Value.int .i64 t) by simp[bP,ht])) ?_;refine b7 ?_;refine fu ?_;refine bZ ?_;refine eu ?_
       iterate 3 refine b7 ?_
       refine gU 65 (fun hg=>?_) (fun hg=>?_)
       · have hg':=of_decide_eq_true hg;refine ah ?_;refine mX rfl (by simp) ?_;refine ah ?_;refine xo rfl (sO [_]) ?_;rintro _ _ ⟨rfl,rfl⟩;refine xo rfl (E1 rfl rfl hlo2 rfl rfl) ?_;rintro v8 g8 ⟨ho8,hx8,hx8',hv8⟩;have ff:=fin v8 g8 (-2) ho8 hx8 (xM (.inl hg')).symm;obtain⟨v8a,v8c,rfl,_⟩:=ho8.open;refine ah ?_;exact ih3 (j+1,_) ff
       · have hg':=of_decide_eq_false hg;obtain⟨t2,rfl⟩:=Int.eq_ofNat_of_zero_le (show 0<=t by omega);obtain⟨bt,hbt⟩:∃bt,live[t2]? =some bt:=⟨_,List.getElem?_eq_getElem (by omega)⟩
         have hlt2:live.getD t2 false=bt:=by rw[List.getD_eq_getElem?_getD,hbt];rfl
         obtain⟨oa',n',c',hv',_,_,_,hgetv⟩:=id (hslV.mv (Mv.aj eg7));cases hv';obtain⟨b3,o3,cs3,ha3,_,hrow3,rfl⟩:=hgetv t2 bt hbt
         iterate 2 refine b7 ?_
         refine xp rfl (eK rfl rfl t2 rfl ha3) ?_;refine xp rfl (aM rfl (hrow3 0 _ rfl)) ?_;refine ah ?_;refine Dm (fun hb=>?_) (fun hb=>?_)
         · have hb':bt=false:=by simpa using hb
           refine ah ?_;refine xo rfl (sO [_]) ?_;rintro _ _ ⟨rfl,rfl⟩;refine xo rfl (E1 rfl rfl hlo2 rfl rfl) ?_;rintro v8 g8 ⟨ho8,hx8,hx8',hv8⟩;have ff:=fin v8 g8 (-2) ho8 hx8 (xM (.inr (by show live.getD t2 false=false;rw[hlt2,hb']))).symm;obtain⟨v8a,v8c,rfl,_⟩:=ho8.open;refine ah ?_;exact ih3 (j+1,_) ff
         · have hb':bt=true:=by simpa using hb
           obtain⟨c2,hc2⟩:∃c2,cls[t2]? =some c2:=⟨_,List.getElem?_eq_getElem (by omega)⟩
           have hgd2:cls.getD t2 0=c2:=by rw[List.getD_eq_getElem?_getD,hc2];rfl
           obtain⟨gg2,c42,hv42,hgb2,hglt2,hcell2,hfz2,hset2⟩:=ho7.at hc2;rw[hcl] at hv42;have hla2:la=some ⟨gg2,0,none⟩:=by cases hv42;rfl
           refine eu ?_
           iterate 3 refine b7 ?_
           refine xp rfl (eK rfl rfl t2 rfl hla2) ?_;refine xp rfl (aM rfl hcell2) ?_;refine xo rfl (sO [_]) ?_;rintro _ _ ⟨rfl,rfl⟩;refine xo rfl (E1 rfl rfl hlo2 rfl rfl) ?_;rintro v8 g8 ⟨ho8,hx8,hx8',hv8⟩
           have ff:=fin v8 g8 c2 ho8 hx8 (by
            rw[EF (by
             rintro(e|e)
             · exact hg' e
             · rw[Int.toNat_natCast,hlt2,hb'] at e;cases e),Int.toNat_natCast,hgd2])
           obtain⟨v8a,v8c,rfl,_⟩:=ho8.open;refine ah ?_;exact ih3 (j+1,_) ff
     · obtain rfl:j=256:=by omega
       have hkey:c::(r.v.take 256).map (bW live cls)=fA d live cls k:=by unfold fA;rw[hgd,hrow,List.take_of_length_le (by rw[r.len];exact Nat.le_refl _)]
       have hkb:=Ap (d:=d) (live:=live) hcb k;have hkl:(fA d live cls k).length<=1000000:=by rw[<-hkey,hlen7];decide
       rw[hkey] at hl7;generalize hkk:fA d live cls k=key at *;refine ah ?_;refine xo rfl (bl rfl (tj (O:=fun _=>False) (htens.aj eg7) (cg.read (h1:=fun _=>rfl) hl7 (fun _ _ k=>k)) hkl hkb)) ?_;rintro _ g8 ⟨rfl,e8⟩;have e38:ak g3 g8:=e7.trans e8;have eg8:ak g g8:=e3.trans e38;have mp8:=hmp.ext e38 (fun k=>k);have haf8:=cg.aj haf e38
       have hk0:(after++List.replicate (d.next.length-k) (0:Int))[k]? =some 0:=by
        rw[List.getElem?_append_right (by omega),List.getElem?_replicate,if_pos (by omega)]
       have hl0:(after++List.replicate (d.next.length-k) (0:Int)).length=d.next.length:=by simp;omega
       have hsetA:∀y:Int,(after++List.replicate (d.next.length-k) (0:Int)).set k y=(after++[y])++List.replicate (d.next.length-(k+1)) 0:=fun y=>by
        rw[List.set_append_right _ _ (by omega),hal,Nat.sub_self,show d.next.length-k=(d.next.length-(k+1))+1 by omega,List.replicate_succ,List.set_cons_zero];simp
       have hz12:=e1'.size
       have fin2:∀(gA gB:ai) (seen':List (List Int)) (y:Int),ak g gA->fP Value.string (Value.int .i64) gA g.size (ig 0 seen')->cg (Value.int .i64) gB g1.size 3 (.slice (some ⟨g1.size,0,none⟩) d.next.length d.next.length) ((after++List.replicate (d.next.length-k) (0:Int)).set k y)->gB=ey gA ⟨g1.size,0+k*1,none⟩ (.int .i64 y)->bg d live cls m (k+1) seen' (after++[y])=ps->seen'.length<=k+1->ak g gB/\fP Value.string (Value.int .i64) gB g.size (ig 0 seen')/\cg (Value.int .i64) gB g1.size 3 (.slice (some ⟨g1.size,0,none⟩) d.next.length d.next.length) ((after++[y])++List.replicate (d.next.length-(k+1)) 0)/\(k+1<=d.next.length/\(after++[y]).length=k+1/\seen'.length<=k+1)/\bg d live cls (d.next.length-(k+1)) (k+1) seen' (after++[y])=ps:=by
        rintro gA gB seen' y eA mA hB hgB hcp hsl';have xB:Ext (fun b=>b=g1.size) gA gB:=by rw[hgB];exact Ext.ey _ _ _ rfl
        refine⟨ak.only eA xB hz12,mA.ext xB (by show ¬_=_;omega),?_,⟨hkN,by simp[hal],hsl'⟩,?_⟩
        · rw[<-hsetA];exact hB
        · rw[show d.next.length-(k+1)=m by omega];exact hcp
       refine ah ?_;refine xp rfl (an.wo (z:=.int .i64 0) jN.str underlying169 underlying9 (by kernel_rfl) rfl rfl rfl mp8) ?_;rw[lK]
       rcases hfind:ke 0 seen key with _|i0
       · rw[hfind] at hcon2;simp only at hcon2;have hnone:lM (bs (gQ key)) (ig 0 seen)=none:=by rw[lK,hfind];rfl
         refine ah ?_;refine mX rfl (by simp) ?_;refine ah ?_;refine xp rfl (an.Eb underlying169 rfl (mp8)) ?_;refine bQ rfl (az.mapUpdate (v:=((ig 0 seen).length:Int)) jN.str underlying169 underlying9 rfl rfl rfl rfl rfl mp8 hnone) ?_;rintro _ g9 ⟨rfl,mp9,x9,z9⟩;have mp9:fP Value.string (Value.int .i64) g9 g.size (ig 0 (seen++[key])):=by rw[vH,Nat.zero_add,<-sY seen 0];exact mp9
         have hsz8:=eg8.size;have e9:ak g g9:=ak.only eg8 x9 (Nat.le_refl _);have haf9:cg (Value.int .i64) g9 g1.size 3 (.slice (some ⟨g1.size,0,none⟩) d.next.length d.next.length) (after++List.replicate (d.next.length-k) (0:Int)):=ax.ext x9 haf8 (fun b hb (e:b=g.size)=>by have:=(ax.lt haf8 hb).1;omega);obtain⟨gg3,c3,hv3,_,_,hcell3,hfz3,hset3⟩:=haf9.at hk0;rw[hl0] at hv3;cases hv3;have hasc:lM (bs (gQ key)) (ig 0 (seen++[key]))=some ((seen.length:Nat):Int):=by rw[lK,xb seen 0 key hfind,Nat.zero_add];rfl
         refine ah ?_;refine xp rfl (an.lookup (z:=.int .i64 0) jN.str underlying169 underlying9 (by kernel_rfl) rfl rfl rfl mp9) ?_;rw[hasc,Option.map_some,Option.getD_some];refine xp rfl (eK rfl rfl k rfl rfl) ?_;refine bQ rfl (bU H.ck rfl rfl rfl hcell3 hfz3) ?_;rintro _ g10 ⟨rfl,hg10⟩;have hg10:g10=ey g9 ⟨g1.size,0+k*1,none⟩ (.int .i64 ((seen.length:Nat):Int)):=hg10;have hB:=hset3 ((seen.length:Nat):Int);rw[<-hg10] at hB;refine ah ?_;exact ih2 (k+1,seen++[key],after++[((seen.length:Nat):Int)]) (fin2 g9 g10 _ _ e9 mp9 hB hg10 hcon2 (by simp;omega))
       · rw[hfind] at hcon2;simp only at hcon2;refine ah ?_;refine mQ rfl (by simp) ?_;obtain⟨gg3,c3,hv3,_,_,hcell3,hfz3,hset3⟩:=haf8.at hk0;rw[hl0] at hv3;cases hv3;have hasc:lM (bs (gQ key)) (ig 0 seen)=some ((i0:Nat):Int):=by rw[lK,hfind];rfl
         refine ah ?_;refine xp rfl (an.lookup (z:=.int .i64 0) jN.str underlying169 underlying9 (by kernel_rfl) rfl rfl rfl mp8) ?_;rw[hasc,Option.map_some,Option.getD_some];refine xp rfl (eK rfl rfl k rfl rfl) ?_;refine bQ rfl (bU H.ck rfl rfl rfl hcell3 hfz3) ?_;rintro _ g10 ⟨rfl,hg10⟩;have hg10:g10=ey g8 ⟨g1.size,0+k*1,none⟩ (.int .i64 ((i0:Nat):Int)):=hg10;have hB:=hset3 ((i0:Nat):Int);rw[<-hg10] at hB;refine ah ?_;exact ih2 (k+1,seen,after++[((i0:Nat):Int)]) (fin2 g8 g10 _ _ eg8 mp8 hB hg10 hcon2 (Nat.le_succ_of_le hsl))
   · obtain rfl:k=d.next.length:=by omega
     rw[Nat.sub_self,List.replicate_zero,List.append_nil] at haf;rw[Nat.sub_self,bg] at hcon2;subst hcon2;dsimp only at hcon hmore hend;have hm:=hend.size;have hsl':(ig 0 seen).length=seen.length:=sY seen 0
     have ha':cg (Value.int .i64) g3 h.size 3 (.slice (some ⟨g1.size,0,none⟩) d.next.length d.next.length) after:=ET (show ax g3 g1.size 3 1 _ after.length (after.map (Value.int .i64)) from haf) (fun b hb=>by
      cases hb;have:=eg.size;have:=e1'.size
      show h.size<=g1.size
      omega)
     refine ah ?_;refine xp rfl (an.Eb underlying169 rfl (hmp)) ?_;rw[hsl'];refine ah ?_;refine bN (fun heq=>?_) (fun heq=>?_)
     · rw[if_pos (by omega)] at hcon;refine ah ?_;refine bE ?_;exact⟨_,rfl,by rw[<-hcon];exact ha',eg3⟩
     · rw[if_neg (by omega)] at hcon;refine ah ?_;refine xp rfl (an.Eb underlying169 rfl (hmp)) ?_;rw[hsl'];refine ah ?_;exact ih (n,seen.length,_,after) ⟨eg3,ha',hal,fun x hx=>by have:=hend.bound x hx;omega,⟨by show seen.length<=_;omega,hend.nums,by show _<=n+seen.length;omega⟩,hcon⟩
end
end Go.Proofs.YtpjgdgdnbkjoiaaGreatDoor
namespace Go.Proofs.YtpjgdgdnbkjoiaaGreatDoor
open Go Go.Lw
set_option maxRecDepth 20000
section
variable {v3:Value}{n:Nat}
def kY (cls:List Int):Nat->List Nat->List (Int×Int)
  |_,[]=>[]
  |i,x::r=>(cls.getD x 0,(i:Int))::kY cls (i+1) r
theorem vI (cls:List Int):∀(ls:List Nat) (i:Nat) (l:Nat),kY cls i (ls++[l])=kY cls i ls++[(cls.getD l 0,((i+ls.length:Nat):Int))]
  | [],i,l=>by simp[kY]
  |x::r,i,l=>by
    simp only[List.cons_append,kY];rw[vI cls r (i+1) l,List.length_cons,show i+1+r.length=i+(r.length+1) by omega]
theorem tF (cls:List Int):∀(ls:List Nat) (i:Nat) (c:Int),lM c (kY cls i ls)=(qd cls i ls c).map fun j=>(j:Int)
  | [],i,c=>rfl
  |x::r,i,c=>by
    rw[kY,lM,qd]
    by_cases h:c=cls.getD x 0
    · rw[if_pos h,if_pos h];rfl
    · rw[if_neg h,if_neg h];exact tF cls r (i+1) c
structure eD (h0 h:ai) (cls:List Int) (db mb:Nat) (vo vn vr:Value) (of:List Nat) (next:List Row) (rule:List Int):Prop where
  ext:ak h0 h
  dblk:aE h db 167 [vn,vr]
  nx:gP 256 bP h h0.size 171 vn next
  ru:cg (Value.int .i64) h h0.size 3 vr rule
  ol:cg cN h h0.size 3 vo of
  mp:fP (Value.int .i64) (Value.int .i64) h mb (kY cls 0 of)
  ne:∀b,vo.ownBlock=some b->vr.ownBlock≠some b
  dge:h0.size<=db
  mge:h0.size<=mb
section
variable {h0 h:ai}{cls:List Int}{db mb:Nat}{vo vn vr:Value}{of:List Nat}{next:List Row}{rule:List Int}
theorem eD.Gy (k:eD h0 h cls db mb vo vn vr of next rule):∀b,vn.ownBlock=some b->bD h b 171:=fun _ hb=>ax.ty k.nx hb
theorem eD.Fa (k:eD h0 h cls db mb vo vn vr of next rule):∀b,vr.ownBlock=some b->bD h b 3:=fun _ hb=>ax.ty k.ru hb
theorem eD.NX (k:eD h0 h cls db mb vo vn vr of next rule):∀b,vo.ownBlock=some b->bD h b 3:=fun _ hb=>ax.ty k.ol hb
theorem eD.aj {h':ai}(k:eD h0 h cls db mb vo vn vr of next rule) (e:ak h h'):eD h0 h' cls db mb vo vn vr of next rule :=
  ⟨k.ext.trans e,k.dblk.aj e,gP.aj k.nx e,cg.aj k.ru e,cg.aj k.ol e,k.mp.ext e (fun k=>k),k.ne,k.dge,k.mge⟩
theorem eD.put {h':ai}{x:Nat}(k:eD h0 h cls db mb vo vn vr of next rule) (e:Ext (fun b=>b=x) h h') (hx:bD h x 171) (hn:vn.ownBlock≠some x) (hge:h0.size<=x):eD h0 h' cls db mb vo vn vr of next rule:=by
  have hd:¬db=x:=k.dblk.ty.ne hx (by decide);have hm:¬mb=x:=k.mp.ne hx;exact⟨ak.only k.ext e hge,k.dblk.ext e hd,ax.ext e k.nx (fun b hb hbx=>hn (by subst hbx;exact hb)),ax.ext e k.ru (fun b hb=>(k.Fa b hb).ne hx (by decide)),ax.ext e k.ol (fun b hb=>(k.NX b hb).ne hx (by decide)),k.mp.ext e hm,k.ne,k.dge,k.mge⟩
theorem eD.Mj {g3 g4:ai}{r:Row}(k:eD h0 h cls db mb vo vn vr of next rule) (hn:n=next.length) (ho:ax g3 h0.size 171 256 v3 (n+1) (next.flatMap bP++bP r)) (hx:Ext (bV vn.ownBlock) h g3) (hd:aE g4 db 167 [v3,vr]) (x4:Ext (fun b=>b=db) g3 g4) :
    eD h0 g4 cls db mb vo v3 vr of (next++[r]) rule:=by
  have nne:∀{b:Nat}{t:TypeId},bD h b t->171≠t->¬bV vn.ownBlock b:=fun kt ht e=>(k.Gy _ e.symm).ne kt ht rfl
  have d3:=k.dblk.ext hx (nne k.dblk.ty (by decide));have dne:∀{b:Nat}{t:TypeId},bD g3 b t->167≠t->¬b=db:=fun kt ht e=>by subst e;exact d3.ty.ne kt ht rfl
  have mne:¬bV vn.ownBlock mb:=fun e=>k.mp.ne (k.Gy _ e.symm) rfl
  have hm3:=k.mp.ext hx mne;have ru3:=ax.ext hx k.ru (fun b hb=>nne (k.Fa b hb) (by decide));have of3:=ax.ext hx k.ol (fun b hb=>nne (k.NX b hb) (by decide));refine⟨⟨by have:=k.ext.size;have:=hx.size;have:=x4.size;omega,fun b hb kk=>?_⟩,hd,?_,ax.ext x4 ru3 (fun b hb=>dne (ax.ty ru3 hb) (by decide)),ax.ext x4 of3 (fun b hb=>dne (ax.ty of3 hb) (by decide)),hm3.ext x4 (hm3.ne d3.ty),k.ne,k.dge,k.mge⟩
  · rw[x4.block b (by have:=k.ext.size;have:=hx.size;omega) (by have:=k.dge;omega),hx.block b (by have:=k.ext.size;omega) (fun e=>by have:=(ax.lt k.nx e.symm).1;omega)];exact k.ext.block b hb kk
  · exact ax.ext x4 (gP.of ho hn rfl) (fun b hb=>dne (ax.ty ho hb) (by decide))
theorem eD.Mi {g3 g4:ai}{x:Int}(k:eD h0 h cls db mb vo vn vr of next rule) (hn:n=rule.length) (ho:ax g3 h0.size 3 1 v3 (n+1) (rule.map (Value.int .i64)++[.int .i64 x])) (hx:Ext (bV vr.ownBlock) h g3) (hv:∀b,v3.ownBlock=some b->vr.ownBlock=some b\/h.size<=b) (hd:aE g4 db 167 [vn,v3]) (x4:Ext (fun b=>b=db) g3 g4) :
    eD h0 g4 cls db mb vo vn v3 of next (rule++[x]):=by
  have nne:∀{b:Nat}{t:TypeId},bD h b t->3≠t->¬bV vr.ownBlock b:=fun kt ht e=>(k.Fa _ e.symm).ne kt ht rfl
  have d3:=k.dblk.ext hx (nne k.dblk.ty (by decide));have dne:∀{b:Nat}{t:TypeId},bD g3 b t->167≠t->¬b=db:=fun kt ht e=>by subst e;exact d3.ty.ne kt ht rfl
  have mne:¬bV vr.ownBlock mb:=fun e=>k.mp.ne (k.Fa _ e.symm) rfl
  have hm3:=k.mp.ext hx mne;have nx3:=ax.ext hx k.nx (fun b hb=>nne (k.Gy b hb) (by decide));have of3:=ax.ext hx k.ol (fun b hb e=>k.ne b hb e.symm);refine⟨⟨by have:=k.ext.size;have:=hx.size;have:=x4.size;omega,fun b hb kk=>?_⟩,hd,ax.ext x4 nx3 (fun b hb=>dne (ax.ty nx3 hb) (by decide)),?_,ax.ext x4 of3 (fun b hb=>dne (ax.ty of3 hb) (by decide)),hm3.ext x4 (hm3.ne d3.ty),fun b hb e=>?_,k.dge,k.mge⟩
  · rw[x4.block b (by have:=k.ext.size;have:=hx.size;omega) (by have:=k.dge;omega),hx.block b (by have:=k.ext.size;omega) (fun e=>by have:=(ax.lt k.ru e.symm).1;omega)];exact k.ext.block b hb kk
  · exact ax.ext x4 (cg.of (ys:=[x]) ho hn rfl rfl) (fun b hb=>dne (ax.ty ho hb) (by decide))
  · rcases hv b e with e|e
    · exact k.ne b hb e
    · have:=(k.NX b hb).lt;omega
theorem eD.more {g1 g2:ai}{t:Nat}(k:eD h0 h cls db mb vo vn vr of next rule) (x1:Ext (fun b=>b=mb) h g1) (hm:fP (Value.int .i64) (Value.int .i64) g1 mb (kY cls 0 (of++[t]))) (hn:n=of.length) (ho:ax g2 h0.size 3 1 v3 (n+1) (of.map cN++[cN t])) (hx:Ext (bV vo.ownBlock) g1 g2) (hv:∀b,v3.ownBlock=some b->vo.ownBlock=some b\/g1.size<=b) :
    eD h0 g2 cls db mb v3 vn vr (of++[t]) next rule:=by
  have mne:∀{b:Nat}{t:TypeId},bD h b t->¬b=mb:=fun kt e=>k.mp.ne kt e.symm
  have d1:=k.dblk.ext x1 (mne k.dblk.ty);have nx1:=ax.ext x1 k.nx (fun b hb=>mne (k.Gy b hb));have ru1:=ax.ext x1 k.ru (fun b hb=>mne (k.Fa b hb));have of1:=ax.ext x1 k.ol (fun b hb=>mne (k.NX b hb));have one:∀{b:Nat}{t:TypeId},bD g1 b t->3≠t->¬bV vo.ownBlock b:=fun kt ht e=>(show bD g1 _ 3 from ax.ty of1 e.symm).ne kt ht rfl
  refine⟨⟨by have:=k.ext.size;have:=hx.size;have:=x1.size;omega,fun b hb kk=>?_⟩,d1.ext hx (one d1.ty (by decide)),ax.ext hx nx1 (fun b hb=>one (ax.ty nx1 hb) (by decide)),ax.ext hx ru1 (fun b hb e=>k.ne b e.symm hb),cg.of (ys:=[t]) ho hn rfl rfl,hm.ext hx (fun e=>hm.ne (ax.ty of1 e.symm) rfl),fun b hb e=>?_,k.dge,k.mge⟩
  · rw[hx.block b (by have:=k.ext.size;have:=x1.size;omega) (fun e=>by have:=(ax.lt k.ol e.symm).1;omega),x1.block b (by have:=k.ext.size;omega) (by have:=k.mge;omega)];exact k.ext.block b hb kk
  · rcases hv b hb with e'|e'
    · exact k.ne b e' e
    · have:=(show bD g1 _ 3 from ax.ty ru1 e).lt;omega
end
end
end Go.Proofs.YtpjgdgdnbkjoiaaGreatDoor
namespace Go.Proofs.YtpjgdgdnbkjoiaaGreatDoor
open Go.Proofs.Tryz
open Go Go.Lw
set_option maxRecDepth 20000 set_option maxHeartbeats 4000000
theorem zx (d:bK):∀(n:Nat) (out:List Bool),(rR d n out).length=out.length
 | 0,_=>rfl
 |n+1,out=>by
  rw[rR];split
  · rw[zx d n,gW]
  · rw[gW]
theorem GF (d:bK):(br d).length=d.next.length:=by rw[br,zx];simp
theorem xH (d:bK) (live:List Bool):∀(n many:Nat) (cls:List Int),cls.length=d.next.length->(kQ d live n many cls).length=d.next.length
 | 0,_,_,h=>h
 |n+1,many,cls,h=>by
  rw[kQ];split
  · exact(eT d live cls).len
  · exact xH d live n _ _ (eT d live cls).len
theorem EA (d:bK) (live:List Bool) (h:d.rule.length=d.next.length):(dS d live).length=d.next.length:=xH d live _ _ _ h
def oL (h:ai) (O:Nat->Prop) (db:Nat) (d:bK):Prop :=
 ∃vn vr,¬O db/\aE h db 167 [vn,vr]/\bC FB h O vn d.next/\bC (.int .i64) h O vr d.rule
theorem oL.mv {h h':ai}{O O':Nat->Prop}{db:Nat}{d:bK}(k:oL h O db d) (m:Mv O O' h h'):oL h' O' db d:=by
 obtain⟨vn,vr,ho,hk,h1,h2⟩:=k;have hm:=m.block db hk.lt ho;exact⟨vn,vr,hm.2,hm.1.trans hk,h1.mv m,h2.mv m⟩
theorem oL.rd {h:ai}{O:Nat->Prop}{db:Nat}{d:bK}(k:oL h O db d):qj h db d:=by
 obtain⟨vn,vr,ho,hk,h1,h2⟩:=k;exact⟨vn,vr,hk,oM h1 (fun _ k=>k.elim),oM h2 (fun _ k=>k.elim)⟩
theorem Ju {h:ai}{db:Nat}{d:bK}(htens:tH h) (k:qj h db d) (hok:d.Ok) (hd0:0<d.next.length) :
 af Tryz.prog 40 #[.pointer (some ⟨db,0,none⟩)] h (aX fun r h'=>(∃b,r= .pointer (some ⟨b,0,none⟩)/\oL h' (fun g=>g<h.size) b (lA d))/\ak h h'):=by
 have hlen:=hok.len;have hsize:=hok.size;generalize hres:lA d=res;refine cu ?_;refine ah ?_;refine xo rfl (bl rfl (CR k)) ?_;rintro _ h0 ⟨rfl,hh0⟩;subst hh0;refine ah ?_;refine bN (fun hz=>?_) (fun hz=>?_)
 · refine ah ?_;refine bE ?_;exfalso;omega
 · rw[lA,if_neg hz] at hres;have hll:=GF d;have hcl:=EA d (br d) hlen;refine ah ?_;refine xo rfl (bl rfl (D8 k hok)) ?_;rintro w3 h1 ⟨ho1,e1⟩;generalize br d=live at *;obtain⟨la,lc,rfl,_⟩:=(show ax h1 h0.size 4 1 w3 live.length (live.map Value.bool) from ho1).open;refine ah ?_;refine xo rfl (bl rfl (yI (htens.aj e1) (k.aj e1) hok (cg.read (O:=fun _=>False) (h1:=fun _=>rfl) ho1 (fun _ _ k=>k)) hll)) ?_;rintro w4 h2 ⟨ho2,e2⟩;generalize dS d live=cls at *;obtain⟨ca,cc,rfl,_⟩:=(show ax h2 h1.size 3 1 w4 cls.length (cls.map (Value.int .i64)) from ho2).open;have ho1:=cg.aj ho1 e2;have k2:=(k.aj e1).aj e2;have hsV:bC .bool h2 (fun _=>False) (.slice la live.length lc) live:=cg.read (h1:=fun _=>rfl) ho1 (fun _ _ k=>k);have hsC:bC (.int .i64) h2 (fun _=>False) (.slice ca cls.length cc) cls:=cg.read (h1:=fun _=>rfl) ho2 (fun _ _ k=>k);rw[hll] at hsV;rw[hcl] at hsC;rw[hll,hcl];obtain⟨c0,hc0⟩:∃c0,cls[0]? =some c0:=⟨_,List.getElem?_eq_getElem (by omega)⟩
   have hcd0:cls.getD 0 0=c0:=by rw[List.getD_eq_getElem?_getD,hc0];rfl
   refine ah ?_;refine xp rfl (aB (H.JI ) rfl) ?_;refine xo rfl (nk) ?_;rintro _ h3 ⟨rfl,kd3,e3,z3⟩;refine ah ?_;refine xo rfl (oN (ek:=Value.int .i64) (ev:=Value.int .i64)) ?_;rintro _ h4 ⟨rfl,hm4,e4,z4⟩;have kd3:aE h3 h2.size 167 [.slice none 0 0,.slice none 0 0]:=kd3;have e34:=e3.trans e4;obtain⟨oa',n',c',hv',_,_,_,hgetc⟩:=id (hsC.mv (Mv.aj e34));cases hv';obtain⟨b3,o3,cs3,ha3,_,hrow3,rfl⟩:=hgetc 0 c0 hc0;refine b7 ?_;refine xp rfl (eK rfl rfl 0 rfl ha3) ?_;refine xp rfl (aM rfl (hrow3 0 _ rfl)) ?_;refine bQ rfl (yh (v:=(0:Int)) (jN.int .i64) underlying176 underlying3 rfl rfl rfl rfl rfl hm4 (rfl:lM c0 []=none)) ?_;rintro _ h5 ⟨rfl,hm5,x5,z5⟩;have hm5:fP (Value.int .i64) (Value.int .i64) h5 h3.size (kY cls 0 [0]):=by rw[kY,hcd0];exact hm5
   have hz3:=e3.size;have e25:ak h2 h5:=ak.only e34 x5 hz3;have kd5:aE h5 h2.size 167 [.slice none 0 0,.slice none 0 0]:=(kd3.aj e4).ext x5 (by show ¬_=_;omega);refine ah ?_;refine xo rfl (sO [_]) ?_;rintro _ _ ⟨rfl,rfl⟩;refine ah ?_;have e56:ak h5 (h5.push (.cells #[.int .i64 0] 3)):=Ext.push _ _ _;have ol6:cg cN (h5.push (.cells #[.int .i64 0] 3)) h2.size 3 (.slice (some ⟨h5.size,0,none⟩) 1 1) [0]:=yg cN h5 3 [0] 1 rfl (by decide) h2.size e25.size rfl;generalize h5.push (.cells #[.int .i64 0] 3)=h6 at *
   have mk6:eD h2 h6 cls h2.size h3.size (.slice (some ⟨h5.size,0,none⟩) 1 1) (.slice none 0 0) (.slice none 0 0) [0] [] [] :=
    ⟨e25.trans e56,kd5.aj e56,gP.nil _ _ _ _ _,cg.nil _ _ _ _,ol6,hm5.ext e56 (fun k=>k),fun b _ hb=>(by cases hb),Nat.le_refl _,hz3⟩
   refine nq (σ:=Nat×Value) (fun q=>[(7,q.2),(8,.int .i64 (q.1:Nat))]) (fun q h'=>∃vn vr of next rule,eD h2 h' cls h2.size h3.size q.2 vn vr of next rule/\q.1<=of.length/\Dh d.next.length of/\(next.length=q.1/\rule.length=q.1)/\Ch d live cls (d.next.length+1-q.1) q.1 of next rule=res) (fun q=>d.next.length+1-q.1) ((0,.slice (some ⟨h5.size,0,none⟩) 1 1)) ⟨_,_,[0],[],[],mk6,Nat.zero_le _,⟨by simp,fun x hx=>by simp at hx;omega⟩,⟨rfl,rfl⟩,hres⟩ rfl ?_;rintro⟨i,vl⟩ g ⟨vn,vr,of,next,rule,mk,hi,hok2,⟨hnl,hrl⟩,hcon⟩ ih
   try dsimp only
   dsimp only at mk hi hnl hrl hcon;have hofl:=hok2.len;obtain⟨oa,oc,rfl,_⟩:=(show ax g h2.size 3 1 vl of.length (of.map cN) from mk.ol).open;have mkg:=mk;refine ah ?_;refine bN (fun hlt=>?_) (fun hlt=>?_)
   · have hil:i<of.length:=by omega
     obtain⟨kk,hcur⟩:∃kk,of[i]? =some kk:=⟨_,List.getElem?_eq_getElem hil⟩
     have hkN:=hok2.lt kk (List.mem_of_getElem? hcur);obtain⟨n,hnn⟩:∃n,d.next.length+1-i=n+1:=⟨d.next.length-i,by omega⟩
     rw[hnn,Ch,hcur] at hcon;simp only at hcon;obtain⟨r,hr⟩:∃r,d.next[kk]? =some r:=⟨_,List.getElem?_eq_getElem hkN⟩
     have hrow:d.row kk=r.v:=by unfold bK.row;rw[hr]
     rw[hrow] at hcon;generalize htgt:fT live cls r.v of []=tgt at hcon;refine ah ?_;refine xo rfl (iT) ?_;rintro _ g1 ⟨rfl,kz,ez,zz⟩;have kz:aE g1 g.size 171 (([]:List Int).map (Value.int .i64)++List.replicate (256-0) (Value.int .i64 0)):=kz;have Kb:=mk.aj ez;have hvz:vn.ownBlock≠some g.size:=fun e=>by have:=(mk.Gy _ e).lt;omega
     obtain⟨vn0,vr0,kd,⟨na,nn,nc,rfl,hnl0,hnc,hnm,hgetn⟩,hsR⟩:=id (k2.aj Kb.ext);subst hnl0;obtain⟨b1,o1,cs1,ha1,_,hrow1,rfl⟩:=hgetn kk r hr;obtain⟨gg,c4,hv4,_,_,hcell,_,_⟩:=Kb.ol.at hcur;have hoa:oa=some ⟨gg,0,none⟩:=by cases hv4;rfl
     refine ah ?_;refine nj rfl (aM rfl (kd.cell (i:=0) rfl)) ?_
     iterate 2 refine Ng ?_
     refine nj rfl (eK rfl rfl i rfl hoa) ?_;refine nj rfl (aM rfl hcell) ?_;refine nj rfl (eK rfl rfl kk rfl ha1) ?_;refine nj rfl (eN rfl hrow1) ?_;refine ah ?_;refine nq (σ:=Nat×Value) (fun q=>[(7,q.2),(45,.int .i64 (q.1:Nat))]) (fun q h'=>∃of' row,eD h2 h' cls h2.size h3.size q.2 vn vr of' next rule/\(q.1<=256/\row.length=q.1)/\aE h' g.size 171 (row.map (Value.int .i64)++List.replicate (256-q.1) (Value.int .i64 0))/\of'[i]? =some kk/\Dh d.next.length of'/\fT live cls (r.v.drop q.1) of' row=tgt) (fun q=>256-q.1) ((0,.slice oa of.length oc)) ⟨of,[],Kb,⟨Nat.zero_le _,rfl⟩,kz,hcur,hok2,htgt⟩ rfl ?_;rintro⟨b,vl⟩ g2 ⟨of,row,mk,⟨hb,hrlen⟩,kz,hcur,hok2,hrow⟩ ih2
     try dsimp only
     dsimp only at mk hb hrlen kz hrow;have hofl:=hok2.len;obtain⟨oa,oc,rfl,_⟩:=(show ax g2 h2.size 3 1 vl of.length (of.map cN) from mk.ol).open;refine ah ?_;refine bN (fun hb256=>?_) (fun hb256=>?_)
     · have hb2:b<256:=by omega
       obtain⟨t,ht⟩:∃t,r.v[b]? =some t:=⟨_,List.getElem?_eq_getElem (by rw[r.len];exact hb2)⟩
       have htm:=hok.to r (List.mem_of_getElem? hr) t (List.mem_of_getElem? ht);have hdrop:r.v.drop b=t::r.v.drop (b+1):=by rw[List.drop_eq_getElem_cons (by rw[r.len];exact hb2),(List.getElem?_eq_some_iff.1 ht).2]
       rw[hdrop,fT] at hrow;have hso:=wh (live:=live) (cls:=cls) (t:=t) hok2 htm.2;have hsg:=(D2 (live:=live) (cls:=cls) (of:=of) (t:=t)).2 i kk hcur;have hcells:(row.map (Value.int .i64)++List.replicate (256-b) (Value.int .i64 0)).length=256:=by simp[hrlen];omega
       have hset:∀to:Int,(row.map (Value.int .i64)++List.replicate (256-b) (Value.int .i64 0)).set (0+b*1) (.int .i64 to)=(row++[to]).map (Value.int .i64)++List.replicate (256-(b+1)) (Value.int .i64 0):=fun to=>by
        rw[Nat.zero_add,Nat.mul_one,List.set_append_right _ _ (by simp;omega),show 256-b=(256-(b+1))+1 by omega,List.replicate_succ];have:b-(row.map (Value.int .i64)).length=0:=by simp;omega
        rw[this,List.set_cons_zero];simp
       have hblt:0+b*1<(row.map (Value.int .i64)++List.replicate (256-b) (Value.int .i64 0)).length:=by rw[hcells];omega
       have hzge:h2.size<=g.size:=mkg.ext.size
       have fin:∀(gA gB:ai) (vA:Value) (ofA:List Nat) (to:Int),eD h2 gA cls h2.size h3.size vA vn vr ofA next rule->aE gA g.size 171 (row.map (Value.int .i64)++List.replicate (256-b) (Value.int .i64 0))->gB=ey gA ⟨g.size,0+b*1,none⟩ (.int .i64 to)->cF live cls of t=(ofA,to)->∃of' row,eD h2 gB cls h2.size h3.size vA vn vr of' next rule/\(b+1<=256/\row.length=b+1)/\aE gB g.size 171 (row.map (Value.int .i64)++List.replicate (256-(b+1)) (Value.int .i64 0))/\of'[i]? =some kk/\Dh d.next.length of'/\fT live cls (r.v.drop (b+1)) of' row=tgt:=by
        rintro gA gB vA ofA to mA kA hgB hst;have k6:=kA.set (0+b*1) (.int .i64 to);rw[<-hgB,hset] at k6;have x6:Ext (fun y=>y=g.size) gA gB:=by rw[hgB];exact Ext.ey _ _ _ rfl
        rw[hst] at hso hsg hrow;exact⟨ofA,row++[to],mA.put x6 kA.ty hvz hzge,⟨hb2,by simp[hrlen]⟩,k6,hsg,hso,hrow⟩
       refine ah ?_;refine xp rfl (an.wQ underlying171 H.ck H.gS rfl rfl b rfl hb2 (show (bP r).toArray[b]? =some (Value.int .i64 t) by simp[bP,ht])) ?_
       iterate 2 refine b7 ?_
       refine fu ?_
       iterate 2 refine bZ ?_
       refine eu ?_
       iterate 3 refine b7 ?_
       refine gU 51 (fun hg=>?_) (fun hg=>?_)
       · have hg':=of_decide_eq_true hg;refine ah ?_;refine mX rfl (by simp) ?_;refine bZ ?_;refine eu ?_;refine b7 ?_;refine xp rfl (Dl rfl rfl b rfl (by omega)) ?_;refine bQ rfl (bU H.ck rfl rfl rfl (kz.cell (List.getElem?_eq_getElem hblt)) kz.nf) ?_;rintro _ g6 ⟨rfl,hg6⟩;have ff:=fin g2 g6 _ of (-1) mk kz hg6 (by rw[cF,if_pos (.inl hg')]);refine ah ?_;exact ih2 (b+1,_) ff
       · have hg':=of_decide_eq_false hg;obtain⟨t2,rfl⟩:=Int.eq_ofNat_of_zero_le (show 0<=t by omega);obtain⟨bt,hbt⟩:∃bt,live[t2]? =some bt:=⟨_,List.getElem?_eq_getElem (by omega)⟩
         have hlt2:live.getD t2 false=bt:=by rw[List.getD_eq_getElem?_getD,hbt];rfl
         obtain⟨oa',n',c',hv',_,_,_,hgetv⟩:=id (hsV.mv (Mv.aj mk.ext));cases hv';obtain⟨b3,o3,cs3,ha3,_,hrow3,rfl⟩:=hgetv t2 bt hbt
         iterate 2 refine b7 ?_
         refine xp rfl (eK rfl rfl t2 rfl ha3) ?_;refine xp rfl (aM rfl (hrow3 0 _ rfl)) ?_;refine ah ?_;refine Dm (fun hb=>?_) (fun hb=>?_)
         · have hb':bt=false:=by simpa using hb
           refine bZ ?_;refine eu ?_;refine b7 ?_;refine xp rfl (Dl rfl rfl b rfl (by omega)) ?_;refine bQ rfl (bU H.ck rfl rfl rfl (kz.cell (List.getElem?_eq_getElem hblt)) kz.nf) ?_;rintro _ g6 ⟨rfl,hg6⟩;have ff:=fin g2 g6 _ of (-1) mk kz hg6 (by rw[cF,if_pos (.inr (by show live.getD t2 false=false;rw[hlt2,hb']))]);refine ah ?_;exact ih2 (b+1,_) ff
         · have hb':bt=true:=by simpa using hb
           obtain⟨c2,hc2⟩:∃c2,cls[t2]? =some c2:=⟨_,List.getElem?_eq_getElem (by omega)⟩
           have hgd2:cls.getD t2 0=c2:=by rw[List.getD_eq_getElem?_getD,hc2];rfl
           have hneg:¬(((t2:Nat):Int)<0\/live.getD ((t2:Nat):Int).toNat false=false):=by
            rintro(e|e)
            · exact hg' e
            · rw[Int.toNat_natCast,hlt2,hb'] at e;cases e
           have hstep:cF live cls of ((t2:Nat):Int)=match qd cls 0 of c2 with|some i=>(of,(i:Int))|none=>(of++[t2],(of.length:Int)):=by
            rw[cF,if_neg hneg,Int.toNat_natCast,hgd2]<;>rfl
           obtain⟨oa',n',c',hv',_,_,_,hgetc⟩:=id (hsC.mv (Mv.aj mk.ext));cases hv';obtain⟨b4,o4,cs4,ha4,_,hrow4,rfl⟩:=hgetc t2 c2 hc2
           iterate 2 refine bZ ?_
           refine eu ?_
           iterate 3 refine b7 ?_
           refine xp rfl (eK rfl rfl t2 rfl ha4) ?_;refine xp rfl (aM rfl (hrow4 0 _ rfl)) ?_;refine xp rfl (an.wo (z:=.int .i64 0) (jN.int .i64) underlying176 underlying3 (by kernel_rfl) rfl rfl rfl mk.mp) ?_;rw[tF]
           rcases hfind:qd cls 0 of c2 with _|i0
           · rw[hfind] at hstep;simp only at hstep;have hnone:lM c2 (kY cls 0 of)=none:=by rw[tF,hfind];rfl
             refine ah ?_;refine mX rfl (by simp) ?_;refine bZ ?_;refine eu ?_
             iterate 3 refine b7 ?_
             refine fu ?_;refine bZ ?_;refine eu ?_
             iterate 3 refine b7 ?_
             refine xp rfl (eK rfl rfl t2 rfl ha4) ?_;refine xp rfl (aM rfl (hrow4 0 _ rfl)) ?_;refine ah ?_;refine bQ rfl (az.mapUpdate (v:=((of.length:Nat):Int)) (jN.int .i64) underlying176 underlying3 rfl rfl rfl rfl rfl mk.mp hnone) ?_;rintro _ g3 ⟨rfl,hm3,x3,z3'⟩;have hm3:fP (Value.int .i64) (Value.int .i64) g3 h3.size (kY cls 0 (of++[t2])):=by rw[vI,Nat.zero_add,hgd2];exact hm3
             have mne:∀{b:Nat}{t:TypeId},bD g2 b t->¬b=h3.size:=fun kt e=>mk.mp.ne kt e.symm
             have ol3:ax g3 h2.size 3 1 (.slice oa of.length oc) of.length (of.map cN):=ax.ext x3 mk.ol (fun b hb=>mne (mk.NX b hb));have kz3:=kz.ext x3 (mne kz.ty);have hz2g:=mk.ext.size;refine ah ?_;refine xo rfl (sO [_]) ?_;rintro _ _ ⟨rfl,rfl⟩;refine xo rfl (E1 rfl rfl ol3 rfl rfl) ?_;rintro v7 g4 ⟨ho4,hx4,hx4',hv4⟩;have mk4:=mk.more (t:=t2) x3 hm3 rfl ho4 hx4 hv4;have kz4:=kz3.ext hx4 (fun e=>(show bD g3 _ 3 from ax.ty ol3 e.symm).ne kz3.ty (by decide) rfl);obtain⟨v7a,v7c,rfl,_⟩:=ho4.open;refine b7 ?_;refine fu ?_;refine eu ?_
             iterate 2 refine b7 ?_
             refine xp rfl (Dl rfl rfl b rfl (by omega)) ?_;refine bQ rfl (bU H.ck rfl rfl rfl (kz4.cell (List.getElem?_eq_getElem hblt)) kz4.nf) ?_;rintro _ g6 ⟨rfl,hg6⟩;have ff:=fin g4 g6 _ (of++[t2]) (of.length:Nat) mk4 kz4 hg6 hstep;refine ah ?_;exact ih2 (b+1,_) ff
           · rw[hfind] at hstep;simp only at hstep;refine ah ?_;refine mQ rfl (by simp) ?_;refine bZ ?_;refine eu ?_
             iterate 2 refine b7 ?_
             refine xp rfl (Dl rfl rfl b rfl (by omega)) ?_;refine bQ rfl (bU H.ck rfl rfl rfl (kz.cell (List.getElem?_eq_getElem hblt)) kz.nf) ?_;rintro _ g6 ⟨rfl,hg6⟩;have ff:=fin g2 g6 _ of (i0:Nat) mk kz hg6 hstep;refine ah ?_;exact ih2 (b+1,_) ff
     · obtain rfl:b=256:=by omega
       rw[List.drop_of_length_le (by rw[r.len];exact Nat.le_refl _),fT] at hrow;subst hrow;simp only at hcon;have hencr:bP (j8 row)=row.map (Value.int .i64):=by rw[bP,uT hrlen]
       rw[Nat.sub_self,List.replicate_zero,List.append_nil,<-hencr] at kz;have hil2:i<of.length:=(List.getElem?_eq_some_iff.1 hcur).1
       have nne:∀{b:Nat}{t:TypeId},bD g2 b t->171≠t->¬(bV vn.ownBlock b\/Array.size g2<=b):=fun kt ht e=>by
        rcases e with e|e
        · exact(mk.Gy _ e.symm).ne kt ht rfl
        · have:=kt.lt;omega
       have hzM:¬(bV vn.ownBlock g.size\/Array.size g2<=g.size):=by
        rintro(e|e)
        · exact hvz e.symm
        · have:=kz.lt;omega
       have hdM:=nne mk.dblk.ty (by decide);have hnx:ax g2 h2.size 171 256 vn next.length (next.flatMap bP):=mk.nx
       have hone:∀u∈bP (j8 row),u.oneCell'=true:=fun u hu=>by simp[bP] at hu;obtain⟨_,_,rfl⟩:=hu;rfl
       have hg2:=mk.ext.size;refine ah ?_;refine vi 11 (fun b=>bV vn.ownBlock b\/Array.size g2<=b) (fun i=>Nat.blt i 10) ?_;refine aZ 0 ?_;refine aZ 1 ?_;refine aZ 2 ?_;refine aZ 3 ?_;refine cA 4 rfl (fun h' e=>aM rfl (e.cell hdM (mk.dblk.cell (i:=0) rfl))) ?_;refine cA 5 rfl (fun h' e=>eN rfl (e.rowAt hzM kz.row)) ?_;refine iL 6 rfl (az.cy (cs:=bP (j8 row)) underlying165 H.FA rfl (mB _) (by decide)) ?_;rintro _ _ ⟨rfl,rfl⟩;refine⟨fun _=>(Ext.push _ _ _),?_⟩;refine iL 7 rfl (az.zT underlying165 H.FA rfl rfl hnx rfl (by simp) hone (by simp only[maxLen];omega) (by omega) hg2) ?_;rintro v3 g3 ⟨ho3,hx3,hx3',hv3⟩;refine⟨fun _=>hx3'.mono (fun _ _ k=>.inl k),?_⟩;obtain⟨a3,c3,rfl,_⟩:=ho3.open;refine J8 8 ?_;refine aZ 9 ?_;refine pO 10 rfl (gq rfl rfl ((mk.dblk.ext hx3 (fun e=>hdM (.inl e))))) ?_;rintro _ g4 ⟨rfl,k4,x4,z4⟩;refine⟨nofun,?_⟩;have mk4:=mk.Mj (r:=j8 row) rfl ho3 hx3 k4 x4;obtain⟨vn0,vr0,kd4,_,⟨ra,rn,rc,rfl,hrl0,hrc,hrm,hgetr⟩⟩:=id k2;obtain⟨x,hx⟩:∃x,d.rule[kk]? =some x:=⟨_,List.getElem?_eq_getElem (by omega)⟩
       have hru0:d.ru kk=x:=by unfold bK.ru;rw[List.getD_eq_getElem?_getD,hx];rfl
       obtain⟨b5,o5,cs5,ha5,hO5,hrow5,rfl⟩:=hgetr kk x hx;obtain⟨gg5,c5,hv5,_,_,hcell5,_,_⟩:=mk4.ol.at hcur;have hoa5:oa=some ⟨gg5,0,none⟩:=by cases hv5;rfl
       have rne:∀{b:Nat}{t:TypeId},bD g4 b t->3≠t->¬(bV vr.ownBlock b\/Array.size g4<=b):=fun kt ht e=>by
        rcases e with e|e
        · exact(mk4.Fa _ e.symm).ne kt ht rfl
        · have:=kt.lt;omega
       have hdM4:=rne mk4.dblk.ty (by decide);have hru:ax g4 h2.size 3 1 vr rule.length (rule.map (Value.int .i64)):=mk4.ru;have hg4s:=mk4.ext.size
       have olb:∀{b:Nat},b<h2.size->¬(bV vr.ownBlock b\/Array.size g4<=b):=fun kb e=>by
        rcases e with e|e
        · have:=(ax.lt mk4.ru e.symm).1;omega
        · omega
       have hc4:=kd4.cell (i:=1) rfl;have hd4:=olb (cY hc4);have hc5:cellAt h2 _=some (Value.int .i64 x):=hrow5 0 _ rfl;have hd5:=olb (cY hc5)
       have hd6:¬(bV vr.ownBlock gg5\/Array.size g4<=gg5):=fun e=>by
        rcases e with e|e
        · exact mk4.ne gg5 (by rw[hoa5];rfl) e.symm
        · have:=cY hcell5;simp only at this;omega
       refine pQ ?_;refine vi 20 (fun b=>bV vr.ownBlock b\/Array.size g4<=b) (fun i=>Nat.blt i 19) ?_;refine aZ 0 ?_;refine aZ 1 ?_;refine aZ 2 ?_;refine aZ 3 ?_;refine cA 4 rfl (fun h' e=>aM rfl (e.cell hdM4 (mk4.dblk.cell (i:=1) rfl))) ?_;refine aZ 5 ?_;refine aZ 6 ?_;refine aZ 7 ?_;refine cA 8 rfl (fun h' e=>aM rfl (e.cell hd4 (mk4.ext.cell (fun k=>k) hc4))) ?_;refine aZ 9 ?_;refine aZ 10 ?_;refine cA 11 rfl (fun h' e=>eK rfl rfl i rfl hoa5) ?_;refine cA 12 rfl (fun h' e=>aM rfl (e.cell hd6 hcell5)) ?_;refine cA 13 rfl (fun h' e=>eK rfl rfl kk rfl ha5) ?_;refine cA 14 rfl (fun h' e=>aM rfl (e.cell hd5 (mk4.ext.cell (fun k=>k) hc5))) ?_;refine iL 15 rfl (sO [_]) ?_;rintro _ _ ⟨rfl,rfl⟩;refine⟨fun _=>by first|exact Ext.push _ _ _|assumption,?_⟩;refine iL 16 rfl (E1 rfl rfl hru rfl rfl) ?_;rintro v6 g6 ⟨ho6,hx6,hx6',hv6⟩;refine⟨fun _=>hx6'.mono (fun _ _ k=>.inl k),?_⟩;obtain⟨a6,c6,rfl,_⟩:=ho6.open;refine J8 17 ?_;refine aZ 18 ?_;refine pO 19 rfl (gq rfl rfl ((mk4.dblk.ext hx6 (fun e=>hdM4 (.inl e))))) ?_;rintro _ g7 ⟨rfl,k7,x7,z7⟩;refine⟨nofun,?_⟩;have mk7:=mk4.Mi (x:=x) rfl ho6 hx6 hv6 k7 x7;refine pQ ?_;refine ah ?_;exact ih (i+1,_) ⟨_,_,of,next++[j8 row],rule++[x],mk7,hil2,hok2,⟨by simp[hnl],by simp[hrl]⟩,by rw[<-hru0,show d.next.length+1-(i+1)=n by omega];exact hcon⟩
   · obtain rfl:i=of.length:=by omega
     obtain⟨n,hnn⟩:∃n,d.next.length+1-of.length=n+1:=⟨d.next.length-of.length,by omega⟩
     rw[hnn,Ch,List.getElem?_eq_none (Nat.le_refl _)] at hcon;simp only at hcon;refine ah ?_;refine bE ?_;have hz02:=(e1.trans e2).size;refine⟨_,rfl,⟨h2.size,rfl,?_⟩,(e1.trans e2).trans mk.ext⟩;rw[<-hcon];exact⟨vn,vr,by omega,mk.dblk,gP.read mk.nx (fun b hb k=>by omega),cg.read (h1:=fun _=>rfl) mk.ru (fun b hb k=>by omega)⟩
end Go.Proofs.YtpjgdgdnbkjoiaaGreatDoor
namespace Go.Proofs.YtpjgdgdnbkjoiaaGreatDoor
open Go
def ji (B:Nat) (ss:List bA):Prop:=∀x∈ss,x.rule<=B
theorem ji.snoc {B:Nat}{ss:List bA}(k:ji B ss){x:bA}(h:x.rule<=B):ji B (ss++[x]):=fun y hy=>by
  rcases List.mem_append.1 hy with e|e
  · exact k y e
  · have:y=x:=by simpa using e
    rw[this];exact h
theorem ji.set {B:Nat}{ss:List bA}(k:ji B ss){x:bA}(h:x.rule<=B) (i:Nat):ji B (ss.set i x):=fun y hy=>by
  rcases List.mem_or_eq_of_mem_set hy with e|e
  · exact k y e
  · rw[e];exact h
mutual
theorem AS (B:Nat):∀(x:Nd) (ss:List bA) (to:Nat),ji B ss->ji B (lay x ss to).1
  |.mk k s kids,ss,to,h=>by
    rw[lay];split
    · exact h.snoc (Nat.zero_le _)
    · split
      · exact zE B kids ss to h
      · split
        · exact(zF B kids ss to h).snoc (Nat.zero_le _)
        · split
          · exact(zD B kids ss to h).snoc (Nat.zero_le _)
          · split
            · exact(zD B kids _ _ (h.snoc (Nat.zero_le _))).set (Nat.zero_le _) _
            · exact h
theorem zE (B:Nat):∀(l:List Nd) (ss:List bA) (to:Nat),ji B ss->ji B (bz l ss to).1
  | [],ss,to,h=>by rw[bz];exact h
  |x::r,ss,to,h=>by rw[bz];exact AS B x _ _ (zE B r ss to h)
theorem zF (B:Nat):∀(l:List Nd) (ss:List bA) (to:Nat),ji B ss->ji B (aT l ss to).1
  | [],ss,to,h=>by rw[aT];exact h
  |x::r,ss,to,h=>by rw[aT];exact zF B r _ to (AS B x ss to h)
theorem zD (B:Nat):∀(l:List Nd) (ss:List bA) (to:Nat),ji B ss->ji B (bS l ss to).1
  | [],ss,to,h=>by rw[bS];exact h
  |x::r,ss,to,h=>by rw[bS];exact AS B x ss to h
end
theorem Ck (B:Nat):∀(i:Nat) (rules:List By) (ss:List bA) (t:List Nat) (ss':List bA) (t':List Nat),i+rules.length<=B->ji B ss->lB i rules ss t= .inr (ss',t')->ji B ss'
  |i,[],ss,t,ss',t',_,h,hm=>by
    rw[lB] at hm;cases hm;exact h
  |i,s::r,ss,t,ss',t',hB,h,hm=>by
    rw[List.length_cons] at hB;rw[lB] at hm;split at hm
    · cases hm
    · exact Ck B (i+1) r _ _ ss' t' (by omega) (AS B _ _ _ (h.snoc (by show i<=B;omega))) hm
theorem IS {rules:List By}{ss:List bA}{st:Nat}(h:fh rules= .inr (ss,st)):∀x∈ss,x.rule<=1000000:=by
  unfold fh at h;split at h
  · cases h
  · rename_i hn;split at h
    · cases h
    · rename_i ss1 t1 hg;split at h
      · cases h
      · cases h;have:=Ck 64 0 rules [] [] ss1 t1 (by omega) (fun x hx=>(by cases hx)) hg;intro x hx;have:=(this.snoc (x:=⟨0,0,t1,0⟩) (Nat.zero_le _)) x hx;omega
end Go.Proofs.YtpjgdgdnbkjoiaaGreatDoor
namespace Go.Proofs.YtpjgdgdnbkjoiaaGreatDoor
open Go Go.Lw
set_option maxRecDepth 20000
def mF (rules:List By):Int ⊕ bK:=match fh rules with
  |.inl e=>.inl e
  |.inr (ss,st)=>gI ss st
theorem lJ {rules:List By}{d:bK}(h:mF rules= .inr d):d.Ok/\0<d.next.length:=by
  unfold mF at h;split at h
  · cases h
  · rename_i ss st hm;refine⟨G9 h (IS hm),?_⟩;obtain⟨_,L,_,h2,h3⟩:=jn h;omega
theorem BG {rules:List By}{d:bK}(h:mF rules= .inr d) (s:By) (a:Int):((de d s a).1,(de d s a).2.1)=AL rules s a:=by
  have hd:=(lJ h).2;unfold mF at h;split at h
  · cases h
  · rename_i ss st hm;have hst:=(fC hm).stl;unfold AL D3 de;rw[hm];simp only
    by_cases ha:a<0\/(s.length:Int)<a
    · rw[if_pos (.inr ha),if_pos (.inr ha)]
    · rw[if_neg (by omega),if_neg (by omega)];exact mE h (by omega) _
end Go.Proofs.YtpjgdgdnbkjoiaaGreatDoor
