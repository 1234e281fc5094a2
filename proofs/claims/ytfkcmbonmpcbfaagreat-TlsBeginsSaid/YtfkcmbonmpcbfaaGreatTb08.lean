/- Parts of the proof, in build order. No condition. -/
import Derived.Test.YtfkcmbonmpcbfaaGreatTb07
import Derived.Test.YtfkcmbonmpcbfaaGreatTb06
import Derived.MapKept
import Derived.Maps.Range
import Derived.Test.YtfkcmbonmpcbfaaGreatTb04
import Derived.Laws.StructEq
import Derived.Laws.Small
import Derived.ChangeKeysEq
import Derived.DeepKeys3
set_option linter.unusedSimpArgs false
set_option linter.unusedVariables false
set_option maxHeartbeats 1000000
set_option maxRecDepth 20000
namespace Go.Proofs.YtfkcmbonmpcbfaaGreat
open Go.RowKit Go.Lp Go.Sy
structure bp where
 obj:ByteArray
 sec:ByteArray
 kind:Int
 at_:Int
 size:Int
 digest:ByteArray
 form:ByteArray
 deriving Inhabited
abbrev bp.row(x:bp):List D:=[.v (.string x.obj),.v (.string x.sec),.v (.int .i64 x.kind),.v (.int .i64 x.at_),.v (.int .i64 x.size),.v (.string x.digest),.v (.string x.form)]
abbrev bp.vs(x:bp):List Value:=[.string x.obj,.string x.sec,.int .i64 x.kind,.int .i64 x.at_,.int .i64 x.size,.string x.digest,.string x.form]
abbrev bp.val(x:bp):Value:=.agg #[.string x.obj,.string x.sec,.int .i64 x.kind,.int .i64 x.at_,.int .i64 x.size,.string x.digest,.string x.form]
def bp.ok(x:bp):Per:=b7 (dU x.obj) (b7 (dU x.sec) (b7 (dU x.digest) (dU x.form)))
theorem bp.f_obj{ps:List Per}{x:bp}(h:Ent ps x.ok):Ent ps (dU x.obj):=(Ent.left h)
theorem bp.f_sec{ps:List Per}{x:bp}(h:Ent ps x.ok):Ent ps (dU x.sec):=(Ent.left (Ent.right h))
structure bO where
 name:ByteArray
 version:ByteArray
 main:Bool
 kind:Int
 at_:Int
 size:Int
 deriving Inhabited
abbrev bO.row(x:bO):List D:=[.v (.string x.name),.v (.string x.version),.v (.bool x.main),.v (.int .i64 x.kind),.v (.int .i64 x.at_),.v (.int .i64 x.size)]
abbrev bO.vs(x:bO):List Value:=[.string x.name,.string x.version,.bool x.main,.int .i64 x.kind,.int .i64 x.at_,.int .i64 x.size]
abbrev bO.val(x:bO):Value:=.agg #[.string x.name,.string x.version,.bool x.main,.int .i64 x.kind,.int .i64 x.at_,.int .i64 x.size]
def bO.ok(x:bO):Per:=b7 (dU x.name) (dU x.version)
theorem bO.f_name{ps:List Per}{x:bO}(h:Ent ps x.ok):Ent ps (dU x.name):=(Ent.left h)
theorem bO.f_version{ps:List Per}{x:bO}(h:Ent ps x.ok):Ent ps (dU x.version):=(Ent.right h)
structure bR where
 name:ByteArray
 version:ByteArray
 kind:Int
 weak:Bool
 own:Bool
 deriving Inhabited
abbrev bR.row(x:bR):List D:=[.v (.string x.name),.v (.string x.version),.v (.int .i64 x.kind),.v (.bool x.weak),.v (.bool x.own)]
abbrev bR.vs(x:bR):List Value:=[.string x.name,.string x.version,.int .i64 x.kind,.bool x.weak,.bool x.own]
abbrev bR.val(x:bR):Value:=.agg #[.string x.name,.string x.version,.int .i64 x.kind,.bool x.weak,.bool x.own]
def bR.ok(x:bR):Per:=b7 (dU x.name) (dU x.version)
theorem bR.f_name{ps:List Per}{x:bR}(h:Ent ps x.ok):Ent ps (dU x.name):=(Ent.left h)
theorem bR.f_version{ps:List Per}{x:bR}(h:Ent ps x.ok):Ent ps (dU x.version):=(Ent.right h)
structure mq where
 at_:Int
 kind:Int
 import_:Int
 add:Int
 deriving Inhabited
abbrev mq.row(x:mq):List D:=[.v (.int .i64 x.at_),.v (.int .i64 x.kind),.v (.int .i64 x.import_),.v (.int .i64 x.add)]
abbrev mq.vs(x:mq):List Value:=[.int .i64 x.at_,.int .i64 x.kind,.int .i64 x.import_,.int .i64 x.add]
structure fc where
 name:ByteArray
 kind:Int
 at_:Int
 size:Int
 deriving Inhabited
abbrev fc.row(x:fc):List D:=[.v (.string x.name),.v (.int .i64 x.kind),.v (.int .i64 x.at_),.v (.int .i64 x.size)]
abbrev fc.vs(x:fc):List Value:=[.string x.name,.int .i64 x.kind,.int .i64 x.at_,.int .i64 x.size]
abbrev fc.val(x:fc):Value:=.agg #[.string x.name,.int .i64 x.kind,.int .i64 x.at_,.int .i64 x.size]
def fc.ok(x:fc):Per:=dU x.name
structure bj where
 at_:Int
 size:Int
 deriving Inhabited
abbrev bj.row(x:bj):List D:=[.v (.int .i64 x.at_),.v (.int .i64 x.size)]
abbrev bj.vs(x:bj):List Value:=[.int .i64 x.at_,.int .i64 x.size]
abbrev bj.val(x:bj):Value:=.agg #[.int .i64 x.at_,.int .i64 x.size]
structure cY where
 marks:Sl fc
 lines:Sl fb
 ends:Sl bj
 inlines:Sl cK
 vars:Sl fT
 depths:Sl dH
 deriving Inhabited
abbrev cY.row(x:cY):List D:=[.v (.slice x.marks.ad x.marks.l.length x.marks.cap),.v (.slice x.lines.ad x.lines.l.length x.lines.cap),.v (.slice x.ends.ad x.ends.l.length x.ends.cap),.v (.slice x.inlines.ad x.inlines.l.length x.inlines.cap),.v (.slice x.vars.ad x.vars.l.length x.vars.cap),.v (.slice x.depths.ad x.depths.l.length x.depths.cap)]
abbrev cY.vs(x:cY):List Value:=[.slice x.marks.ad x.marks.l.length x.marks.cap,.slice x.lines.ad x.lines.l.length x.lines.cap,.slice x.ends.ad x.ends.l.length x.ends.cap,.slice x.inlines.ad x.inlines.l.length x.inlines.cap,.slice x.vars.ad x.vars.l.length x.vars.cap,.slice x.depths.ad x.depths.l.length x.depths.cap]
def cY.ok(x:cY):Per:=b7 (ShF (fc.row) x.marks) (b7 (b6 (fun y=>fc.ok y) x.marks.l) (b7 (ShF (fb.row) x.lines) (b7 (b6 (fun y=>fb.ok y) x.lines.l) (b7 (ShF (bj.row) x.ends) (b7 (ShF (cK.row) x.inlines) (b7 (b6 (fun y=>cK.ok y) x.inlines.l) (b7 (ShF (fT.row) x.vars) (b7 (b6 (fun y=>fT.ok y) x.vars.l) (ShF (dH.row) x.depths)))))))))
theorem cY.f_marks{ps:List Per}{x:cY}(h:Ent ps x.ok):Ent ps (ShF (fc.row) x.marks):=(Ent.left h)
theorem cY.f_lines{ps:List Per}{x:cY}(h:Ent ps x.ok):Ent ps (ShF (fb.row) x.lines):=(Ent.left (Ent.right (Ent.right h)))
theorem cY.f_ends{ps:List Per}{x:cY}(h:Ent ps x.ok):Ent ps (ShF (bj.row) x.ends):=(Ent.left (Ent.right (Ent.right (Ent.right (Ent.right h)))))
theorem cY.f_inlines{ps:List Per}{x:cY}(h:Ent ps x.ok):Ent ps (ShF (cK.row) x.inlines):=(Ent.left (Ent.right (Ent.right (Ent.right (Ent.right (Ent.right h))))))
theorem cY.f_vars{ps:List Per}{x:cY}(h:Ent ps x.ok):Ent ps (ShF (fT.row) x.vars):=(Ent.left (Ent.right (Ent.right (Ent.right (Ent.right (Ent.right (Ent.right (Ent.right h))))))))
theorem cY.f_depths{ps:List Per}{x:cY}(h:Ent ps x.ok):Ent ps (ShF (dH.row) x.depths):=(Ent.right (Ent.right (Ent.right (Ent.right (Ent.right (Ent.right (Ent.right (Ent.right (Ent.right h)))))))))
structure dC where
 obj:ByteArray
 sec:ByteArray
 from_:ByteArray
 pieces:Sl eD
 code:Int
 deriving Inhabited
abbrev dC.row(x:dC):List D:=[.v (.string x.obj),.v (.string x.sec),.v (.string x.from_),.v (.slice x.pieces.ad x.pieces.l.length x.pieces.cap),.v (.int .i64 x.code)]
abbrev dC.vs(x:dC):List Value:=[.string x.obj,.string x.sec,.string x.from_,.slice x.pieces.ad x.pieces.l.length x.pieces.cap,.int .i64 x.code]
abbrev dC.val(x:dC):Value:=.agg #[.string x.obj,.string x.sec,.string x.from_,.slice x.pieces.ad x.pieces.l.length x.pieces.cap,.int .i64 x.code]
def dC.ok(x:dC):Per:=b7 (dU x.obj) (b7 (dU x.sec) (b7 (dU x.from_) (ShF (eD.row) x.pieces)))
theorem dC.f_obj{ps:List Per}{x:dC}(h:Ent ps x.ok):Ent ps (dU x.obj):=(Ent.left h)
theorem dC.f_sec{ps:List Per}{x:dC}(h:Ent ps x.ok):Ent ps (dU x.sec):=(Ent.left (Ent.right h))
theorem dC.f_pieces{ps:List Per}{x:dC}(h:Ent ps x.ok):Ent ps (ShF (eD.row) x.pieces):=(Ent.right (Ent.right (Ent.right h)))
structure ak where
 name:ByteArray
 lib:Bool
 code:Int
 data:Int
 zero:Int
 bytes:ByteArray
 tls:ByteArray
 block:Int
 nodes:Sl bp
 exports:Sl bO
 imports:Sl bR
 slots:Sl Int
 stubs:Sl Int
 dyns:Sl mq
 inits:Sl Int
 lasts:Sl Int
 entry:Int
 needs:Sl ByteArray
 versions:Sl aH
 info:cY
 changes:Sl dC
 deriving Inhabited
abbrev ak.row(x:ak):List D:=[.v (.string x.name),.v (.bool x.lib),.v (.int .i64 x.code),.v (.int .i64 x.data),.v (.int .i64 x.zero),.v (.string x.bytes),.v (.string x.tls),.v (.int .i64 x.block),.v (.slice x.nodes.ad x.nodes.l.length x.nodes.cap),.v (.slice x.exports.ad x.exports.l.length x.exports.cap),.v (.slice x.imports.ad x.imports.l.length x.imports.cap),.v (.slice x.slots.ad x.slots.l.length x.slots.cap),.v (.slice x.stubs.ad x.stubs.l.length x.stubs.cap),.v (.slice x.dyns.ad x.dyns.l.length x.dyns.cap),.v (.slice x.inits.ad x.inits.l.length x.inits.cap),.v (.slice x.lasts.ad x.lasts.l.length x.lasts.cap),.v (.int .i64 x.entry),.v (.slice x.needs.ad x.needs.l.length x.needs.cap),.v (.slice x.versions.ad x.versions.l.length x.versions.cap),.v (.slice x.info.marks.ad x.info.marks.l.length x.info.marks.cap),.v (.slice x.info.lines.ad x.info.lines.l.length x.info.lines.cap),.v (.slice x.info.ends.ad x.info.ends.l.length x.info.ends.cap),.v (.slice x.info.inlines.ad x.info.inlines.l.length x.info.inlines.cap),.v (.slice x.info.vars.ad x.info.vars.l.length x.info.vars.cap),.v (.slice x.info.depths.ad x.info.depths.l.length x.info.depths.cap),.v (.slice x.changes.ad x.changes.l.length x.changes.cap)]
abbrev ak.vs(x:ak):List Value:=[.string x.name,.bool x.lib,.int .i64 x.code,.int .i64 x.data,.int .i64 x.zero,.string x.bytes,.string x.tls,.int .i64 x.block,.slice x.nodes.ad x.nodes.l.length x.nodes.cap,.slice x.exports.ad x.exports.l.length x.exports.cap,.slice x.imports.ad x.imports.l.length x.imports.cap,.slice x.slots.ad x.slots.l.length x.slots.cap,.slice x.stubs.ad x.stubs.l.length x.stubs.cap,.slice x.dyns.ad x.dyns.l.length x.dyns.cap,.slice x.inits.ad x.inits.l.length x.inits.cap,.slice x.lasts.ad x.lasts.l.length x.lasts.cap,.int .i64 x.entry,.slice x.needs.ad x.needs.l.length x.needs.cap,.slice x.versions.ad x.versions.l.length x.versions.cap,.slice x.info.marks.ad x.info.marks.l.length x.info.marks.cap,.slice x.info.lines.ad x.info.lines.l.length x.info.lines.cap,.slice x.info.ends.ad x.info.ends.l.length x.info.ends.cap,.slice x.info.inlines.ad x.info.inlines.l.length x.info.inlines.cap,.slice x.info.vars.ad x.info.vars.l.length x.info.vars.cap,.slice x.info.depths.ad x.info.depths.l.length x.info.depths.cap,.slice x.changes.ad x.changes.l.length x.changes.cap]
abbrev ak.val(x:ak):Value:=.agg #[.string x.name,.bool x.lib,.int .i64 x.code,.int .i64 x.data,.int .i64 x.zero,.string x.bytes,.string x.tls,.int .i64 x.block,.slice x.nodes.ad x.nodes.l.length x.nodes.cap,.slice x.exports.ad x.exports.l.length x.exports.cap,.slice x.imports.ad x.imports.l.length x.imports.cap,.slice x.slots.ad x.slots.l.length x.slots.cap,.slice x.stubs.ad x.stubs.l.length x.stubs.cap,.slice x.dyns.ad x.dyns.l.length x.dyns.cap,.slice x.inits.ad x.inits.l.length x.inits.cap,.slice x.lasts.ad x.lasts.l.length x.lasts.cap,.int .i64 x.entry,.slice x.needs.ad x.needs.l.length x.needs.cap,.slice x.versions.ad x.versions.l.length x.versions.cap,.slice x.info.marks.ad x.info.marks.l.length x.info.marks.cap,.slice x.info.lines.ad x.info.lines.l.length x.info.lines.cap,.slice x.info.ends.ad x.info.ends.l.length x.info.ends.cap,.slice x.info.inlines.ad x.info.inlines.l.length x.info.inlines.cap,.slice x.info.vars.ad x.info.vars.l.length x.info.vars.cap,.slice x.info.depths.ad x.info.depths.l.length x.info.depths.cap,.slice x.changes.ad x.changes.l.length x.changes.cap]
def ak.ok(x:ak):Per:=b7 (dU x.name) (b7 (dU x.bytes) (b7 (dU x.tls) (b7 (ShF (bp.row) x.nodes) (b7 (b6 (fun y=>bp.ok y) x.nodes.l) (b7 (ShF (bO.row) x.exports) (b7 (b6 (fun y=>bO.ok y) x.exports.l) (b7 (ShF (bR.row) x.imports) (b7 (b6 (fun y=>bR.ok y) x.imports.l) (b7 (ShF (fun z=>[.v (.int .i64 z)]) x.slots) (b7 (ShF (fun z=>[.v (.int .i64 z)]) x.stubs) (b7 (ShF (mq.row) x.dyns) (b7 (ShF (fun z=>[.v (.int .i64 z)]) x.inits) (b7 (ShF (fun z=>[.v (.int .i64 z)]) x.lasts) (b7 (ShF (fun s=>[.v (.string s)]) x.needs) (b7 (b6 (fun y=>dU y) x.needs.l) (b7 (ShF (aH.row) x.versions) (b7 (b6 (fun y=>aH.ok y) x.versions.l) (b7 (cY.ok x.info) (b7 (ShF (dC.row) x.changes) (b6 (fun y=>dC.ok y) x.changes.l))))))))))))))))))))
theorem ak.f_name{ps:List Per}{x:ak}(h:Ent ps x.ok):Ent ps (dU x.name):=(Ent.left h)
theorem ak.f_tls{ps:List Per}{x:ak}(h:Ent ps x.ok):Ent ps (dU x.tls):=(Ent.left (Ent.right (Ent.right h)))
theorem ak.f_nodes{ps:List Per}{x:ak}(h:Ent ps x.ok):Ent ps (ShF (bp.row) x.nodes):=(Ent.left (Ent.right (Ent.right (Ent.right h))))
theorem ak.f_nodesA{ps:List Per}{x:ak}(h:Ent ps x.ok):Ent ps (b6 (fun y=>bp.ok y) x.nodes.l):=(Ent.left (Ent.right (Ent.right (Ent.right (Ent.right h)))))
theorem ak.f_exports{ps:List Per}{x:ak}(h:Ent ps x.ok):Ent ps (ShF (bO.row) x.exports):=(Ent.left (Ent.right (Ent.right (Ent.right (Ent.right (Ent.right h))))))
theorem ak.f_exportsA{ps:List Per}{x:ak}(h:Ent ps x.ok):Ent ps (b6 (fun y=>bO.ok y) x.exports.l):=(Ent.left (Ent.right (Ent.right (Ent.right (Ent.right (Ent.right (Ent.right h)))))))
theorem ak.f_imports{ps:List Per}{x:ak}(h:Ent ps x.ok):Ent ps (ShF (bR.row) x.imports):=(Ent.left (Ent.right (Ent.right (Ent.right (Ent.right (Ent.right (Ent.right (Ent.right h))))))))
theorem ak.f_importsA{ps:List Per}{x:ak}(h:Ent ps x.ok):Ent ps (b6 (fun y=>bR.ok y) x.imports.l):=(Ent.left (Ent.right (Ent.right (Ent.right (Ent.right (Ent.right (Ent.right (Ent.right (Ent.right h)))))))))
theorem ak.f_slots{ps:List Per}{x:ak}(h:Ent ps x.ok):Ent ps (ShF (fun z=>[.v (.int .i64 z)]) x.slots):=(Ent.left (Ent.right (Ent.right (Ent.right (Ent.right (Ent.right (Ent.right (Ent.right (Ent.right (Ent.right h))))))))))
theorem ak.f_stubs{ps:List Per}{x:ak}(h:Ent ps x.ok):Ent ps (ShF (fun z=>[.v (.int .i64 z)]) x.stubs):=(Ent.left (Ent.right (Ent.right (Ent.right (Ent.right (Ent.right (Ent.right (Ent.right (Ent.right (Ent.right (Ent.right h)))))))))))
theorem ak.f_dyns{ps:List Per}{x:ak}(h:Ent ps x.ok):Ent ps (ShF (mq.row) x.dyns):=(Ent.left (Ent.right (Ent.right (Ent.right (Ent.right (Ent.right (Ent.right (Ent.right (Ent.right (Ent.right (Ent.right (Ent.right h))))))))))))
theorem ak.f_inits{ps:List Per}{x:ak}(h:Ent ps x.ok):Ent ps (ShF (fun z=>[.v (.int .i64 z)]) x.inits):=(Ent.left (Ent.right (Ent.right (Ent.right (Ent.right (Ent.right (Ent.right (Ent.right (Ent.right (Ent.right (Ent.right (Ent.right (Ent.right h)))))))))))))
theorem ak.f_lasts{ps:List Per}{x:ak}(h:Ent ps x.ok):Ent ps (ShF (fun z=>[.v (.int .i64 z)]) x.lasts):=(Ent.left (Ent.right (Ent.right (Ent.right (Ent.right (Ent.right (Ent.right (Ent.right (Ent.right (Ent.right (Ent.right (Ent.right (Ent.right (Ent.right h))))))))))))))
theorem ak.f_needs{ps:List Per}{x:ak}(h:Ent ps x.ok):Ent ps (ShF (fun s=>[.v (.string s)]) x.needs):=(Ent.left (Ent.right (Ent.right (Ent.right (Ent.right (Ent.right (Ent.right (Ent.right (Ent.right (Ent.right (Ent.right (Ent.right (Ent.right (Ent.right (Ent.right h)))))))))))))))
theorem ak.f_needsA{ps:List Per}{x:ak}(h:Ent ps x.ok):Ent ps (b6 (fun y=>dU y) x.needs.l):=(Ent.left (Ent.right (Ent.right (Ent.right (Ent.right (Ent.right (Ent.right (Ent.right (Ent.right (Ent.right (Ent.right (Ent.right (Ent.right (Ent.right (Ent.right (Ent.right h))))))))))))))))
theorem ak.f_versions{ps:List Per}{x:ak}(h:Ent ps x.ok):Ent ps (ShF (aH.row) x.versions):=(Ent.left (Ent.right (Ent.right (Ent.right (Ent.right (Ent.right (Ent.right (Ent.right (Ent.right (Ent.right (Ent.right (Ent.right (Ent.right (Ent.right (Ent.right (Ent.right (Ent.right h)))))))))))))))))
theorem ak.f_versionsA{ps:List Per}{x:ak}(h:Ent ps x.ok):Ent ps (b6 (fun y=>aH.ok y) x.versions.l):=(Ent.left (Ent.right (Ent.right (Ent.right (Ent.right (Ent.right (Ent.right (Ent.right (Ent.right (Ent.right (Ent.right (Ent.right (Ent.right (Ent.right (Ent.right (Ent.right (Ent.right (Ent.right h))))))))))))))))))
theorem ak.f_info{ps:List Per}{x:ak}(h:Ent ps x.ok):Ent ps (cY.ok x.info):=(Ent.left (Ent.right (Ent.right (Ent.right (Ent.right (Ent.right (Ent.right (Ent.right (Ent.right (Ent.right (Ent.right (Ent.right (Ent.right (Ent.right (Ent.right (Ent.right (Ent.right (Ent.right (Ent.right h)))))))))))))))))))
theorem ak.f_changes{ps:List Per}{x:ak}(h:Ent ps x.ok):Ent ps (ShF (dC.row) x.changes):=(Ent.left (Ent.right (Ent.right (Ent.right (Ent.right (Ent.right (Ent.right (Ent.right (Ent.right (Ent.right (Ent.right (Ent.right (Ent.right (Ent.right (Ent.right (Ent.right (Ent.right (Ent.right (Ent.right (Ent.right h))))))))))))))))))))
theorem ak.f_changesA{ps:List Per}{x:ak}(h:Ent ps x.ok):Ent ps (b6 (fun y=>dC.ok y) x.changes.l):=(Ent.right (Ent.right (Ent.right (Ent.right (Ent.right (Ent.right (Ent.right (Ent.right (Ent.right (Ent.right (Ent.right (Ent.right (Ent.right (Ent.right (Ent.right (Ent.right (Ent.right (Ent.right (Ent.right (Ent.right h))))))))))))))))))))
structure y0 where
 do_:Int
 n:Int
 m:Int
 i:Int
 size:Int
 deriving Inhabited
end Go.Proofs.YtfkcmbonmpcbfaaGreat

namespace Go.Proofs.YtfkcmbonmpcbfaaGreat
open Go.RowKit Go.Lp Go.Sy Go.Lv
theorem yI{k:Nat} : Rq Tryz.prog (k+2) 153 fun w S R=>∀ (y:bp),(y.ok).holds w S→R y.vs :=
 rqs Tryz.underlying153 (rqc (rqt Tryz.underlying9) (rqc (rqt Tryz.underlying9) (rqc (rqi Tryz.underlying3) (rqc (rqi Tryz.underlying3) (rqc (rqi Tryz.underlying3) (rqc (rqt Tryz.underlying9) (rqc (rqt Tryz.underlying9) (rqn)))))))) fun w S R h x0 o0 x1 o1 x2 w2 x3 w3 x4 w4 x5 o5 x6 o6=>h ⟨x0,x1,x2,x3,x4,x5,x6⟩ ⟨o0,o1,o5,o6⟩
theorem yF{k:Nat} : Rq Tryz.prog (k+2) 159 fun w S R=>∀ (y:bO),(y.ok).holds w S→R y.vs :=
 rqs Tryz.underlying159 (rqc (rqt Tryz.underlying9) (rqc (rqt Tryz.underlying9) (rqc (rqb Tryz.underlying4) (rqc (rqi Tryz.underlying3) (rqc (rqi Tryz.underlying3) (rqc (rqi Tryz.underlying3) (rqn))))))) fun w S R h x0 o0 x1 o1 x2 x3 w3 x4 w4 x5 w5=>h ⟨x0,x1,x2,x3,x4,x5⟩ ⟨o0,o1⟩
theorem yG{k:Nat} : Rq Tryz.prog (k+2) 155 fun w S R=>∀ (y:bR),(y.ok).holds w S→R y.vs :=
 rqs Tryz.underlying155 (rqc (rqt Tryz.underlying9) (rqc (rqt Tryz.underlying9) (rqc (rqi Tryz.underlying3) (rqc (rqb Tryz.underlying4) (rqc (rqb Tryz.underlying4) (rqn)))))) fun w S R h x0 o0 x1 o1 x2 w2 x3 x4=>h ⟨x0,x1,x2,x3,x4⟩ ⟨o0,o1⟩
theorem acR{k:Nat} : Rq Tryz.prog (k+2) 157 fun w S R=>∀ (y:mq),(Fa True).holds w S→R y.vs :=
 rqs Tryz.underlying157 (rqc (rqi Tryz.underlying3) (rqc (rqi Tryz.underlying3) (rqc (rqi Tryz.underlying3) (rqc (rqi Tryz.underlying3) (rqn))))) fun w S R h x0 w0 x1 w1 x2 w2 x3 w3=>h ⟨x0,x1,x2,x3⟩ trivial
theorem py{k:Nat} : Rq Tryz.prog (k+3) 195 fun w S R=>∀ (y:aH),(y.ok).holds w S→R y.vs :=
 rqs Tryz.underlying195 (rqc (rqt Tryz.underlying9) (rqc (adt Tryz.underlying28 Tryz.underlying9) (rqn))) fun w S R h x0 o0 x1 o1 a1=>h ⟨x0,x1⟩ ⟨o0,o1,a1⟩
theorem abE{k:Nat} : Rq Tryz.prog (k+2) 218 fun w S R=>∀ (y:fc),(y.ok).holds w S→R y.vs :=
 rqs Tryz.underlying218 (rqc (rqt Tryz.underlying9) (rqc (rqi Tryz.underlying3) (rqc (rqi Tryz.underlying3) (rqc (rqi Tryz.underlying3) (rqn))))) fun w S R h x0 o0 x1 w1 x2 w2 x3 w3=>h ⟨x0,x1,x2,x3⟩ o0
theorem abD{k:Nat} : Rq Tryz.prog (k+2) 220 fun w S R=>∀ (y:fb),(y.ok).holds w S→R y.vs :=
 rqs Tryz.underlying220 (rqc (rqi Tryz.underlying3) (rqc (rqi Tryz.underlying3) (rqc (rqt Tryz.underlying9) (rqc (rqi Tryz.underlying3) (rqn))))) fun w S R h x0 w0 x1 w1 x2 o2 x3 w3=>h ⟨x0,x1,x2,x3⟩ o2
theorem abF{k:Nat} : Rq Tryz.prog (k+2) 222 fun w S R=>∀ (y:bj),(Fa True).holds w S→R y.vs :=
 rqs Tryz.underlying222 (rqc (rqi Tryz.underlying3) (rqc (rqi Tryz.underlying3) (rqn))) fun w S R h x0 w0 x1 w1=>h ⟨x0,x1⟩ trivial
theorem yH{k:Nat} : Rq Tryz.prog (k+2) 262 fun w S R=>∀ (y:cK),(y.ok).holds w S→R y.vs :=
 rqs Tryz.underlying262 (rqc (rqi Tryz.underlying3) (rqc (rqi Tryz.underlying3) (rqc (rqi Tryz.underlying3) (rqc (rqt Tryz.underlying9) (rqc (rqt Tryz.underlying9) (rqc (rqi Tryz.underlying3) (rqn))))))) fun w S R h x0 w0 x1 w1 x2 w2 x3 o3 x4 o4 x5 w5=>h ⟨x0,x1,x2,x3,x4,x5⟩ ⟨o3,o4⟩
theorem acS{k:Nat} : Rq Tryz.prog (k+2) 268 fun w S R=>∀ (y:fT),(y.ok).holds w S→R y.vs :=
 rqs Tryz.underlying268 (rqc (rqi Tryz.underlying3) (rqc (rqi Tryz.underlying3) (rqc (rqi Tryz.underlying3) (rqc (rqt Tryz.underlying9) (rqc (rqi Tryz.underlying3) (rqc (rqi Tryz.underlying3) (rqn))))))) fun w S R h x0 w0 x1 w1 x2 w2 x3 o3 x4 w4 x5 w5=>h ⟨x0,x1,x2,x3,x4,x5⟩ o3
theorem aaF{k:Nat} : Rq Tryz.prog (k+2) 274 fun w S R=>∀ (y:dH),(Fa True).holds w S→R y.vs :=
 rqs Tryz.underlying274 (rqc (rqi Tryz.underlying3) (rqc (rqi Tryz.underlying3) (rqc (rqi Tryz.underlying3) (rqc (rqi Tryz.underlying3) (rqn))))) fun w S R h x0 w0 x1 w1 x2 w2 x3 w3=>h ⟨x0,x1,x2,x3⟩ trivial
theorem abC{k:Nat} : Rq Tryz.prog (k+4) 37 fun w S R=>∀ (y:cY),(y.ok).holds w S→R y.vs :=
 rqs Tryz.underlying37 (rqc (rql (C:=fun _=>True) Tryz.underlying30 (fun _=>rfl) (abE.mono fun w S R h y a=>h y a trivial)) (rqc (rql (C:=fun _=>True) Tryz.underlying31 (fun _=>rfl) (abD.mono fun w S R h y a=>h y a trivial)) (rqc (rql (C:=fun _=>True) Tryz.underlying32 (fun _=>rfl) (abF.mono fun w S R h y a=>h y a trivial)) (rqc (rql (C:=fun _=>True) Tryz.underlying33 (fun _=>rfl) (yH.mono fun w S R h y a=>h y a trivial)) (rqc (rql (C:=fun _=>True) Tryz.underlying34 (fun _=>rfl) (acS.mono fun w S R h y a=>h y a trivial)) (rqc (rql (C:=fun _=>True) Tryz.underlying35 (fun _=>rfl) (aaF.mono fun w S R h y a=>h y a trivial)) (rqn))))))) fun w S R h x0 o0 a0 _ x1 o1 a1 _ x2 o2 a2 _ x3 o3 a3 _ x4 o4 a4 _ x5 o5 a5 _=>h ⟨x0,x1,x2,x3,x4,x5⟩ ⟨o0,a0,o1,a1,o2,o3,a3,o4,a4,o5⟩
theorem aaH{k:Nat} : Rq Tryz.prog (k+2) 209 fun w S R=>∀ (y:eD),(Fa True).holds w S→R y.vs :=
 rqs Tryz.underlying209 (rqc (rqi Tryz.underlying3) (rqc (rqi Tryz.underlying3) (rqc (rqi Tryz.underlying3) (rqn)))) fun w S R h x0 w0 x1 w1 x2 w2=>h ⟨x0,x1,x2⟩ trivial
theorem abB{k:Nat} : Rq Tryz.prog (k+4) 204 fun w S R=>∀ (y:dC),(y.ok).holds w S→R y.vs :=
 rqs Tryz.underlying204 (rqc (rqt Tryz.underlying9) (rqc (rqt Tryz.underlying9) (rqc (rqt Tryz.underlying9) (rqc (rql (C:=fun _=>True) Tryz.underlying202 (fun _=>rfl) (aaH.mono fun w S R h y a=>h y a trivial)) (rqc (rqi Tryz.underlying3) (rqn)))))) fun w S R h x0 o0 x1 o1 x2 o2 x3 o3 a3 _ x4 w4=>h ⟨x0,x1,x2,x3,x4⟩ ⟨o0,o1,o2,o3⟩
theorem aaG{k:Nat} : Rq Tryz.prog (k+6) 40 fun w S R=>∀ (y:ak),(y.ok).holds w S→(I64 y.code∧I64 y.data∧I64 y.zero∧I64 y.block∧I64 y.entry)→R y.vs :=
 rqs Tryz.underlying40 (rqc (rqt Tryz.underlying9) (rqc (rqb Tryz.underlying4) (rqc (rqi Tryz.underlying3) (rqc (rqi Tryz.underlying3) (rqc (rqi Tryz.underlying3) (rqc (rqt Tryz.underlying9) (rqc (rqt Tryz.underlying9) (rqc (rqi Tryz.underlying3) (rqc (rql (C:=fun _=>True) Tryz.underlying23 (fun _=>rfl) (yI.mono fun w S R h y a=>h y a trivial)) (rqc (rql (C:=fun _=>True) Tryz.underlying24 (fun _=>rfl) (yF.mono fun w S R h y a=>h y a trivial)) (rqc (rql (C:=fun _=>True) Tryz.underlying25 (fun _=>rfl) (yG.mono fun w S R h y a=>h y a trivial)) (rqc (abG Tryz.underlying26 Tryz.underlying3) (rqc (abG Tryz.underlying26 Tryz.underlying3) (rqc (rql (C:=fun _=>True) Tryz.underlying27 (fun _=>rfl) (acR.mono fun w S R h y a=>h y a trivial)) (rqc (abG Tryz.underlying26 Tryz.underlying3) (rqc (abG Tryz.underlying26 Tryz.underlying3) (rqc (rqi Tryz.underlying3) (rqc (adt Tryz.underlying28 Tryz.underlying9) (rqc (rql (C:=fun _=>True) Tryz.underlying29 (fun _=>rfl) (py.mono fun w S R h y a=>h y a trivial)) (rqc (abC) (rqc (rql (C:=fun _=>True) Tryz.underlying38 (fun _=>rfl) (abB.mono fun w S R h y a=>h y a trivial)) (rqn)))))))))))))))))))))) fun w S R h x0 o0 x1 x2 w2 x3 w3 x4 w4 x5 o5 x6 o6 x7 w7 x8 o8 a8 _ x9 o9 a9 _ x10 o10 a10 _ x11 o11 x12 o12 x13 o13 a13 _ x14 o14 x15 o15 x16 w16 x17 o17 a17 x18 o18 a18 _ x19 o19 x20 o20 a20 _=>h ⟨x0,x1,x2,x3,x4,x5,x6,x7,x8,x9,x10,x11,x12,x13,x14,x15,x16,x17,x18,x19,x20⟩ ⟨o0,o5,o6,o8,a8,o9,a9,o10,a10,o11,o12,o13,o14,o15,o17,a17,o18,a18,o19,o20,a20⟩ ⟨w2,w3,w4,w7,w16⟩
end Go.Proofs.YtfkcmbonmpcbfaaGreat

namespace Go.Sy
open Go.RowKit Go.Lp Go.MapKept
structure ef {α:Type} (P:Program) (kt:TypeId) (κ:α→Value):Prop where
 inj:∀ a b,κ a=κ b→a=b
 check:∀ (w:World) (em:Bool) (a:α),(Instr.checkKey em 10000 kt (κ a)).run P w=.ok () w
 find:∀ (w:World) (x:α) (es:List MapEntry),(∀ e∈es,∃ a,e.key=κ a) →
   ((Instr.findKey kt (κ x) es).run P w=.ok none w∧∀ e∈es,e.key≠κ x)∨∃ j e,(Instr.findKey kt (κ x) es).run P w=.ok (some (j,e.val)) w∧es[j]? = some e∧e.key=κ x
 stays:∀ (w:World) (a:α),(Instr.keyThatStays (κ a) (κ a)).run P w=.ok (κ a) w
theorem mc{α:Type}{P:Program}{kt:TypeId}{d:TypeDesc}{κ:α→Value}(hd:P.underlying kt=some d)(hk:∀ a,IsKey d (κ a))(inj:∀ a b,κ a=κ b→a=b):ef P kt κ where
 inj:=inj
 check w em a:=run_checkKey hd (hk a) em 9999
 find w x es hes:=by
   rcases findNow_spec (hk x) es 0 (fun e he=>by obtain ⟨a,ha⟩:=hes e he;rw [ha];exact hk a) with ⟨h1,h2⟩ | ⟨j,e,h1,h2,h3⟩
   · exact .inl ⟨run_findKey hd h1,h2⟩
   · exact .inr ⟨j,e,by rw [Nat.zero_add] at h1;exact run_findKey hd h1,h2,h3⟩
 stays w a:=run_keyThatStays (hk a)
theorem acz{P:Program}{kt:TypeId}(hd:P.underlying kt=some .string):ef P kt (fun s:ByteArray=>Value.string s):=mc hd (fun _=>trivial) (fun _ _ h=>by injection h)
theorem z8{P:Program}{kt:TypeId}(hd:P.underlying kt=some (.int .i64)):ef P kt (fun z:Int=>Value.int .i64 z):=mc hd (fun _=>rfl) (fun _ _ h=>by injection h)
section
variable {α β:Type}
structure k7 (κ:α→Value) (ν:β→Value) (m:α→Option β) (es:List MapEntry):Prop where
 of:∀ e∈es,∃ a v,e.key=κ a∧e.val=ν v∧m a=some v
 mem:∀ a v,m a=some v→∃ e∈es,e.key=κ a∧e.val=ν v
 apart:es.Pairwise fun e e'=>e.key≠e'.key
def cN(b:Nat)(κ:α→Value)(ν:β→Value)(m:α→Option β):Res :=
 ⟨fun w _ F=>(∃ es clock,w.heap[b]? = some (.map es clock)∧k7 κ ν m es.toList∧Stamped es clock)∧∀ k,F k↔k=b,fun ⟨⟨es,clock,h,he⟩,hF⟩ h1 _ _=>⟨⟨es,clock,(h1 b ((hF b).2 rfl)).trans h,he⟩,hF⟩⟩
def aZ[DecidableEq α](m:α→Option β)(k:α)(v:β):α→Option β:=fun a=>if a=k then some v else m a
variable {κ:α→Value} {ν:β→Value} {m:α→Option β} {P:Program} {kt:TypeId}
theorem k7.put[DecidableEq α](K:ef P kt κ){es:Array MapEntry}(h:k7 κ ν m es.toList)(k:α)(v:β){clock:Nat}(h0:∀ e∈es.toList,e.key≠κ k):k7 κ ν (aZ m k v) (es.push { key:=κ k,val:=ν v,born:=clock }).toList where
 of e he:=by
   rw [Array.toList_push,List.mem_append,List.mem_singleton] at he
   rcases he with he | rfl
   · obtain ⟨a,u,h1,h2,h3⟩:=h.of e he
     refine ⟨a,u,h1,h2,?_⟩
     have:a≠k:=fun e'=>h0 e he (by rw [h1,e'])
     simp [aZ,this,h3]
   · exact ⟨k,v,rfl,rfl,by simp [aZ]⟩
 mem a u ha:=by
   unfold aZ at ha
   split at ha
   · rename_i hak
     simp only [Option.some.injEq] at ha
     subst hak ha
     exact ⟨_,by rw [Array.toList_push];exact List.mem_append_right _ (List.mem_singleton.2 rfl),rfl,rfl⟩
   · obtain ⟨e,he,h1,h2⟩:=h.mem a u ha
     exact ⟨e,by rw [Array.toList_push];exact List.mem_append_left _ he,h1,h2⟩
 apart:=by
   rw [Array.toList_push,List.pairwise_append]
   exact ⟨h.apart,List.pairwise_singleton _ _,fun e he e' he'=>by rw [List.mem_singleton.1 he'];exact h0 e he⟩
theorem k7.turn[DecidableEq α](K:ef P kt κ){es:Array MapEntry}(h:k7 κ ν m es.toList)(k:α)(v:β){j:Nat}{e0:MapEntry}(hj:es.toList[j]? = some e0)(h0:e0.key=κ k) :
   k7 κ ν (aZ m k v) (es.modify j fun e => { e with key:=κ k,val:=ν v }).toList:=by
 have hjl:j<es.toList.length:=(List.getElem?_eq_some_iff.1 hj).1
 have hg:∀ i,(es.modify j fun e => { e with key:=κ k,val:=ν v }).toList[i]? = if i=j then some { e0 with key:=κ k,val:=ν v } else es.toList[i]? := fun i=>by
   rw [Array.getElem?_toList,Array.getElem?_modify]
   by_cases hij:i=j
   · subst hij
     rw [if_pos rfl,if_pos rfl,← Array.getElem?_toList,hj];rfl
   · rw [if_neg hij,if_neg (Ne.symm hij),Array.getElem?_toList]
 have hpw:=List.pairwise_iff_getElem.1 h.apart
 have hne:∀ i e,es.toList[i]? = some e→i≠j→e.key≠κ k:=fun i e hi hij hk=>by
   obtain ⟨hil,rfl⟩:=List.getElem?_eq_some_iff.1 hi
   obtain ⟨_,rfl⟩:=List.getElem?_eq_some_iff.1 hj
   rcases Nat.lt_or_gt_of_ne hij with hlt | hlt
   · exact hpw i j hil hjl hlt (by rw [hk,h0])
   · exact hpw j i hjl hil hlt (by rw [hk,h0])
 refine ⟨fun e he => ?_,fun a u ha => ?_,?_⟩
 · obtain ⟨i,hi⟩:=List.mem_iff_getElem?.1 he
   rw [hg] at hi
   split at hi
   · simp only [Option.some.injEq] at hi
     subst hi
     exact ⟨k,v,rfl,rfl,by simp [aZ]⟩
   · rename_i hij
     obtain ⟨a,u,h1,h2,h3⟩:=h.of e (List.mem_of_getElem? hi)
     refine ⟨a,u,h1,h2,?_⟩
     have:a≠k:=fun e'=>hne i e hi hij (by rw [h1,e'])
     simp [aZ,this,h3]
 · unfold aZ at ha
   split at ha
   · rename_i hak
     simp only [Option.some.injEq] at ha
     subst hak ha
     exact ⟨_,List.mem_of_getElem? (by rw [hg,if_pos rfl]),rfl,rfl⟩
   · rename_i hak
     obtain ⟨e,he,h1,h2⟩:=h.mem a u ha
     obtain ⟨i,hi⟩:=List.mem_iff_getElem?.1 he
     have hij:i≠j:=fun hij=>by
       rw [hij,hj] at hi
       simp only [Option.some.injEq] at hi
       subst hi
       exact hak (K.inj _ _ (by rw [← h1,h0]))
     exact ⟨e,List.mem_of_getElem? (i:=i) (by rw [hg,if_neg hij,hi]),h1,h2⟩
 · rw [List.pairwise_iff_getElem]
   intro i i' hi hi' hlt
   have l1:=List.getElem?_eq_getElem hi
   have l2:=List.getElem?_eq_getElem hi'
   rw [hg] at l1 l2
   split at l1
   · rename_i hij
     rw [if_neg (by omega)] at l2
     simp only [Option.some.injEq] at l1
     rw [← l1]
     exact fun e=>hne i' _ l2 (by omega) e.symm
   · rename_i hij
     split at l2
     · simp only [Option.some.injEq] at l2
       rw [← l2]
       exact hne i _ l1 hij
     · obtain ⟨q1,e1⟩:=List.getElem?_eq_some_iff.1 l1
       obtain ⟨q2,e2⟩:=List.getElem?_eq_some_iff.1 l2
       rw [← e1,← e2]
       exact hpw i i' q1 q2 hlt
variable {n:Fr} {env:Env} {ps:List Per} {hp:List Res} {ty:TypeId} {pos:String} {af:Array Edge} {gd:Option (Nat × Bool)} {K:Sta→Prop} {d:Option Tmp} {q:Bool}
theorem dO{t:Nat}{T:TypeId}(κ:α→Value)(ν:β→Value)(ht:fits n (some t)=true)(hK:∀ b,K ⟨(t,true,.map (some b))::env,ps,hp++[cN b κ ν fun _=>none]⟩) :
   Eff P n ⟨some t,.makeMap T none,ty,pos,af,gd⟩ ⟨env,ps,hp⟩ q K:=.push fun w S fp a hst he hn=>by
 have:(execOp a.eval ⟨some t,.makeMap T none,ty,pos,af,gd⟩).run P w=.ok (.value (.map (some w.heap.size))) (w.alloc (.map #[] 0)):=by
   show ((Instr.makeMap T none).bind fun r=>Sem.pure (Next.value r)).run P w=_
   rw [Sem.run_bind']
   have:(Instr.makeMap T none).run P w=.ok (.map (some w.heap.size)) (w.alloc (.map #[] 0)):=by
     simp [Instr.makeMap,Sem.run_bind,Result.andThen,newObj,Sem.run]
   rw [this];rfl
 rw [this]
 refine ⟨cN w.heap.size κ ν fun _=>none,fun b=>b=w.heap.size,_,hK w.heap.size,rfl,rfl,he.put (g:=true) (by rw [hn];simpa [fits] using ht) _,ec _ _,⟨⟨#[],0,gX _ _,⟨fun e he=>(by simp at he),fun a v h=>(by cases h),List.Pairwise.nil⟩,stamped_empty 0⟩,fun _=>Iff.rfl⟩,fun b hb => ?_⟩
 subst hb
 exact ⟨Nat.le_refl _,by rw [World.size_alloc];omega⟩
theorem cP[DecidableEq α]{T E:TypeId}{x y z:Operand}{b:Nat}{k:α}{v:β}(i:Nat)(hT:P.underlying T=some (.map kt E))(KO:ef P kt κ)(hx:ev env x=some (true,.map (some b)))(hy:ev env y=some (true,κ k))(hz:ev env z=some (true,ν v))(hi:hp[i]? = some (cN b κ ν m))
   (hK:K ⟨env,ps,hp.set i (cN b κ ν (aZ m k v))⟩):Eff P n ⟨none,.mapUpdate T x y z,ty,pos,af,gd⟩ ⟨env,ps,hp⟩ false K:=.change i hi fun w S fp a hst he hn ⟨⟨es,clock,hb,hes,hsm⟩,hF⟩=>by
 have h1:=he.val hx rfl
 have h2:=he.val hy rfl
 have h3:=he.val hz rfl
 have key:∃ es' clock',(Instr.mapUpdate T (.map (some b)) (κ k) (ν v)).run P w=.ok () (w.putObj b (.map es' clock'))∧k7 κ ν (aZ m k v) es'.toList∧Stamped es' clock':=by
   rcases KO.find w k es.toList (fun e he=>let ⟨a,_,h,_⟩:=hes.of e he; ⟨a,h⟩) with ⟨f1,f2⟩ | ⟨j,e0,f1,f2,f3⟩
   · refine ⟨es.push { key:=κ k,val:=ν v,born:=clock },clock+1,?_,hes.put KO k v f2,stamped_push hsm f2⟩
     simp only [Instr.mapUpdate,Sem.run_bind,run_underlying hT,Result.andThen,Go.MapKept.run_getObj_map hb,KO.check,f1,Go.MapKept.run_setObj_map _ hb]
     rfl
   · refine ⟨es.modify j fun e => { e with key:=κ k,val:=ν v },clock,?_,hes.turn KO k v f2 f3,stamped_modify hsm j _ (fun _ _=>rfl) (fun e he h=>by rw [← Array.getElem?_toList,f2] at h;obtain rfl:=Option.some.inj h;exact f3.symm)⟩
     have f2':es[j]? = some e0:=by rw [← Array.getElem?_toList];exact f2
     simp only [Instr.mapUpdate,Sem.run_bind,run_underlying hT,Result.andThen,Go.MapKept.run_getObj_map hb,KO.check,f1,f2',Option.map_some,Option.getD_some,f3,KO.stays,Go.MapKept.run_setObj_map _ hb]
     rfl
 obtain ⟨es',clock',hrun,hes'⟩:=key
 have:(execOp a.eval ⟨none,.mapUpdate T x y z,ty,pos,af,gd⟩).run P w=.ok .skip (w.putObj b (.map es' clock')):=by
   unfold execOp;dsimp only;rw [h1,h2,h3]
   show ((Instr.mapUpdate T (.map (some b)) (κ k) (ν v)).bind fun _=>Sem.pure Next.skip).run P w=_
   rw [Sem.run_bind',hrun];rfl
 rw [this]
 have hbl:=(Array.getElem?_eq_some_iff.1 hb).1
 exact ⟨cN b κ ν (aZ m k v),_,hK,rfl,rfl,he,⟨⟨es',clock',World.putObj_heap_same hbl,hes'⟩,hF⟩,rfl,rfl,⟨rfl,rfl⟩,by rw [World.putObj_size];exact Nat.le_refl _,fun b' _ hb'=>World.putObj_heap_other (fun e=>hb' ((hF b').2 e))⟩
theorem tC{T E:TypeId}{x y:Operand}{b:Nat}{k:α}{v0:β}(i:Nat)(ok:Bool)(hT:P.underlying T=some (.map kt E))(KO:ef P kt κ)(hz:(P.info? E).bind (·.zero)=some (ν v0))(hx:ev env x=some (true,.map (some b)))(hy:ev env y=some (true,κ k))(hi:hp[i]? = some (cN b κ ν m)) :
   Quiet P n ⟨d,.lookup T x y ok,ty,pos,af,gd⟩ ⟨env,ps,hp⟩ (bif ok then .tuple #[ν ((m k).getD v0),.bool (m k).isSome] else ν ((m k).getD v0)):=fun w S fp a hst he hn=>by
 have h1:=he.val hx rfl
 have h2:=he.val hy rfl
 obtain ⟨⟨es,clock,hb,hes,_⟩,hF⟩:=hst.res i _ hi
 have hzr:(zeroValue E).run P w=.ok (ν v0) w:=by
   cases hE:P.info? E with
   | none=>rw [hE] at hz;cases hz
   | some it =>
     rw [hE,Option.bind_some] at hz
     simp [zeroValue,typeInfo,hE,hz]
 have hrun:(Instr.lookup T (.map (some b)) (κ k) ok).run P w=.ok (bif ok then .tuple #[ν ((m k).getD v0),.bool (m k).isSome] else ν ((m k).getD v0)) w:=by
   rcases KO.find w k es.toList (fun e he=>let ⟨a,_,h,_⟩:=hes.of e he; ⟨a,h⟩) with ⟨f1,f2⟩ | ⟨j,e0,f1,f2,f3⟩
   · have hm:m k=none:=by
       cases hmk:m k with
       | none=>rfl
       | some u=>obtain ⟨e,he,g1,_⟩:=hes.mem k u hmk;exact (f2 e he g1).elim
     rw [hm]
     simp only [Instr.lookup,Sem.run_bind,run_underlying hT,Result.andThen,Go.MapKept.run_getObj_map hb,KO.check,f1,hzr,Sem.run_pure]
     cases ok<;>rfl
   · obtain ⟨a,u,g1,g2,g3⟩:=hes.of e0 (List.mem_of_getElem? f2)
     obtain rfl:a=k:=KO.inj _ _ (by rw [← g1,f3])
     rw [g3]
     simp only [Instr.lookup,Sem.run_bind,run_underlying hT,Result.andThen,Go.MapKept.run_getObj_map hb,KO.check,f1,Sem.run_pure,g2]
     cases ok<;>rfl
 have:(execOp a.eval ⟨d,.lookup T x y ok,ty,pos,af,gd⟩).run P w=.ok (.value (bif ok then .tuple #[ν ((m k).getD v0),.bool (m k).isSome] else ν ((m k).getD v0))) w:=by
   unfold execOp;dsimp only;rw [h1,h2]
   show ((Instr.lookup T (.map (some b)) (κ k) ok).bind fun r=>Sem.pure (Next.value r)).run P w=_
   rw [Sem.run_bind',hrun];rfl
 rw [this];exact bu _ _
theorem gJ{T E:TypeId}{x y:Operand}{b:Nat}{k:α}{v0:β}(i:Nat)(hT:P.underlying T=some (.map kt E))(KO:ef P kt κ)(hz:(P.info? E).bind (·.zero)=some (ν v0))(hx:ev env x=some (true,.map (some b)))(hy:ev env y=some (true,κ k))(hi:hp[i]? = some (cN b κ ν m)) :
   Quiet P n ⟨d,.lookup T x y false,ty,pos,af,gd⟩ ⟨env,ps,hp⟩ (ν ((m k).getD v0)):=tC i false hT KO hz hx hy hi
theorem jf{T E:TypeId}{x y:Operand}{b:Nat}{k:α}{v0:β}(i:Nat)(hT:P.underlying T=some (.map kt E))(KO:ef P kt κ)(hz:(P.info? E).bind (·.zero)=some (ν v0))(hx:ev env x=some (true,.map (some b)))(hy:ev env y=some (true,κ k))(hi:hp[i]? = some (cN b κ ν m)) :
   Quiet P n ⟨d,.lookup T x y true,ty,pos,af,gd⟩ ⟨env,ps,hp⟩ (.tuple #[ν ((m k).getD v0),.bool (m k).isSome]):=tC i true hT KO hz hx hy hi
end
open Go.ChangeMaps (setBlock)
section
variable {α β:Type} {κ:α→Value} {ν:β→Value} {m:α→Option β} {P:Program} {kt:TypeId}
def ItR(b r:Nat)(κ:α→Value)(ν:β→Value)(m:α→Option β)(N:Nat)(seen:List α):Res :=
 ⟨fun w _ F=>(b≠r∧∃ (es:Array MapEntry) (clock:Nat) (sb:Array Nat) (L:List MapEntry),w.heap[b]? = some (.map es clock)∧k7 κ ν m es.toList∧Stamped es clock∧es.size=N∧w.heap[r]? = some (.mapIter (some b) clock sb clock) ∧
     (∀ e∈L,e∈es.toList)∧L.map (·.key)=seen.map κ∧sb.toList=(L.map (·.born)).reverse∧L.Nodup)∧∀ k,F k↔k=b∨k=r,
  fun ⟨⟨hne,es,clock,sb,L,h,he,hs,hN,hr,h1,h2,h3,h4⟩,hF⟩ k1 _ _=>⟨⟨hne,es,clock,sb,L,(k1 b ((hF b).2 (.inl rfl))).trans h,he,hs,hN,(k1 r ((hF r).2 (.inr rfl))).trans hr,h1,h2,h3,h4⟩,hF⟩⟩
variable {n:Fr} {env:Env} {ps:List Per} {hp:List Res} {ty:TypeId} {pos:String} {af:Array Edge} {gd:Option (Nat × Bool)} {K:Sta→Prop} {d:Option Tmp}
theorem ri{t:Nat}{T E:TypeId}{x:Operand}{b:Nat}(i:Nat)(hT:P.underlying T=some (.map kt E))(hx:ev env x=some (true,.map (some b)))(hi:hp[i]? = some (cN b κ ν m))(ht:fits n (some t)=true)
   (hK:∀ r N,K ⟨(t,true,.pointer (some ⟨r,0,none⟩))::env,ps,hp.set i (ItR b r κ ν m N [])⟩) :
   Eff P n ⟨some t,.range T x,ty,pos,af,gd⟩ ⟨env,ps,hp⟩ false K:=fun w S fp a hst he hn=>by
 have hil:=(List.getElem?_eq_some_iff.1 hi).1
 have h1:=he.val hx rfl
 obtain ⟨⟨es,clock,hb,hes,hsm⟩,hF⟩:=hst.res i _ hi
 have hbl:=(Array.getElem?_eq_some_iff.1 hb).1
 have:(execOp a.eval ⟨some t,.range T x,ty,pos,af,gd⟩).run P w=.ok (.value (.pointer (some ⟨w.heap.size,0,none⟩))) (w.alloc (.mapIter (some b) clock #[] clock)):=by
   unfold execOp;dsimp only;rw [h1]
   show ((Instr.range T (.map (some b))).bind fun r=>Sem.pure (Next.value r)).run P w=_
   rw [Sem.run_bind',run_range_map w T kt E b es clock hT hb];rfl
 rw [this]
 have hbel:Below w.heap.size w (w.alloc (.mapIter (some b) clock #[] clock)):=ec _ _
 refine ⟨_,S,_,hK w.heap.size es.size,hst.change2 hil hbel.size (fun b' hb' _=>hbel.block b' hb') (ItR b w.heap.size κ ν m es.size []) (fun k=>k=b∨k=w.heap.size)
     ⟨⟨by omega,es,clock,#[],[],by rw [hbel.block b hbl];exact hb,hes,hsm,rfl,gX _ _,by simp,rfl,rfl,List.nodup_nil⟩,fun _=>Iff.rfl⟩ (fun b' hb' => ?_),
   he.put (g:=true) (by rw [hn];simpa [fits] using ht) _,Evo.of_below _ _ hbel,fun b' hb' => ?_,fun h=>by cases h⟩
 · rcases hb' with rfl | rfl
   · exact ⟨.inl ((hF b').2 rfl),by rw [World.size_alloc];omega⟩
   · exact ⟨.inr (Nat.le_refl _),by rw [World.size_alloc];omega⟩
 · obtain ⟨j,hj,hb'⟩:=hb'
   have hj':j<hp.length:=by simpa using hj
   by_cases hji:j=i
   · subst hji
     simp only [if_pos] at hb'
     rcases hb' with rfl | rfl
     · exact .inl ⟨j,hj',(hF b').2 rfl⟩
     · exact .inr (Nat.le_refl _)
   · simp only [if_neg hji] at hb';exact .inl ⟨j,hj',hb'⟩
theorem rk{l:List MapEntry}(h:l.Pairwise fun e e'=>e.key≠e'.key){x y:MapEntry}(hx:x∈l)(hy:y∈l)(he:x.key=y.key):x=y:=entry_eq_of_key h hx hy he
theorem jB{γ:Type} : ∀ {l m:List γ},l.Nodup→(∀ x∈l,x∈m)→l.length≤m.length
 | [],_,_,_=>Nat.zero_le _
 | a::l,m,h,hs=>by
   classical
   have ha:=hs a List.mem_cons_self
   rw [List.nodup_cons] at h
   have h2:∀ x∈l,x∈m.erase a:=fun x hx=>(List.mem_erase_of_ne (fun (e:x=a)=>h.1 (by rw [← e];exact hx))).2 (hs x (List.mem_cons_of_mem _ hx))
   have:=jB h.2 h2
   rw [List.length_erase_of_mem ha] at this
   have hp:=List.length_pos_of_mem ha
   simp only [List.length_cons];omega
theorem u9{t:Nat}{x:Operand}{b r N:Nat}{seen:List α}(i:Nat)(KO:ef P kt κ)(hx:ev env x=some (true,.pointer (some ⟨r,0,none⟩)))(hi:hp[i]? = some (ItR b r κ ν m N seen))(ht:fits n (some t)=true)
   (h0:(∀ a v,m a=some v→a∈seen)→K ⟨(t,true,.tuple #[.bool false])::env,ps,hp⟩)
   (h1:∀ a v,m a=some v→a ∉ seen→seen.length<N→K ⟨(t,true,.tuple #[.bool true,κ a,ν v])::env,ps,hp.set i (ItR b r κ ν m N (a::seen))⟩) :
   Eff P n ⟨some t,.next x false,ty,pos,af,gd⟩ ⟨env,ps,hp⟩ false K:=fun w S fp a hst he hn=>by
 have hil:=(List.getElem?_eq_some_iff.1 hi).1
 have hxv:=he.val hx rfl
 obtain ⟨⟨hne,es,clock,sb,L,hb,hes,hsm,hN,hr,hL,hk,hsb,hnd⟩,hF⟩:=hst.res i _ hi
 have hst2:=(stamped_iff es clock).1 hsm
 have hbl:=(Array.getElem?_eq_some_iff.1 hb).1
 have hrl:=(Array.getElem?_eq_some_iff.1 hr).1
 have hsee:∀ e∈es.toList,sb.contains e.born=true↔e∈L:=fun e hee=>by
   rw [Array.contains_iff_mem,← Array.mem_toList_iff,hsb,List.mem_reverse,List.mem_map]
   constructor
   · rintro ⟨e',h1,h2⟩
     rw [← born_inj hst2.2.1 (hL e' h1) hee h2];exact h1
   · exact fun h=>⟨e,h,rfl⟩
 have hex:(execOp a.eval ⟨some t,.next x false,ty,pos,af,gd⟩)=(Instr.next (.pointer (some ⟨r,0,none⟩)) false ty).bind fun r=>Sem.pure (Next.value r):=by
   unfold execOp;dsimp only;rw [hxv];rfl
 rw [hex,Sem.run_bind']
 rcases run_next_at (P:=P) w ty r b clock clock sb es clock hr hb hst2.1 (Nat.le_refl _) with ⟨hz,hrun⟩ | ⟨e,hee,w1,hal,hrun⟩
 · rw [hrun]
   refine ⟨_,S,fp,h0 (fun k v hkv => ?_),hst,he.put (g:=true) (by rw [hn];simpa [fits] using ht) _,Evo.refl _ _ _,fun _ h=>.inl h,fun h=>by cases h⟩
   obtain ⟨e,hem,e1,_⟩:=hes.mem k v hkv
   have hin:=(hsee e hem).1 (all_seen es sb hz e hem)
   have:κ k∈seen.map κ:=by rw [← hk,← e1];exact List.mem_map_of_mem hin
   obtain ⟨k',h1,h2⟩:=List.mem_map.1 this
   rw [← KO.inj _ _ h2];exact h1
 · rw [hrun]
   obtain ⟨hem,hns⟩:=mem_left hee
   obtain ⟨k,v,e1,e2,e3⟩:=hes.of e hem
   have hnL:e ∉ L:=fun h=>by rw [(hsee e hem).2 h] at hns;cases hns
   have hks:k ∉ seen:=fun h=>by
     have:κ k∈L.map (·.key):=by rw [hk];exact List.mem_map_of_mem h
     obtain ⟨e',h1,h2⟩:=List.mem_map.1 this
     exact hnL (by rw [← rk hes.apart (hL e' h1) hem (h2.trans e1.symm)];exact h1)
   have hlen:(e::L).length≤es.toList.length:=jB (List.nodup_cons.2 ⟨hnL,hnd⟩) fun x hx=>by
     rcases List.mem_cons.1 hx with rfl | hx
     · exact hem
     · exact hL x hx
   have hsl:L.length=seen.length:=by simpa using congrArg List.length hk
   have hr1:w1.heap=w.heap:=by rcases hal with rfl | rfl<;>rfl
   have hw:w1.os=w.os∧w1.tape=w.tape∧w1.output=w.output:=by rcases hal with rfl | rfl<;>exact ⟨rfl,rfl,rfl⟩
   have hset:=heap_set (o':=.mapIter (some b) clock (sb.push e.born) clock) (w:=w1) (hr1 ▸ hr)
   have hsz:(setBlock w1 r (.mapIter (some b) clock (sb.push e.born) clock)).heap.size=w.heap.size:=by simp [setBlock,hr1]
   have hold:∀ b',b'≠r→(setBlock w1 r (.mapIter (some b) clock (sb.push e.born) clock)).heap[b']? = w.heap[b']? := fun b' hb'=>(hset.2 b' hb').trans (by rw [hr1])
   show ∃ _,_
   rw [e1,e2]
   refine ⟨_,S,fp,h1 k v e3 hks (by simp at hlen;omega),?_,he.put (g:=true) (by rw [hn];simpa [fits] using ht) _,⟨hw.1,hw.2.1,hw.2.2,Nat.le_of_eq hsz.symm,lM _ _ _ _ hrun,fun b' _ hb'=>hold b' fun hh=>hb' ⟨i,hil,by rw [hh];exact (hF r).2 (.inr rfl)⟩,fun _ h=>h,fun _ h=>.inl h⟩,fun b' hb' => ?_,fun h=>by cases h⟩
   · refine hst.change hil (Nat.le_of_eq hsz.symm) (fun b' _ hb'=>hold b' fun hh=>hb' (by rw [hh];exact (hF r).2 (.inr rfl))) _ ⟨⟨hne,es,clock,sb.push e.born,e::L,by rw [hold b hne];exact hb,hes,hsm,hN,hset.1,fun x hx => ?_,by simp [hk,e1],by simp [hsb],List.nodup_cons.2 ⟨hnL,hnd⟩⟩,hF⟩
     rcases List.mem_cons.1 hx with rfl | hx
     · exact hem
     · exact hL x hx
   · obtain ⟨j,hj,hb'⟩:=hb'
     exact .inl ⟨j,by simpa using hj,hb'⟩
theorem rF{x:Operand}{b r N:Nat}{seen:List α}{k:α}{v:β}(i:Nat)(KO:ef P kt κ)(hx:ev env x=some (true,.pointer (some ⟨r,0,none⟩)))(hi:hp[i]? = some (ItR b r κ ν m N (k::seen)))(hv:m k=some v) :
   Quiet P n ⟨d,.entry x,ty,pos,af,gd⟩ ⟨env,ps,hp⟩ (.tuple #[κ k,ν v]):=fun w S fp a hst he hn=>by
 have hxv:=he.val hx rfl
 obtain ⟨⟨hne,es,clock,sb,L,hb,hes,hsm,hN,hr,hL,hk,hsb,hnd⟩,hF⟩:=hst.res i _ hi
 have hst2:=(stamped_iff es clock).1 hsm
 cases L with
 | nil=>simp at hk
 | cons e L =>
   simp only [List.map_cons,List.cons.injEq] at hk
   have hem:=hL e List.mem_cons_self
   obtain ⟨k',v',e1,e2,e3⟩:=hes.of e hem
   obtain rfl:k'=k:=KO.inj _ _ (e1.symm.trans hk.1)
   obtain rfl:v'=v:=by rw [hv] at e3;exact (Option.some.inj e3).symm
   have hsb':sb=((L.map (·.born)).reverse.toArray).push e.born:=by
     apply Array.ext'
     rw [hsb];simp
   subst hsb'
   have hrun:=run_entry_at (P:=P) w r b clock _ es clock e hr hb hem hst2.2.1
   have hex:(execOp a.eval ⟨d,.entry x,ty,pos,af,gd⟩)=(Instr.entry (.pointer (some ⟨r,0,none⟩))).bind fun r=>Sem.pure (Next.value r):=by
     unfold execOp;dsimp only;rw [hxv];rfl
   rw [hex,Sem.run_bind',hrun,e1,e2];exact bu _ _
theorem acx{b r N:Nat}{seen:List α}{w:World}{S F:aT}(h:(ItR b r κ ν m N seen).holds w S F):(dM (cN b κ ν m) ⟨fun _ _ F=>∀ k,F k↔k=r,fun h _ _ _=>h⟩).holds w S F:=by
 obtain ⟨⟨hne,es,clock,sb,L,hb,hes,hsm,_⟩,hF⟩:=h
 exact ⟨fun k=>k=b,fun k=>k=r,⟨⟨es,clock,hb,hes,hsm⟩,fun _=>Iff.rfl⟩,fun _=>Iff.rfl,fun k h1 h2=>hne (h1.symm.trans h2),hF⟩
variable {c:Code} {Q:Exit→Sta→Prop}
end
end Go.Sy

namespace Go.Sy
open Go.RowKit Go.Lp
section
variable {α β:Type}
def cV[DecidableEq α](m:α→Option β)(k:α):α→Option β:=fun a=>if a=k then none else m a
variable {T:TypeId} {sz:Nat} {row:β→List D} {m:α→Option (Sl β)} {w:World} {S F:aT}
variable {P:Program} {n:Fr} {env:Env} {ps:List Per} {hp:List Res} {c:Code} {Q:Exit→Sta→Prop}
end
end Go.Sy

namespace Go.Sy
open Go.RowKit
section
variable {P:Program} {n:Fr} {s:Sta} {d:Option Tmp} {ty:TypeId} {pos:String} {af:Array Edge} {gd:Option (Nat × Bool)} {x y:Operand} {t t':TypeId}
theorem acI{b1 b2:Bool}(hT:P.underlying t=some .bool)(hx:ev s.env x=some (true,.bool b1))(hy:ev s.env y=some (true,.bool b2)):Quiet P n ⟨d,.binOp .neq t x y t',ty,pos,af,gd⟩ s (.bool (!(b1 == b2))) :=
 .run2 hx hy fun ρ w h1 h2=>by
   unfold execOp;dsimp only;rw [h1,h2]
   simp only [eqGuard_at_bool,binOp,Sem.run_bind,Sem.run_pure,run_equal_bool w t b1 b2 hT,Result.andThen_ok]
theorem ads{k yk:IntKind}{a b:Int}(hx:ev s.env x=some (true,.int k a))(hy:ev s.env y=some (true,.int yk b))(hb:0≤b):Quiet P n ⟨d,.binOp .shr t x y t',ty,pos,af,gd⟩ s (.int k (a.fdiv (2 ^ min b.toNat k.bits))) :=
 .run2 hx hy fun ρ w h1 h2=>by
   have e:Op.shift .shr k a yk b=pure (.int k (a.fdiv (2 ^ min b.toNat k.bits))):=by unfold Op.shift;rw [if_neg (by omega)]
   unfold execOp;dsimp only;rw [h1,h2]
   have e2:(do eqGuard BinOp.shr t x y (Value.int k a) (Value.int yk b);binOp BinOp.shr t (Value.int k a) (Value.int yk b))=Op.shift .shr k a yk b:=by cases k<;>cases yk<;>rfl
   rw [e2,e];rfl
end
end Go.Sy

namespace Go.Sy
open Go.RowKit Go.Lp Go.MapKept
section
variable {α β:Type} {κ:α→Value} {ν:β→Value} {m:α→Option β} {P:Program} {kt:TypeId}
theorem k7.erase[DecidableEq α](K:ef P kt κ){es:Array MapEntry}(h:k7 κ ν m es.toList)(k:α){j:Nat}{e0:MapEntry}(hj:es.toList[j]? = some e0)(h0:e0.key=κ k):k7 κ ν (cV m k) (es.eraseIdxIfInBounds j).toList:=by
 have hjl:j<es.toList.length:=(List.getElem?_eq_some_iff.1 hj).1
 have hl:(es.eraseIdxIfInBounds j).toList=es.toList.eraseIdx j:=by
   unfold Array.eraseIdxIfInBounds
   rw [dif_pos (by simpa using hjl),Array.toList_eraseIdx]
 rw [hl]
 have hsub:=List.eraseIdx_sublist es.toList j
 have hpw:=List.pairwise_iff_getElem.1 h.apart
 refine ⟨fun e he => ?_,fun a v ha => ?_,h.apart.sublist hsub⟩
 · obtain ⟨a,v,e1,e2,e3⟩:=h.of e (hsub.subset he)
   refine ⟨a,v,e1,e2,?_⟩
   have hne:a≠k:=fun hak=>by
     obtain ⟨i,hi,hij⟩:=List.mem_eraseIdx_iff_getElem.1 he
     have hx:es.toList[i].key=es.toList[j].key:=by rw [hij.2,e1,hak,← h0];rw [List.getElem?_eq_getElem hjl] at hj;rw [Option.some.inj hj]
     rcases Nat.lt_or_gt_of_ne hij.1 with hlt | hlt
     · exact hpw i j hi hjl hlt hx
     · exact hpw j i hjl hi hlt hx.symm
   simp [cV,hne,e3]
 · unfold cV at ha
   split at ha
   · cases ha
   · rename_i hak
     obtain ⟨e,he,e1,e2⟩:=h.mem a v ha
     refine ⟨e,?_,e1,e2⟩
     obtain ⟨i,hi,hie⟩:=List.getElem_of_mem he
     refine List.mem_eraseIdx_iff_getElem.2 ⟨i,hi,fun hij=>hak ?_,hie⟩
     subst hij
     rw [List.getElem?_eq_getElem hi] at hj
     exact K.inj _ _ (by rw [← e1,← hie,Option.some.inj hj,h0])
theorem yh[DecidableEq α]{k:α}(h:m k=none):cV m k=m:=by
 funext a
 unfold cV
 split
 · rename_i e;rw [e,h]
 · rfl
variable {n:Fr} {env:Env} {ps:List Per} {hp:List Res} {ty:TypeId} {pos:String} {af:Array Edge} {gd:Option (Nat × Bool)} {K:Sta→Prop} {d:Option Tmp}
theorem nV[DecidableEq α]{T E kt':TypeId}{x y:Operand}{b:Nat}{k:α}(i:Nat)(hT:P.underlying T=some (.map kt E))(KO:ef P kt κ)(hx:ev env x=some (true,.map (some b)))(hy:ev env y=some (true,κ k))(hi:hp[i]? = some (cN b κ ν m))
   (hK:K ⟨env,ps,hp.set i (cN b κ ν (cV m k))⟩):Eff P n ⟨none,.call ⟨.builtin .delete,#[x,y],#[T,kt']⟩,ty,pos,af,gd⟩ ⟨env,ps,hp⟩ false K:=.change i hi fun w S fp a hst he hn ⟨⟨es,clock,hb,hes,hsm⟩,hF⟩=>by
 have h1:=he.val hx rfl
 have h2:=he.val hy rfl
 have key:∃ es',(Builtin.delete_ #[T,kt'] ty #[.map (some b),κ k]).run P w=.ok (.tuple #[]) (w.putObj b (.map es' clock))∧k7 κ ν (cV m k) es'.toList∧Stamped es' clock:=by
   rcases KO.find w k es.toList (fun e he=>let ⟨a,_,h,_⟩:=hes.of e he; ⟨a,h⟩) with ⟨f1,f2⟩ | ⟨j,e0,f1,f2,f3⟩
   · refine ⟨es,?_,?_,hsm⟩
     · simp [Builtin.delete_,run_underlying hT,Go.MapKept.run_getObj_map hb,KO.check,f1,Go.MapKept.run_setObj_map _ hb,Result.andThen];rfl
     · rw [yh];exact hes
       cases hmk:m k with
       | none=>rfl
       | some u=>obtain ⟨e,he,g1,_⟩:=hes.mem k u hmk;exact (f2 e he g1).elim
   · refine ⟨es.eraseIdxIfInBounds j,?_,hes.erase KO k f2 f3,stamped_erase hsm j⟩
     simp [Builtin.delete_,run_underlying hT,Go.MapKept.run_getObj_map hb,KO.check,f1,Go.MapKept.run_setObj_map _ hb,Result.andThen];rfl
 obtain ⟨es',hrun,hes'⟩:=key
 have:(execOp a.eval ⟨none,.call ⟨.builtin .delete,#[x,y],#[T,kt']⟩,ty,pos,af,gd⟩).run P w=.ok (.value (.tuple #[])) (w.putObj b (.map es' clock)):=by
   have hexec:execOp a.eval ⟨none,.call ⟨.builtin .delete,#[x,y],#[T,kt']⟩,ty,pos,af,gd⟩=(Builtin.delete_ #[T,kt'] ty (#[x,y].map a.eval)).bind fun r=>Sem.pure (Next.value r):=rfl
   rw [hexec,show #[x,y].map a.eval = #[a.eval x,a.eval y] by simp,h1,h2,Sem.run_bind',hrun];rfl
 rw [this]
 have hbl:=(Array.getElem?_eq_some_iff.1 hb).1
 exact ⟨cN b κ ν (cV m k),_,hK,rfl,rfl,he,⟨⟨es',clock,World.putObj_heap_same hbl,hes'⟩,hF⟩,rfl,rfl,⟨rfl,rfl⟩,by rw [World.putObj_size];exact Nat.le_refl _,fun b' _ hb'=>World.putObj_heap_other (fun e=>hb' ((hF b').2 e))⟩
end
section
variable {P:Program}
def cj(k:Int × Int):Value:=.agg #[.int .i64 k.1,.int .i64 k.2]
theorem qd(a b:Int × Int)(h:cj a=cj b):a=b:=by
 unfold cj at h
 injection h with h
 simp at h
 exact Prod.ext h.1 h.2
theorem p7(d:Nat)(t:TypeId)(a b:Int)(w:World)(h:P.underlying t=some (.int .i64)):(Op.equalIn (d+1) t (.int .i64 a) (.int .i64 b)).run P w=.ok (decide (a=b)) w:=by
 have:(a == b)=decide (a=b):=by rw [Bool.eq_iff_iff,beq_iff_eq,decide_eq_true_eq]
 simp [Op.equalIn,run_underlying h,this]
theorem aay{e:TypeId}(he:P.underlying e=some (.int .i64)){xs:Array Value}{off:Nat}{v:Value}(hx:xs[off]? = some v)(w:World):(part e xs off).run P w=.ok v w :=
 run_part_plain w (by unfold Program.plainKey;rw [he]) hx
theorem vj{kt:TypeId}(hwide:(match P.underlying kt with | some (.array _ _) | some (.struct _)=>true | _=>false)=true)(heq:∀ (w:World) (a b:Int × Int),(Op.equal kt (cj a) (cj b)).run P w=.ok (decide (a=b)) w)(w:World)(x:Int × Int)(es:List MapEntry)(hes:∀ e∈es,∃ a,e.key=cj a) :
   ((Instr.findKey kt (cj x) es).run P w=.ok none w∧∀ e∈es,e.key≠cj x)∨∃ j e,(Instr.findKey kt (cj x) es).run P w=.ok (some (j,e.val)) w∧es[j]? = some e∧e.key=cj x:=by
 have key:∀ (es:List MapEntry) (i:Nat),(∀ e∈es,∃ a,e.key=cj a) →
     ((Instr.findAsking kt (cj x) es i).run P w=.ok none w∧∀ e∈es,e.key≠cj x)∨∃ j e,(Instr.findAsking kt (cj x) es i).run P w=.ok (some (i+j,e.val)) w∧es[j]? = some e∧e.key=cj x:=by
   intro es
   induction es with
   | nil=>intro i _;exact .inl ⟨by simp [Instr.findAsking],fun e he=>by cases he⟩
   | cons e es ih =>
     intro i hall
     obtain ⟨a,ha⟩:=hall e List.mem_cons_self
     have hr:=heq w x a
     by_cases hxa:x=a
     · refine .inr ⟨0,e,?_,rfl,by rw [ha,hxa]⟩
       rw [decide_eq_true hxa] at hr
       simp [Instr.findAsking,ha,hr]
     · rw [decide_eq_false hxa] at hr
       rcases ih (i+1) (fun y hy=>hall y (List.mem_cons_of_mem _ hy)) with ⟨h1,h2⟩ | ⟨j,e',h1,h2,h3⟩
       · refine .inl ⟨by simp [Instr.findAsking,ha,hr,h1],fun y hy => ?_⟩
         rcases List.mem_cons.1 hy with rfl | hy
         · rw [ha];exact fun hh=>hxa (qd _ _ hh).symm
         · exact h2 y hy
       · exact .inr ⟨j+1,e',by simp [Instr.findAsking,ha,hr,h1,Nat.add_assoc,Nat.add_comm 1 j],by simpa using h2,h3⟩
 rw [run_findKey_eq w hwide]
 rcases key es 0 hes with h | ⟨j,e,h1,h2,h3⟩
 · exact .inl h
 · exact .inr ⟨j,e,by simpa using h1,h2,h3⟩
theorem tf(w:World)(a:Int × Int):(Instr.keyThatStays (cj a) (cj a)).run P w=.ok (cj a) w:=by
 have:Instr.sameBits 10000 (cj a) (cj a)=true:=by simp [cj,Instr.sameBits]
 simp [Instr.keyThatStays,this]
theorem abc(em:Bool)(m:Nat){e:TypeId}(he:P.underlying e=some (.int .i64))(v:Int)(w:World):(Instr.checkKey em (m+1) e (.int .i64 v)).run P w=.ok () w:=by simp [Instr.checkKey,run_underlying he]
theorem aab{kt e:TypeId}(hu:P.underlying kt=some (.array 2 e))(hi0:(P.info? e).isSome=true)(hc:P.cellsOf e=1)(he:P.underlying e=some (.int .i64)):ef P kt cj:=by
 obtain ⟨i,hi⟩:=Option.isSome_iff_exists.1 hi0
 have h1:∀ (w:World) (x y:Int),(part e #[Value.int .i64 x,Value.int .i64 y] 0).run P w=.ok (.int .i64 x) w:=fun w x y=>aay he rfl w
 have h2:∀ (w:World) (x y:Int),(part e #[Value.int .i64 x,Value.int .i64 y] 1).run P w=.ok (.int .i64 y) w:=fun w x y=>aay he rfl w
 refine ⟨qd,fun w em a => ?_,vj (by rw [hu]) fun w a b => ?_,tf⟩
 · show (Instr.checkKey em (9998+1+1) kt (cj a)).run P w=_
   unfold cj Instr.checkKey
   simp only [Sem.run_bind,run_underlying hu,Result.andThen_ok]
   simp only [Std.Legacy.Range.forIn_eq_forIn_range',Std.Legacy.Range.size]
   simp [List.range',run_sizeOf w hi,hc,h1,h2,abc em 9998 he]
 · show (Op.equalIn (9998+1+1) kt (cj a) (cj b)).run P w=_
   unfold cj
   rw [run_equalIn_array w (9998+1) _ _ hu hi,hc]
   simp only [List.range_succ,List.range_zero,List.nil_append,List.cons_append,Op.eqItems,Sem.run_bind,Nat.zero_mul,Nat.one_mul,h1,h2,Result.andThen_ok,p7 9998 e _ _ w he]
   by_cases e1:a.1=b.1<;>by_cases e2:a.2=b.2<;>simp [e1,e2,h2,p7 9998 e _ _ w he,Prod.ext_iff]
end
end Go.Sy

